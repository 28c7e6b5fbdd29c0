import Derived.Test.YtonmnllkifmclaaGreatXWE
set_option linter.unusedVariables false
set_option linter.unusedSimpArgs false
set_option linter.unusedSectionVars false
set_option linter.unnecessarySimpa false
noncomputable section
namespace Go.Gv
theorem bJ2{x y z:Int}:∀(a:Nat) (l:List Int),a+3<=l.length->dA l a [x,y,z]=((l.set a x).set (a+1) y).set (a+2) z
 |0,l,h=>by
  match l,h with
  |_::_::_::t,_=>simp[dA]
 |a + 1,l,h=>by
  match l,h with
  |u::t,h=>
   have ih:=bJ2 (x:=x) (y:=y) (z:=z) a t (by grind);grind[dA]
def bDJ(p k:Nat)(c:Int):Nat:=(iU ((p:Int)*4+k) c).toNat
def gB(b:List Int)(p:Nat)(c:Int):Nat->List Int
 |0=>((b.set (p*64) 171).set (p*64+1) c).set (p*64+2) (cK c)
 |k+1=>st4 (gB b p c k) (bDJ p k c) 1
theorem OA(b:List Int)(p:Nat)(c:Int):∀k,(gB b p c k).length=b.length
 |0=>by simp[gB]
 |k+1=>by rw[gB,JV,OA b p c k]
theorem aRX{l:List Int}(i:Nat){v:Int}(hl:uH l)(hv:0<=v/\v<=255):uH (l.set i v):=λx hx=>by
 rcases rX hx with h|rfl
 ·exact hl x h
 ·exact hv
theorem aYC{b:List Int}(hb:uH b)(p:Nat){c:Int}(hc:0<=c/\c<=2):∀k,uH (gB b p c k)
 |0=>by have:=oA c;exact aRX _ (aRX _ (aRX _ hb (by omega)) (by omega)) (by omega)
 |k+1=>a0T (aYC hb p hc k) _ (by omega)
def gS(p:Nat)(n:Nat):List Int:=(List.range n).map λ(i:Nat)=>(p:Int)*4+(i:Int)
theorem aKL(p n:Nat):(gS p n).length=n:=by simp[gS]
theorem a6U(p n:Nat):gS p (n+1)=gS p n++[(p:Int)*4+(n:Int)]:=by simp[gS,List.range_succ]
theorem aYD{p k:Nat}{c:Int}(hp:p<6)(hk:(k:Int)<cK c):iU ((p:Int)*4+k) c=(bDJ p k c:Int)/\bDJ p k c+4<=384:=by
 have h4:=oA c;have hm:=YL (c:=c) (i:=(k:Int)) (by omega) hk;have hst:4<=aW c:=by have:0<=c/\c<=2:=i7.1 (by omega);rcases lQ this with e|e|e<;>rw[e]<;>decide
 have e:iU ((p:Int)*4+k) c=(p:Int)*64+8+(k:Int)*aW c:=by unfold iU;grind
 grind[bDJ]
theorem aVM{p k:Nat}(hp:p<6)(hk:k<4):uT (p:Int) (k:Int)=some ((p:Int)*4+k)/\TJ (p:Int) (k:Int)=some ((p:Int)*4+k):=by grind[cA,uT,AB,cN,TJ,HY,dD]
section
variable {b:List Int} (hb:b.length=384) {p:Nat} (hp:p<6) {c:Int} (hc:0<=c/\c<=2)
include hb hp hc
theorem aRY:loop (FE c (p:Int)) ([],0,gB b p c 0)=some (gS p (cK c).toNat,gB b p c (cK c).toNat):=by
 have h4:=oA c;refine dW (cK c).toNat (λk=>(gS p k,(k:Int),gB b p c k)) _ (λk hk=>?_) ?_
 ·have ho:=aYD (c:=c) hp (k:=k) (by omega);simp only[FE,ZZ,jN,aE];rw[cY,(aVM hp (by omega)).1];simp only[aE,yC,ho.1];rw[N9 (by grind[OA]) (by grind[OA]) (by omega)];simp only[aE];rw[b9 (by grind[aKL]),dM,a6U];rfl
 ·simp only[FE,jN,aE];grind
theorem a3X:loop (LQ c (p:Int) (cK c)) ([],0,gB b p c 0)=some (gS p (cK c).toNat,gB b p c (cK c).toNat):=by
 have h4:=oA c;refine dW (cK c).toNat (λk=>(gS p k,(k:Int),gB b p c k)) _ (λk hk=>?_) ?_
 ·have ho:=aYD (c:=c) hp (k:=k) (by omega);simp only[LQ,UO];rw[cY,(aVM hp (by omega)).2];simp only[aE,EA,ho.1];rw[aFH (by omega),aE,aCQ (by grind[OA]) (by grind[OA]) (by omega)];simp only[aE];rw[b9 (by grind[aKL]),dM,a6U];rfl
 ·simp only[LQ];grind
end
theorem bDK{h:Heap}(hh:HOk h){c:Int}(hc:0<=c/\c<=2) :
  (vW h c=some (h,[])/\KT h c=some (h,[])) \/
  ∃p,p<6/\cD h p<0/\vW h c=some (⟨gB h.Bytes p c (cK c).toNat,h.Class.set p c⟩,gS p (cK c).toNat)/\KT h c=some (⟨gB h.Bytes p c (cK c).toNat,h.Class.set p c⟩,gS p (cK c).toNat):=by
 have hs:=hh.1;have h6:=hs.2.1;have h384:=hs.1;have hp4:=oA c;have hcp:=YQ (h:=h) (by omega) (by omega);have hne:∀j (hj:j<6),j<h.Class.findIdx (λx=>decide (x = -1))->h.Class[j]≠-1:=λj hj hlt=>by grind
 generalize hq:h.Class.findIdx (λx=>decide (x = -1))=q at hne;have hq6:q<=6:=by grind
 have s1:∀k (hk:k<q),fW h c (k:Int)=some (.next ((k+1:Nat):Int)):=λk hk=>by
  have:=hne k (by omega) hk;have n:(h.Class[k] != -1)=true:=by grind
  simp only[fW,N3];rw[cY,RY,aE,n,aL rfl,dM];rfl
 have s2:∀k (hk:k<q),fL h.Class (-1) (k:Int)=some (.next ((k+1:Nat):Int)):=λk hk=>by
  have:=hne k (by omega) hk;have n:((-1:Int) == h.Class[k])=false:=by grind
  simp only[fL];rw[cY,RY,aE,n,dM];rfl
 have hm:h.Bytes.length<=maxLen:=by grind[maxLen]
 by_cases h5:q=6
 ·left;have a1:loop (fW h c) 0=some (Out.brk ()):=dW q (λk=>(k:Int)) _ s1 (by simp_all[fW]);have a2:loop (fL h.Class (-1)) 0=some (Out.brk ()):=dW q (λk=>(k:Int)) _ s2 (by simp_all[fL]);constructor
  ·unfold vW;rw[a1];rfl
  ·unfold KT oN;rw[a2,hcp,R3 hm,lA,bY hh,bY hc];rfl
 ·right;have hq5:q<6:=by omega
  have he:h.Class[q] = -1:=by grind
  refine⟨q,hq5,by grind[aDN],?_,?_⟩
  ·have a1:loop (fW h c) 0=some (Out.ret (⟨gB h.Bytes q c (cK c).toNat,h.Class.set q c⟩,gS q (cK c).toNat)):=dW q (λk=>(k:Int)) _ s1 (by
    have e0:aY ((q:Int)*64)=((q*64:Nat):Int):=by grind[cA]
    have e1:aY (((q*64:Nat):Int)+1)=((q*64+1:Nat):Int):=by grind[cA]
    have e2:aY (((q*64:Nat):Int)+2)=((q*64+2:Nat):Int):=by grind[cA]
    have n:(h.Class[q] != -1)=false:=by grind
    simp only[fW,e0,e1,e2,NM];rw[cY,RY,aE,n,eD,RY,aE,aT (by simp;omega),aE,jN,aE,aT (by simp;omega),aE];have:=aRY h384 hq5 hc;simp only[gB] at this;rw[this];rfl)
   unfold vW;rw[a1];rfl
  ·have a2:loop (fL h.Class (-1)) 0=some (Out.ret (q:Int)):=dW q (λk=>(k:Int)) _ s2 (by
    have n:((-1:Int) == h.Class[q])=true:=by rw[he];rfl
    simp only[fL];rw[cY,RY,aE,n];rfl)
   unfold KT oN;rw[a2,hcp,R3 hm,lA,bY hh,bY hc];have e0:aY ((q:Int)*64)=((q*64:Nat):Int):=by grind[cA]
   simp only[aE,CP,iN,bN,bL,DE,e0,FH,UP,NM];rw[eF (by omega),eD,RY,aE,J5,bJ2 _ _ (by omega)];have:=a3X h384 hq5 hc;simp only[gB] at this;rw[this];rfl
theorem LOk.count{l:aC}(h:LOk l):(eG l).length<=24:=a3V 24 _ h.2.2.2.2 (λx hx=>by have:=h.2.2.2.1 x hx;omega)
theorem a82{m:Mem}(hs:fP m.Heap){s:Int}(hc:0<=bI m.Heap s):∃h,D2 m s=some h/\LR m s=some h:=by
 unfold D2 LR UZ UQ BX A9;rw[rV hs hc,MF hs hc,aE,aE,cN,cN,A0,dD];have h1:=(sM hc).1;simp only[bY h1,aE,iN,bN,bL];by_cases q:1<=j5 m.Heap s/\j5 m.Heap s<=6
 ·simp only[bY q,iN,bN,bL];exact⟨_,rfl,rfl⟩
 ·simp only[eF q,KO,bR];exact⟨_,rfl,rfl⟩
theorem aGN{l:List bJ}{k:Nat}(hk:k<l.length)(t:List Int):(fS (l.set k ⟨l[k].aV++t⟩)).length=(fS l).length+t.length:=by grind[LC,GW]
def bt(b:List Int)(i:Nat):Int:=b.getD i 0
theorem aRZ{b:List Int}{i:Nat}(h:i<b.length):b[i]=bt b i:=by grind[bt]
theorem ld4{b:List Int}{a:Nat}(h:a+4<=b.length):ld b a 4=((bt b a*256+bt b (a+1))*256+bt b (a+2))*256+bt b (a+3):=by grind[ld,zF,ldF,aRZ]
theorem R7{b:List Int}{i j:Nat}{v:Int}(hi:i<b.length):bt (b.set i v) j=if j=i then v else bt b j:=by grind[bt]
theorem LD{b:List Int}{a:Nat}{n:Int}(h:a+4<=b.length)(j:Nat):bt (st4 b a n) j=if j=a+3 then n else if a<=j/\j<a+3 then 0 else bt b j:=by unfold st4;rw[R7 (by simp;omega),R7 (by simp;omega),R7 (by simp;omega),R7 (by omega)];omega
theorem a3Y{b:List Int}{a:Nat}{n:Int}(h:a+4<=b.length):ld (st4 b a n) a 4=n:=by simp_all[ld4,JV,LD]
theorem MG{b b':List Int}{a:Nat}(h:a+4<=b.length)(hl:b'.length=b.length)(hs:∀j,a<=j->j<a+4->bt b' j=bt b j):ld b' a 4=ld b a 4:=by simp_all[ld4]
def aGO(h:Heap)(p:Nat):Prop:=
 if cD h p<0 then ∀k,k<64->bt h.Bytes (p*64+k)=0
 else((bt h.Bytes (p*64)=171/\bt h.Bytes (p*64+1)=cD h p/\bt h.Bytes (p*64+2)=cK (cD h p))/\(∀k,3<=k->k<8->bt h.Bytes (p*64+k)=0)/\∀i,i<(cK (cD h p)).toNat->1<=ld h.Bytes (p*64+8+i*(aW (cD h p)).toNat) 4/\ld h.Bytes (p*64+8+i*(aW (cD h p)).toNat) 4<=7)
theorem aVN{h:Heap}(hs:fP h){p:Nat}(hp:p<6){k:Nat}(hk:k<64):(gW h p).getD k 0=bt h.Bytes (p*64+k):=by rw[<-aVI hs hp hk,aRZ (by have:=hs.1;omega)]
theorem aIQ{l:List Int}{x:Int}:x∈l↔∃k,k<l.length/\l.getD k 0=x:=by
 rw[aER];constructor
 ·rintro⟨k,hk,e⟩;exact⟨k,hk,by grind⟩
 grind
theorem JW{h:Heap}(hs:fP h){p:Nat}(hp:p<6):pS h p↔aGO h p:=by
 unfold pS aGO;have hl:=WV hs hp;split
 ·constructor
  ·intro q k hk;rw[<-aVN hs hp hk];exact q _ (aIQ.2 ⟨k,by omega,rfl⟩)
  grind[aIQ,aVN]
 ·rw[aVN hs hp (by omega),aVN hs hp (by omega),aVN hs hp (by omega)];have e:(∀x∈((gW h p).drop 3).take 5,x=0)↔∀k,3<=k->k<8->bt h.Bytes (p*64+k)=0:=by
   have g:∀j,j<5->(((gW h p).drop 3).take 5).getD j 0=bt h.Bytes (p*64+(3+j)):=λj hj=>by rw[<-aVN hs hp (by omega),OI,OI,aKX,aL hj,List.getElem?_drop]
   constructor
   ·intro q k h3 h8;have:=q _ (aIQ.2 ⟨k-3,by grind,rfl⟩);grind
   ·intro q x hx;obtain⟨k,hk,rfl⟩:=aIQ.1 hx;simp[hl] at hk;rw[g _ hk];exact q _ (by omega) (by omega)
  rw[e];rfl
theorem aGO.same{h h':Heap}{p:Nat}(hp:p<6)(hs:fP h)(hl:h'.Bytes.length=h.Bytes.length)(hc:cD h' p=cD h p)(hb:∀k,k<64->bt h'.Bytes (p*64+k)=bt h.Bytes (p*64+k))(q:aGO h p):aGO h' p:=by
 have h1:=hs.1;unfold aGO at q ⊢;rw[hc];split
 ·grind
 ·rename_i q0;rw[aP q0] at q;obtain⟨⟨a1,a2,a3⟩,a4,a5⟩:=q;have b0:=hb 0 (by omega);have b1:=hb 1 (by omega);have b2:=hb 2 (by omega);simp only[Y4] at b0;refine⟨⟨by omega,by omega,by omega⟩,λk k3 k8=>by grind,λi hi=>?_⟩;have hz:=uI hs hp (c:=cD h p) rfl hi;rw[MG (b:=h.Bytes) (by omega) hl λj j1 j2=>by
   have:=hb (j-p*64) (by omega);grind]
  grind
theorem mN{h:Heap}{s:Int}(hc:0<=bI h s):∃p i,p<6/\i<(cK (cD h p)).toNat/\s=(p:Int)*4+i/\bI h s=cD h p/\(iU s (bI h s)).toNat=p*64+8+i*(aW (cD h p)).toNat/\(s/4).toNat=p:=by obtain⟨h1,h2,h3⟩:=sM hc;have hle:=oA (cD h (s/4).toNat);refine⟨(s/4).toNat,(s % 4).toNat,by omega,by omega,by omega,h3,?_,rfl⟩;rw[h3];unfold iU;rw[aL ⟨h1,by omega⟩];grind[aW]
theorem YS{c:Int}{i j:Nat}(hi:i<(cK c).toNat)(hj:j<(cK c).toNat)(hn:i≠j):i*(aW c).toNat+4<=j*(aW c).toNat\/j*(aW c).toNat+4<=i*(aW c).toNat:=by
 have hc:0<=c/\c<=2:=i7.1 (by omega);have h12:12<=(aW c).toNat:=by rcases lQ hc with rfl|rfl|rfl<;>decide
 rcases Nat.lt_or_gt_of_ne hn with q|q
 ·left;have:(i+1)*(aW c).toNat<=j*(aW c).toNat:=wF _ q;rw[pL] at this;omega
 ·right;have:(j+1)*(aW c).toNat<=i*(aW c).toNat:=wF _ q;rw[pL] at this;omega
theorem HOk.bDL{h:Heap}(hh:HOk h){s g:Int}(hc:0<=bI h s)(hg:1<=g/\g<=7) :
  HOk ⟨st4 h.Bytes (iU s (bI h s)).toNat g,h.Class⟩/\∀t,0<=bI h t->j5 ⟨st4 h.Bytes (iU s (bI h s)).toNat g,h.Class⟩ t=if t=s then g else j5 h t:=by
 obtain⟨hs,hp⟩:=hh;have h384:=hs.1;have hs':fP ⟨st4 h.Bytes (iU s (bI h s)).toNat g,h.Class⟩:=⟨by grind[JV],hs.2.1,a0T hs.2.2.1 _ (by omega),hs.2.2.2⟩;obtain⟨p,i,p6,hi,es,ec,eo,ep⟩:=mN hc;have hz:=uI hs p6 rfl hi;have h4:=oA (cD h p);refine⟨⟨hs',λq hq=>?_⟩,λt ht=>?_⟩
 ·rw[JW hs' hq];have hold:=(JW hs hq).1 (hp q hq);by_cases e:q=p
  ·subst e;have hpos:0<cK (cD h q):=by omega
   have hcl:¬cD h q<0:=by omega
   unfold aGO at hold ⊢;have hcl':cD ⟨st4 h.Bytes (iU s (bI h s)).toNat g,h.Class⟩ q=cD h q:=rfl;rw[hcl'];rw[aP hcl] at hold ⊢;obtain⟨⟨a1,a2,a3⟩,a4,a5⟩:=hold;have bs:∀k,k<8->bt (st4 h.Bytes (iU s (bI h s)).toNat g) (q*64+k)=bt h.Bytes (q*64+k):=λk hk=>by rw[LD (by omega),nC,nC]
   have b0:=bs 0 (by omega);have b1:=bs 1 (by omega);have b2:=bs 2 (by omega);simp only[Y4] at b0;refine⟨⟨by grind,by grind,by grind⟩,λk k3 k8=>by grind,λj hj=>?_⟩;have hzj:=uI hs p6 rfl hj;by_cases ej:j=i
   ·grind[a3Y]
   ·rw[MG (b:=h.Bytes) (by omega) (by grind[JV]) λk k1 k2=>?_]
    ·grind
    ·simp only[eo];have:=YS hi hj (λq=>ej q.symm);rw[LD (by omega),nC,nC]
  ·refine aGO.same hq hs (by grind[JV]) rfl (λk hk=>?_) hold;rw[LD (by omega),nC,nC]
 ·have e2:bI ⟨st4 h.Bytes (iU s (bI h s)).toNat g,h.Class⟩ t=bI h t:=rfl;unfold j5;rw[e2];by_cases e:t=s
  ·subst e;rw[aL rfl];grind[a3Y]
  ·rw[aP e];obtain⟨p',i',p6',hi',es',ec',eo',ep'⟩:=mN ht;have hz':=uI hs p6' rfl hi';rw[MG (b:=h.Bytes) (by omega) (by grind[JV]) λk k1 k2=>?_];simp only;by_cases ee:p'=p
   ·subst ee;have:=YS hi hi' (λq=>e (by omega));rw[LD (by omega),nC,nC]
   ·have h4':=oA (cD h p');rw[LD (by omega),nC,nC]
theorem aOV{p k:Nat}{c:Int}(hp:p<6)(hk:(k:Int)<cK c):bDJ p k c=p*64+8+k*(aW c).toNat/\8+k*(aW c).toNat+4<=64:=by have hc:0<=c/\c<=2:=i7.1 (by omega);have h1:=aYD (c:=c) hp hk;have hle:=oA c;have e:=h1.1;unfold iU at e;rw[aL (by omega)] at e;grind[aW,cK]
theorem a6V{b:List Int}{p:Nat}{c:Int}(hl:b.length=384)(hp:p<6)(hc:0<=c/\c<=2):∀k:Nat,(k:Int)<=cK c->∀j,(j<p*64\/p*64+64<=j->bt (gB b p c k) j=bt b j)/\(3<=j->j<8->bt (gB b p c k) (p*64+j)=bt b (p*64+j))/\bt (gB b p c k) (p*64)=171/\bt (gB b p c k) (p*64+1)=c/\bt (gB b p c k) (p*64+2)=cK c
 |0,hk,j=>by
  have key:∀i,bt (gB b p c 0) i=if i=p*64+2 then cK c else if i=p*64+1 then c else if i=p*64 then 171 else bt b i:=λi=>by grind[gB,R7]
  grind
 |k + 1,hk,j=>by
  have ih:=a6V hl hp hc k (by omega);have hoff:=aOV (c:=c) hp (by omega:(k:Int)<cK c);have hbl:=OA b p c k;unfold gB;refine⟨λh=>?_,λh1 h2=>?_,?_,?_,?_⟩
  ·rw[LD (by omega),nC,nC];grind
  ·rw[LD (by omega),nC,nC];grind
  ·rw[LD (by omega),nC,nC];exact(ih j).2.2.1
  ·rw[LD (by omega),nC,nC];exact(ih j).2.2.2.1
  ·rw[LD (by omega),nC,nC];exact(ih j).2.2.2.2
theorem bDM{b:List Int}{p:Nat}{c:Int}(hl:b.length=384)(hp:p<6):∀k:Nat,(k:Int)<=cK c->∀i,i<k->ld (gB b p c k) (p*64+8+i*(aW c).toNat) 4=1
 |0,_,i,h=>absurd h (by omega)
 |k + 1,hk,i,h=>by
  have hbl:=OA b p c k;have ho:=aOV (c:=c) hp (by omega:(k:Int)<cK c);unfold gB;by_cases e:i=k
  ·grind[a3Y]
  ·have hoi:=aOV (c:=c) hp (by omega:(i:Int)<cK c);have ha:=YS (c:=c) (i:=i) (j:=k) (by omega) (by omega) e;rw[MG (b:=gB b p c k) (by omega) (by rw[JV]) λj j1 j2=>by rw[LD (by omega),nC,nC]];exact bDM hl hp k (by omega) i (by omega)
theorem aCR{h:Heap}(hs:fP h){B:List Int}{p q:Nat}(hq:q<6){c:Int}:cD ⟨B,h.Class.set p c⟩ q=if q=p then c else cD h q:=by have h6:=hs.2.1;grind[cD]
theorem HOk.bDN{h:Heap}(hh:HOk h){p:Nat}(hp:p<6)(hun:cD h p<0){c:Int}(hc:0<=c/\c<=2) :
  HOk ⟨gB h.Bytes p c (cK c).toNat,h.Class.set p c⟩/\(∀t,(t/4).toNat≠p->bI ⟨gB h.Bytes p c (cK c).toNat,h.Class.set p c⟩ t=bI h t)/\(∀t,0<=bI h t->(t/4).toNat≠p/\j5 ⟨gB h.Bytes p c (cK c).toNat,h.Class.set p c⟩ t=j5 h t) /\
   ∀i,i<(cK c).toNat->bI ⟨gB h.Bytes p c (cK c).toNat,h.Class.set p c⟩ ((p:Int)*4+i)=c/\j5 ⟨gB h.Bytes p c (cK c).toNat,h.Class.set p c⟩ ((p:Int)*4+i)=1:=by
 obtain⟨hs,hpg⟩:=hh;have h384:=hs.1;have hle:=oA c;have hpn:((cK c).toNat:Int)<=cK c:=by omega
 have hb:=a6V h384 hp hc (cK c).toNat hpn;have hbl:=OA h.Bytes p c (cK c).toNat;have hs':fP ⟨gB h.Bytes p c (cK c).toNat,h.Class.set p c⟩:=⟨by simp only[hbl];exact h384,by simp only[dE];exact hs.2.1,aYC hs.2.2.1 p hc _,λx hx=>by
  rcases rX hx with q|rfl
  ·exact hs.2.2.2 x q
  ·omega⟩
 have hcls:∀t:Int,(t/4).toNat≠p->bI ⟨gB h.Bytes p c (cK c).toNat,h.Class.set p c⟩ t=bI h t:=λt ht=>by
  unfold bI;by_cases q:0<=t/\t<=23
  ·rw[aCR hs (by omega),aP ht]
  ·rw[aP (λz=>q z.1),aP (λz=>q z.1)]
 refine⟨⟨hs',λq hq=>?_⟩,hcls,λt ht=>?_,λi hi=>?_⟩
 ·rw[JW hs' hq];have hold:=(JW hs hq).1 (hpg q hq);by_cases e:q=p
  ·subst e;unfold aGO at hold ⊢;rw[aL hun] at hold;rw[aCR hs hq,aL rfl,nC];refine⟨(hb 0).2.2,λk k3 k8=>?_,λi hi=>?_⟩
   ·simp only;rw[(hb k).2.1 k3 k8];exact hold k (by omega)
   ·simp only;rw[bDM h384 hp _ hpn i hi];omega
  ·refine aGO.same hq hs (by simp only[hbl]) (by rw[aCR hs hq,aP e]) (λk hk=>?_) hold;exact(hb _).1 (by omega)
 ·obtain⟨p',i',p6',hi',es',ec',eo',ep'⟩:=mN ht;have hne:(t/4).toNat≠p:=λz=>by rw[ec',<-ep',z] at ht;omega
  refine⟨hne,?_⟩;have hz':=uI hs p6' rfl hi';unfold j5;rw[hcls t hne,MG (b:=h.Bytes) (by omega) (by simp only[hbl]) λk k1 k2=>(hb k).1 (by omega)]
 ·have e1:((p:Int)*4+i)/4=p:=by omega
  have e2:((p:Int)*4+i) % 4=i:=by omega
  have ec:bI ⟨gB h.Bytes p c (cK c).toNat,h.Class.set p c⟩ ((p:Int)*4+i)=c:=by unfold bI;rw[e1,e2,NM,aCR hs hp,aL rfl,aL (by omega)]
  refine⟨ec,?_⟩;unfold j5;rw[ec];have ho:=aOV (c:=c) hp (by omega:(i:Int)<cK c);have:(iU ((p:Int)*4+i) c).toNat=p*64+8+i*(aW c).toNat:=ho.1;rw[this];exact bDM h384 hp _ hpn i hi
def xN(m m':Mem)(k:Int):Prop:=kR m'/\∀s,dZ m s=3->s≠k->dZ m' s=3/\j5 m'.Heap s=j5 m.Heap s/\bI m'.Heap s=bI m.Heap s
theorem xN.refl{m:Mem}(h:kR m)(k:Int):xN m m k:=⟨h,λ_ h _=>⟨h,rfl,rfl⟩⟩
theorem xN.live{m m':Mem}{k h:Int}(q:xN m m' k)(hl:mM m h)(hn:h % 32≠k):mM m' h:=by obtain⟨h1,h2,h3⟩:=hl;obtain⟨a,b,_⟩:=q.2 _ h2 hn;exact⟨h1,a,by omega⟩
theorem UA{l:List bJ}{k j:Nat}(hk:k<l.length){t:bJ}:fA (l.set k t) j=if j=k then t.aV else fA l j:=by grind[fA]
theorem aVO{l:List bJ}{k:Nat}(hk:k<l.length){t:bJ}(ht:t.aV.Sublist l[k].aV):(fS (l.set k t)).Sublist (fS l):=by grind[LC,GW]
theorem JX{l:List bJ}{k:Nat}(hk:k<l.length){xs:List Int}{s:Int}:s∈fS (l.set k ⟨l[k].aV++xs⟩)↔s∈fS l\/s∈xs:=by grind[LC,GW]
theorem aCS{l:List bJ}{k:Nat}(hk:k<l.length){xs r q:List Int}(h:(q++(fS l++r)).Nodup)(hx:xs.Nodup)(hd:∀x∈xs,x∉q++(fS l++r)):(q++(fS (l.set k ⟨l[k].aV++xs⟩)++r)).Nodup:=by
 have hp:(q++(fS (l.set k ⟨l[k].aV++xs⟩)++r)).Perm (xs++(q++(fS l++r))):=by rw[LC hk,GW hk];grind
 grind
theorem aIR{m m':Mem}{s:Int}(h1:bI m'.Heap s=bI m.Heap s)(h2:j5 m'.Heap s=j5 m.Heap s)(h3:s∈eG m'.aC↔s∈eG m.aC):dZ m' s=dZ m s:=by simp_all[dZ]
theorem iV{m:Mem}{s:Int}:dZ m s=3↔0<=bI m.Heap s/\s∉eG m.aC/\j5 m.Heap s<=6:=by unfold dZ;grind
section
variable {m:Mem} (hm:kR m)
include hm
theorem kR.bME{k:Nat}(hk:k<9){t:bJ}(ht:t.aV.Sublist (fA m.aC.Own k)):xN m ⟨m.Heap,⟨m.aC.Global,m.aC.Own.set k t⟩⟩ (-1):=by
 obtain⟨⟨hh,h3,h9,h2,hr,hn⟩,hg,ho⟩:=hm;have hk':k<m.aC.Own.length:=by omega
 have ht':t.aV.Sublist m.aC.Own[k].aV:=by grind[dS]
 have hsub:(eG ⟨m.aC.Global,m.aC.Own.set k t⟩).Sublist (eG m.aC):=(List.Sublist.refl _).append (aVO hk' ht');refine⟨⟨⟨hh,h3,by grind,λs hs=>?_,λx hx=>hr x (hsub.subset hx),hsub.nodup hn⟩,hg,λj hj=>?_⟩,λs hs _=>⟨?_,rfl,rfl⟩⟩
 ·grind
 ·unfold KA;simp only[UA hk'];split
  ·rename_i e;subst e;exact λx hx=>ho j hj x (ht.subset hx)
  ·exact ho j hj
 grind[iV]
theorem kR.a83{k:Nat}(hk:k<3){t:bJ}(ht:t.aV.Sublist (fA m.aC.Global k)):xN m ⟨m.Heap,⟨m.aC.Global.set k t,m.aC.Own⟩⟩ (-1):=by
 obtain⟨⟨hh,h3,h9,h2,hr,hn⟩,hg,ho⟩:=hm;have hk':k<m.aC.Global.length:=by omega
 have ht':t.aV.Sublist m.aC.Global[k].aV:=by grind[dS]
 have hsub:(eG ⟨m.aC.Global.set k t,m.aC.Own⟩).Sublist (eG m.aC):=(aVO hk' ht').append (List.Sublist.refl _);refine⟨⟨⟨hh,by grind,h9,h2,λx hx=>hr x (hsub.subset hx),hsub.nodup hn⟩,λj hj=>?_,ho⟩,λs hs _=>⟨?_,rfl,rfl⟩⟩
 ·unfold U8;simp only[UA hk'];split
  ·rename_i e;subst e;exact λx hx=>hg j hj x (ht.subset hx)
  ·exact hg j hj
 grind[iV]
theorem kR.bHU{k:Nat}(hk:k<9){xs:List Int}(hl:(fA m.aC.Own k).length+xs.length<=2)(hx:xs.Nodup)(hf:JT m.Heap xs ((k % 3:Nat):Int))(hd:∀x∈xs,x∉eG m.aC)(hk':k<m.aC.Own.length) :
  kR ⟨m.Heap,⟨m.aC.Global,m.aC.Own.set k ⟨m.aC.Own[k].aV++xs⟩⟩⟩/\∀s,s∉xs->dZ m s=3->dZ ⟨m.Heap,⟨m.aC.Global,m.aC.Own.set k ⟨m.aC.Own[k].aV++xs⟩⟩⟩ s=3:=by
 obtain⟨⟨hh,h3,h9,h2,hr,hn⟩,hg,ho⟩:=hm;have hmem:∀s,s∈eG ⟨m.aC.Global,m.aC.Own.set k ⟨m.aC.Own[k].aV++xs⟩⟩↔s∈eG m.aC\/s∈xs:=λs=>by simp[eG,JX,or_assoc]
 have hcl:∀x∈xs,0<=x/\x<=23:=λx h=>by have:=(hf x h).1;exact(sM (h:=m.Heap) (s:=x) (by omega)).1
 refine⟨⟨⟨hh,h3,by grind,λs hs=>?_,λx hx=>?_,?_⟩,hg,λj hj=>?_⟩,λs hs h3=>?_⟩
 ·grind[dS]
 ·grind
 ·have:=aCS (q:=fS m.aC.Global) (r:=[]) hk' (by grind[eG]) hx (by grind[eG]);grind[eG]
 ·unfold KA;simp only[UA hk'];split
  ·rename_i e;subst e;intro x hx;rcases eS.1 hx with q|q
   ·rw[dS hk'] at q;exact ho j hj x q
   ·exact hf x q
  ·exact ho j hj
 grind[iV]
theorem kR.aR0{k:Nat}(hk:k<3){xs:List Int}(hx:xs.Nodup)(hf:JT m.Heap xs (k:Int))(hd:∀x∈xs,x∉eG m.aC)(hk':k<m.aC.Global.length) :
  kR ⟨m.Heap,⟨m.aC.Global.set k ⟨m.aC.Global[k].aV++xs⟩,m.aC.Own⟩⟩/\∀s,s∉xs->dZ m s=3->dZ ⟨m.Heap,⟨m.aC.Global.set k ⟨m.aC.Global[k].aV++xs⟩,m.aC.Own⟩⟩ s=3:=by
 obtain⟨⟨hh,h3,h9,h2,hr,hn⟩,hg,ho⟩:=hm;have hmem:∀s,s∈eG ⟨m.aC.Global.set k ⟨m.aC.Global[k].aV++xs⟩,m.aC.Own⟩↔s∈eG m.aC\/s∈xs:=λs=>by simp[eG,JX,or_right_comm]
 have hcl:∀x∈xs,0<=x/\x<=23:=λx h=>by have:=(hf x h).1;exact(sM (h:=m.Heap) (s:=x) (by omega)).1
 refine⟨⟨⟨hh,by grind,h9,h2,λx hx=>?_,?_⟩,λj hj=>?_,ho⟩,λs hs h3=>?_⟩
 ·grind
 ·have:=aCS (q:=[]) (r:=fS m.aC.Own) hk' (by grind[eG]) hx (by grind[eG]);grind[eG]
 ·unfold U8;simp only[UA hk'];split
  ·rename_i e;subst e;intro x hx;rcases eS.1 hx with q|q
   ·rw[dS hk'] at q;exact hg j hj x q
   ·exact hf x q
  ·exact hg j hj
 grind[iV]
theorem kR.VD{x:Int}(hx:x∈eG m.aC):0<=bI m.Heap x/\j5 m.Heap x<=6:=by
 obtain⟨⟨hh,h3,h9,h2,hr,hn⟩,hg,ho⟩:=hm;have key:∀(l:List bJ),x∈fS l->∃k,k<l.length/\x∈fA l k:=λl h=>by grind[aDQ,aER,dS]
 rcases eS.1 hx with q|q
 ·obtain⟨k,hk,h⟩:=key _ q;have:=hg k (by omega) x h;omega
 ·obtain⟨k,hk,h⟩:=key _ q;have:=ho k (by omega) x h;omega
theorem kR.heap{h':Heap}(hh:HOk h')(hs:∀x∈eG m.aC,bI h' x=bI m.Heap x/\j5 h' x=j5 m.Heap x):kR ⟨h',m.aC⟩:=by
 obtain⟨⟨_,hl⟩,hg,ho⟩:=hm;have key:∀(l:List bJ) k x,x∈fA l k->x∈fS l:=λl k x h=>by grind[fA,aDQ]
 refine⟨⟨hh,hl⟩,λk hk x hx=>?_,λk hk x hx=>?_⟩
 ·obtain⟨a,b⟩:=hs x (aPB _ (key _ k x hx));show bI h' x=_/\j5 h' x<=6;rw[a,b];exact hg k hk x hx
 ·obtain⟨a,b⟩:=hs x (aPC _ (key _ k x hx));show bI h' x=_/\j5 h' x<=6;rw[a,b];exact ho k hk x hx
theorem kR.bRA{s g:Int}(hu:dZ m s=3)(hg:1<=g/\g<=7):xN m ⟨⟨st4 m.Heap.Bytes (iU s (bI m.Heap s)).toNat g,m.Heap.Class⟩,m.aC⟩ s/\j5 ⟨st4 m.Heap.Bytes (iU s (bI m.Heap s)).toNat g,m.Heap.Class⟩ s=g:=by
 have hu':=iV.1 hu;obtain⟨a,b⟩:=HOk.bDL hm.1.1 hu'.1 hg;refine⟨⟨kR.heap hm a λx hx=>⟨rfl,?_⟩,λt ht hn=>?_⟩,by grind⟩
 ·rw[b x (kR.VD hm hx).1,aP (show ¬x=s from λe=>hu'.2.1 (e ▸ hx))]
 ·have ht':=iV.1 ht;have e:j5 ⟨st4 m.Heap.Bytes (iU s (bI m.Heap s)).toNat g,m.Heap.Class⟩ t=j5 m.Heap t:=by grind
  exact⟨iV.2 ⟨ht'.1,ht'.2.1,by grind⟩,e,rfl⟩
theorem kR.bOW{p:Nat}(hp:p<6)(hun:cD m.Heap p<0){c:Int}(hc:0<=c/\c<=2){xs:List Int}(hxs:∀x∈xs,∃i,i<(cK c).toNat/\x=(p:Int)*4+(i:Nat))(hx:xs.Nodup)(hk':c.toNat<m.aC.Global.length) :
  xN m ⟨⟨gB m.Heap.Bytes p c (cK c).toNat,m.Heap.Class.set p c⟩,⟨m.aC.Global.set c.toNat ⟨m.aC.Global[c.toNat].aV++xs⟩,m.aC.Own⟩⟩ (-1):=by
 obtain⟨a,b,d,e⟩:=HOk.bDN hm.1.1 hp hun hc;have h1:kR ⟨⟨gB m.Heap.Bytes p c (cK c).toNat,m.Heap.Class.set p c⟩,m.aC⟩:=kR.heap hm a λx hx=>by grind[kR.VD]
 have hno:∀x∈xs,¬0<=bI m.Heap x:=λx h q=>by obtain⟨i,hi,rfl⟩:=hxs x h;have h4:=oA c;exact(d _ q).1 (by omega)
 obtain⟨f,g⟩:=kR.aR0 h1 (k:=c.toNat) (by omega) hx (λx h=>by
  obtain⟨i,hi,rfl⟩:=hxs x h
  (simp_all;omega)) (λx h q=>hno x h (kR.VD hm q).1) hk'
 refine⟨f,λs hs _=>?_⟩;grind[iV]
end
theorem bDO{p n:Nat}{x:Int}(h:x∈gS p n):∃i,i<n/\x=(p:Int)*4+(i:Nat):=by grind[gS]
theorem a0V(p n:Nat):(gS p n).Nodup:=by grind[gS,List.nodup_range]
theorem a0W{m:Mem}(hm:kR m){c:Int}(hc:0<=c/\c<=2) :
  ∃m' s,JC m c=some (m',s)/\PI m c=some (m',s)/\GD m'/\(0<=s->fP m'.Heap/\0<=bI m'.Heap s)/\xN m m' (-1):=by
 have hl:=hm.1.2;have hcnt:=hl.count;have hs:=hm.1.1.1;have hsl:=hl.aVK (by omega);have hp4:=oA c;have hpp:0<cK c:=i7.2 hc;have hall:=xL m.aC;have hsG:∀s∈m.aC.Global,s.aV.length<=24:=λs h=>by have:=NC h;omega
 have hsO:∀s∈m.aC.Own,s.aV.length<=24:=λs h=>by have:=NC h;omega
 have h3:=hl.1;have h9:=hl.2.1;have hcpl:=VA (l:=m.aC) (by omega) (by omega) (λs h=>by grind) (λs h=>by grind);unfold JC PI;rcases bDK hm.1.1 hc with ⟨e1,e2⟩|⟨p,hp,hun,e1,e2⟩
 ·rw[e1,e2,hcpl];have h1:=hs.1;have h2:=hs.2.1;exact⟨_,_,rfl,rfl,⟨by grind,by grind,by grind,by grind,by grind⟩,λh=>absurd h (by omega),xN.refl hm _⟩
 ·rw[e1,e2,hcpl];simp only[aE,NQ,NP,N4,aKL];have hn:(((cK c).toNat:Int) == 0)=false:=by grind
  have hk:c.toNat<m.aC.Global.length:=by omega
  have hg0:=hsG _ (cZ hk);have hx:idx m.aC.Global c=some m.aC.Global[c.toNat]:=iC hc.1 (by omega);have hz:idx (gS p (cK c).toNat) 0=some ((p:Int)*4):=by grind[aT,gS]
  have hlen:(List.drop (1:Int).toNat (List.take (cK c).toNat (gS p (cK c).toNat))).length<=4:=by grind
  simp only[hn,bN,bL,hx,aE,hz];rw[J5,J5];have hcl:cD ⟨gB m.Heap.Bytes p c (cK c).toNat,m.Heap.Class.set p c⟩ p=c:=by grind[cD]
  refine⟨_,_,rfl,rfl,⟨by simp only[OA];have:=hs.1;omega,by simp only[dE];have:=hs.2.1;omega,by grind,by grind,?_⟩,λ_=>⟨⟨by simp only[OA];exact hs.1,by simp only[dE];exact hs.2.1,aYC hs.2.2.1 p hc _,λx hx=>?_⟩,?_⟩,?_⟩
  ·grind[xL,aGN]
  ·rcases rX hx with h|rfl
   ·exact hs.2.2.2 x h
   ·omega
  ·unfold bI
   (simp_all;omega)
  grind[kR.bOW,bDO,a0V]
theorem a3Z(n:Int):∃c,I9 n=some c/\PF n=some c/\(c = -1\/(0<=c/\c<=2)):=by
 have s1:∀k,0<=k/\k<=2->gQ n k=some (if 1<=n/\n<=iA k then .stop (Out.ret k) else .next (k+1)):=λk hk=>by simp only[gQ];rw[cY,RZ,aE,cN,aE,dM];grind
 have s2:∀k,0<=k/\k<=2->kW n k=some (if 1<=n/\n<=iA k then .stop (Out.ret k) else .next (k+1)):=λk hk=>by simp only[kW,EL];rw[cY,R0,aE,dM];grind
 have st:∀k,0<=k/\k<=2->1<=n/\n<=iA k->loop (gQ n) k=some (Out.ret k)/\loop (kW n) k=some (Out.ret k):=λk hk h=>
  ⟨bB (by grind),bB (by grind)⟩
 have nx:∀k,0<=k/\k<=2->¬(1<=n/\n<=iA k)->loop (gQ n) k=loop (gQ n) (k+1)/\loop (kW n) k=loop (kW n) (k+1):=λk hk h=>
  ⟨bP (by grind),bP (by grind)⟩
 unfold I9 PF;by_cases q0:1<=n/\n<=iA 0
 ·have:=st 0 (by omega) q0;rw[this.1,this.2];exact⟨_,rfl,rfl,.inr (by omega)⟩
 ·have h0:=nx 0 (by omega) q0;rw[h0.1,h0.2,show(0:Int)+1=1 from rfl];by_cases q1:1<=n/\n<=iA 1
  ·have:=st 1 (by omega) q1;rw[this.1,this.2];exact⟨_,rfl,rfl,.inr (by omega)⟩
  ·have h1:=nx 1 (by omega) q1;rw[h1.1,h1.2,show(1:Int)+1=2 from rfl];by_cases q2:1<=n/\n<=iA 2
   ·have:=st 2 (by omega) q2;rw[this.1,this.2];exact⟨_,rfl,rfl,.inr (by omega)⟩
   ·have h2:=nx 2 (by omega) q2;rw[h2.1,h2.2,show(2:Int)+1=3 from rfl,bB (body:=gQ n) (r:=Out.brk ()) (by simp[gQ]),bB (body:=kW n) (r:=Out.brk ()) (by simp[kW])];exact⟨_,rfl,rfl,.inl rfl⟩
theorem bDP{s:bJ}(hl:s.aV.length<=1048576):∃t x,vV s=some (t,x)/\zN s=some (x,t)/\t.aV.length<=s.aV.length/\(0<=x->x∈s.aV)/\t.aV.Sublist s.aV:=by
 unfold vV zN UY;rw[dM];by_cases q:s.aV.length=0
 ·rw[aL (by grind),cY];grind
 ·have hx:idx s.aV ((s.aV.length:Int)-1)=some (s.aV[s.aV.length-1]'(by omega)):=by grind[aT]
  rw[aP (by grind),SU,J5,hx];simp only[aE];grind[b9]
theorem WZ{w c:Int}(hw:0<=w/\w<=2)(hc:0<=c/\c<=2):AE w c=some (w*3+c)/\QZ w c=some (w*3+c):=by grind[cA,AE,DR,cN,QZ,LN,oH,lA]
theorem aR1{l:List bJ}{k:Nat}(hk:k<l.length){t:bJ}(ht:t.aV.length<=l[k].aV.length):(fS (l.set k t)).length<=(fS l).length:=by grind[LC,GW]
section
variable {m:Mem} (hm:kR m)
include hm
theorem kR.facts:(eG m.aC).length<=24/\m.aC.Global.length=3/\m.aC.Own.length=9/\m.Heap.Bytes.length=384/\m.Heap.Class.length=6/\GD m/\jH m.aC=some m.aC/\qO m.aC=some true /\
  (∀s∈m.aC.Global,s.aV.length<=24)/\(∀s∈m.aC.Own,s.aV.length<=24):=by
 have hl:=hm.1.2;have hcnt:=hl.count;have hall:=xL m.aC;have hsG:∀s∈m.aC.Global,s.aV.length<=24:=λs h=>by have:=NC h;omega
 have hsO:∀s∈m.aC.Own,s.aV.length<=24:=λs h=>by have:=NC h;omega
 have h3:=hl.1;have h9:=hl.2.1;have h1:=hm.1.1.1.1;have h2:=hm.1.1.1.2.1;refine⟨hcnt,h3,h9,h1,h2,⟨by omega,by omega,by omega,by omega,by omega⟩,VA (by omega) (by omega) (λs h=>by grind) (λs h=>by grind),by grind[Z7],hsG,hsO⟩
theorem aR2{w c:Int}(hw:0<=w/\w<=2)(hc:0<=c/\c<=2) :
  ∃l t x,idx m.aC.Own (w*3+c)=some l/\vV l=some (t,x)/\PG m.aC w c=some (⟨m.aC.Global,m.aC.Own.set (w*3+c).toNat t⟩,x) /\
   GD ⟨m.Heap,⟨m.aC.Global,m.aC.Own.set (w*3+c).toNat t⟩⟩/\(0<=x->0<=bI m.Heap x)/\xN m ⟨m.Heap,⟨m.aC.Global,m.aC.Own.set (w*3+c).toNat t⟩⟩ (-1):=by
 obtain⟨hcnt,h3,h9,h1,h2,hsm,hcp,hlo,hsG,hsO⟩:=kR.facts hm;have hk:(w*3+c).toNat<m.aC.Own.length:=by omega
 have hx:idx m.aC.Own (w*3+c)=some m.aC.Own[(w*3+c).toNat]:=iC (by omega) (by omega);have h24:=hsO _ (cZ hk);obtain⟨t,x,e1,e2,ht,hmem,hsub⟩:=bDP (s:=m.aC.Own[(w*3+c).toNat]) (by omega);have hall:=xL m.aC;refine⟨_,t,x,hx,e1,?_,⟨by grind,by grind,by grind,by grind,?_⟩,λh0=>?_,kR.bME hm (by omega) (by grind[dS])⟩
 ·unfold PG EN;rw[hcp,(WZ hw hc).2,hlo];grind
 ·grind[aR1,xL]
 ·have:=hm.2.2 (w*3+c).toNat (by omega) x (by grind[dS]);omega
theorem aFI{c:Int}(hc:0<=c/\c<=2) :
  ∃l t x,idx m.aC.Global c=some l/\vV l=some (t,x)/\EO m.aC c=some (⟨m.aC.Global.set c.toNat t,m.aC.Own⟩,x) /\
   GD ⟨m.Heap,⟨m.aC.Global.set c.toNat t,m.aC.Own⟩⟩/\(0<=x->0<=bI m.Heap x)/\xN m ⟨m.Heap,⟨m.aC.Global.set c.toNat t,m.aC.Own⟩⟩ (-1):=by
 obtain⟨hcnt,h3,h9,h1,h2,hsm,hcp,hlo,hsG,hsO⟩:=kR.facts hm;have hk:c.toNat<m.aC.Global.length:=by omega
 have hx:idx m.aC.Global c=some m.aC.Global[c.toNat]:=iC (by omega) (by omega);have h24:=hsG _ (cZ hk);obtain⟨t,x,e1,e2,ht,hmem,hsub⟩:=bDP (s:=m.aC.Global[c.toNat]) (by omega);have hall:=xL m.aC;refine⟨_,t,x,hx,e1,?_,⟨by grind,by grind,by grind,by grind,?_⟩,λh0=>?_,kR.a83 hm (by omega) (by grind[dS])⟩
 ·simp_all[EO,vC,lA]
 ·grind[aR1,xL]
 ·have:=hm.2.1 c.toNat (by omega) x (by grind[dS]);omega
theorem aOW{w h:Int}(hw:0<=w/\w<=2)(hv:mM m h):∃m',M3 m w (h % 32)=some m'/\RD m w h=some m'/\GD m'/\xN m m' (h % 32):=by
 obtain⟨hcnt,h3,h9,h1,h2,hsm,hcp,hlo,hsG,hsO⟩:=kR.facts hm;have hs:=hm.1.1.1;have hh:=hv.1;have hhm:=hh.mod;have hcl:=dU hv.2.1;have hgo:=YM hcl;have hc2:0<=bI m.Heap (h % 32)/\bI m.Heap (h % 32)<=2:=by obtain⟨_,q,e⟩:=sM hcl;rw[e];exact i7.1 (by omega)
 have hg6:1<=h/32/\h/32<=6:=by grind[kC]
 have hbl:m.Heap.Bytes.length<=maxLen:=by grind[maxLen]
 have hnot:h % 32∉eG m.aC:=λq=>by have:=hv.2.1;simp_all[dZ,aP]
 have hcpH:=YQ (h:=m.Heap) (by omega) (by omega);have eo:iU (h % 32) (bI m.Heap (h % 32))=(((iU (h % 32) (bI m.Heap (h % 32))).toNat:Nat):Int):=by omega
 have ew:aY (h/32+1)=h/32+1:=dM;have ed:aY (Int.tdiv h 32)=h/32:=by grind[cA]
 have hall:=xL m.aC;obtain⟨hr1,hr2⟩:=kR.bRA hm hv.2.1 (g:=h/32+1) (by omega);have hu:=iV.1 hv.2.1;unfold M3 RD aA9 HZ;rw[hhm.1,nD hs,hcpH,R1 hbl,bY hs,jO hs,ed,ew,hcp];simp only[aE,iN,bN,bL,RC,H9,RB];rw[rV hs hcl,hv.2.2,dD,eF (show ¬bI m.Heap (h % 32)<0 by omega),bY (show 1<=h/32+1/\h/32+1<=7 by omega)];simp only[aE,iN,bN,bL,yC,EA,ew];generalize hgn:(iU (h % 32) (bI m.Heap (h % 32))).toNat=a at eo;rw[hgn] at hr1 hr2;rw[eo,N9 (by omega) (by omega) (by omega),aFH (by omega)];simp only[aE];rw[aCQ (by omega) (by omega) (by omega)];simp only[aE,RQ,US,ed,ew,hhm.1];by_cases q:h/32+1<=6
 ·have hk:(w*3+bI m.Heap (h % 32)).toNat<m.aC.Own.length:=by omega
  have hx:idx m.aC.Own (w*3+bI m.Heap (h % 32))=some m.aC.Own[(w*3+bI m.Heap (h % 32)).toNat]:=iC (by omega) (by omega);have hk2:(bI m.Heap (h % 32)).toNat<m.aC.Global.length:=by omega
  have hx2:idx m.aC.Global (bI m.Heap (h % 32))=some m.aC.Global[(bI m.Heap (h % 32)).toNat]:=iC (by omega) (by omega);have b1:=hsO _ (cZ hk);have b2:=hsG _ (cZ hk2);rw[bY q,aL rfl,aL rfl];unfold aBT aJN BE;rw[jO hs,aE,hcp,(WZ hw hc2).1,(WZ hw hc2).2,hlo,A0,bY (show 0<=h % 32/\h % 32<=23 by omega),aCN (by omega) (by omega) (by omega),eF hnot];simp only[aE,iN,bN,bL,hx,hx2];have nz:¬w*3+bI m.Heap (h % 32)<0:=by omega
  simp only[eF nz,bN,bL];by_cases q2:m.aC.Own[(w*3+bI m.Heap (h % 32)).toNat].aV.length<2
  ·have y1:(m.aC.Own[(w*3+bI m.Heap (h % 32)).toNat].aV.length:Int)<2:=by omega
   have y2:¬(2:Int)<=m.aC.Own[(w*3+bI m.Heap (h % 32)).toNat].aV.length:=by omega
   simp only[bY y1,eF y2,bN,bL,bR];rw[SW,SW];refine⟨_,rfl,rfl,⟨by grind[JV],by grind,by grind,by grind,?_⟩,?_⟩
   ·grind[xL,aGN]
   ·have hmod:((w*3+bI m.Heap (h % 32)).toNat % 3:Nat)=(bI m.Heap (h % 32)).toNat:=by omega
    obtain⟨z1,z2⟩:=kR.bHU hr1.1 (k:=(w*3+bI m.Heap (h % 32)).toNat) (by omega) (xs:=[h % 32]) (by grind[dS]) (by simp) (λx hx=>by
     simp at hx;subst hx;exact⟨by rw[hmod];show bI m.Heap (h % 32)=_;omega,by grind⟩) (λx hx=>by grind) hk
    refine⟨z1,λs h1 h2=>?_⟩;obtain⟨y1,y2,y3⟩:=hr1.2 s h1 h2;grind
  ·have y1:¬(m.aC.Own[(w*3+bI m.Heap (h % 32)).toNat].aV.length:Int)<2:=by omega
   have y2:(2:Int)<=m.aC.Own[(w*3+bI m.Heap (h % 32)).toNat].aV.length:=by omega
   simp only[bY y2,eF y1,bN,bL,bR];rw[SW,SW];refine⟨_,rfl,rfl,⟨by grind[JV],by grind,by grind,by grind,?_⟩,?_⟩
   ·grind[xL,aGN]
   ·obtain⟨z1,z2⟩:=kR.aR0 hr1.1 (k:=(bI m.Heap (h % 32)).toNat) (by omega) (xs:=[h % 32]) (by simp) (λx hx=>by
     simp at hx;subst hx;exact⟨by show bI m.Heap (h % 32)=_;omega,by grind⟩) (λx hx=>by grind) hk2
    refine⟨z1,λs h1 h2=>?_⟩;obtain⟨y1,y2,y3⟩:=hr1.2 s h1 h2;grind
 ·rw[eF q,eD,eD];refine⟨_,rfl,rfl,⟨by grind[JV],by grind,by grind,by grind,by(simp_all;omega)⟩,hr1⟩
end
theorem alloc_eq{b:aA}(hm:kR b.Mem){w:Int}(hw:0<=w/\w<=2)(s:Sub) :
  ∃x y,D3 b w s=some (x,y)/\vD s b w=some (y,x)/\∃m',x=⟨m',b.aD,b.aM,b.lX⟩/\GD m'/\xN b.Mem m' (-1):=by
 have hsm:=(kR.facts hm).2.2.2.2.2.1;have hs:=hm.1.1.1;obtain⟨c,ec,ei,hcc⟩:=a3Z s.A;unfold D3 vD;rw[ec,ei];simp only[aE];by_cases c0:c<0
 ·simp only[bY c0,bR,bV,bO];exact⟨_,_,rfl,rfl,_,rfl,hsm,xN.refl hm _⟩
 have hc:0<=c/\c<=2:=by omega
 simp only[eF c0,bN,bL];have fin:∀(m':Mem) (x:Int),GD m'->xN b.Mem m' (-1)->(0<=x->fP m'.Heap/\0<=bI m'.Heap x) ->
   ∃X Y,j3 s x ⟨m',b.aD,b.aM,b.lX⟩=some (X,Y)/\jF s x ⟨m',b.aD,b.aM,b.lX⟩=some (Y,X)/\∃m',X=⟨m',b.aD,b.aM,b.lX⟩/\GD m'/\xN b.Mem m' (-1):=by
  intro m' x hs' hst hx;unfold j3 jF;simp only[BZ,X5,bV,bO];by_cases x0:0<=x
  ·obtain⟨h,e1,e2⟩:=a82 (m:=m') (hx x0).1 (hx x0).2;rw[eF (show ¬x<0 by omega),bY x0];simp only[bN,bL,bR,e1,e2,aE];grind
  ·rw[bY (show x<0 by omega),eF x0];by_cases p3:s.Pc=3
   ·simp only[p3,beq_self_eq_true,bR,bN,bL,aE];grind
   ·have p3':(s.Pc == 3)=false:=by grind
    simp only[p3',bR,bN,bL,aE];grind
 by_cases p0:s.Pc=0
 ·obtain⟨l,t,x,e1,e2,e3,h1,h2,h3⟩:=aR2 hm hw hc;simp_all[WZ]
 ·have p0':(s.Pc == 0)=false:=by grind
  simp only[p0',bN,bL,B4,pD];obtain⟨l,t,x,e1,e2,e3,h1,h2,h3⟩:=aFI hm hc;by_cases p1:s.Pc=1
  ·simp_all
  ·have p1':(s.Pc == 1)=false:=by grind
   simp only[p1',bN,bL];by_cases p3:s.Pc=3
   ·simp_all
   ·have p3':(s.Pc == 3)=false:=by grind
    simp only[p3',bN,bL];by_cases p2:s.Pc=2
    ·obtain⟨m',x,e1,e2,h1,h2,h3⟩:=a0W hm hc;simp_all
    ·have p2':(s.Pc == 2)=false:=by grind
     simp only[p2',bN,bL,bV,bO];exact⟨_,_,rfl,rfl,_,rfl,hsm,xN.refl hm _⟩
theorem a6W(r:eB)(e:Int):∃v,QK r e=some v/\WC r e=some v:=by
 unfold QK WC P5 PJ;by_cases h:2<=e
 ·simp only[bY h,bR];exact⟨_,rfl,rfl⟩
 ·simp only[eF h,bN,bL];exact⟨_,rfl,rfl⟩
theorem bHV{b:aA}{w:Int}{l:bT}(hx:idx b.aM w=some l)(hl:l.Rows.length<=1000)(s:Sub) :
  (B5 l.Rows s.Row s.E=some (-1)/\qV s b w=(bO s 0).bind λx=>some (x,b)) \/
  ∃k,∃h:k<l.Rows.length,B5 l.Rows s.Row s.E=some (k:Int)/\qV s b w=some (⟨s.Kind,s.A,2,s.E,(k:Int),0,l.Rows[k].Handle,s.Out,s.Code,s.iB⟩,b):=by
 have key:∀d k,k+d=l.Rows.length ->
   (loop (fX l.Rows s.E) (k:Int)=some (Out.brk ())/\loop (fZ s b w) (k:Int)=some (Out.brk ())) \/
   ∃j,∃h:j<l.Rows.length,loop (fX l.Rows s.E) (k:Int)=some (Out.ret (j:Int))/\loop (fZ s b w) (k:Int)=some (Out.ret (⟨s.Kind,s.A,2,s.E,(j:Int),0,l.Rows[j].Handle,s.Out,s.Code,s.iB⟩,b)):=by
  intro d;induction d with
  |zero=>
   simp_all[bB,fX,fZ]
  |succ d ih=>
   intro k hk;have hk':k<l.Rows.length:=by omega
   obtain⟨v,e1,e2⟩:=a6W l.Rows[k] s.E;cases v with
   |true=>
    right;refine⟨k,hk',bB ?_,bB ?_⟩
    ·simp only[fX];rw[cY,aT hk',aE,e1];rfl
    ·simp only[fZ,hx,aE];rw[cY,aT hk',aE,e2];rfl
   |false=>
    have n1:fX l.Rows s.E (k:Int)=some (.next ((k+1:Nat):Int)):=by simp only[fX];rw[cY,aT hk',aE,e1,aE,dM];rfl
    have n2:fZ s b w (k:Int)=some (.next ((k+1:Nat):Int)):=by simp only[fZ,hx,aE];rw[cY,aT hk',aE,e2,aE,dM];rfl
    rw[bP n1,bP n2];exact ih (k+1) (by omega)
 unfold B5 qV;have hst:∃i:Nat,(if 0<s.Row then s.Row else 0)=(i:Int)/\(if s.Row<0 then 0 else s.Row)=(i:Int):=by refine⟨s.Row.toNat,?_,?_⟩<;>split<;>omega
 obtain⟨i,i1,i2⟩:=hst;rw[i1,i2];by_cases hi:i<=l.Rows.length
 ·rcases key (l.Rows.length-i) i (by omega) with ⟨a,c⟩|⟨j,hj,a,c⟩
  ·left;rw[a,c];exact⟨rfl,rfl⟩
  ·right;rw[a,c];exact⟨j,hj,rfl,rfl⟩
 ·left;rw[bB (body:=fX l.Rows s.E) (r:=Out.brk ()) (by simp only[fX];grind),
   bB (body:=fZ s b w) (r:=Out.brk ()) (by simp only[fZ,hx,aE];grind)]
  exact⟨rfl,rfl⟩
theorem del_eq{O:Type}{l:List O}{k:Nat}(h:k<l.length):((dA l k (l.drop (k+1))).take (k+(l.length-(k+1)))).drop 0=l.eraseIdx k:=by grind[dA,aK4]
theorem aR3{O:Type}{l:List O}{k:Nat}(h:k<l.length):l.Perm (l[k]::l.eraseIdx k):=by grind[zF,aK3,List.eraseIdx_eq_take_drop_succ,List.perm_middle]
theorem rZ.drop{b:List bT}(hL:rZ b){w:Nat}(hw:w<b.length):∀k (hk:k<b[w].Rows.length),rZ (b.set w ⟨b[w].Rows.eraseIdx k⟩)/\∀r∈cE (b.set w ⟨b[w].Rows.eraseIdx k⟩),r∈cE b/\r.Handle % 32≠b[w].Rows[k].Handle % 32:=by
 intro k hk;have hsub:(cE (b.set w ⟨b[w].Rows.eraseIdx k⟩)).Sublist (cE b):=by grind[QL,ND]
 have hnd:=hL.2.2.2;refine⟨⟨by simpa using hL.1,qK hsub.length_le hL.2.1,λr hr=>hL.2.2.1 r (hsub.subset hr),(hsub.map pB).nodup hnd⟩,λr hr=>⟨hsub.subset hr,?_⟩⟩;have hp:(cE b).Perm (b[w].Rows[k]::cE (b.set w ⟨b[w].Rows.eraseIdx k⟩)):=by rw[QL hw,ND hw];refine List.Perm.trans (List.Perm.append_left _ (List.Perm.append_right _ (aR3 hk))) ?_;simp
 grind[pB]
theorem a30{b:aA}(hb:kD b){w:Int}(hw:0<=w/\w<=2)(s:Sub) :
  ∃x y,xI b w s=some (x,y)/\qW s b w=some (y,x)/\∃m' L,x=⟨m',b.aD,L,b.lX⟩/\GD m'/\kR m'/\rZ L/\∀r∈cE L,mM m' r.Handle/\r.aJ<=b.aD.aJ:=by
 have hm:=hb.1.1;have hL:=hb.1.2.2.1;have hZ:=hb.1.2.2.2;have hsm:=(kR.facts hm).2.2.2.2.2.1;have hlen:w.toNat<b.aM.length:=by have:=hL.1;omega
 have hx:idx b.aM w=some b.aM[w.toNat]:=iC hw.1 (by omega);have hrow:=hL.small.2.2.2 _ (cZ hlen);have hmemL:b.aM[w.toNat]∈b.aM:=cZ hlen;have hset:=rZ.drop hL hlen;generalize b.aM[w.toNat]=l at hx hrow hset hmemL;have done:∀y:Sub,∃x z,(some (b,y):Option (aA×Sub))=some (x,z)/\(some (y,b):Option (Sub×aA))=some (z,x)/\∃m' L,x=⟨m',b.aD,L,b.lX⟩/\GD m'/\kR m'/\rZ L/\∀r∈cE L,mM m' r.Handle/\r.aJ<=b.aD.aJ:=
  λy=>⟨_,_,rfl,rfl,b.Mem,b.aM,rfl,hsm,hm,hL,hb.2⟩
 have hw1:aY ((l.Rows.length:Int)-1)=(l.Rows.length:Int)-1:=dM;have hhas:MS b.aM w s.Row=some (decide (0<=s.Row/\s.Row<=(l.Rows.length:Int)-1)):=by simp_all[MS,IA,oH,dD]
 unfold xI qW;rw[hhas,hx];simp only[aE,bV,cN,hw1];have hat:∃a:Bool,(if decide (0<=s.Row/\s.Row<=(l.Rows.length:Int)-1)=true then(idx l.Rows s.Row).bind λx15=>gT s b w (x15.Handle == s.H) else gT s b w false)=gT s b w a /\
   (if(!decide (0<=s.Row/\s.Row<=(l.Rows.length:Int)-1))=true then gI b s true else(idx l.Rows s.Row).bind λx11=>gI b s (x11.Handle != s.H))=gI b s (!a) /\
   (a=true->∃r,r∈l.Rows/\idx l.Rows s.Row=some r/\r.Handle=s.H/\0<=s.Row/\s.Row<l.Rows.length) /\
   (a=false->∀f:eB->Option (aA×Sub),(if(!decide (0<=s.Row/\s.Row<=(l.Rows.length:Int)-1))=true then gJ b w s l true else(idx l.Rows s.Row).bind λx=>if(x.Handle != s.H)=true then gJ b w s l true else f x)=gJ b w s l true):=by
  by_cases q:0<=s.Row/\s.Row<=(l.Rows.length:Int)-1
  ·have hr:idx l.Rows s.Row=some (l.Rows[s.Row.toNat]'(by omega)):=iC q.1 (by omega);by_cases q2:(l.Rows[s.Row.toNat]'(by omega)).Handle=s.H
   ·refine⟨true,?_,?_,λ_=>⟨_,cZ _,hr,q2,q.1,by omega⟩,λh=>by cases h⟩
    ·rw[bY q,aL rfl,hr,aE,q2,beq_self_eq_true]
    ·rw[bY q,eD,hr,aE,q2,bne_self_eq_false];rfl
   ·have n1:((l.Rows[s.Row.toNat]'(by omega)).Handle == s.H)=false:=by simpa using q2
    have n2:((l.Rows[s.Row.toNat]'(by omega)).Handle != s.H)=true:=by simpa using q2
    refine⟨false,?_,?_,(λh=>by cases h),λ_ f=>?_⟩
    ·rw[bY q,aL rfl,hr,aE,n1]
    ·rw[bY q,eD,hr,aE,n2];rfl
    ·rw[bY q,eD,hr,aE,n2,aL rfl]
  simp_all[eF]
 obtain⟨a,ha1,ha2,ha3,ha4⟩:=hat;rw[ha1,ha2];unfold gT;by_cases p0:s.Pc=0
 ·simp_all
 have p0':(s.Pc == 0)=false:=by grind
 simp only[p0',bN,bL];by_cases p1:s.Pc=1
 ·simp only[p1,beq_self_eq_true,bR];rcases bHV hx (by omega) s with ⟨e1,e2⟩|⟨k,hk,e1,e2⟩
  ·simp_all[bO]
  simp_all[aP,aT]
 have p1':(s.Pc == 1)=false:=by grind
 simp only[p1',bN,bL];by_cases p2:s.Pc=2
 ·simp only[p2,beq_self_eq_true,bR,oH,aE];by_cases hB:0<=s.B/\s.B<=2
  ·rw[bY hB];simp only[iN,bN,bL,bR];cases a with
   |true=>
    have hz:idx b.lX s.B=some (b.lX[s.B.toNat]'(by have:=hZ.1;omega)):=iC hB.1 (by have:=hZ.1;omega);simp only[gI,fJ,iN,bN,bL,bR,hz,aE,vZ];by_cases q:(b.lX[s.B.toNat]'(by grind))=s.H
    ·simp_all
    ·have q':((b.lX[s.B.toNat]'(by grind)) == s.H)=false:=by grind
     simp only[q',bN,bL];by_cases q3:aY (s.B+1)=3
     ·simp_all
     simp_all
   |false=>
    simp_all[gI,fJ,dV,bV,bO]
  simp_all[eF,gI,fJ,dV,bV,bO]
 have p2':(s.Pc == 2)=false:=by grind
 simp only[p2',bN,bL,fJ];by_cases p3:s.Pc=3
 ·simp only[p3,beq_self_eq_true,bR];cases a with
  |false=>
   rw[ha4 rfl];simp_all[gJ,dV,bV,bO]
  |true=>
   obtain⟨r,hrm,hr,hrH,r0,r1⟩:=ha3 rfl;obtain⟨v,e1,e2⟩:=a6W r s.E;rw[bY (show 0<=s.Row/\s.Row<=(l.Rows.length:Int)-1 by omega)];simp only[iN,bN,bL,bR,hr,aE,hrH,bne_self_eq_false,hx,e1,e2];cases v with
   |false=>
    simp_all[gJ,dV,bV,bO]
   |true=>
    have hlive:mM b.Mem s.H:=by have:r∈cE b.aM:=aKZ.2 ⟨l,hmemL,hrm⟩;have:=(hb.2 r this).1;grind
    obtain⟨m',f1,f2,f3,f4⟩:=aOW hm hw hlive;have ew:aY (s.Row+1)=s.Row+1:=dM;have hdrop:PK b.aM w s.Row=some (b.aM.set w.toNat ⟨((dA l.Rows s.Row.toNat (l.Rows.drop (s.Row+1).toNat)).take (s.Row.toNat+(l.Rows.length-(s.Row+1).toNat))).drop 0⟩,true):=by
     unfold PK ES;rw[VB hL.small.2.2.1 (λs h=>by have:=hL.small.2.2.2 s h;omega),FI hL.small.1,bY hL,hhas,bY (show 0<=s.Row/\s.Row<=(l.Rows.length:Int)-1 by omega)];simp only[aE,iN,bN,bL,hx,ew];unfold FV;rw[J5,SU,J5,J5,J5,b9]
     ·rfl
     grind[fI]
    simp only[gJ,dV,GA,ew,iN,bN,bL,bR];rw[J5,J5,J5,gK,aL hlive.1,aE,f1,f2,hdrop];have hk:s.Row.toNat<l.Rows.length:=by omega
    have eL:((dA l.Rows s.Row.toNat (l.Rows.drop (s.Row+1).toNat)).take (s.Row.toNat+(l.Rows.length-(s.Row+1).toNat))).drop 0=l.Rows.eraseIdx s.Row.toNat:=by rw[show(s.Row+1).toNat=s.Row.toNat+1 by omega];exact del_eq hk
    have er:l.Rows[s.Row.toNat]=r:=by grind[aT]
    rw[eL] at hdrop ⊢;obtain⟨g1,g2⟩:=hset s.Row.toNat hk;refine⟨_,_,rfl,rfl,m',_,rfl,f3,f4.1,g1,λq hq=>?_⟩;obtain⟨g3,g4⟩:=g2 q hq;obtain⟨g5,g6⟩:=hb.2 q g3;refine⟨f4.live g5 λe=>?_,g6⟩;grind
 simp_all[dV,bO]
theorem YN.fits{b:aA}(h:YN b):b.Mem.Heap.Bytes.length<=maxLen/\(eG b.Mem.aC).length<=1073741824/\b.aD.cG.length<=maxLen/\b.aM.length<=maxLen/\(cE b.aM).length<=1073741824/\b.lX.length<=maxLen:=by
 have hb:(1048576:Nat)<=maxLen:=by simp[maxLen]
 have g1:=h.1.1;have g2:=h.1.2.2.2.2;have g3:=h.2.1;have g4:=h.2.2.1;have g5:=h.2.2.2.1;have g6:=h.2.2.2.2;omega
theorem step_eq{b:aA}(hb:kD b)(hs:YN b){w:Int}(hw:0<=w/\w<=2)(s:Sub) :
  ∃x y,X6 b w s=some (x,y)/\rP s b w=some (y,x)/\kD x:=by
 have hz:=hb.1.2.2.2.1;have hl:=hb.1.2.2.1;unfold X6 rP;cases hd:s.iB with
 |true=>grind
 |false=>
  simp only[bN,bL];by_cases k1:s.Kind=1
  ·obtain⟨x,y,e1,e2,m,rfl,h1,h2⟩:=alloc_eq hb.1.1 hw s;simp only[k1,beq_self_eq_true,bR,e1,e2,aE];exact⟨_,_,rfl,rfl,⟨h2.1,hb.1.2⟩,λr hr=>⟨h2.live (hb.2 r hr).1 (by omega),(hb.2 r hr).2⟩⟩
  have k1':(s.Kind == 1)=false:=by grind
  simp only[k1',bN,bL];by_cases k2:s.Kind=2
  ·obtain⟨x,y,e1,e2,L,rfl,h1,h2⟩:=a8Y hb hs hw s;simp only[k2,beq_self_eq_true,bR,e1,e2,aE];exact⟨_,_,rfl,rfl,⟨hb.1.1,hb.1.2.1,h1,hb.1.2.2.2⟩,h2⟩
  have k2':(s.Kind == 2)=false:=by grind
  simp only[k2',bN,bL];by_cases k3:s.Kind=3
  ·obtain⟨x,y,e1,e2,c,rfl,h1,h2⟩:=a3U hb.1.2.1 s;simp only[k3,beq_self_eq_true,bR,e1,e2,aE];exact⟨_,_,rfl,rfl,⟨hb.1.1,h1,hb.1.2.2⟩,λr hr=>⟨(hb.2 r hr).1,aTD (hb.2 r hr).2 h2⟩⟩
  have k3':(s.Kind == 3)=false:=by grind
  simp only[k3',bN,bL];by_cases k4:s.Kind=4
  ·obtain⟨x,y,e1,e2,m,L,rfl,h1,h2,h3,h4⟩:=a30 hb hw s;simp only[k4,beq_self_eq_true,bR,e1,e2,aE];exact⟨_,_,rfl,rfl,⟨h2,hb.1.2.1,h3,hb.1.2.2.2⟩,h4⟩
  have k4':(s.Kind == 4)=false:=by grind
  simp only[k4',bN,bL];by_cases k5:s.Kind=5
  ·obtain⟨x,y,e1,e2,c,rfl,h1,h2⟩:=bMD hb.1.2.1 hw s;simp only[k5,beq_self_eq_true,bR,e1,e2,aE];exact⟨_,_,rfl,rfl,⟨hb.1.1,h1,hb.1.2.2⟩,λr hr=>⟨(hb.2 r hr).1,aTD (hb.2 r hr).2 h2⟩⟩
  have k5':(s.Kind == 5)=false:=by grind
  simp only[k5',bN,bL,bV,bO,aE];grind
theorem kD.small{b:aA}(hb:kD b):YN b:=by have h1:=hb.1.2.1.2.1;have h2:=hb.1.2.2.1.1;have h3:=hb.1.2.2.1.2.1;have h4:=hb.1.2.2.2.1;exact⟨(kR.facts hb.1.1).2.2.2.2.2.1,by omega,by omega,by omega,by omega⟩
def A2(s:Sub)(code:Int):Sub:={s with Code:=code,iB:=true}
def OB(n:Int):Int:=if 1<=n/\n<=8 then 0 else if 1<=n/\n<=16 then 1 else if 1<=n/\n<=40 then 2 else -1
theorem a31(n:Int):-1<=OB n/\OB n<=2:=by grind[OB]
theorem a84(n:Int):I9 n=some (OB n):=by
 have s1:∀k,0<=k/\k<=2->gQ n k=some (if 1<=n/\n<=iA k then .stop (Out.ret k) else .next (k+1)):=λk hk=>by simp only[gQ];rw[cY,RZ,aE,cN,aE,dM];grind
 have z0:iA 0=8:=rfl;have z1:iA 1=16:=rfl;have z2:iA 2=40:=rfl;unfold I9 OB;by_cases q0:1<=n/\n<=8
 ·rw[bB (by rw[s1 0 (by omega),aL (by omega)]),aL q0];rfl
 ·rw[bP (by rw[s1 0 (by omega),nC]),aP q0,show(0:Int)+1=1 from rfl];by_cases q1:1<=n/\n<=16
  ·rw[bB (by rw[s1 1 (by omega),aL (by omega)]),aL q1];rfl
  ·rw[bP (by rw[s1 1 (by omega),nC]),aP q1,show(1:Int)+1=2 from rfl];by_cases q2:1<=n/\n<=40
   ·rw[bB (by rw[s1 2 (by omega),aL (by omega)]),aL q2];rfl
   ·rw[bP (by rw[s1 2 (by omega),nC]),aP q2,show(2:Int)+1=3 from rfl,bB (body:=gQ n) (r:=Out.brk ()) (by simp[gQ])];rfl
def R8(l:List Int):List Int×Int:=(l.dropLast,l.getLastD (-1))
theorem aOX{s:bJ}(h:s.aV.length<=1048576):vV s=some (⟨(R8 s.aV).1⟩,(R8 s.aV).2):=by
 unfold vV UY R8;obtain⟨l⟩:=s;rcases aGX l with rfl|⟨L,b,rfl⟩
 ·rfl
 ·simp only[aUV] at h ⊢;have hl:(L++[b]).length=L.length+1:=by simp
  rw[hl,dM,show((L.length+1:Nat):Int)-1=(L.length:Int) by omega,SU,J5,RY];simp
def JY(m:Mem)(w c:Int):Mem×Int:=(⟨m.Heap,⟨m.aC.Global,m.aC.Own.set (w*3+c).toNat ⟨(R8 (fA m.aC.Own (w*3+c).toNat)).1⟩⟩⟩,(R8 (fA m.aC.Own (w*3+c).toNat)).2)
def B8(m:Mem)(c:Int):Mem×Int:=(⟨m.Heap,⟨m.aC.Global.set c.toNat ⟨(R8 (fA m.aC.Global c.toNat)).1⟩,m.aC.Own⟩⟩,(R8 (fA m.aC.Global c.toNat)).2)
def pgF(h:Heap):Nat:=h.Class.findIdx (λx=>decide (x = -1))
def A3(m:Mem)(c:Int):Mem×Int:=if pgF m.Heap=6 then(m,-1) else
 (⟨⟨gB m.Heap.Bytes (pgF m.Heap) c (cK c).toNat,m.Heap.Class.set (pgF m.Heap) c⟩,⟨m.aC.Global.set c.toNat ⟨fA m.aC.Global c.toNat++(gS (pgF m.Heap) (cK c).toNat).drop 1⟩,m.aC.Own⟩⟩,(pgF m.Heap:Int)*4)
theorem bDQ{h:Heap}(hs:fP h):pgF h<=6:=by rw[<-hs.2.1];exact List.findIdx_le_length
theorem a32{h:Heap}(hs:fP h)(hq:pgF h≠6):pgF h<6/\cD h (pgF h) = -1:=by
 have h6:=hs.2.1;have hlt:pgF h<6:=by grind[bDQ]
 refine⟨hlt,?_⟩;rw[<-aDN hs hlt];have:=List.findIdx_getElem (xs:=h.Class) (p:=λx=>decide (x = -1)) (w:=by grind[pgF]);exact of_decide_eq_true this
theorem bHW{h:Heap}(hs:fP h):∀j (hj:j<6),j<pgF h->cD h j≠-1:=λj hj hlt=>by have:=List.not_of_lt_findIdx hlt;grind[aDN]
theorem bMF{h:Heap}(hh:HOk h){c:Int}(hc:0<=c/\c<=2):vW h c=some (if pgF h=6 then(h,[]) else(⟨gB h.Bytes (pgF h) c (cK c).toNat,h.Class.set (pgF h) c⟩,gS (pgF h) (cK c).toNat)):=by
 have hs:=hh.1;have h6:=hs.2.1;have h384:=hs.1;have hle:=bDQ hs;have s1:∀k (hk:k<pgF h),fW h c (k:Int)=some (.next ((k+1:Nat):Int)):=λk hk=>by
  have n:(h.Class[k] != -1)=true:=by grind[bHW,aDN]
  simp only[fW,N3];rw[cY,RY,aE,n,aL rfl,dM];rfl
 unfold vW;by_cases hq:pgF h=6
 ·have a1:loop (fW h c) 0=some (Out.brk ()):=dW (pgF h) (λk=>(k:Int)) _ s1 (by simp_all[fW]);rw[a1,aL hq];rfl
 ·obtain⟨hlt,he⟩:=a32 hs hq;rw[<-aDN hs hlt] at he;generalize hqq:pgF h=q at *;have a1:loop (fW h c) 0=some (Out.ret (⟨gB h.Bytes q c (cK c).toNat,h.Class.set q c⟩,gS q (cK c).toNat)):=dW q (λk=>(k:Int)) _ s1 (by
   have e0:aY ((q:Int)*64)=((q*64:Nat):Int):=by grind[cA]
   have e1:aY (((q*64:Nat):Int)+1)=((q*64+1:Nat):Int):=by grind[cA]
   have e2:aY (((q*64:Nat):Int)+2)=((q*64+2:Nat):Int):=by grind[cA]
   have n:(h.Class[q] != -1)=false:=by grind
   simp only[fW,e0,e1,e2,NM];rw[cY,RY,aE,n,eD,RY,aE,aT (by simp;omega),aE,jN,aE,aT (by simp;omega),aE];have:=aRY h384 hlt hc;simp only[gB] at this;rw[this];rfl)
  rw[a1,aP hq];rfl
theorem a85{m:Mem}(hm:kR m){c:Int}(hc:0<=c/\c<=2):JC m c=some (A3 m c):=by
 have h3:=hm.1.2.1;have hpp:0<cK c:=i7.2 hc;have hp4:=oA c;obtain⟨_,_,_,_,_,_,_,_,hsG,_⟩:=kR.facts hm;unfold JC A3;rw[bMF hm.1.1 hc];by_cases hq:pgF m.Heap=6
 ·simp_all
 ·have hk:c.toNat<m.aC.Global.length:=by omega
  have hg0:=hsG _ (cZ hk);have hx:idx m.aC.Global c=some m.aC.Global[c.toNat]:=iC hc.1 (by omega);have hz:idx (gS (pgF m.Heap) (cK c).toNat) 0=some ((pgF m.Heap:Int)*4):=by grind[aT,gS]
  have hn:(((cK c).toNat:Int) == 0)=false:=by grind
  have ht:(gS (pgF m.Heap) (cK c).toNat).take (cK c).toNat=gS (pgF m.Heap) (cK c).toNat:=aK4 (by grind[aKL]);have hd:((gS (pgF m.Heap) (cK c).toNat).drop 1).length<=4:=by grind
  simp only[aP hq,aE,aKL,hn,bN,bL,hx,hz,N4,ht];grind[b9,dS]
def a33(m:Mem)(s:Int):Int:=if 1<=j5 m.Heap s/\j5 m.Heap s<=6 then j5 m.Heap s*32+s else 0
theorem bHX{m:Mem}(hs:fP m.Heap){s:Int}(hc:0<=bI m.Heap s):D2 m s=some (a33 m s):=by
 unfold D2 UZ BX a33;rw[rV hs hc,aE,cN,cN];have h1:=(sM hc).1;simp only[bY h1,aE,iN,bN,bL];by_cases q:1<=j5 m.Heap s/\j5 m.Heap s<=6
 ·simp only[bY q,iN,bN,bL,aL q];grind[cA]
 grind
def R9(b:aA)(s:Sub)(p:Mem×Int):aA×Sub:=
 if 0<=p.2 then({b with Mem:=p.1},A2 {s with Out:=a33 p.1 p.2} 0) else if s.Pc=3 then({b with Mem:=p.1},A2 s 3) else({b with Mem:=p.1},{s with Pc:=s.Pc+1})
def aCT(b:aA)(w:Int)(s:Sub):aA×Sub:=
 if OB s.A<0 then(b,A2 s 2)
 else if s.Pc=0 then R9 b s (JY b.Mem w (OB s.A))
 else if s.Pc=1\/s.Pc=3 then R9 b s (B8 b.Mem (OB s.A))
 else if s.Pc=2 then R9 b s (A3 b.Mem (OB s.A))
 else(b,A2 s 1)
theorem a86{b:aA}(hm:kR b.Mem){w:Int}(hw:0<=w/\w<=2)(s:Sub):D3 b w s=some (aCT b w s):=by
 obtain⟨hcnt,h3,h9,h1,h2,hsm,hcp,hlo,hsG,hsO⟩:=kR.facts hm;have hs:=hm.1.1.1;have hr:=a31 s.A;unfold D3 aCT;rw[a84];simp only[aE];by_cases c0:OB s.A<0
 ·simp only[bY c0,bR,bV,aL c0];rfl
 generalize OB s.A=c at *;have hc:0<=c/\c<=2:=by omega
 simp only[eF c0,bN,bL,aP c0];have fin:∀(p:Mem×Int),-1<=p.2->(0<=p.2->fP p.1.Heap/\0<=bI p.1.Heap p.2)->s.Pc<=3/\0<=s.Pc->j3 s p.2 ⟨p.1,b.aD,b.aM,b.lX⟩=some (R9 b s p):=by
  intro p hp hx hpc;unfold j3 R9;simp only[BZ,X5,bV];by_cases x0:0<=p.2
  ·rw[eF (show ¬p.2<0 by omega),bY x0];simp only[bN,bL,bR,aL x0,bHX (hx x0).1 (hx x0).2,aE];rfl
  ·rw[bY (show p.2<0 by omega),eF x0];by_cases p3:s.Pc=3
   ·have p3':(s.Pc == 3)=true:=by grind
    simp only[p3',bR,aP x0,aL p3,aE];rfl
   ·have p3':(s.Pc == 3)=false:=by grind
    have e:aY (s.Pc+1)=s.Pc+1:=dM;grind
 have popL:∀l:List Int,-1<=(R8 l).2\/(R8 l).2∈l:=λl=>by unfold R8;grind
 by_cases p0:s.Pc=0
 ·have hk:(w*3+c).toNat<b.Mem.aC.Own.length:=by omega
  have hx:idx b.Mem.aC.Own (w*3+c)=some b.Mem.aC.Own[(w*3+c).toNat]:=iC (by omega) (by omega);obtain⟨l,t,x,e1,e2,e3,g1,g2,g3⟩:=aR2 hm hw hc;have hl:=hsO _ (cZ hk);rw[hx] at e1;cases e1;rw[aOX (by omega)] at e2;have ep:JY b.Mem w c=(⟨b.Mem.Heap,⟨b.Mem.aC.Global,b.Mem.aC.Own.set (w*3+c).toNat t⟩⟩,x):=by grind[JY,dS]
  have hx0:-1<=x:=by
   injection e2 with e2;injection e2 with e4 e5
   rcases popL b.Mem.aC.Own[(w*3+c).toNat].aV with h|h
   ·omega
   ·rw[<-e5];have:=hm.1.2.2.2.2.1 _ (aPC _ (aKZ.2 ⟨_,cZ hk,h⟩));omega
  have p0':(s.Pc == 0)=true:=by grind
  have:=fin (JY b.Mem w c) (by grind) (by grind) (by omega);rw[ep] at this;simp only[p0',bR,aL p0,(WZ hw hc).1,aE,hx];grind[aOX]
 ·have p0':(s.Pc == 0)=false:=by grind
  simp only[p0',bN,bL,B4,aP p0];have hk:c.toNat<b.Mem.aC.Global.length:=by omega
  have hx:idx b.Mem.aC.Global c=some b.Mem.aC.Global[c.toNat]:=iC (by omega) (by omega);obtain⟨l,t,x,e1,e2,e3,g1,g2,g3⟩:=aFI hm hc;have hl:=hsG _ (cZ hk);rw[hx] at e1;cases e1;rw[aOX (by omega)] at e2;have ep:B8 b.Mem c=(⟨b.Mem.Heap,⟨b.Mem.aC.Global.set c.toNat t,b.Mem.aC.Own⟩⟩,x):=by grind[B8,dS]
  have hx0:-1<=x:=by
   injection e2 with e2;injection e2 with e4 e5
   rcases popL b.Mem.aC.Global[c.toNat].aV with h|h
   ·omega
   ·rw[<-e5];have:=hm.1.2.2.2.2.1 _ (aPB _ (aKZ.2 ⟨_,cZ hk,h⟩));omega
  have tg:0<=s.Pc/\s.Pc<=3->(idx b.Mem.aC.Global c).bind (λx13=>(vV x13).bind λx14=>j3 s x14.2 ({b with Mem:=(⟨b.Mem.Heap,(⟨b.Mem.aC.Global.set c.toNat x14.1,b.Mem.aC.Own⟩:aC)⟩:Mem)}:aA))=some (R9 b s (B8 b.Mem c)):=λhpc=>by grind[aOX]
  by_cases p1:s.Pc=1
  ·grind
  ·have p1':(s.Pc == 1)=false:=by grind
   simp only[p1',bN,bL];by_cases p3:s.Pc=3
   ·grind
   ·have p3':(s.Pc == 3)=false:=by grind
    have n13:¬(s.Pc=1\/s.Pc=3):=by omega
    simp only[p3',bN,bL,aP n13];by_cases p2:s.Pc=2
    ·obtain⟨m',y,f1,f2,k1,k2,k3⟩:=a0W hm hc;have hg:=a85 hm hc;rw[f1] at hg;have hg':A3 b.Mem c=(m',y):=by grind
     have hy:-1<=(A3 b.Mem c).2:=by grind[A3]
     grind
    ·have p2':(s.Pc == 2)=false:=by grind
     simp only[p2',bN,bL,bV,aP p2,aE];rfl
def dB(c:aD)(w:Int):yN:=c.cG.getD w.toNat ⟨false,0,false,0⟩
theorem LF{c:aD}(hc:NJ c){w:Int}(hw:0<=w/\w<=2):idx c.cG w=some (dB c w):=by have:=hc.2.1;grind[iC,dB]
def KN(c:aD)(w e:Int):aD×Bool:=
 if(dB c w).On=false\/(dB c w).gG=true\/(dB c w).aJ=e then(c,true)
 else if(dB c w).Seen=2 then(⟨c.aJ,c.cG.set w.toNat {dB c w with gG:=true,Seen:=0}⟩,true)
 else(⟨c.aJ,c.cG.set w.toNat {dB c w with Seen:=(dB c w).Seen+1}⟩,false)
theorem aR4{c:aD}(hc:NJ c){w:Int}(hw:0<=w/\w<=2):POk c.aJ (dB c w):=by
 have:=LF hc hw;have h2:=hc.2.1;rw[iC hw.1 (by omega)] at this;injection this with this
 rw[<-this];exact hc.2.2 _ (cZ _)
theorem bDR{c:aD}(hc:NJ c){w:Int}(hw:0<=w/\w<=2)(e:Int):M4 c w e=some (KN c w e):=by have hp:=aR4 hc hw;have hx:=LF hc hw;have hsm:=hc.small;unfold M4 JE KN;rw[oG hsm.1,jP,bY hc,cN,bY hw,hx];simp only[aE,iN,bN,bL,uA,hx];generalize dB c w=p at *;have ew:aY (p.Seen+1)=p.Seen+1:=cA (by have:=hp.2.1;omega) (by have:=hp.2.1;omega);grind
def aLK(c:aD)(e:Int):aD×Bool:=if c.aJ=e/\e≠100000 then(⟨e+1,c.cG⟩,true) else(c,false)
theorem bDS{c:aD}(hc:NJ c)(e:Int):WK c e=some (aLK c e):=by
 have hsm:=hc.small;unfold WK JF aLK;rw[oG hsm.1,jP,bY hc];simp only[aE,iN,bN,bL];by_cases h1:c.aJ=e
 ·have he:=hc.1;grind[cA]
 ·simp[h1]
def VE(c:aD)(w e:Int):aD×Bool:=if 0<=e/\e<=c.aJ then(⟨c.aJ,c.cG.set w.toNat ⟨true,e,false,0⟩⟩,true) else(c,false)
theorem a87{c:aD}(hc:NJ c){w:Int}(hw:0<=w/\w<=2)(e:Int):RR c w e=some (VE c w e):=by have hsm:=hc.small;unfold RR D4 VE;rw[oG hsm.1,jP,bY hc,cN,bY hw,cN];simp only[aE,iN,bN,bL];grind[LF]
def OC(c:aD)(w:Int):aD×Bool:=if(dB c w).On then(⟨c.aJ,c.cG.set w.toNat ⟨false,0,false,0⟩⟩,true) else(c,false)
theorem aVP{c:aD}(hc:NJ c){w:Int}(hw:0<=w/\w<=2):X7 c w=some (OC c w):=by have hsm:=hc.small;have hx:=LF hc hw;unfold X7 D5 OC;rw[oG hsm.1,jP,bY hc,cN,bY hw,hx];grind
def fM(b:aA)(s:Sub):aA×Sub:=
 if s.Pc=0 then(b,{s with Pc:=1,E:=b.aD.aJ,B:=0})
 else if s.Pc=1 then
  if 0<=s.B/\s.B<=2 then
   if(KN b.aD s.B s.E).2 then({b with aD:=(KN b.aD s.B s.E).1},{s with Pc:=if s.B=2 then 2 else 1,B:=s.B+1})
   else({b with aD:=(KN b.aD s.B s.E).1},A2 s 8)
  else(b,A2 s 1)
 else if s.Pc=2 then({b with aD:=(aLK b.aD s.E).1},A2 {s with Out:=if(aLK b.aD s.E).2 then 1 else s.Out} 0)
 else(b,A2 s 1)
theorem a0X{b:aA}(hc:NJ b.aD)(s:Sub):xH b s=some (fM b s):=by
 unfold xH fM;rw[bDS hc,cN];simp only[bV,vX,vY,aE];by_cases p0:s.Pc=0
 ·grind
 ·have p0':(s.Pc == 0)=false:=by grind
  simp only[p0',bN,bL,aP p0];by_cases p1:s.Pc=1
  ·have p1':(s.Pc == 1)=true:=by grind
   simp only[p1',bR,aL p1];by_cases hB:0<=s.B/\s.B<=2
   ·have ew:aY (s.B+1)=s.B+1:=dM;simp only[bY hB,iN,bN,bL,aL hB,bDR hc hB,aE,ew];grind[A2]
   ·simp only[eF hB,KO,bR,aP hB];rfl
  ·have p1':(s.Pc == 1)=false:=by grind
   simp only[p1',bN,bL,aP p1];by_cases p2:s.Pc=2
   ·have p2':(s.Pc == 2)=true:=by grind
    simp only[p2',bR,aL p2];cases h:(aLK b.aD s.E).2<;>rfl
   ·have p2':(s.Pc == 2)=false:=by grind
    simp only[p2',bN,bL,aP p2];rfl
def B9(b:aA)(w:Int)(s:Sub):aA×Sub:=
 if s.Pc=0 then(b,{s with Pc:=1,E:=b.aD.aJ})
 else if s.Pc=1 then
  if(VE b.aD w s.E).2 then({b with aD:=(VE b.aD w s.E).1},{s with Pc:=2}) else({b with aD:=(VE b.aD w s.E).1},A2 s 1)
 else if s.Pc=2 then if b.aD.aJ=s.E then(b,A2 s 0) else(b,{s with Pc:=0})
 else(b,A2 s 1)
theorem bHY{b:aA}(hc:NJ b.aD){w:Int}(hw:0<=w/\w<=2)(s:Sub):M5 b w s=some (B9 b w s):=by
 unfold M5 B9;rw[a87 hc hw];simp only[bV,aE];by_cases p0:s.Pc=0
 ·grind
 ·have p0':(s.Pc == 0)=false:=by grind
  simp only[p0',bN,bL,aP p0];by_cases p1:s.Pc=1
  ·have p1':(s.Pc == 1)=true:=by grind
   simp only[p1',bR,aL p1];cases h:(VE b.aD w s.E).2<;>rfl
  ·have p1':(s.Pc == 1)=false:=by grind
   simp only[p1',bN,bL,aP p1];by_cases p2:s.Pc=2
   ·have p2':(s.Pc == 2)=true:=by grind
    simp only[p2',bR,aL p2];by_cases q:b.aD.aJ=s.E
    ·have q':(b.aD.aJ == s.E)=true:=by grind
     simp only[q',bR,aL q];rfl
    grind
   ·have p2':(s.Pc == 2)=false:=by grind
    simp only[p2',bN,bL,aP p2];rfl
def dR(l:List bT)(w:Int):List eB:=(l.getD w.toNat ⟨[]⟩).Rows
theorem SA{l:List bT}(hl:rZ l){w:Int}(hw:0<=w/\w<=2):idx l w=some ⟨dR l w⟩:=by have:=hl.1;rw[iC hw.1 (by omega)];simp[dR,OI,mP (show w.toNat<l.length by omega)]
theorem aVQ{l:List bT}(hl:rZ l){w:Int}(hw:0<=w/\w<=2):(dR l w).length<=24:=by
 have h:=SA hl hw;have h3:=hl.1;rw[iC hw.1 (by omega)] at h;injection h with h
 have:=hl.small.2.2.2 _ (cZ (show w.toNat<l.length by omega));grind
def y9(b:aA)(w:Int)(s:Sub):aA×Sub:=
 if s.Pc=0 then(b,{s with Pc:=1,E:=b.aD.aJ})
 else if s.Pc=1 then
  if 0<=s.E/\s.E<=b.aD.aJ then
   if mM b.Mem s.A/\¬bD b.aM (s.A % 32) then({b with aM:=b.aM.set w.toNat ⟨dR b.aM w++[⟨s.A,s.E⟩]⟩},A2 s 0) else(b,A2 s 4)
  else(b,A2 s 1)
 else(b,A2 s 1)
theorem a34{b:aA}(hb:kD b){w:Int}(hw:0<=w/\w<=2)(s:Sub):AO b w s=some (y9 b w s):=by
 have hL:=hb.1.2.2.1;have hm:=hb.1.1;obtain⟨h1,h2,h3,_⟩:=kR.facts hm;have hx:=SA hL hw;have hrow:=aVQ hL hw;unfold AO y9;rw[cN,qG hm.1.1.1 (by omega) (by grind[maxLen]) (by grind[maxLen]),gK];simp only[bV,aE,y6,JD];by_cases p0:s.Pc=0
 ·grind
 ·have p0':(s.Pc == 0)=false:=by grind
  simp only[p0',bN,bL,aP p0];by_cases p1:s.Pc=1
  ·have p1':(s.Pc == 1)=true:=by grind
   simp only[p1',bR,aL p1];by_cases q1:0<=s.E/\s.E<=b.aD.aJ
   ·simp only[bY q1,iN,bN,bL,aL q1];by_cases q2:mM b.Mem s.A
    ·have hh:=q2.1;simp only[bY q2,iN,bN,bL,aL hh,FJ hL,aE];by_cases q3:bD b.aM (s.A % 32)
     ·simp only[bY q3,bR,aP (show ¬(mM b.Mem s.A/\¬bD b.aM (s.A % 32)) from λh=>h.2 q3)];rfl
     ·simp only[eF q3,bN,bL,hx,aE,aL (show mM b.Mem s.A/\¬bD b.aM (s.A % 32) from⟨q2,q3⟩)];rw[SW];rfl
    ·simp only[eF q2,KO,bR,aP (show ¬(mM b.Mem s.A/\¬bD b.aM (s.A % 32)) from λh=>q2 h.1)];rfl
   ·simp only[eF q1,KO,bR,aP q1];rfl
  ·have p1':(s.Pc == 1)=false:=by grind
   simp only[p1',bN,bL,aP p1];rfl
def NF(r:eB)(e:Int):Prop:=2<=e/\r.aJ<=aY (e-2)
instance (r:eB) (e:Int):Decidable (NF r e):=by unfold NF;infer_instance
theorem aR5(r:eB)(e:Int):QK r e=some (decide (NF r e)):=by unfold QK P5 NF;grind
def uK(l:List eB)(e:Int)(k:Nat):Nat:=k+(l.drop k).findIdx (λr=>decide (NF r e))
theorem bDT{l:List eB}(hl:l.length<=1000){from_ e:Int}:B5 l from_ e=some (if uK l e from_.toNat<l.length then(uK l e from_.toNat:Int) else -1):=by
 have hst:(if 0<from_ then from_ else 0)=(from_.toNat:Int):=by omega
 unfold B5;rw[hst];have key:∀d k:Nat,l.length<=k+d->loop (fX l e) (k:Int)=some (if uK l e k<l.length then Out.ret (uK l e k:Int) else Out.brk ()):=by
  intro d;induction d with
  |zero=>
   intro k hk;rw[bB (r:=Out.brk ()) (by simp_all[fX,aP]),aP (by grind[uK])]
  |succ d ih=>
   intro k hk;by_cases hkl:k<l.length
   ·have hd:l.drop k=l[k]::l.drop (k+1):=zF hkl;by_cases hr:NF l[k] e
    ·have hs:uK l e k=k:=by grind[uK]
     simp_all[bB,fX,aT,aR5]
    ·have hs:uK l e k=uK l e (k+1):=by unfold uK;grind
     rw[bP (s':=((k+1:Nat):Int)) (by simp only[fX];rw[cY,aT hkl,aE,aR5 _ e,aE,eF hr,eD,dM];rfl),ih (k+1) (by omega),hs]
   grind
 rw[key l.length from_.toNat (by omega)];split<;>rfl
theorem a35{l:List eB}{e:Int}{k:Nat}(h:uK l e k<l.length):k<=uK l e k/\NF l[uK l e k] e:=by
 refine⟨by grind[uK],?_⟩;have h1:(l.drop k).findIdx (λr=>decide (NF r e))<(l.drop k).length:=by grind[uK]
 have:=List.findIdx_getElem (xs:=l.drop k) (p:=λr=>decide (NF r e)) (w:=h1);rw[List.getElem_drop] at this;exact of_decide_eq_true this
def sA(m:Mem)(w h:Int):Mem:=
 if h/32+1<=6 then
  if(fA m.aC.Own (w*3+bI m.Heap (h % 32)).toNat).length<2 then⟨⟨st4 m.Heap.Bytes (iU (h % 32) (bI m.Heap (h % 32))).toNat (h/32+1),m.Heap.Class⟩,⟨m.aC.Global,m.aC.Own.set (w*3+bI m.Heap (h % 32)).toNat ⟨fA m.aC.Own (w*3+bI m.Heap (h % 32)).toNat++[h % 32]⟩⟩⟩
  else⟨⟨st4 m.Heap.Bytes (iU (h % 32) (bI m.Heap (h % 32))).toNat (h/32+1),m.Heap.Class⟩,⟨m.aC.Global.set (bI m.Heap (h % 32)).toNat ⟨fA m.aC.Global (bI m.Heap (h % 32)).toNat++[h % 32]⟩,m.aC.Own⟩⟩
 else⟨⟨st4 m.Heap.Bytes (iU (h % 32) (bI m.Heap (h % 32))).toNat (h/32+1),m.Heap.Class⟩,m.aC⟩
theorem aIS{m:Mem}(hm:kR m){w h:Int}(hw:0<=w/\w<=2)(hv:mM m h):M3 m w (h % 32)=some (sA m w h):=by
 obtain⟨hcnt,h3,h9,h1,h2,hsm,hcp,hlo,hsG,hsO⟩:=kR.facts hm;have hs:=hm.1.1.1;have hh:=hv.1;have hcl:=dU hv.2.1;have hgo:=YM hcl;have hc2:0<=bI m.Heap (h % 32)/\bI m.Heap (h % 32)<=2:=by obtain⟨_,q,e⟩:=sM hcl;rw[e];exact i7.1 (by omega)
 have hg6:1<=h/32/\h/32<=6:=by grind[kC]
 have eo:iU (h % 32) (bI m.Heap (h % 32))=(((iU (h % 32) (bI m.Heap (h % 32))).toNat:Nat):Int):=by omega
 have ew:aY (h/32+1)=h/32+1:=dM;unfold M3 sA;rw[nD hs,aE,rV hs hcl,hv.2.2,aE,yC,aE,ew];generalize hgn:(iU (h % 32) (bI m.Heap (h % 32))).toNat=a at eo;rw[eo,N9 (by omega) (by omega) (by omega)];simp only[aE,RQ,RP,ew];generalize bI m.Heap (h % 32)=c at *;by_cases q:h/32+1<=6
 ·have hk:(w*3+c).toNat<m.aC.Own.length:=by omega
  have hx:idx m.aC.Own (w*3+c)=some m.aC.Own[(w*3+c).toNat]:=iC (by omega) (by omega);have hk2:c.toNat<m.aC.Global.length:=by omega
  have hx2:idx m.aC.Global c=some m.aC.Global[c.toNat]:=iC (by omega) (by omega);have b1:=hsO _ (cZ hk);have b2:=hsG _ (cZ hk2);rw[bY q,aL rfl,aL q];unfold aBT;rw[(WZ hw hc2).1];simp only[aE,hx,hx2,RO,aBR,aBS,<-dS hk,<-dS hk2];by_cases q2:m.aC.Own[(w*3+c).toNat].aV.length<2
  ·have y1:(m.aC.Own[(w*3+c).toNat].aV.length:Int)<2:=by omega
   simp only[bY y1,bR,aL q2];grind[b9]
  ·have y1:¬(m.aC.Own[(w*3+c).toNat].aV.length:Int)<2:=by omega
   simp only[eF y1,bN,bL,aP q2];grind[b9]
 simp_all[aP]
def a6X(z:List Int)(w:Int):Int:=z.getD w.toNat 0
theorem a88{z:List Int}(hz:aEJ z){w:Int}(hw:0<=w/\w<=2):idx z w=some (a6X z w):=by have:=hz.1;grind[iC,a6X]
def P9(l:List eB)(k:Int):eB:=l.getD k.toNat ⟨0,0⟩
theorem aCU{l:List eB}{k:Int}(h:0<=k/\k<l.length):idx l k=some (P9 l k):=by grind[iC,P9]
def UB(l:List eB)(s:Sub):Prop:=0<=s.Row/\s.Row<l.length/\(P9 l s.Row).Handle=s.H
instance (l:List eB) (s:Sub):Decidable (UB l s):=by unfold UB;infer_instance
def dO(b:aA)(w:Int)(s:Sub):aA×Sub:=
 if s.Pc=0 then(b,{s with Pc:=1,E:=b.aD.aJ,Row:=0})
 else if s.Pc=1 then
  if uK (dR b.aM w) s.E s.Row.toNat<(dR b.aM w).length then(b,{s with Pc:=2,Row:=(uK (dR b.aM w) s.E s.Row.toNat:Int),B:=0,H:=(P9 (dR b.aM w) (uK (dR b.aM w) s.E s.Row.toNat:Int)).Handle})
  else(b,A2 s 0)
 else if s.Pc=2 then
  if(0<=s.B/\s.B<=2)/\UB (dR b.aM w) s then
   if a6X b.lX s.B=s.H then(b,{s with Pc:=1,Row:=s.Row+1}) else(b,{s with Pc:=if s.B=2 then 3 else 2,B:=s.B+1})
  else(b,A2 s 1)
 else if s.Pc=3 then
  if UB (dR b.aM w) s/\NF (P9 (dR b.aM w) s.Row) s.E then({b with Mem:=sA b.Mem w s.H,aM:=b.aM.set w.toNat ⟨(dR b.aM w).eraseIdx s.Row.toNat⟩},{s with Pc:=1,Out:=aY (s.Out+1)})
  else(b,A2 s 1)
 else(b,A2 s 1)
theorem aCV{l:List bT}(hl:rZ l){w:Int}(hw:0<=w/\w<=2){r:eB}(hr:r∈dR l w):r∈cE l:=by
 have h:=SA hl hw;have h3:=hl.1;rw[iC hw.1 (by omega)] at h;injection h with h
 exact aKZ.2 ⟨l[w.toNat],cZ _,by grind⟩
theorem aR6{l:List eB}{k:Int}(h:0<=k/\k<l.length):P9 l k∈l:=by have:=aCU h;grind[iC]
theorem a0Y{b:aA}(hb:kD b){w:Int}(hw:0<=w/\w<=2)(s:Sub):xI b w s=some (dO b w s):=by
 have hL:=hb.1.2.2.1;have hm:=hb.1.1;have hx:=SA hL hw;have hrow:=aVQ hL hw;have hfl:=λr hr=>aCV hL hw (r:=r) hr;unfold xI dO;rw[hx];simp only[aE,bV];generalize dR b.aM w=l at *;by_cases p0:s.Pc=0
 ·grind
 have p0':(s.Pc == 0)=false:=by grind
 simp only[p0',bN,bL,aP p0];by_cases p1:s.Pc=1
 ·have p1':(s.Pc == 1)=true:=by grind
  simp only[p1',bR,aL p1,bDT (show l.length<=1000 by omega),aE];by_cases q:uK l s.E s.Row.toNat<l.length
  ·have n:¬(uK l s.E s.Row.toNat:Int)<0:=by omega
   simp only[aL q,eF n,bN,bL,aCU (l:=l) (k:=(uK l s.E s.Row.toNat:Int)) (by omega),aE]
  ·simp only[aP q,bY (show(-1:Int)<0 by omega),bR];rfl
 have p1':(s.Pc == 1)=false:=by grind
 simp only[p1',bN,bL,aP p1];have el:aY ((l.length:Int)-1)=(l.length:Int)-1:=dM;by_cases p2:s.Pc=2
 ·have p2':(s.Pc == 2)=true:=by grind
  simp only[p2',bR,aL p2,cN,el,aE,gI,vZ,bV];by_cases hB:0<=s.B/\s.B<=2
  ·simp only[bY hB,iN,bN,bL];by_cases hR:0<=s.Row/\s.Row<=(l.length:Int)-1
   ·simp only[bY hR,iN,bN,bL,aCU (l:=l) (k:=s.Row) (by omega),aE];by_cases hH:(P9 l s.Row).Handle=s.H
    ·have hH':((P9 l s.Row).Handle != s.H)=false:=by grind
     have ha:(0<=s.B/\s.B<=2)/\UB l s:=⟨hB,hR.1,by omega,hH⟩;have e1:aY (s.B+1)=s.B+1:=dM;have e2:aY (s.Row+1)=s.Row+1:=dM;simp only[hH',bN,bL,aL ha,a88 hb.1.2.2.2 hB,aE,e1,e2];grind
    ·have hH':((P9 l s.Row).Handle != s.H)=true:=by grind
     have ha:¬((0<=s.B/\s.B<=2)/\UB l s):=λh=>hH h.2.2.2;simp only[hH',bR,aP ha,aE];rfl
   ·have ha:¬((0<=s.B/\s.B<=2)/\UB l s):=λh=>hR ⟨h.2.1,by have:=h.2.2.1;omega⟩;simp only[eF hR,KO,bR,aP ha,aE];rfl
  ·have ha:¬((0<=s.B/\s.B<=2)/\UB l s):=λh=>hB h.1;simp only[eF hB,KO,bR,aP ha,aE];rfl
 have p2':(s.Pc == 2)=false:=by grind
 simp only[p2',bN,bL,aP p2];by_cases p3:s.Pc=3
 ·have p3':(s.Pc == 3)=true:=by grind
  simp only[p3',bR,aL p3,cN,el,aE,gJ,GA,bV];by_cases hR:0<=s.Row/\s.Row<=(l.length:Int)-1
  ·simp only[bY hR,iN,bN,bL,aCU (l:=l) (k:=s.Row) (by omega),aE];by_cases hH:(P9 l s.Row).Handle=s.H
   ·have hH':((P9 l s.Row).Handle != s.H)=false:=by grind
    simp only[hH',bN,bL,aR5,aE];by_cases hr:NF (P9 l s.Row) s.E
    ·have ha:UB l s/\NF (P9 l s.Row) s.E:=⟨⟨hR.1,by omega,hH⟩,hr⟩;have e2:aY (s.Row+1)=s.Row+1:=dM;have hlive:=(hb.2 _ (hfl _ (aR6 (l:=l) (k:=s.Row) (by omega)))).1;rw[hH] at hlive;have et:(s.Row+1).toNat=s.Row.toNat+1:=by omega
     simp only[bY hr,iN,bN,bL,aL ha,e2,gK,aL hlive.1,aE,aIS hm hw hlive,et];grind[b9,del_eq]
    ·have ha:¬(UB l s/\NF (P9 l s.Row) s.E):=λh=>hr h.2;simp only[eF hr,KO,bR,aP ha,aE];rfl
   ·have hH':((P9 l s.Row).Handle != s.H)=true:=by grind
    have ha:¬(UB l s/\NF (P9 l s.Row) s.E):=λh=>hH h.1.2.2;simp only[hH',bR,aP ha,aE];rfl
  ·have ha:¬(UB l s/\NF (P9 l s.Row) s.E):=λh=>hR ⟨h.1.1,by have:=h.1.2.1;omega⟩;simp only[eF hR,KO,bR,aP ha,aE];rfl
 ·have p3':(s.Pc == 3)=false:=by grind
  simp only[p3',bN,bL,aP p3];rfl
def jG(b:aA)(w:Int)(s:Sub):aA×Sub:=
 if s.iB then(b,s) else if s.Kind=1 then aCT b w s else if s.Kind=2 then y9 b w s else if s.Kind=3 then fM b s else if s.Kind=4 then dO b w s else if s.Kind=5 then B9 b w s else(b,A2 s 1)
theorem a6Y{b:aA}(hb:kD b){w:Int}(hw:0<=w/\w<=2)(s:Sub):X6 b w s=some (jG b w s):=by
 unfold X6 jG;rw[a86 hb.1.1 hw,a34 hb hw,a0X hb.1.2.1,a0Y hb hw,bHY hb.1.2.1 hw];simp only[aE,bV];cases s.iB
 ·simp only[bN,bL,beq_iff_eq];split<;>(try rfl);split<;>(try rfl);split<;>(try rfl);split<;>(try rfl);split<;>rfl
 ·rfl
theorem bHZ{b:aA}(hb:kD b){w:Int}(hw:0<=w/\w<=2)(s:Sub):kD (jG b w s).1:=by obtain⟨x,y,e1,_,h⟩:=step_eq hb hb.small hw s;grind[a6Y]
theorem aOY{b:List Int}{a:Nat}{n:Int}(h:a+4<=b.length){j:Nat}(hj:j<a\/a+4<=j):bt (VC b a n) j=bt b j:=by unfold VC;rw[R7 (by simp;omega),R7 (by simp;omega),R7 (by simp;omega),R7 (by omega),nC,nC,nC,nC]
theorem HOk.put{h:Heap}(hh:HOk h){s:Int}(hc:0<=bI h s){n:Int}(hn:0<=n/\n<=4294967295) :
  HOk ⟨VC h.Bytes ((iU s (bI h s)).toNat+4) n,h.Class⟩/\∀t,0<=bI h t->j5 ⟨VC h.Bytes ((iU s (bI h s)).toNat+4) n,h.Class⟩ t=j5 h t:=by
 obtain⟨hs,hp⟩:=hh;have h384:=hs.1;have hs':fP ⟨VC h.Bytes ((iU s (bI h s)).toNat+4) n,h.Class⟩:=⟨by grind[aIP],hs.2.1,a8Z hs.2.2.1 _ hn,hs.2.2.2⟩;obtain⟨p,i,p6,hi,es,ec,eo,ep⟩:=mN hc;have hcl:0<=cD h p/\cD h p<=2:=i7.1 (by omega);have hroom:8+i*(aW (cD h p)).toNat+8<=64/\∀j,j<(cK (cD h p)).toNat->j*(aW (cD h p)).toNat+4<=i*(aW (cD h p)).toNat+4\/i*(aW (cD h p)).toNat+12<=j*(aW (cD h p)).toNat:=by grind[cK,aW]
 have hgen:∀q j,q<6->j<(cK (cD h q)).toNat->ld (VC h.Bytes ((iU s (bI h s)).toNat+4) n) (q*64+8+j*(aW (cD h q)).toNat) 4=ld h.Bytes (q*64+8+j*(aW (cD h q)).toNat) 4:=λq j hq hj=>by
  have hz:=uI hs hq rfl hj;refine MG (by omega) (by grind[aIP]) λk k1 k2=>?_;by_cases e:q=p
  ·grind[aOY]
  grind[aOY]
 refine⟨⟨hs',λq hq=>?_⟩,λt ht=>?_⟩
 ·rw[JW hs' hq];have hold:=(JW hs hq).1 (hp q hq);by_cases e:q=p
  ·subst e;have hcl':¬cD h q<0:=by omega
   unfold aGO at hold ⊢;have hcc:cD ⟨VC h.Bytes ((iU s (bI h s)).toNat+4) n,h.Class⟩ q=cD h q:=rfl;rw[hcc];rw[aP hcl'] at hold ⊢;obtain⟨⟨a1,a2,a3⟩,a4,a5⟩:=hold;have bs:∀k,k<8->bt (VC h.Bytes ((iU s (bI h s)).toNat+4) n) (q*64+k)=bt h.Bytes (q*64+k):=λk hk=>aOY (by omega) (by omega);have b0:=bs 0 (by omega);grind
  ·refine aGO.same hq hs (by grind[aIP]) rfl (λk hk=>aOY (by omega) (by omega)) hold
 ·obtain⟨p',i',p6',hi',es',ec',eo',ep'⟩:=mN ht;have e2:bI ⟨VC h.Bytes ((iU s (bI h s)).toNat+4) n,h.Class⟩ t=bI h t:=rfl;grind[j5]
theorem kR.put{m:Mem}(hm:kR m){s:Int}(hc:0<=bI m.Heap s){n:Int}(hn:0<=n/\n<=4294967295):xN m ⟨⟨VC m.Heap.Bytes ((iU s (bI m.Heap s)).toNat+4) n,m.Heap.Class⟩,m.aC⟩ (-1):=by obtain⟨a,b⟩:=HOk.put hm.1.1 hc hn;refine⟨kR.heap hm a λx hx=>⟨rfl,b x (kR.VD hm hx).1⟩,λt ht _=>?_⟩;have ht':=iV.1 ht;have e:=b t ht'.1;exact⟨iV.2 ⟨ht'.1,ht'.2.1,by grind⟩,e,rfl⟩
theorem start_eq{h:Heap}(hs:fP h){s:Int}(hc:0<=bI h s):PZ s (bI h s)=some (iU s (bI h s)+4)/\IE s (bI h s)=some (iU s (bI h s)+4):=by have hg:=YM hc;unfold PZ IE;rw[yC,EA,aE,SU,dM];simp
theorem hb0(x:Int):(x == 0)=decide (x=0):=by grind
theorem QA(h:Int):vU h=some (decide (j8 h)):=by grind[vU,E5,j8,i4]
theorem JZ(h:Int):oC h=some (decide (j8 h)):=by grind[oC,zW,j8,iF]
theorem a0Z{c:aD}(hc:NJ c){w:Int}(hw:0<=w/\w<=2):∃r,X7 c w=some r/\XT c w=some r/\NJ r.1/\r.1.aJ=c.aJ:=by
 obtain⟨p,hp,hpk⟩:=a3T hc hw;unfold X7 XT;rw[oG hc.small.1,ED hc.small.1,jP,xM hc.small.2,oH,cN,bY hc,bY hw];simp only[aE,iN,bN,bL,hp,D5,DL];cases p.On with
 |true=>
  simp only[iN,bN,bL];have h0:=hc.1;exact⟨_,rfl,rfl,hc.aYA ⟨by grind,by simp,λ_=>rfl⟩,rfl⟩
 |false=>simp_all
theorem aEJ.set{z:List Int}(hz:aEJ z)(k:Nat){h:Int}(hh:j8 h):aEJ (z.set k h):=⟨by simpa using hz.1,λq hq=>(rX hq).elim (hz.2 q) (λe=>e ▸ hh)⟩
theorem kD.clock{b:aA}(hb:kD b){cl:aD}(h:NJ cl)(e:b.aD.aJ<=cl.aJ):kD ⟨b.Mem,cl,b.aM,b.lX⟩:=⟨⟨hb.1.1,h,hb.1.2.2⟩,λr hr=>⟨(hb.2 r hr).1,aTD (hb.2 r hr).2 e⟩⟩
theorem kD.haz{b:aA}(hb:kD b){z:List Int}(h:aEJ z):kD ⟨b.Mem,b.aD,b.aM,z⟩:=⟨⟨hb.1.1,hb.1.2.1,hb.1.2.2.1,h⟩,hb.2⟩
theorem kD.mem{b:aA}(hb:kD b){m:Mem}(h:xN b.Mem m (-1)):kD ⟨m,b.aD,b.aM,b.lX⟩:=⟨⟨h.1,hb.1.2⟩,λr hr=>⟨h.live (hb.2 r hr).1 (by omega),(hb.2 r hr).2⟩⟩
theorem bOX{h:Heap}{s:Int}(hcl:0<=bI h s):(iU s (bI h s)).toNat+8<=384/\8<=iA (bI h s)/\iA (bI h s)<=40:=by
 have hc2:0<=bI h s/\bI h s<=2:=by obtain⟨_,q,e⟩:=sM hcl;rw[e];exact i7.1 (by omega)
 grind[iA,bI,mN,cK,aW]
def C5(kind a:Int):Sub:=⟨kind,a,0,0,0,0,0,0,0,false⟩
def j6:List Int->Nat->List UInt8->List Int
 |b,_,[]=>b
 |b,a,c::t=>j6 (b.set a (c.toNat:Int)) (a+1) t
theorem EE:∀(t:List UInt8) (b:List Int) (a:Nat),(j6 b a t).length=b.length
 |[],b,a=>rfl
 |c::t,b,a=>by rw[j6,EE];simp
theorem aVR:∀(t:List UInt8) {b:List Int} (a:Nat),uH b->uH (j6 b a t)
 |[],b,a,h=>h
 |c::t,b,a,h=>aVR t (a+1) (a0U a h ⟨by omega,by have:=c.toNat_lt;omega⟩)
theorem QB:∀(t:List UInt8) {b:List Int} {a:Nat},a+t.length<=b.length->∀{j:Nat},(j<a\/a+t.length<=j)->bt (j6 b a t) j=bt b j
 |[],b,a,h,j,hj=>rfl
 |c::t,b,a,h,j,hj=>by simp only[OJ] at h hj;rw[j6,QB t (by simp;omega) (by omega),R7 (by omega),nC]
theorem aR7:∀(t:List UInt8) {b:List Int} {a:Nat},a+t.length<=b.length->∀{j:Nat} (hj:j<t.length),bt (j6 b a t) (a+j)=(t[j].toNat:Int)
 |c::t,b,a,h,j,hj=>by
  simp only[OJ] at h hj;rw[j6];cases j with
  |zero=>rw[QB t (by simp;omega) (by omega),R7 (by omega),aL (by omega)];rfl
  |succ j=>
   have:=aR7 t (b:=b.set a (c.toNat:Int)) (a:=a+1) (by simp;omega) (j:=j) (by omega);grind
theorem aLL(b:List Int)(a:Nat)(t:List UInt8)(hl:b.length<=100000)(h:a+t.length<=b.length):∀(r:List UInt8) (k:Nat) (c:List Int),c.length=b.length->t.drop k=r->k+r.length=t.length->loop (l5 b (a:Int) t) (c,(k:Int))=some (j6 c (a+k) r)
 |[],k,c,hc,hr,hk=>by refine bB ?_;simp only[l5];rw[b9 hc,aP (by grind)];rfl
 |x::r,k,c,hc,hr,hk=>by
  simp only[OJ] at hk;have hkt:k<t.length:=by omega
  have e:=zF hkt;rw[hr] at e;injection e with e1 e2
  have st:l5 b (a:Int) t (c,(k:Int))=some (.next (c.set (a+k) (x.toNat:Int),((k+1:Nat):Int))):=by simp only[l5];rw[b9 hc,cY,aT hkt,aE,dM (x:=(a:Int)+k),show(a:Int)+k=((a+k:Nat):Int) by omega,RY,aE,dM,<-e1];rfl
  rw[bP st,aLL b a t hl h r (k+1) _ (by grind) e2.symm (by omega),j6];rfl
theorem aVS{b:List Int}{a:Nat}{t:List UInt8}(hl:b.length<=100000)(h:a+t.length<=b.length):oB b (a:Int) t=some (j6 b a t):=by unfold oB;rw[show(0:Int)=((0:Nat):Int) from rfl,aLL b a t hl h t 0 b rfl rfl (by omega),aE];grind[Q1,Q0,b9,EE]
theorem HOk.j6{h:Heap}(hh:HOk h){s:Int}(hc:0<=bI h s){o:Nat}{t:List UInt8}(ht:((o+t.length:Nat):Int)<=iA (bI h s)) :
  HOk ⟨Gv.j6 h.Bytes ((iU s (bI h s)).toNat+4+o) t,h.Class⟩/\∀u,0<=bI h u->j5 ⟨Gv.j6 h.Bytes ((iU s (bI h s)).toNat+4+o) t,h.Class⟩ u=j5 h u:=by
 obtain⟨hs,hp⟩:=hh;have h384:=hs.1;have hs':fP ⟨Gv.j6 h.Bytes ((iU s (bI h s)).toNat+4+o) t,h.Class⟩:=⟨by grind[EE],hs.2.1,aVR _ _ hs.2.2.1,hs.2.2.2⟩;obtain⟨p,i,p6,hi,es,ec,eo,ep⟩:=mN hc;have hcl:0<=cD h p/\cD h p<=2:=i7.1 (by omega);rw[ec] at ht;have hroom:8+i*(aW (cD h p)).toNat+4+(iA (cD h p)).toNat<=64/\∀j,j<(cK (cD h p)).toNat->j*(aW (cD h p)).toNat+4<=i*(aW (cD h p)).toNat+4\/i*(aW (cD h p)).toNat+4+(iA (cD h p)).toNat<=j*(aW (cD h p)).toNat:=by grind[cK,aW,iA]
 have hot:o+t.length<=(iA (cD h p)).toNat:=by omega
 have hgen:∀q j,q<6->j<(cK (cD h q)).toNat->ld (Gv.j6 h.Bytes ((iU s (bI h s)).toNat+4+o) t) (q*64+8+j*(aW (cD h q)).toNat) 4=ld h.Bytes (q*64+8+j*(aW (cD h q)).toNat) 4:=λq j hq hj=>by
  have hz:=uI hs hq rfl hj;refine MG (by omega) (by grind[EE]) λk k1 k2=>?_;by_cases e:q=p
  ·subst e;have:=hroom.2 j hj;exact QB _ (by omega) (by omega)
  ·exact QB _ (by omega) (by omega)
 refine⟨⟨hs',λq hq=>?_⟩,λu hu=>?_⟩
 ·rw[JW hs' hq];have hold:=(JW hs hq).1 (hp q hq);by_cases e:q=p
  ·subst e;have hcl':¬cD h q<0:=by omega
   unfold aGO at hold ⊢;have hcc:cD ⟨Gv.j6 h.Bytes ((iU s (bI h s)).toNat+4+o) t,h.Class⟩ q=cD h q:=rfl;rw[hcc];rw[aP hcl'] at hold ⊢;obtain⟨⟨a1,a2,a3⟩,a4,a5⟩:=hold;have bs:∀k,k<8->bt (Gv.j6 h.Bytes ((iU s (bI h s)).toNat+4+o) t) (q*64+k)=bt h.Bytes (q*64+k):=λk hk=>QB _ (by omega) (by omega);have b0:=bs 0 (by omega);grind
  ·refine aGO.same hq hs (by grind[EE]) rfl (λk hk=>QB _ (by omega) (by omega)) hold
 ·obtain⟨p',i',p6',hi',es',ec',eo',ep'⟩:=mN hu;have e2:bI ⟨Gv.j6 h.Bytes ((iU s (bI h s)).toNat+4+o) t,h.Class⟩ u=bI h u:=rfl;grind[j5]
theorem kR.j6{m:Mem}(hm:kR m){s:Int}(hc:0<=bI m.Heap s){o:Nat}{t:List UInt8}(ht:((o+t.length:Nat):Int)<=iA (bI m.Heap s)):xN m ⟨⟨Gv.j6 m.Heap.Bytes ((iU s (bI m.Heap s)).toNat+4+o) t,m.Heap.Class⟩,m.aC⟩ (-1):=by obtain⟨a,b⟩:=HOk.j6 hm.1.1 hc ht;refine⟨kR.heap hm a λx hx=>⟨rfl,b x (kR.VD hm hx).1⟩,λt ht _=>?_⟩;have ht':=iV.1 ht;have e:=b t ht'.1;exact⟨iV.2 ⟨ht'.1,ht'.2.1,by grind⟩,e,rfl⟩
def a00:gE:=⟨0,0,0⟩
def uN(h:Heap)(s:Int):Nat:=(iU s (bI h s)).toNat+4
def aCW(h:Heap)(s:Int):gE:=⟨ld h.Bytes (uN h s) 2,ld h.Bytes (uN h s+2) 4,ld h.Bytes (uN h s+6) 4⟩
def aCX(h:Heap)(x:Int):gE:=if kC x/\0<=bI h (x % 32)/\10<=iA (bI h (x % 32)) then aCW h (x % 32) else a00
theorem C6{h:Heap}{s:Int}(hcl:0<=bI h s)(h10:10<=iA (bI h s)):uN h s+10<=384/\16<=iA (bI h s):=by grind[bI,uN,mN,iA,cK,aW]
theorem aR8{h:Heap}(hs:fP h)(s:Int):IF h s=some (decide (10<=iA (bI h s))):=by grind[IF,jO,R0]
theorem aGP{h:Heap}(hs:fP h){s:Int}(hc:0<=bI h s):BG h s=some (uN h s:Int):=by have:=YM hc;grind[BG,uN,jO,start_eq]
theorem aVT{h:Heap}(hs:fP h){s:Int}(hc:0<=bI h s)(h10:10<=iA (bI h s)):MU h s=some (aCW h s):=by
 have hr:=(C6 hc h10).1;have h1:=hs.1;unfold MU aCW;rw[aGP hs hc,aE,show(2:Int)=((2:Nat):Int) from rfl,show(4:Int)=((4:Nat):Int) from rfl,xK hs.2.2.1 (by omega) (by omega) (by omega),aE,
  dM,show(uN h s:Int)+((2:Nat):Int)=((uN h s+2:Nat):Int) by omega,xK hs.2.2.1 (by omega) (by omega) (by omega),aE,
  dM,show(uN h s:Int)+6=((uN h s+6:Nat):Int) by omega,xK hs.2.2.1 (by omega) (by omega) (by omega)];rfl
theorem aVU{m:Mem}(hm:kR m)(x:Int):∃c,MV m x=some (aCX m.Heap x,c):=by
 have hs:=hm.1.1.1;unfold MV aCX;rw[iF,aE];by_cases hh:kC x
 ·rw[bY hh,eD,(kC.mod hh).1,jO hs,aE];unfold IG;by_cases hc:bI m.Heap (x % 32)<0
  ·rw[bY hc,aL rfl,nC];exact⟨_,rfl⟩
  ·rw[eF hc,eD,(kC.mod hh).1,aR8 hs,aE];by_cases h10:10<=iA (bI m.Heap (x % 32))
   ·simp_all[aVT]
   ·rw[eF h10,aL (by rfl),nC];exact⟨_,rfl⟩
 ·rw[eF hh,aL (by rfl),aP (λq=>hh q.1)];exact⟨_,rfl⟩
def W0(n:gE):Int:=if kC n.Next then n.Next else 0
theorem aYE(n:gE):iH n=some (W0 n):=by unfold iH W0;rw[iF,aE];grind
theorem aKM(n:gE):j8 (W0 n):=by
 unfold W0;split
 ·exact .inr (by assumption)
 ·exact .inl rfl
def kS(m:Mem)(x:Int):Prop:=mM m x/\10<=iA (bI m.Heap (x % 32))
instance (m:Mem) (x:Int):Decidable (kS m x):=by unfold kS;infer_instance
theorem aCY{m:Mem}(hm:kR m)(x:Int):∃c,xW m x=some c/\(c=0↔kS m x):=by
 obtain⟨hcnt,h3,h9,h1,h2,hsm,hcp,hlo,hsG,hsO⟩:=kR.facts hm;have hs:=hm.1.1.1;unfold xW kS;rw[uJ hs (by omega) (by rw[h3];simp[maxLen]) (by rw[h9];simp[maxLen]),aE];by_cases hl:mM m x
 ·rw[bY hl,eD,(kC.mod hl.1).1,aR8 hs,aE];by_cases h10:10<=iA (bI m.Heap (x % 32))
  ·rw[bY h10,eD];exact⟨_,rfl,by simp[hl,h10]⟩
  ·rw[eF h10,aL (by rfl)];exact⟨_,rfl,by simp[hl,h10]⟩
 simp_all
def W2(n:Int):List UInt8:=[u8 (n/256),u8 n]
theorem a36{n:Int}(hn:0<=n/\n<=65535):m8 n 2=some (W2 n):=by
 have hw:A8 2=some true:=by grind[A8,dD]
 unfold m8;rw[hw];have e1:IntKind.u64.wrap (aY (8*2))=16:=by decide
 have e2:aPD .i64 1 16=65536:=by decide
 simp only[aE,iN,bN,bL,e1,e2];rw[SU,J5,eF (by omega)];simp only[xS,bN,bL];rw[J5,show aY (2-1)=((1:Nat):Int) from by grind[cA]];have st:∀(m:Int) (c:List UInt8) (i:Nat),i<c.length->i<4->0<=m->rN (m,c,(i:Int))=some (.next (m/256,c.set i (u8 m),(i:Int)-1)):=λm c i hc hi h0=>by simp only[rN];rw[aL (by simp),aT hc,aE,show(8:Int)=((8:Nat):Int) from rfl,a6O h0 (by omega),dM,NM];rfl
 rw[bP (st n _ 1 (by simp) (by omega) hn.1),show((1:Nat):Int)-1=((0:Nat):Int) by rfl,
  bP (st _ _ 0 (by simp) (by omega) (by omega)),bB (r:=W2 n)]
 ·rfl
 ·simp only[rN];rw[eD];rfl
def aUR(n:gE):List UInt8:=W2 n.Key++pM n.fT++pM n.Next
def aKN(n:gE):Prop:=(0<=n.Key/\n.Key<=99)/\(0<=n.fT/\n.fT<=65535)/\j8 n.Next
instance (n:gE):Decidable (aKN n):=by unfold aKN;infer_instance
theorem aVV(n:gE):MW n=some (decide (aKN n)):=by grind[MW,aKN,dD,JZ,zX]
theorem aIT{x:Int}(h:j8 x):0<=x/\x<=223:=by
 rcases h with h|h
 ·omega
 ·have:=h.1;omega
def aIU(m:Mem)(x:Int)(n:gE):Mem:=if aKN n/\kS m x then⟨⟨j6 m.Heap.Bytes (uN m.Heap (x % 32)) (aUR n),m.Heap.Class⟩,m.aC⟩ else m
theorem a37{m:Mem}(hm:kR m)(x:Int)(n:gE):∃c,PO m x n=some (aIU m x n,c):=by
 obtain⟨hcnt,h3,h9,h1,h2,hsm,hcp,hlo,hsG,hsO⟩:=kR.facts hm;have hs:=hm.1.1.1;have hbl:m.Heap.Bytes.length<=maxLen:=by grind[maxLen]
 unfold PO aIU;rw[T9 hsm,aE,EC hbl (by omega),bY hm,aE,eD,aVV,aE];unfold EX;by_cases hn:aKN n
 ·rw[bY hn,eD];obtain⟨c,e,hc⟩:=aCY hm x;rw[e,aE];by_cases hw:kS m x
  ·have hcl:=dU hw.1.2.1;have hr:=(C6 hcl hw.2).1;have hnx:=aIT hn.2.2;have hk1:=hn.1.2;have hv1:=hn.2.1.2;obtain rfl:=hc.2 hw;rw[aL (by rfl),(kC.mod hw.1.1).1,aGP hs hcl,aE,a36 ⟨hn.1.1,by omega⟩,aE,YR ⟨hn.2.1.1,by omega⟩,aE,b9 (by simp[W2,pM]),
    YR ⟨hnx.1,by omega⟩,aE,b9 (by simp[W2,pM]),aVS (by omega) (by grind[W2,pM]),aE,aL ⟨hn,hw⟩]
   exact⟨_,rfl⟩
  ·rw[aP (by grind),aP (λq=>hw q.2)];exact⟨_,rfl⟩
 simp_all
def aLM(m:Mem)(x y:Int):Mem:=if j8 y/\kS m x then⟨⟨j6 m.Heap.Bytes (uN m.Heap (x % 32)+6) (pM y),m.Heap.Class⟩,m.aC⟩ else m
theorem a89{m:Mem}(hm:kR m)(x y:Int):∃c,TM m x y=some (Gv.aLM m x y,c):=by
 obtain⟨hcnt,h3,h9,h1,h2,hsm,hcp,hlo,hsG,hsO⟩:=kR.facts hm;have hs:=hm.1.1.1;have hbl:m.Heap.Bytes.length<=maxLen:=by grind[maxLen]
 unfold TM Gv.aLM;rw[T9 hsm,aE,EC hbl (by omega),bY hm,aE,eD,JZ,aE];unfold IJ;by_cases hn:j8 y
 ·rw[bY hn,eD];obtain⟨c,e,hc⟩:=aCY hm x;rw[e,aE];by_cases hw:kS m x
  ·have hcl:=dU hw.1.2.1;have hr:=(C6 hcl hw.2).1;have hnx:=aIT hn;obtain rfl:=hc.2 hw;rw[aL (by rfl),(kC.mod hw.1.1).1,aGP hs hcl,aE,YR ⟨hnx.1,by omega⟩,aE,dM,show(uN m.Heap (x % 32):Int)+6=((uN m.Heap (x % 32)+6:Nat):Int) by omega,
    aVS (by omega) (by grind[pM]),aE,aL ⟨hn,hw⟩]
   exact⟨_,rfl⟩
  ·rw[aP (by grind),aP (λq=>hw q.2)];exact⟨_,rfl⟩
 simp_all
theorem bDU{m:Mem}(hm:kR m)(x:Int)(n:gE):xN m (aIU m x n) (-1):=by
 unfold aIU;split
 ·rename_i h;have:=C6 (dU h.2.1.2.1) h.2.2;exact kR.j6 hm (dU h.2.1.2.1) (o:=0) (by grind[aUR,W2,pM])
 ·exact⟨hm,λs h _=>⟨h,rfl,rfl⟩⟩
theorem bDV{m:Mem}(hm:kR m)(x y:Int):xN m (Gv.aLM m x y) (-1):=by
 unfold Gv.aLM;split
 ·rename_i h;have:=C6 (dU h.2.1.2.1) h.2.2;exact kR.j6 hm (dU h.2.1.2.1) (o:=6) (by grind[pM])
 ·exact⟨hm,λs h _=>⟨h,rfl,rfl⟩⟩
def a6Z:Heap:=⟨List.replicate 384 0,[-1,-1,-1,-1,-1,-1]⟩
def bMG:aC:=⟨List.replicate 3 ⟨[]⟩,List.replicate 9 ⟨[]⟩⟩
def a60:aA:=⟨⟨a6Z,bMG⟩,⟨0,List.replicate 3 ⟨false,0,false,0⟩⟩,List.replicate 3 ⟨[]⟩,List.replicate 3 0⟩
theorem aN3:PB=some a6Z:=by
 unfold PB;have key:loop wG (0,[])=some (List.replicate 6 (-1)):=dW (f:=wG) 6 (λk=>((k:Int),List.replicate k (-1))) _ (λk hk=>by
  simp only[wG];rw[cY,SW,dM,List.replicate_succ'];rfl) (by simp[wG])
 rw[J5,key];rfl
theorem bMH:yP [-1] 6=some [-1,-1,-1,-1,-1,-1]:=by
 unfold yP;rw[eD,show UK (IntKind.u64.wrap (([-1]:List Int).length:Int)) (IntKind.u64.wrap 6)=some (0,6) by kernel_rfl];simp only[aE];rw[eD,eF (by omega)];simp only[qN,bN,bL];rw[show IntKind.i64.wrap 6=6 from wrap_i64 (by omega) (by omega),J5,
  show(dA (List.replicate (Int.toNat 6) 0) 0 [-1],((min ([-1]:List Int).length ((List.replicate (Int.toNat 6) (0:Int)).length-0):Nat):Int))=([-1,0,0,0,0,0],1) by kernel_rfl,
  bP (body:=lY) (s':=([-1,-1,0,0,0,0],2)) (by kernel_rfl),bP (body:=lY) (s':=([-1,-1,-1,-1,0,0],4)) (by kernel_rfl),
  bP (body:=lY) (s':=([-1,-1,-1,-1,-1,-1],6)) (by kernel_rfl),bB (body:=lY) (r:=[-1,-1,-1,-1,-1,-1]) (by kernel_rfl)]
 rfl
theorem aN4:PD=some a6Z:=by unfold PD;rw[J5,bMH];rfl
theorem aR9:PC=some a60/\PE=some a60:=by unfold PC PE aA2 aA6 UH UL UI UM UJ UN aA3 aA7;rw[aN3,aN4,J5,J5,J5,J5,J5];exact⟨rfl,rfl⟩
theorem bDW:kD a60:=of_decide_eq_true (by kernel_rfl)
def GF{O:Type}(o:Option O)(Q:O->Prop):Prop:=∃x,o=some x/\Q x
abbrev bJ3{σ ρ:Type}(I:σ->Prop)(Q:ρ->Prop):Step σ ρ->Prop
 |.next s=>I s
 |.stop r=>Q r
namespace GF
variable {O β σ ρ:Type} {Q:O->Prop}
theorem ret{x:O}(h:Q x):GF (some x) Q:=⟨x,rfl,h⟩
theorem bind{P:β->Prop}{o:Option β}{f:β->Option O}(h:GF o P)(hf:∀x,P x->GF (f x) Q):GF (o.bind f) Q:=by obtain⟨x,e,hx⟩:=h;grind
theorem need{p:Prop}[Decidable p]{k:Option O}(h:p)(hk:GF k Q):GF (Gv.need p k) Q:=by grind[b9]
theorem ite{c:Prop}[Decidable c]{a b:Option O}(h1:c->GF a Q)(h2:¬c->GF b Q):GF (if c then a else b) Q:=by grind
theorem mono{P:O->Prop}{o:Option O}(h:GF o P)(hf:∀x,P x->Q x):GF o Q:=by obtain⟨x,e,hx⟩:=h;exact⟨x,e,hf x hx⟩
theorem idx{l:List β}{i:Int}(h:0<=i/\i<l.length):GF (Gv.idx l i) (λx=>x∈l):=⟨_,iC h.1 h.2,cZ _⟩
theorem loop{Q:ρ->Prop}{f:σ->Option (Step σ ρ)}{s:σ}(μ:σ->Nat)(Inv:σ->Prop)(h0:Inv s)(hb:∀s,Inv s->GF (f s) (bJ3 (λs'=>Inv s'/\μ s'<μ s) (λr=>Q r))):GF (Gv.loop f s) Q:=by
 have key:∀n s,μ s<n->Inv s->GF (Gv.loop f s) Q:=by
  intro n;induction n with
  |zero=>omega
  |succ n ih=>
   intro s h hs;obtain⟨q,e,hq⟩:=hb s hs;cases q with
   |next s'=>grind[bP]
   |stop r=>rw[bB e];exact⟨r,rfl,hq⟩
 exact key _ s (Nat.lt_succ_self _) h0
theorem of{o:Option O}{x:O}(h:o=some x):GF o (λy=>y=x):=⟨x,h,rfl⟩
end GF
def Cu(b:List UInt8)(i:Int):Prop:=(0<=i/\i<=b.length)/\b.length<=1048576
theorem bDX(x:Int):0<=iO .and .i64 x 255/\iO .and .i64 x 255<=255:=by have e:iO .and .i64 x 255=IntKind.i64.wrap ((BitVec.ofInt 64 x &&& BitVec.ofInt 64 255).toNat:Int):=rfl;grind[Nat.and_le_right,wrap_i64]
section
variable {b:List UInt8} {i h:Int} (hc:Cu b i)
include hc
theorem a01:GF (uP ⟨b,i,h⟩) (λx=>(0<=x.1/\x.1<=255)/\Cu b x.2.1):=by
 unfold uP G7;obtain⟨⟨a1,a2⟩,a3⟩:=hc;refine .ite (λq=>?_) (λq=>?_)
 ·have q':=of_decide_eq_true q;simp only at q';refine .bind (.idx ⟨a1,q'⟩) λx _=>.ret ⟨bDX _,?_⟩;grind[Cu,cA]
 ·exact .ret ⟨bDX _,⟨a1,a2⟩,a3⟩
theorem below{n:Int}(hn:n<=1000000):GF (gO ⟨b,i,h⟩ n) (λx=>(0<=x.1/\(x.1<n\/n<=0/\x.1=0))/\Cu b x.2.1):=by
 unfold gO;refine .ite (λq=>?_) (λq=>?_)
 ·have q':=of_decide_eq_true q;exact .ret ⟨by simp;omega,hc⟩
 ·have q0:0<n:=by grind
  refine .ite (λq=>?_) (λq=>?_)
  ·refine .bind (a01 hc) λx ⟨hx,h1⟩=>.need (by omega) (.ret ⟨?_,h1⟩);simp only[NB hx.1];exact⟨Int.emod_nonneg _ (by omega),.inl (Int.emod_lt_of_pos _ q0)⟩
  ·refine .bind (a01 hc) λx ⟨hx,h1⟩=>.bind (a01 h1) λy ⟨hy,h2⟩=>.bind (a01 h2) λz ⟨hz,h3⟩=>.bind (a01 h3) λw ⟨hw,h4⟩=>.need (by omega) (.ret ⟨?_,h4⟩);have e:aY (aY (aY (aY (x.1*16777216)+aY (y.1*65536))+aY (z.1*256))+w.1)=x.1*16777216+y.1*65536+z.1*256+w.1:=by grind[cA]
   simp only[e];rw[NB (by omega)];exact⟨Int.emod_nonneg _ (by omega),.inl (Int.emod_lt_of_pos _ q0)⟩
theorem bOY{n:Int}(hn:n<=1000000):GF (aA1 ⟨b,i,h⟩ n) (λx=>Cu b x.2.1):=
 .bind (below hc hn) λ_ ⟨_,h1⟩=>.ret h1
theorem aVW{l:List Int}(hl:0<l.length)(hl2:l.length<=1000):GF (oW ⟨b,i,h⟩ l) (λx=>x.1∈l/\Cu b x.2.1):=
 .bind (below hc (by omega)) λx ⟨hx,h1⟩=>.bind (.idx (by omega)) λy hy=>.ret ⟨hy,h1⟩
end
theorem bRB{code:List UInt8}(hl:code.length<=1048576):GF (XL code) (λx=>Cu code x.1):=by
 unfold XL;refine .bind (P:=λ_=>True) (.loop (λs=>code.length-s.2.toNat) (λs=>0<=s.2/\s.2<=code.length) ⟨by simp,by simp⟩ ?_) λx _=>.ret ⟨⟨by simp,by simp⟩,hl⟩;rintro⟨a,k⟩ ⟨h1,h2⟩;simp only[aET,LG];simp only at h1 h2;have nx:k<code.length->GF ((idx code k).bind λx7=>some (Step.next (iO .and .i64 (aY ((aY ((aY (a*131))+(x7.toNat:Int)))+7)) 1073741823,aY (k+1)))) (bJ3 (ρ:=Int) (λs'=>(0<=s'.2/\s'.2<=code.length)/\code.length-s'.2.toNat<code.length-k.toNat) (λr=>True)):=λhk=>by refine .bind (.idx ⟨h1,hk⟩) λx _=>.ret ?_;grind[cA]
 refine .ite (λq=>?_) (λq=>?_)
 ·have q':=of_decide_eq_true q;exact .ite (λ_=>nx q') (λ_=>.ret trivial)
 ·rw[eD];exact .ret trivial
def Hk(h:Heap):Prop:=h.Bytes.length=384/\h.Class.length=6
def Wk(m:Mem):Prop:=Hk m.Heap/\m.aC.Global.length=3/\m.aC.Own.length=9/\(eG m.aC).length<=24
theorem kR.wk{m:Mem}(hm:kR m):Wk m:=by obtain⟨a,b,c,d,e,_⟩:=kR.facts hm;exact⟨⟨d,e⟩,b,c,a⟩
theorem Wk.small{m:Mem}(h:Wk m):GD m:=by obtain⟨⟨a,b⟩,c,d,e⟩:=h;exact⟨by omega,by omega,by omega,by omega,by omega⟩
theorem a9A(b:aA)(w:Int)(s:Sub):(jG b w s).2.Kind=s.Kind:=by unfold jG aCT R9 y9 fM dO B9 A2;grind
theorem SB{b:aA}{w:Int}{s:Sub}(h:s.Kind=1\/s.Kind=2\/s.Kind=4):(jG b w s).1.aD=b.aD:=by
 unfold jG;rcases h with k|k|k
 ·simp only[k,bR];unfold aCT R9;grind
 ·simp only[k];unfold y9;grind
 ·simp only[k];unfold dO;grind
theorem CA{c:aD}(hc:NJ c){w v:Int}(hw:0<=w/\w<=2)(hv:0<=v/\v<=2)(e:Int)(x:yN):dB ⟨e,c.cG.set w.toNat x⟩ v=if v=w then x else dB c v:=by have h3:=hc.2.1;unfold dB;grind
def rJ(j:Job):Prop:=j.cR=true/\(j.Op.Kind=2\/j.Op.Kind=5)/\j.Pc=0
def Adv(j:Job):Prop:=j.cR=true/\j.Op.Kind=4/\j.Pc=0
def JI(e:Int)(p:yN)(j:Job):Prop:=j.cR=true ->
 (j.Op.Kind=1->j.Sub.Kind=1\/j.Sub.Kind=2)/\(j.Op.Kind=4->j.Pc=1->j.Sub.Kind=4) /\
 (Adv j->j.Sub.Kind=3/\j.Sub.iB=false/\(j.Sub.Pc=0\/j.Sub.E<=e/\(j.Sub.Pc=1/\(0<=j.Sub.B/\j.Sub.B<=2)\/j.Sub.Pc=2/\j.Sub.B=3))) /\
 (rJ j->j.Sub.Kind=5/\j.Sub.iB=false/\(j.Sub.Pc=0\/j.Sub.Pc=1/\(0<=j.Sub.E/\j.Sub.E<=e)\/j.Sub.Pc=2/\p.aJ=j.Sub.E))
def Calm(j:Job):Prop:=¬rJ j/\¬Adv j/\(j.Op.Kind=1->j.Sub.Kind=1\/j.Sub.Kind=2)/\(j.Op.Kind=4->j.Pc=1->j.Sub.Kind=4)
theorem Calm.ji{j:Job}(h:Calm j)(e:Int)(p:yN):JI e p j:=λ_=>⟨h.2.2.1,h.2.2.2,λq=>absurd q h.2.1,λq=>absurd q h.1⟩
def Ep(c:aD)(J:Int->Job):Prop:=(∀w,0<=w/\w<=2->JI c.aJ (dB c w) (J w))/\∀p,0<=p/\p<=2->¬rJ (J p)->(dB c p).On=true->(dB c p).gG=false->c.aJ<=(dB c p).aJ+1/\(c.aJ=(dB c p).aJ+1->∀a,0<=a/\a<=2->Adv (J a)->(J a).Sub.Pc≠0->(J a).Sub.E=c.aJ->(J a).Sub.B<=p)
def upJ(J:Int->Job)(w:Int)(j:Job):Int->Job:=λv=>if v=w then j else J v
theorem J0(J:Int->Job)(w:Int)(j:Job):upJ J w j w=j:=aL rfl
theorem qH(J:Int->Job){w v:Int}(j:Job)(h:v≠w):upJ J w j v=J v:=aP h
section
variable {c:aD} {J:Int->Job} (h:Ep c J)
include h
theorem Ep.congr{J':Int->Job}(e:∀v,0<=v/\v<=2->J' v=J v):Ep c J':=by refine⟨λw hw=>by rw[e w hw];exact h.1 w hw,λp hp hn h1 h2=>?_⟩;rw[e p hp] at hn;obtain⟨a1,a2⟩:=h.2 p hp hn h1 h2;grind
variable {w:Int} (hw:0<=w/\w<=2) {j:Job}
include hw
theorem Ep.step{c':aD}(he:c'.aJ=c.aJ)(hp:∀v,0<=v/\v<=2->v≠w->dB c' v=dB c v)(hj:JI c.aJ (dB c' w) j)
  (h2:¬rJ j->(dB c' w).On=true->(dB c' w).gG=false->c.aJ<=(dB c' w).aJ+1/\(c.aJ=(dB c' w).aJ+1->∀a,0<=a/\a<=2->a≠w->Adv (J a)->(J a).Sub.Pc≠0->(J a).Sub.E=c.aJ->(J a).Sub.B<=w))
  (ha:Adv j->j.Sub.Pc=0\/j.Sub.B=0):Ep c' (upJ J w j):=by
 constructor
 ·intro v hv;rw[he];by_cases q:v=w
  ·grind[J0]
  ·rw[qH _ _ q,hp v hv q];exact h.1 v hv
 ·intro p hpr hn o1 o2;rw[he];have hadv:∀a,0<=a/\a<=2->(∀q:a≠w,Adv (J a)->(J a).Sub.Pc≠0->(J a).Sub.E=c.aJ->(J a).Sub.B<=p)->Adv (upJ J w j a)->(upJ J w j a).Sub.Pc≠0->(upJ J w j a).Sub.E=c.aJ->(upJ J w j a).Sub.B<=p:=by grind[J0,qH]
  by_cases q:p=w
  ·grind[J0]
  ·rw[qH _ _ q] at hn;rw[hp p hpr q] at o1 o2 ⊢;obtain⟨a1,a2⟩:=h.2 p hpr hn o1 o2;grind
theorem Ep.still(hn:¬rJ (J w))(hj:Calm j):Ep c (upJ J w j):=
 h.step hw rfl (λ_ _ _=>rfl) (hj.ji _ _) (λ_ o1 o2=>by
  obtain⟨a1,a2⟩:=h.2 w hw hn o1 o2;grind) (λq=>absurd q hj.2.1)
theorem Ep.bOZ(hc:NJ c)(hn:¬rJ (J w))(hj:Calm j):Ep (OC c w).1 (upJ J w j):=by
 unfold OC;by_cases q:(dB c w).On
 ·rw[aL q];refine h.step hw rfl (λv hv hvw=>by simp_all[CA]) (hj.ji _ _) (λ_ o1=>?_) (λq=>absurd q hj.2.1);simp_all[CA]
 ·rw[aP q];exact h.still hw hn hj
theorem Ep.pin{b:aA}(hb:b.aD=c)(hc:NJ c)(hj:J w=j)(hP:rJ j){fin:Job}(hf:Calm fin) :
  Ep (B9 b w j.Sub).1.aD (upJ J w (if(B9 b w j.Sub).2.iB then fin else {j with Sub:=(B9 b w j.Sub).2})):=by
 have hji:=h.1 w hw;rw[hj] at hji;have hk5:=hP.2.1;obtain⟨k,d,hpc⟩:=(hji hP.1).2.2.2 hP;have noadv:∀s:Sub,¬Adv {j with Sub:=s}:=λs q=>by have:=q.2.1;grind
 have hP':∀s:Sub,rJ {j with Sub:=s}:=λs=>hP;have mk:∀(s:Sub) (p:yN),(s.Kind=5/\s.iB=false/\(s.Pc=0\/s.Pc=1/\(0<=s.E/\s.E<=c.aJ)\/s.Pc=2/\p.aJ=s.E))->JI c.aJ p {j with Sub:=s}:=λs p hs _=>⟨λq=>by grind,λq=>by grind,λq=>absurd q (noadv s),λ_=>hs⟩;unfold B9;rw[hb];rcases hpc with p0|⟨p1,e0,e1⟩|⟨p2,pe⟩
 ·simp only[aL p0,d,bN,bL,hb];exact h.step hw rfl (λ_ _ _=>rfl) (mk _ _ ⟨k,rfl,.inr (.inl ⟨rfl,hc.1.1,O4 _⟩)⟩) (λq=>absurd (hP' _) q) (λq=>absurd q (noadv _))
 ·have hpt:VE c w j.Sub.E=(⟨c.aJ,c.cG.set w.toNat ⟨true,j.Sub.E,false,0⟩⟩,true):=by simp_all[VE]
  simp only[aP (show ¬j.Sub.Pc=0 by omega),aL p1,hpt,bR,d,bN,bL];exact h.step hw rfl (λv hv hvw=>by simp_all[CA]) (mk _ _ ⟨k,rfl,.inr (.inr ⟨rfl,by simp_all[CA]⟩)⟩) (λq=>absurd (hP' _) q) (λq=>absurd q (noadv _))
 ·simp only[aP (show ¬j.Sub.Pc=0 by omega),aP (show ¬j.Sub.Pc=1 by omega),aL p2];by_cases q:c.aJ=j.Sub.E
  ·simp only[aL q,A2,bR,hb];exact h.step hw rfl (λ_ _ _=>rfl) (hf.ji _ _) (λ_ _ _=>⟨by omega,λe=>by omega⟩) (λq=>absurd q hf.2.1)
  ·simp only[aP q,d,bN,bL,hb];exact h.step hw rfl (λ_ _ _=>rfl) (mk _ _ ⟨k,rfl,.inl rfl⟩) (λq=>absurd (hP' _) q) (λq=>absurd q (noadv _))
omit h hw in
theorem aSA(hc:NJ c){q:Int}(hq:0<=q/\q<=2)(e:Int):(KN c q e).1.aJ=c.aJ/\(∀v,0<=v/\v<=2->(dB (KN c q e).1 v).On=(dB c v).On/\(dB (KN c q e).1 v).aJ=(dB c v).aJ/\((dB (KN c q e).1 v).gG=false->(dB c v).gG=false)) /\
  ((KN c q e).2=true->(dB (KN c q e).1 q).On=true->(dB (KN c q e).1 q).gG=false->(dB c q).aJ=e):=by
 unfold KN;by_cases k1:(dB c q).On=false\/(dB c q).gG=true\/(dB c q).aJ=e
 ·grind
 ·rw[aP k1];by_cases k2:(dB c q).Seen=2
  ·rw[aL k2];refine⟨rfl,λv hv=>?_,λ_ _ o2=>?_⟩
   ·rw[CA hc hq hv];grind
   simp_all[CA]
  ·rw[aP k2];refine⟨rfl,λv hv=>?_,λx=>by cases x⟩;rw[CA hc hq hv];grind
theorem Ep.advance{b:aA}(hb:b.aD=c)(hc:NJ c)(hj:J w=j)(hA:Adv j){fin:Job}(hf:Calm fin) :
  Ep (fM b j.Sub).1.aD (upJ J w (if(fM b j.Sub).2.iB then fin else {j with Sub:=(fM b j.Sub).2})):=by
 have hji:=h.1 w hw;rw[hj] at hji;have hk4:=hA.2.1;obtain⟨k,d,hpc⟩:=(hji hA.1).2.2.1 hA;have nopin:∀s:Sub,¬rJ {j with Sub:=s}:=λs q=>by have:=q.2.1;grind
 have nopw:¬rJ (J w):=by simp_all
 have mk:∀(s:Sub) (p:yN) (e:Int),(s.Kind=3/\s.iB=false/\(s.Pc=0\/s.E<=e/\(s.Pc=1/\(0<=s.B/\s.B<=2)\/s.Pc=2/\s.B=3)))->JI e p {j with Sub:=s}:=λs p e hs _=>⟨λq=>by grind,λ_ q=>by simp only at q;have:=hA.2.2;omega,λ_=>hs,λq=>absurd q (nopin s)⟩;unfold fM;rw[hb];rcases hpc with p0|⟨el,⟨p1,B0,B2⟩|⟨p2,B3⟩⟩
 ·simp only[aL p0,d,bN,bL,hb];refine h.step hw rfl (λ_ _ _=>rfl) (mk _ _ _ ⟨k,rfl,.inr ⟨O4 _,.inl ⟨rfl,by simp,by simp⟩⟩⟩) (λ_ o1 o2=>?_) (λ_=>.inr rfl);obtain⟨a1,a2⟩:=h.2 w hw nopw o1 o2;grind
 ·obtain⟨le,lv,lq⟩:=aSA hc (q:=j.Sub.B) ⟨B0,B2⟩ j.Sub.E;simp only[aP (show ¬j.Sub.Pc=0 by omega),aL p1,aL (show 0<=j.Sub.B/\j.Sub.B<=2 from⟨B0,B2⟩)];have others:∀v,0<=v/\v<=2->JI (KN c j.Sub.B j.Sub.E).1.aJ (dB (KN c j.Sub.B j.Sub.E).1 v) (J v):=λv hv=>by have:=h.1 v hv;rw[le];intro hbv;obtain⟨x1,x2,x3,x4⟩:=this hbv;grind
  cases hl:(KN c j.Sub.B j.Sub.E).2
  ·simp only[bN,bL,A2,bR];refine⟨λv hv=>?_,λp hp hn o1 o2=>?_⟩
   ·by_cases q:v=w
    ·subst q;rw[J0];exact hf.ji _ _
    grind[qH]
   ·have hn':¬rJ (J p):=by grind[qH]
    obtain⟨y1,y2,y3⟩:=lv p hp;rw[y1] at o1;obtain⟨a1,a2⟩:=h.2 p hp hn' o1 (y3 o2);rw[le,y2];refine⟨a1,λe a har=>?_⟩;by_cases q:a=w
    ·subst q;rw[J0];exact λq=>absurd q hf.2.1
    grind[qH]
  ·simp only[bR,d,bN,bL];refine⟨λv hv=>?_,λp hp hn o1 o2=>?_⟩
   ·by_cases q:v=w
    ·subst q;rw[J0,le];grind
    grind[qH]
   ·have hn':¬rJ (J p):=by grind[qH]
    obtain⟨y1,y2,y3⟩:=lv p hp;have o1':=o1;rw[y1] at o1';obtain⟨a1,a2⟩:=h.2 p hp hn' o1' (y3 o2);grind[J0,qH]
 ·simp only[aP (show ¬j.Sub.Pc=0 by omega),aP (show ¬j.Sub.Pc=1 by omega),aL p2,A2,bR];unfold aLK;by_cases q:c.aJ=j.Sub.E/\j.Sub.E≠100000
  ·simp only[aL q];refine⟨λv hv=>?_,λp hp hn o1 o2=>?_⟩
   ·by_cases z:v=w
    ·subst z;rw[J0];exact hf.ji _ _
    ·rw[qH _ _ z];intro hbv;obtain⟨x1,x2,x3,x4⟩:=h.1 v hv hbv;refine⟨x1,x2,λq=>?_,λq=>?_⟩
     ·grind
     ·obtain⟨z1,z2,z3⟩:=x4 q;exact⟨z1,z2,z3.imp id λz4=>z4.imp (λz5=>⟨z5.1,z5.2.1,by grind⟩) id⟩
   ·have hn':¬rJ (J p):=by grind[qH]
    have o1':(dB c p).On=true:=o1;have o2':(dB c p).gG=false:=o2;obtain⟨a1,a2⟩:=h.2 p hp hn' o1' o2';have hpk:=(aR4 hc hp).1.2;have hne:c.aJ≠(dB c p).aJ+1:=λe=>by grind
    have hep:dB ⟨j.Sub.E+1,c.cG⟩ p=dB c p:=rfl;rw[hep];refine⟨by grind,λe a har hA' hp' hE'=>?_⟩;exfalso;by_cases z:a=w
    ·subst z;rw[J0] at hA';exact hf.2.1 hA'
    ·rw[qH _ _ z] at hA' hp' hE';obtain⟨_,_,z3⟩:=(h.1 a har hA'.1).2.2.1 hA';omega
  ·simp only[aP q];exact h.still hw nopw hf
end
theorem aKO{b:aA}(hb:kD b){w:Int}(hw:0<=w/\w<=2)(s:Sub):rP s b w=some ((jG b w s).2,(jG b w s).1):=by obtain⟨x,y,e1,e2,h⟩:=step_eq hb hb.small hw s;grind[a6Y]
def cO:aI:=⟨false,⟨false,[]⟩,0,0,0,0,0,0,0,0,a00,false,0,⟨0,0,0,0,0,0,0,0,0,false⟩,[],[],[],[],[],[]⟩
def iK(k:List cQ)(i:Int):cQ:=k.getD i.toNat ⟨0,0,0⟩
def J6(j:aI)(c:Int):aI:={j with Pc:=16,Code:=c}
def aAP(a b:Int):Int:=Int.tmod (aY (a+b)) 65536
def C7(j:aI)(x:aX):Bool×aI:=if 6<(O2 j.aH x).length then(false,J6 j 1) else(true,{j with aH:=O2 j.aH x})
def aIV(j:aI)(is:Bool)(v:Int):aI:={j with iZ:=j.iZ++[⟨is,v⟩],Pc:=1,At:=j.At+1}
def aSB(j:aI)(c:kG)(v:Int):aI:=if(C7 j ⟨c.Key,false,aAP v c.fT⟩).1 then aIV (C7 j ⟨c.Key,false,aAP v c.fT⟩).2 true (aAP v c.fT) else(C7 j ⟨c.Key,false,aAP v c.fT⟩).2
def OD(j:aI)(c:kG)(v:Int)(is:Bool):aI:=if c.Kind=4 then aSB j c (if is then v else 0) else aIV j is (if is then v else 0)
def gC(j:aI):kG:=j.Batch.bW.getD j.At.toNat ⟨0,0,0⟩
def EF(j:aI):Prop:=j.At<j.Batch.bW.length
instance (j:aI):Decidable (EF j):=by unfold EF;infer_instance
def aCZ(j:aI):aI:=
 if EF j then
  if(gC j).Kind=2\/(gC j).Kind=3 then
   if(C7 j ⟨(gC j).Key,(gC j).Kind == 3,(gC j).fT⟩).1 then {(C7 j ⟨(gC j).Key,(gC j).Kind == 3,(gC j).fT⟩).2 with At:=j.At+1,iZ:=j.iZ++[⟨false,0⟩]}
   else(C7 j ⟨(gC j).Key,(gC j).Kind == 3,(gC j).fT⟩).2
  else if(aNY j.aH (gC j).Key).2 then OD j (gC j) (aNY j.aH (gC j).Key).1.fT (!(aNY j.aH (gC j).Key).1.KR)
  else {j with Pc:=2,cQ:=pJ (gC j).Key}
 else {j with Pc:=6,K:=0,Sub:=C5 1 16}
def O3(b:aA)(k:List cQ)(w:Int)(j:aI):aI:=
 if j.Pc=2 then
  if(iK k j.cQ).g9≠0 then J6 j 7
  else {j with jS:=(iK k j.cQ).jS,H:=(iK k j.cQ).Head,Found:=false,Node:=a00,Pc:=if(iK k j.cQ).Head=0 then 5 else 3}
 else if j.Pc=3 then {j with Node:=aCX b.Mem.Heap j.H,Pc:=4}
 else if j.Pc=4 then
  if ¬((dB b.aD w).On=true/\(dB b.aD w).gG=false) then J6 j 6
  else if EF j then {j with Found:=j.Node.Key == (gC j).Key,H:=W0 j.Node,Pc:=if j.Node.Key=(gC j).Key\/W0 j.Node=0 then 5 else 3}
  else J6 j 1
 else
  if(iK k j.cQ).g9≠0\/(iK k j.cQ).jS≠j.jS then J6 j 7
  else if(KM j.Reads j.cQ j.jS).2=false then J6 {j with Reads:=(KM j.Reads j.cQ j.jS).1} 7
  else if EF j then OD {j with Reads:=(KM j.Reads j.cQ j.jS).1} (gC j) j.Node.fT j.Found
  else J6 {j with Reads:=(KM j.Reads j.cQ j.jS).1} 1
def NG(b:aA)(w:Int)(j:aI):aA×aI:=
 if eK j.aH j.aH.length<=j.K then(b,{j with Pc:=7,K:=0})
 else((jG b w j.Sub).1,
  if(jG b w j.Sub).2.iB=false then {j with Sub:=(jG b w j.Sub).2}
  else if(jG b w j.Sub).2.Code≠0\/¬kC (jG b w j.Sub).2.Out\/6<=j.eO.length then J6 {j with Sub:=(jG b w j.Sub).2} (jG b w j.Sub).2.Code
  else {j with eO:=j.eO++[(jG b w j.Sub).2.Out],K:=j.K+1,Sub:=C5 1 16})
def gZ(j:aI):Int:=(sC j.aH).getD j.K.toNat 0
def VF(j:aI):aI:={j with bD:=if gZ j∈j.bD then j.bD else j.bD++[gZ j],K:=j.K+1}
def VG(k:List cQ)(w:Int)(j:aI):List cQ×aI×Bool:=
 if j.K<(sC j.aH).length then
  if(iK k (gZ j)).g9≠0\/(j.Reads.any λs=>s.cQ == gZ j && s.jS != (iK k (gZ j)).jS)=true then(k,J6 j 7,false)
  else if(iK k (gZ j)).jS=1000000 then(k,J6 j 3,false)
  else if(sC j.aH).length<=j.K+1 then(k.set (gZ j).toNat {iK k (gZ j) with g9:=w+1},{VF j with Pc:=8,K:=0},true)
  else(k.set (gZ j).toNat {iK k (gZ j) with g9:=w+1},VF j,false)
 else(k,{j with Pc:=8,K:=0},true)
def rdN(j:aI):Seen:=j.Reads.getD j.K.toNat ⟨0,0⟩
def aEK(k:List cQ)(w:Int)(j:aI):aI:=
 if j.Reads.length<=j.K then {j with Pc:=9,K:=0}
 else if((iK k (rdN j).cQ).g9≠0/\(iK k (rdN j).cQ).g9≠w+1)\/(iK k (rdN j).cQ).jS≠(rdN j).jS then J6 j 7
 else {j with K:=j.K+1}
def VM(j:aI)(x:aX):aI:=if x.KR then {j with Pc:=9,K:=j.K+1} else {j with Pc:=12}
def uL(j:aI):aX:=j.aH.getD j.K.toNat ⟨0,false,0⟩
def KB(j:aI):Int:=j.eO.getD (eK j.aH j.K).toNat 0
def YT(j:aI):aI:=if kC j.H/\j.bU.length<6 then {j with bU:=j.bU++[j.H]} else j
def J1(b:aA)(k:List cQ)(j:aI):aA×List cQ×aI:=
 if j.aH.length<=j.K then(b,k,{j with Pc:=14})
 else if j.Pc=9 then(b,k,if(iK k (pJ (uL j).Key)).Head=0 then VM {j with Pc:=10,H:=(iK k (pJ (uL j).Key)).Head,gN:=0} (uL j) else {j with Pc:=10,H:=(iK k (pJ (uL j).Key)).Head,gN:=0})
 else if j.Pc=10 then
  (b,k,if(aCX b.Mem.Heap j.H).Key=(uL j).Key then {j with Pc:=11,Node:=aCX b.Mem.Heap j.H}
   else if W0 (aCX b.Mem.Heap j.H)=0 then VM {j with Node:=aCX b.Mem.Heap j.H} (uL j)
   else {j with H:=W0 (aCX b.Mem.Heap j.H),gN:=j.H,Node:=aCX b.Mem.Heap j.H})
 else if j.Pc=11 then
  if j.gN=0 then(b,k.set (pJ (uL j).Key).toNat {iK k (pJ (uL j).Key) with Head:=W0 j.Node},VM (YT j) (uL j))
  else({b with Mem:=Gv.aLM b.Mem j.gN (W0 j.Node)},k,VM (YT j) (uL j))
 else if j.eO.length<=eK j.aH j.K then(b,k,J6 j 1)
 else if j.Pc=12 then({b with Mem:=aIU b.Mem (KB j) ⟨(uL j).Key,(uL j).fT,(iK k (pJ (uL j).Key)).Head⟩},k,{j with Pc:=13})
 else(b,k.set (pJ (uL j).Key).toNat {iK k (pJ (uL j).Key) with Head:=KB j},{j with Pc:=9,K:=j.K+1})
def YU(j:aI):aI:=if j.K<j.bU.length then {j with Sub:=C5 2 (j.bU.getD j.K.toNat 0)} else j
def EG(j:aI):Int:=j.bD.getD 0 0
def VH(k:List cQ)(j:aI):List cQ×aI:=
 if 0<j.bD.length then
  (k.set (EG j).toNat (if j.Pc=14 then⟨(iK k (EG j)).Head,if 1000000<(iK k (EG j)).jS+1 then 1000000 else(iK k (EG j)).jS+1,0⟩ else {iK k (EG j) with g9:=0}),{j with bD:=j.bD.drop 1})
 else if j.Pc=16 then(k,{j with Pc:=17})
 else(k,YU {j with Pc:=15,K:=0})
def SC(b:aA)(w:Int)(j:aI):aA×aI:=
 if j.bU.length<=j.K then(b,{j with Pc:=18})
 else((jG b w j.Sub).1,if(jG b w j.Sub).2.iB then YU {j with K:=j.K+1,Sub:=(jG b w j.Sub).2} else {j with Sub:=(jG b w j.Sub).2})
def a38(m:Mem)(w x:Int):Mem:=if mM m x then sA m w x else m
def QC(b:aA)(w:Int)(j:aI):aA×aI:=
 if j.eO.length=0 then(b,{j with Pc:=18})
 else(if bD b.aM (j.eO.getD 0 0 % 32) then b else {b with Mem:=a38 b.Mem w (j.eO.getD 0 0)},{j with eO:=j.eO.drop 1})
def C8(b:aA)(w:Int)(j:aI):aA×aI:=
 ((jG b w j.Sub).1,if(jG b w j.Sub).2.iB = false then {j with Sub:=(jG b w j.Sub).2}
  else if j.Pc=0 then {j with Pc:=1,Sub:=(jG b w j.Sub).2}
  else if j.Pc=20 then {j with Pc:=21,Sub:=C5 4 0}
  else {j with Pc:=19,Sub:=(jG b w j.Sub).2})
def tlE(w:Int)(j:aI):J9:=⟨3,w,j.aO,j.Code,[],if j.Code=0 then j.iZ else []⟩
structure TR where
 b:aA
 k:List cQ
 j:aI
 l:List J9
def OE(b:aA)(k:List cQ)(w:Int)(j:aI):TR:=
 if j.Pc=0\/j.Pc=20\/j.Pc=21 then⟨(C8 b w j).1,k,(C8 b w j).2,[]⟩
 else if j.Pc=1 then⟨b,k,aCZ j,[]⟩
 else if 2<=j.Pc/\j.Pc<=5 then⟨b,k,O3 b k w j,[]⟩
 else if j.Pc=6 then⟨(NG b w j).1,k,(NG b w j).2,[]⟩
 else if j.Pc=7 then⟨b,(VG k w j).1,(VG k w j).2.1,if(VG k w j).2.2 then [⟨2,w,j.aO,0,[],[]⟩] else []⟩
 else if j.Pc=8 then⟨b,k,aEK k w j,[]⟩
 else if 9<=j.Pc/\j.Pc<=13 then⟨(J1 b k j).1,(J1 b k j).2.1,(J1 b k j).2.2,[]⟩
 else if j.Pc=14\/j.Pc=16 then⟨b,(VH k j).1,(VH k j).2,[]⟩
 else if j.Pc=15 then⟨(SC b w j).1,k,(SC b w j).2,[]⟩
 else if j.Pc=17 then⟨(QC b w j).1,k,(QC b w j).2,[]⟩
 else if j.Pc=18 then⟨{b with aD:=(OC b.aD w).1},k,{j with Pc:=19},[]⟩
 else if j.Pc=19 then⟨b,k,cO,[tlE w j]⟩
 else⟨b,k,J6 j 1,[]⟩
def aZ(t:Table)(w:Int):aI:=t.aQ.getD w.toNat cO
def zD(t:Table)(w:Int):List Batch:=(t.dQ.getD w.toNat ⟨[]⟩).List
def m0(b:Batch)(s:Int):aI:=⟨true,b,s,if b.Collect then 20 else 0,0,0,0,0,0,0,a00,false,0,if b.Collect then C5 3 0 else C5 5 0,[],[],[],[],[],[]⟩
def SX(t:Table)(w:Int)(b:Batch):Table:=⟨t.aA,t.bZ,t.aQ.set w.toNat (m0 b (t.aO+1)),t.dQ.set w.toNat ⟨(zD t w).drop 1⟩,t.Log++[⟨1,w,t.aO+1,0,b.bW,[]⟩],t.aO+1⟩
def QD(t:Table)(w:Int)(r:TR):Table:=⟨r.b,r.k,t.aQ.set w.toNat r.j,t.dQ,t.Log++r.l,t.aO⟩
def lB(t:Table)(w:Int):Table:=
 if(aZ t w).cR then QD t w (OE t.aA t.bZ w (aZ t w))
 else if(zD t w).length=0\/t.aO=1000000 then t else SX t w ((zD t w).getD 0 ⟨false,[]⟩)
def aEL(c:kG):Prop:=(1<=c.Kind/\c.Kind<=4)/\(0<=c.Key/\c.Key<=99)/\(0<=c.fT/\c.fT<=65535)/\(c.Kind=2\/c.Kind=4\/c.fT=0)
instance (c:kG):Decidable (aEL c):=by unfold aEL;infer_instance
def aEM(b:Batch):Prop:=(b.Collect=true->b.bW=[])/\b.bW.length<=6/\(∀c∈b.bW,aEL c)/\(b.Collect=false->1<=b.bW.length)
instance (b:Batch):Decidable (aEM b):=by unfold aEM;infer_instance
def QuV(q:aN):Prop:=q.List.length<=12/\∀b∈q.List,aEM b
instance (q:aN):Decidable (QuV q):=by unfold QuV;infer_instance
def aC0(l:List aN):Prop:=l.length=3/\∀q∈l,QuV q
instance (l:List aN):Decidable (aC0 l):=by unfold aC0;infer_instance
def BkV(b:cQ):Prop:=j8 b.Head/\(0<=b.jS/\b.jS<=1000000)/\(0<=b.g9/\b.g9<=3)
def WrV(l:List aX):Prop:=l.length<=6/\(∀x∈l,(0<=x.Key/\x.Key<=99)/\(0<=x.fT/\x.fT<=65535))/\l.Pairwise (λx y=>x.Key<y.Key)
structure JB (j:aI):Prop where
 busy:j.cR=true
 bat:aEM j.Batch
 h:j8 j.H
 prev:j8 j.gN
 bkt:0<=j.cQ/\j.cQ<=1
 at_:0<=j.At/\j.At<=j.Batch.bW.length
 k:0<=j.K/\j.K<=6
 new:j.eO.length<=6/\∀x∈j.eO,kC x
 old:j.bU.length<=6/\∀x∈j.bU,kC x
 reads:(∀s∈j.Reads,0<=s.cQ/\s.cQ<=1)/\(j.Reads.map Seen.cQ).Nodup
 wr:WrV j.aH
 held:(∀x∈j.bD,0<=x/\x<=1)/\j.bD.Nodup
 res:(j.iZ.length:Int)=j.At
 node:0<=j.Node.fT/\j.Node.fT<=4294967295
structure TV (t:Table):Prop where
 base:kD t.aA
 bk:t.bZ.length=2/\∀x∈t.bZ,BkV x
 C9:t.aQ.length=3/\∀j∈t.aQ,j=cO\/JB j
 todo:aC0 t.dQ
 ser:0<=t.aO/\t.aO<=1000000
theorem aVX{j:aI}(hw:j.aH.length<=1000)(x:aX):tE j x=some (C7 j x):=by
 unfold tE C7;rw[aKK hw,aE];by_cases h:6<(O2 j.aH x).length
 ·rw[cY,aL h];rfl
 grind
theorem aKP(j:aI)(x:aX):(C7 j x).2.iZ=j.iZ/\(C7 j x).2.At=j.At:=by grind[C7,J6]
theorem aVY{j:aI}(hw:j.aH.length<=1000)(hr:j.iZ.length<=1000)(ha:0<=j.At/\j.At<=1000)(c:kG)(v:Int)(is:Bool):tF j c v is=some (OD j c v is):=by
 have key:∀u,nI j c is u=some (if c.Kind=4 then aSB j c u else aIV j is u):=λu=>by
  unfold nI;by_cases hk:c.Kind=4
  ·rw[aL (by grind),aL hk];unfold aFX aSB;rw[aE,show Int.tmod (aY (u+c.fT)) 65536=aAP u c.fT from rfl,aVX hw,aE];obtain⟨e1,e2⟩:=aKP j ⟨c.Key,false,aAP u c.fT⟩;cases h:(C7 j ⟨c.Key,false,aAP u c.fT⟩).1
   ·simp
   ·rw[eD,aL rfl];grind[nH,sH,aIV,b9,cA]
  ·rw[aP (by grind),aP hk];grind[nH,sH,aIV,b9,cA]
 unfold tF OD;grind
theorem aSC{j:aI}(hl:j.Batch.bW.length<=1000)(ha:0<=j.At):qX j=some (if EF j then(gC j,true,j) else(⟨0,0,0⟩,false,j)):=by
 unfold qX gC;rw[dD,aE,dM];by_cases hc:EF j
 ·have h:j.At<j.Batch.bW.length:=hc;rw[bY (by omega),eD,aL hc,iC ha h,aE];grind
 ·have h:¬j.At<j.Batch.bW.length:=hc;grind
theorem bDZ{j:aI}(hl:j.Batch.bW.length<=1000)(hw:j.aH.length<=1000)(hr:j.iZ.length<=1000)(ha:0<=j.At/\j.At<=1000):ID j=some (aCZ j):=by
 unfold ID aCZ;rw[aSC hl ha.1,aE];by_cases h:EF j
 ·rw[aL h,aL h];have put:kM (gC j,true,j) true j=some (if(C7 j ⟨(gC j).Key,(gC j).Kind == 3,(gC j).fT⟩).1 then {(C7 j ⟨(gC j).Key,(gC j).Kind == 3,(gC j).fT⟩).2 with At:=j.At+1,iZ:=j.iZ++[⟨false,0⟩]} else(C7 j ⟨(gC j).Key,(gC j).Kind == 3,(gC j).fT⟩).2):=by
   unfold kM;rw[aL rfl,aVX hw,aE];obtain⟨e1,e2⟩:=aKP j ⟨(gC j).Key,(gC j).Kind == 3,(gC j).fT⟩;cases (C7 j ⟨(gC j).Key,(gC j).Kind == 3,(gC j).fT⟩).1
   ·rw[eD,eD]
   ·rw[aL rfl,aL rfl,b9 (by rw[e1];simp;omega)];simp only[e1,e2];rw[dM]
  have get:kM (gC j,true,j) false j=some (if(aNY j.aH (gC j).Key).2 then OD j (gC j) (aNY j.aH (gC j).Key).1.fT (!(aNY j.aH (gC j).Key).1.KR) else {j with Pc:=2,cQ:=pJ (gC j).Key}):=by
   unfold kM IC;rw[eD,aNZ hw,aE];cases (aNY j.aH (gC j).Key).2
   ·rw[eD,eD,U9];rfl
   ·rw[aL rfl,aL rfl,aVY hw hr ha];rfl
  grind
 ·rw[aP h,aP h];rfl
theorem rK{t:Table}{w:Int}(h3:t.aQ.length=3)(hw:0<=w/\w<=2):idx t.aQ w=some (aZ t w):=by grind[iC,aZ]
theorem aKQ{k:List cQ}{i:Int}(h2:k.length=2)(hi:0<=i/\i<=1):idx k i=some (iK k i):=by grind[iC,iK]
theorem aIW{O:Type}{l:List O}{i:Int}{x:O}(h:0<=i/\i<l.length):idx (l.set i.toNat x) i=some x:=by grind[iC]
theorem FL{t:Table}{w:Int}(h3:t.aQ.length=3)(hw:0<=w/\w<=2):aZ t w∈t.aQ:=by grind[aZ]
def a02(t:Table)(w:Int)(j:aI):Table:={t with aQ:=t.aQ.set w.toNat j}
section
variable {t:Table} {w:Int} (h3:t.aQ.length=3) (h2:t.bZ.length=2) (hb:kD t.aA) (hw:0<=w/\w<=2) (hj:JB (aZ t w))
include h3 h2 hb hw hj
theorem aC1:(aZ t w).Batch.bW.length<=1000/\(aZ t w).aH.length<=1000/\(aZ t w).iZ.length<=1000/\(0<=(aZ t w).At/\(aZ t w).At<=1000)/\(aZ t w).Reads.length<=2:=by
 have h1:=hj.bat.2.1;have h4:=hj.at_;have h5:=hj.res;have h6:=hj.wr.1;refine⟨by omega,by omega,by omega,by omega,?_⟩;have hn:=hj.reads.2;have hm:∀x∈(aZ t w).Reads.map Seen.cQ,x=0\/x=1:=λx hx=>by obtain⟨s,hs,rfl⟩:=VN.1 hx;have:=hj.reads.1 s hs;omega
 have hl:((aZ t w).Reads.map Seen.cQ).length<=2:=by
  match h:(aZ t w).Reads.map Seen.cQ,hn,hm with
  |[],_,_=>simp
  |[_],_,_=>simp
  |[_,_],_,_=>simp
  |x::y::z::r,hn,hm=>
   (simp_all;omega)
 grind
theorem bH1:EU t w=some (a02 t w (O3 t.aA t.bZ w (aZ t w))):=by
 obtain⟨s1,s2,s3,s4,s5⟩:=aC1 h3 h2 hb hw hj;have hjob:=rK h3 hw;unfold EU FY O3 a02;rw[hjob,aE,aKQ h2 hj.bkt,aE,aE,aSC s1 s4.1,aE];generalize hjj:aZ t w=j at *;have e62:(if EF j then(gC j,true,j) else((⟨0,0,0⟩:kG),false,j)).2.2=j:=by grind
 have set2:∀x y:aI,(t.aQ.set w.toNat x).set w.toNat y=t.aQ.set w.toNat y:=λx y=>aY7 ..;have iset:∀x:aI,idx (t.aQ.set w.toNat x) w=some x:=λx=>aIW ⟨hw.1,by omega⟩;simp only[e62];by_cases p2:j.Pc=2
 ·have p2':(j.Pc == 2)=true:=by grind
  simp only[p2',bR,aL p2];by_cases hl:(iK t.bZ j.cQ).g9=0
  ·have e:((iK t.bZ j.cQ).g9 != 0)=false:=by grind
   simp only[e,bN,bL,aP (not_not_intro hl)];by_cases hh:(iK t.bZ j.cQ).Head=0
   ·have e:((iK t.bZ j.cQ).Head == 0)=true:=by grind
    simp only[e,bR,aL hh];rfl
   ·have e:((iK t.bZ j.cQ).Head == 0)=false:=by grind
    simp only[e,bN,bL,aP hh];rfl
  ·have e:((iK t.bZ j.cQ).g9 != 0)=true:=by grind
   simp only[e,bR,aL hl];rfl
 ·have p2':(j.Pc == 2)=false:=by grind
  simp only[p2',bN,bL,aP p2];by_cases p3:j.Pc=3
  ·have p3':(j.Pc == 3)=true:=by grind
   simp only[p3',bR,aL p3];obtain⟨c,e⟩:=aVU hb.1.1 j.H;rw[e];rfl
  ·have p3':(j.Pc == 3)=false:=by grind
   simp only[p3',bN,bL,aP p3];by_cases p4:j.Pc=4
   ·have p4':(j.Pc == 4)=true:=by grind
    simp only[p4',bR,aL p4];rw[LF hb.1.2.1 hw,aE];simp only[oZ,lL];have hp:(if(dB t.aA.aD w).On=true then some (!(dB t.aA.aD w).gG) else some false)=some (decide ((dB t.aA.aD w).On=true/\(dB t.aA.aD w).gG=false)):=by cases (dB t.aA.aD w).On<;>cases (dB t.aA.aD w).gG<;>rfl
    rw[hp,aE];by_cases hpin:(dB t.aA.aD w).On=true/\(dB t.aA.aD w).gG=false
    ·simp only[bY hpin,iN,bN,bL,aP (not_not_intro hpin)];by_cases hc:EF j
     ·simp only[aL hc,iN,bN,bL,aYE,aE,FW,vK,iset,set2];grind
     ·simp only[aP hc,KO,bR];rfl
    ·simp only[eF hpin,KO,bR,aL hpin];rfl
   ·have p4':(j.Pc == 4)=false:=by grind
    simp only[p4',bN,bL,aP p4];have tail:jT t w (if EF j then(gC j,true,j) else((⟨0,0,0⟩:kG),false,j)) false=some (a02 t w (if(KM j.Reads j.cQ j.jS).2=false then J6 {j with Reads:=(KM j.Reads j.cQ j.jS).1} 7
      else if EF j then OD {j with Reads:=(KM j.Reads j.cQ j.jS).1} (gC j) j.Node.fT j.Found
      else J6 {j with Reads:=(KM j.Reads j.cQ j.jS).1} 1)):=by
     simp only[jT,FX,e62,iset,aE,set2,bN,bL];rw[aN0 (by omega),aE];cases hs:(KM j.Reads j.cQ j.jS).2
     ·rfl
     ·simp only[iN,bN,bL,reduceCtorEq];by_cases hc:EF j
      ·simp only[aL hc,iN,bN,bL];rw[aVY (j:={j with Reads:=(KM j.Reads j.cQ j.jS).1}) s2 s3 s4];rfl
      ·simp only[aP hc,KO,bR];rfl
    have ab:jT t w (if EF j then(gC j,true,j) else((⟨0,0,0⟩:kG),false,j)) true=some (a02 t w (J6 j 7)):=by simp only[jT,e62,iset,aE,set2,bR];rfl
    by_cases hl:(iK t.bZ j.cQ).g9=0
    ·have e:((iK t.bZ j.cQ).g9 != 0)=false:=by grind
     simp only[e,bN,bL];by_cases hv:(iK t.bZ j.cQ).jS=j.jS
     ·have e:((iK t.bZ j.cQ).jS != j.jS)=false:=by grind
      rw[e,tail,aP (show ¬((iK t.bZ j.cQ).g9≠0\/(iK t.bZ j.cQ).jS≠j.jS) from λq=>q.elim (λh=>h hl) λh=>h hv)];rfl
     ·have e:((iK t.bZ j.cQ).jS != j.jS)=true:=by grind
      rw[e,ab,aL (.inr hv)];rfl
    ·have e:((iK t.bZ j.cQ).g9 != 0)=true:=by grind
     simp only[e,bR];rw[ab,aL (.inl hl)];rfl
end
def aC2(t:Table)(w:Int)(p:aA×aI):Table:={t with aA:=p.1,aQ:=t.aQ.set w.toNat p.2}
section
variable {t:Table} {w:Int} (h3:t.aQ.length=3) (h2:t.bZ.length=2) (hb:kD t.aA) (hw:0<=w/\w<=2) (hj:JB (aZ t w))
include h3 h2 hb hw hj
theorem bD0:vJ t w=some (aC2 t w (C8 t.aA w (aZ t w))):=by
 unfold vJ C8 aC2;rw[rK h3 hw,aE,aKO hb hw,aE];generalize aZ t w=j at *;generalize jG t.aA w j.Sub=r;cases hd:r.2.iB
 ·rfl
 ·simp only[hd,iN,bN,bL,reduceCtorEq];by_cases p0:j.Pc=0
  ·grind
  ·have e:(j.Pc == 0)=false:=by grind
   simp only[e,bN,bL,aP p0];by_cases p20:j.Pc=20
   ·have e:(j.Pc == 20)=true:=by grind
    simp only[e,bR,aL p20];rfl
   grind
theorem a9C:BH t w=some (aC2 t w (NG t.aA w (aZ t w))):=by
 obtain⟨s1,s2,s3,s4,s5⟩:=aC1 h3 h2 hb hw hj;have hjob:=rK h3 hw;have hk:=hj.k;have hn:=hj.new.1;unfold BH NG aC2;rw[hjob,aE,YP s2,aE];generalize hjj:aZ t w=j at *;have set2:∀x y:aI,(t.aQ.set w.toNat x).set w.toNat y=t.aQ.set w.toNat y:=λx y=>aY7 ..;have iset:∀x:aI,idx (t.aQ.set w.toNat x) w=some x:=λx=>aIW ⟨hw.1,by omega⟩;unfold CT;by_cases hp:eK j.aH j.aH.length<=j.K
 ·grind
 ·rw[eF hp,eD,aP hp,hjob,aE,aKO hb hw,aE];generalize jG t.aA w j.Sub=r;cases hd:r.2.iB
  ·rfl
  ·have ab:iI w true {t with aA:=r.1,aQ:=t.aQ.set w.toNat {j with Sub:=r.2}}=some {t with aA:=r.1,aQ:=t.aQ.set w.toNat (J6 {j with Sub:=r.2} r.2.Code)}:=by simp_all[iI,cV,J6]
   have go:j.eO.length<6->iI w false {t with aA:=r.1,aQ:=t.aQ.set w.toNat {j with Sub:=r.2}}=some {t with aA:=r.1,aQ:=t.aQ.set w.toNat {j with eO:=j.eO++[r.2.Out],K:=j.K+1,Sub:=C5 1 16}}:=λh6=>by simp only[iI,bN,bL,iset,aE,set2,CS,lZ,CR];rw[SW,dM];rfl
   simp only[hd,iN,bN,bL,reduceCtorEq];by_cases hc:r.2.Code=0
   ·have e:(r.2.Code != 0)=false:=by grind
    simp only[e,bN,bL,iF,aE];grind
   grind
theorem bD1:sI t w=some (a02 t w (aEK t.bZ w (aZ t w))):=by
 have hjob:=rK h3 hw;have hk:=hj.k;have hr:=hj.reads.1;unfold sI vO aEK a02;rw[hjob,aE,aE];generalize hjj:aZ t w=j at *;by_cases hp:(j.Reads.length:Int)<=j.K
 ·grind
 ·have hi:j.K.toNat<j.Reads.length:=by omega
  have er:rdN j=j.Reads[j.K.toNat]:=by grind[rdN]
  have hbk:=hr j.Reads[j.K.toNat] (cZ hi);rw[aP (by grind),aP hp,aE,iC hk.1 (by omega),aE,<-er];rw[<-er] at hbk;unfold vN vM;rw[aKQ h2 hbk,aE,dM];have ab:gA t w true=some {t with aQ:=t.aQ.set w.toNat (J6 j 7)}:=by simp_all[gA,cV,J6]
  have go:gA t w false=some {t with aQ:=t.aQ.set w.toNat {j with K:=j.K+1}}:=by simp only[gA,bN,bL,hjob,aE];grind[cA]
  grind
theorem aUS{l:List Seen}(hl:l.length<=1000)(f:Seen->Bool)(g:Seen->Option Bool)(hg:∀x,g x=some (f x)):gH l g=some (l.any f):=by
 have e:g=λx=>some (f x):=funext hg;rw[e];unfold gH;rcases aLJ (s:=l) (p:=f) (by omega) with ⟨j,h,h1,h2,h3⟩|⟨h1,h3⟩
 ·rw[h3,aE,bY (by omega)];congr 1;exact(List.any_eq_true.2 ⟨l[j],cZ h,h2⟩).symm
 ·rw[h3,aE,eF (by omega)];congr 1;refine(aUU.2 λx hx=>?_).symm;obtain⟨i,hi,rfl⟩:=aAS hx;simp[h1 i hi]
def bO0(t:Table)(w:Int)(p:List cQ×aI×Bool):Table:={t with bZ:=p.1,aQ:=t.aQ.set w.toNat p.2.1,Log:=t.Log++if p.2.2 then [⟨2,w,(aZ t w).aO,0,[],[]⟩] else []}
theorem bH2(hl:t.Log.length<=1000000):EW t w=some (bO0 t w (VG t.bZ w (aZ t w))):=by
 obtain⟨s1,s2,s3,s4,s5⟩:=aC1 h3 h2 hb hw hj;have hjob:=rK h3 hw;have hk:=hj.k;have hd:=hj.held;have hwr:=hj.wr;unfold EW VG bO0;rw[hjob,aE,aN1 (by have:=hwr.1;omega) (λx hx=>(hwr.2.1 x hx).1),aE];generalize hjj:aZ t w=j at *;have set2:∀x y:aI,(t.aQ.set w.toNat x).set w.toNat y=t.aQ.set w.toNat y:=λx y=>aY7 ..;have iset:∀x:aI,idx (t.aQ.set w.toNat x) w=some x:=λx=>aIW ⟨hw.1,by omega⟩;have hheld:j.bD.length<=2:=by
  match h:j.bD,hd with
  |[],_=>simp
  |[_],_=>simp
  |[_,_],_=>simp
  |x::y::z::r,⟨hm,hn⟩=>
   (simp_all;omega)
 by_cases hp:j.K<(sC j.aH).length
 ·have hi:j.K.toNat<(sC j.aH).length:=by omega
  have er:gZ j=(sC j.aH)[j.K.toNat]:=by grind[gZ]
  have hbk:0<=gZ j/\gZ j<=1:=by grind[aCP,cZ]
  rw[aL (by grind),aL hp,iC hk.1 hp,aE,<-er,aKQ h2 hbk,aE];have ab:iS t w (sC j.aH) (gZ j) true=some {t with aQ:=t.aQ.set w.toNat (J6 j 7)}:=by simp_all[iS,cV,J6]
  have en:∀x:aI,x.K=j.K->x.aO=j.aO->o7 t w (sC j.aH) (gZ j) (iK t.bZ (gZ j)) (t.aQ.set w.toNat x) =
    some {t with bZ:=t.bZ.set (gZ j).toNat {iK t.bZ (gZ j) with g9:=w+1},aQ:=t.aQ.set w.toNat (if(sC j.aH).length<=j.K+1 then {x with K:=0,Pc:=8} else {x with K:=j.K+1}),Log:=t.Log++if(sC j.aH).length<=j.K+1 then [⟨2,w,j.aO,0,[],[]⟩] else []}:=λx hx hs=>by
   simp only[o7,o6,vL,iset,set2,aE,hx,hs];rw[dM,dM];by_cases hq:((sC j.aH).length:Int)<=j.K+1
   ·rw[aL (by grind),SW,aL hq,aL hq]
   grind
  have go:iS t w (sC j.aH) (gZ j) false=some (if(iK t.bZ (gZ j)).jS=1000000 then {t with aQ:=t.aQ.set w.toNat (J6 j 3)} else
    {t with bZ:=t.bZ.set (gZ j).toNat {iK t.bZ (gZ j) with g9:=w+1},aQ:=t.aQ.set w.toNat (if(sC j.aH).length<=j.K+1 then {VF j with K:=0,Pc:=8} else VF j),Log:=t.Log++if(sC j.aH).length<=j.K+1 then [⟨2,w,j.aO,0,[],[]⟩] else []}):=by
   unfold iS;rw[eD,aKQ h2 hbk,aE];by_cases hv:(iK t.bZ (gZ j)).jS=1000000
   ·simp_all[cV,J6]
   ·have e:((iK t.bZ (gZ j)).jS == 1000000)=false:=by grind
    simp only[e,bN,bL,aP hv,hjob,aE];rw[contains_eq (by grind[maxLen]),aE];by_cases hm:gZ j∈j.bD
    ·rw[bY hm,eD];have:=en j rfl rfl;rw[show t.aQ.set w.toNat j=t.aQ by
      rw[<-hjj];unfold aZ;rw[OI,mP (show w.toNat<t.aQ.length by omega)];simp] at this
     simp_all[VF]
    ·rw[eF hm,aL (by rfl),SW];unfold F7;rw[en {j with bD:=j.bD++[gZ j]} rfl rfl];unfold VF;rw[aP hm]
  have fin:∀B:Bool,iS t w (sC j.aH) (gZ j) B=some (if B=true then {t with aQ:=t.aQ.set w.toNat (J6 j 7)} else if(iK t.bZ (gZ j)).jS=1000000 then {t with aQ:=t.aQ.set w.toNat (J6 j 3)} else
    {t with bZ:=t.bZ.set (gZ j).toNat {iK t.bZ (gZ j) with g9:=w+1},aQ:=t.aQ.set w.toNat (if(sC j.aH).length<=j.K+1 then {VF j with K:=0,Pc:=8} else VF j),Log:=t.Log++if(sC j.aH).length<=j.K+1 then [⟨2,w,j.aO,0,[],[]⟩] else []}):=λB=>by
   cases B
   ·simp only[bN,bL];exact go
   ·simp only[bR];exact ab
  have cf:gH j.Reads (λy0=>yR y0 (gZ j) (iK t.bZ (gZ j)))=some (j.Reads.any λs=>s.cQ == gZ j && s.jS != (iK t.bZ (gZ j)).jS):=
   aUS h3 h2 hb hw (by grind) (by omega) _ _ λx=>by unfold yR qZ;cases x.cQ == gZ j<;>rfl
  by_cases hl0:(iK t.bZ (gZ j)).g9=0
  ·have e:((iK t.bZ (gZ j)).g9 != 0)=false:=by grind
   simp only[e,bN,bL];rw[cf,aE,fin];by_cases hany:(j.Reads.any λs=>s.cQ == gZ j && s.jS != (iK t.bZ (gZ j)).jS)=true
   ·grind
   ·rw[aP hany,aP (show ¬((iK t.bZ (gZ j)).g9≠0\/(j.Reads.any λs=>s.cQ == gZ j && s.jS != (iK t.bZ (gZ j)).jS)=true) from λq=>q.elim (λa=>a hl0) hany)];by_cases hv:(iK t.bZ (gZ j)).jS=1000000
    ·rw[aL hv,aL hv];simp
    ·rw[aP hv,aP hv];by_cases hq:((sC j.aH).length:Int)<=j.K+1
     ·simp only[aL hq];rfl
     ·simp only[aP hq];rfl
  grind
 ·rw[aP (by grind),aP hp];unfold o6 vL;rw[hjob,aE,cY,SW,aE];rfl
end
def a4A(t:Table)(w:Int)(p:aA×List cQ×aI):Table:={t with aA:=p.1,bZ:=p.2.1,aQ:=t.aQ.set w.toNat p.2.2}
theorem aSD{j:aI}(hk:0<=j.K/\j.K<=100)(x:aX):pY j x=some (VM j x):=by
 unfold pY VM;cases x.KR
 ·rfl
 ·simp only[bR];grind[cA]
theorem bD2{j:aI}(hk:0<=j.K):mA j=some (YU j):=by
 unfold mA YU;by_cases h:j.K<j.bU.length
 ·have hi:j.K.toNat<j.bU.length:=by omega
  rw[aL (by grind),aL h,iC hk h,aE];simp only[lZ,aE,tG,OI,mP hi,Option.getD_some];rfl
 grind
theorem a4B{m:Mem}(hm:kR m){w:Int}(hw:0<=w/\w<=2)(x:Int):∃c,PQ m w x=some (a38 m w x,c):=by
 obtain⟨hcnt,h3,h9,h1,h2,hsm,hcp,hlo,hsG,hsO⟩:=kR.facts hm;have hbl:m.Heap.Bytes.length<=maxLen:=by grind[maxLen]
 unfold PQ a38;rw[EC hbl (by omega),bY hm,aE,eD,oH,bY hw,aE];unfold EY;rw[eD,uJ hm.1.1.1 (by omega) (by omega) (by omega),aE];by_cases hl:mM m x
 ·obtain⟨m',e1,e2,_,_⟩:=aOW hm hw hl;simp_all[aIS]
 simp_all[T9]
theorem bH3{O:Type}{l:List O}{a b:Nat}(hab:a<=b)(hb:b<=l.length):((dA l a (l.drop b)).take (a+(l.length-b))).drop 0=l.take a++l.drop b:=by
 have h1:(l.take a).length=a:=by grind
 have h2:(l.drop b).length=l.length-b:=by simp
 unfold dA;rw[SZ,aK4 (l:=l.drop b) (by omega),<-pK,show a+(l.length-b)=(l.take a++l.drop b).length by grind];grind
theorem a03{l:List Int}(h:0<l.length)(hl:l.length<=1000):rB l 0 1=some (l.drop 1):=by
 unfold rB;rw[J5,eD,J5,J5,b9 (by decide),bH3 (by decide) (show Int.toNat 1<=l.length from h),b9]
 ·rfl
 ·rw[fI (by simp)];simp only[DA,aGY,aEQ,Int.toNat_zero];omega
section
variable {t:Table} {w:Int} (h3:t.aQ.length=3) (h2:t.bZ.length=2) (hb:kD t.aA) (hw:0<=w/\w<=2) (hj:JB (aZ t w))
include h3 h2 hb hw hj
theorem bD3:BJ t w=some (a4A t w (J1 t.aA t.bZ (aZ t w))):=by
 obtain⟨s1,s2,s3,s4,s5⟩:=aC1 h3 h2 hb hw hj;have hjob:=rK h3 hw;have hk:=hj.k;have hwr:=hj.wr;have hol:=hj.old.1;unfold BJ CZ J1 a4A;rw[hjob,aE,aE];generalize hjj:aZ t w=j at *;have set2:∀x y:aI,(t.aQ.set w.toNat x).set w.toNat y=t.aQ.set w.toNat y:=λx y=>aY7 ..;have iset:∀x:aI,idx (t.aQ.set w.toNat x) w=some x:=λx=>aIW ⟨hw.1,by omega⟩;by_cases hp:(j.aH.length:Int)<=j.K
 ·grind
 ·have hi:j.K.toNat<j.aH.length:=by omega
  have er:uL j=j.aH[j.K.toNat]:=by grind[uL]
  have hx:=hwr.2.1 j.aH[j.K.toNat] (cZ hi);rw[<-er] at hx;have hbk:0<=pJ (uL j).Key/\pJ (uL j).Key<=1:=by unfold pJ;omega
  rw[aP (by grind),aP hp,aE,iC hk.1 (by omega),aE,<-er];unfold CY;rw[U9,aE,aKQ h2 hbk,aE,hjob,aE];generalize uL j=x at *;generalize hbb:pJ x.Key=bi at *;have ex:(⟨x.Key,x.KR,x.fT⟩:aX)=x:=rfl;rw[ex];by_cases p9:j.Pc=9
  ·have e:(j.Pc == 9)=true:=by grind
   simp only[e,bR,aL p9];by_cases hh:(iK t.bZ bi).Head=0
   ·have e:((iK t.bZ bi).Head == 0)=true:=by grind
    simp only[e,bR,aL hh];grind[aSD]
   grind
  ·have e : (j.Pc == 9) = false:=by grind
   simp only[e,bN,bL,aP p9];by_cases p10:j.Pc=10
   ·have e:(j.Pc == 10)=true:=by grind
    simp only[e,bR,aL p10];obtain⟨c,e⟩:=aVU hb.1.1 j.H;rw[e,aE];simp only;by_cases hkey:(aCX t.aA.Mem.Heap j.H).Key=x.Key
    ·grind
    ·have e:((aCX t.aA.Mem.Heap j.H).Key == x.Key)=false:=by grind
     simp only[e,bN,bL,aP hkey,aYE,aE];by_cases hs:W0 (aCX t.aA.Mem.Heap j.H)=0
     ·have e:(W0 (aCX t.aA.Mem.Heap j.H) == 0)=true:=by grind
      simp only[e,bR,aL hs];grind[aSD]
     simp_all[CU]
   ·have e:(j.Pc == 10)=false:=by grind
    simp only[e,bN,bL,aP p10];by_cases p11:j.Pc=11
    ·have e:(j.Pc == 11)=true:=by grind
     simp only[e,bR,aL p11];have cut:∀u:Table,u.aQ=t.aQ->nK w x.Key x.KR x.fT u=some {u with aQ:=t.aQ.set w.toNat (VM (YT j) x)}:=λu hu=>by
      have hju:idx u.aQ w=some j:=by grind
      have last:∀v:Table,∀y:aI,idx v.aQ w=some y->(0<=y.K/\y.K<=100)->nJ w x.Key x.KR x.fT v=some {v with aQ:=v.aQ.set w.toNat (VM y x)}:=λv y hy hyk=>by simp_all[nJ,aSD]
      unfold nK sJ CV YT;rw[hju,aE,iF,aE];by_cases hh:kC j.H
      ·rw[bY hh,aL rfl];by_cases h6:j.bU.length<6
       ·rw[bY (by omega),aL rfl,aE,SW,last _ {j with bU:=j.bU++[j.H]} (by grind) (by grind),aL ⟨hh,h6⟩];grind
       grind
      grind
     by_cases hpv:j.gN=0
     ·simp_all[aYE]
     ·have e:(j.gN == 0)=false:=by grind
      simp only[e,bN,bL,aP hpv,aYE,aE];obtain⟨c,e⟩:=a89 hb.1.1 j.gN (W0 j.Node);grind[CX]
    ·have e:(j.Pc == 11)=false:=by grind
     simp only[e,bN,bL,aP p11];have hpn:0<=eK j.aH j.K:=by grind[eK]
     have hbs:t.bZ.set bi.toNat (iK t.bZ bi)=t.bZ:=by grind[iK,aUX]
     unfold NW;rw[YP s2,aE];by_cases hn:(j.eO.length:Int)<=eK j.aH j.K
     ·rw[aL (by grind),aL hn];simp only[cV,aE,hbs];rfl
     ·have hi2:(eK j.aH j.K).toNat<j.eO.length:=by omega
      have en:KB j=j.eO[(eK j.aH j.K).toNat]:=by grind[KB]
      rw[aP (by grind),aP hn,iC hpn (by omega),<-en];by_cases p12:j.Pc=12
      ·have e:(j.Pc == 12)=true:=by grind
       simp only[e,bR,aL p12,aE];obtain⟨c,e⟩:=a37 hb.1.1 (KB j) ⟨x.Key,x.fT,(iK t.bZ bi).Head⟩;grind[F8]
      ·have e:(j.Pc == 12)=false:=by grind
       simp only[e,bN,bL,aP p12,aE];grind[cA]
def a61(t:Table)(w:Int)(p:List cQ×aI):Table:={t with bZ:=p.1,aQ:=t.aQ.set w.toNat p.2}
theorem a9D(hk1:∀x∈t.bZ,BkV x):yS t w=some (a61 t w (VH t.bZ (aZ t w))):=by
 have hjob:=rK h3 hw;have hd:=hj.held;unfold yS VH a61;rw[hjob,aE];generalize hjj:aZ t w=j at *;have hheld:j.bD.length<=2:=by
  match h:j.bD,hd with
  |[],_=>simp
  |[_],_=>simp
  |[_,_],_=>simp
  |x::y::z::r,⟨hm,hn⟩=>
   (simp_all;omega)
 by_cases hp:0<j.bD.length
 ·have er:EG j=j.bD[0]:=by grind[EG]
  have hbk:=hd.1 j.bD[0] (cZ hp);rw[<-er] at hbk;have hbv:BkV (iK t.bZ (EG j)):=by grind[iK]
  have hver:=hbv.2.1;rw[aL (by grind),aL hp,show(0:Int)=((0:Nat):Int) from rfl,aT hp,aE,<-er,aKQ h2 hbk,aE];have un:∀k,mB t w k=some {t with bZ:=k,aQ:=t.aQ.set w.toNat {j with bD:=j.bD.drop 1}}:=λk=>by grind[mB,a03]
  by_cases p14:j.Pc=14
  ·have e:(j.Pc == 14)=true:=by grind
   simp only[e,bR,aL p14];grind[cA]
  ·have e:(j.Pc == 14)=false:=by simpa using p14
   simp only[e,bN,bL,aP p14];rw[un]
 ·rw[aP (by simpa using hp),aP hp];by_cases p16:j.Pc=16
  ·have e:(j.Pc == 16)=true:=by simpa using p16
   simp only[e,bR,aL p16]
  ·have e:(j.Pc == 16)=false:=by simpa using p16
   simp only[e,bN,bL,aP p16];rw[bD2 (j:={j with Pc:=15,K:=0}) (O4 _)];rfl
theorem a4C:yT t w=some (aC2 t w (SC t.aA w (aZ t w))):=by
 have hjob:=rK h3 hw;have hk:=hj.k;unfold yT zY SC aC2;rw[hjob,aE,aE];generalize hjj:aZ t w=j at *;by_cases hp:(j.bU.length:Int)<=j.K
 ·grind
 ·rw[aP (by grind),aP hp,aE,aKO hb hw,aE];generalize jG t.aA w j.Sub=r;cases hd:r.2.iB
  ·simp
  ·simp only[hd,bR];grind[cA,bD2]
theorem drop_eq:EZ t w=some (aC2 t w (QC t.aA w (aZ t w))):=by
 have hjob:=rK h3 hw;have hn:=hj.new;unfold EZ QC aC2;rw[hjob,aE];generalize hjj:aZ t w=j at *;by_cases hp:j.eO.length=0
 ·grind
 ·have hp0:0<j.eO.length:=by omega
  have er:j.eO.getD 0 0=j.eO[0]:=by grind
  have hh:=hn.2 j.eO[0] (cZ hp0);rw[<-er] at hh;rw[aP (by grind),aP hp,show(0:Int)=((0:Nat):Int) from rfl,aT hp0,aE,<-er,show((0:Nat):Int)=0 from rfl,a03 hp0 (by omega),aE,(kC.mod hh).1,FK hb.1.2.2.1,aE];by_cases hl:bD t.aA.aM (j.eO.getD 0 0 % 32)
  ·grind
  ·rw[eF hl,aL (by rfl),aP hl];obtain⟨c,e⟩:=a4B hb.1.1 hw (j.eO.getD 0 0);rw[e];rfl
theorem a4D(hl:t.Log.length<=1000000):vP t w=some {t with aQ:=t.aQ.set w.toNat cO,Log:=t.Log++[tlE w (aZ t w)]}:=by
 have hjob:=rK h3 hw;unfold vP tlE;rw[hjob,aE];generalize hjj:aZ t w=j at *;by_cases hc:j.Code=0
 ·have e:(j.Code == 0)=true:=by grind
  simp only[e,bR,aL hc];rw[SW];rfl
 ·have e:(j.Code == 0)=false:=by grind
  simp only[e,bN,bL,aP hc];rw[SW];rfl
end
theorem a9E{b:aA}(hb:kD b){w:Int}(hw:0<=w/\w<=2):∃c,E0 b w=some (c,{b with aD:=(OC b.aD w).1}):=by obtain⟨r,e1,e2,_,_⟩:=a0Z hb.1.2.1 hw;rw[aVP hb.1.2.1 hw] at e1;simp_all[E0]
section
variable {t:Table} {w:Int} (h3:t.aQ.length=3) (h2:t.bZ.length=2) (hb:kD t.aA) (hw:0<=w/\w<=2)
include h3 h2 hb hw
theorem bH4(hq3:t.dQ.length=3)(hqv:∀q∈t.dQ,q.List.length<=12/\∀b∈q.List,aEM b)(hs:0<=t.aO/\t.aO<=1000000)(hl:t.Log.length<=1000000) :
  A7 t w=some (if(zD t w).length=0\/t.aO=1000000 then t else SX t w ((zD t w).getD 0 ⟨false,[]⟩)):=by
 have hqi:w.toNat<t.dQ.length:=by omega
 have hq:idx t.dQ w=some ⟨zD t w⟩:=by simp_all[iC,zD]
 have hqm:(⟨zD t w⟩:aN)∈t.dQ:=by unfold zD;rw[OI,mP hqi];exact cZ _
 have hqq:=hqv _ hqm;simp only at hqq;unfold A7;rw[hq,aE];simp only;by_cases h0:(zD t w).length=0
 ·simp_all[nG]
 ·have e:(((zD t w).length:Int) == 0)=false:=by grind
  rw[aP (by rw[e];simp)];unfold nG;by_cases hm:t.aO=1000000
  ·grind
  ·have e:(t.aO == 1000000)=false:=by grind
   have hp0:0<(zD t w).length:=by omega
   have er:(zD t w).getD 0 ⟨false,[]⟩=(zD t w)[0]:=by grind
   have hbv:=hqq.2 (zD t w)[0] (cZ hp0);rw[<-er] at hbv;rw[aP (by rw[e];simp),hq,aE];simp only;have i0:idx (zD t w) 0=some ((zD t w)[0]):=aT hp0;rw[i0,aE,<-er,aP (λq=>q.elim h0 hm)];unfold OM;rw[J5,aE];generalize hbb:(zD t w).getD 0 ⟨false,[]⟩=b at *;simp only[lZ,aE];unfold CM;have fin:∀x:aI,x.aO=t.aO+1->x.Batch.Collect=b.Collect->nE t w ⟨zD t w⟩ b x=some ⟨t.aA,t.bZ,t.aQ.set w.toNat {x with Batch:=⟨x.Batch.Collect,b.bW⟩,Reads:=[],aH:=[],iZ:=[],eO:=[],bD:=[],bU:=[]},t.dQ.set w.toNat ⟨(zD t w).drop 1⟩,t.Log++[⟨1,w,t.aO+1,0,b.bW,[]⟩],t.aO+1⟩:=λx hx _=>by unfold nE lN CL;rw[rK h3 hw,aE,b9 (by have:=hbv.2.1;simp;omega),aE,SW,hx,dM];rfl
   have e1:aY (t.aO+1)=t.aO+1:=dM;unfold SX m0;cases hc:b.Collect
   ·rw[eD,fin _ (by omega) (by grind)];simp only[e1,hc,bN,bL];have eb:(⟨false,b.bW⟩:Batch)=b:=by cases b;grind
    rw[eb];rfl
   ·rw[aL rfl];simp only[lZ,aE];rw[fin _ (by omega) (by grind)];simp only[e1,hc,bR];have eb:(⟨true,b.bW⟩:Batch)=b:=by cases b;grind
    rw[eb];rfl
end
theorem YV(t:Table)(w:Int)(p:aA×aI):QD t w ⟨p.1,t.bZ,p.2,[]⟩=aC2 t w p:=by grind[QD,aC2]
theorem a04{t:Table}(hv:TV t)(hl:t.Log.length<=1000000){w:Int}(hw:0<=w/\w<=2):wS t w=some (lB t w):=by
 have h3:=hv.C9.1;have h2:=hv.bk.1;have hb:=hv.base;have hjob:=rK h3 hw;have hjv:=hv.C9.2 _ (FL h3 hw);unfold wS lB;rw[hjob,aE];cases hbusy:(aZ t w).cR
 ·simp only[KO,bR,bN,bL];rw[bH4 h3 h2 hb hw hv.todo.1 hv.todo.2 hv.ser hl];rfl
 ·have hj : JB (aZ t w):=hjv.resolve_left λe=>by rw[e] at hbusy; cases hbusy
  simp only[iN,bN,bL,bR];unfold OE;by_cases p0:(aZ t w).Pc=0\/(aZ t w).Pc=20\/(aZ t w).Pc=21
  ·rw[aL p0,YV];have go:jX t w (aZ t w) true=some (aC2 t w (C8 t.aA w (aZ t w))):=by simp_all[jX,bD0]
   grind
  ·rw[aP p0];have e0:((aZ t w).Pc == 0)=false:=by simp;omega
   have e20:((aZ t w).Pc == 20)=false:=by simp;omega
   have e21:((aZ t w).Pc == 21)=false:=by simp;omega
   simp only[e0,e20,e21,bN,bL];unfold jX;simp only[bN,bL,dD,aE];by_cases p1:(aZ t w).Pc=1
   ·have e:((aZ t w).Pc == 1)=true:=by grind
    simp_all[aC1,bDZ,QD]
   ·have e : ((aZ t w).Pc == 1) = false:=by grind
    simp only[e,bN,bL,aP p1];by_cases p2:2<=(aZ t w).Pc/\(aZ t w).Pc<=5
    ·simp_all[bH1,QD,a02]
    ·simp only[eF p2,bN,bL,aP p2];by_cases p6:(aZ t w).Pc=6
     ·simp_all[a9C,YV]
     ·have e : ((aZ t w).Pc == 6) = false:=by grind
      simp only[e,bN,bL,aP p6];by_cases p7:(aZ t w).Pc=7
      ·have e:((aZ t w).Pc == 7)=true:=by grind
       simp only[e,bR,aL p7];rw[bH2 h3 h2 hb hw hj hl];rfl
      ·have e : ((aZ t w).Pc == 7) = false:=by grind
       simp only[e,bN,bL,aP p7];by_cases p8:(aZ t w).Pc=8
       ·simp_all[bD1,QD,a02]
       ·have e : ((aZ t w).Pc == 8) = false:=by grind
        simp only[e,bN,bL,aP p8];by_cases p9:9<=(aZ t w).Pc/\(aZ t w).Pc<=13
        ·simp_all[bD3,QD,a4A]
        ·simp only[eF p9,bN,bL,aP p9];by_cases p14:(aZ t w).Pc=14\/(aZ t w).Pc=16
         ·rw[aL p14];have go:lO t w (aZ t w) true=some (a61 t w (VH t.bZ (aZ t w))):=by unfold lO;rw[aL rfl,a9D h3 h2 hb hw hj hv.bk.2];rfl
          grind[a61,QD]
         ·have e14:((aZ t w).Pc == 14)=false:=by simp;omega
          have e16:((aZ t w).Pc == 16)=false:=by simp;omega
          simp only[e14,e16,bN,bL,aP p14];unfold lO;simp only[bN,bL];by_cases p15:(aZ t w).Pc=15
          ·simp_all[a4C,YV]
          ·have e:((aZ t w).Pc == 15)=false:=by grind
           simp only[e,bN,bL,aP p15];by_cases p17:(aZ t w).Pc=17
           ·simp_all[drop_eq,YV]
           ·have e:((aZ t w).Pc == 17)=false:=by grind
            simp only[e,bN,bL,aP p17];by_cases p18:(aZ t w).Pc=18
            ·have e:((aZ t w).Pc == 18)=true:=by grind
             simp only[e,bR,aL p18];grind[a9E,QD]
            ·have e:((aZ t w).Pc == 18)=false:=by grind
             simp only[e,bN,bL,aP p18];by_cases p19:(aZ t w).Pc=19
             ·have e:((aZ t w).Pc == 19)=true:=by grind
              simp only[e,bR,aL p19];rw[a4D h3 h2 hb hw hj hl];rfl
             simp_all[QD,cV,J6]
def aYF(o:List aX)(x:aX):List aX:=o.takeWhile (λy=>!decide (x.Key<y.Key))++[x]++o.dropWhile (λy=>!decide (x.Key<y.Key))
theorem aVZ(y:aX)(r:List aX)(x:aX):aYF (y::r) x=if x.Key<y.Key then x::y::r else y::aYF r x:=by grind[aYF,List.takeWhile_cons,List.dropWhile_cons]
theorem aSE(o:List aX)(x z:aX):z∈aYF o x↔z=x\/z∈o:=by
 induction o with
 |nil=>simp[aYF]
 |cons y r ih=>
  grind[aVZ]
theorem a05{o:List aX}{x:aX}(hs:o.Pairwise (λa b=>a.Key<b.Key))(hx:∀y∈o,y.Key≠x.Key):(aYF o x).Pairwise (λa b=>a.Key<b.Key):=by
 induction o with
 |nil=>simp[aYF]
 |cons y r ih=>
  grind[aVZ,aG0,aSE]
theorem bD4{l:List aX}(h:WrV l){x:aX}(hx:(0<=x.Key/\x.Key<=99)/\(0<=x.fT/\x.fT<=65535))(hl:(O2 l x).length<=6):WrV (O2 l x):=by
 refine⟨hl,λy hy=>?_,?_⟩
 ·rcases(aSE _ _ _).1 (show y∈aYF _ x from hy) with rfl|hy
  ·exact hx
  ·exact h.2.1 y (List.mem_filter.1 hy).1
 ·exact a05 (h.2.2.sublist List.filter_sublist) λy hy=>by grind
theorem bD5{a b:Int}(ha:0<=a/\a<=4294967295)(hb:0<=b/\b<=65535):0<=aAP a b/\aAP a b<=65535:=by grind[aAP,cA]
section
variable {j:aI} (hj:JB j)
include hj
theorem JB.ab(c:Int):JB (J6 j c):=⟨hj.busy,hj.bat,hj.h,hj.prev,hj.bkt,hj.at_,hj.k,hj.new,hj.old,hj.reads,hj.wr,hj.held,hj.res,hj.node⟩
theorem JB.pc(p:Int):JB {j with Pc:=p}:=⟨hj.busy,hj.bat,hj.h,hj.prev,hj.bkt,hj.at_,hj.k,hj.new,hj.old,hj.reads,hj.wr,hj.held,hj.res,hj.node⟩
theorem JB.sub(s:Sub):JB {j with Sub:=s}:=⟨hj.busy,hj.bat,hj.h,hj.prev,hj.bkt,hj.at_,hj.k,hj.new,hj.old,hj.reads,hj.wr,hj.held,hj.res,hj.node⟩
theorem JB.kk{k:Int}(h:0<=k/\k<=6):JB {j with K:=k}:=⟨hj.busy,hj.bat,hj.h,hj.prev,hj.bkt,hj.at_,h,hj.new,hj.old,hj.reads,hj.wr,hj.held,hj.res,hj.node⟩
theorem JB.nd{n:gE}(h:0<=n.fT/\n.fT<=4294967295):JB {j with Node:=n}:=⟨hj.busy,hj.bat,hj.h,hj.prev,hj.bkt,hj.at_,hj.k,hj.new,hj.old,hj.reads,hj.wr,hj.held,hj.res,h⟩
theorem JB.hh{x:Int}(h:j8 x):JB {j with H:=x}:=⟨hj.busy,hj.bat,h,hj.prev,hj.bkt,hj.at_,hj.k,hj.new,hj.old,hj.reads,hj.wr,hj.held,hj.res,hj.node⟩
theorem JB.pv{x:Int}(h:j8 x):JB {j with gN:=x}:=⟨hj.busy,hj.bat,hj.h,h,hj.bkt,hj.at_,hj.k,hj.new,hj.old,hj.reads,hj.wr,hj.held,hj.res,hj.node⟩
theorem JB.rd2:j.Reads.length<=2:=by
 have hn:=hj.reads.2;have hm:∀x∈j.Reads.map Seen.cQ,x=0\/x=1:=λx hx=>by obtain⟨s,hs,rfl⟩:=VN.1 hx;have:=hj.reads.1 s hs;omega
 have hl:(j.Reads.map Seen.cQ).length<=2:=by
  match h:j.Reads.map Seen.cQ,hn,hm with
  |[],_,_=>simp
  |[_],_,_=>simp
  |[_,_],_,_=>simp
  |x::y::z::r,hn,hm=>
   (simp_all;omega)
 grind
theorem JB.cmd(h:EF j):aEL (gC j):=by
 have ha:=hj.at_;have hi:j.At.toNat<j.Batch.bW.length:=by grind[EF]
 unfold gC;rw[OI,mP hi];exact hj.bat.2.2.1 _ (cZ hi)
theorem JB.aIV(h:EF j)(is:Bool)(v:Int):JB (Gv.aIV j is v):=by have h':j.At<j.Batch.bW.length:=h;have ha:=hj.at_;have hr:=hj.res;exact⟨hj.busy,hj.bat,hj.h,hj.prev,hj.bkt,⟨by show 0<=j.At+1;omega,by show j.At+1<=(j.Batch.bW.length:Int);omega⟩,hj.k,hj.new,hj.old,hj.reads,hj.wr,hj.held,by show(((j.iZ++[_]).length:Nat):Int)=j.At+1;simp;omega,hj.node⟩
theorem JB.rcw{x:aX}(hx:(0<=x.Key/\x.Key<=99)/\(0<=x.fT/\x.fT<=65535)):JB (C7 j x).2:=by
 unfold C7;split
 ·exact hj.ab 1
 ·exact⟨hj.busy,hj.bat,hj.h,hj.prev,hj.bkt,hj.at_,hj.k,hj.new,hj.old,hj.reads,bD4 hj.wr hx (by omega),hj.held,hj.res,hj.node⟩
theorem aSF(x:aX):(C7 j x).2.Batch=j.Batch:=by grind[C7,J6]
theorem JB.ans(h:EF j){c:kG}(hc:aEL c){v:Int}(hv:0<=v/\v<=4294967295)(is:Bool):JB (OD j c v is):=by
 unfold OD;split
 ·have hv':0<=(if is then v else 0)/\(if is then v else 0)<=4294967295:=by omega
  generalize (if is then v else 0)=u at hv';unfold aSB;have hr:=hj.rcw (x:=⟨c.Key,false,aAP u c.fT⟩) ⟨hc.2.1,bD5 hv' hc.2.2.1⟩;split
  ·refine hr.aIV ?_ _ _;grind[EF,aSF,aKP]
  ·exact hr
 ·exact hj.aIV h _ _
theorem JB.jnx:JB (aCZ j):=by
 unfold aCZ;split
 ·rename_i h;have hc:=hj.cmd h;have h':j.At<j.Batch.bW.length:=h;have ha:=hj.at_;have hr:=hj.res;split
  ·have hr':=hj.rcw (x:=⟨(gC j).Key,(gC j).Kind == 3,(gC j).fT⟩) ⟨hc.2.1,hc.2.2.1⟩;split
   ·refine⟨hr'.busy,hr'.bat,hr'.h,hr'.prev,hr'.bkt,⟨by grind,?_⟩,hr'.k,hr'.new,hr'.old,hr'.reads,hr'.wr,hr'.held,by grind,hr'.node⟩;grind[aSF]
   ·exact hr'
  ·split
   ·refine hj.ans h hc ?_ _;unfold aNY;split
    ·rename_i x hf;have:=hj.wr.2.1 x (List.mem_of_find?_eq_some hf);grind
    simp
   ·exact⟨hj.busy,hj.bat,hj.h,hj.prev,by show 0<=pJ _/\pJ _<=1;unfold pJ;rw[aL hc.2.1];omega,hj.at_,hj.k,hj.new,hj.old,hj.reads,hj.wr,hj.held,hj.res,hj.node⟩
 ·exact((hj.pc 6).kk (k:=0) (by omega)).sub _
theorem JB.spt(b v:Int)(hb:0<=b/\b<=1):JB {j with Reads:=(KM j.Reads b v).1}:=by
 refine⟨hj.busy,hj.bat,hj.h,hj.prev,hj.bkt,hj.at_,hj.k,hj.new,hj.old,?_,hj.wr,hj.held,hj.res,hj.node⟩;show(∀s∈(KM j.Reads b v).1,0<=s.cQ/\s.cQ<=1)/\((KM j.Reads b v).1.map Seen.cQ).Nodup;unfold KM;split
 ·exact hj.reads
 ·rename_i hf;refine⟨λs hs=>?_,?_⟩
  ·rcases eS.1 hs with hs|hs
   ·exact hj.reads.1 s hs
   grind
  ·rw[qI,aK1];refine⟨hj.reads.2,by simp,λa ha c hc=>?_⟩;grind
theorem JB.pl(h:j.K<j.aH.length)(x:aX):JB (VM j x):=by
 have hk:=hj.k;have hw:=hj.wr.1;unfold VM;split
 ·exact(hj.pc 9).kk (k:=j.K+1) (by omega)
 ·exact hj.pc 12
theorem JB.bRD:JB (YT j):=by
 unfold YT;split
 ·rename_i h;refine⟨hj.busy,hj.bat,hj.h,hj.prev,hj.bkt,hj.at_,hj.k,hj.new,⟨by grind,λx hx=>?_⟩,hj.reads,hj.wr,hj.held,hj.res,hj.node⟩;rcases eS.1 hx with hx|hx
  ·exact hj.old.2 x hx
  grind
 ·exact hj
theorem JB.rtn:JB (YU j):=by
 unfold YU;split
 ·exact hj.sub _
 ·exact hj
end
theorem bH5{l:List Int}(h:uH l){a:Nat}(ha:a+4<=l.length):0<=ld l a 4/\ld l a 4<=4294967295:=by
 rw[ld4 ha];have b:∀k,k<l.length->0<=bt l k/\bt l k<=255:=λk hk=>by rw[<-aRZ hk];exact h _ (cZ hk)
 grind
theorem a06{m:Mem}(hm:kR m)(x:Int):0<=(aCX m.Heap x).fT/\(aCX m.Heap x).fT<=4294967295:=by
 unfold aCX;split
 ·rename_i h;have hr:=(C6 h.2.1 h.2.2).1;have h1:=hm.1.1.1.1;exact bH5 hm.1.1.1.2.2.1 (by omega)
 ·show(0:Int)<=0/\(0:Int)<=4294967295;omega
theorem SD(l:List aX)(n:Int):eK l n<=l.length:=by grind[eK]
theorem a62{k:List cQ}{i:Int}(h2:k.length=2)(hi:0<=i/\i<=1):iK k i∈k:=by grind[iK]
theorem aOZ{k:List cQ}(h:k.length=2/\∀x∈k,BkV x)(i:Nat){y:cQ}(hy:BkV y):(k.set i y).length=2/\∀x∈k.set i y,BkV x:=
 ⟨by grind,λx hx=>(rX hx).elim (h.2 x) λe=>e ▸ hy⟩
theorem bMI{b:aA}(hb:kD b){w x:Int}(hw:0<=w/\w<=2)(hx:kC x)(hn:¬bD b.aM (x % 32)):kD {b with Mem:=a38 b.Mem w x}:=by
 unfold a38;by_cases hl:mM b.Mem x
 ·obtain⟨m',e1,e2,_,h⟩:=aOW hb.1.1 hw hl;rw[aIS hb.1.1 hw hl] at e1;injection e1 with e1
  rw[aL hl,e1];refine⟨⟨h.1,hb.1.2⟩,λr hr=>⟨h.live (hb.2 r hr).1 ?_,(hb.2 r hr).2⟩⟩;intro e;exact hn ⟨r,hr,(hb.2 r hr).1.1,e⟩
 simp_all
structure TRV (r:TR):Prop where
 b:kD r.b
 k:r.k.length=2/\∀x∈r.k,BkV x
 j:r.j=cO\/JB r.j
theorem aN5{c:Prop}[Decidable c]{a b:TR}(h1:c->TRV a)(h2:¬c->TRV b):TRV (if c then a else b):=by grind
theorem bMJ{b:aA}{k:List cQ}{w:Int}{j:aI}(hb:kD b)(hk:k.length=2/\∀x∈k,BkV x)(hw:0<=w/\w<=2)(hj:JB j):TRV (OE b k w j):=by
 have hkk:=hj.k;have hwr:=hj.wr;have hrd:=hj.rd2;have hbs:=bHZ hb hw j.Sub;have bkv:∀{i},0<=i/\i<=1->BkV (iK k i):=λhi=>hk.2 _ (a62 hk.1 hi);unfold OE;refine aN5 (λ_=>?_) λ_=>?_
 ·refine⟨hbs,hk,.inr ?_⟩;unfold C8;split
  ·exact hj.sub _
  ·split
   ·exact(hj.pc 1).sub _
   ·split
    ·exact(hj.pc 21).sub _
    ·exact(hj.pc 19).sub _
 refine aN5 (λ_=>?_) λ_=>?_
 ·exact⟨hb,hk,.inr hj.jnx⟩
 refine aN5 (λ_=>?_) λ_=>?_
 ·refine⟨hb,hk,.inr ?_⟩;unfold O3;have hbk:=bkv hj.bkt;split
  ·split
   ·exact hj.ab _
   ·have h1:JB {j with jS:=(iK k j.cQ).jS}:=⟨hj.busy,hj.bat,hj.h,hj.prev,hj.bkt,hj.at_,hj.k,hj.new,hj.old,hj.reads,hj.wr,hj.held,hj.res,hj.node⟩;have h2:JB {j with jS:=(iK k j.cQ).jS,Found:=false}:=⟨hj.busy,hj.bat,hj.h,hj.prev,hj.bkt,hj.at_,hj.k,hj.new,hj.old,hj.reads,hj.wr,hj.held,hj.res,hj.node⟩;exact((h2.hh hbk.1).nd (n:=a00) (by show(0:Int)<=0/\(0:Int)<=4294967295;omega)).pc _
  ·split
   ·exact(hj.nd (a06 hb.1.1 _)).pc _
   ·split
    ·split
     ·exact hj.ab _
     ·split
      ·have h1:JB {j with Found:=j.Node.Key == (gC j).Key}:=⟨hj.busy,hj.bat,hj.h,hj.prev,hj.bkt,hj.at_,hj.k,hj.new,hj.old,hj.reads,hj.wr,hj.held,hj.res,hj.node⟩;exact(h1.hh (aKM _)).pc _
      ·exact hj.ab _
    ·split
     ·exact hj.ab _
     ·have hs:=hj.spt j.cQ j.jS hj.bkt;split
      ·exact hs.ab _
      ·split
       ·rename_i h;exact hs.ans h (hj.cmd h) hj.node _
       ·exact hs.ab _
 refine aN5 (λ_=>?_) λ_=>?_
 ·unfold NG;split
  ·exact⟨hb,hk,.inr ((hj.pc 7).kk (k:=0) (by omega))⟩
  ·rename_i hp;have:=SD j.aH j.aH.length;have:=hwr.1;refine⟨hbs,hk,.inr ?_⟩;simp only;split
   ·exact hj.sub _
   ·split
    ·exact(hj.sub _).ab _
    ·rename_i hq;have q1:kC (jG b w j.Sub).2.Out:=Classical.byContradiction λq=>hq (.inr (.inl q));have q2:j.eO.length<6:=by omega
     refine⟨hj.busy,hj.bat,hj.h,hj.prev,hj.bkt,hj.at_,⟨by grind,by grind⟩,⟨by grind,λx hx=>?_⟩,hj.old,hj.reads,hj.wr,hj.held,hj.res,hj.node⟩;rcases eS.1 hx with hx|hx
     ·exact hj.new.2 x hx
     grind
 refine aN5 (λ_=>?_) λ_=>?_
 ·have ht:=aX7 j.aH;unfold VG;split
  ·rename_i hp;have hi:j.K.toNat<(sC j.aH).length:=by omega
   have er:gZ j=(sC j.aH)[j.K.toNat]:=by grind[gZ]
   have hbk:0<=gZ j/\gZ j<=1:=by grind[aCP,cZ]
   have hbv:=bkv hbk;have hset:=aOZ hk (gZ j).toNat (y:={iK k (gZ j) with g9:=w+1}) ⟨hbv.1,hbv.2.1,by grind⟩;have hlh:JB (VF j):=by
    refine⟨hj.busy,hj.bat,hj.h,hj.prev,hj.bkt,hj.at_,⟨by show 0<=j.K+1;omega,by show j.K+1<=6;omega⟩,hj.new,hj.old,hj.reads,hj.wr,?_,hj.res,hj.node⟩;show(∀x∈(if gZ j∈j.bD then j.bD else j.bD++[gZ j]),0<=x/\x<=1)/\(if gZ j∈j.bD then j.bD else j.bD++[gZ j]).Nodup;split
    ·exact hj.held
    ·rename_i hm;refine⟨λx hx=>?_,?_⟩
     ·rcases eS.1 hx with hx|hx
      ·exact hj.held.1 x hx
      grind
     ·rw[aK1];exact⟨hj.held.2,by simp,λa ha c hc e=>by grind⟩
   split
   ·exact⟨hb,hk,.inr (hj.ab _)⟩
   ·split
    ·exact⟨hb,hk,.inr (hj.ab _)⟩
    ·split
     ·exact⟨hb,hset,.inr ((hlh.pc 8).kk (k:=0) (by omega))⟩
     ·exact⟨hb,hset,.inr hlh⟩
  ·exact⟨hb,hk,.inr ((hj.pc 8).kk (k:=0) (by omega))⟩
 refine aN5 (λ_=>?_) λ_=>?_
 ·refine⟨hb,hk,.inr ?_⟩;unfold aEK;split
  ·exact(hj.pc 9).kk (k:=0) (by omega)
  ·split
   ·exact hj.ab _
   ·exact hj.kk (k:=j.K+1) (by omega)
 refine aN5 (λ_=>?_) λ_=>?_
 ·have hwl:=hwr.1;unfold J1;split
  ·exact⟨hb,hk,.inr (hj.pc 14)⟩
  ·rename_i hp;have hi:j.K.toNat<j.aH.length:=by omega
   have er:uL j=j.aH[j.K.toNat]:=by grind[uL]
   have hx:=hwr.2.1 j.aH[j.K.toNat] (cZ hi);rw[<-er] at hx;have hbk:0<=pJ (uL j).Key/\pJ (uL j).Key<=1:=by unfold pJ;omega
   have hbv:=bkv hbk;have l0:j8 0:=.inl rfl;split
   ·have h1:=((hj.pc 10).hh hbv.1).pv l0;refine⟨hb,hk,.inr ?_⟩;simp only;split
    ·exact h1.pl (by grind) _
    ·exact h1
   ·split
    ·have h1:=hj.nd (a06 hb.1.1 j.H);refine⟨hb,hk,.inr ?_⟩;simp only;split
     ·exact h1.pc 11
     ·split
      ·exact h1.pl (by grind) _
      ·exact(h1.hh (aKM _)).pv hj.h
    ·split
     ·have h1:=hj.bRD;have hkl:(YT j).K<(YT j).aH.length:=by grind[YT]
      split
      ·exact⟨hb,aOZ hk _ ⟨aKM _,hbv.2⟩,.inr (h1.pl hkl _)⟩
      ·exact⟨hb.mem (bDV hb.1.1 _ _),hk,.inr (h1.pl hkl _)⟩
     ·split
      ·exact⟨hb,hk,.inr (hj.ab _)⟩
      ·rename_i hn;have hpn:0<=eK j.aH j.K:=by grind[eK]
       have hi2:(eK j.aH j.K).toNat<j.eO.length:=by omega
       have en:KB j=j.eO[(eK j.aH j.K).toNat]:=by grind[KB]
       have hnew:kC (KB j):=by rw[en];exact hj.new.2 _ (cZ hi2)
       split
       ·exact⟨hb.mem (bDU hb.1.1 _ _),hk,.inr (hj.pc 13)⟩
       ·exact⟨hb,aOZ hk _ ⟨.inr hnew,hbv.2⟩,.inr ((hj.pc 9).kk (k:=j.K+1) (by omega))⟩
 refine aN5 (λ_=>?_) λ_=>?_
 ·unfold VH;split
  ·rename_i hp;have er:EG j=j.bD[0]:=by grind[EG]
   have hbk:=hj.held.1 j.bD[0] (cZ hp);rw[<-er] at hbk;have hbv:=bkv hbk;have hver:=hbv.2.1;refine⟨hb,aOZ hk _ ?_,.inr ⟨hj.busy,hj.bat,hj.h,hj.prev,hj.bkt,hj.at_,hj.k,hj.new,hj.old,hj.reads,hj.wr,⟨λx hx=>hj.held.1 x (aGZ hx),hj.held.2.sublist (List.drop_sublist _ _)⟩,hj.res,hj.node⟩⟩;split
   ·refine⟨hbv.1,?_,by simp⟩;grind
   ·exact⟨hbv.1,hbv.2.1,by simp⟩
  ·split
   ·exact⟨hb,hk,.inr (hj.pc 17)⟩
   ·exact⟨hb,hk,.inr (((hj.pc 15).kk (k:=0) (by omega)).rtn)⟩
 refine aN5 (λ_=>?_) λ_=>?_
 ·have hol:=hj.old.1;unfold SC;split
  ·exact⟨hb,hk,.inr (hj.pc 18)⟩
  ·refine⟨hbs,hk,.inr ?_⟩;simp only;split
   ·exact((hj.kk (k:=j.K+1) (by omega)).sub _).rtn
   ·exact hj.sub _
 refine aN5 (λ_=>?_) λ_=>?_
 ·unfold QC;split
  ·exact⟨hb,hk,.inr (hj.pc 18)⟩
  ·rename_i hp;have hp0:0<j.eO.length:=by omega
   have er:j.eO.getD 0 0=j.eO[0]:=by grind
   have hh:=hj.new.2 j.eO[0] (cZ hp0);rw[<-er] at hh;refine⟨?_,hk,.inr ⟨hj.busy,hj.bat,hj.h,hj.prev,hj.bkt,hj.at_,hj.k,⟨by show(j.eO.drop 1).length<=6;have:=hj.new.1;simp;omega,λx hx=>hj.new.2 x (aGZ hx)⟩,hj.old,hj.reads,hj.wr,hj.held,hj.res,hj.node⟩⟩;grind[bMI]
 refine aN5 (λ_=>?_) λ_=>?_
 ·obtain⟨r,e1,e2,h1,h2⟩:=a0Z hb.1.2.1 hw;rw[aVP hb.1.2.1 hw] at e1;injection e1 with e1
  refine⟨hb.clock (by grind) (by grind),hk,.inr (hj.pc 19)⟩
 refine aN5 (λ_=>?_) λ_=>?_
 ·exact⟨hb,hk,.inl rfl⟩
 ·exact⟨hb,hk,.inr (hj.ab 1)⟩
theorem bD6{b:Batch}(hb:aEM b)(s:Int):JB (m0 b s):=
 ⟨rfl,hb,.inl rfl,.inl rfl,by simp[m0],by simp[m0],by simp[m0],by simp[m0],by simp[m0],by simp[m0],⟨by simp[m0],by simp[m0],by simp[m0]⟩,by simp[m0],by simp[m0],by show(0:Int)<=0/\(0:Int)<=4294967295;omega⟩
theorem TV.step{t:Table}(hv:TV t){w:Int}(hw:0<=w/\w<=2):TV (lB t w):=by
 have hjv:=hv.C9.2 _ (FL hv.C9.1 hw);have setj:∀{x:aI},(x=cO\/JB x)->(t.aQ.set w.toNat x).length=3/\∀j∈t.aQ.set w.toNat x,j=cO\/JB j:=λhx=>
  ⟨by simpa using hv.C9.1,λj hj=>(rX hj).elim (hv.C9.2 j) λe=>e ▸ hx⟩
 unfold lB;split
 ·rename_i hbusy;have hj:JB (aZ t w):=hjv.resolve_left λe=>by rw[e] at hbusy;cases hbusy
  have h:=bMJ hv.base hv.bk hw hj;exact⟨h.b,h.k,setj h.j,hv.todo,hv.ser⟩
 ·split
  ·exact hv
  ·rename_i hq;have hqi:w.toNat<t.dQ.length:=by have:=hv.todo.1;omega
   have hqm:(⟨zD t w⟩:aN)∈t.dQ:=by unfold zD;rw[OI,mP hqi];exact cZ _
   have hqq:(zD t w).length<=12/\∀b∈zD t w,aEM b:=hv.todo.2 _ hqm;have hp0:0<(zD t w).length:=by omega
   have er:(zD t w).getD 0 ⟨false,[]⟩=(zD t w)[0]:=by grind
   have hbv:=hqq.2 (zD t w)[0] (cZ hp0);rw[<-er] at hbv;have hs:=hv.ser;have hsn:t.aO≠1000000:=λe=>hq (.inr e);unfold SX;refine⟨hv.base,hv.bk,setj (.inr (bD6 hbv _)),⟨by simpa using hv.todo.1,λq hq'=>?_⟩,⟨by grind,by grind⟩⟩;rcases rX hq' with h|h
   ·exact hv.todo.2 q h
   ·subst h;exact⟨by grind,λb hb=>hqq.2 b (aGZ hb)⟩
theorem a4E(c:kG):XM c=some (decide (aEL c)):=by
 unfold XM LJ LI;simp only[cN,aE];by_cases h1:1<=c.Kind/\c.Kind<=4
 ·by_cases h2:0<=c.Key/\c.Key<=99
  ·simp only[bY h1,bY h2,iN,bN,bL];have dv:(c.Kind=2\/c.Kind=4)->decide (0<=c.fT/\c.fT<=65535)=decide (aEL c):=λk=>by rw[NL,decide_eq_true_eq,decide_eq_true_eq];exact⟨λh=>⟨h1,h2,h,by omega⟩,λh=>h.2.2.1⟩
   by_cases k2:c.Kind=2
   ·grind
   ·have e:(c.Kind == 2)=false:=by grind
    by_cases k4:c.Kind=4
    ·grind
    ·have e4:(c.Kind == 4)=false:=by grind
     simp only[e,e4,bN,bL];congr 1;rw[NL,beq_iff_eq,decide_eq_true_eq];constructor
     ·intro h;exact⟨h1,h2,by omega,.inr (.inr h)⟩
     ·rintro⟨_,_,_,h|h|h⟩<;>omega
  simp_all[eF,aEL]
 ·simp only[eF h1,KO,bR];grind[aEL]
theorem a4F(c:kG):XO c=some (decide (aEL c)):=by
 have key:∀B:Bool,xQ c B=some (decide ((1<=c.Kind/\c.Kind<=4)/\(0<=c.Key/\c.Key<=99)/\((B=true/\(0<=c.fT/\c.fT<=65535))\/c.fT=0))):=λB=>by unfold xQ rM;simp only[dD,aE];grind
 unfold XO;have fin:∀B:Bool,(B=true↔c.Kind=2\/c.Kind=4)->xQ c B=some (decide (aEL c)):=λB hB=>by rw[key];congr 1;rw[NL,decide_eq_true_eq,decide_eq_true_eq];grind[aEL]
 grind
theorem aSG{b:Batch}(hl:b.bW.length<=1000):HB b=some (decide (aEM b)):=by
 unfold HB;cases hc:b.Collect
 ·rw[eD];have hs:∀k (hk:k<b.bW.length),pT b (k:Int)=if aEL b.bW[k] then some (.next ((k+1:Nat):Int)) else some (.stop (Out.ret false)):=λk hk=>by simp only[pT];rw[cY,aT hk,aE,a4E,aE,dM];simp
  have key:loop (pT b) 0=_:=mZ (f:=pT b) b.bW (λk=>(k:Int)) aEL (Out.brk ()) (Out.ret false) (λk hk hp=>by grind) (λk hk hp=>by grind) (by simp[pT]);rw[key];by_cases q:∀x∈b.bW,aEL x
  ·rw[aL q];simp only[aE,ZA,Y9,cN];congr 1;rw[NL,decide_eq_true_eq,decide_eq_true_eq];exact⟨λa=>⟨λh=>(by grind),by omega,q,λ_=>by omega⟩,λa=>by have:=a.2.2.2 hc;have:=a.2.1;omega⟩
  ·rw[aP q,eF (show ¬aEM b from λa=>q a.2.2.1)];rfl
 ·rw[aL rfl];congr 1;rw[NL,beq_iff_eq,decide_eq_true_eq];constructor
  ·intro h;have h0:b.bW=[]:=wE (by omega);exact⟨λ_=>h0,by omega,by grind,λh=>by grind⟩
  ·intro h;rw[h.1 hc];rfl
def BsV(l:List Batch):Prop:=∀b∈l,aEM b
instance (l:List Batch):Decidable (BsV l):=by unfold BsV;infer_instance
theorem aSH{l:List aN}(hl:l.length<=1000)(hb:∀q∈l,∀b∈q.List,b.bW.length<=1000):HC l=some (decide (aC0 l)):=by
 unfold HC;have inner:∀k (hk:k<l.length),l[k].List.length<=12->loop (pU l (k:Int)) 0=some (if BsV l[k].List then Out.brk () else Out.ret false):=by
  intro k hk h12;have hs:∀j (hj:j<l[k].List.length),pU l (k:Int) (j:Int)=if aEM l[k].List[j] then some (.next ((j+1:Nat):Int)) else some (.stop (Out.ret false)):=by intro j hj;simp only[pU];rw[aT hk,aE,cY,aE,aT hj,aE,aSG (hb _ (cZ hk) _ (cZ hj)),aE,dM];simp
  have:=mZ (f:=pU l (k:Int)) l[k].List (λj=>(j:Int)) aEM (Out.brk ()) (Out.ret false) (λj hj hp=>by grind) (λj hj hp=>by grind) (by
   simp_all[pU,aT])
  refine Eq.trans this ?_;congr 1
 have hs:∀k (hk:k<l.length),pW l (k:Int)=if QuV l[k] then some (.next ((k+1:Nat):Int)) else some (.stop (Out.ret false)):=by
  intro k hk;simp only[pW];rw[cY,aT hk,aE];by_cases h12:l[k].List.length<=12
  ·rw[SU,inner k hk h12];by_cases q:BsV l[k].List
   ·rw[aL q,aL (show QuV l[k] from⟨h12,q⟩)];simp only[aE,ZD,ZC];grind[cA]
   ·rw[aP q,aP (show ¬QuV l[k] from λa=>q a.2)];rfl
  ·rw[cY,aP (show ¬QuV l[k] from λa=>h12 a.1)]
 have key:loop (pW l) 0=_:=mZ (f:=pW l) l (λk=>(k:Int)) QuV (Out.brk ()) (Out.ret false) (λk hk hp=>by grind) (λk hk hp=>by grind) (by simp[pW]);rw[key];by_cases q:∀x∈l,QuV x
 ·rw[aL q];simp only[aE,ZE,ZB];congr 1;rw[NL];simp only[beq_iff_eq,decide_eq_true_eq];exact⟨λa=>⟨by omega,q⟩,λa=>by have:=a.1;omega⟩
 ·rw[aP q,eF (show ¬aC0 l from λa=>q a.2)];rfl
theorem QM{O:Type}{l:List O}{f:Int->Option (Step Int (Out Unit Int))}{p:O->Bool}{m:(Out Unit Int)->Option Int}(hl:l.length<=4611686018427387904)
  (hf:∀k:Nat,f (k:Int)=if h:k<l.length then(if p l[k] then some (.stop (Out.ret (k:Int))) else some (.next ((k+1:Nat):Int))) else some (.stop (Out.brk ()))) (m1:∀r,m (.ret r)=some r) (m2:m (.brk ())=some (-1)) :
  ((loop f 0).bind m).bind (λx1=>some (decide (0<=x1)))=some (l.any p):=by
 rcases aCF (f:=f) (p:=p) hl hf l.length 0 (by omega) with ⟨j,h,_,h2,h3,h4⟩|⟨h1,h2⟩
 ·rw[show(0:Int)=((0:Nat):Int) from rfl,h4,aE,m1,aE,bY (by omega)];grind
 ·rw[show(0:Int)=((0:Nat):Int) from rfl,h2,aE,m2,aE,eF (by omega)];congr 1;refine(aUU.2 λx hx=>?_).symm;obtain⟨i,hi,rfl⟩:=aAS hx;grind
theorem aYG{l:List kG}(hl:l.length<=1000){f:kG->Bool}{g:kG->Option Bool}(hg:∀x∈l,g x=some (f x)):sS l g=some (l.any f):=
 QM (f:=sQ l g) (m:=GK) (by omega) (λk=>by
  simp only[sQ];by_cases h:k<l.length
  ·rw[dif_pos h,cY,aT h,aE,hg _ (cZ h),aE,dM];rfl
  grind) (λ_=>rfl) rfl
theorem aSI{l:List Batch}(hl:l.length<=1000){f:Batch->Bool}{g:Batch->Option Bool}(hg:∀x∈l,g x=some (f x)):pP l g=some (l.any f):=
 QM (f:=pO l g) (m:=CF) (by omega) (λk=>by
  simp only[pO];by_cases h:k<l.length
  ·rw[dif_pos h,cY,aT h,aE,hg _ (cZ h),aE,dM];rfl
  grind) (λ_=>rfl) rfl
theorem aAA{l:List aN}(hl:l.length<=1000){f:aN->Bool}{g:aN->Option Bool}(hg:∀x∈l,g x=some (f x)):kH l g=some (l.any f):=
 QM (f:=oX l g) (m:=zI) (by omega) (λk=>by
  simp only[oX];by_cases h:k<l.length
  ·rw[dif_pos h,cY,aT h,aE,hg _ (cZ h),aE,dM];rfl
  grind) (λ_=>rfl) rfl
theorem aYH{O:Type}{l:List O}{P:O->Prop}[DecidablePred P]:(!(l.any λx=>!decide (P x)))=decide (∀x∈l,P x):=by grind
theorem aSJ{b:Batch}(hl:b.bW.length<=1000):HK b=some (decide (aEM b)):=by
 unfold HK;cases hc:b.Collect
 ·rw[eD,dD,aE];by_cases h:1<=(b.bW.length:Int)/\(b.bW.length:Int)<=6
  ·rw[bY h,aL rfl,aYG hl (f:=λx=>!decide (aEL x)) (λx _=>by grind[QY,a4F]),aE,aYH];unfold wH;congr 1;rw[NL,decide_eq_true_eq,decide_eq_true_eq];exact⟨λa=>⟨λh=>(by grind),by omega,a,λ_=>by omega⟩,λa=>a.2.2.1⟩
  ·rw[eF h,eD];grind[wH,aEM]
 ·rw[aL rfl];congr 1;rw[NL,beq_iff_eq,decide_eq_true_eq];constructor
  ·intro h;have h0:b.bW=[]:=wE (by omega);exact⟨λ_=>h0,by omega,by grind,λh=>by grind⟩
  ·intro h;rw[h.1 hc];rfl
theorem aSK{l:List aN}(hl:l.length<=1000)(hq:∀q∈l,q.List.length<=1000)(hb:∀q∈l,∀b∈q.List,b.bW.length<=1000):HM l=some (decide (aC0 l)):=by
 have e1:∀q∈l,HL q=some (!decide (QuV q)):=λq hm=>by
  unfold HL yO;by_cases h:q.List.length<=12
  ·rw[SU,aSI (hq q hm) (f:=λx=>!decide (aEM x)) (λx hx=>by grind[KS,aSJ]),aE];congr 1;rw[<-Bool.not_not ((q.List.any λx=>!decide (aEM x))),aYH];congr 1;rw[NL,decide_eq_true_eq,decide_eq_true_eq];exact⟨λa=>⟨h,a⟩,λa=>a.2⟩
  ·rw[cY,eF (show ¬QuV q from λa=>h a.1)];rfl
 unfold HM EK;by_cases h:l.length=3
 ·rw[cY,aAA hl e1,aE,aYH];congr 1;rw[NL,decide_eq_true_eq,decide_eq_true_eq];exact⟨λa=>⟨h,a⟩,λa=>a.2⟩
 ·rw[SU,eF (show ¬aC0 l from λa=>h a.1)]
theorem aYI{b:Batch}(h:b.bW.length<=1000):LK b=some b/\zJ b=some b:=by unfold LK zJ XN lN;rw[SW];simp
theorem aSL{l:List aN}(hl:l.length<=1000)(hq:∀q∈l,q.List.length<=1000)(hb:∀q∈l,∀b∈q.List,b.bW.length<=1000):HH l=some l/\zK l=some l:=by
 constructor
 ·unfold HH;rw[aRW l]
  ·rfl
  ·intro k hk;have h1:=hq _ (cZ hk);simp only[HF];rw[cY,aDR l[k].List]
   ·simp only[aE,TB,TA];rw[SW,dM];rfl
   ·intro i hi;simp only[HE,HD];rw[aT hk,aE,cY,aE,aT hi,aE,(aYI (hb _ (cZ hk) _ (cZ hi))).1,aE,SW,dM];rfl
   simp_all[HE,aT]
  grind[HF]
 ·unfold zK;rw[aRW l]
  ·rfl
  ·intro k hk;have h1:=hq _ (cZ hk);simp only[HP];rw[cY,aT hk,aE,aDR l[k].List]
   ·simp only[aE,TE,TD];rw[SW,dM];rfl
   ·intro i hi;simp only[HO,HN];rw[cY,aT hi,aE,(aYI (hb _ (cZ hk) _ (cZ hi))).2,aE,SW,dM];rfl
   grind[HO]
  grind[HP]
def aYJ:Table:=⟨⟨⟨⟨[],[]⟩,⟨[],[]⟩⟩,⟨0,[]⟩,[],[]⟩,[],[],[],[],0⟩
def eX(t:List aN):Table:=⟨a60,List.replicate 2 ⟨0,0,0⟩,List.replicate 3 cO,t,[],0⟩
theorem aC3{t:List aN}(hl:t.length<=1000)(hq:∀q∈t,q.List.length<=1000)(hb:∀q∈t,∀b∈q.List,b.bW.length<=1000):LL t=some (if aC0 t then eX t else aYJ)/\LM t=some (if aC0 t then eX t else aYJ):=by
 unfold LL LM;rw[aSH hl hb,aSK hl hq hb];simp only[aE];by_cases h:aC0 t
 ·simp only[bY h,iN,bN,bL,aL h,aR9.1,aR9.2,aE,(aSL hl hq hb).1,(aSL hl hq hb).2];rw[J5,J5];exact⟨rfl,rfl⟩
 ·simp only[eF h,KO,bR,aP h];exact⟨rfl,rfl⟩
theorem aKR{t:List aN}(h:aC0 t):TV (eX t):=
 ⟨bDW,⟨rfl,λx hx=>by simp[eX] at hx;subst hx;exact⟨.inl rfl,by simp,by simp⟩⟩,⟨rfl,λj hj=>by grind[eX]⟩,h,by show(0:Int)<=0/\(0:Int)<=1000000;omega⟩
def aC4(t:Table)(p:Int):Table:=if 0<=p/\p<=2 then lB t p else t
def SF(t:Table)(l:List Int):Table:=l.foldl aC4 t
theorem eE{P:TR->Prop}{c:Prop}[Decidable c]{a b:TR}(h1:c->P a)(h2:¬c->P b):P (if c then a else b):=by grind
theorem bH6(b:aA)(k:List cQ)(w:Int)(j:aI):(OE b k w j).l.length<=1:=by unfold OE;refine eE (P:=λr=>r.l.length<=1) (λ_=>j9 _) λ_=>eE (P:=λr=>r.l.length<=1) (λ_=>j9 _) λ_=>eE (P:=λr=>r.l.length<=1) (λ_=>j9 _) λ_=>eE (P:=λr=>r.l.length<=1) (λ_=>j9 _) λ_=>eE (P:=λr=>r.l.length<=1) (λ_=>?_) λ_=>eE (P:=λr=>r.l.length<=1) (λ_=>j9 _) λ_=>eE (P:=λr=>r.l.length<=1) (λ_=>j9 _) λ_=>eE (P:=λr=>r.l.length<=1) (λ_=>j9 _) λ_=>eE (P:=λr=>r.l.length<=1) (λ_=>j9 _) λ_=>eE (P:=λr=>r.l.length<=1) (λ_=>j9 _) λ_=>eE (P:=λr=>r.l.length<=1) (λ_=>j9 _) λ_=>eE (P:=λr=>r.l.length<=1) (λ_=>lR _) λ_=>j9 _;grind
theorem aDS(t:Table)(p:Int):(aC4 t p).Log.length<=t.Log.length+1:=by
 unfold aC4 lB;split
 ·split
  ·have:=bH6 t.aA t.bZ p (aZ t p);show(t.Log++_).length<=_;grind
  ·split
   ·omega
   ·show(t.Log++_).length<=_;simp
 ·omega
theorem a07{t:Table}(h:TV t)(p:Int):TV (aC4 t p):=by
 unfold aC4;split
 ·exact h.step (by assumption)
 ·exact h
theorem aGQ{P:Table->Prop}(hs:∀t w,TV t->(0<=w/\w<=2)->P t->P (lB t w)):∀(l:List Int) {t:Table},TV t->P t->TV (SF t l)/\P (SF t l)
 |[],t,h,hp=>⟨h,hp⟩
 |p::l,t,h,hp=>aGQ hs l (a07 h p) (by grind[aC4])
theorem aV0{x:mR}{n:Nat}(hn:((x.eT.take ((if 400<(x.eT.length:Int) then 400 else(x.eT.length:Int)).toNat)).drop 0)=x.eT.take n)(h400:(x.eT.take n).length<=400):∀(d k:Nat) (t:Table),k+d=(x.eT.take n).length->TV t->t.Log.length<=k->loop (rC x) ((k:Int),t)=some (SF t ((x.eT.take n).drop k))
 |0,k,t,hk,hv,hl=>by rw[List.drop_of_length_le (by omega)];refine bB ?_;simp only[rC,hn];rw[aP (by grind)];rfl
 |d + 1,k,t,hk,hv,hl=>by
  have hkl:k<(x.eT.take n).length:=by omega
  have st:rC x ((k:Int),t)=some (.next (((k+1:Nat):Int),aC4 t (x.eT.take n)[k])):=by
   simp only[rC,hn];rw[aL (by grind),aT hkl,aE,oH,aE];unfold yU aC4;rw[dM];by_cases hp:0<=(x.eT.take n)[k]/\(x.eT.take n)[k]<=2
   ·rw[bY hp,aL rfl,a04 hv (by omega) hp,aL hp];rfl
   grind
  rw[bP st,aV0 hn h400 d (k+1) _ (by omega) (a07 hv _) (by grind[aDS]),zF hkl];rfl
theorem aYK{x:mR}(hl:x.dQ.length<=1000)(hq:∀q∈x.dQ,q.List.length<=1000)(hb:∀q∈x.dQ,∀b∈q.List,b.bW.length<=1000)(ht:aC0 x.dQ):o8 x=some (SF (eX x.dQ) (x.eT.take 400)):=by
 unfold o8;rw[(aC3 hl hq hb).2,aL ht,aE,aP (by simp[eX])];have hn:((x.eT.take ((if 400<(x.eT.length:Int) then 400 else(x.eT.length:Int)).toNat)).drop 0)=x.eT.take 400:=by
  (simp_all;omega)
 rw[J5,show(0:Int)=((0:Nat):Int) from rfl,aV0 hn (by grind) (x.eT.take 400).length 0 _ (by omega) (aKR ht) (by simp[eX]),aE];rfl
def QuS(m:Int)(q:aN):Prop:=(q.List.length:Int)<=m/\∀x∈q.List,x.bW.length<=1000
section
variable {b:List UInt8} {i h:Int} (hc:Cu b i)
include hc
def bH7(l:List aN):Prop:=l.length<=3/\∀q∈l,QuS 100 q
theorem bH8{m:Int}(hm:m<=100):GF (LH ⟨b,i,h⟩ m) (λx=>x.1.length<=4000/\Cu b x.2.1):=by
 unfold LH;refine .bind (below hc (by omega)) λx1 ⟨hx1,h1⟩=>?_;refine .bind (P:=λx=>x.1.length<=4000/\Cu b x.2.1) (.loop (λs=>s.2.1.toNat) (λs=>(0<=s.2.1/\s.1.length+8*s.2.1<=4000)/\Cu b s.2.2.1) ⟨⟨hx1.1,by simp;omega⟩,h1⟩ ?_) λx hx=>.ret hx;rintro⟨l,n,i1,h1⟩ ⟨⟨n0,n1⟩,hi1⟩;simp only at n0 n1 hi1;simp only[V6];refine .ite (λq=>?_) (λq=>?_)
 ·have q':=of_decide_eq_true q;refine .bind (below hi1 (by omega)) λx13 ⟨_,h13⟩=>.bind (below h13 (by omega)) λx14 ⟨hx14,h14⟩=>?_;rw[dM];refine .bind (P:=λx=>(x.length:Int)<=l.length+8) (.loop (λs=>s.2.toNat) (λs=>0<=s.2/\(s.1.length:Int)+s.2<=l.length+8) ⟨by omega,by grind⟩ ?_) ?_
  ·rintro⟨r,k⟩ ⟨k0,k1⟩;simp only at k0 k1;simp only[V4];refine .ite (λq=>?_) (λq=>?_)
   ·have q2:=of_decide_eq_true q;refine .need (by simp;omega) (.ret ?_);grind[cA]
   ·exact .ret (by omega)
  ·intro r hr;simp only[V5,V3];refine .ret ?_;grind[cA]
 ·exact .ret ⟨by grind,hi1⟩
end
theorem bH7.fit{l:List aN}(h:bH7 l):l.length<=1000/\(∀q∈l,q.List.length<=1000)/\∀q∈l,∀b∈q.List,b.bW.length<=1000:=
 ⟨by have:=h.1;omega,λq hq=>by have:=(h.2 q hq).1;omega,λq hq=>(h.2 q hq).2⟩
theorem a9F{x:mR}(hx:bH7 x.dQ):TC x=some (decide (aC0 x.dQ)):=by
 obtain⟨h1,h2,h3⟩:=hx.fit;unfold TC;rw[(aC3 h1 h2 h3).1,aE];by_cases h:aC0 x.dQ
 ·rw[aL h,bY h];rfl
 ·rw[aP h,eF h];rfl
theorem a4G{b:cQ}(h:BkV b):XY b=some true:=by unfold XY DV;rw[QA,bY h.1,aE,aL rfl,cN,bY h.2.1,aE,aL rfl,cN,bY h.2.2];rfl
theorem aIX{l:List Int}(hl:l.length<=6)(h:∀x∈l,kC x):xA l=some true:=by
 unfold xA;have key:loop (o9 l) 0=some (Out.brk ()):=dW (f:=o9 l) l.length (λk=>(k:Int)) _ (λk hk=>by
  simp only[o9];rw[cY,aT hk,aE,i4,bY (h _ (cZ hk)),aE,eD,dM];rfl) (by simp[o9])
 grind[RK,RJ]
theorem a4H{j:aI}(h:JB j):MA j=some true:=by
 have hb:=h.bat.2.1;have hk:=h.k;have hw:=h.wr;have hh:=h.held;have hr2:=h.rd2;have hheld:j.bD.length<=2:=by
  match e:j.bD,hh with
  |[],_=>simp
  |[_],_=>simp
  |[_,_],_=>simp
  |x::y::z::r,⟨hm,hn⟩=>
   (simp_all;omega)
 have l4:K2 j=some true:=by
  unfold K2;have key:loop (tR j) 0=some (Out.brk ()):=dW (f:=tR j) j.aH.length (λk=>(k:Int)) _ (λk hk=>by
   have hwl:=hw.1;have hx:=hw.2.1 _ (cZ hk);simp only[tR,oS];rw[cY,aT hk,aE,cN,bY hx.1,aE,eD,aE,cN,bY hx.2,aE,eD];by_cases k0:(0:Int)<k
   ·have hk1:k-1<j.aH.length:=by omega
    have hlt:=List.pairwise_iff_getElem.1 hw.2.2 (k-1) k hk1 hk (by omega);rw[aL (by grind),aE,dM (x:=(k:Int)-1),show(k:Int)-1=((k-1:Nat):Int) by omega,aT hk1,aE,eF (by omega),eD,dM];rfl
   simp_all[cA]) (by simp[tR])
  rw[key];rfl
 have l3:K3 j=some true:=by
  unfold K3;have key:loop (tS j) 0=some (Out.brk ()):=dW (f:=tS j) j.Reads.length (λk=>(k:Int)) _ (λk hk=>by
   simp only[tS];rw[cY,aT hk,aE,cN,bY (h.reads.1 _ (cZ hk)),aE,eD,dM];rfl) (by simp[tS])
  rw[key];exact l4
 have l2:fV j false=some true:=by
  unfold fV;have key:loop (tT j) 0=some (Out.brk ()):=dW (f:=tT j) j.bD.length (λk=>(k:Int)) _ (λk hk=>by
   simp only[tT,BO];rw[cY,aT hk,aE,cN,bY (hh.1 _ (cZ hk)),aE,eD,J5,aE,NM,SZ,yD (by grind[maxLen]),eF ((LA _).1 hh.2 k hk),aE,eD,dM];rfl) (by simp[tT])
  rw[eD,key];exact l3
 unfold MA;rw[aSG (by omega),bY h.bat,QA,bY h.h,QA,bY h.prev,cN,bY h.bkt,cN,bY h.at_,cN,bY (show 0<=j.K/\j.K<=100 by omega),aIX h.new.1 h.new.2,aIX h.old.1 h.old.2];simp only[aE,iN,bN,bL];rw[eF (by have:=hw.1;omega)];exact l2
theorem a4I:qD cO cO=some true:=by
 have c1:tU [] []=some true:=by unfold tU;rw[eD,bB (r:=Out.brk ()) (by simp[OT])];rfl
 have c2:BP cO cO=some true:=by unfold BP sK;rw[eD,eD,bB (r:=Out.brk ()) (by simp[OW,cO]),aE];unfold OX OV;rw[bB (r:=Out.brk ()) (by simp[OU,cO])];rfl
 have c3:E6 [] []=some true:=by unfold E6;rw[eD,bB (r:=Out.brk ()) (by simp[RL])];rfl
 have c4:tV [] []=some true:=by unfold tV;rw[eD,bB (r:=Out.brk ()) (by simp[TQ])];rfl
 have c5:yX cO.Batch cO.Batch=some true:=by unfold yX;rw[aL (by simp)];show(tU [] []).bind _=_;rw[c1];rfl
 unfold qD;rw[c5,c2,show cO.iZ=[] from rfl,show cO.eO=[] from rfl,show cO.bD=[] from rfl,show cO.bU=[] from rfl,c3,c4];simp[b7]
theorem CB{t:Table}(hv:TV t):nX t=some true:=by
 have h2:=hv.bk.1;have h3:=hv.C9.1;have ht:=hv.todo;have hs:=hv.ser;have l3:N0 t=some true:=by
  unfold N0;have key:loop (xB t) 0=some (Out.brk ()):=dW (f:=xB t) 3 (λk=>(k:Int)) _ (λk hk=>by
   have hkl:k<t.aQ.length:=by omega
   simp only[xB,nB];rw[cY,aT hkl];simp only[aE];rcases hv.C9.2 _ (cZ hkl) with e|hj
   ·rw[e];have:=a4I;simp only[show cO.cR=false from rfl,KO,bN,bL,bR];rw[show(qD cO ⟨false,⟨false,[]⟩,0,0,0,0,0,0,0,0,⟨0,0,0⟩,false,0,⟨0,0,0,0,0,0,0,0,0,false⟩,[],[],[],[],[],[]⟩)=some true from this];simp only[aE,iN,bN,bL];grind[cA]
   ·have hb:=hj.busy;simp only[hb,bR,iN,bN,bL,a4H hj,aE];grind[cA]) (by simp[xB])
  rw[key];rfl
 have l2:kY t false=some true:=by
  unfold kY;have key:loop (xC t) 0=some (Out.brk ()):=dW (f:=xC t) 2 (λk=>(k:Int)) _ (λk hk=>by
   have hkl:k<t.bZ.length:=by omega
   simp only[xC];rw[cY,aT hkl,aE,a4G (hv.bk.2 _ (cZ hkl)),aE,eD,dM];rfl) (by simp[xC])
  rw[eD,key];exact l3
 unfold nX;rw[aCO hv.base.small.fits,bY hv.base,aE,eD,SU,SU,aSH (by have:=ht.1;omega) (λq hq b hb=>by have:=((ht.2 q hq).2 b hb).2.1;omega),bY ht,aE,eD,cN,bY hs,aE];exact l2
def wC(p:Int):Prop:=(7<=p/\p<=14)\/p=16
structure LkJ (k:List cQ) (w:Int) (j:aI):Prop where
 iff:∀b,0<=b/\b<=1->(b∈j.bD↔(iK k b).g9=w+1)
 pc:j.bD≠[]->wC j.Pc
def a4J(k k':List cQ)(w:Int):Prop:=∀b,0<=b/\b<=1->(iK k' b).g9=(iK k b).g9\/((iK k b).g9=0/\(iK k' b).g9=w+1)\/((iK k b).g9=w+1/\(iK k' b).g9=0)
theorem UC{k:List cQ}{i b:Int}{y:cQ}(h2:k.length=2)(hi:0<=i/\i<=1)(hb:0<=b/\b<=1):iK (k.set i.toNat y) b=if b=i then y else iK k b:=by unfold iK;grind
def LkR(k:List cQ)(w:Int)(r:TR):Prop:=LkJ r.k w r.j/\a4J k r.k w
section
variable {k:List cQ} {w:Int} {j:aI} (h:LkJ k w j)
include h
theorem LkJ.same{j':aI}(e:j'.bD=j.bD)(hp:j.bD≠[]->wC j'.Pc):LkJ k w j':=⟨λb hb=>by rw[e];exact h.iff b hb,λq=>hp (by grind)⟩
theorem LkJ.none(hp:¬wC j.Pc):j.bD=[]:=Classical.byContradiction λq=>hp (h.pc q)
end
theorem iG(k:List cQ)(w:Int):a4J k k w:=λ_ _=>.inl rfl
theorem a08(j:aI)(x:aX):(C7 j x).2.bD=j.bD:=by grind[C7,J6]
theorem a09(j:aI)(c:kG)(v:Int)(is:Bool):(OD j c v is).bD=j.bD:=by
 unfold OD;split
 ·generalize (if is then v else 0)=u;unfold aSB;have h:=a08 j ⟨c.Key,false,aAP u c.fT⟩;split
  ·exact h
  ·exact h
 ·rfl
theorem bD7(j:aI):(aCZ j).bD=j.bD:=by grind[aCZ,a08,a09]
theorem a9H(b:aA)(k:List cQ)(w:Int)(j:aI):(O3 b k w j).bD=j.bD:=by
 unfold O3;split
 ·split<;>rfl
 ·split
  ·rfl
  ·split
   ·split
    ·rfl
    ·split<;>rfl
   ·split
    ·rfl
    ·split
     ·rfl
     ·split
      ·grind[a09]
      ·rfl
theorem bD8(b:aA)(w:Int)(j:aI):(NG b w j).2.bD=j.bD:=by
 unfold NG;split
 ·rfl
 ·simp only;split
  ·rfl
  ·split<;>rfl
theorem bH9(j:aI)(x:aX):(VM j x).bD=j.bD/\((VM j x).Pc=9\/(VM j x).Pc=12):=by grind[VM]
theorem bD9(j:aI):(YT j).bD=j.bD:=by grind[YT]
theorem a1A(j:aI):(YU j).bD=j.bD:=by grind[YU]
theorem bEA(b:aA)(w:Int)(j:aI):(SC b w j).2.bD=j.bD:=by grind[SC,a1A]
theorem bEB(b:aA)(w:Int)(j:aI):(QC b w j).2.bD=j.bD:=by grind[QC]
theorem bEC(b:aA)(w:Int)(j:aI):(C8 b w j).2.bD=j.bD:=by grind[C8]
theorem bIA(b:aA){k:List cQ}(h2:k.length=2){w:Int}{j:aI}(hj:JB j)(h:LkJ k w j)(hpc:9<=j.Pc/\j.Pc<=13):LkJ (J1 b k j).2.1 w (J1 b k j).2.2/\a4J k (J1 b k j).2.1 w:=by
 have p14:wC 14:=.inl (by omega);have pl:∀(j':aI) (x:aX),j'.bD=j.bD->LkJ k w (VM j' x):=λj' x e=>by obtain⟨e1,e2⟩:=bH9 j' x;exact h.same (e1.trans e) λ_=>by rcases e2 with e2|e2<;>rw[e2]<;>exact .inl (by omega)
 have head:∀{i:Int} {x:Int} {j':aI},0<=i/\i<=1->LkJ k w j'->LkJ (k.set i.toNat {iK k i with Head:=x}) w j'/\a4J k (k.set i.toNat {iK k i with Head:=x}) w:=λ{i x j'} hi hj'=>by
  have e:∀b,0<=b/\b<=1->(iK (k.set i.toNat {iK k i with Head:=x}) b).g9=(iK k b).g9:=λb hb=>by grind[UC]
  exact⟨⟨λb hb=>by rw[e b hb];exact hj'.iff b hb,hj'.pc⟩,λb hb=>.inl (e b hb)⟩
 unfold J1;by_cases c1:(j.aH.length:Int)<=j.K
 ·rw[aL c1];exact⟨h.same rfl λ_=>p14,iG _ _⟩
 rw[aP c1];have hk:=hj.k;have hi:j.K.toNat<j.aH.length:=by omega
 have er:uL j=j.aH[j.K.toNat]:=by grind[uL]
 have hx:=hj.wr.2.1 j.aH[j.K.toNat] (cZ hi);rw[<-er] at hx;have hbk:0<=pJ (uL j).Key/\pJ (uL j).Key<=1:=by unfold pJ;omega
 by_cases c2:j.Pc=9
 ·rw[aL c2];refine⟨?_,iG _ _⟩;simp only;split
  ·grind
  ·exact h.same rfl λ_=>.inl (by simp)
 rw[aP c2];by_cases c3:j.Pc=10
 ·rw[aL c3];refine⟨?_,iG _ _⟩;simp only;split
  ·exact h.same rfl λ_=>.inl (by simp)
  ·split
   ·grind
   ·exact h.same rfl λq=>h.pc q
 rw[aP c3];by_cases c4:j.Pc=11
 ·rw[aL c4];grind[bD9,iG]
 rw[aP c4];split
 ·exact⟨h.same rfl λ_=>.inr rfl,iG _ _⟩
 ·split
  ·exact⟨h.same rfl λ_=>.inl (by simp),iG _ _⟩
  ·exact head hbk (h.same rfl λ_=>.inl (by simp))
theorem bIB{k:List cQ}(h2:k.length=2){w:Int}(hw:0<=w){j:aI}(hj:JB j)(h:LkJ k w j)(hpc:j.Pc=7):LkJ (VG k w j).1 w (VG k w j).2.1/\a4J k (VG k w j).1 w:=by
 have p8:wC 8:=.inl (by omega);unfold VG;by_cases c1:j.K<(sC j.aH).length
 ·rw[aL c1];have hk:=hj.k;have hi:j.K.toNat<(sC j.aH).length:=by omega
  have er:gZ j=(sC j.aH)[j.K.toNat]:=by grind[gZ]
  have hbk:0<=gZ j/\gZ j<=1:=by grind[aCP,cZ]
  by_cases c2:(iK k (gZ j)).g9≠0\/(j.Reads.any λs=>s.cQ == gZ j && s.jS != (iK k (gZ j)).jS)=true
  ·rw[aL c2];exact⟨h.same rfl λ_=>.inr rfl,iG _ _⟩
  rw[aP c2];have c0:(iK k (gZ j)).g9=0:=Classical.byContradiction λq=>c2 (.inl q);split
  ·exact⟨h.same rfl λ_=>.inr rfl,iG _ _⟩
  have hnm:gZ j∉j.bD:=λq=>by have:=(h.iff _ hbk).1 q;omega
  have hto:a4J k (k.set (gZ j).toNat {iK k (gZ j) with g9:=w+1}) w:=λb hb=>by grind[UC]
  have hkeep:∀j':aI,j'.bD=j.bD++[gZ j]->wC j'.Pc->LkJ (k.set (gZ j).toNat {iK k (gZ j) with g9:=w+1}) w j':=λj' e hp=>⟨λb hb=>by
   rw[e,eS,KD,UC h2 hbk hb];split
   ·grind
   ·rename_i q;rw[h.iff b hb];omega,λ_=>hp⟩
  have hh:(VF j).bD=j.bD++[gZ j]:=by simp_all[VF]
  split
  ·grind
  ·refine⟨hkeep _ hh ?_,hto⟩;show wC j.Pc;rw[hpc];exact .inl (by omega)
 ·rw[aP c1];exact⟨h.same rfl λ_=>p8,iG _ _⟩
theorem bIC{k:List cQ}(h2:k.length=2){w:Int}(hw:0<=w){j:aI}(hj:JB j)(h:LkJ k w j)(hpc:j.Pc=14\/j.Pc=16):LkJ (VH k j).1 w (VH k j).2/\a4J k (VH k j).1 w:=by
 have hp:wC j.Pc:=by rcases hpc with e|e<;>rw[e];exact .inl (by omega);exact .inr rfl
 unfold VH;by_cases c1:0<j.bD.length
 ·rw[aL c1];have er:EG j=j.bD[0]:=by grind[EG]
  have hm:EG j∈j.bD:=by grind
  have hbk:=hj.held.1 _ hm;have hl:=(h.iff _ hbk).1 hm;obtain⟨y,hy,hy0⟩:∃y:cQ,(if j.Pc=14 then(⟨(iK k (EG j)).Head,if 1000000<(iK k (EG j)).jS+1 then 1000000 else(iK k (EG j)).jS+1,0⟩:cQ) else {iK k (EG j) with g9:=0})=y/\y.g9=0:=by grind
  simp only;rw[hy];have hd:j.bD=EG j::j.bD.drop 1:=by rw[er];exact(zF (i:=0) c1)
  have hn:=hj.held.2;rw[hd,aK2] at hn;refine⟨⟨λb hb=>?_,λ_=>hp⟩,λb hb=>?_⟩
  ·show b∈j.bD.drop 1↔_;rw[UC h2 hbk hb];split
   ·grind
   ·rename_i e;have:=h.iff b hb;grind
  grind[UC]
 ·rw[aP c1];have hnil:j.bD=[]:=wE (by omega);split
  ·exact⟨h.same rfl λq=>absurd hnil q,iG _ _⟩
  ·exact⟨h.same (a1A {j with Pc:=15,K:=0}) λq=>absurd hnil q,iG _ _⟩
theorem bMK{b:aA}{k:List cQ}{w:Int}{j:aI}(h2:k.length=2)(hw:0<=w/\w<=2)(hj:JB j)(h:LkJ k w j):LkR k w (OE b k w j):=by
 have nh:∀{p:Int},¬wC p->j.Pc=p->j.bD=[]:=λhp e=>h.none (by grind);have no:∀{j':aI},j'.bD=j.bD->j.bD=[]->LkJ k w j':=λe e0=>h.same e λq=>absurd e0 q;have out:∀{p:Int},j.Pc=p->¬wC p->j.bD=[]:=λe hp=>nh hp e;unfold OE;refine eE (P:=LkR k w) (λp=>⟨no (bEC b w j) (h.none (by grind[wC])),iG _ _⟩) λ_=>eE (P:=LkR k w) (λp=>⟨no (bD7 j) (h.none (by grind[wC])),iG _ _⟩) λ_=>
  eE (P:=LkR k w) (λp=>⟨no (a9H b k w j) (h.none (by grind[wC])),iG _ _⟩) λ_=>eE (P:=LkR k w) (λp=>⟨no (bD8 b w j) (h.none (by grind[wC])),iG _ _⟩) λ_=>
  eE (P:=LkR k w) (λp=>bIB h2 hw.1 hj h p) λ_=>eE (P:=LkR k w) (λp=>⟨?_,iG _ _⟩) λ_=>
  eE (P:=LkR k w) (λp=>bIA b h2 hj h p) λ_=>eE (P:=LkR k w) (λp=>bIC h2 hw.1 hj h p) λ_=>
  eE (P:=LkR k w) (λp=>⟨no (bEA b w j) (h.none (by grind[wC])),iG _ _⟩) λ_=>eE (P:=LkR k w) (λp=>⟨no (bEB b w j) (h.none (by grind[wC])),iG _ _⟩) λ_=>
  eE (P:=LkR k w) (λp=>⟨no rfl (h.none (by grind[wC])),iG _ _⟩) λ_=>eE (P:=LkR k w) (λp=>⟨no (j':=cO) (h.none (by grind[wC])).symm (h.none (by grind[wC])),iG _ _⟩) λ_=>⟨h.same rfl λ_=>.inr rfl,iG _ _⟩
 show LkJ k w (aEK k w j);unfold aEK;split
 ·exact h.same rfl λ_=>.inl (by simp)
 ·split
  ·exact h.same rfl λ_=>.inr rfl
  ·exact h.same rfl λq=>h.pc q
def aSM(t:Table):Prop:=∀w,0<=w/\w<=2->LkJ t.bZ w (aZ t w)
theorem aSN{t:Table}{l:List aI}{w v:Int}{x:aI}(h3:t.aQ.length=3)(hl:l=t.aQ.set w.toNat x)(hw:0<=w/\w<=2)(hv:0<=v/\v<=2):l.getD v.toNat cO=if v=w then x else aZ t v:=by subst hl;unfold aZ;grind
theorem aSM.step{t:Table}(hv:TV t){w:Int}(hw:0<=w/\w<=2)(h:aSM t):aSM (lB t w):=by
 have h3:=hv.C9.1;have hjv:=hv.C9.2 _ (FL h3 hw);unfold lB;split
 ·rename_i hbusy;have hj:JB (aZ t w):=hjv.resolve_left λe=>by rw[e] at hbusy;cases hbusy
  obtain⟨g1,g2⟩:=bMK (b:=t.aA) hv.bk.1 hw hj (h w hw);intro v hv';have ej:aZ (QD t w (OE t.aA t.bZ w (aZ t w))) v=if v=w then(OE t.aA t.bZ w (aZ t w)).j else aZ t v:=aSN h3 rfl hw hv';rw[ej];show LkJ (OE t.aA t.bZ w (aZ t w)).k v _;split
  ·rename_i e;rw[e];exact g1
  ·rename_i e;refine⟨λb hb=>?_,(h v hv').pc⟩;rw[(h v hv').iff b hb];rcases g2 b hb with q|⟨q1,q2⟩|⟨q1,q2⟩
   ·rw[q]
   ·rw[q1,q2];omega
   ·rw[q1,q2];omega
 ·rename_i hbusy;split
  ·exact h
  ·intro v hv';generalize (zD t w).getD 0 ⟨false,[]⟩=b;have ej:aZ (SX t w b) v=if v=w then m0 b (t.aO+1) else aZ t v:=aSN h3 rfl hw hv';rw[ej];show LkJ t.bZ v _;split
   ·rename_i e;subst e;have hn:(aZ t v).bD=[]:=by
     rcases hjv with e|hj
     ·rw[e];rfl
     ·exact absurd hj.busy hbusy
    exact(h v hv').same hn.symm λq=>absurd hn q
   ·exact h v hv'
theorem aSM.zero(l:List aN):aSM (eX l):=λw hw=>by
 have e:aZ (eX l) w=cO:=by
  have:w=0\/w=1\/w=2:=by omega
  rcases this with rfl|rfl|rfl<;>rfl
 rw[e];refine⟨λb hb=>?_,λq=>absurd rfl q⟩;have eb:(iK (eX l).bZ b).g9=0:=by
  have:b=0\/b=1:=by omega
  rcases this with rfl|rfl<;>rfl
 rw[eb];exact⟨λq=>(by cases q),λq=>(by omega)⟩
theorem a63(j:aI)(x:aX):(C7 j x).2.aO=j.aO/\(C7 j x).2.cR=j.cR:=by grind[C7,J6]
theorem a64(j:aI)(c:kG)(v:Int)(is:Bool):(OD j c v is).aO=j.aO/\(OD j c v is).cR=j.cR:=by
 unfold OD;split
 ·generalize (if is then v else 0)=u;unfold aSB;have h:=a63 j ⟨c.Key,false,aAP u c.fT⟩;split
  ·exact h
  ·exact h
 ·exact⟨rfl,rfl⟩
theorem a65(j:aI):(aCZ j).aO=j.aO/\(aCZ j).cR=j.cR:=by grind[aCZ,a63,a64]
theorem a1B(b:aA)(k:List cQ)(w:Int)(j:aI):(O3 b k w j).aO=j.aO/\(O3 b k w j).cR=j.cR:=by
 unfold O3;split
 ·split<;>exact⟨rfl,rfl⟩
 ·split
  ·simp
  ·split
   ·split
    ·exact⟨rfl,rfl⟩
    ·split<;>exact⟨rfl,rfl⟩
   ·split
    ·exact⟨rfl,rfl⟩
    ·split
     ·exact⟨rfl,rfl⟩
     ·split
      ·grind[a64]
      ·exact⟨rfl,rfl⟩
theorem a66(b:aA)(w:Int)(j:aI):(NG b w j).2.aO=j.aO/\(NG b w j).2.cR=j.cR:=by
 unfold NG;split
 ·simp
 ·simp only;split
  ·simp
  ·split<;>exact⟨rfl,rfl⟩
theorem a67(k:List cQ)(w:Int)(j:aI):(VG k w j).2.1.aO=j.aO/\(VG k w j).2.1.cR=j.cR:=by
 unfold VG;split
 ·split
  ·exact⟨rfl,rfl⟩
  ·split
   ·exact⟨rfl,rfl⟩
   ·split<;>exact⟨rfl,rfl⟩
 simp
theorem a68(k:List cQ)(w:Int)(j:aI):(aEK k w j).aO=j.aO/\(aEK k w j).cR=j.cR:=by
 unfold aEK;split
 ·simp
 ·split<;>exact⟨rfl,rfl⟩
theorem a4K(j:aI)(x:aX):(VM j x).aO=j.aO/\(VM j x).cR=j.cR:=by grind[VM]
theorem bID(j:aI):(YT j).aO=j.aO/\(YT j).cR=j.cR:=by grind[YT]
theorem a69(b:aA)(k:List cQ)(j:aI):(J1 b k j).2.2.aO=j.aO/\(J1 b k j).2.2.cR=j.cR:=by
 unfold J1;split
 ·simp
 ·split
  ·grind[a4K]
  ·split
   ·grind[a4K]
   ·split
    ·grind[a4K,bID]
    ·split
     ·exact⟨rfl,rfl⟩
     grind
theorem a7A(j:aI):(YU j).aO=j.aO/\(YU j).cR=j.cR:=by grind[YU]
theorem a7B(k:List cQ)(j:aI):(VH k j).2.aO=j.aO/\(VH k j).2.cR=j.cR:=by grind[VH,a7A]
theorem a7C(b:aA)(w:Int)(j:aI):(SC b w j).2.aO=j.aO/\(SC b w j).2.cR=j.cR:=by grind[SC,a7A]
theorem a7D(b:aA)(w:Int)(j:aI):(QC b w j).2.aO=j.aO/\(QC b w j).2.cR=j.cR:=by grind[QC]
theorem a7E(b:aA)(w:Int)(j:aI):(C8 b w j).2.aO=j.aO/\(C8 b w j).2.cR=j.cR:=by grind[C8]
theorem a7F{t:Table}{l:List aI}{w v:Int}{x:aI}(h3:t.aQ.length=3)(hl:l=t.aQ.set w.toNat x)(hw:0<=w/\w<=2)(hv:0<=v/\v<=2):l.getD v.toNat cO=if v=w then x else aZ t v:=by subst hl;unfold aZ;grind
theorem aV1:∀(l:List Int) (t:Table),(SF t l).Log.length<=t.Log.length+l.length
 |[],t=>lR _
 |p::l,t=>by have h1:=aV1 l (aC4 t p);grind[aDS,SF]
def rW(b:aA)(s:Int):Int:=if dZ b.Mem s=3 then(if bD b.aM s then 3 else 4) else dZ b.Mem s
theorem aSO(m:Mem)(s:Int):0<=dZ m s/\dZ m s<=3:=by grind[dZ]
theorem aSP(b:aA)(s:Int):0<=rW b s/\rW b s<=4:=by have:=aSO b.Mem s;grind[rW]
def mO(b:aA):Nat->List Int
 |0=>List.replicate 5 0
 |k+1=>(mO b k).set (rW b k).toNat ((mO b k).getD (rW b k).toNat 0+1)
theorem aGR(b:aA)(k:Nat):(mO b k).length=5:=by induction k with|zero=>rfl|succ k ih=>grind[mO]
theorem aSQ(b:aA)(k:Nat):∀j,0<=(mO b k).getD j 0/\(mO b k).getD j 0<=k:=by
 induction k with
 |zero=>grind[mO]
 |succ k ih=>
  intro j;have h1:=ih j;grind[mO]
section
variable {b:aA} (hb:kD b)
include hb
theorem a1C(s:Int):MB b s=some (rW b s):=by have hm:=hb.1.1;obtain⟨h1,h2,h3,_⟩:=kR.facts hm;unfold MB rW;rw[Z8 hm.1.1.1 (by omega) (by grind[maxLen]) (by grind[maxLen]),aE,FJ hb.1.2.2.1];grind[BR]
theorem aLN(s:Int):RN b s=some (rW b s):=by have hm:=hb.1.1;obtain⟨h1,h2,h3,_⟩:=kR.facts hm;unfold RN rW;rw[Z9 hm.1.1.1 (by omega) (by grind[maxLen]) (by grind[maxLen]),aE,FK hb.1.2.2.1];grind
theorem aV2(k:Nat):idx (mO b k) (rW b k)=some ((mO b k).getD (rW b k).toNat 0):=by grind[aSP,aGR,iC]
theorem kD.fits:b.Mem.Heap.Bytes.length<=maxLen/\(eG b.Mem.aC).length<=1073741824/\b.aD.cG.length<=maxLen/\b.aM.length<=maxLen/\(cE b.aM).length<=1073741824/\b.lX.length<=maxLen:=by obtain⟨h1,h2,h3,h4,_⟩:=kR.facts hb.1.1;have a:=hb.1.2.1.2.1;have c:=hb.1.2.2.1.1;have d:=hb.1.2.2.1.2.1;have e:=hb.1.2.2.2.1;grind[maxLen]
theorem a4L:XZ b=some (mO b 24):=by
 unfold XZ;rw[J5,aCO (kD.fits hb),bY hb,aE];have:=dW (f:=DX b true) 24 (λk=>(mO b k,(k:Int))) (mO b 24) (λk hk=>by
  have hr:=aSQ b k (rW b k).toNat;simp only[DX,DW];rw[cY,aL trivial,a1C hb,aE,aV2 hb,aE,dM (x:=(k:Int)+1),dM];rfl) (by simp[DX,DW])
 rw[show(List.replicate ((5:Int).toNat) (0:Int))=mO b 0 from rfl];have this':loop (DX b true) (mO b 0,0)=_:=this;rw[this'];rfl
theorem a4M:X0 b=some (mO b 24):=by
 unfold X0;rw[J5,R6 (kD.fits hb),bY hb,aE];have:=dW (f:=D0 b) 24 (λk=>(mO b k,(k:Int))) (mO b 24) (λk hk=>by
  have hr:=aSQ b k (rW b k).toNat;simp only[D0];rw[cY,aLN hb,aE,aV2 hb,aE,dM (x:=(k:Int)+1),dM];rfl) (by simp[D0])
 rw[show(List.replicate ((5:Int).toNat) (0:Int))=mO b 0 from rfl];have this':loop (D0 b) (mO b 0,0)=_:=this;simp only[iN,bN,bL,this'];rfl
end
def aYL(p:Nat->Bool)(n:Nat):Nat:=((List.range n).filter p).length
theorem a9I(p:Nat->Bool)(n:Nat):aYL p (n+1)=aYL p n+if p n then 1 else 0:=by grind[aYL,List.range_succ]
theorem GG:∀{l m:List Int},l.Nodup->(∀x∈l,x∈m)->l.length<=m.length
 |[],_,_,_=>j9 _
 |a::t,m,hn,h=>by rw[aK2] at hn;have ha:a∈m:=h a (aKY ..);have ih:=GG (l:=t) (m:=m.erase a) hn.2 (λx hx=>(List.mem_erase_of_ne (λe:x=a=>hn.1 (by grind))).2 (h x (qJ _ hx)));grind
theorem aV3{p:Nat->Bool}{n:Nat}{l:List Int}(hn:l.Nodup)(hr:∀x∈l,0<=x/\x<(n:Int))(hp:∀i:Nat,i<n->(p i=true↔(i:Int)∈l)):aYL p n=l.length:=by
 have e:aYL p n=(((List.range n).filter p).map (λi:Nat=>(i:Int))).length:=by simp[aYL]
 have nd:(((List.range n).filter p).map (λi:Nat=>(i:Int))).Nodup:=by rw[List.nodup_iff_pairwise_ne];refine List.Pairwise.map (R:=λa b:Nat=>a≠b) _ (λa b h=>by omega) ?_;grind[List.nodup_range]
 have a:=GG (m:=l) nd (λx hx=>by
  grind)
 have b:=GG (l:=l) (m:=((List.range n).filter p).map (λi:Nat=>(i:Int))) hn (λx hx=>by
  have:=hr x hx;refine VN.2 ⟨x.toNat,List.mem_filter.2 ⟨List.mem_range.2 (by omega),(hp _ (by omega)).2 (by grind)⟩,by omega⟩)
 omega
theorem a9J(b:aA)(k:Nat):∀j:Nat,j<5->(mO b k).getD j 0=(aYL (λi=>decide (rW b i=(j:Int))) k:Int):=by
 induction k with
 |zero=>intro j hj;simp only[mO,aYL,List.range_zero,List.filter_nil,List.length_nil,OI,List.getElem?_replicate,aL hj];rfl
 |succ k ih=>
  intro j hj;have hr:=aSP b k;have hl:=aGR b k;rw[a9I];simp only[mO,OI,List.getElem?_set];grind
theorem aGS{m:Mem}(hm:kR m){w h:Int}(hw:0<=w/\w<=2)(hv:mM m h):(∀t,bI (sA m w h).Heap t=bI m.Heap t)/\(∀t,0<=bI m.Heap t->j5 (sA m w h).Heap t=if t=h % 32 then h/32+1 else j5 m.Heap t) /\
  (∀t,t≠h % 32->(t∈eG (sA m w h).aC↔t∈eG m.aC))/\dZ (sA m w h) (h % 32)≠3:=by
 obtain⟨hcnt,h3,h9,h1,h2,hsm,hcp,hlo,hsG,hsO⟩:=kR.facts hm;have hcl:=dU hv.2.1;have hc2:0<=bI m.Heap (h % 32)/\bI m.Heap (h % 32)<=2:=by obtain⟨_,q,e⟩:=sM hcl;rw[e];exact i7.1 (by omega)
 have hg6:1<=h/32/\h/32<=6:=by have:=hv.1;unfold kC at this;omega
 obtain⟨_,hg⟩:=HOk.bDL hm.1.1 hcl (g:=h/32+1) (by omega);have hh:(sA m w h).Heap=⟨st4 m.Heap.Bytes (iU (h % 32) (bI m.Heap (h % 32))).toNat (h/32+1),m.Heap.Class⟩:=by unfold sA;simp only[apply_ite Mem.Heap,ite_self]
 have kx:(w*3+bI m.Heap (h % 32)).toNat<m.aC.Own.length:=by omega
 have ky:(bI m.Heap (h % 32)).toNat<m.aC.Global.length:=by omega
 have hl:∀t,t∈eG (sA m w h).aC↔t∈eG m.aC\/(h/32+1<=6/\t=h % 32):=λt=>by
  unfold sA eG;by_cases q:h/32+1<=6
  ·rw[aL q];split
   ·rw[<-dS kx];simp only[eS,JX kx,KD,q,true_and];constructor
    ·rintro(a|a|a)
     ·exact .inl (.inl a)
     ·exact .inl (.inr a)
     ·exact .inr a
    ·rintro((a|a)|a)
     ·exact .inl a
     ·exact .inr (.inl a)
     ·exact .inr (.inr a)
   ·rw[<-dS ky];simp only[eS,JX ky,KD,q,true_and];constructor
    ·rintro((a|a)|a)
     ·exact .inl (.inl a)
     ·exact .inr a
     ·exact .inl (.inr a)
    ·rintro((a|a)|a)
     ·exact .inl (.inl a)
     ·exact .inr a
     ·exact .inl (.inr a)
  ·rw[aP q];simp only[eS,q,false_and,or_false]
 refine⟨λt=>by rw[hh];rfl,λt ht=>by rw[hh];exact hg t ht,λt ht=>by rw[hl];exact⟨λx=>x.elim id λy=>absurd y.2 ht,.inl⟩,λhu=>?_⟩;have hu':=iV.1 hu;have e1:j5 (sA m w h).Heap (h % 32)=h/32+1:=by rw[hh,hg _ hcl,aL rfl]
 rw[e1] at hu';exact hu'.2.1 ((hl _).2 (.inr ⟨hu'.2.2,rfl⟩))
theorem aSR{m:Mem}(hm:kR m){w h:Int}(hw:0<=w/\w<=2)(hv:mM m h){t:Int}(ht:t≠h % 32):dZ (sA m w h) t=dZ m t:=by
 obtain⟨a,b,c,_⟩:=aGS hm hw hv;by_cases q:0<=bI m.Heap t
 ·exact aIR (a t) (by rw[b t q,aP ht]) (c t ht)
 ·have e:bI (sA m w h).Heap t=bI m.Heap t:=a t;unfold dZ;rw[e,aL (by omega),aL (by omega)]
theorem a1D{l:List eB}{j:Nat}(h:j<l.length):P9 l (j:Int)=l[j]:=by
 have:=aCU (l:=l) (k:=(j:Int)) (by omega);rw[aT h] at this;injection this with this
 exact this.symm
def bML(h:Heap)(s:Int):Int:=ld h.Bytes ((iU s (bI h s)).toNat+4) 4
theorem a1E{h:Heap}{s:Int}(hc:0<=bI h s):(iU s (bI h s)).toNat+8<=384:=(bOX hc).1
theorem bIE{h:Heap}(hh:HOk h){s:Int}(hc:0<=bI h s):1<=j5 h s/\j5 h s<=7:=by obtain⟨p,i,p6,hi,es,ec,eo,ep⟩:=mN hc;have hold:=(JW hh.1 p6).1 (hh.2 p p6);simp_all[aGO,aP,j5]
structure aYM (m m':Mem) (x:Int):Prop where
 was:dZ m x≠3
 now:dZ m' x=3
 gen:1<=j5 m'.Heap x/\j5 m'.Heap x<=6
 rest:∀t,t≠x->(dZ m' t=3↔dZ m t=3)
 same:∀t,dZ m t=3->j5 m'.Heap t=j5 m.Heap t/\bML m'.Heap t=bML m.Heap t
theorem aV4{m:Mem}(hm:kR m){ls:aC}{x:Int}(h1:∀t,t∈eG m.aC↔t∈eG ls\/t=x)(h2:x∉eG ls):aYM m ⟨m.Heap,ls⟩ x:=by have hx:x∈eG m.aC:=(h1 x).2 (.inr rfl);obtain⟨a,b⟩:=kR.VD hm hx;refine⟨λq=>(iV.1 q).2.1 hx,iV.2 ⟨a,h2,b⟩,⟨(bIE hm.1.1 a).1,b⟩,λt ht=>?_,λt _=>⟨rfl,rfl⟩⟩;grind[iV]
theorem a9K{l:List Int}(h:l≠[]):l=(R8 l).1++[(R8 l).2]:=by
 unfold R8;rcases aGX l with rfl|⟨L,b,rfl⟩
 ·exact absurd rfl h
 ·simp
theorem a1F{l:List bJ}{k:Nat}(hk:k<l.length)(h:fA l k≠[]):∃A B,fS l=A++((R8 (fA l k)).2::B)/\fS (l.set k ⟨(R8 (fA l k)).1⟩)=A++B:=by grind[a9K,R8,GW,dS,LC]
theorem a1G{l:List bJ}{k:Nat}(hk:k<l.length)(h:fA l k=[]):l.set k ⟨(R8 (fA l k)).1⟩=l/\(R8 (fA l k)).2 = -1:=by
 rw[h];refine⟨?_,rfl⟩;have e:(⟨(R8 []).1⟩:bJ)=l[k]:=by
  have:=dS hk;rw[h] at this;cases hl:l[k] with
  |mk s=>rw[hl] at this;simp only at this;subst this;rfl
 simp_all
theorem aYN{m:Mem}(hm:kR m){w c:Int}(hw:0<=w/\w<=2)(hc:0<=c/\c<=2):(JY m w c=(m,-1))\/0<=(JY m w c).2/\aYM m (JY m w c).1 (JY m w c).2:=by
 obtain⟨hcnt,h3,h9,_⟩:=kR.facts hm;have hk:(w*3+c).toNat<m.aC.Own.length:=by omega
 unfold JY;by_cases q:fA m.aC.Own (w*3+c).toNat=[]
 ·left;obtain⟨a,b⟩:=a1G hk q;rw[a,b]
 ·right;obtain⟨A,B,e1,e2⟩:=a1F hk q;have nd:=hm.1.2.2.2.2.2;have rg:=hm.1.2.2.2.2.1;unfold eG at nd rg;rw[e1] at nd rg;refine⟨(rg _ (by simp)).1,aV4 hm (λt=>?_) ?_⟩
  ·grind[eG]
  grind[eG]
theorem aUT{m:Mem}(hm:kR m){c:Int}(hc:0<=c/\c<=2):(B8 m c=(m,-1))\/0<=(B8 m c).2/\aYM m (B8 m c).1 (B8 m c).2:=by
 obtain⟨hcnt,h3,h9,_⟩:=kR.facts hm;have hk:c.toNat<m.aC.Global.length:=by omega
 unfold B8;by_cases q:fA m.aC.Global c.toNat=[]
 ·left;obtain⟨a,b⟩:=a1G hk q;rw[a,b]
 ·right;obtain⟨A,B,e1,e2⟩:=a1F hk q;have nd:=hm.1.2.2.2.2.2;have rg:=hm.1.2.2.2.2.1;unfold eG at nd rg;rw[e1] at nd rg;refine⟨(rg _ (by simp)).1,aV4 hm (λt=>?_) ?_⟩
  ·grind[eG]
  grind[eG]
theorem a4N{m:Mem}(hm:kR m){c:Int}(hc:0<=c/\c<=2):(A3 m c=(m,-1))\/0<=(A3 m c).2/\aYM m (A3 m c).1 (A3 m c).2:=by
 obtain⟨hcnt,h3,h9,h1,_⟩:=kR.facts hm;have hs:=hm.1.1.1;unfold A3;by_cases q:pgF m.Heap=6
 ·grind
 right;rw[aP q];obtain⟨hp,hun⟩:=a32 hs q;generalize pgF m.Heap=p at hp hun;obtain⟨a,b,d,e⟩:=HOk.bDN hm.1.1 hp (by omega) hc;have hpp:0<cK c:=i7.2 hc;have hp4:=oA c;have hk:c.toNat<m.aC.Global.length:=by omega
 have hcons:gS p (cK c).toNat=(p:Int)*4::(gS p (cK c).toNat).drop 1:=by
  have:0<(gS p (cK c).toNat).length:=by grind[aKL]
  have h0:=zF this;rw[SZ] at h0;have e0:(gS p (cK c).toNat)[0]=(p:Int)*4:=by simp[gS]
  grind
 have hnd:=a0V p (cK c).toNat;rw[hcons,aK2] at hnd;have hxs:∀t,t∈(gS p (cK c).toNat).drop 1↔∃i,i<(cK c).toNat/\t=(p:Int)*4+(i:Nat)/\i≠0:=λt=>by
  constructor
  ·intro h;obtain⟨i,hi,rfl⟩:=bDO (aGZ h);grind
  ·rintro⟨i,hi,rfl,i0⟩;have hmem:(p:Int)*4+(i:Nat)∈gS p (cK c).toNat:=by grind[gS]
   grind
 generalize (gS p (cK c).toNat).drop 1=xs at hnd hxs;have hmem:∀t,t∈eG ⟨m.aC.Global.set c.toNat ⟨fA m.aC.Global c.toNat++xs⟩,m.aC.Own⟩↔t∈eG m.aC\/t∈xs:=λt=>by unfold eG;rw[<-dS hk];simp[JX,or_right_comm]
 have hno:∀i,i<(cK c).toNat->¬0<=bI m.Heap ((p:Int)*4+(i:Nat)):=λi hi z=>(d _ z).1 (by omega);have e0:=e 0 (by omega);rw[show(p:Int)*4+((0:Nat):Int)=(p:Int)*4 by omega] at e0;have hno0:=hno 0 (by omega);rw[show(p:Int)*4+((0:Nat):Int)=(p:Int)*4 by omega] at hno0;have bts:=λj=>(a6V hm.1.1.1.1 hp hc (cK c).toNat (by omega) j).1;have hbl:=OA m.Heap.Bytes p c (cK c).toNat;refine⟨by omega,λz=>hno0 (iV.1 z).1,iV.2 ⟨by grind,λz=>?_,by grind⟩,by grind,λt ht=>?_,λt ht=>?_⟩
 ·grind[kR.VD]
 ·rw[iV,iV];simp only at ht;by_cases z:0<=bI m.Heap t
  ·obtain⟨z1,z2⟩:=d t z;have zx:t∉xs:=λy=>by obtain⟨i,hi,rfl,_⟩:=(hxs t).1 y;omega
   have:t∈eG (⟨m.aC.Global.set c.toNat ⟨fA m.aC.Global c.toNat++xs⟩,m.aC.Own⟩:aC)↔t∈eG m.aC:=by grind
   simp only[this,b t z1,z2]
  ·refine⟨λy=>?_,λy=>absurd y.1 z⟩;exfalso;obtain⟨y1,y2,y3⟩:=y;by_cases zp:(t/4).toNat=p
   ·obtain⟨r1,r2,r3⟩:=sM y1;rw[zp,aCR hs hp,aL rfl] at r2;exact y2 ((hmem t).2 (.inr ((hxs t).2 ⟨(t % 4).toNat,by omega,by omega,by omega⟩)))
   grind
 ·have ht':=iV.1 ht;obtain⟨z1,z2⟩:=d t ht'.1;refine⟨z2,?_⟩;obtain⟨p',i',p6',hi',es',ec',eo',ep'⟩:=mN ht'.1;have hend:=a1E ht'.1;have hz':=uI hs p6' rfl hi';have room:8+i'*(aW (cD m.Heap p')).toNat+8<=64:=by
   have hcl:0<=cD m.Heap p'/\cD m.Heap p'<=2:=i7.1 (by omega);generalize cD m.Heap p'=c' at hi' hcl;rcases lQ hcl with rfl|rfl|rfl
   ·grind[cK,aW]
   ·grind[cK,aW]
   grind[cK,aW]
  unfold bML;simp only;rw[b t z1];exact MG (by omega) hbl λj j1 j2=>bts j (by omega)
theorem bED{h:Heap}{s t:Int}(hc:0<=bI h s)(ht:0<=bI h t)(hn:s≠t):(iU s (bI h s)).toNat+4+(iA (bI h s)).toNat<=(iU t (bI h t)).toNat\/(iU t (bI h t)).toNat+4+(iA (bI h t)).toNat<=(iU s (bI h s)).toNat:=by
 obtain⟨p,i,p6,hi,es,ec,eo,ep⟩:=mN hc;obtain⟨q,j,q6,hj,fs,fc,fo,fp⟩:=mN ht;rw[eo,fo,ec,fc];have room:∀{c:Int} {i:Nat},i<(cK c).toNat->(c=0/\i<4/\(aW c).toNat=12/\(iA c).toNat=8)\/(c=1/\i<2/\(aW c).toNat=20/\(iA c).toNat=16)\/(c=2/\i<1/\(aW c).toNat=44/\(iA c).toNat=40):=λ{c i} h=>by
  rcases lQ (i7.1 (show 0<cK c by omega)) with rfl|rfl|rfl
  ·exact .inl ⟨rfl,h,rfl,rfl⟩
  ·exact .inr (.inl ⟨rfl,h,rfl,rfl⟩)
  ·exact .inr (.inr ⟨rfl,h,rfl,rfl⟩)
 by_cases e:p=q
 ·subst e;have hij:i≠j:=λe=>hn (by omega);have r2:=room hj;rcases room hi with ⟨_,a,b,c⟩|⟨_,a,b,c⟩|⟨_,a,b,c⟩
  ·rw[b,c];omega
  ·rw[b,c];omega
  ·omega
 ·have:p<q\/q<p:=by omega
  rcases room hi with ⟨_,a,b,c⟩|⟨_,a,b,c⟩|⟨_,a,b,c⟩<;>rcases room hj with ⟨_,a',b',c'⟩|⟨_,a',b',c'⟩|⟨_,a',b',c'⟩<;>rw[b,c,b',c']<;>omega
theorem a1H{b b':List Int}{a:Nat}(h:a+2<=b.length)(hl:b'.length=b.length)(hs:∀j,a<=j->j<a+2->bt b' j=bt b j):ld b' a 2=ld b a 2:=by grind[ld,zF,aRZ]
theorem aSS{h h':Heap}{t:Int}(h384:h.Bytes.length=384)(hc:0<=bI h t)(h10:10<=iA (bI h t))(e:bI h' t=bI h t)(hl:h'.Bytes.length=h.Bytes.length)(hs:∀j,uN h t<=j->j<uN h t+10->bt h'.Bytes j=bt h.Bytes j):aCW h' t=aCW h t:=by grind[C6,uN,aCW,a1H,MG]
def Kn(m m':Mem)(z:Int):Prop:=∀x,kS m x->x % 32≠z->kS m' x/\aCW m'.Heap (x % 32)=aCW m.Heap (x % 32)
theorem Kn.refl(m:Mem)(z:Int):Kn m m z:=λ_ h _=>⟨h,rfl⟩
theorem xN.kn{m m':Mem}{z:Int}(h:xN m m' z)(hn:∀x,kS m x->x % 32≠z->aCW m'.Heap (x % 32)=aCW m.Heap (x % 32)):Kn m m' z:=λx hx hz=>by obtain⟨a,b,c⟩:=h.2 _ hx.1.2.1 hz;exact⟨⟨⟨hx.1.1,a,by rw[b];exact hx.1.2.2⟩,by rw[c];exact hx.2⟩,hn x hx hz⟩
theorem a7G{m:Mem}(hm:kR m){w h:Int}(hw:0<=w/\w<=2)(hv:mM m h):Kn m (sA m w h) (h % 32):=by
 obtain⟨m',e1,e2,_,hs⟩:=aOW hm hw hv;rw[aIS hm hw hv] at e1;injection e1 with e1
 rw[<-e1] at hs;refine hs.kn λx hx hz=>?_;have hcl:=dU hv.2.1;have h384:=hm.1.1.1.1;have hh:(sA m w h).Heap=⟨st4 m.Heap.Bytes (iU (h % 32) (bI m.Heap (h % 32))).toNat (h/32+1),m.Heap.Class⟩:=by simp[sA,apply_ite]
 rw[hh];have hc:=dU hx.1.2.1;have e:=a1E hcl;have a:=bED hcl hc (λq=>hz q.symm);have s1:=(C6 hc hx.2).2;have s2:8<=(iA (bI m.Heap (h % 32))).toNat:=by have:=sM hcl;have hh:=i7.1 (show 0<cK (cD m.Heap (h % 32/4).toNat) by omega);rw[this.2.2];rcases lQ hh with e|e|e<;>rw[e]<;>decide
 refine aSS h384 hc hx.2 rfl (JV ..) λj j1 j2=>?_;unfold uN at j1 j2;rw[LD (by omega),nC,nC]
theorem a7H{m:Mem}(hm:kR m){x:Int}(hx:kS m x){o:Nat}{t:List UInt8}(ho:o+t.length<=10):Kn m ⟨⟨j6 m.Heap.Bytes (uN m.Heap (x % 32)+o) t,m.Heap.Class⟩,m.aC⟩ (x % 32):=by have hcl:=dU hx.1.2.1;have r:=C6 hcl hx.2;have h384:=hm.1.1.1.1;have h:=kR.j6 hm hcl (o:=o) (t:=t) (by omega);refine λy hy hz=>?_;have hc:=dU hy.1.2.1;obtain⟨a,b,c⟩:=h.2 _ hy.1.2.1 (by omega);have ap:=bED hcl hc (λq=>hz q.symm);have s1:=(C6 hc hy.2).2;refine⟨⟨⟨hy.1.1,a,b.trans hy.1.2.2⟩,hy.2⟩,aSS h384 hc hy.2 rfl (EE ..) λj j1 j2=>?_⟩;grind[uN,QB]
theorem kS.j6{m:Mem}(hm:kR m){x:Int}(hx:kS m x){o:Nat}{t:List UInt8}(ho:o+t.length<=10):kS ⟨⟨Gv.j6 m.Heap.Bytes (uN m.Heap (x % 32)+o) t,m.Heap.Class⟩,m.aC⟩ x:=by have hcl:=dU hx.1.2.1;have r:=C6 hcl hx.2;have h:=kR.j6 hm hcl (o:=o) (t:=t) (by omega);obtain⟨a,b,c⟩:=h.2 _ hx.1.2.1 (by omega);exact⟨⟨hx.1.1,a,b.trans hx.1.2.2⟩,hx.2⟩
theorem bEE{b:List Int}{a:Nat}{t:List UInt8}(h:a+t.length<=b.length){k:Nat}(j:Nat)(e:k=a+j)(hj:j<t.length):bt (j6 b a t) k=(t[j].toNat:Int):=by grind[aR7]
theorem u8v(z:Int):((u8 z).toNat:Int)=z % 256:=by grind[u8,UInt8.toNat_ofNat_of_lt']
theorem a4O{b:List Int}{a k:Nat}{t l r:List UInt8}{n:Int}(ht:t=l++pM n++r)(hk:k=a+l.length)(h:a+t.length<=b.length)(hn:0<=n/\n<=4294967295):ld (j6 b a t) k 4=n:=by
 have e:∀j (hj:j<4),bt (j6 b a t) (k+j)=(((pM n)[j]'(by grind[pM])).toNat:Int):=λj hj=>by
  have h4:(pM n).length=4:=rfl;have hl:t.length=l.length+4+r.length:=by grind
  rw[bEE h (l.length+j) (by omega) (by omega)];grind
 have h4:(pM n).length=4:=rfl;have hl:t.length=l.length+4+r.length:=by grind
 have e0:=e 0 (by omega);have e1:=e 1 (by omega);have e2:=e 2 (by omega);have e3:=e 3 (by omega);simp only[pM,List.getElem_cons_zero,List.getElem_cons_succ,u8v,Y4] at e0 e1 e2 e3;grind[ld4,EE]
section
variable {m:Mem} (hm:kR m) {x:Int} (hx:kS m x)
include hm hx
theorem a7I{o:Nat}{t:List UInt8}(ho:o+t.length<=10)(s:Int):dZ ⟨⟨j6 m.Heap.Bytes (uN m.Heap (x % 32)+o) t,m.Heap.Class⟩,m.aC⟩ s=dZ m s:=by
 have hcl:=dU hx.1.2.1;have r:=C6 hcl hx.2;have h:=(HOk.j6 hm.1.1 hcl (o:=o) (t:=t) (by omega)).2;by_cases q:0<=bI m.Heap s
 ·exact aIR rfl (h s q) Iff.rfl
 ·have c:bI m.Heap s<0:=by omega
  exact(aL (show bI _ s<0 from c)).trans (aL c).symm
structure Wr1 (m m':Mem) (x:Int) (n:gE):Prop where
 ok:kS m' x
 nod:aCW m'.Heap (x % 32)=n
 kn:Kn m m' (x % 32)
 st:∀s,dZ m' s=dZ m s
theorem bIF{y:Int}(hy:j8 y):Wr1 m (Gv.aLM m x y) x {aCW m.Heap (x % 32) with Next:=y}:=by have hcl:=dU hx.1.2.1;have r:=(C6 hcl hx.2).1;have h384:=hm.1.1.1.1;have h4:(pM y).length=4:=rfl;have hr:=aIT hy;unfold Gv.aLM;rw[aL ⟨hy,hx⟩];refine⟨kS.j6 hm hx (by omega),?_,a7H hm hx (by omega),a7I hm hx (by omega)⟩;have ed:uN ⟨j6 m.Heap.Bytes (uN m.Heap (x % 32)+6) (pM y),m.Heap.Class⟩ (x % 32)=uN m.Heap (x % 32):=rfl;unfold aCW;simp only[ed];rw[a1H (by omega) (EE ..) λj a b=>QB _ (by omega) (by omega),MG (by omega) (EE ..) λj a b=>QB _ (by omega) (by omega),a4O (l:=[]) (r:=[]) (n:=y) (by simp) (by simp) (by omega) (by omega)]
theorem bMM{n:gE}(hn:aKN n):Wr1 m (aIU m x n) x n:=by
 have hcl:=dU hx.1.2.1;have r:=(C6 hcl hx.2).1;have h384:=hm.1.1.1.1;have hl:(aUR n).length=10:=by simp[aUR,W2,pM]
 have hr:=aIT hn.2.2;have hk:=hn.1;have hv:=hn.2.1;unfold aIU;rw[aL ⟨hn,hx⟩];refine⟨kS.j6 hm hx (o:=0) (by omega),?_,a7H hm hx (o:=0) (by omega),a7I hm hx (o:=0) (by omega)⟩;have ed:uN ⟨j6 m.Heap.Bytes (uN m.Heap (x % 32)) (aUR n),m.Heap.Class⟩ (x % 32)=uN m.Heap (x % 32):=rfl;have hle:uN m.Heap (x % 32)+(aUR n).length<=m.Heap.Bytes.length:=by omega
 have e2:ld (j6 m.Heap.Bytes (uN m.Heap (x % 32)) (aUR n)) (uN m.Heap (x % 32)) 2=n.Key:=by
  have e:∀{b:List Int} {a:Nat},a+2<=b.length->ld b a 2=bt b a*256+bt b (a+1):=λh=>by grind[ld,zF,ldF,aRZ]
  rw[e (by grind[EE]),bEE hle 0 (Y4 _).symm (by omega),bEE hle 1 rfl (by omega)];grind[aUR,W2,u8v]
 unfold aCW;simp only[ed];rw[e2,a4O (l:=W2 n.Key) (r:=pM n.Next) (n:=n.fT) (by simp[aUR]) (by simp[W2]) hle (by omega),a4O (l:=W2 n.Key++pM n.fT) (r:=[]) (n:=n.Next) (by simp[aUR]) (by simp[W2,pM]) hle (by omega)]
end
theorem a7J{m m':Mem}{x:Int}(e:m'.Heap=m.Heap)(h:aYM m m' x):Kn m m' (-1):=λy hy _=>by have h1:=(h.rest (y % 32) (λq=>h.was (q ▸ hy.1.2.1))).2 hy.1.2.1;grind[kS,mM]
theorem a7K{l:List Int}(h:0<=(R8 l).2):(R8 l).2∈l:=by
 rcases aGX l with rfl|⟨L,b,rfl⟩
 ·exact absurd h (by simp[R8])
 ·simp[R8]
theorem bEF{m:Mem}(hm:kR m){c:Int}(hc:0<=c/\c<=2)(h:aYM m (A3 m c).1 (A3 m c).2):Kn m (A3 m c).1 (-1)/\bI (A3 m c).1.Heap (A3 m c).2=c:=by
 have hs:=hm.1.1.1;unfold A3 at h ⊢;by_cases q:pgF m.Heap=6
 ·rw[aL q] at h;exact absurd h.now h.was
 rw[aP q] at h ⊢;obtain⟨hp,hun⟩:=a32 hs q;generalize pgF m.Heap=p at hp hun h;obtain⟨a,b,d,e⟩:=HOk.bDN hm.1.1 hp (by omega) hc;have hpp:0<cK c:=i7.2 hc;have e0:=(e 0 (by omega)).1;rw[show(p:Int)*4+((0:Nat):Int)=(p:Int)*4 by omega] at e0;refine⟨λy hy _=>?_,e0⟩;have h1:=(h.rest (y % 32) (λq=>h.was (q ▸ hy.1.2.1))).2 hy.1.2.1;have hcl:=dU hy.1.2.1;obtain⟨z1,z2⟩:=d _ hcl;have ec:=b _ z1;refine⟨⟨⟨hy.1.1,h1,z2.trans hy.1.2.2⟩,by show 10<=iA (bI _ _);rw[ec];exact hy.2⟩,?_⟩;have bts:=λj=>(a6V hm.1.1.1.1 hp hc (cK c).toNat (by omega) j).1;obtain⟨p',i',p6',hi',es',ec',eo',ep'⟩:=mN hcl;have r:=C6 hcl hy.2;refine aSS hm.1.1.1.1 hcl hy.2 ec (OA ..) λj j1 j2=>bts j ?_;unfold uN at j1 j2;have room:8+i'*(aW (cD m.Heap p')).toNat+4+10<=64:=by
  have hcl:0<=cD m.Heap p'/\cD m.Heap p'<=2:=i7.1 (by omega);have h10:=hy.2;rw[ec'] at h10;generalize cD m.Heap p'=c' at hi' hcl h10;rcases lQ hcl with rfl|rfl|rfl
  ·exact absurd h10 (by decide)
  ·rw[show(cK 1).toNat=2 from rfl] at hi';rw[show(aW 1).toNat=20 from rfl];omega
  simp_all[cK]
 omega
structure AlT (b:aA) (s:Sub) (r:aA×Sub):Prop where
 clock:r.1.aD=b.aD
 bR9:r.1.aM=b.aM
 haz:r.1.lX=b.lX
 two:r.1.Mem=b.Mem/\(r.2.iB=true/\r.2.Code=3\/s.Pc<=2/\r.2={s with Pc:=s.Pc+1}) \/
  r.2.iB=true/\r.2.Code=0/\kS r.1.Mem r.2.Out/\aYM b.Mem r.1.Mem (r.2.Out % 32)/\Kn b.Mem r.1.Mem (-1)
theorem aYO{b:aA}(hm:kR b.Mem){w:Int}(hw:0<=w/\w<=2){s:Sub}(hk:s.Kind=1)(hd:s.iB=false)(hp:0<=s.Pc/\s.Pc<=3)(ha:s.A=16):AlT b s (jG b w s):=by
 have e:jG b w s=aCT b w s:=by grind[jG]
 rw[e];have h1:OB s.A=1:=by rw[ha];rfl
 have fin:∀p:Mem×Int,(p=(b.Mem,-1)\/0<=p.2/\aYM b.Mem p.1 p.2)->(aYM b.Mem p.1 p.2->0<=p.2->Kn b.Mem p.1 (-1)/\bI p.1.Heap p.2=1)->AlT b s (R9 b s p):=λp h hk=>by
  unfold R9;rcases h with rfl|⟨h0,h1⟩
  ·rw[eD];split
   ·exact⟨rfl,rfl,rfl,.inl ⟨rfl,.inl ⟨rfl,rfl⟩⟩⟩
   ·exact⟨rfl,rfl,rfl,.inl ⟨rfl,.inr ⟨by omega,rfl⟩⟩⟩
  ·obtain⟨k1,k2⟩:=hk h1 h0;rw[aL h0];have h23:=(sM (iV.1 h1.now).1).1;have eh:a33 p.1 p.2=j5 p.1.Heap p.2*32+p.2:=aL h1.gen;have hg:=h1.gen;have e1:a33 p.1 p.2 % 32=p.2:=by omega
   have e2:a33 p.1 p.2/32=j5 p.1.Heap p.2:=by omega
   have hn:kC (a33 p.1 p.2):=by grind[kC]
   refine⟨rfl,rfl,rfl,.inr ⟨rfl,rfl,⟨⟨hn,?_,?_⟩,?_⟩,?_,k1⟩⟩
   ·simp only[A2];rw[e1];exact h1.now
   ·grind[A2]
   ·simp only[A2];rw[e1,k2];decide
   grind[A2]
 unfold aCT;rw[h1,nC];have hc:(0:Int)<=1/\(1:Int)<=2:=by omega
 split
 ·refine fin _ (aYN hm hw hc) λt h=>⟨a7J rfl t,?_⟩;have hf:=hm.2.2 (w*3+1).toNat (by omega) _ (a7K h);rw[show(((w*3+1).toNat % 3:Nat):Int)=1 by omega] at hf;exact hf.1
 split
 ·exact fin _ (aUT hm hc) λt h=>⟨a7J rfl t,(hm.2.1 1 (by omega) _ (a7K h)).1⟩
 grind[a4N,bEF]
abbrev j7(v:Int):Prop:=0<=v/\v<=2
abbrev W3(v:Int):Prop:=0<=v/\v<=1
def fQ(m:Mem)(x:Int):gE:=aCW m.Heap (x % 32)
def ChT(m:Mem):Int->List Int->Prop
 |x,[]=>x=0
 |x,h::r=>x=h/\kS m h/\aKN (fQ m h)/\ChT m (fQ m h).Next r
def csL(l:List Int)(s:Int):Nat:=(l.map (· % 32)).count s
def lC(j:aI):List Int:=if(6<=j.Pc/\j.Pc<=8)\/j.Pc=16\/j.Pc=17 then j.eO else if 9<=j.Pc/\j.Pc<=13 then j.eO.drop (eK j.aH j.K).toNat else []
def aGT(j:aI):List Int:=if 9<=j.Pc/\j.Pc<=14 then j.bU else if j.Pc=15 then j.bU.drop j.K.toNat else []
def own(j:aI):List Int:=lC j++aGT j
def ind(b:aA)(s:Int):Nat:=if dZ b.Mem s=3/\¬bD b.aM s then 1 else 0
def cnO(J:Int->aI)(s:Int):Nat:=csL (own (J 0)) s+csL (own (J 1)) s+csL (own (J 2)) s
def cnC(c:Int->List Int)(s:Int):Nat:=csL (c 0) s+csL (c 1) s
def zA(J:Int->aI)(w:Int)(j:aI):Int->aI:=λv=>if v=w then j else J v
def upC(c:Int->List Int)(i:Int)(l:List Int):Int->List Int:=λv=>if v=i then l else c v
theorem W4(J:Int->aI)(w:Int)(j:aI):zA J w j w=j:=aL rfl
theorem aKS(J:Int->aI){w v:Int}(j:aI)(h:v≠w):zA J w j v=J v:=aP h
theorem NH(c:Int->List Int)(i:Int)(l:List Int):upC c i l i=l:=aL rfl
def upQ(q:Int->Nat)(w:Int)(n:Nat):Int->Nat:=λv=>if v=w then n else q v
theorem bEH(q:Int->Nat)(w:Int):upQ q w (q w)=q:=by grind[upQ]
theorem YW(c:Int->List Int){i v:Int}(l:List Int)(h:v≠i):upC c i l v=c v:=aP h
@[simp] theorem bEI (s : Int) : csL [] s = 0 := rfl
theorem YX(a b:List Int)(s:Int):csL (a++b) s=csL a s+csL b s:=by simp[csL]
theorem UD(x:Int)(l:List Int)(s:Int):csL (x::l) s=csL l s+if x % 32=s then 1 else 0:=by grind[csL]
theorem OF{l:List Int}{x:Int}(h:x∈l):1<=csL l (x % 32):=List.count_pos_iff.2 (VN.2 ⟨x,h,rfl⟩)
theorem aC5{J:Int->aI}{w:Int}(hw:j7 w)(j:aI)(s:Int):cnO (zA J w j) s+csL (own (J w)) s=cnO J s+csL (own j) s:=by grind[cnO,zA]
theorem a4P(J:Int->aI){v:Int}(hv:j7 v)(s:Int):csL (own (J v)) s<=cnO J s:=by grind[cnO]
theorem bIG(J:Int->aI){v w:Int}(hv:j7 v)(hw:j7 w)(hn:v≠w)(s:Int):csL (own (J v)) s+csL (own (J w)) s<=cnO J s:=by grind[cnO]
theorem bEJ{c:Int->List Int}{i:Int}(hi:W3 i)(l:List Int)(s:Int):cnC (upC c i l) s+csL (c i) s=cnC c s+csL l s:=by grind[cnC,upC]
theorem bEK(c:Int->List Int){i:Int}(hi:W3 i)(s:Int):csL (c i) s<=cnC c s:=by grind[cnC]
theorem aYP(c:Int->List Int){i j:Int}(hi:W3 i)(hj:W3 j)(hn:i≠j)(s:Int):csL (c i) s+csL (c j) s<=cnC c s:=by grind[cnC]
def bi(j:aI):Int:=pJ (uL j).Key
structure TW (Ky:List Int) (m:Mem) (k:List cQ) (c:Int->List Int) (q:Nat) (j:aI):Prop where
 pc:0<=j.Pc/\j.Pc<=21
 nO:j.Pc<6\/20<=j.Pc->j.eO=[]
 oO:j.Pc<=8\/j.Pc=16\/j.Pc=17\/20<=j.Pc->j.bU=[]
 hc:2<=j.Pc/\j.Pc<=5->EF j
 wl:(j.aH.length:Int)<=j.At
 n6:j.Pc=6->(j.eO.length:Int)=j.K/\j.K<=eK j.aH j.aH.length
 n7:7<=j.Pc/\j.Pc<=13->(j.eO.length:Int)=eK j.aH j.aH.length/\(9<=j.Pc->(j.bU.length:Int)<=if j.Pc<=11 then j.K else j.K+1)
 l7:j.Pc=7->∀x∈(sC j.aH).take j.K.toNat,x∈j.bD
 l8:8<=j.Pc/\j.Pc<=13->∀x∈j.aH,pJ x.Key∈j.bD
 k9:10<=j.Pc/\j.Pc<=13->j.K<j.aH.length
 st:j.Pc=10\/j.Pc=11->∃A B,c (bi j)=A++j.H::B/\(j.gN=A.getLastD 0/\∀a∈A,(fQ m a).Key≠(uL j).Key)/\(j.Pc=10->B.length<=q)
 cu:j.Pc=11->j.Node=fQ m j.H/\j.Node.Key=(uL j).Key
 fl:j.Pc=12\/j.Pc=13->(uL j).KR=false/\∀a∈c (bi j),(fQ m a).Key≠(uL j).Key
 ln:j.Pc=13->fQ m (KB j)=⟨(uL j).Key,(uL j).fT,(iK k (bi j)).Head⟩
 cd:j.Code=0/\j.Pc≠16/\j.Pc≠17\/(j.Code=3\/j.Code=6\/j.Code=7)/\16<=j.Pc/\j.Pc<=19
 at_:j.Code=0->6<=j.Pc/\j.Pc<=19->j.At=j.Batch.bW.length
 cl:j.Batch.Collect=true->j.Pc=19\/j.Pc=20\/j.Pc=21
 cl2:j.Pc=20\/j.Pc=21->j.Batch.Collect=true
 ky:(∀x∈j.aH,x.Key∈Ky)/\∀x∈j.Batch.bW,x.Key∈Ky
def Rp(m:Mem):List Int->Prop
 |[]=>True
 |h::r=>kS m h/\aKN (fQ m h)/\((fQ m h).Next=0\/(fQ m h).Next∈r)/\Rp m r
def Sfe(b:aA)(J:Int->aI)(e x:Int):Prop:=(∀r∈cE b.aM,r.Handle=x->e<=r.aJ)/\∀v,j7 v->x∉lC (J v)/\((J v).Pc=15->(J v).K<(J v).bU.length->(J v).Sub.A=x->(J v).Sub.Pc=1->e<=(J v).Sub.E)
def rL(m:Mem)(l:List Int):List Int:=l.map λx=>(fQ m x).Key
def lG(c:aD)(v:Int):Prop:=(dB c v).On=true/\(dB c v).gG=false
structure RdL (Ky:List Int) (b:aA) (J:Int->aI) (e:Int) (l:List Int):Prop where
 rp:Rp b.Mem l
 nd:(rL b.Mem l).Nodup
 ky:∀x∈rL b.Mem l,x∈Ky
 sf:∀x∈l,Sfe b J e x
def RdJ(Ky:List Int)(b:aA)(J:Int->aI)(v:Int)(q:Nat)(j:aI):Prop:=(j.Pc=3\/j.Pc=4)->lG b.aD v->∃r,(RdL Ky b J (dB b.aD v).aJ (j.H::r)/\r.length<=q)/\(j.Pc=4->(j.Node.Key=(fQ b.Mem j.H).Key/\j.Node.fT=(fQ b.Mem j.H).fT)/\(j.Node.Next=0\/j.Node.Next∈r))
def bIH(e:Int)(l:List eB)(s:Sub):Prop:=s.Kind=4/\s.iB=false/\(s.Pc=0\/s.E<=e/\(s.Pc=1/\0<=s.Row\/s.Pc=2/\(0<=s.B/\s.B<=2)/\UB l s/\NF (P9 l s.Row) s.E\/s.Pc=3/\UB l s/\NF (P9 l s.Row) s.E))
structure SbJ (b:aA) (v:Int) (j:aI):Prop where
 al:j.Pc=6->j.Sub.Kind=1/\j.Sub.iB=false/\(0<=j.Sub.Pc/\j.Sub.Pc<=3)/\j.Sub.A=16
 rt:j.Pc=15->j.K<j.bU.length->0<=j.K/\j.Sub.Kind=2/\j.Sub.iB=false/\j.Sub.A=j.bU.getD j.K.toNat 0/\(j.Sub.Pc=0\/j.Sub.Pc=1/\0<=j.Sub.E/\j.Sub.E<=b.aD.aJ)
 col:j.Pc=21->bIH b.aD.aJ (dR b.aM v) j.Sub
structure uV (Ky:List Int) (b:aA) (k:List cQ) (c:Int->List Int) (q:Int->Nat) (J:Int->aI):Prop where
 hz:b.lX=[0,0,0]
 ch:∀i,W3 i->ChT b.Mem (iK k i).Head (c i)
 key:∀i,W3 i->(rL b.Mem (c i)).Nodup/\∀x∈rL b.Mem (c i),pJ x=i/\x∈Ky
 cnt:∀s,cnC c s+cnO J s=ind b s
 ok:∀v,j7 v->∀x∈own (J v),kS b.Mem x
 tw:∀v,j7 v->(J v).cR=true->TW Ky b.Mem k c (q v) (J v)
 rd:∀v,j7 v->RdJ Ky b J v (q v) (J v)
 sb:∀v,j7 v->SbJ b v (J v)
theorem ChT.all{m:Mem}:∀{l:List Int} {x:Int},ChT m x l->∀y∈l,kS m y/\aKN (fQ m y)
 |[],_,_,_,h=>by cases h
 |a::r,x,h,y,hy=>by
  rcases lW.1 hy with rfl|hy
  ·exact⟨h.2.1,h.2.2.1⟩
  ·exact h.2.2.2.all y hy
theorem ChT.keep{m m':Mem}:∀{l:List Int} {x:Int},ChT m x l->(∀y∈l,kS m' y/\fQ m' y=fQ m y)->ChT m' x l
 |[],_,h,_=>h
 |a::r,x,h,hk=>by obtain⟨a1,a2⟩:=hk a (by simp);exact⟨h.1,a1,by rw[a2];exact h.2.2.1,by rw[a2];exact h.2.2.2.keep λy hy=>hk y (by simp[hy])⟩
theorem ChT.split{m:Mem}{A:List Int}:∀{h:Int} {B:List Int} {x:Int},ChT m x (A++h::B)->ChT m h (h::B):=by
 induction A with
 |nil=>exact λh=>⟨rfl,h.2⟩
 |cons a A ih=>exact λh=>ih h.2.2.2
theorem ChT.rp{m:Mem}:∀{l:List Int} {x:Int},ChT m x l->Rp m l
 |[],_,_=>trivial
 |[a],x,h=>⟨h.2.1,h.2.2.1,.inl h.2.2.2,trivial⟩
 |a::b::r,x,h=>⟨h.2.1,h.2.2.1,.inr (by rw[h.2.2.2.1];simp),h.2.2.2.rp⟩
theorem Rp.from{m:Mem}:∀{l:List Int} {x:Int},Rp m l->x∈l->∃A r,l=A++x::r/\Rp m (x::r)
 |a::l,x,h,hx=>by
  by_cases e:x=a
  ·subst e;exact⟨[],l,rfl,h⟩
  ·obtain⟨A,r,e1,h1⟩:=h.2.2.2.from ((lW.1 hx).resolve_left e);grind
theorem Rp.keep{m m':Mem}:∀{l:List Int},Rp m l->(∀y∈l,kS m' y/\fQ m' y=fQ m y)->Rp m' l
 |[],_,_=>trivial
 |a::r,h,hk=>by obtain⟨a1,a2⟩:=hk a (by simp);exact⟨a1,by rw[a2];exact h.2.1,by rw[a2];exact h.2.2.1,h.2.2.2.keep λy hy=>hk y (by simp[hy])⟩
theorem Rp.ok{m:Mem}:∀{l:List Int},Rp m l->∀y∈l,kS m y/\aKN (fQ m y)
 |a::r,h,y,hy=>by
  rcases lW.1 hy with rfl|hy
  ·exact⟨h.1,h.2.1⟩
  ·exact h.2.2.2.ok y hy
theorem aKT{m m':Mem}{l:List Int}(h:∀y∈l,(fQ m' y).Key=(fQ m y).Key):rL m' l=rL m l:=List.map_congr_left h
theorem kS.ne{m:Mem}{x:Int}(h:kS m x):x≠0:=by have:=h.1.1.1;omega
theorem aKU(b:aA)(s:Int):ind b s<=1:=by grind[ind]
theorem Rp.cut{m m':Mem}{y:Int}(hy:fQ m' y={fQ m y with Next:=(fQ m (fQ m y).Next).Next})(h0:(fQ m y).Next≠0):∀{l:List Int},Rp m l->(∀x∈l,kS m' x/\(x≠y->fQ m' x=fQ m x))->Rp m' l
 |[],_,_=>trivial
 |a::r,h,hk=>by
  have ih:=h.2.2.2.cut hy h0 λx hx=>hk x (by simp[hx]);obtain⟨a1,a2⟩:=hk a (by simp);by_cases e:a=y
  ·subst e;have hm:=h.2.2.1.resolve_left h0;obtain⟨A,q,e1,e2⟩:=h.2.2.2.from hm;rw[Rp,hy];refine⟨a1,⟨h.2.1.1,h.2.1.2.1,e2.2.1.2.2⟩,e2.2.2.1.imp id λz=>?_,ih⟩;grind
  grind[Rp]
structure Oth (b b':aA) (k k':List cQ) (c c':Int->List Int) (J:Int->aI) (w:Int) (j':aI) (y z:Int):Prop where
 nod:∀x,kS b.Mem x->x % 32≠z->kS b'.Mem x/\(x≠y->fQ b'.Mem x=fQ b.Mem x)
 zo:z = -1\/ind b z=0\/∃x∈own (J w),x % 32=z
 yo:y=0\/y∈lC (J w)\/(∃i,W3 i/\(iK k i).g9=w+1/\y∈c i)/\fQ b'.Mem y={fQ b.Mem y with Next:=(fQ b.Mem (fQ b.Mem y).Next).Next}/\(fQ b.Mem y).Next≠0
 hk:∀i,W3 i->(iK k i).g9≠w+1->(iK k' i).Head=(iK k i).Head/\c' i=c i
 zs:z = -1\/∀v,j7 v->v≠w->(J v).Pc=3\/(J v).Pc=4->lG b.aD v->∀x,kS b.Mem x->Sfe b J (dB b.aD v).aJ x->x % 32≠z
 lr:∀r∈cE b'.aM,r∈cE b.aM\/(J w).Pc=15/\(J w).K<(J w).bU.length/\(J w).Sub.A=r.Handle/\(J w).Sub.Pc=1/\(J w).Sub.E=r.aJ
 no:∀x∈lC j',x∈lC (J w)\/dZ b.Mem (x % 32)≠3
 sr:j'.Pc=15->j'.K<j'.bU.length->j'.Sub.Pc=1->j'.Sub.E=b.aD.aJ\/(J w).Pc=15/\(J w).K<(J w).bU.length/\(J w).Sub.A=j'.Sub.A/\(J w).Sub.Pc=1/\(J w).Sub.E=j'.Sub.E
 pin:∀v,j7 v->v≠w->lG b'.aD v->lG b.aD v/\(dB b'.aD v).aJ=(dB b.aD v).aJ
 ep:b.aD.aJ<=b'.aD.aJ
 rows:∀v,j7 v->v≠w->dR b'.aM v=dR b.aM v
section
variable {Ky:List Int} {b b':aA} {k k':List cQ} {c c':Int->List Int} {J:Int->aI} {q:Int->Nat} {w:Int} {j':aI} {y z:Int}
theorem Oth.sfe(o:Oth b b' k k' c c' J w j' y z)(hw:j7 w){e x:Int}(he:e<=b.aD.aJ)(hx:kS b.Mem x)(h:Sfe b J e x):Sfe b' (zA J w j') e x:=by
 refine⟨λr hr er=>?_,λv hv=>?_⟩
 ·rcases o.lr r hr with q|⟨q1,q2,q3,q4,q5⟩
  ·exact h.1 r q er
  ·have:=(h.2 w hw).2 q1 q2 (by rw[q3,er]) q4;omega
 ·by_cases q:v=w
  ·subst q;rw[W4];refine⟨λm=>(o.no x m).elim (h.2 v hv).1 λs=>s hx.1.2.1,λa1 a2 a3 a4=>?_⟩;rcases o.sr a1 a2 a4 with s|⟨s1,s2,s3,s4,s5⟩
   ·omega
   ·have:=(h.2 v hv).2 s1 s2 (by rw[s3,a3]) s4;omega
  ·rw[aKS _ _ q];exact h.2 v hv
variable (h:uV Ky b k c q J) (hl:∀v,j7 v->LkJ k v (J v)) (hw:j7 w)
include h hw
theorem uV.name{v x:Int}(hv:j7 v)(hx:x∈own (J v)):1<=csL (own (J v)) (x % 32)/\cnC c (x % 32)+cnO J (x % 32)=ind b (x % 32)/\csL (own (J v)) (x % 32)<=cnO J (x % 32)/\ind b (x % 32)<=1:=
 ⟨OF hx,h.cnt _,a4P J hv _,aKU ..⟩
theorem uV.link{i x:Int}(hi:W3 i)(hx:x∈c i):1<=csL (c i) (x % 32)/\cnC c (x % 32)+cnO J (x % 32)=ind b (x % 32)/\csL (c i) (x % 32)<=cnC c (x % 32)/\ind b (x % 32)<=1:=
 ⟨OF hx,h.cnt _,bEK c hi _,aKU ..⟩
theorem SG{j:aI}{x:Int}(hx:x∈lC j):x∈own j:=aPB _ hx
theorem Oth.own(o:Oth b b' k k' c c' J w j' y z){v x:Int}(hv:j7 v)(hn:v≠w)(hx:x∈own (J v)):kS b'.Mem x/\fQ b'.Mem x=fQ b.Mem x:=by
 have a:=h.name hw hv hx;have two:=bIG J hv hw hn (x % 32);have hz:x % 32≠z:=λe=>by
  rcases o.zo with q|q|⟨u,hu,eu⟩
  ·omega
  ·grind
  ·have:=h.name hw hw hu;grind
 have hy:x≠y:=λe=>by
  subst e;rcases o.yo with q|q|⟨⟨i,hi,_,hc⟩,_⟩
  ·exact(h.ok v hv x hx).ne q
  ·have:=h.name hw hw (SG h hw q);omega
  ·have:=h.link hw hi hc;omega
 obtain⟨r1,r2⟩:=o.nod x (h.ok v hv x hx) hz;grind
theorem Oth.chz(o:Oth b b' k k' c c' J w j' y z){i:Int}(hi:W3 i):∀x∈c i,kS b'.Mem x/\(x≠y->fQ b'.Mem x=fQ b.Mem x):=λx hx=>by
 have a:=h.link hw hi hx;refine o.nod x ((h.ch i hi).all x hx).1 λe=>?_;rcases o.zo with q|q|⟨u,hu,eu⟩
 ·omega
 ·grind
 ·have:=h.name hw hw hu;grind
theorem Oth.chn(o:Oth b b' k k' c c' J w j' y z){i:Int}(hi:W3 i)(hy:y∉c i):(∀x∈c i,kS b'.Mem x/\fQ b'.Mem x=fQ b.Mem x)/\((iK k' i).Head=(iK k i).Head->c' i=c i->ChT b'.Mem (iK k' i).Head (c' i)/\rL b'.Mem (c' i)=rL b.Mem (c i)):=by
 have all:∀x∈c i,kS b'.Mem x/\fQ b'.Mem x=fQ b.Mem x:=λx hx=>by obtain⟨a1,a2⟩:=o.chz h hw hi x hx;grind
 refine⟨all,λe1 e2=>?_⟩;rw[e1,e2];exact⟨(h.ch i hi).keep all,aKT λx hx=>by grind⟩
theorem Oth.yno(o:Oth b b' k k' c c' J w j' y z){i:Int}(hi:W3 i)(hn:(iK k i).g9≠w+1):y∉c i:=λhy=>by
 have a:=h.link hw hi hy;rcases o.yo with q|q|⟨⟨u,hu,hlk,hc⟩,_⟩
 ·exact((h.ch i hi).all y hy).1.ne q
 ·have:=h.name hw hw (SG h hw q);omega
 grind[aYP,OF]
theorem aSU{m:Mem}{j:aI}{q1:Nat}(t:TW Ky m k c q1 j)(hj:JB j)(hp:j.Pc=12\/j.Pc=13):KB j∈lC j/\∃r,lC j=KB j::r/\j.eO.drop ((eK j.aH j.K).toNat+1)=r:=by
 have hk:=t.k9 (by omega);have hd:=(t.fl hp).1;have hn:=(t.n7 (by omega)).1;have hk0:=hj.k.1;have hi:j.K.toNat<j.aH.length:=by omega
 have er:uL j=j.aH[j.K.toNat]:=by grind[uL]
 have hlt:eK j.aH j.K+1<=eK j.aH j.aH.length:=by unfold eK;rw[NM,List.take_length];grind[aK3,zF]
 have p0:0<=eK j.aH j.K:=by grind[eK]
 have hlen:(eK j.aH j.K).toNat<j.eO.length:=by omega
 have e1:lC j=j.eO.drop (eK j.aH j.K).toNat:=by unfold lC;grind
 grind[KB,zF]
include hl
theorem uV.aV5{q':Int->Nat}(hq:∀v,v≠w->q' v=q v)(hc:NJ b.aD)(hJ:∀v,j7 v->(J v).cR=true->JB (J v))(o:Oth b b' k k' c c' J w j' y z)(hz:b'.lX=b.lX)(ch':∀i,W3 i->ChT b'.Mem (iK k' i).Head (c' i))(key':∀i,W3 i->(rL b'.Mem (c' i)).Nodup/\∀x∈rL b'.Mem (c' i),pJ x=i/\x∈Ky)
  (cnt':∀s,cnC c' s+cnO (zA J w j') s=ind b' s) (ok':∀x∈own j',kS b'.Mem x) (tw':j'.cR=true->TW Ky b'.Mem k' c' (q' w) j') (rd':RdJ Ky b' (zA J w j') w (q' w) j') (sb':SbJ b' w j'):uV Ky b' k' c' q' (zA J w j'):=by
 refine⟨hz.trans h.hz,ch',key',cnt',λv hv x hx=>?_,λv hv hb=>?_,λv hv=>?_,λv hv=>?_⟩
 ·by_cases qv:v=w
  ·grind[W4]
  ·rw[aKS _ _ qv] at hx;exact(o.own h hw hv qv hx).1
 ·by_cases qv:v=w
  ·grind[W4]
  ·rw[aKS _ _ qv] at hb ⊢;rw[hq v qv];have t:=h.tw v hv hb;have hj:=hJ v hv hb;have held:∀i,i∈(J v).bD->W3 i/\(iK k' i).Head=(iK k i).Head/\c' i=c i/\∀x∈c i,fQ b'.Mem x=fQ b.Mem x:=λi hi=>by
    have hb2:=hj.held.1 i hi;have hlk:=((hl v hv).iff i hb2).1 hi;have hn:(iK k i).g9≠w+1:=by omega
    obtain⟨a1,a2⟩:=o.hk i hb2 hn;exact⟨hb2,a1,a2,λx hx=>((o.chn h hw hb2 (o.yno h hw hb2 hn)).1 x hx).2⟩
   have hbi:10<=(J v).Pc/\(J v).Pc<=13->bi (J v)∈(J v).bD:=λhp=>by
    have hk:=t.k9 hp;have hk0:=hj.k.1;have hi:(J v).K.toNat<(J v).aH.length:=by omega
    have er:uL (J v)=(J v).aH[(J v).K.toNat]:=by grind[uL]
    exact t.l8 (by omega) _ (by grind)
   refine{t with st:=λhp=>?_,cu:=λhp=>?_,fl:=λhp=>?_,ln:=λhp=>?_}
   ·obtain⟨_,_,e2,e3⟩:=held _ (hbi (by omega));obtain⟨A,B,x1,⟨x2,x3⟩,x4⟩:=t.st hp;grind
   ·obtain⟨_,_,e2,e3⟩:=held _ (hbi (by omega));obtain⟨A,B,x1,_⟩:=t.st (.inr hp);rw[e3 (J v).H (by grind)];exact t.cu hp
   ·obtain⟨_,_,e2,e3⟩:=held _ (hbi (by omega));obtain⟨x1,x2⟩:=t.fl hp;grind
   ·obtain⟨_,e1,e2,e3⟩:=held _ (hbi (by omega));rw[(o.own h hw hv qv (SG h hw (aSU h hw t hj (.inr hp)).1)).2,e1];exact t.ln hp
 ·by_cases qv:v=w
  ·grind[W4]
  ·rw[aKS _ _ qv,hq v qv];intro hp hpin;obtain⟨p1,p2⟩:=o.pin v hv qv hpin;obtain⟨r,⟨⟨a1,a2,a3,a4⟩,a6⟩,a5⟩:=h.rd v hv hp p1;have he:(dB b.aD v).aJ<=b.aD.aJ:=(aR4 hc hv).1.2;have hx:∀x∈(J v).H::r,kS b'.Mem x/\(x≠y->fQ b'.Mem x=fQ b.Mem x):=λx hx=>by
    refine o.nod x (a1.ok x hx).1 λez=>?_;rcases o.zs with z1|z1
    ·omega
    ·exact z1 v hv qv hp p1 x (a1.ok x hx).1 (a4 x hx) ez
   have hsf:∀x∈(J v).H::r,Sfe b' (zA J w j') (dB b'.aD v).aJ x:=λx hx=>by rw[p2];exact o.sfe hw he (a1.ok x hx).1 (a4 x hx)
   have hkv:∀x∈(J v).H::r,(fQ b'.Mem x).Key=(fQ b.Mem x).Key/\(fQ b'.Mem x).fT=(fQ b.Mem x).fT:=λx hm=>by
    by_cases e:x=y
    ·rcases o.yo with q0|q0|⟨_,q1,_⟩
     ·exact absurd (e.trans q0) (a1.ok x hm).1.ne
     ·exact absurd (e ▸ q0) ((a4 x hm).2 w hw).1
     grind
    grind
   have hkk:rL b'.Mem ((J v).H::r)=rL b.Mem ((J v).H::r):=aKT λx hm=>(hkv x hm).1;have hrp:Rp b'.Mem ((J v).H::r):=by
    by_cases hy:y∈(J v).H::r
    ·rcases o.yo with q0|q0|⟨_,q1,q2⟩
     ·exact absurd q0 (a1.ok y hy).1.ne
     ·exact absurd q0 ((a4 y hy).2 w hw).1
     ·exact a1.cut q1 q2 hx
    ·exact a1.keep λx hm=>⟨(hx x hm).1,(hx x hm).2 λe=>hy (e ▸ hm)⟩
   refine⟨r,⟨⟨hrp,by grind,by grind,hsf⟩,a6⟩,λe=>?_⟩;grind
 ·by_cases qv:v=w
  ·grind[W4]
  ·rw[aKS _ _ qv];have s:=h.sb v hv;have he:=o.ep;exact⟨s.al,λp1 p2=>by obtain⟨x0,x1,x2,x3,x4⟩:=s.rt p1 p2;grind,λp=>by rw[o.rows v hv qv];obtain⟨x1,x2,x3⟩:=s.col p;exact⟨x1,x2,x3.imp id λa=>⟨aTD a.1 he,a.2⟩⟩⟩
theorem uV.make(hc:NJ b.aD)(hJ:∀v,j7 v->(J v).cR=true->JB (J v))(o:Oth b b' k k' c c' J w j' y z)(hz:b'.lX=b.lX)(ch':∀i,W3 i->ChT b'.Mem (iK k' i).Head (c' i))(key':∀i,W3 i->(rL b'.Mem (c' i)).Nodup/\∀x∈rL b'.Mem (c' i),pJ x=i/\x∈Ky)
  (cnt':∀s,cnC c' s+cnO (zA J w j') s=ind b' s) (ok':∀x∈own j',kS b'.Mem x) (tw':j'.cR=true->TW Ky b'.Mem k' c' (q w) j') (rd':RdJ Ky b' (zA J w j') w (q w) j') (sb':SbJ b' w j'):uV Ky b' k' c' q (zA J w j'):=
 h.aV5 hl hw (λ_ _=>rfl) hc hJ o hz ch' key' cnt' ok' tw' rd' sb'
end
theorem bEM{b:aA}(hc:NJ b.aD){w:Int}(hw:0<=w/\w<=2)(s:Sub):∃cl:aD,(B9 b w s).1=⟨b.Mem,cl,b.aM,b.lX⟩/\cl.aJ=b.aD.aJ/\∀v,0<=v/\v<=2->v≠w->dB cl v=dB b.aD v:=by
 unfold B9 VE;split
 ·grind
 split
 ·split
  ·refine⟨⟨b.aD.aJ,b.aD.cG.set w.toNat ⟨true,s.E,false,0⟩⟩,rfl,rfl,λv hv hn=>by rw[CA hc hw hv,aP hn]⟩
  ·exact⟨_,rfl,rfl,λ_ _ _=>rfl⟩
 split
 ·split
  ·exact⟨_,rfl,rfl,λ_ _ _=>rfl⟩
  ·exact⟨_,rfl,rfl,λ_ _ _=>rfl⟩
 grind
theorem a1J{c:aD}(hc:NJ c){w:Int}(hw:0<=w/\w<=2):(OC c w).1.aJ=c.aJ/\∀v,0<=v/\v<=2->v≠w->dB (OC c w).1 v=dB c v:=by
 unfold OC;split
 ·exact⟨rfl,λv hv hn=>by rw[CA hc hw hv,aP hn]⟩
 ·exact⟨rfl,λ_ _ _=>rfl⟩
theorem aV6{c c':aD}{v:Int}(h:dB c' v=dB c v)(p:lG c' v):lG c v/\(dB c' v).aJ=(dB c v).aJ:=by grind[lG]
theorem bEN{b:aA}(hc:NJ b.aD)(s:Sub):∃cl:aD,(fM b s).1=⟨b.Mem,cl,b.aM,b.lX⟩/\b.aD.aJ<=cl.aJ/\∀v,0<=v/\v<=2->lG cl v->lG b.aD v/\(dB cl v).aJ=(dB b.aD v).aJ:=by
 unfold fM;split
 ·grind
 split
 ·split
  ·grind[aSA,lG]
  grind
 split
 ·refine⟨_,rfl,?_,?_⟩
  ·unfold aLK;grind
  ·intro v hv p;unfold aLK at p ⊢;split
   ·rename_i q;rw[aL q] at p;exact⟨p,rfl⟩
   grind
 grind
section
variable {Ky:List Int} {b:aA} {k:List cQ} {c:Int->List Int} {q:Int->Nat} {J:Int->aI} {w:Int} (h:uV Ky b k c q J) (hl:∀v,j7 v->LkJ k v (J v)) (hw:j7 w) (hc:NJ b.aD) (hJ:∀v,j7 v->(J v).cR=true->JB (J v))
include h hl hw hc hJ
theorem uV.bEO{q':Int->Nat}(hq:∀v,v≠w->q' v=q v){cl:aD}{k':List cQ}{j':aI}(hk:∀i,W3 i->(iK k' i).Head=(iK k i).Head)(eo:own j'=own (J w))(en:∀x∈lC j',x∈lC (J w))
  (sr:j'.Pc=15->j'.K<j'.bU.length->j'.Sub.Pc=1->j'.Sub.E=b.aD.aJ\/(J w).Pc=15/\(J w).K<(J w).bU.length/\(J w).Sub.A=j'.Sub.A/\(J w).Sub.Pc=1/\(J w).Sub.E=j'.Sub.E)
  (pin:∀v,j7 v->v≠w->lG cl v->lG b.aD v/\(dB cl v).aJ=(dB b.aD v).aJ) (ep:b.aD.aJ<=cl.aJ)
  (tw':j'.cR=true->TW Ky b.Mem k' c (q' w) j') (rd':RdJ Ky {b with aD:=cl} (zA J w j') w (q' w) j') (sb':SbJ {b with aD:=cl} w j'):uV Ky {b with aD:=cl} k' c q' (zA J w j'):=by
 refine h.aV5 hl hw hq hc hJ (y:=0) (z:=-1) ⟨λx hx _=>⟨hx,λ_=>rfl⟩,.inl rfl,.inl rfl,λi hi _=>⟨hk i hi,rfl⟩,.inl rfl,λr hr=>.inl hr,λx hx=>.inl (en x hx),sr,pin,ep,λ_ _ _=>rfl⟩ rfl (λi hi=>by rw[hk i hi];exact h.ch i hi) h.key (λs=>?_) (λx hx=>h.ok w hw x (eo ▸ hx)) tw' rd' sb';have:=aC5 (J:=J) hw j' s;rw[eo] at this;have h2:=h.cnt s;grind[ind]
theorem uV.quiet{cl:aD}{k':List cQ}{j':aI}(hk:∀i,W3 i->(iK k' i).Head=(iK k i).Head)(eo:own j'=own (J w))(en:∀x∈lC j',x∈lC (J w))
  (sr:j'.Pc=15->j'.K<j'.bU.length->j'.Sub.Pc=1->j'.Sub.E=b.aD.aJ\/(J w).Pc=15/\(J w).K<(J w).bU.length/\(J w).Sub.A=j'.Sub.A/\(J w).Sub.Pc=1/\(J w).Sub.E=j'.Sub.E)
  (pin:∀v,j7 v->v≠w->lG cl v->lG b.aD v/\(dB cl v).aJ=(dB b.aD v).aJ) (ep:b.aD.aJ<=cl.aJ)
  (tw':j'.cR=true->TW Ky b.Mem k' c (q w) j') (rd':RdJ Ky {b with aD:=cl} (zA J w j') w (q w) j') (sb':SbJ {b with aD:=cl} w j'):uV Ky {b with aD:=cl} k' c q (zA J w j'):=
 h.bEO hl hw hc hJ (λ_ _=>rfl) hk eo en sr pin ep tw' rd' sb'
theorem uV.aYQ{q':Int->Nat}(hq:∀v,v≠w->q' v=q v){k':List cQ}{j':aI}(hk:∀i,W3 i->(iK k' i).Head=(iK k i).Head)(eo:own j'=own (J w))(en:∀x∈lC j',x∈lC (J w))(h15:j'.Pc≠15\/j'.Sub.Pc≠1)(tw':j'.cR=true->TW Ky b.Mem k' c (q' w) j')(rd':RdJ Ky b J w (q' w) j')(sb':SbJ b w j'):uV Ky b k' c q' (zA J w j'):=
 h.bEO hl hw hc hJ hq (cl:=b.aD) hk eo en (λp _ q=>h15.elim (λa=>absurd p a) λa=>absurd q a) (λ_ _ _ p=>⟨p,rfl⟩) (O4 _) tw' (λp q=>by
  obtain⟨r,⟨a,la⟩,e⟩:=rd' p q;exact⟨r,⟨⟨a.rp,a.nd,a.ky,λx hx=>⟨(a.sf x hx).1,λv hv=>by
   by_cases z:v=w
   ·subst z;rw[W4];exact⟨λm=>((a.sf x hx).2 v hv).1 (en x m),λp1 _ _ p2=>(h15.elim (λa=>absurd p1 a) λa=>absurd p2 a)⟩
   ·rw[aKS _ _ z];exact(a.sf x hx).2 v hv⟩⟩,la⟩,e⟩) sb'
theorem uV.still{k':List cQ}{j':aI}(hk:∀i,W3 i->(iK k' i).Head=(iK k i).Head)(eo:own j'=own (J w))(en:∀x∈lC j',x∈lC (J w))(h15:j'.Pc≠15\/j'.Sub.Pc≠1)(tw':j'.cR=true->TW Ky b.Mem k' c (q w) j')(rd':RdJ Ky b J w (q w) j')(sb':SbJ b w j'):uV Ky b k' c q (zA J w j'):=
 h.aYQ hl hw hc hJ (λ_ _=>rfl) hk eo en h15 tw' rd' sb'
end
theorem RdJ.no{Ky:List Int}{b:aA}{J:Int->aI}{v:Int}{q:Nat}{j:aI}(h:j.Pc≠3/\j.Pc≠4):RdJ Ky b J v q j:=λp=>absurd p (by omega)
theorem SbJ.no{b:aA}{v:Int}{j:aI}(h:j.Pc≠6/\j.Pc≠15/\j.Pc≠21):SbJ b v j:=⟨λp=>absurd p h.1,λp=>absurd p h.2.1,λp=>absurd p h.2.2⟩
theorem J2{j:aI}(h:j.Pc<6\/18<=j.Pc):own j=[]/\lC j=[]:=by unfold own lC aGT;grind
theorem wD{j:aI}(h:(6<=j.Pc/\j.Pc<=8)\/j.Pc=16\/j.Pc=17):own j=j.eO/\lC j=j.eO:=by unfold own lC aGT;grind
theorem aIY(l:List aX)(x:aX):(O2 l x).length<=l.length+1:=by
 have e:(O2 l x).length=(l.filter λy=>!(y.Key == x.Key)).length+1:=by unfold O2;have:=cJ List.length (List.takeWhile_append_dropWhile (p:=λy=>!decide (x.Key<y.Key)) (l:=l.filter λy=>!(y.Key == x.Key)));grind
 grind
theorem a1K{l:List aX}{x y:aX}(h:y∈O2 l x):y=x\/y∈l:=((aSE _ _ _).1 (show y∈aYF _ x from h)).imp id λh=>(List.mem_filter.1 h).1
theorem a7L{j:aI}(hj:JB j)(hc:EF j):gC j∈j.Batch.bW:=by have:=hj.at_;grind[EF,gC]
theorem a4Q{Ky:List Int}{k:List cQ}{c:Int->List Int}{m:Mem}{q1:Nat}{j:aI}(t:TW Ky m k c q1 j)(hj:JB j)(hp:1<=j.Pc/\j.Pc<=5)(ha:EF j)(v:Int)(is:Bool):TW Ky m k c q1 (OD j (gC j) v is)/\(OD j (gC j) v is).Pc=1:=by
 have hm:=a7L hj ha;have h6:=hj.bat.2.1;have hat:=hj.at_;unfold EF at ha;obtain⟨t1,t2,t3,t4,t5,t6,t7,t8,t9,t10,t11,t12,t13,t14,t15,t16,t17,t18,t19⟩:=t;have w5:=t5;unfold OD;split
 ·generalize (if is then v else 0)=u;unfold aSB C7;have hlen:=aIY j.aH ⟨(gC j).Key,false,aAP u (gC j).fT⟩;have hmem:∀y∈O2 j.aH ⟨(gC j).Key,false,aAP u (gC j).fT⟩,y.Key∈Ky:=λy hy=>by grind[a1K]
  rw[aP (show ¬6<(O2 j.aH ⟨(gC j).Key,false,aAP u (gC j).fT⟩).length by omega),aL rfl];unfold aIV;refine⟨?_,rfl⟩;constructor<;>grind
 ·unfold aIV;refine⟨?_,rfl⟩;constructor<;>grind
section
variable {Ky:List Int} {b:aA} {k:List cQ} {c:Int->List Int} {q:Int->Nat} {J:Int->aI} {w:Int} (h:uV Ky b k c q J) (hl:∀v,j7 v->LkJ k v (J v)) (hw:j7 w) (hc:NJ b.aD) (hJ:∀v,j7 v->(J v).cR=true->JB (J v)) (hB:(J w).cR=true)
include h hl hw hc hJ hB
theorem bMO(hp:(J w).Pc=8):uV Ky b k c q (zA J w (aEK k w (J w))):=by
 obtain⟨t1,t2,t3,t4,t5,t6,t7,t8,t9,t10,t11,t12,t13,t14,t15,t16,t17,t18,t19⟩:=h.tw w hw hB;have o:=wD (j:=J w) (by omega);have p0:eK (J w).aH 0=0:=by simp[eK]
 unfold aEK;split
 ·refine h.still hl hw hc hJ (λ_ _=>rfl) ?_ ?_ (.inl (by simp)) (λ_=>?_) (.no (by simp)) (.no (by simp))
  ·simp_all[own,lC,aGT]
  ·grind[lC]
  ·constructor<;>grind
 ·split
  ·refine h.still hl hw hc hJ (λ_ _=>rfl) ?_ ?_ (.inl (by simp[J6])) (λ_=>?_) (.no (by simp[J6])) (.no (by simp[J6]))
   ·simp_all[own,lC,aGT,J6]
   ·grind[lC,J6]
   ·constructor<;>grind[J6]
  ·refine h.still hl hw hc hJ (λ_ _=>rfl) ?_ ?_ (.inl (by simp[hp])) (λ_=>?_) (.no (by simp[hp])) (.no (by simp[hp]))
   ·simp_all[own,lC,aGT]
   ·grind[lC]
   ·constructor<;>grind
theorem bII(hp:(J w).Pc=1):uV Ky b k c q (zA J w (aCZ (J w))):=by
 have t:=h.tw w hw hB;have hj:=hJ w hw hB;have o:=J2 (j:=J w) (by omega);have fin:∀{j':aI},TW Ky b.Mem k c (q w) j'->j'.Pc=1\/j'.Pc=2->uV Ky b k c q (zA J w j'):=λ{j'} t' p'=>by have o':=J2 (j:=j') (by omega);exact h.still hl hw hc hJ (λ_ _=>rfl) (by grind) (by grind) (.inl (by omega)) (λ_=>t') (.no (by omega)) (.no (by omega))
 unfold aCZ;split
 ·rename_i ha;split
  ·have hm:=a7L hj ha;have h6:=hj.bat.2.1;have hat:=hj.at_;unfold EF at ha;obtain⟨t1,t2,t3,t4,t5,t6,t7,t8,t9,t10,t11,t12,t13,t14,t15,t16,t17,t18,t19⟩:=t;have w5:=t5;unfold C7;have hlen:=aIY (J w).aH ⟨(gC (J w)).Key,(gC (J w)).Kind == 3,(gC (J w)).fT⟩;have hmem:∀y∈O2 (J w).aH ⟨(gC (J w)).Key,(gC (J w)).Kind == 3,(gC (J w)).fT⟩,y.Key∈Ky:=λy hy=>by grind[a1K]
   rw[aP (show ¬6<(O2 (J w).aH ⟨(gC (J w)).Key,(gC (J w)).Kind == 3,(gC (J w)).fT⟩).length by omega),aL rfl];refine fin ?_ (.inl hp);constructor<;>grind
  ·split
   ·grind[a4Q]
   ·refine fin ?_ (.inr rfl);obtain⟨t1,t2,t3,t4,t5,t6,t7,t8,t9,t10,t11,t12,t13,t14,t15,t16,t17,t18,t19⟩:=t;constructor<;>grind[EF]
 ·rename_i ha;have hat:=hj.at_;have e:own {J w with Pc:=6,K:=0,Sub:=C5 1 16}=[]:=by rw[(wD (by simp)).1];exact t.nO (by omega)
  refine h.still hl hw hc hJ (λ_ _=>rfl) (by rw[o.1,e]) (by grind[wD]) (.inl (by simp)) (λ_=>?_) (.no (by simp)) ⟨λ_=>by simp[C5],by simp,by simp⟩;obtain⟨t1,t2,t3,t4,t5,t6,t7,t8,t9,t10,t11,t12,t13,t14,t15,t16,t17,t18,t19⟩:=t;have p0:0<=eK (J w).aH (J w).aH.length:=by grind[eK]
  unfold EF at ha;constructor<;>grind
end
theorem a4R{m:Mem}{x:Int}(h:kS m x):aCX m.Heap x=fQ m x:=aL ⟨h.1.1,dU h.1.2.1,h.2⟩
def qF(L q:Nat)(j:aI):Nat:=if j.Pc=2\/j.Pc=9 then L-1 else if j.Pc=4\/j.Pc=10 then q-1 else q
theorem bIJ{l:List aX}{x:aX}(h:x∈l)(hk:0<=x.Key/\x.Key<=99):pJ x.Key∈sC l:=by
 have:pJ x.Key=0/\(l.any λx=>x.Key % 2 == 0)=true\/pJ x.Key=1/\(l.any λx=>x.Key % 2 == 1)=true:=by unfold pJ;grind
 grind[sC]
section
variable {Ky:List Int} {b:aA} {k:List cQ} {c:Int->List Int} {q:Int->Nat} {J:Int->aI} {w:Int} (h:uV Ky b k c q J)
include h
theorem uV.free{i:Int}(hi:W3 i){x:Int}(hx:x∈c i)(e:Int):Sfe b J e x:=by
 have hn:=((h.ch i hi).all x hx).1.1.1;have a:=OF hx;have a2:=h.cnt (x % 32);have a3:=bEK c hi (x % 32);refine⟨λr hr er=>?_,λv hv=>⟨λm=>?_,λp1 p2 p3 p4=>?_⟩⟩
 ·have:ind b (x % 32)=0:=aP λq=>q.2 ⟨r,hr,er ▸ hn,by rw[er]⟩;omega
 ·have:=OF (SG h hv m);grind[a4P,aKU]
 ·obtain⟨hk,_,_,hs,_⟩:=(h.sb v hv).rt p1 p2;have hm:x∈own (J v):=aPC _ (by
   simp_all[aGT,zF])
  have:=OF hm;grind[a4P,aKU]
variable (hl:∀v,j7 v->LkJ k v (J v)) (hw:j7 w) (hc:NJ b.aD) (hJ:∀v,j7 v->(J v).cR=true->JB (J v)) (hB:(J w).cR=true)
include hl hw hc hJ hB
theorem bEP{n:Nat}{j':aI}(hp:2<=(J w).Pc/\(J w).Pc<=5)(e:j'=J6 j' j'.Code)(x:j'.Code=6\/j'.Code=7)(sm:j'.eO=(J w).eO/\j'.bU=(J w).bU/\j'.aH=(J w).aH/\j'.Batch=(J w).Batch/\j'.At=(J w).At):uV Ky b k c (upQ q w n) (zA J w j'):=by
 have t:=h.tw w hw hB;have hp':j'.Pc=16:=by rw[e];rfl
 have o:=J2 (j:=J w) (by omega);obtain⟨t1,t2,t3,t4,t5,t6,t7,t8,t9,t10,t11,t12,t13,t14,t15,t16,t17,t18,t19⟩:=t;have o':=wD (j:=j') (by omega);refine h.aYQ hl hw hc hJ (q':=upQ q w n) (λv hv=>aP hv) (λ_ _=>rfl) (by grind) (by grind) (.inl (by omega)) (λ_=>?_) (.no (by omega)) (.no (by omega));obtain⟨s1,s2,s3,s4,s5⟩:=sm;constructor<;>grind
theorem bIK(hp:2<=(J w).Pc/\(J w).Pc<=5):uV Ky b k c (upQ q w (qF Ky.length (q w) (J w))) (zA J w (O3 b k w (J w))):=by
 have t:=h.tw w hw hB;have hj:=hJ w hw hB;have o:=J2 (j:=J w) (by omega);have ha:=t.hc hp;generalize hn:qF Ky.length (q w) (J w)=n;have ab:∀(j':aI),j'.eO=(J w).eO/\j'.bU=(J w).bU/\j'.aH=(J w).aH/\j'.Batch=(J w).Batch/\j'.At=(J w).At->∀x,x=6\/x=7->uV Ky b k c (upQ q w n) (zA J w (J6 j' x)):=λj' s x hx=>bEP h hl hw hc hJ hB (j':=J6 j' x) hp rfl hx s;have go:∀{j':aI},TW Ky b.Mem k c n j'->j'.Pc<=5->RdJ Ky b J w n j'->uV Ky b k c (upQ q w n) (zA J w j'):=λ{j'} t' p' r'=>by have o':=J2 (j:=j') (by omega);exact h.aYQ hl hw hc hJ (q':=upQ q w n) (λv hv=>aP hv) (λ_ _=>rfl) (by grind) (by grind) (.inl (by omega)) (λ_=>by simp_all[upQ]) (by simp_all[upQ]) (.no (by omega))
 have tw:∀{j':aI},2<=j'.Pc/\j'.Pc<=5->j'.eO=(J w).eO/\j'.bU=(J w).bU/\j'.aH=(J w).aH/\j'.Batch=(J w).Batch/\j'.At=(J w).At/\j'.Code=(J w).Code->TW Ky b.Mem k c n j':=λ{j'} p' ⟨s1,s2,s3,s4,s5,s6⟩=>by obtain⟨t1,t2,t3,t4,t5,t6,t7,t8,t9,t10,t11,t12,t13,t14,t15,t16,t17,t18,t19⟩:=t;unfold EF at ha;constructor<;>grind[EF]
 have hbk:=hj.bkt;unfold O3;by_cases p2:(J w).Pc=2
 ·rw[aL p2];split
  ·grind
  ·have hch:=h.ch _ hbk;by_cases q:(iK k (J w).cQ).Head=0
   ·rw[aL q];exact go (tw (by simp) ⟨rfl,rfl,rfl,rfl,rfl,rfl⟩) (by simp) (.no (by simp))
   ·rw[aP q];refine go (tw (by simp) ⟨rfl,rfl,rfl,rfl,rfl,rfl⟩) (by simp) λ_ hpin=>?_;obtain⟨k1,k2⟩:=h.key _ hbk;have fr:=λx (hx:x∈c (J w).cQ)=>h.free hbk hx (dB b.aD w).aJ
    match hl2:c (J w).cQ,hch with
    |[],hch=>exact absurd hch q
    |x::r,hch=>
     rw[hl2] at k1 k2 fr;have e:(iK k (J w).cQ).Head=x:=hch.1;simp only[e];refine⟨r,⟨⟨hch.rp,k1,λy hy=>(k2 y hy).2,fr⟩,?_⟩,λz=>absurd z (by simp)⟩;have:=GG k1 λy hy=>(k2 y hy).2;unfold rL at this;rw[List.length_map,OJ] at this;rw[<-hn];unfold qF;grind
 rw[aP p2];by_cases p3:(J w).Pc=3
 ·rw[aL p3];refine go (tw (by simp) ⟨rfl,rfl,rfl,rfl,rfl,rfl⟩) (by simp) λ_ hpin=>?_;obtain⟨r,⟨a,la⟩,_⟩:=h.rd w hw (.inl p3) hpin;refine⟨r,⟨a,by simp_all[qF]⟩,λ_=>?_⟩;simp only;rw[a4R a.rp.1];exact⟨⟨rfl,rfl⟩,a.rp.2.2.1⟩
 rw[aP p3];by_cases p4:(J w).Pc=4
 ·rw[aL p4];split
  ·grind
  ·rename_i hpn;have hpin:lG b.aD w:=Classical.byContradiction hpn;obtain⟨r,⟨a,la⟩,a5⟩:=h.rd w hw (.inr p4) hpin;obtain⟨_,a6⟩:=a5 p4;by_cases q:(J w).Node.Key=(gC (J w)).Key\/W0 (J w).Node=0
   ·rw[aL q];exact go (tw (by simp) ⟨rfl,rfl,rfl,rfl,rfl,rfl⟩) (by simp) (.no (by simp))
   ·rw[aP q];refine go (tw (by simp) ⟨rfl,rfl,rfl,rfl,rfl,rfl⟩) (by simp) λ_ _=>?_;have hs:W0 (J w).Node=(J w).Node.Next:=by simp_all[W0]
    rw[hs] at q ⊢;have hm:=a6.resolve_left λz=>q (.inr z);obtain⟨A,r',e1,e2⟩:=a.rp.2.2.2.from hm;have hsub:((J w).Node.Next::r').Sublist ((J w).H::r):=by grind
    refine⟨r',⟨⟨e2,a.nd.sublist (hsub.map _),λx hx=>a.ky x ((hsub.map _).subset hx),λx hx=>a.sf x (hsub.subset hx)⟩,?_⟩,λz=>absurd z (by simp)⟩;rw[e1,DA,OJ] at la;rw[<-hn];unfold qF;grind
 rw[aP p4];split
 ·grind
 split
 ·grind
 have tr:TW Ky b.Mem k c n {J w with Reads:=(KM (J w).Reads (J w).cQ (J w).jS).1}:=tw hp ⟨rfl,rfl,rfl,rfl,rfl,rfl⟩;obtain⟨a1,a2⟩:=a4Q tr (hj.spt _ _ hbk) (by grind) ha (J w).Node.fT (J w).Found;exact go a1 (aTD (Int.le_of_eq a2) (by omega)) (.no ⟨λz=>absurd (a2.symm.trans z) (by omega),λz=>absurd (a2.symm.trans z) (by omega)⟩)
theorem bIL(h2:k.length=2)(hp:(J w).Pc=7):uV Ky b (VG k w (J w)).1 c q (zA J w (VG k w (J w)).2.1):=by
 have t:=h.tw w hw hB;have hj:=hJ w hw hB;have o:=wD (j:=J w) (by omega);have hk:=hj.k;have hwk:=hj.wr.2.1;have all:∀x∈(J w).aH,pJ x.Key∈sC (J w).aH:=λx hx=>bIJ hx (hwk x hx).1;obtain⟨t1,t2,t3,t4,t5,t6,t7,t8,t9,t10,t11,t12,t13,t14,t15,t16,t17,t18,t19⟩:=t;have fin:∀{k':List cQ} {j':aI},(∀i,W3 i->(iK k' i).Head=(iK k i).Head)->TW Ky b.Mem k' c (q w) j'->j'.eO=(J w).eO->j'.Pc=7\/j'.Pc=8\/j'.Pc=16->uV Ky b k' c q (zA J w j'):=λ{k' j'} e t' en p'=>by have o':=wD (j:=j') (by omega);exact h.still hl hw hc hJ e (by grind) (by grind) (.inl (by omega)) (λ_=>t') (.no (by omega)) (.no (by omega))
 unfold VG;by_cases c1:(J w).K<(sC (J w).aH).length
 ·rw[aL c1];have hi:(J w).K.toNat<(sC (J w).aH).length:=by omega
  have er:gZ (J w)=(sC (J w).aH)[(J w).K.toNat]:=by grind[gZ]
  have hbk:0<=gZ (J w)/\gZ (J w)<=1:=by have:=aCP (cZ hi);omega
  split
  ·exact fin (λ_ _=>rfl) (by unfold J6;constructor<;>grind) rfl (.inr (.inr rfl))
  split
  ·exact fin (λ_ _=>rfl) (by unfold J6;constructor<;>grind) rfl (.inr (.inr rfl))
  have hd:∀i,W3 i->(iK (k.set (gZ (J w)).toNat {iK k (gZ (J w)) with g9:=w+1}) i).Head=(iK k i).Head:=λi hi=>by grind[UC]
  have hm:∀x∈(sC (J w).aH).take ((J w).K+1).toNat,x∈(VF (J w)).bD:=λx hx=>by rw[show((J w).K+1).toNat=(J w).K.toNat+1 by omega,QN hi,eS,KD,<-er] at hx;have a:=t8 hp;unfold VF;grind
  split
  ·rename_i c3;refine fin hd ?_ rfl (.inr (.inl rfl));rw[aK4 (by omega)] at hm;have hh:∀x∈(J w).aH,pJ x.Key∈(VF (J w)).bD:=λx hx=>hm _ (all x hx);unfold VF at hh ⊢;constructor<;>grind
  ·refine fin hd ?_ rfl (.inl hp);unfold VF at hm ⊢;constructor<;>grind
 ·rw[aP c1];refine fin (λ_ _=>rfl) ?_ rfl (.inr (.inl rfl));have a:=t8 hp;rw[aK4 (by omega)] at a;constructor<;>grind
theorem a9L(h2:k.length=2)(hp:(J w).Pc=14\/(J w).Pc=16):uV Ky b (VH k (J w)).1 c q (zA J w (VH k (J w)).2):=by
 have t:=h.tw w hw hB;have hj:=hJ w hw hB;have hk:=hj.k;have tw:∀{k':List cQ} {p:Int} {j':aI},(p=(J w).Pc\/p=17/\(J w).Pc=16\/p=15/\(J w).Pc=14)->j'.Pc=p->j'.eO=(J w).eO/\j'.bU=(J w).bU/\j'.aH=(J w).aH/\j'.Batch=(J w).Batch/\j'.At=(J w).At/\j'.Code=(J w).Code->TW Ky b.Mem k' c (q w) j':=λ{k' p j'} hp' ep ⟨s1,s2,s3,s4,s5,s6⟩=>by
  have q:j'.Pc=14\/j'.Pc=15\/j'.Pc=16\/j'.Pc=17:=by omega
  have cd':j'.Code=0/\j'.Pc≠16/\j'.Pc≠17\/(j'.Code=3\/j'.Code=6\/j'.Code=7)/\16<=j'.Pc/\j'.Pc<=19:=by have:=t.cd;omega
  refine⟨by omega,λx=>by omega,λx=>by rw[s2];exact t.oO (by omega),λx=>by omega,by rw[s3,s5];exact t.wl,λx=>by omega,λx=>by omega,λx=>by omega,λx=>by omega,λx=>by omega,λx=>by omega,λx=>by omega,λx=>by omega,λx=>by omega,cd',λx _=>by rw[s5,s4];exact t.at_ (by omega) (by omega),λx=>?_,λx=>by omega,by rw[s3,s4];exact t.ky⟩;have:=t.cl (by rw[<-s4];exact x);omega
 unfold VH;by_cases c1:0<(J w).bD.length
 ·rw[aL c1];have er:EG (J w)=(J w).bD[0]:=by unfold EG;simp[OI,mP c1]
  have hbk:=hj.held.1 _ (show EG (J w)∈(J w).bD by rw[er];exact cZ c1);refine h.still hl hw hc hJ (λi hi=>?_) rfl (λ_ x=>x) (.inl ?_) (λ_=>tw (.inl rfl) rfl ⟨rfl,rfl,rfl,rfl,rfl,rfl⟩) (.no (by simp only;omega)) (.no (by simp only;omega))
  ·rw[UC h2 hbk hi];split
   ·rename_i e;subst e;split<;>rfl
   ·rfl
  ·simp only;omega
 ·rw[aP c1];split
  ·rename_i e;exact h.still hl hw hc hJ (λ_ _=>rfl) (by grind[wD]) (by simp_all[wD]) (.inl (by simp)) (λ_=>tw (.inr (.inl ⟨rfl,e⟩)) rfl ⟨rfl,rfl,rfl,rfl,rfl,rfl⟩) (.no (by simp)) (.no (by simp))
  ·rename_i e;have p14:(J w).Pc=14:=by omega
   have o14:own (J w)=(J w).bU/\lC (J w)=[]:=by grind[own,lC,aGT]
   have fin:∀s:Sub,TW Ky b.Mem k c (q w) {J w with Pc:=15,K:=0,Sub:=s}:=λs=>tw (.inr (.inr ⟨rfl,p14⟩)) rfl ⟨rfl,rfl,rfl,rfl,rfl,rfl⟩;unfold YU;by_cases q:(0:Int)<(J w).bU.length
   ·rw[aL q];exact h.still hl hw hc hJ (λ_ _=>rfl) (by grind[own,lC,aGT]) (by simp[lC]) (.inr (by simp[C5])) (λ_=>fin _) (.no (by simp)) ⟨λp=>absurd p (by simp),λ_ _=>⟨O4 _,rfl,rfl,rfl,.inl rfl⟩,λp=>absurd p (by simp)⟩
   ·rw[aP q];exact h.quiet hl hw hc hJ (cl:=b.aD) (λ_ _=>rfl) (by grind[own,lC,aGT]) (by simp[lC]) (λ_ y=>absurd y q) (λ_ _ _ p=>⟨p,rfl⟩) (O4 _) (λ_=>fin _) (.no (by simp)) ⟨λp=>absurd p (by simp),λ_ y=>absurd y q,λp=>absurd p (by simp)⟩
theorem aDU{cl:aD}{j':aI}(hp:(J w).Pc<6\/18<=(J w).Pc)(hp':(j'.Pc<6\/18<=j'.Pc)/\j'.Pc≠3/\j'.Pc≠4)(pin:∀v,j7 v->v≠w->lG cl v->lG b.aD v/\(dB cl v).aJ=(dB b.aD v).aJ)(ep:b.aD.aJ<=cl.aJ)
  (tw':j'.cR=true->TW Ky b.Mem k c (q w) j') (col:j'.Pc=21->bIH cl.aJ (dR b.aM w) j'.Sub):uV Ky {b with aD:=cl} k c q (zA J w j'):=by
 have o:=J2 hp;have o':=J2 hp'.1;exact h.quiet hl hw hc hJ (λ_ _=>rfl) (by grind) (by grind) (λp=>by omega) pin ep tw' (.no (by omega)) ⟨λp=>by omega,λp=>by omega,col⟩
theorem bEQ(hp:(J w).Pc=18):uV Ky {b with aD:=(OC b.aD w).1} k c q (zA J w {J w with Pc:=19}):=by obtain⟨e1,e2⟩:=a1J hc hw;refine aDU h hl hw hc hJ hB (by omega) (by simp) (λv hv hn p=>aV6 (e2 v hv hn) p) (by omega) (λ_=>?_) (by simp);obtain⟨t1,t2,t3,t4,t5,t6,t7,t8,t9,t10,t11,t12,t13,t14,t15,t16,t17,t18,t19⟩:=h.tw w hw hB;constructor<;>grind
theorem bIM(hp:(J w).Pc=19):uV Ky b k c q (zA J w cO):=
 aDU h hl hw hc hJ hB (cl:=b.aD) (by omega) (by simp[cO]) (λ_ _ _ p=>⟨p,rfl⟩) (O4 _) (λq=>by cases q) (by simp[cO])
theorem bER(hp:(J w).Pc=0){j':aI}(hj:j'={J w with Sub:=(B9 b w (J w).Sub).2}\/j'={J w with Pc:=1,Sub:=(B9 b w (J w).Sub).2}):uV Ky (B9 b w (J w).Sub).1 k c q (zA J w j'):=by obtain⟨cl,e,e1,e2⟩:=bEM hc hw (J w).Sub;rw[e];refine aDU h hl hw hc hJ hB (by omega) (by grind) (λv hv hn p=>aV6 (e2 v hv hn) p) (by omega) (λ_=>?_) (by grind);obtain⟨t1,t2,t3,t4,t5,t6,t7,t8,t9,t10,t11,t12,t13,t14,t15,t16,t17,t18,t19⟩:=h.tw w hw hB;rcases hj with rfl|rfl<;>constructor<;>grind
theorem bES(hp:(J w).Pc=20){j':aI}(hj:j'={J w with Sub:=(fM b (J w).Sub).2}\/j'={J w with Pc:=21,Sub:=C5 4 0}):uV Ky (fM b (J w).Sub).1 k c q (zA J w j'):=by obtain⟨cl,e,e1,e2⟩:=bEN hc (J w).Sub;rw[e];refine aDU h hl hw hc hJ hB (by omega) (by grind) (λv hv hn p=>e2 v hv p) e1 (λ_=>?_) (by grind[bIH,C5]);obtain⟨t1,t2,t3,t4,t5,t6,t7,t8,t9,t10,t11,t12,t13,t14,t15,t16,t17,t18,t19⟩:=h.tw w hw hB;rcases hj with rfl|rfl<;>constructor<;>grind
omit hB in
theorem bET(hn:J w=cO){x:Batch}(hx:∀q∈x.bW,q.Key∈Ky)(s:Int):uV Ky b k c q (zA J w (m0 x s)):=by
 have o:own (J w)=[]/\lC (J w)=[]:=J2 (by rw[hn];exact .inl (by decide));have p':(m0 x s).Pc=0\/(m0 x s).Pc=20:=by grind[m0]
 have o':=J2 (j:=m0 x s) (by omega);refine h.still hl hw hc hJ (λ_ _=>rfl) (by grind) (by grind) (.inl (by omega)) (λ_=>?_) (.no (by omega)) (.no (by omega));unfold m0 at p' ⊢;constructor<;>grind
end
theorem aDV{m:Mem}{h g:Int}(a:mM m h)(b:mM m g)(e:h % 32=g % 32):h=g:=by have h1:=a.2.2;have h2:=b.2.2;grind
theorem aSV{l:List bT}(hl:rZ l){w:Int}(hw:j7 w):∃A B,cE l=A++(dR l w++B)/\∀r,cE (l.set w.toNat ⟨r⟩)=A++(r++B):=by
 have h3:=hl.1;have kx:w.toNat<l.length:=by omega
 have hrow:l[w.toNat].Rows=dR l w:=by have:=SA hl hw;grind[iC]
 exact⟨_,_,by grind[ND],λr=>QL kx _⟩
theorem aGU{l:List bT}(h3:l.length=3){w v:Int}(hw:j7 w)(hv:j7 v)(hn:v≠w)(x:bT):dR (l.set w.toNat x) v=dR l v:=by unfold dR;grind
theorem bMP{b:aA}{s:Int}(h1:dZ b.Mem s=3)(h2:¬bD b.aM s):ind b s=1:=aL ⟨h1,h2⟩
theorem YY{b:aA}{s:Int}(h:dZ b.Mem s≠3\/bD b.aM s):ind b s=0:=aP λq=>h.elim (λa=>a q.1) q.2
theorem aSW{b b':aA}{s:Int}(h1:dZ b'.Mem s=3↔dZ b.Mem s=3)(h2:bD b'.aM s↔bD b.aM s):ind b' s=ind b s:=by grind[ind]
section
variable {Ky:List Int} {b:aA} {k:List cQ} {c:Int->List Int} {q:Int->Nat} {J:Int->aI} {w:Int} (h:uV Ky b k c q J) (hl:∀v,j7 v->LkJ k v (J v)) (hw:j7 w) (hb:kD b) (hJ:∀v,j7 v->(J v).cR=true->JB (J v)) (hB:(J w).cR=true)
include h hl hw hb hJ hB
theorem bEU(hp:(J w).Pc=6):uV Ky (NG b w (J w)).1 k c q (zA J w (NG b w (J w)).2):=by
 have t:=h.tw w hw hB;have hj:=hJ w hw hB;have hc:=hb.1.2.1;have o:=wD (j:=J w) (by omega);obtain⟨s1,s2,s3,s4⟩:=(h.sb w hw).al hp;have hk:=hj.k;have hn6:=t.n6 hp;have pl:=SD (J w).aH (J w).aH.length;have hwl:=hj.wr.1;have tw:∀{j':aI},(j'.Pc=6/\(j'.eO.length:Int)=j'.K/\j'.K<=eK (J w).aH (J w).aH.length/\j'.Code=(J w).Code\/j'.Pc=7/\j'.K=0/\(j'.eO.length:Int)=eK (J w).aH (J w).aH.length/\j'.Code=(J w).Code\/j'.Pc=16/\j'.Code=3)->j'.bU=(J w).bU/\j'.aH=(J w).aH/\j'.Batch=(J w).Batch/\j'.At=(J w).At->TW Ky b.Mem k c (q w) j':=λ{j'} q ⟨e2,e3,e4,e5⟩=>by
  have c6:(J w).Code=0:=by have:=t.cd;omega
  refine⟨by omega,λx=>by omega,λx=>by rw[e2];exact t.oO (by omega),λx=>by omega,by rw[e3,e5];exact t.wl,λx=>by grind,λx=>⟨by grind,λy=>by omega⟩,λx=>?_,λx=>by omega,λx=>by omega,λx=>by omega,λx=>by omega,λx=>by omega,λx=>by omega,by omega,λx _=>by rw[e5,e4];exact t.at_ c6 (by omega),λx=>?_,λx=>by omega,by rw[e3,e4];exact t.ky⟩
  ·simp_all
  ·have:=t.cl (by grind);omega
 unfold NG;by_cases c1:eK (J w).aH (J w).aH.length<=(J w).K
 ·rw[aL c1];refine h.still hl hw hc hJ (λ_ _=>rfl) ?_ ?_ (.inl (by simp)) (λ_=>tw (.inr (.inl ⟨rfl,rfl,by simp only;omega,rfl⟩)) ⟨rfl,rfl,rfl,rfl⟩) (.no (by simp)) (.no (by simp))
  ·rw[o.1,(wD (by simp)).1]
  ·rw[o.2,(wD (by simp)).2];exact λ_ x=>x
 rw[aP c1];obtain⟨q1,q2,q3,q4⟩:=aYO hb.1.1 hw s1 s2 s3 s4;have nF:∀{j':aI},(jG b w (J w).Sub).1.Mem=b.Mem->j'.eO=(J w).eO->j'.Pc=6\/j'.Pc=16->TW Ky b.Mem k c (q w) j'->SbJ b w j'->uV Ky (jG b w (J w).Sub).1 k c q (zA J w j'):=λ{j'} em en p' t' s'=>by
  have eb:(jG b w (J w).Sub).1=b:=by
   cases hh:(jG b w (J w).Sub).1 with
   |mk a1 a2 a3 a4=>
    simp_all
  rw[eb];have o':=wD (j:=j') (by omega);exact h.still hl hw hc hJ (λ_ _=>rfl) (by grind) (by grind) (.inl (by omega)) (λ_=>t') (.no (by omega)) s'
 rcases q4 with ⟨em,⟨d,e⟩|⟨e1,e2⟩⟩|⟨d,e,wk,tk,kn⟩
 ·rw[aP (by grind),aL (.inl (by omega)),e];exact nF em rfl (.inr rfl) (tw (.inr (.inr ⟨rfl,rfl⟩)) ⟨rfl,rfl,rfl,rfl⟩) (.no (by simp[J6]))
 ·rw[aL (by grind)];exact nF em rfl (.inl hp) (tw (.inl ⟨hp,hn6.1,hn6.2,rfl⟩) ⟨rfl,rfl,rfl,rfl⟩) ⟨λ_=>by grind,by simp[hp],by simp[hp]⟩
 ·rw[aP (by grind),aP (by
   rintro(q|q|q)
   ·exact q e
   ·exact q wk.1.1
   ·omega)]
  generalize hx:(jG b w (J w).Sub).2.Out=x at wk tk;generalize hr:(jG b w (J w).Sub).1=b' at q1 q2 q3 kn wk tk;show uV Ky b' k c q (zA J w {J w with eO:=(J w).eO++[x],K:=(J w).K+1,Sub:=C5 1 16});have hx0:=(sM (dU wk.1.2.1)).1;have t':TW Ky b.Mem k c (q w) {J w with eO:=(J w).eO++[x],K:=(J w).K+1,Sub:=C5 1 16}:=tw (.inl ⟨hp,by simp;omega,by grind,rfl⟩) ⟨rfl,rfl,rfl,rfl⟩;have o':=wD (j:={J w with eO:=(J w).eO++[x],K:=(J w).K+1,Sub:=C5 1 16}) (.inl (by grind));have oth:Oth b b' k k c c J w {J w with eO:=(J w).eO++[x],K:=(J w).K+1,Sub:=C5 1 16} 0 (-1):=by
   refine⟨λy hy hz=>?_,.inl rfl,.inl rfl,λ_ _ _=>⟨rfl,rfl⟩,.inl rfl,λr hr=>.inl (by grind),λy hy=>?_,λz=>absurd z (by simp[hp]),λv hv hn p=>by grind,by grind,λ_ _ _=>by rw[q2]⟩
   ·obtain⟨a1,a2⟩:=kn y hy hz;exact⟨a1,λ_=>a2⟩
   ·rw[o'.2] at hy;rcases eS.1 hy with hy|hy
    ·grind
    ·exact .inr (by rw[KD.1 hy];exact tk.was)
  have chs:=λi (hi:W3 i)=>(oth.chn h hw hi (λq=>((h.ch i hi).all 0 q).1.ne rfl)).2 rfl rfl;refine h.make hl hw hc hJ oth q3 (λi hi=>(chs i hi).1) (λi hi=>by rw[(chs i hi).2];exact h.key i hi) (λs=>?_) (λy hy=>?_) (λ_=>?_) (.no (by simp[hp])) ⟨λ_=>by simp[C5],by simp[hp],by simp[hp]⟩
  ·have u:=aC5 (J:=J) hw {J w with eO:=(J w).eO++[x],K:=(J w).K+1,Sub:=C5 1 16} s;rw[o.1,o'.1,YX,UD,bEI] at u;have u2:=h.cnt s;by_cases q:x % 32=s
   ·rw[aL q] at u;have a1:ind b s=0:=YY (.inl (by rw[<-q];exact tk.was));have a2:ind b' s=1:=bMP (by rw[<-q];exact tk.now) (by
     rw[q2,<-q];rintro⟨r,hr,hh,er⟩;exact tk.was (by rw[<-er];exact(hb.2 r hr).1.2.1))
    omega
   ·rw[aP q] at u;have a1:ind b' s=ind b s:=aSW (tk.rest s λe=>q e.symm) (by rw[q2]);omega
  ·rw[o'.1] at hy;rcases eS.1 hy with hy|hy
   ·have hm:y∈own (J w):=by grind
    have w0:=h.ok w hw y hm;exact(kn y w0 (by omega)).1
   grind
  ·exact{t' with st:=λq=>absurd q (by simp[hp]),cu:=λq=>absurd q (by simp[hp]),fl:=λq=>absurd q (by simp[hp]),ln:=λq=>absurd q (by simp[hp])}
end
end Go.Gv
end
