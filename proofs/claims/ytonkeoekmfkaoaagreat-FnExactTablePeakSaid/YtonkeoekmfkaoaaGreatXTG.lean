import Derived.Test.YtonkeoekmfkaoaaGreatXTF
set_option linter.unusedVariables false
set_option linter.unusedSimpArgs false
set_option linter.unusedSectionVars false
set_option linter.constructorNameAsVariable false
set_option linter.unnecessarySimpa false
noncomputable section
namespace Go.Gv
variable{h:Heap}{c n s w x:Int}{xs:List Int}{t:List UInt8}{l:List aW}{m:Mem}{i k p:Nat}{O:Type}{j:aE}
def E4(h:Heap)(l:List Int)(c:Int):Prop:=∀x∈l,bW h x=c/\l8 h x<=6
instance (h:Heap) (l:List Int) (c:Int):Decidable (E4 h l c):=by unfold E4;infer_instance
theorem PW(hs:eY h){l:List Int}(hl:l.length<=maxLen)(hc:0<=c):zK h l c=some (decide (E4 h l c)):=by
 unfold zK;have key:loop (lZ h l c) 0=some (if ∀x∈l,bW h x=c/\l8 h x<=6 then Out.brk () else Out.ret false):=by
  have hst:∀k (hk:k<l.length),lZ h l c (k:Int)=if bW h l[k]=c/\l8 h l[k]<=6 then some (.next ((k+1:Nat):Int)) else some (.stop (Out.ret false)):=by
   intro k hk;simp only[lZ];rw[cH,aU hk];generalize l[k]=x;simp only[aG,kX hs,xM];by_cases q:bW h x=c
   ·have n1:(bW h x != c)=false:=by simp only[bne_eq_false_iff_eq];exact q
    simp only[n1,bO,bM,pC hs (show 0<=bW h x by omega),aG,lJ (H0 hk hl)];by_cases q2:l8 h x<=6
    ·rw[pH,aL ⟨q,q2⟩]
    ·rw[cH,aN (λx=>q2 x.2)]
   ·have n1:(bW h x != c)=true:=by simp only[bne_iff_ne];exact q
    simp only[n1,bP];rw[aN (λx=>q x.1)]
  refine l7 (f:=lZ h l c) l (λk=>(k:Int)) (λx=>bW h x=c/\l8 h x<=6) _ _ (λk hk hp=>?_) (λk hk hp=>?_) ?_
  ·rw[hst k hk,aL hp]
  ·rw[hst k hk,aN hp]
  ·simp[lZ]
 rw[key];by_cases q:∀x∈l,bW h x=c/\l8 h x<=6
 ·rw[aL q,cD (show E4 h l c from q)];rfl
 ·rw[aN q,dR (show ¬E4 h l c from q)];rfl
theorem PX(hs:eY h){s:aW}(hl:s.aR.length<=maxLen)(hc:0<=c):zU h s c=some (decide (E4 h s.aR c)):=by
 unfold zU;have key:loop (l5 h s c) 0=some (if ∀x∈s.aR,bW h x=c/\l8 h x<=6 then Out.brk () else Out.ret false):=by
  have hst:∀k (hk:k<s.aR.length),l5 h s c (k:Int)=if bW h s.aR[k]=c/\l8 h s.aR[k]<=6 then some (.next ((k+1:Nat):Int)) else some (.stop (Out.ret false)):=by
   intro k hk;simp only[l5];rw[cH,aU hk];generalize s.aR[k]=x;simp only[aG,jG hs,xY];by_cases q:bW h x=c
   ·have n1:(bW h x != c)=false:=by simp only[bne_eq_false_iff_eq];exact q
    simp only[n1,bO,bM,G5 hs (show 0<=bW h x by omega),aG,lJ (H0 hk hl)];by_cases q2:l8 h x<=6
    ·rw[pH,aL ⟨q,q2⟩]
    ·rw[cH,aN (λx=>q2 x.2)]
   ·have n1:(bW h x != c)=true:=by simp only[bne_iff_ne];exact q
    simp only[n1,bP];rw[aN (λx=>q x.1)]
  refine l7 (f:=l5 h s c) s.aR (λk=>(k:Int)) (λx=>bW h x=c/\l8 h x<=6) _ _ (λk hk hp=>?_) (λk hk hp=>?_) ?_
  ·rw[hst k hk,aL hp]
  ·rw[hst k hk,aN hp]
  ·simp[l5]
 rw[key];by_cases q:∀x∈s.aR,bW h x=c/\l8 h x<=6
 ·rw[aL q,cD (show E4 h s.aR c from q)];rfl
 ·rw[aN q,dR (show ¬E4 h s.aR c from q)];rfl
def gN(l:List aW)(k:Nat):List Int:=(l.getD k ⟨[]⟩).aR
theorem eJ(h:k<l.length):l[k].aR=gN l k:=by grind[gN]
def OG(m:Mem)(k:Nat):Prop:=E4 m.Heap (gN m.aD.Global k) (k:Int)
def FA(m:Mem)(k:Nat):Prop:=E4 m.Heap (gN m.aD.Own k) ((k % 3:Nat):Int)
instance (m:Mem) (k:Nat):Decidable (OG m k):=by unfold OG;infer_instance
instance (m:Mem) (k:Nat):Decidable (FA m k):=by unfold FA;infer_instance
instance (m:Mem):Decidable (∀k,k<3->OG m k):=Nat.decidableBallLT 3 λk _=>OG m k
instance (m:Mem):Decidable (∀k,k<9->FA m k):=Nat.decidableBallLT 9 λk _=>FA m k
instance (m:Mem) (c:Nat):Decidable (∀w,w<3->FA m (w*3+c)):=Nat.decidableBallLT 3 λw _=>FA m (w*3+c)
instance (m:Mem):Decidable (∀k,k<3->OG m k/\∀w,w<3->FA m (w*3+k)):=Nat.decidableBallLT 3 λk _=>OG m k/\∀w,w<3->FA m (w*3+k)
def nQ(m:Mem):Prop:=(XC m.Heap/\LOk m.aD)/\(∀k,k<3->OG m k)/\∀k,k<9->FA m k
instance (m:Mem):Decidable (nQ m):=by unfold nQ;infer_instance
theorem LOk.aCF{l:aD}(h:LOk l)(hb:(fS l).length<=1073741824):(∀s∈l.Global,s.aR.length<=1073741824)/\∀s∈l.Own,s.aR.length<=1073741824:=by grind[fS,YC,aHY]
theorem aUK:(∀k,k<3->OG m k/\∀w,w<3->FA m (w*3+k))↔(∀k,k<3->OG m k)/\∀k,k<9->FA m k:=by
 constructor
 ·intro h;refine⟨λk hk=>(h k hk).1,λk hk=>?_⟩;have:=(h (k % 3) aa).2 (k/3) aa;grind
 grind
theorem OH(hb:m.Heap.Bytes.length<=maxLen)(hl:(fS m.aD).length<=1073741824):FQ m=some (decide (nQ m)):=by
 unfold FQ GN;rw[aHX hb,aEB hl];by_cases h1:XC m.Heap
 ·by_cases h2:LOk m.aD
  ·have hmx:(1073741824:Nat)<=maxLen:=by simp[maxLen]
   have hsl:=LOk.aCF h2 hl;simp only[cD h1,cD h2,aG,g8,bO,bM];have k3:∀c:Nat,c<3->loop (zL m (c:Int)) 0=some (if ∀w,w<3->FA m (w*3+c) then Out.brk () else Out.ret false):=by
    intro c hc;have hst:∀w:Nat,w<3->zL m (c:Int) (w:Int)=if FA m (w*3+c) then some (.next ((w+1:Nat):Int)) else some (.stop (Out.ret false)):=by
     intro w hw;have hk:w*3+c<m.aD.Own.length:=by rw[h2.2.1];omega
     have e:vH (w:Int) (c:Int)=some ((w*3+c:Nat):Int):=by unfold vH zE;rw[cW,cW,cD aa,cD aa];simp only[aG,g8,bO,bM];grind[dA]
     have hlen:=hsl.2 _ (cZ hk);simp only[zL];rw[cH,e];simp only[aG,aU hk];rw[PW h1.1 aa aa,eJ hk];have em:(w*3+c) % 3=c:=aa
     have ho:FA m (w*3+c)↔E4 m.Heap (gN m.aD.Own (w*3+c)) (c:Int):=by grind[FA]
     rw[cN];grind
    refine z5 (f:=zL m (c:Int)) 3 (λk=>(k:Int)) (λw=>FA m (w*3+c)) _ _ (λk hk hx=>?_) (λk hk hx=>?_) ?_
    ·grind
    ·grind
    ·rfl
   have k2:loop (zN m) 0=some (if ∀k,k<3->OG m k/\∀w,w<3->FA m (w*3+k) then Out.brk () else Out.ret false):=by
    have hst:∀c:Nat,c<3->zN m (c:Int)=if OG m c/\∀w,w<3->FA m (w*3+c) then some (.next ((c+1:Nat):Int)) else some (.stop (Out.ret false)):=by
     intro c hc;have hk:c<m.aD.Global.length:=by rw[h2.1];omega
     have hlen:=hsl.1 _ (cZ hk);simp only[zN];rw[cH];simp only[aG,aU hk];rw[PW h1.1 aa aa,eJ hk,k3 c hc];by_cases q:OG m c
     ·have q':E4 m.Heap (gN m.aD.Global c) (c:Int):=q;rw[cD q'];simp only[aG,g8,bO,bM];by_cases q2:∀w,w<3->FA m (w*3+c)
      ·rw[aL q2,aL ⟨q,q2⟩];simp only[WX,WW];grind[dA]
      ·rw[aN q2,aN (λx=>q2 x.2)];rfl
     ·have q':¬E4 m.Heap (gN m.aD.Global c) (c:Int):=q;grind
    refine z5 (f:=zN m) 3 (λk=>(k:Int)) (λk=>OG m k/\∀w,w<3->FA m (w*3+k)) _ _ (λk hk hx=>?_) (λk hk hx=>?_) ?_
    ·grind
    ·grind
    ·rfl
   rw[k2];by_cases q:∀k,k<3->OG m k/\∀w,w<3->FA m (w*3+k)
   ·rw[aL q,cD (show nQ m from⟨⟨h1,h2⟩,aUK.1 q⟩)];rfl
   ·rw[aN q,dR (λx:nQ m=>q (aUK.2 x.2))];rfl
  grind[nQ]
 grind[nQ]
theorem OI(hb:m.Heap.Bytes.length<=maxLen)(hl:(fS m.aD).length<=1073741824):FX m=some (decide (nQ m)):=by
 unfold FX GZ;rw[LM hb,SW hl];by_cases h1:XC m.Heap
 ·by_cases h2:LOk m.aD
  ·have hmx:(1073741824:Nat)<=maxLen:=by simp[maxLen]
   have hsl:=LOk.aCF h2 hl;simp only[cD h1,cD h2,aG,g8,bO,bM];have k3:loop (uC m) 0=some (if ∀k,k<9->FA m k then Out.brk () else Out.ret false):=by
    have hst:∀w:Nat,w<9->uC m (w:Int)=if FA m w then some (.next ((w+1:Nat):Int)) else some (.stop (Out.ret false)):=by
     intro w hw;have hk:w<m.aD.Own.length:=by rw[h2.2.1];omega
     have hlen:=hsl.2 _ (cZ hk);have em:Int.tmod (w:Int) 3=((w % 3:Nat):Int):=aj
     simp only[uC];rw[cH];simp only[aG,aU hk,em];rw[PX h1.1 aa aa,eJ hk,cN];by_cases q:FA m w
     ·rw[aL q,cD (show E4 m.Heap (gN m.aD.Own w) ((w % 3:Nat):Int) from q)];rfl
     ·rw[aN q,dR (show ¬E4 m.Heap (gN m.aD.Own w) ((w % 3:Nat):Int) from q)];rfl
    refine z5 (f:=uC m) 9 (λk=>(k:Int)) (λw=>FA m w) _ _ (λk hk hx=>?_) (λk hk hx=>?_) ?_
    ·grind
    ·grind
    ·simp[uC,h2.2.1]
   have k2:loop (uD m) 0=some (if ∀k,k<3->OG m k then Out.brk () else Out.ret false):=by
    have hst:∀w:Nat,w<3->uD m (w:Int)=if OG m w then some (.next ((w+1:Nat):Int)) else some (.stop (Out.ret false)):=by
     intro w hw;have hk:w<m.aD.Global.length:=by rw[h2.1];omega
     have hlen:=hsl.1 _ (cZ hk);simp only[uD];rw[cH];simp only[aG,aU hk];rw[PX h1.1 aa aa,eJ hk,cN];by_cases q:OG m w
     ·rw[aL q,cD (show E4 m.Heap (gN m.aD.Global w) (w:Int) from q)];rfl
     ·rw[aN q,dR (show ¬E4 m.Heap (gN m.aD.Global w) (w:Int) from q)];rfl
    refine z5 (f:=uD m) 3 (λk=>(k:Int)) (λw=>OG m w) _ _ (λk hk hx=>?_) (λk hk hx=>?_) ?_
    ·grind
    ·grind
    ·simp[uD,h2.1]
   rw[k2];by_cases q:∀k,k<3->OG m k
   ·rw[aL q];simp only[aG,WZ,WY];rw[k3];by_cases q2:∀k,k<9->FA m k
    ·rw[aL q2,cD (show nQ m from⟨⟨h1,h2⟩,q,q2⟩)];rfl
    ·rw[aN q2,dR (λx:nQ m=>q2 x.2.2)];rfl
   ·rw[aN q,dR (λx:nQ m=>q x.2.1)];rfl
  grind[nQ]
 grind[nQ]
theorem HT{s:aW}(h:s∈l):s.aR.length<=(eZ l).length:=by grind[YC,aHY]
theorem tO(l:aD):(fS l).length=(eZ l.Global).length+(eZ l.Own).length:=by simp[fS]
def BU(m:Mem):Prop:=m.Heap.Bytes.length<=1048576/\m.Heap.Class.length<=1048576/\m.aD.Global.length<=1048576/\m.aD.Own.length<=1048576/\(fS m.aD).length<=1048576
theorem BU.aCF(h:BU m):(∀s∈m.aD.Global,s.aR.length<=1048576)/\∀s∈m.aD.Own,s.aR.length<=1048576:=by have:=tO m.aD;have h5:=h.2.2.2.2;exact⟨λs hm=>by have:=HT hm;omega,λs hm=>by have:=HT hm;omega⟩
def POk(e:Int)(p:vC):Prop:=(0<=p.aO/\p.aO<=e)/\(0<=p.Seen/\p.Seen<=2)/\(p.On=false->p=⟨false,0,false,0⟩)
instance (e:Int) (p:vC):Decidable (POk e p):=by unfold POk;infer_instance
def TD(c:aI):Prop:=(0<=c.aO/\c.aO<=100000)/\c.bX.length=3/\∀p∈c.bX,POk c.aO p
instance (c:aI):Decidable (TD c):=by unfold TD;infer_instance
theorem jH(c:aI):rP c=some (decide (TD c)):=by
 unfold rP;rw[cW];by_cases h1:0<=c.aO/\c.aO<=100000
 ·by_cases h2:c.bX.length=3
  ·simp only[aG,h1,h2,nF];have key:∀k:Nat,k<=3->loop (sQ c) (k:Int)=some (if ∀p∈c.bX.drop k,POk c.aO p then Out.brk () else Out.ret false):=by
    refine aL3 3 _ λk hk=>?_;by_cases h3:k<3
    ·have hd:c.bX.drop k=c.bX[k]::c.bX.drop (k+1):=BW aa;simp only[sQ];rw[cH,IL];simp only[aG,cW,kQ,hd];rw[lJ (by simp[maxLen];omega)];generalize c.bX[k]=p;have hp:POk c.aO p↔decide (0<=p.aO/\p.aO<=c.aO)=true/\decide (0<=p.Seen/\p.Seen<=2)=true/\(p.On=false->decide (p=⟨false,0,false,0⟩)=true):=by simp only[POk,decide_eq_true_eq]
     simp only[List.forall_mem_cons,hp];generalize decide (0<=p.aO/\p.aO<=c.aO)=b1;generalize decide (0<=p.Seen/\p.Seen<=2)=b2;generalize decide (p=⟨false,0,false,0⟩)=b3;generalize p.On=b4;cases b1<;>cases b2<;>cases b3<;>cases b4<;>simp[h3]
    ·left;obtain rfl:k=3:=aa
     simp[sQ,List.drop_eq_nil_of_le (show c.bX.length<=3 by omega)]
   have:=key 0 aa;simp only[Int.ofNat_zero,WL] at this;have e:decide (TD c)=if ∀p∈c.bX,POk c.aO p then true else false:=by have:TD c↔∀p∈c.bX,POk c.aO p:=⟨λh=>h.2.2,λh=>⟨h1,h2,h⟩⟩;simp[this]
   rw[e];simp only[Int.cast_ofNat_Int] at *;have t0:loop (sQ c) 0=_:=this;by_cases h5:∀p∈c.bX,POk c.aO p
   ·rw[aL h5] at t0 ⊢;rw[t0];simp[H5,R0]
   ·rw[aN h5] at t0 ⊢;rw[t0];simp[H5]
  grind[nF,TD]
 grind[nF,TD]
theorem aPH(p:vC)(c:aI):wA p c=some (!decide (POk c.aO p)):=by
 unfold wA kL;rw[eT,eT];have hp:decide (POk c.aO p)=(decide (0<=p.aO/\p.aO<=c.aO) && (decide (0<=p.Seen/\p.Seen<=2) && (p.On || decide (p=⟨false,0,false,0⟩)))):=by rw[P4];simp only[POk,decide_eq_true_eq,CL,Bool.or_eq_true];grind
 grind
theorem aNI{l:List vC}(hl:l.length<=maxLen)(f:vC->Bool):kK l (λx=>some (f x))=some (l.any f):=by
 unfold kK v8;have key:∀k:Nat,k<=l.length->loop (iQ l (λx=>some (f x))) (k:Int)=some (if(l.drop k).any f then Out.ret ((k+(l.drop k).findIdx f:Nat):Int) else Out.brk ()):=by
  refine aL3 l.length _ λk hk=>?_;by_cases h3:k<l.length
  ·have hd:l.drop k=l[k]::l.drop (k+1):=BW h3;simp only[iQ];rw[cH,aU h3,lJ (H0 h3 hl),hd];grind
  grind[iQ]
 have t0:loop (iQ l (λx=>some (f x))) 0=_:=key 0 aa;rw[t0];simp only[WL];by_cases h:l.any f=true
 ·simp[h,qL]
 grind[qL,CE]
theorem BA{c:aI}(hc:c.bX.length<=maxLen):rY c=some (decide (TD c)):=by
 unfold rY tK;rw[eT];have e:(λy0=>wA y0 c)=λy0=>some (!decide (POk c.aO y0)):=funext λy=>aPH y c;rw[e,aNI hc];by_cases h1:0<=c.aO/\c.aO<=100000
 ·by_cases h2:c.bX.length=3
  ·have:TD c↔∀p∈c.bX,POk c.aO p:=⟨λh=>h.2.2,λh=>⟨h1,h2,h⟩⟩;grind
  grind[TD]
 grind[TD]
def dP(l:List bR):List eA:=l.flatMap bR.Rows
theorem LN{l:List bR}(h:k<l.length):dP (l.take (k+1))=dP (l.take k)++l[k].Rows:=by grind[dP,TS]
theorem aH0(l:List bR)(k:Nat):(dP (l.take k)).length<=(dP l).length:=by grind[dP,aB1]
theorem aVV(l:List bR)(h:k<l.length):l[k].Rows.length<=(dP l).length:=by have h1:=aH0 l (k+1);grind[LN]
theorem aLL{l:List bR}{s:bR}(h:s∈l):s.Rows.length<=(dP l).length:=by grind[YC,aVV]
theorem U9{l:List bR}(h:(dP l).length<=1073741824)(hl:l.length<=maxLen):HD l=some (dP l):=by
 unfold HD;have k1:loop (vM l) ([],0)=some (dP l):=by
  refine iG (f:=vM l) l.length (λk=>(dP (l.take k),(k:Int))) _ (λk hk=>?_) ?_
  ·have h1:=aH0 l (k+1);rw[LN hk] at h1;simp only[vM];rw[cH,aU hk];grind[bZ,LN,lJ]
  grind[vM]
 rw[k1];rfl
def lH(h:Int):Prop:=(32<=h/\h<=223)/\h % 32<24
instance (h:Int):Decidable (lH h):=by unfold lH;infer_instance
theorem fY(h:Int):gR h=some (decide (lH h)):=by grind[gR,xE,lH,cW,E3]
theorem iU(h:Int):iC h=some (decide (lH h)):=by grind[iC,xQ,lH,eT,E3]
theorem lH.mod{h:Int}(q:lH h):Int.tmod h 32=h % 32/\0<=h % 32/\h % 32<=23:=by grind[lH]
theorem eE(h:Int):eR h=some (if lH h then h % 32 else -1):=by grind[eR,fY,lH]
def NJ(r:eA):Prop:=lH r.Handle/\0<=r.aO/\r.aO<=100000
instance (r:eA):Decidable (NJ r):=by unfold NJ;infer_instance
def HU(r:eA):Int:=r.Handle % 32
def CI(l:List bR):Prop:=l.length=3/\(dP l).length<=24/\(∀r∈dP l,NJ r)/\((dP l).map HU).Nodup
instance (l:List bR):Decidable (CI l):=by unfold CI;infer_instance
def goR:List Bool->List eA->Option (List Bool)
 |met,[]=>some met
 |met,r::t=>if NJ r/\met.getD (HU r).toNat true=false then goR (met.set (HU r).toNat true) t else none
theorem aUL:∀{xs:List eA} {met m:List Bool},goR met xs=some m->m.length=met.length
 |[],met,m,h=>by grind[goR]
 |x::r,met,m,h=>by
  simp only[goR] at h;split at h
  ·have:=aUL h;grind
  ·cases h
theorem aH1:∀(a b:List eA) (met:List Bool),goR met (a++b)=(goR met a).bind λm=>goR m b
 |[],b,met=>rfl
 |x::r,b,met=>by
  simp only[WK,goR];split
  ·exact aH1 r b _
  ·rfl
theorem aPI:∀(xs:List eA) (met:List Bool),(goR met xs).isSome=true↔(∀r∈xs,NJ r)/\(z7 met (xs.map HU)).isSome=true
 |[],met=>by simp[goR,z7]
 |x::r,met=>by
  simp only[goR,TQ,z7];by_cases h:NJ x
  ·have hm:=h.1.mod;have hs:0<=HU x/\HU x<=23:=hm.2;by_cases h2:met.getD (HU x).toNat true=false
   ·rw[aL ⟨h,h2⟩,aL ⟨hs,h2⟩,aPI r _];simp[h]
   grind
  grind
theorem aVW{s:bR}(hl:s.Rows.length<=maxLen):∀d k (met:List Bool),k+d=s.Rows.length->met.length=24->loop (tI s) ((k:Int),met)=some (aNH (goR met (s.Rows.drop k))):=by
 intro d;induction d with
 |zero=>
  intro k met hk hm;rw[bH (r:=Out.brk met) (by grind[tI]),List.drop_eq_nil_of_le aa];rfl
 |succ d ih=>
  intro k met hk hm;have hk':k<s.Rows.length:=aa
  have hd:s.Rows.drop k=s.Rows[k]::s.Rows.drop (k+1):=BW hk';have hst:tI s ((k:Int),met)=if NJ s.Rows[k]/\met.getD (HU s.Rows[k]).toNat true=false then some (.next (((k+1:Nat):Int),met.set (HU s.Rows[k]).toNat true)) else some (.stop (Out.ret false)):=by
   simp only[tI];rw[cH,aU hk'];simp only[aG,iU,eT];generalize s.Rows[k]=x;by_cases q:lH x.Handle
   ·by_cases q2:0<=x.aO/\x.aO<=100000
    ·have hm2:=q.mod;obtain⟨j,hj0⟩:=a1T hm2.2.1;have hj:j<met.length:=aa
     have e:met.getD j true=met[j]:=aj
     have hr:NJ x:=⟨q,q2⟩;simp only[q,q2,and_self,decide_true,g8,bO,bM,kU,hm2.1,hj0,BC,hr,true_and,HU,e];rw[LU,aU hj];simp only[aG];cases met[j]
     ·simp only[bO,bM,bP];grind[bZ,lJ]
     ·simp
    ·rw[cD q,dR q2];simp only[g8,HX,bO,bM,bP,kU];rw[aN (λy:NJ x/\_=>q2 y.1.2)]
   simp_all[kU,NJ]
  rw[hd,goR];by_cases q:NJ s.Rows[k]/\met.getD (HU s.Rows[k]).toNat true=false
  ·rw[aL q] at hst ⊢;grind[bK]
  ·rw[aN q] at hst ⊢;rw[bH hst];rfl
theorem aVX{l:List bR}(hn:l.length<=1000)(hs:∀s∈l,s.Rows.length<=maxLen):∀d k (met:List Bool),k+d=l.length->met.length=24 ->
  loop (tJ l) ((k:Int),met)=some (if(goR met (dP (l.drop k))).isSome=true then Out.brk () else Out.ret false):=by
 intro d;induction d with
 |zero=>
  simp_all[goR,dP,bH,tJ]
 |succ d ih=>
  intro k met hk hm;have hk':k<l.length:=aa
  have hd:l.drop k=l[k]::l.drop (k+1):=BW hk';have hsk:=hs _ (cZ hk');have hf:dP (l.drop k)=l[k].Rows++dP (l.drop (k+1)):=by grind[dP]
  have h4:=aVW hsk _ 0 met (WN _) hm;rw[show((0:Nat):Int)=0 from rfl,WL] at h4;have hst:tJ l ((k:Int),met)=(match goR met l[k].Rows with|some m=>some (.next (((k+1:Nat):Int),m))|none=>some (.stop (Out.ret false))):=by
   simp only[tJ];rw[cH,aU hk'];simp only[aG];rw[h4];cases goR met l[k].Rows with
   |none=>rfl
   |some m=>simp only[aG,aNH,SF,SD];grind[dA]
  rw[hf,aH1];cases hg:goR met l[k].Rows with
  |none=>
   simp_all[bH]
  |some m=>
   rw[hg] at hst;rw[bK hst,ih (k+1) m aa (by grind[aUL])];simp
theorem NL{l:List bR}(hn:l.length<=1000)(h:(dP l).length<=1073741824):qK l=some ((dP l).length:Int):=by
 unfold qK;have key:loop (oH l) (0,0)=some ((dP l).length:Int):=by
  refine iG (f:=oH l) l.length (λk=>(((dP (l.take k)).length:Int),(k:Int))) _ (λk hk=>?_) ?_
  ·have h1:=aH0 l (k+1);rw[LN hk,G8] at h1;simp only[oH];rw[cH,aU hk];grind[dA,LN]
  grind[oH]
 rw[key];rfl
theorem IM{l:List bR}(h:(dP l).length<=1073741824):xR l=some (decide (CI l)):=by
 unfold xR;by_cases h3:l.length=3
 ·have n1:((l.length:Int) != 3)=false:=ah
  have hb:(1073741824:Nat)<=maxLen:=by simp[maxLen]
  simp only[n1,bO,bM];have key:=aVX (l:=l) aa (λs hs=>by have:=aLL hs;omega) l.length 0 (List.replicate 24 false) aa rfl;rw[show((0:Nat):Int)=0 from rfl,WL] at key;rw[key];have hm0:∀j:Nat,j<24->(List.replicate 24 false).getD j true=false:=ai
  have hiff:CI l↔(dP l).length<=24/\(goR (List.replicate 24 false) (dP l)).isSome=true:=by
   rw[aPI,X4 _ _ rfl];have hr:(∀r∈dP l,NJ r)->∀x∈(dP l).map HU,0<=x/\x<=23:=by intro q x hx;obtain⟨r,hr,rfl⟩:=List.mem_map.1 hx;exact(q r hr).1.mod.2
   constructor
   ·rintro⟨_,q1,q2,q3⟩;grind
   ·rintro⟨q1,q2,_,q3,_⟩;exact⟨h3,q1,q2,q3⟩
  by_cases q:(goR (List.replicate 24 false) (dP l)).isSome=true
  ·rw[aL q];simp only[aG,SG,SC];rw[NL aa h];grind
  ·rw[aN q,dR (λx=>q (hiff.1 x).2)];rfl
 ·have n1:((l.length:Int) != 3)=true:=ah
  simp_all[CI]
def qW(h:Int):Prop:=h=0\/lH h
instance (h:Int):Decidable (qW h):=by unfold qW;infer_instance
def aRT(z:List Int):Prop:=z.length=3/\∀h∈z,qW h
instance (z:List Int):Decidable (aRT z):=by unfold aRT;infer_instance
theorem Z2(l:List O)(f:O->Bool){body:Int->Option (Step Int (Out Unit Int))}(hb:∀k (hk:k<l.length),body (k:Int)=if f l[k] then some (.stop (.ret (k:Int))) else some (.next ((k+1:Nat):Int)))(he:body (l.length:Int)=some (.stop (.brk ()))) :
  ∃o,loop body 0=some o/\match o with|.brk _=>l.any f=false|.ret r=>0<=r/\l.any f=true:=by
 have key:=aVS (f:=body) l.length (λk=>(k:Int)) (λk=>if(l.drop k).any f then Out.ret ((k+(l.drop k).findIdx f:Nat):Int) else Out.brk ()) (λk hk=>by
  by_cases h:k<l.length
  ·have hd:l.drop k=l[k]::l.drop (k+1):=BW h;grind
  grind) 0 (jT _)
 grind
theorem aKJ{l:List eA}(hl:l.length<=maxLen)(f:eA->Bool):j3 l (λx=>some (f x))=some (l.any f):=by
 obtain⟨o,e,h⟩:=Z2 l f (body:=jZ l (λx=>some (f x))) (λk hk=>by
  simp only[jZ];rw[cH,aU hk,lJ (H0 hk hl)];rfl) (by simp[jZ])
 grind[j3,uG,zR,zQ]
theorem aH2{l:List bR}(hl:l.length<=maxLen)(f:bR->Bool)(g:bR->Option Bool)(hg:∀x∈l,g x=some (f x)):jL l g=some (l.any f):=by
 obtain⟨o,e,h⟩:=Z2 l f (body:=jK l g) (λk hk=>by
  simp only[jK];rw[cH,aU hk,lJ (H0 hk hl)];grind) (by simp[jK])
 grind[jL,rW,yK,yJ]
theorem VA(hl:l.length<=maxLen)(f:aW->Bool)(g:aW->Option Bool)(hg:∀x∈l,g x=some (f x)):g7 l g=some (l.any f):=by
 obtain⟨o,e,h⟩:=Z2 l f (body:=jM l g) (λk hk=>by
  simp only[jM];rw[cH,aU hk,lJ (H0 hk hl)];grind) (by simp[jM])
 grind[g7,rX,yN,yL]
theorem contains_eq{l:List Int}(hl:l.length<=maxLen)(v:Int):lC l v=some (decide (v∈l)):=by
 obtain⟨o,e,h⟩:=Z2 l (λx=>v == x) (body:=eM l v) (λk hk=>by
  simp only[eM];rw[cH,aU hk,lJ (H0 hk hl)];rfl) (by simp[eM])
 have ha:l.any (λx=>v == x)=decide (v∈l):=aj
 grind[lC,l4,yT,IX]
theorem V2:x∈eZ l↔∃s∈l,x∈s.aR:=aKT
section
variable {m:Mem} (hsh:eY m.Heap) (hl:(fS m.aD).length<=1073741824) (hg:m.aD.Global.length<=maxLen) (ho:m.aD.Own.length<=maxLen)
include hl hg ho
theorem aH3(s:Int):MO m.aD s=some (decide (s∈fS m.aD)):=by grind[maxLen,MO,XD,OF]
theorem VB(s:Int):HL m.aD s=some (decide (s∈fS m.aD)):=by
 have hb:(1073741824:Nat)<=maxLen:=by simp[maxLen]
 have hal:=tO m.aD;have e1:∀x∈m.aD.Global,o5 x s=some (decide (s∈x.aR)):=λx hx=>by have:=HT hx;grind[o5,contains_eq]
 have e2:∀x∈m.aD.Own,o5 x s=some (decide (s∈x.aR)):=λx hx=>by have:=HT hx;grind[o5,contains_eq]
 unfold HL D8;rw[VA hg (λx=>decide (s∈x.aR)) _ e1,VA ho (λx=>decide (s∈x.aR)) _ e2];have a1:(m.aD.Global.any λx=>decide (s∈x.aR))=decide (s∈eZ m.aD.Global):=by rw[P4];simp[V2]
 have a2:(m.aD.Own.any λx=>decide (s∈x.aR))=decide (s∈eZ m.aD.Own):=by rw[P4];simp[V2]
 grind[fS]
def pD(m:Mem)(s:Int):Int:=if bW m.Heap s<0 then 0 else if s∈fS m.aD then 1 else if 6<l8 m.Heap s then 2 else 3
include hsh
theorem aEC(s:Int):JF m s=some (pD m s):=by grind[JF,pD,kX,aH3,pC]
theorem aED(s:Int):J2 m s=some (pD m s):=by grind[J2,pD,jG,VB,G5]
def mY(m:Mem)(h:Int):Prop:=lH h/\pD m (h % 32)=3/\l8 m.Heap (h % 32)=h/32
instance (m:Mem) (h:Int):Decidable (mY m h):=by unfold mY;infer_instance
omit hl hg ho hsh in
theorem jI{m:Mem}(h:pD m s=3):0<=bW m.Heap s:=by grind[pD]
theorem tP(h:Int):rO m h=some (decide (mY m h)):=by
 unfold rO sO;rw[fY,eE];by_cases q:lH h
 ·have hm:=q.mod;rw[cD q,aL q];simp only[aG,bP,aEC hsh hl hg ho];by_cases q2:pD m (h % 32)=3
  ·have n:(pD m (h % 32) == 3)=true:=aj
   have eg:C6 h=some (h/32):=by grind[C6,lH,fY,dA]
   rw[n,pC hsh (jI q2),eg];simp only[bP,aG];congr 1;rw[P4];simp only[beq_iff_eq,decide_eq_true_eq];exact⟨λa=>⟨q,q2,a⟩,λa=>a.2.2⟩
  grind[mY]
 grind[mY]
theorem LO(h:Int):CD m h=some (decide (mY m h)):=by
 unfold CD v7;rw[iU];by_cases q:lH h
 ·have hm:=q.mod;rw[cD q,hm.1];simp only[aG,bP,aED hsh hl hg ho];by_cases q2:pD m (h % 32)=3
  ·have n:(pD m (h % 32) == 3)=true:=aj
   have eg:bC (Int.tdiv h 32)=h/32:=by grind[lH,dA]
   rw[n,G5 hsh (jI q2),eg];simp only[bP,aG];congr 1;rw[P4];simp only[beq_iff_eq,decide_eq_true_eq];exact⟨λa=>⟨q,q2,a⟩,λa=>a.2.2⟩
  grind[mY]
 grind[mY]
end
def aE4(b:aA)(r:eA):Prop:=mY b.Mem r.Handle/\r.aO<=b.aI.aO
instance (b:aA) (r:eA):Decidable (aE4 b r):=by unfold aE4;infer_instance
def wP(b:aA):Prop:=(nQ b.Mem/\TD b.aI/\CI b.a8/\aRT b.kZ)/\∀r∈dP b.a8,aE4 b r
instance (b:aA):Decidable (wP b):=by unfold wP;infer_instance
def aRU(b:aA):Prop:=BU b.Mem/\b.aI.bX.length<=1048576/\b.a8.length<=1048576/\(dP b.a8).length<=1048576/\b.kZ.length<=1048576
theorem RF{s:List aQ}{p:aQ->Bool}(hl:s.length<=4611686018427387904) :
  (∃j,∃h:j<s.length,(∀i (h:i<s.length),i<j->p s[i]=false)/\p s[j]=true/\cQ s (λy=>some (p y))=some (j:Int))\/((∀i (h:i<s.length),p s[i]=false)/\cQ s (λy=>some (p y))=some (-1)):=by
 rcases Z0 (f:=m6 s (λy=>some (p y))) (p:=p) hl (λk=>by
  simp only[m6];by_cases h:k<s.length
  ·rw[dif_pos h,cH,aU h,aG,aG,cN];rfl
  grind) s.length 0 aa with ⟨j,h,_,h2,h3,h4⟩|⟨h1,h2⟩
 ·refine .inl ⟨j,h,λi hi a=>h2 i hi (jT _) a,h3,?_⟩;unfold cQ;rw[show(0:Int)=((0:Nat):Int) from rfl,h4];rfl
 ·refine .inr ⟨λi hi=>h1 i hi (jT _),?_⟩;unfold cQ;rw[show(0:Int)=((0:Nat):Int) from rfl,h2];rfl
theorem aCG{s:List Seen}{p:Seen->Bool}(hl:s.length<=4611686018427387904) :
  (∃j,∃h:j<s.length,(∀i (h:i<s.length),i<j->p s[i]=false)/\p s[j]=true/\eG s (λy=>some (p y))=some (j:Int))\/((∀i (h:i<s.length),p s[i]=false)/\eG s (λy=>some (p y))=some (-1)):=by
 rcases Z0 (f:=o7 s (λy=>some (p y))) (p:=p) hl (λk=>by
  simp only[o7];by_cases h:k<s.length
  ·rw[dif_pos h,cH,aU h,aG,aG,cN];rfl
  grind) s.length 0 aa with ⟨j,h,_,h2,h3,h4⟩|⟨h1,h2⟩
 ·refine .inl ⟨j,h,λi hi a=>h2 i hi (jT _) a,h3,?_⟩;unfold eG;rw[show(0:Int)=((0:Nat):Int) from rfl,h4];rfl
 ·refine .inr ⟨λi hi=>h1 i hi (jT _),?_⟩;unfold eG;rw[show(0:Int)=((0:Nat):Int) from rfl,h2];rfl
theorem aKK{s:List aQ}{p:aQ->Bool}(hl:s.length<=4611686018427387904):iS s (λy=>some (p y))=some (s.filter λx=>!p x):=by
 unfold iS;rcases RF (p:=p) hl with ⟨j,h,h1,h2,h3⟩|⟨h1,h3⟩
 ·have ne:¬(((j:Int) == -1)=true):=ae
  rw[h3,aG,aN ne,cN];obtain⟨M,k,g1,g2,g3,g4⟩:=aNB (p:=p) (n:=s.length) (f:=i6 (λy=>some (p y))) hl (λL i j h hn hi=>by
   simp only[i6];rw[cH,aU h,aG,aG];by_cases hp:p L[j]=true
   ·rw[aL hp,aN (by simp[hp])];grind[gP,dA]
   ·rw[aN hp,aL aj,IL,aG];grind[gP,dA]) (λL i j h=>by
   simp_all[i6]) (s.length-(j+1)) s j (j+1) aa rfl aa
  grind[wC,wB,bZ,fB,aVT,a0B]
 ·rw[h3,aG,aL ak,List.filter_eq_self.2];grind[aBY]
theorem aUM{O:Type}{q:O->Bool}:∀{s:List O} {j:Nat} (h:j<s.length),(∀i (h:i<s.length),i<j->q s[i]=true)->q s[j]=false->s.takeWhile q=s.take j/\s.dropWhile q=s.drop j
 |[],j,h,_,_=>by cases h
 |x::r,0,h,_,h2=>by simp_all
 |x::r,j + 1,h,h1,h2=>by have hx:q x=true:=h1 0 (Nat.zero_lt_succ _) (Nat.zero_lt_succ _);have:=aUM (s:=r) (j:=j) aj (λi hi hj=>h1 (i+1) aa aa) h2;simp_all
theorem a7A{q:O->Bool}{s:List O}(h:∀i (h:i<s.length),q s[i]=true):s.takeWhile q=s/\s.dropWhile q=[]:=by
 have h':∀x∈s,q x=true:=λx hx=>by grind[aBY]
 clear h;induction s with
 |nil=>simp
 |cons x r ih=>
  simp_all
def XE(l:List aQ)(x:aQ):List aQ:=
 (l.filter λy=>!(y.Key == x.Key)).takeWhile (λy=>!decide (x.Key<y.Key))++[x]++(l.filter λy=>!(y.Key == x.Key)).dropWhile (λy=>!decide (x.Key<y.Key))
theorem aBL{l:List aQ}(hl:l.length<=1000)(x:aQ):GY l x=some (XE l x):=by
 unfold GY BI XE;rw[LJ];simp only[aG,aKU];have hd:iS l (λy0=>IB y0 x)=some (l.filter λy=>!(y.Key == x.Key)):=aKK (p:=λy=>y.Key == x.Key) aa;rw[hd,aG];have hlen:(l.filter λy=>!(y.Key == x.Key)).length<=1000:=pG (List.length_filter_le _ _) hl;generalize (l.filter λy=>!(y.Key == x.Key))=o at hlen ⊢;have hi:(∃j,∃h:j<o.length,(∀i (h:i<o.length),i<j->decide (x.Key<o[i].Key)=false)/\decide (x.Key<o[j].Key)=true/\cQ o (λy0=>AX y0 x)=some (j:Int))\/((∀i (h:i<o.length),decide (x.Key<o[i].Key)=false)/\cQ o (λy0=>AX y0 x)=some (-1)):=RF (p:=λy=>decide (x.Key<y.Key)) aa;rcases hi with ⟨j,h,h1,h2,h3⟩|⟨h1,h3⟩
 ·obtain⟨t1,t2⟩:=aUM (q:=λy:aQ=>!decide (x.Key<y.Key)) h (λi hi a=>aj) (by simp[h2]);rw[h3,aG,dY,t1,t2];grind[qN,pK,bZ]
 ·obtain⟨t1,t2⟩:=a7A (s:=o) (q:=λy:aQ=>!decide (x.Key<y.Key)) (λi hi=>aj);rw[h3,aG,aL ai,t1,t2];grind[qN,pK,bZ,List.drop_length]
def WH(l:List aQ)(k:Int):aQ×Bool:=match l.find? (λy=>y.Key == k) with|some x=>(x,true)|none=>(⟨0,false,0⟩,false)
theorem aH4{p:O->Bool}{s:List O}{j:Nat}(h:j<s.length)(h1:∀i (h:i<s.length),i<j->p s[i]=false)(h2:p s[j]=true):s.find? p=some s[j]:=by grind[List.find?_eq_some_iff_getElem]
theorem aUN{p:O->Bool}{s:List O}(h1:∀i (h:i<s.length),p s[i]=false):s.find? p=none:=by grind[aBY]
theorem aEE{l:List aQ}(hl:l.length<=1000)(k:Int):J5 l k=some (WH l k):=by
 unfold J5 WH;have hi:(∃j,∃h:j<l.length,(∀i (h:i<l.length),i<j->(l[i].Key == k)=false)/\(l[j].Key == k)=true/\cQ l (λy0=>EE y0 k)=some (j:Int))\/((∀i (h:i<l.length),(l[i].Key == k)=false)/\cQ l (λy0=>EE y0 k)=some (-1)):=RF (p:=λy=>y.Key == k) aa;rcases hi with ⟨j,h,h1,h2,h3⟩|⟨h1,h3⟩
 ·rw[h3,aG,dY,aU h,aH4 (p:=λy:aQ=>y.Key == k) h h1 h2];rfl
 simp_all[aUN]
def CJ(l:List Seen)(b v:Int):List Seen×Bool:=match l.find? (λy=>y.cM == b) with|some x=>(l,x.fF == v)|none=>(l++[⟨b,v⟩],true)
theorem aEF{l:List Seen}(hl:l.length<=1000)(b v:Int):J7 l b v=some (CJ l b v):=by
 unfold J7 EJ CJ;rw[LJ];simp only[aG,aKU];have hi:(∃j,∃h:j<l.length,(∀i (h:i<l.length),i<j->(l[i].cM == b)=false)/\(l[j].cM == b)=true/\eG l (λy0=>EK y0 b)=some (j:Int))\/((∀i (h:i<l.length),(l[i].cM == b)=false)/\eG l (λy0=>EK y0 b)=some (-1)):=aCG (p:=λy=>y.cM == b) aa;rcases hi with ⟨j,h,h1,h2,h3⟩|⟨h1,h3⟩
 ·rw[h3,aG,dY,aU h,aH4 (p:=λy:Seen=>y.cM == b) h h1 h2];rfl
 ·rw[h3,aG,aL ai,LJ,aUN (p:=λy:Seen=>y.cM == b) h1]
def jV(l:List aQ)(n:Int):Int:=(((l.take n.toNat).filter λx=>!x.F8).length:Int)
theorem aRV(l:List aQ)(n:Int):(l.take ((if(if(l.length:Int)<n then(l.length:Int) else n)<0 then 0 else(if(l.length:Int)<n then(l.length:Int) else n)).toNat)).drop 0=l.take n.toNat:=by
 (simp_all;omega)
theorem Z3{l:List aQ}(hl:l.length<=1000)(n:Int):PE l n=some (jV l n):=by
 unfold PE jV;rw[LU];have hc:=aRV l n;obtain⟨s,hs⟩:∃s,s=l.take n.toNat:=⟨_,rfl⟩;have hsl:s.length<=1000:=aj
 rw[show((0:Int),(0:Int))=((((s.take 0).filter λx=>!x.F8).length:Int),((0:Nat):Int)) from rfl,
  iG s.length (λk=>((((s.take k).filter λx=>!x.F8).length:Int),(k:Int))) (((s.filter λx=>!x.F8).length:Nat):Int) (λk hk=>by
   have ht:s.take (k+1)=s.take k++[s[k]]:=TS hk;have hle:((s.take k).filter λx=>!x.F8).length<=1000:=pG (List.length_filter_le _ _) aj;simp only[QN,hc,<-hs];rw[cH,aU hk,aG,ht,List.filter_append];cases hd:s[k].F8
   ·rw[aL ak,cN];simp only[EL];rw[cN];simp[hd]
   ·rw[dY];grind[EL,dA]) (by
   simp only[QN,hc,<-hs];simp)]
 rw[hs];rfl
def y9(k:Int):Int:=if 0<=k/\k<=99 then k % 2 else -1
theorem OJ(k:Int):FW k=some (y9 k):=by unfold FW y9;rw[eT,aG];grind
def pE(l:List aQ):List Int:=(if l.any (λx=>x.Key % 2 == 0) then [0] else [])++(if l.any (λx=>x.Key % 2 == 1) then [1] else [])
theorem aRW{l:List Int}(hs:l.Pairwise (· < ·))(hm:∀x∈l,x=0\/x=1):l=(if 0∈l then [0] else [])++(if 1∈l then [1] else []):=by
 match l,hs,hm with
 |[],_,_=>rfl
 |[x],_,hm=>rcases hm x ae with rfl|rfl<;>rfl
 |[x,y],hs,hm=>
  have hxy:x<y:=aj
  rcases hm x ae with rfl|rfl<;>rcases hm y ae with rfl|rfl<;>first|omega|rfl
 |x::y::z::r,hs,hm=>
  (simp_all;omega)
theorem aEG{l:List aQ}(hl:l.length<=12)(hk:∀x∈l,0<=x.Key/\x.Key<=99):J8 l=some (pE l):=by
 unfold J8;rw[show(([]:List Int),(0:Int))=((l.take 0).map (λx=>x.Key % 2),((0:Nat):Int)) from rfl,
  iG l.length (λk=>((l.take k).map (λx=>x.Key % 2),(k:Int))) (l.map λx=>x.Key % 2) (λk hlt=>by
   have ht:l.take (k+1)=l.take k++[l[k]]:=TS hlt;have hkk:=hk l[k] (cZ hlt);simp only[IE];rw[cH,aU hlt,aG,OJ,aG];unfold y9;rw[aL hkk,cH,LJ,ht,BX];grind[A0,dA]) (by
   simp[IE]),aG]
 simp only[SI,ID];obtain⟨y,h1,h2,h3⟩:=a0C (x:=l.map λx=>x.Key % 2) aj (by grind[aRP]);rw[h1,aG];obtain⟨c1,c2⟩:=aPF h3;have hmem:∀a,a∈CM y↔∃x∈l,x.Key % 2=a:=λa=>aj
 have h01:∀a∈CM y,a=0\/a=1:=λa ha=>aj
 show some (CM y)=_;rw[aRW c1 h01];grind[pE]
theorem aNJ(l:List aQ):(pE l).length<=2:=by grind[pE]
theorem aH5{l:List aQ}{b:Int}(h:b∈pE l):b=0\/b=1:=by grind[pE]
theorem Z4{f:(List O×Int)->Option (Step (List O×Int) (List O))}(l:List O)
  (h:∀k (hk:k<l.length),f (l.take k,(k:Int))=some (.next (l.take k++[l[k]],((k+1:Nat):Int)))) (he:f (l,(l.length:Int))=some (.stop l)):loop f ([],0)=some l:=by
 have:=iG (f:=f) l.length (λk=>(l.take k,(k:Int))) l (λk hk=>by simp_all) aj;grind
theorem V3{f:(Int×List O)->Option (Step (Int×List O) (List O))}(l:List O)
  (h:∀k (hk:k<l.length),f ((k:Int),l.take k)=some (.next (((k+1:Nat):Int),l.take k++[l[k]]))) (he:f ((l.length:Int),l)=some (.stop l)):loop f (0,[])=some l:=by
 have:=iG (f:=f) l.length (λk=>((k:Int),l.take k)) l (λk hk=>by simp_all) aj;grind
theorem PY{l:List Int}(h:l.length<=1073741824):rF l=some l:=by grind[rF,bZ]
theorem KH{l:List Int}(h:l.length<=1073741824):jR l=some l:=by grind[jR,bZ]
theorem aNK{l:List vC}(h:l.length<=1073741824):xT l=some l:=by grind[xT,bZ]
theorem aKL{l:List eA}(h:l.length<=1073741824):uR l=some l:=by grind[uR,bZ]
theorem aVY(hl:l.length<=1048576)(hs:∀s∈l,s.aR.length<=1048576):HF l=some l:=by
 unfold HF;rw[Z4 l]
 ·rfl
 ·intro k hk;have:=hs _ (cZ hk);simp only[KS];rw[cH,aU hk];simp only[aG];rw[PY aa,aG,LJ,cN];rfl
 grind[KS]
theorem aKM{l:aD}(h1:l.Global.length<=1048576)(h2:l.Own.length<=1048576)(h3:∀s∈l.Global,s.aR.length<=1048576)(h4:∀s∈l.Own,s.aR.length<=1048576):MV l=some l:=by simp_all[MV,aVY]
theorem OK{l:aD}(h1:l.Global.length<=1048576)(h2:l.Own.length<=1048576)(h3:∀s∈l.Global,s.aR.length<=1048576)(h4:∀s∈l.Own,s.aR.length<=1048576):iB l=some l:=by
 unfold iB;rw[V3 l.Global]
 ·simp only[aG,M6,M5];rw[V3 l.Own]
  ·rfl
  ·intro k hk;have:=h4 _ (cZ hk);simp only[DY];rw[cH,aU hk];simp only[aG];rw[KH aa,aG,LJ,DX,cN];rfl
  grind[DY]
 ·intro k hk;have:=h3 _ (cZ hk);simp only[D0];rw[cH,aU hk];simp only[aG];rw[KH aa,aG,LJ,DZ,cN];rfl
 grind[D0]
theorem aNL(h1:h.Bytes.length<=1048576)(h2:h.Class.length<=1048576):MU h=some h:=by unfold MU;rw[PY aa,PY aa];rfl
theorem RG(h1:h.Bytes.length<=1048576)(h2:h.Class.length<=1048576):uA h=some h:=by unfold uA;rw[KH aa,KH aa];rfl
theorem VC(h:BU m):B8 m=some m:=by have a:=aNL h.1 h.2.1;have b:=aKM h.2.2.1 h.2.2.2.1 h.aCF.1 h.aCF.2;simp_all[B8]
theorem VD(h:BU m):sG m=some m:=by have a:=RG h.1 h.2.1;have b:=OK h.2.2.1 h.2.2.2.1 h.aCF.1 h.aCF.2;simp_all[sG]
theorem lW{c:aI}(h:c.bX.length<=1048576):rQ c=some c:=by unfold rQ;rw[LJ];rfl
theorem G6{c:aI}(h:c.bX.length<=1048576):mK c=some c:=by unfold mK;rw[aNK aa];rfl
theorem XF{l:List bR}(hl:l.length<=1048576)(hs:∀s∈l,s.Rows.length<=1048576):mJ l=some l:=by
 unfold mJ;rw[Z4 l]
 ·rfl
 ·intro k hk;have:=hs _ (cZ hk);simp only[D9];rw[cH,aU hk];simp only[aG];rw[aKL aa,aG,LJ,cN];rfl
 grind[D9]
theorem kC(w:Int):fX w=some (decide (0<=w/\w<=2)):=by grind[fX,eT]
section
variable {c:aI} (hc:TD c) {w:Int} (hw:0<=w/\w<=2)
include hc
theorem TD.small:c.bX.length<=1048576/\c.bX.length<=maxLen:=by have:=hc.2.1;grind[maxLen]
theorem TD.aNM{p:vC}(hp:POk c.aO p):TD ⟨c.aO,c.bX.set k p⟩:=⟨hc.1,by simpa using hc.2.1,λq hq=>(rB hq).elim (hc.2.2 q) (λe=>e ▸ hp)⟩
theorem TD.later(h:c.aO+1<=100000):TD ⟨c.aO+1,c.bX⟩:=by
 have h1:=hc.1;exact⟨⟨aj,h⟩,hc.2.1,λq hq=>by
  obtain⟨a,b,d⟩:=hc.2.2 q hq;exact⟨⟨a.1,aj⟩,b,d⟩⟩
include hw
theorem aRX:∃p,idx c.bX w=some p/\POk c.aO p:=by have h3:=hc.2.1;rw[fQ hw.1 aa];exact⟨_,rfl,hc.2.2 _ (cZ _)⟩
theorem aVZ(e:Int):∃r,B5 c w e=some r/\M9 c w e=some r/\TD r.1/\r.1.aO=c.aO:=by
 obtain⟨p,hp,h1,⟨hs0,hs1⟩,h2⟩:=aRX hc hw;have h3:=hc.2.1;unfold B5 M9;rw[lW hc.small.1,G6 hc.small.1,jH,BA hc.small.2,kC,cW,cD hc,cD hw];simp only[aG,g8,bO,bM,vN,EA,hp];cases h4:p.On
 ·exact⟨_,rfl,rfl,hc,rfl⟩
 ·cases h5:p.g9
  ·by_cases h6:p.aO=e
   ·simp_all[mA,qM]
   ·have h6':(p.aO == e)=false:=aj
    simp only[mA,qM,h6',g8,bO,bM,hp,aG];by_cases h7:p.Seen=2
    ·simp only[h7,beq_self_eq_true,bP,show ¬((2:Int)<2) by omega,decide_false,bO,bM];exact⟨_,rfl,rfl,hc.aNM ⟨h1,ae,λq=>aj⟩,rfl⟩
    ·have h7':(p.Seen == 2)=false:=aj
     simp only[h7',show p.Seen<2 by omega,decide_true,bP,bO,bM];have hw7:bC (p.Seen+1)=p.Seen+1:=cN;exact⟨_,rfl,rfl,hc.aNM ⟨h1,aj,λq=>aj⟩,rfl⟩
  ·exact⟨_,rfl,rfl,hc,rfl⟩
theorem a0G(e:Int):∃r,FN c w e=some r/\QM c w e=some r/\(TD r.1/\r.1.aO=c.aO)/\(r.2=false->r.1=c):=by
 obtain⟨p,hp,hpk⟩:=aRX hc hw;have h3:=hc.2.1;unfold FN QM;rw[lW hc.small.1,G6 hc.small.1,jH,BA hc.small.2,kC,cW,cW,eT,cD hc,cD hw];simp only[aG,g8,bO,bM,tV,zS,hp];by_cases h:0<=e/\e<=c.aO
 ·simp only[cD h,g8,bO,bM];exact⟨_,rfl,rfl,⟨hc.aNM ⟨h,ae,λq=>by cases q⟩,rfl⟩,λq=>by cases q⟩
 simp_all[dR]
omit hw in
theorem a3V(e:Int):∃r,KJ c e=some r/\VX c e=some r/\TD r.1/\c.aO<=r.1.aO:=by
 have h3:=hc.2.1;unfold KJ VX;rw[lW hc.small.1,G6 hc.small.1,jH,BA hc.small.2,cD hc];simp only[aG,g8,bO,bM,xF,EB];by_cases h:c.aO=e
 ·subst h;simp only[bne_self_eq_false,bO,bM];by_cases h:c.aO=100000
  ·simp_all
  ·have h':(c.aO == 100000)=false:=aj
   have hE:=hc.1;have hw7:bC (c.aO+1)=c.aO+1:=cN;simp only[h',bO,bM,hw7];exact⟨_,rfl,rfl,hc.later aa,aj⟩
 simp_all
end
theorem a7B{b:aA}(hc:TD b.aI)(hw:0<=w/\w<=2)(s:Sub) :
  ∃x y,B6 b w s=some (x,y)/\xV s b w=some (y,x)/\∃cl,x=⟨b.Mem,cl,b.a8,b.kZ⟩/\TD cl/\b.aI.aO<=cl.aO:=by
 obtain⟨r,e1,e2,h3,h4⟩:=a0G hc hw s.E;unfold B6 xV;rw[e1,e2];simp only[bN,bJ,yU,aG];by_cases p0:s.Pc=0
 ·simp only[p0,beq_self_eq_true,bP];exact⟨_,_,rfl,rfl,_,rfl,hc,aa⟩
 ·have p0':(s.Pc == 0)=false:=aj
  simp only[p0',bO,bM];by_cases p1:s.Pc=1
  ·simp only[p1,beq_self_eq_true,bP];cases h:r.2
   ·rw[h4 h];exact⟨_,_,rfl,rfl,_,rfl,hc,aa⟩
   ·exact⟨_,_,rfl,rfl,_,rfl,h3.1,aa⟩
  ·have p1':(s.Pc == 1)=false:=aj
   simp only[p1',bO,bM];by_cases p2:s.Pc=2
   ·simp only[p2,beq_self_eq_true,bP];by_cases q:b.aI.aO=s.E
    ·simp only[q,beq_self_eq_true,bP];exact⟨_,_,rfl,rfl,_,rfl,hc,aa⟩
    ·have q':(b.aI.aO == s.E)=false:=aj
     simp only[q',bO,bM];exact⟨_,_,rfl,rfl,_,rfl,hc,aa⟩
   ·have p2':(s.Pc == 2)=false:=aj
    simp only[p2',bO,bM];exact⟨_,_,rfl,rfl,_,rfl,hc,aa⟩
theorem aRY{b:aA}(hc:TD b.aI)(s:Sub) :
  ∃x y,nG b s=some (x,y)/\oJ s b=some (y,x)/\∃cl,x=⟨b.Mem,cl,b.a8,b.kZ⟩/\TD cl/\b.aI.aO<=cl.aO:=by
 obtain⟨r2,e3,e4,h4⟩:=a3V hc s.E;unfold nG oJ kN;rw[e3,e4,cW,kC];simp only[bN,bJ,mB,mC,kM,aG];by_cases p0:s.Pc=0
 ·simp only[p0,beq_self_eq_true,bP];exact⟨_,_,rfl,rfl,_,rfl,hc,aa⟩
 ·have p0':(s.Pc == 0)=false:=aj
  simp only[p0',bO,bM];by_cases p1:s.Pc=1
  ·simp only[p1,beq_self_eq_true,bP,show((1:Int) == 2)=false from rfl,bO,bM];by_cases hB:0<=s.B/\s.B<=2
   ·obtain⟨r,e1,e2,h3,h3'⟩:=aVZ hc hB s.E;simp only[cD hB,g8,bO,bM,bP,e1,e2,aG];cases h:r.2
    ·exact⟨_,_,rfl,rfl,_,rfl,h3,aa⟩
    ·by_cases q:bC (s.B+1)=3
     ·simp only[q,beq_self_eq_true,bP,g8,bO,bM];exact⟨_,_,rfl,rfl,_,rfl,h3,aa⟩
     ·have q':(bC (s.B+1) == 3)=false:=aj
      simp only[q',g8,bO,bM];exact⟨_,_,rfl,rfl,_,rfl,h3,aa⟩
   ·simp only[dR hB,HX,bO,bM,bP];exact⟨_,_,rfl,rfl,_,rfl,hc,aa⟩
  ·have p1':(s.Pc == 1)=false:=aj
   simp only[p1',bO,bM];by_cases p2:s.Pc=2
   ·simp only[p2,beq_self_eq_true,bP];cases h:r2.2
    ·simp only[bO,bM];exact⟨_,_,rfl,rfl,_,rfl,h4⟩
    ·simp only[bP];exact⟨_,_,rfl,rfl,_,rfl,h4⟩
   ·have p2':(s.Pc == 2)=false:=aj
    simp only[p2',bO,bM];exact⟨_,_,rfl,rfl,_,rfl,hc,aa⟩
theorem aRZ:∀(n:Nat) (l:List Int),l.Nodup->(∀x∈l,0<=x/\x<(n:Int))->l.length<=n
 |0,l,_,h=>by
  cases l with
  |nil=>simp
  |cons a t=>(simp_all;omega)
 |n + 1,l,hn,h=>by
  have ih:=aRZ n (l.erase (n:Int)) (hn.erase _) (λx hx=>by
   grind)
  grind
theorem PZ{l:List bR}(hk:k<l.length)(x:bR):dP (l.set k x)=dP (l.take k)++(x.Rows++dP (l.drop (k+1))):=by simp_all[List.set_eq_take_append_cons_drop,dP]
theorem NM{l:List bR}(hk:k<l.length):dP l=dP (l.take k)++(l[k].Rows++dP (l.drop (k+1))):=by grind[aKV,PZ]
theorem KK(hk:k<l.length)(x:aW):eZ (l.set k x)=eZ (l.take k)++(x.aR++eZ (l.drop (k+1))):=by simp_all[List.set_eq_take_append_cons_drop,eZ]
theorem HV(hk:k<l.length):eZ l=eZ (l.take k)++(l[k].aR++eZ (l.drop (k+1))):=by grind[aKV,KK]
def bA(l:List bR)(s:Int):Prop:=∃r∈dP l,lH r.Handle/\r.Handle % 32=s
instance (l:List bR) (s:Int):Decidable (bA l s):=by unfold bA;infer_instance
section
variable {l:List bR} (hl:CI l)
include hl
theorem CI.small:(dP l).length<=1073741824/\l.length<=maxLen/\l.length<=1048576/\∀s∈l,s.Rows.length<=24:=by have:=hl.1;have h2:=hl.2.1;refine⟨aa,by grind[maxLen],aa,λs hs=>?_⟩;have:=aLL hs;omega
theorem IN(s:Int):C7 l s=some (decide (bA l s)):=by
 have hm:=hl.small;unfold C7;rw[U9 hm.1 hm.2.1,aG];have key:=l7 (f:=nE s (dP l)) (dP l) (λk=>(k:Int)) (λr=>¬(lH r.Handle/\r.Handle % 32=s)) (Out.brk ()) (Out.ret true)
  (λk hk hp=>by
   have hk':=hl.2.1;simp only[nE,sP];rw[cH,aU hk,lJ (show k<maxLen by grind[maxLen])];grind[fY,eE])
  (λk hk hp=>by
   simp_all[nE,sP,aU,fY,eE])
  (by simp[nE])
 have key':loop (nE s (dP l)) 0=_:=key;rw[key'];by_cases q:bA l s
 ·rw[aN (λa=>by obtain⟨r,hr,e⟩:=q;grind),cD q];rfl
 ·rw[aL (λr hr e=>q ⟨r,hr,e⟩),dR q];rfl
theorem SX(s:Int):D7 l s=some (decide (bA l s)):=by
 have hm:=hl.small;unfold D7;have e1:∀(r:eA),qJ r s=some (decide (lH r.Handle/\r.Handle % 32=s)):=by
  intro r;unfold qJ pI;rw[iU];by_cases q:lH r.Handle
  ·rw[q.mod.1];grind
  ·simp[q]
 have e2:∀x∈l,D6 x s=some (x.Rows.any λr=>decide (lH r.Handle/\r.Handle % 32=s)):=by
  intro x hx;unfold D6;have:x.Rows.length<=maxLen:=by grind[maxLen]
  rw[show(λy0=>qJ y0 s)=λr=>some (decide (lH r.Handle/\r.Handle % 32=s)) from funext e1,aKJ this];rfl
 rw[aH2 hm.2.1 (λx=>x.Rows.any λr=>decide (lH r.Handle/\r.Handle % 32=s)) _ e2];simp only[aG];congr 1;rw[P4,decide_eq_true_iff];simp only[List.any_eq_true,decide_eq_true_eq,bA,dP,aKT];grind
theorem CI.more(hk:k<l.length){r:eA}(hr:NJ r)(hn:¬bA l (r.Handle % 32)):CI (l.set k ⟨l[k].Rows++[r]⟩):=by
 have e:=PZ hk (⟨l[k].Rows++[r]⟩:bR);have p:(dP (l.set k ⟨l[k].Rows++[r]⟩)).Perm (r::dP l):=by grind[NM]
 have h1:∀x∈dP (l.set k ⟨l[k].Rows++[r]⟩),NJ x:=λx hx=>by
  rcases uI.1 (p.mem_iff.1 hx) with rfl|h
  ·exact hr
  ·exact hl.2.2.1 x h
 have h2:((dP (l.set k ⟨l[k].Rows++[r]⟩)).map HU).Nodup:=by refine(List.Perm.nodup_iff (p.map HU)).2 ?_;rw[TQ,List.nodup_cons];refine⟨λh=>hn ?_,hl.2.2.2⟩;obtain⟨x,hx,e⟩:=List.mem_map.1 h;exact⟨x,hx,(hl.2.2.1 x hx).1,e⟩
 refine⟨by simpa using hl.1,?_,h1,h2⟩;have:=aRZ 24 _ h2 (λx hx=>by
  obtain⟨y,hy,rfl⟩:=List.mem_map.1 hx;have:=(h1 y hy).1.mod;grind[HU])
 grind
end
theorem aV0{b:aA}(hb:wP b)(hs:aRU b)(hw:0<=w/\w<=2)(s:Sub) :
  ∃x y,pW b w s=some (x,y)/\pJ s b w=some (y,x)/\∃L,x=⟨b.Mem,b.aI,L,b.kZ⟩/\CI L/\∀r∈dP L,aE4 b r:=by
 have hL:=hb.1.2.2.1;have hm:=hb.1.1;have hlen:w.toNat<b.a8.length:=by have:=hL.1;omega
 have hx:idx b.a8 w=some b.a8[w.toNat]:=fQ hw.1 aa;have hg:b.Mem.aD.Global.length<=maxLen:=by rw[hm.1.2.1];simp[maxLen]
 have ho:b.Mem.aD.Own.length<=maxLen:=by rw[hm.1.2.2.1];simp[maxLen]
 have hall:(fS b.Mem.aD).length<=1073741824:=by have:=hs.1.2.2.2.2;omega
 have hrow:=hL.small.2.2.2 _ (cZ hlen);have he:=hb.1.2.1.1;unfold pW pJ lO;rw[cW,eT,tP hm.1.1.1 hall hg ho,LO hm.1.1.1 hall hg ho,eE];simp only[bN,bJ,aG,nX,uM,lN];by_cases p0:s.Pc=0
 ·simp only[p0,beq_self_eq_true,bP];exact⟨_,_,rfl,rfl,_,rfl,hL,hb.2⟩
 ·have p0' : (s.Pc == 0) = false:=aj
  simp only[p0',bO,bM];by_cases p1:s.Pc=1
  ·simp only[p1,beq_self_eq_true,bne_self_eq_false,bO,bM,bP];by_cases q1:0<=s.E/\s.E<=b.aI.aO
   ·simp only[cD q1,g8,bO,bM];by_cases q2:mY b.Mem s.A
    ·have hh:=q2.1;simp only[cD q2,g8,bO,bM,aL hh,hh.mod.1,IN hL,SX hL,aG];by_cases q3:bA b.a8 (s.A % 32)
     ·simp only[cD q3,bP];exact⟨_,_,rfl,rfl,_,rfl,hL,hb.2⟩
     ·have hmore:=hL.more hlen (r:=⟨s.A,s.E⟩) ⟨hh,q1.1,aj⟩ q3;have e:GX b.a8 w s.A s.E=some (b.a8.set w.toNat ⟨b.a8[w.toNat].Rows++[⟨s.A,s.E⟩]⟩,true):=by unfold GX xS;rw[IM hL.small.1,kC,XF hL.small.2.2.1 (λs h=>by have:=hL.small.2.2.2 s h;omega)];simp only[cD hL,cD hw,aG,g8,bO,bM,hx];rw[LJ,IM hmore.small.1,cD hmore];rfl
      simp only[dR q3,bO,bM,hx,e,aG];rw[LJ];refine⟨_,_,rfl,rfl,_,rfl,hmore,λr hr=>?_⟩;rw[PZ hlen] at hr;have hsp:=NM hlen;rcases iX.1 hr with h|h
      ·exact hb.2 r aj
      ·rcases iX.1 h with h|h
       ·rcases iX.1 h with h|h
        ·exact hb.2 r aj
        ·simp at h;subst h;exact⟨q2,q1.2⟩
       ·exact hb.2 r aj
    ·simp only[dR q2,HX,bP];exact⟨_,_,rfl,rfl,_,rfl,hL,hb.2⟩
   ·simp only[dR q1,HX,bP];exact⟨_,_,rfl,rfl,_,rfl,hL,hb.2⟩
  ·have p1':(s.Pc == 1)=false:=aj
   have p1'':(s.Pc != 1)=true:=aj
   simp only[p1',p1'',bO,bM,bP];exact⟨_,_,rfl,rfl,_,rfl,hL,hb.2⟩
def st4(b:List Int)(a:Nat)(n:Int):List Int:=(((b.set a 0).set (a+1) 0).set (a+2) 0).set (a+3) n
theorem G7(b:List Int)(a:Nat)(n:Int):(st4 b a n).length=b.length:=by simp[st4]
theorem aPJ{b:List Int}(h:qV b)(a:Nat)(hn:0<=n/\n<=255):qV (st4 b a n):=by
 have key:∀{l:List Int} (i:Nat) (v:Int),qV l->0<=v/\v<=255->qV (l.set i v):=λi v hl hv x hx=>by
  rcases rB hx with h|rfl
  ·exact hl x h
  ·exact hv
 exact key _ _ (key _ _ (key _ _ (key _ _ h aa) aa) aa) hn
theorem a0H(hn:0<=n/\n<=255):((u8 n).toNat:Int)=n:=by grind[u8,UInt8.toNat_ofNat']
theorem aPK{l:List Int}(i:Nat){v:Int}(hl:qV l)(hv:0<=v/\v<=255):qV (l.set i v):=λx hx=>by
 rcases rB hx with h|rfl
 ·exact hl x h
 ·exact hv
def MA(b:List Int)(a:Nat)(n:Int):List Int:=(((b.set a (n/16777216)).set (a+1) (n/65536 % 256)).set (a+2) (n/256 % 256)).set (a+3) (n % 256)
theorem Z5(b:List Int)(a:Nat)(n:Int):(MA b a n).length=b.length:=by simp[MA]
theorem aV1{b:List Int}(h:qV b)(a:Nat)(hn:0<=n/\n<=4294967295):qV (MA b a n):=by grind[MA,aPK]
theorem aV2(b:List Int)(a:Nat)(x y z u:Int):(((b.set (a+3) u).set (a+2) z).set (a+1) y).set a x=(((b.set a x).set (a+1) y).set (a+2) z).set (a+3) u:=by refine List.ext_getElem ae λj h1 h2=>?_;grind
theorem aLN{b:List Int}{a:Nat}(h:a+4<=b.length)(hl:b.length<=100000)(hn:0<=n/\n<=4294967295):gW b (a:Int) 4 n=some (MA b a n):=by
 have st:∀(c:List Int) (m:Int) (i:Nat),c.length=b.length->0<=m->m<=4294967295->i<4->kP (a:Int) (c,m,(i:Int))=some (.next (c.set (a+i) (m % 256),m/256,(i:Int)-1)):=λc m i hc h0 h1 hi=>by simp only[kP];rw[aL ae,cN (x:=(a:Int)+i),show(a:Int)+i=((a+i:Nat):Int) by omega,IL,aG,E3 h0,aHS h0,cN (x:=m/256),cN (x:=(i:Int)-1),BC]
 unfold gW;rw[show bC (4-1)=((3:Nat):Int) from by grind[dA]];rw[bK (st b n 3 rfl hn.1 hn.2 aa),show((3:Nat):Int)-1=((2:Nat):Int) by rfl,
  bK (st _ _ 2 ae aa aa aa),show((2:Nat):Int)-1=((1:Nat):Int) by rfl,
  bK (st _ _ 1 ae aa aa aa),show((1:Nat):Int)-1=((0:Nat):Int) by rfl,
  bK (st _ _ 0 ae aa aa aa),bH (r:=MA b a n)]
 ·rfl
 ·simp only[kP];rw[dY];have e1:n/256/256=n/65536:=aa
  have e2:n/256/256/256=n/16777216:=aa
  have e3:n/16777216 % 256=n/16777216:=aa
  simp_all[MA,aV2]
def CK(n:Int):List UInt8:=[u8 (n/16777216),u8 (n/65536),u8 (n/256),u8 n]
theorem RH(hn:0<=n/\n<=4294967295):kS n 4=some (CK n):=by
 have hw:xO 4=some true:=by grind[xO,eT]
 unfold kS;rw[hw];have e1:IntKind.u64.wrap (bC (8*4))=32:=ai
 have e2:aFB .i64 1 32=4294967296:=ai
 simp only[aG,g8,bO,bM,e1,e2];rw[pH,LU,dR aa];simp only[tZ,bO,bM];rw[LU,show bC (4-1)=((3:Nat):Int) from by grind[dA]];have st:∀(m:Int) (c:List UInt8) (i:Nat),i<c.length->i<4->0<=m->o4 (m,c,(i:Int))=some (.next (m/256,c.set i (u8 m),(i:Int)-1)):=λm c i hc hi h0=>by simp only[o4];rw[aL ae,aU hc,aG,show(8:Int)=((8:Nat):Int) from rfl,aUI h0 aa,cN,BC];rfl
 rw[bK (st n _ 3 ae aa hn.1),show((3:Nat):Int)-1=((2:Nat):Int) by rfl,
  bK (st _ _ 2 ae aa aa),show((2:Nat):Int)-1=((1:Nat):Int) by rfl,
  bK (st _ _ 1 ae aa aa),show((1:Nat):Int)-1=((0:Nat):Int) by rfl,
  bK (st _ _ 0 ae aa aa),bH (r:=CK n)]
 ·rfl
 ·simp only[o4];rw[dY];have e1:n/256/256=n/65536:=aa
  rw[e1,show n/65536/256=n/16777216 by omega];rfl
theorem OL(hn:0<=n):((u8 n).toNat:Int)=n % 256:=by
 have:u8 n=u8 (n % 256):=by grind[u8]
 grind[a0H]
theorem aR0{b:List Int}{a:Nat}(h:a+4<=b.length)(hl:b.length<=100000)(hn:0<=n/\n<=4294967295):lT b (a:Int) (CK n)=some (MA b a n):=by
 have st:∀(c:List Int) (i:Nat) (v:UInt8),c.length=b.length->i<4->idx (CK n) (i:Int)=some v->j7 b (a:Int) (CK n) (c,(i:Int))=some (.next (c.set (a+i) (v.toNat:Int),((i+1:Nat):Int))):=λc i v hc hi hv=>by simp only[j7];rw[bZ hc,aL (by grind[CK]),hv,aG,cN (x:=(a:Int)+i),show(a:Int)+i=((a+i:Nat):Int) by omega,IL,aG,cN,BC];rfl
 unfold lT;rw[show(0:Int)=((0:Nat):Int) from rfl,bK (st b 0 _ rfl aa rfl),bK (st _ 1 _ ae aa rfl),bK (st _ 2 _ ae aa rfl),bK (st _ 3 _ ae aa rfl),bH (r:=MA b a n)]
 ·grind[K0,KZ,bZ,Z5]
 ·simp only[j7];rw[bZ ae,aN (by simp[CK])];simp only[OL hn.1,OL (show 0<=n/16777216 by omega),OL (show 0<=n/65536 by omega),OL (show 0<=n/256 by omega)];rw[show n/16777216 % 256=n/16777216 by omega];rfl
theorem a0I{b:List Int}{a:Nat}(hn:0<=n/\n<=255):MA b a n=st4 b a n:=by grind[MA,st4]
theorem IP{b:List Int}{a:Nat}(h:a+4<=b.length)(hl:b.length<=100000)(hn:0<=n/\n<=255):gW b (a:Int) 4 n=some (st4 b a n):=by grind[aLN,a0I]
theorem a9F(hn:0<=n/\n<=255):CK n=[0,0,0,u8 n]:=by unfold CK;rw[show n/16777216=0 by omega,show n/65536=0 by omega,show n/256=0 by omega];rfl
theorem XG(hn:0<=n/\n<=255):kS n 4=some [0,0,0,u8 n]:=by grind[RH,a9F]
theorem VE{b:List Int}{a:Nat}(h:a+4<=b.length)(hl:b.length<=100000)(hn:0<=n/\n<=255):lT b (a:Int) [0,0,0,u8 n]=some (st4 b a n):=by rw[<-a9F hn,aR0 h hl ⟨hn.1,aa⟩,a0I hn]
theorem a5A{x y z:Int}:∀(a:Nat) (l:List Int),a+3<=l.length->cO l a [x,y,z]=((l.set a x).set (a+1) y).set (a+2) z
 |0,l,h=>by
  match l,h with
  |_::_::_::t,_=>simp[cO]
 |a + 1,l,h=>by
  match l,h with
  |u::t,h=>
   have ih:=a5A (x:=x) (y:=y) (z:=z) a t aj;grind[cO]
def a0J(p k:Nat)(c:Int):Nat:=(iW ((p:Int)*4+k) c).toNat
def gB(b:List Int)(p:Nat)(c:Int):Nat->List Int
 |0=>((b.set (p*64) 171).set (p*64+1) c).set (p*64+2) (dB c)
 |k+1=>st4 (gB b p c k) (a0J p k c) 1
theorem OM(b:List Int)(p:Nat)(c:Int):∀k,(gB b p c k).length=b.length
 |0=>by simp[gB]
 |k+1=>by rw[gB,G7,OM b p c k]
theorem aH7{l:List Int}(i:Nat){v:Int}(hl:qV l)(hv:0<=v/\v<=255):qV (l.set i v):=λx hx=>by
 rcases rB hx with h|rfl
 ·exact hl x h
 ·exact hv
theorem aNN{b:List Int}(hb:qV b)(p:Nat){c:Int}(hc:0<=c/\c<=2):∀k,qV (gB b p c k)
 |0=>by have:=mW c;exact aH7 _ (aH7 _ (aH7 _ hb aa) aa) aa
 |k+1=>aPJ (aNN hb p hc k) _ aa
def gS(p:Nat)(n:Nat):List Int:=(List.range n).map λ(i:Nat)=>(p:Int)*4+(i:Int)
theorem aH8(p n:Nat):(gS p n).length=n:=by simp[gS]
theorem aUO(p n:Nat):gS p (n+1)=gS p n++[(p:Int)*4+(n:Int)]:=by simp[gS,List.range_succ]
theorem aNO(hp:p<6)(hk:(k:Int)<dB c):iW ((p:Int)*4+k) c=(a0J p k c:Int)/\a0J p k c+4<=384:=by
 have h4:=mW c;have hm:=RD (c:=c) (i:=(k:Int)) aa hk;have hst:4<=bD c:=by have:0<=c/\c<=2:=wM.1 aa;rcases yE this with e|e|e<;>rw[e]<;>decide
 have e:iW ((p:Int)*4+k) c=(p:Int)*64+8+(k:Int)*bD c:=by unfold iW;grind
 grind[a0J]
theorem aLO(hp:p<6)(hk:k<4):rD (p:Int) (k:Int)=some ((p:Int)*4+k)/\M8 (p:Int) (k:Int)=some ((p:Int)*4+k):=by grind[dA,rD,vJ,cW,M8,D4,eT]
section
variable {b:List Int} (hb:b.length=384) {p:Nat} (hp:p<6) {c:Int} (hc:0<=c/\c<=2)
include hb hp hc
theorem aH9:loop (AB c (p:Int)) ([],0,gB b p c 0)=some (gS p (dB c).toNat,gB b p c (dB c).toNat):=by
 have h4:=mW c;refine iG (dB c).toNat (λk=>(gS p k,(k:Int),gB b p c k)) _ (λk hk=>?_) ?_
 ·have ho:=aNO (c:=c) hp (k:=k) aa;simp only[AB,H4,iH,aG];rw[cH,(aLO hp aa).1];simp only[aG,uE,ho.1];rw[IP (by grind[OM]) (by grind[OM]) aa];simp only[aG];rw[bZ (by grind[aH8]),cN,aUO];rfl
 ·simp only[AB,iH,aG];grind
theorem aR1:loop (GV c (p:Int) (dB c)) ([],0,gB b p c 0)=some (gS p (dB c).toNat,gB b p c (dB c).toNat):=by
 have h4:=mW c;refine iG (dB c).toNat (λk=>(gS p k,(k:Int),gB b p c k)) _ (λk hk=>?_) ?_
 ·have ho:=aNO (c:=c) hp (k:=k) aa;simp only[GV,NY];rw[cH,(aLO hp aa).2];simp only[aG,z6,ho.1];rw[XG aa,aG,VE (by grind[OM]) (by grind[OM]) aa];simp only[aG];rw[bZ (by grind[aH8]),cN,aUO];rfl
 ·simp only[GV];grind
end
theorem a0K(hh:XC h)(hc:0<=c/\c<=2) :
  (nW h c=some (h,[])/\FV h c=some (h,[])) \/
  ∃p,p<6/\cB h p<0/\nW h c=some (⟨gB h.Bytes p c (dB c).toNat,h.Class.set p c⟩,gS p (dB c).toNat)/\FV h c=some (⟨gB h.Bytes p c (dB c).toNat,h.Class.set p c⟩,gS p (dB c).toNat):=by
 have hs:=hh.1;have h6:=hs.2.1;have h384:=hs.1;have hp4:=mW c;have hcp:=RG (h:=h) aa aa;have hne:∀j (hj:j<6),j<h.Class.findIdx (λx=>decide (x = -1))->h.Class[j]≠-1:=λj hj hlt=>aj
 generalize hq:h.Class.findIdx (λx=>decide (x = -1))=q at hne;have hq6:q<=6:=aj
 have s1:∀k (hk:k<q),eQ h c (k:Int)=some (.next ((k+1:Nat):Int)):=λk hk=>by
  have:=hne k aa hk;have n:(h.Class[k] != -1)=true:=aj
  simp only[eQ,AA];rw[cH,IL,aG,n,aL rfl,cN];rfl
 have s2:∀k (hk:k<q),eM h.Class (-1) (k:Int)=some (.next ((k+1:Nat):Int)):=λk hk=>by
  have:=hne k aa hk;have n:((-1:Int) == h.Class[k])=false:=aj
  simp only[eM];rw[cH,IL,aG,n,cN];rfl
 have hm:h.Bytes.length<=maxLen:=by grind[maxLen]
 by_cases h5:q=6
 ·left;have a1:loop (eQ h c) 0=some (Out.brk ()):=iG q (λk=>(k:Int)) _ s1 (by simp_all[eQ]);have a2:loop (eM h.Class (-1)) 0=some (Out.brk ()):=iG q (λk=>(k:Int)) _ s2 (by simp_all[eM]);constructor
  ·unfold nW;rw[a1];rfl
  ·unfold FV l4;rw[a2,hcp,LM hm,jF,cD hh,cD hc];rfl
 ·right;have hq5:q<6:=aa
  have he:h.Class[q] = -1:=aj
  refine⟨q,hq5,by grind[VZ],?_,?_⟩
  ·have a1:loop (eQ h c) 0=some (Out.ret (⟨gB h.Bytes q c (dB c).toNat,h.Class.set q c⟩,gS q (dB c).toNat)):=iG q (λk=>(k:Int)) _ s1 (by
    have e0:bC ((q:Int)*64)=((q*64:Nat):Int):=by grind[dA]
    have e1:bC (((q*64:Nat):Int)+1)=((q*64+1:Nat):Int):=by grind[dA]
    have e2:bC (((q*64:Nat):Int)+2)=((q*64+2:Nat):Int):=by grind[dA]
    have n:(h.Class[q] != -1)=false:=aj
    simp only[eQ,e0,e1,e2,BC];rw[cH,IL,aG,n,dY,IL,aG,aU ah,aG,iH,aG,aU ah,aG];have:=aH9 h384 hq5 hc;simp only[gB] at this;rw[this];rfl)
   unfold nW;rw[a1];rfl
  ·have a2:loop (eM h.Class (-1)) 0=some (Out.ret (q:Int)):=iG q (λk=>(k:Int)) _ s2 (by
    have n:((-1:Int) == h.Class[q])=true:=by rw[he];rfl
    simp only[eM];rw[cH,IL,aG,n];rfl)
   unfold FV l4;rw[a2,hcp,LM hm,jF,cD hh,cD hc];have e0:bC ((q:Int)*64)=((q*64:Nat):Int):=by grind[dA]
   simp only[aG,yT,g8,bO,bM,zP,e0,A9,NZ,BC];rw[dR aa,dY,IL,aG,LU,a5A _ _ aa];have:=aR1 h384 hq5 hc;simp only[gB] at this;rw[this];rfl
theorem LOk.count{l:aD}(h:LOk l):(fS l).length<=24:=aRZ 24 _ h.2.2.2.2 (λx hx=>by have:=h.2.2.2.1 x hx;omega)
theorem aV3(hs:eY m.Heap)(hc:0<=bW m.Heap s):∃h,tS m s=some h/\GW m s=some h:=by
 unfold tS GW GI N0 pT xP;rw[pC hs hc,G5 hs hc,aG,aG,cW,cW,wN,eT];have h1:=(NI hc).1;simp only[cD h1,aG,g8,bO,bM];by_cases q:1<=l8 m.Heap s/\l8 m.Heap s<=6
 ·simp only[cD q,g8,bO,bM];exact⟨_,rfl,rfl⟩
 ·simp only[dR q,HX,bP];exact⟨_,rfl,rfl⟩
theorem X5(hk:k<l.length)(t:List Int):(eZ (l.set k ⟨l[k].aR++t⟩)).length=(eZ l).length+t.length:=by grind[KK,HV]
def bt(b:List Int)(i:Nat):Int:=b.getD i 0
theorem aR2{b:List Int}(h:i<b.length):b[i]=bt b i:=by grind[bt]
theorem ld4{b:List Int}{a:Nat}(h:a+4<=b.length):ld b a 4=((bt b a*256+bt b (a+1))*256+bt b (a+2))*256+bt b (a+3):=by grind[ld,BW,ldF,aR2]
theorem ON{b:List Int}{j:Nat}{v:Int}(hi:i<b.length):bt (b.set i v) j=if j=i then v else bt b j:=by grind[bt]
theorem IQ{b:List Int}{a:Nat}(h:a+4<=b.length)(j:Nat):bt (st4 b a n) j=if j=a+3 then n else if a<=j/\j<a+3 then 0 else bt b j:=by unfold st4;rw[ON ah,ON ah,ON ah,ON aa];omega
theorem aR3{b:List Int}{a:Nat}(h:a+4<=b.length):ld (st4 b a n) a 4=n:=by simp_all[ld4,G7,IQ]
theorem RI{b b':List Int}{a:Nat}(h:a+4<=b.length)(hl:b'.length=b.length)(hs:∀j,a<=j->j<a+4->bt b' j=bt b j):ld b' a 4=ld b a 4:=by simp_all[ld4]
def Z6(h:Heap)(p:Nat):Prop:=
 if cB h p<0 then ∀k,k<64->bt h.Bytes (p*64+k)=0
 else((bt h.Bytes (p*64)=171/\bt h.Bytes (p*64+1)=cB h p/\bt h.Bytes (p*64+2)=dB (cB h p))/\(∀k,3<=k->k<8->bt h.Bytes (p*64+k)=0)/\∀i,i<(dB (cB h p)).toNat->1<=ld h.Bytes (p*64+8+i*(bD (cB h p)).toNat) 4/\ld h.Bytes (p*64+8+i*(bD (cB h p)).toNat) 4<=7)
theorem aLP(hs:eY h)(hp:p<6)(hk:k<64):(fL h p).getD k 0=bt h.Bytes (p*64+k):=by rw[<-aLJ hs hp hk,aR2 (by have:=hs.1;omega)]
theorem Z7{l:List Int}:x∈l↔∃k,k<l.length/\l.getD k 0=x:=by
 rw[YC];constructor
 ·rintro⟨k,hk,e⟩;exact⟨k,hk,aj⟩
 grind
theorem HW(hs:eY h)(hp:p<6):nA h p↔Z6 h p:=by
 unfold nA Z6;have hl:=PT hs hp;split
 ·constructor
  ·intro q k hk;rw[<-aLP hs hp hk];exact q _ (Z7.2 ⟨k,aa,rfl⟩)
  grind[Z7,aLP]
 ·rw[aLP hs hp aa,aLP hs hp aa,aLP hs hp aa];have e:(∀x∈((fL h p).drop 3).take 5,x=0)↔∀k,3<=k->k<8->bt h.Bytes (p*64+k)=0:=by
   have g:∀j,j<5->(((fL h p).drop 3).take 5).getD j 0=bt h.Bytes (p*64+(3+j)):=λj hj=>by rw[<-aLP hs hp aa,RP,RP,aBX,aL hj,List.getElem?_drop]
   constructor
   ·intro q k h3 h8;have:=q _ (Z7.2 ⟨k-3,aj,rfl⟩);grind
   ·intro q x hx;obtain⟨k,hk,rfl⟩:=Z7.1 hx;simp[hl] at hk;rw[g _ hk];exact q _ aa aa
  rw[e];rfl
theorem Z6.same{h':Heap}(hp:p<6)(hs:eY h)(hl:h'.Bytes.length=h.Bytes.length)(hc:cB h' p=cB h p)(hb:∀k,k<64->bt h'.Bytes (p*64+k)=bt h.Bytes (p*64+k))(q:Z6 h p):Z6 h' p:=by
 have h1:=hs.1;unfold Z6 at q ⊢;rw[hc];split
 ·grind
 ·rename_i q0;rw[aN q0] at q;obtain⟨⟨a1,a2,a3⟩,a4,a5⟩:=q;have b0:=hb 0 aa;have b1:=hb 1 aa;have b2:=hb 2 aa;simp only[WM] at b0;refine⟨⟨aa,aa,aa⟩,λk k3 k8=>aj,λi hi=>?_⟩;have hz:=uF hs hp (c:=cB h p) rfl hi;rw[RI (b:=h.Bytes) aa hl λj j1 j2=>by
   have:=hb (j-p*64) aa;grind]
  grind
theorem E5(hc:0<=bW h s):∃p i,p<6/\i<(dB (cB h p)).toNat/\s=(p:Int)*4+i/\bW h s=cB h p/\(iW s (bW h s)).toNat=p*64+8+i*(bD (cB h p)).toNat/\(s/4).toNat=p:=by obtain⟨h1,h2,h3⟩:=NI hc;have hle:=mW (cB h (s/4).toNat);refine⟨(s/4).toNat,(s % 4).toNat,aa,aa,aa,h3,?_,rfl⟩;rw[h3];unfold iW;rw[aL ⟨h1,aa⟩];grind[bD]
theorem RJ{j:Nat}(hi:i<(dB c).toNat)(hj:j<(dB c).toNat)(hn:i≠j):i*(bD c).toNat+4<=j*(bD c).toNat\/j*(bD c).toNat+4<=i*(bD c).toNat:=by
 have hc:0<=c/\c<=2:=wM.1 aa;have h12:12<=(bD c).toNat:=by rcases yE hc with rfl|rfl|rfl<;>decide
 rcases Nat.lt_or_gt_of_ne hn with q|q
 ·left;have:(i+1)*(bD c).toNat<=j*(bD c).toNat:=sL _ q;rw[l9] at this;omega
 ·right;have:(j+1)*(bD c).toNat<=i*(bD c).toNat:=sL _ q;rw[l9] at this;omega
theorem XC.a7C(hh:XC h){g:Int}(hc:0<=bW h s)(hg:1<=g/\g<=7) :
  XC ⟨st4 h.Bytes (iW s (bW h s)).toNat g,h.Class⟩/\∀t,0<=bW h t->l8 ⟨st4 h.Bytes (iW s (bW h s)).toNat g,h.Class⟩ t=if t=s then g else l8 h t:=by
 obtain⟨hs,hp⟩:=hh;have h384:=hs.1;have hs':eY ⟨st4 h.Bytes (iW s (bW h s)).toNat g,h.Class⟩:=⟨by grind[G7],hs.2.1,aPJ hs.2.2.1 _ aa,hs.2.2.2⟩;obtain⟨p,i,p6,hi,es,ec,eo,ep⟩:=E5 hc;have hz:=uF hs p6 rfl hi;have h4:=mW (cB h p);refine⟨⟨hs',λq hq=>?_⟩,λt ht=>?_⟩
 ·rw[HW hs' hq];have hold:=(HW hs hq).1 (hp q hq);by_cases e:q=p
  ·subst e;have hpos:0<dB (cB h q):=aa
   have hcl:¬cB h q<0:=aa
   unfold Z6 at hold ⊢;have hcl':cB ⟨st4 h.Bytes (iW s (bW h s)).toNat g,h.Class⟩ q=cB h q:=rfl;rw[hcl'];rw[aN hcl] at hold ⊢;obtain⟨⟨a1,a2,a3⟩,a4,a5⟩:=hold;have bs:∀k,k<8->bt (st4 h.Bytes (iW s (bW h s)).toNat g) (q*64+k)=bt h.Bytes (q*64+k):=λk hk=>by rw[IQ aa,m9,m9]
   have b0:=bs 0 aa;have b1:=bs 1 aa;have b2:=bs 2 aa;simp only[WM] at b0;refine⟨⟨aj,aj,aj⟩,λk k3 k8=>aj,λj hj=>?_⟩;have hzj:=uF hs p6 rfl hj;by_cases ej:j=i
   ·grind[aR3]
   ·rw[RI (b:=h.Bytes) aa (by grind[G7]) λk k1 k2=>?_]
    ·grind
    ·simp only[eo];have:=RJ hi hj (λq=>ej q.symm);rw[IQ aa,m9,m9]
  ·refine Z6.same hq hs (by grind[G7]) rfl (λk hk=>?_) hold;rw[IQ aa,m9,m9]
 ·have e2:bW ⟨st4 h.Bytes (iW s (bW h s)).toNat g,h.Class⟩ t=bW h t:=rfl;unfold l8;rw[e2];by_cases e:t=s
  ·subst e;rw[aL rfl];grind[aR3]
  ·rw[aN e];obtain⟨p',i',p6',hi',es',ec',eo',ep'⟩:=E5 ht;have hz':=uF hs p6' rfl hi';rw[RI (b:=h.Bytes) aa (by grind[G7]) λk k1 k2=>?_];simp only;by_cases ee:p'=p
   ·subst ee;have:=RJ hi hi' (λq=>e aa);rw[IQ aa,m9,m9]
   ·have h4':=mW (cB h p');rw[IQ aa,m9,m9]
theorem aE5(hp:p<6)(hk:(k:Int)<dB c):a0J p k c=p*64+8+k*(bD c).toNat/\8+k*(bD c).toNat+4<=64:=by have hc:0<=c/\c<=2:=wM.1 aa;have h1:=aNO (c:=c) hp hk;have hle:=mW c;have e:=h1.1;unfold iW at e;rw[aL aa] at e;grind[bD,dB]
theorem a5B{b:List Int}{p:Nat}{c:Int}(hl:b.length=384)(hp:p<6)(hc:0<=c/\c<=2):∀k:Nat,(k:Int)<=dB c->∀j,(j<p*64\/p*64+64<=j->bt (gB b p c k) j=bt b j)/\(3<=j->j<8->bt (gB b p c k) (p*64+j)=bt b (p*64+j))/\bt (gB b p c k) (p*64)=171/\bt (gB b p c k) (p*64+1)=c/\bt (gB b p c k) (p*64+2)=dB c
 |0,hk,j=>by
  have key:∀i,bt (gB b p c 0) i=if i=p*64+2 then dB c else if i=p*64+1 then c else if i=p*64 then 171 else bt b i:=λi=>by grind[gB,ON]
  grind
 |k + 1,hk,j=>by
  have ih:=a5B hl hp hc k aa;have hoff:=aE5 (c:=c) hp (by omega:(k:Int)<dB c);have hbl:=OM b p c k;unfold gB;refine⟨λh=>?_,λh1 h2=>?_,?_,?_,?_⟩
  ·rw[IQ aa,m9,m9];grind
  ·rw[IQ aa,m9,m9];grind
  ·rw[IQ aa,m9,m9];exact(ih j).2.2.1
  ·rw[IQ aa,m9,m9];exact(ih j).2.2.2.1
  ·rw[IQ aa,m9,m9];exact(ih j).2.2.2.2
theorem a0L{b:List Int}{p:Nat}{c:Int}(hl:b.length=384)(hp:p<6):∀k:Nat,(k:Int)<=dB c->∀i,i<k->ld (gB b p c k) (p*64+8+i*(bD c).toNat) 4=1
 |0,_,i,h=>absurd h aa
 |k + 1,hk,i,h=>by
  have hbl:=OM b p c k;have ho:=aE5 (c:=c) hp (by omega:(k:Int)<dB c);unfold gB;by_cases e:i=k
  ·grind[aR3]
  ·have hoi:=aE5 (c:=c) hp (by omega:(i:Int)<dB c);have ha:=RJ (c:=c) (i:=i) (j:=k) aa aa e;rw[RI (b:=gB b p c k) aa (by rw[G7]) λj j1 j2=>by rw[IQ aa,m9,m9]];exact a0L hl hp k aa i aa
theorem Z8(hs:eY h){B:List Int}{q:Nat}(hq:q<6):cB ⟨B,h.Class.set p c⟩ q=if q=p then c else cB h q:=by have h6:=hs.2.1;grind[cB]
theorem XC.a9G(hh:XC h)(hp:p<6)(hun:cB h p<0)(hc:0<=c/\c<=2) :
  XC ⟨gB h.Bytes p c (dB c).toNat,h.Class.set p c⟩/\(∀t,(t/4).toNat≠p->bW ⟨gB h.Bytes p c (dB c).toNat,h.Class.set p c⟩ t=bW h t)/\(∀t,0<=bW h t->(t/4).toNat≠p/\l8 ⟨gB h.Bytes p c (dB c).toNat,h.Class.set p c⟩ t=l8 h t) /\
   ∀i,i<(dB c).toNat->bW ⟨gB h.Bytes p c (dB c).toNat,h.Class.set p c⟩ ((p:Int)*4+i)=c/\l8 ⟨gB h.Bytes p c (dB c).toNat,h.Class.set p c⟩ ((p:Int)*4+i)=1:=by
 obtain⟨hs,hpg⟩:=hh;have h384:=hs.1;have hle:=mW c;have hpn:((dB c).toNat:Int)<=dB c:=aa
 have hb:=a5B h384 hp hc (dB c).toNat hpn;have hbl:=OM h.Bytes p c (dB c).toNat;have hs':eY ⟨gB h.Bytes p c (dB c).toNat,h.Class.set p c⟩:=⟨by simp only[hbl];exact h384,by simp only[bV];exact hs.2.1,aNN hs.2.2.1 p hc _,λx hx=>by
  rcases rB hx with q|rfl
  ·exact hs.2.2.2 x q
  ·omega⟩
 have hcls:∀t:Int,(t/4).toNat≠p->bW ⟨gB h.Bytes p c (dB c).toNat,h.Class.set p c⟩ t=bW h t:=λt ht=>by
  unfold bW;by_cases q:0<=t/\t<=23
  ·rw[Z8 hs aa,aN ht]
  ·rw[aN (λz=>q z.1),aN (λz=>q z.1)]
 refine⟨⟨hs',λq hq=>?_⟩,hcls,λt ht=>?_,λi hi=>?_⟩
 ·rw[HW hs' hq];have hold:=(HW hs hq).1 (hpg q hq);by_cases e:q=p
  ·subst e;unfold Z6 at hold ⊢;rw[aL hun] at hold;rw[Z8 hs hq,aL rfl,m9];refine⟨(hb 0).2.2,λk k3 k8=>?_,λi hi=>?_⟩
   ·simp only;rw[(hb k).2.1 k3 k8];exact hold k aa
   ·simp only;rw[a0L h384 hp _ hpn i hi];omega
  ·refine Z6.same hq hs (by simp only[hbl]) (by rw[Z8 hs hq,aN e]) (λk hk=>?_) hold;exact(hb _).1 aa
 ·obtain⟨p',i',p6',hi',es',ec',eo',ep'⟩:=E5 ht;have hne:(t/4).toNat≠p:=λz=>by rw[ec',<-ep',z] at ht;omega
  refine⟨hne,?_⟩;have hz':=uF hs p6' rfl hi';unfold l8;rw[hcls t hne,RI (b:=h.Bytes) aa (by simp only[hbl]) λk k1 k2=>(hb k).1 aa]
 ·have e1:((p:Int)*4+i)/4=p:=aa
  have e2:((p:Int)*4+i) % 4=i:=aa
  have ec:bW ⟨gB h.Bytes p c (dB c).toNat,h.Class.set p c⟩ ((p:Int)*4+i)=c:=by unfold bW;rw[e1,e2,BC,Z8 hs hp,aL rfl,aL aa]
  refine⟨ec,?_⟩;unfold l8;rw[ec];have ho:=aE5 (c:=c) hp (by omega:(i:Int)<dB c);have:(iW ((p:Int)*4+i) c).toNat=p*64+8+i*(bD c).toNat:=ho.1;rw[this];exact a0L h384 hp _ hpn i hi
def wQ(m m':Mem)(k:Int):Prop:=nQ m'/\∀s,pD m s=3->s≠k->pD m' s=3/\l8 m'.Heap s=l8 m.Heap s/\bW m'.Heap s=bW m.Heap s
theorem wQ.refl(h:nQ m)(k:Int):wQ m m k:=⟨h,λ_ h _=>⟨h,rfl,rfl⟩⟩
theorem wQ.live{m':Mem}{k h:Int}(q:wQ m m' k)(hl:mY m h)(hn:h % 32≠k):mY m' h:=by obtain⟨h1,h2,h3⟩:=hl;obtain⟨a,b,_⟩:=q.2 _ h2 hn;exact⟨h1,a,aa⟩
theorem NN{j:Nat}(hk:k<l.length){t:aW}:gN (l.set k t) j=if j=k then t.aR else gN l j:=by grind[gN]
theorem aLQ(hk:k<l.length){t:aW}(ht:t.aR.Sublist l[k].aR):(eZ (l.set k t)).Sublist (eZ l):=by grind[KK,HV]
theorem Z9(hk:k<l.length):s∈eZ (l.set k ⟨l[k].aR++xs⟩)↔s∈eZ l\/s∈xs:=by grind[KK,HV]
theorem VF(hk:k<l.length){r q:List Int}(h:(q++(eZ l++r)).Nodup)(hx:xs.Nodup)(hd:∀x∈xs,x∉q++(eZ l++r)):(q++(eZ (l.set k ⟨l[k].aR++xs⟩)++r)).Nodup:=by
 have hp:(q++(eZ (l.set k ⟨l[k].aR++xs⟩)++r)).Perm (xs++(q++(eZ l++r))):=by rw[KK hk,HV hk];grind
 grind
theorem qX:pD m s=3↔0<=bW m.Heap s/\s∉fS m.aD/\l8 m.Heap s<=6:=by unfold pD;grind
section
variable {m:Mem} (hm:nQ m)
include hm
theorem nQ.a7D(hk:k<9){t:aW}(ht:t.aR.Sublist (gN m.aD.Own k)):wQ m ⟨m.Heap,⟨m.aD.Global,m.aD.Own.set k t⟩⟩ (-1):=by
 obtain⟨⟨hh,h3,h9,h2,hr,hn⟩,hg,ho⟩:=hm;have hk':k<m.aD.Own.length:=aa
 have ht':t.aR.Sublist m.aD.Own[k].aR:=by grind[eJ]
 have hsub:(fS ⟨m.aD.Global,m.aD.Own.set k t⟩).Sublist (fS m.aD):=(List.Sublist.refl _).append (aLQ hk' ht');refine⟨⟨⟨hh,h3,aj,λs hs=>?_,λx hx=>hr x (hsub.subset hx),hsub.nodup hn⟩,hg,λj hj=>?_⟩,λs hs _=>⟨?_,rfl,rfl⟩⟩
 ·grind
 ·unfold FA;simp only[NN hk'];split
  ·rename_i e;subst e;exact λx hx=>ho j hj x (ht.subset hx)
  ·exact ho j hj
 grind[qX]
theorem nQ.aV4(hk:k<3){t:aW}(ht:t.aR.Sublist (gN m.aD.Global k)):wQ m ⟨m.Heap,⟨m.aD.Global.set k t,m.aD.Own⟩⟩ (-1):=by
 obtain⟨⟨hh,h3,h9,h2,hr,hn⟩,hg,ho⟩:=hm;have hk':k<m.aD.Global.length:=aa
 have ht':t.aR.Sublist m.aD.Global[k].aR:=by grind[eJ]
 have hsub:(fS ⟨m.aD.Global.set k t,m.aD.Own⟩).Sublist (fS m.aD):=(aLQ hk' ht').append (List.Sublist.refl _);refine⟨⟨⟨hh,aj,h9,h2,λx hx=>hr x (hsub.subset hx),hsub.nodup hn⟩,λj hj=>?_,ho⟩,λs hs _=>⟨?_,rfl,rfl⟩⟩
 ·unfold OG;simp only[NN hk'];split
  ·rename_i e;subst e;exact λx hx=>hg j hj x (ht.subset hx)
  ·exact hg j hj
 grind[qX]
theorem nQ.a3W(hk:k<9)(hl:(gN m.aD.Own k).length+xs.length<=2)(hx:xs.Nodup)(hf:E4 m.Heap xs ((k % 3:Nat):Int))(hd:∀x∈xs,x∉fS m.aD)(hk':k<m.aD.Own.length) :
  nQ ⟨m.Heap,⟨m.aD.Global,m.aD.Own.set k ⟨m.aD.Own[k].aR++xs⟩⟩⟩/\∀s,s∉xs->pD m s=3->pD ⟨m.Heap,⟨m.aD.Global,m.aD.Own.set k ⟨m.aD.Own[k].aR++xs⟩⟩⟩ s=3:=by
 obtain⟨⟨hh,h3,h9,h2,hr,hn⟩,hg,ho⟩:=hm;have hmem:∀s,s∈fS ⟨m.aD.Global,m.aD.Own.set k ⟨m.aD.Own[k].aR++xs⟩⟩↔s∈fS m.aD\/s∈xs:=λs=>by simp[fS,Z9,or_assoc]
 have hcl:∀x∈xs,0<=x/\x<=23:=λx h=>by have:=(hf x h).1;exact(NI (h:=m.Heap) (s:=x) aa).1
 refine⟨⟨⟨hh,h3,aj,λs hs=>?_,λx hx=>?_,?_⟩,hg,λj hj=>?_⟩,λs hs h3=>?_⟩
 ·grind[eJ]
 ·grind
 ·have:=VF (q:=eZ m.aD.Global) (r:=[]) hk' (by grind[fS]) hx (by grind[fS]);grind[fS]
 ·unfold FA;simp only[NN hk'];split
  ·rename_i e;subst e;intro x hx;rcases iX.1 hx with q|q
   ·rw[eJ hk'] at q;exact ho j hj x q
   ·exact hf x q
  ·exact ho j hj
 grind[qX]
theorem nQ.aIA(hk:k<3)(hx:xs.Nodup)(hf:E4 m.Heap xs (k:Int))(hd:∀x∈xs,x∉fS m.aD)(hk':k<m.aD.Global.length) :
  nQ ⟨m.Heap,⟨m.aD.Global.set k ⟨m.aD.Global[k].aR++xs⟩,m.aD.Own⟩⟩/\∀s,s∉xs->pD m s=3->pD ⟨m.Heap,⟨m.aD.Global.set k ⟨m.aD.Global[k].aR++xs⟩,m.aD.Own⟩⟩ s=3:=by
 obtain⟨⟨hh,h3,h9,h2,hr,hn⟩,hg,ho⟩:=hm;have hmem:∀s,s∈fS ⟨m.aD.Global.set k ⟨m.aD.Global[k].aR++xs⟩,m.aD.Own⟩↔s∈fS m.aD\/s∈xs:=λs=>by simp[fS,Z9,or_right_comm]
 have hcl:∀x∈xs,0<=x/\x<=23:=λx h=>by have:=(hf x h).1;exact(NI (h:=m.Heap) (s:=x) aa).1
 refine⟨⟨⟨hh,aj,h9,h2,λx hx=>?_,?_⟩,λj hj=>?_,ho⟩,λs hs h3=>?_⟩
 ·grind
 ·have:=VF (q:=[]) (r:=eZ m.aD.Own) hk' (by grind[fS]) hx (by grind[fS]);grind[fS]
 ·unfold OG;simp only[NN hk'];split
  ·rename_i e;subst e;intro x hx;rcases iX.1 hx with q|q
   ·rw[eJ hk'] at q;exact hg j hj x q
   ·exact hf x q
  ·exact hg j hj
 grind[qX]
theorem nQ.VG(hx:x∈fS m.aD):0<=bW m.Heap x/\l8 m.Heap x<=6:=by
 obtain⟨⟨hh,h3,h9,h2,hr,hn⟩,hg,ho⟩:=hm;have key:∀(l:List aW),x∈eZ l->∃k,k<l.length/\x∈gN l k:=λl h=>by grind[V2,YC,eJ]
 rcases iX.1 hx with q|q
 ·obtain⟨k,hk,h⟩:=key _ q;have:=hg k aa x h;omega
 ·obtain⟨k,hk,h⟩:=key _ q;have:=ho k aa x h;omega
theorem nQ.heap{h':Heap}(hh:XC h')(hs:∀x∈fS m.aD,bW h' x=bW m.Heap x/\l8 h' x=l8 m.Heap x):nQ ⟨h',m.aD⟩:=by
 obtain⟨⟨_,hl⟩,hg,ho⟩:=hm;have key:∀(l:List aW) k x,x∈gN l k->x∈eZ l:=λl k x h=>by grind[gN,V2]
 refine⟨⟨hh,hl⟩,λk hk x hx=>?_,λk hk x hx=>?_⟩
 ·obtain⟨a,b⟩:=hs x (List.mem_append_left _ (key _ k x hx));show bW h' x=_/\l8 h' x<=6;rw[a,b];exact hg k hk x hx
 ·obtain⟨a,b⟩:=hs x (List.mem_append_right _ (key _ k x hx));show bW h' x=_/\l8 h' x<=6;rw[a,b];exact ho k hk x hx
theorem nQ.bA4{g:Int}(hu:pD m s=3)(hg:1<=g/\g<=7):wQ m ⟨⟨st4 m.Heap.Bytes (iW s (bW m.Heap s)).toNat g,m.Heap.Class⟩,m.aD⟩ s/\l8 ⟨st4 m.Heap.Bytes (iW s (bW m.Heap s)).toNat g,m.Heap.Class⟩ s=g:=by
 have hu':=qX.1 hu;obtain⟨a,b⟩:=XC.a7C hm.1.1 hu'.1 hg;refine⟨⟨nQ.heap hm a λx hx=>⟨rfl,?_⟩,λt ht hn=>?_⟩,aj⟩
 ·rw[b x (nQ.VG hm hx).1,aN (show ¬x=s from λe=>hu'.2.1 (e ▸ hx))]
 ·have ht':=qX.1 ht;have e:l8 ⟨st4 m.Heap.Bytes (iW s (bW m.Heap s)).toNat g,m.Heap.Class⟩ t=l8 m.Heap t:=aj
  exact⟨qX.2 ⟨ht'.1,ht'.2.1,aj⟩,e,rfl⟩
theorem nQ.a9H(hp:p<6)(hun:cB m.Heap p<0)(hc:0<=c/\c<=2)(hxs:∀x∈xs,∃i,i<(dB c).toNat/\x=(p:Int)*4+(i:Nat))(hx:xs.Nodup)(hk':c.toNat<m.aD.Global.length) :
  wQ m ⟨⟨gB m.Heap.Bytes p c (dB c).toNat,m.Heap.Class.set p c⟩,⟨m.aD.Global.set c.toNat ⟨m.aD.Global[c.toNat].aR++xs⟩,m.aD.Own⟩⟩ (-1):=by
 obtain⟨a,b,d,e⟩:=XC.a9G hm.1.1 hp hun hc;have h1:nQ ⟨⟨gB m.Heap.Bytes p c (dB c).toNat,m.Heap.Class.set p c⟩,m.aD⟩:=nQ.heap hm a λx hx=>by grind[nQ.VG]
 have hno:∀x∈xs,¬0<=bW m.Heap x:=λx h q=>by obtain⟨i,hi,rfl⟩:=hxs x h;have h4:=mW c;exact(d _ q).1 aa
 obtain⟨f,g⟩:=nQ.aIA h1 (k:=c.toNat) aa hx (λx h=>by
  obtain⟨i,hi,rfl⟩:=hxs x h
  (simp_all;omega)) (λx h q=>hno x h (nQ.VG hm q).1) hk'
 refine⟨f,λs hs _=>?_⟩;grind[qX]
end
theorem a7E{n:Nat}(h:x∈gS p n):∃i,i<n/\x=(p:Int)*4+(i:Nat):=by grind[gS]
theorem a0M(p n:Nat):(gS p n).Nodup:=by grind[gS,List.nodup_range]
theorem aPL(hm:nQ m)(hc:0<=c/\c<=2) :
  ∃m' s,xD m c=some (m',s)/\J1 m c=some (m',s)/\BU m'/\(0<=s->eY m'.Heap/\0<=bW m'.Heap s)/\wQ m m' (-1):=by
 have hl:=hm.1.2;have hcnt:=hl.count;have hs:=hm.1.1.1;have hsl:=hl.aCF aa;have hp4:=mW c;have hpp:0<dB c:=wM.2 hc;have hall:=tO m.aD;have hsG:∀s∈m.aD.Global,s.aR.length<=24:=λs h=>by have:=HT h;omega
 have hsO:∀s∈m.aD.Own,s.aR.length<=24:=λs h=>by have:=HT h;omega
 have h3:=hl.1;have h9:=hl.2.1;have hcpl:=OK (l:=m.aD) aa aa (λs h=>aj) (λs h=>aj);unfold xD J1;rcases a0K hm.1.1 hc with ⟨e1,e2⟩|⟨p,hp,hun,e1,e2⟩
 ·rw[e1,e2,hcpl];have h1:=hs.1;have h2:=hs.2.1;exact⟨_,_,rfl,rfl,⟨aj,aj,aj,aj,aj⟩,λh=>absurd h aa,wQ.refl hm _⟩
 ·rw[e1,e2,hcpl];simp only[aG,IA,H9,AD,aH8];have hn:(((dB c).toNat:Int) == 0)=false:=aj
  have hk:c.toNat<m.aD.Global.length:=aa
  have hg0:=hsG _ (cZ hk);have hx:idx m.aD.Global c=some m.aD.Global[c.toNat]:=fQ hc.1 aa;have hz:idx (gS p (dB c).toNat) 0=some ((p:Int)*4):=by grind[aU,gS]
  have hlen:(List.drop (1:Int).toNat (List.take (dB c).toNat (gS p (dB c).toNat))).length<=4:=aj
  simp only[hn,bO,bM,hx,aG,hz];rw[LU,LU];have hcl:cB ⟨gB m.Heap.Bytes p c (dB c).toNat,m.Heap.Class.set p c⟩ p=c:=by grind[cB]
  refine⟨_,_,rfl,rfl,⟨by simp only[OM];have:=hs.1;omega,by simp only[bV];have:=hs.2.1;omega,aj,aj,?_⟩,λ_=>⟨⟨by simp only[OM];exact hs.1,by simp only[bV];exact hs.2.1,aNN hs.2.2.1 p hc _,λx hx=>?_⟩,?_⟩,?_⟩
  ·grind[tO,X5]
  ·rcases rB hx with h|rfl
   ·exact hs.2.2.2 x h
   ·omega
  ·unfold bW
   (simp_all;omega)
  grind[nQ.a9H,a7E,a0M]
theorem aR4(n:Int):∃c,xB n=some c/\JY n=some c/\(c = -1\/(0<=c/\c<=2)):=by
 have s1:∀k,0<=k/\k<=2->fJ n k=some (if 1<=n/\n<=jU k then .stop (Out.ret k) else .next (k+1)):=λk hk=>by simp only[fJ];rw[cH,LK,aG,cW,aG,cN];grind
 have s2:∀k,0<=k/\k<=2->jD n k=some (if 1<=n/\n<=jU k then .stop (Out.ret k) else .next (k+1)):=λk hk=>by simp only[jD,AQ];rw[cH,U3,aG,cN];grind
 have st:∀k,0<=k/\k<=2->1<=n/\n<=jU k->loop (fJ n) k=some (Out.ret k)/\loop (jD n) k=some (Out.ret k):=λk hk h=>
  ⟨bH aj,bH aj⟩
 have nx:∀k,0<=k/\k<=2->¬(1<=n/\n<=jU k)->loop (fJ n) k=loop (fJ n) (k+1)/\loop (jD n) k=loop (jD n) (k+1):=λk hk h=>
  ⟨bK aj,bK aj⟩
 unfold xB JY;by_cases q0:1<=n/\n<=jU 0
 ·have:=st 0 aa q0;rw[this.1,this.2];exact⟨_,rfl,rfl,.inr aa⟩
 ·have h0:=nx 0 aa q0;rw[h0.1,h0.2,show(0:Int)+1=1 from rfl];by_cases q1:1<=n/\n<=jU 1
  ·have:=st 1 aa q1;rw[this.1,this.2];exact⟨_,rfl,rfl,.inr aa⟩
  ·have h1:=nx 1 aa q1;rw[h1.1,h1.2,show(1:Int)+1=2 from rfl];by_cases q2:1<=n/\n<=jU 2
   ·have:=st 2 aa q2;rw[this.1,this.2];exact⟨_,rfl,rfl,.inr aa⟩
   ·have h2:=nx 2 aa q2;rw[h2.1,h2.2,show(2:Int)+1=3 from rfl,bH (body:=fJ n) (r:=Out.brk ()) (by simp[fJ]),bH (body:=jD n) (r:=Out.brk ()) (by simp[jD])];exact⟨_,rfl,rfl,.inl rfl⟩
theorem a0N{s:aW}(hl:s.aR.length<=1048576):∃t x,oW s=some (t,x)/\vW s=some (x,t)/\t.aR.length<=s.aR.length/\(0<=x->x∈s.aR)/\t.aR.Sublist s.aR:=by
 unfold oW vW GG;rw[cN];by_cases q:s.aR.length=0
 ·rw[aL aj,cH];grind
 ·have hx:idx s.aR ((s.aR.length:Int)-1)=some (s.aR[s.aR.length-1]' aa):=by grind[aU]
  rw[aN aj,pH,LU,hx];simp only[aG];grind[bZ]
theorem P0(hw:0<=w/\w<=2)(hc:0<=c/\c<=2):vH w c=some (w*3+c)/\KY w c=some (w*3+c):=by grind[dA,vH,zE,cW,KY,GR,kC,jF]
theorem aIB(hk:k<l.length){t:aW}(ht:t.aR.length<=l[k].aR.length):(eZ (l.set k t)).length<=(eZ l).length:=by grind[KK,HV]
section
variable {m:Mem} (hm:nQ m)
include hm
theorem nQ.facts:(fS m.aD).length<=24/\m.aD.Global.length=3/\m.aD.Own.length=9/\m.Heap.Bytes.length=384/\m.Heap.Class.length=6/\BU m/\iB m.aD=some m.aD/\oE m.aD=some true /\
  (∀s∈m.aD.Global,s.aR.length<=24)/\(∀s∈m.aD.Own,s.aR.length<=24):=by
 have hl:=hm.1.2;have hcnt:=hl.count;have hall:=tO m.aD;have hsG:∀s∈m.aD.Global,s.aR.length<=24:=λs h=>by have:=HT h;omega
 have hsO:∀s∈m.aD.Own,s.aR.length<=24:=λs h=>by have:=HT h;omega
 have h3:=hl.1;have h9:=hl.2.1;have h1:=hm.1.1.1.1;have h2:=hm.1.1.1.2.1;refine⟨hcnt,h3,h9,h1,h2,⟨aa,aa,aa,aa,aa⟩,OK aa aa (λs h=>aj) (λs h=>aj),by grind[SW],hsG,hsO⟩
theorem aIC(hw:0<=w/\w<=2)(hc:0<=c/\c<=2) :
  ∃l t x,idx m.aD.Own (w*3+c)=some l/\oW l=some (t,x)/\JZ m.aD w c=some (⟨m.aD.Global,m.aD.Own.set (w*3+c).toNat t⟩,x) /\
   BU ⟨m.Heap,⟨m.aD.Global,m.aD.Own.set (w*3+c).toNat t⟩⟩/\(0<=x->0<=bW m.Heap x)/\wQ m ⟨m.Heap,⟨m.aD.Global,m.aD.Own.set (w*3+c).toNat t⟩⟩ (-1):=by
 obtain⟨hcnt,h3,h9,h1,h2,hsm,hcp,hlo,hsG,hsO⟩:=nQ.facts hm;have hk:(w*3+c).toNat<m.aD.Own.length:=aa
 have hx:idx m.aD.Own (w*3+c)=some m.aD.Own[(w*3+c).toNat]:=fQ aa aa;have h24:=hsO _ (cZ hk);obtain⟨t,x,e1,e2,ht,hmem,hsub⟩:=a0N (s:=m.aD.Own[(w*3+c).toNat]) aa;have hall:=tO m.aD;refine⟨_,t,x,hx,e1,?_,⟨aj,aj,aj,aj,?_⟩,λh0=>?_,nQ.a7D hm aa (by grind[eJ])⟩
 ·unfold JZ AS;rw[hcp,(P0 hw hc).2,hlo];grind
 ·grind[aIB,tO]
 ·have:=hm.2.2 (w*3+c).toNat aa x (by grind[eJ]);omega
theorem XH(hc:0<=c/\c<=2) :
  ∃l t x,idx m.aD.Global c=some l/\oW l=some (t,x)/\AT m.aD c=some (⟨m.aD.Global.set c.toNat t,m.aD.Own⟩,x) /\
   BU ⟨m.Heap,⟨m.aD.Global.set c.toNat t,m.aD.Own⟩⟩/\(0<=x->0<=bW m.Heap x)/\wQ m ⟨m.Heap,⟨m.aD.Global.set c.toNat t,m.aD.Own⟩⟩ (-1):=by
 obtain⟨hcnt,h3,h9,h1,h2,hsm,hcp,hlo,hsG,hsO⟩:=nQ.facts hm;have hk:c.toNat<m.aD.Global.length:=aa
 have hx:idx m.aD.Global c=some m.aD.Global[c.toNat]:=fQ aa aa;have h24:=hsG _ (cZ hk);obtain⟨t,x,e1,e2,ht,hmem,hsub⟩:=a0N (s:=m.aD.Global[c.toNat]) aa;have hall:=tO m.aD;refine⟨_,t,x,hx,e1,?_,⟨aj,aj,aj,aj,?_⟩,λh0=>?_,nQ.aV4 hm aa (by grind[eJ])⟩
 ·simp_all[AT,rU,jF]
 ·grind[aIB,tO]
 ·have:=hm.2.1 c.toNat aa x (by grind[eJ]);omega
theorem aNP{h:Int}(hw:0<=w/\w<=2)(hv:mY m h):∃m',vO m w (h % 32)=some m'/\K3 m w h=some m'/\BU m'/\wQ m m' (h % 32):=by
 obtain⟨hcnt,h3,h9,h1,h2,hsm,hcp,hlo,hsG,hsO⟩:=nQ.facts hm;have hs:=hm.1.1.1;have hh:=hv.1;have hhm:=hh.mod;have hcl:=jI hv.2.1;have hgo:=V1 hcl;have hc2:0<=bW m.Heap (h % 32)/\bW m.Heap (h % 32)<=2:=by obtain⟨_,q,e⟩:=NI hcl;rw[e];exact wM.1 aa
 have hg6:1<=h/32/\h/32<=6:=by grind[lH]
 have hbl:m.Heap.Bytes.length<=maxLen:=by grind[maxLen]
 have hnot:h % 32∉fS m.aD:=λq=>by have:=hv.2.1;simp_all[pD,aN]
 have hcpH:=RG (h:=m.Heap) aa aa;have eo:iW (h % 32) (bW m.Heap (h % 32))=(((iW (h % 32) (bW m.Heap (h % 32))).toNat:Nat):Int):=aa
 have ew:bC (h/32+1)=h/32+1:=cN;have ed:bC (Int.tdiv h 32)=h/32:=by grind[dA]
 have hall:=tO m.aD;obtain⟨hr1,hr2⟩:=nQ.bA4 hm hv.2.1 (g:=h/32+1) aa;have hu:=qX.1 hv.2.1;unfold vO K3 UI D5;rw[hhm.1,kX hs,hcpH,LL hbl,cD hs,jG hs,ed,ew,hcp];simp only[aG,g8,bO,bM,K2,EC,K1];rw[pC hs hcl,hv.2.2,eT,dR (show ¬bW m.Heap (h % 32)<0 by omega),cD (show 1<=h/32+1/\h/32+1<=7 by omega)];simp only[aG,g8,bO,bM,uE,z6,ew];generalize hgn:(iW (h % 32) (bW m.Heap (h % 32))).toNat=a at eo;rw[hgn] at hr1 hr2;rw[eo,IP aa aa aa,XG aa];simp only[aG];rw[VE aa aa aa];simp only[aG,DA,N3,ed,ew,hhm.1];by_cases q:h/32+1<=6
 ·have hk:(w*3+bW m.Heap (h % 32)).toNat<m.aD.Own.length:=aa
  have hx:idx m.aD.Own (w*3+bW m.Heap (h % 32))=some m.aD.Own[(w*3+bW m.Heap (h % 32)).toNat]:=fQ aa aa;have hk2:(bW m.Heap (h % 32)).toNat<m.aD.Global.length:=aa
  have hx2:idx m.aD.Global (bW m.Heap (h % 32))=some m.aD.Global[(bW m.Heap (h % 32)).toNat]:=fQ aa aa;have b1:=hsO _ (cZ hk);have b2:=hsG _ (cZ hk2);rw[cD q,aL rfl,aL rfl];unfold MP aAV xU;rw[jG hs,aG,hcp,(P0 hw hc2).1,(P0 hw hc2).2,hlo,wN,cD (show 0<=h % 32/\h % 32<=23 by omega),VB aa aa aa,dR hnot];simp only[aG,g8,bO,bM,hx,hx2];have nz:¬w*3+bW m.Heap (h % 32)<0:=aa
  simp only[dR nz,bO,bM];by_cases q2:m.aD.Own[(w*3+bW m.Heap (h % 32)).toNat].aR.length<2
  ·have y1:(m.aD.Own[(w*3+bW m.Heap (h % 32)).toNat].aR.length:Int)<2:=aa
   have y2:¬(2:Int)<=m.aD.Own[(w*3+bW m.Heap (h % 32)).toNat].aR.length:=aa
   simp only[cD y1,dR y2,bO,bM,bP];rw[LJ,LJ];refine⟨_,rfl,rfl,⟨by grind[G7],aj,aj,aj,?_⟩,?_⟩
   ·grind[tO,X5]
   ·have hmod:((w*3+bW m.Heap (h % 32)).toNat % 3:Nat)=(bW m.Heap (h % 32)).toNat:=aa
    obtain⟨z1,z2⟩:=nQ.a3W hr1.1 (k:=(w*3+bW m.Heap (h % 32)).toNat) aa (xs:=[h % 32]) (by grind[eJ]) ae (λx hx=>by
     simp at hx;subst hx;exact⟨by rw[hmod];show bW m.Heap (h % 32)=_;omega,aj⟩) (λx hx=>aj) hk
    refine⟨z1,λs h1 h2=>?_⟩;obtain⟨y1,y2,y3⟩:=hr1.2 s h1 h2;grind
  ·have y1:¬(m.aD.Own[(w*3+bW m.Heap (h % 32)).toNat].aR.length:Int)<2:=aa
   have y2:(2:Int)<=m.aD.Own[(w*3+bW m.Heap (h % 32)).toNat].aR.length:=aa
   simp only[cD y2,dR y1,bO,bM,bP];rw[LJ,LJ];refine⟨_,rfl,rfl,⟨by grind[G7],aj,aj,aj,?_⟩,?_⟩
   ·grind[tO,X5]
   ·obtain⟨z1,z2⟩:=nQ.aIA hr1.1 (k:=(bW m.Heap (h % 32)).toNat) aa (xs:=[h % 32]) ae (λx hx=>by
     simp at hx;subst hx;exact⟨by show bW m.Heap (h % 32)=_;omega,aj⟩) (λx hx=>aj) hk2
    refine⟨z1,λs h1 h2=>?_⟩;obtain⟨y1,y2,y3⟩:=hr1.2 s h1 h2;grind
 ·rw[dR q,dY,dY];refine⟨_,rfl,rfl,⟨by grind[G7],aj,aj,aj,by(simp_all;omega)⟩,hr1⟩
end
theorem alloc_eq{b:aA}(hm:nQ b.Mem)(hw:0<=w/\w<=2)(s:Sub) :
  ∃x y,tT b w s=some (x,y)/\rV s b w=some (y,x)/\∃m',x=⟨m',b.aI,b.a8,b.kZ⟩/\BU m'/\wQ b.Mem m' (-1):=by
 have hsm:=(nQ.facts hm).2.2.2.2.2.1;have hs:=hm.1.1.1;obtain⟨c,ec,ei,hcc⟩:=aR4 s.A;unfold tT rV;rw[ec,ei];simp only[aG];by_cases c0:c<0
 ·simp only[cD c0,bP,bN,bJ];exact⟨_,_,rfl,rfl,_,rfl,hsm,wQ.refl hm _⟩
 have hc:0<=c/\c<=2:=aa
 simp only[dR c0,bO,bM];have fin:∀(m':Mem) (x:Int),BU m'->wQ b.Mem m' (-1)->(0<=x->eY m'.Heap/\0<=bW m'.Heap x) ->
   ∃X Y,gX s x ⟨m',b.aI,b.a8,b.kZ⟩=some (X,Y)/\iA s x ⟨m',b.aI,b.a8,b.kZ⟩=some (Y,X)/\∃m',X=⟨m',b.aI,b.a8,b.kZ⟩/\BU m'/\wQ b.Mem m' (-1):=by
  intro m' x hs' hst hx;unfold gX iA;simp only[pU,JE,bN,bJ];by_cases x0:0<=x
  ·obtain⟨h,e1,e2⟩:=aV3 (m:=m') (hx x0).1 (hx x0).2;rw[dR (show ¬x<0 by omega),cD x0];simp only[bO,bM,bP,e1,e2,aG];grind
  ·rw[cD (show x<0 by omega),dR x0];by_cases p3:s.Pc=3
   ·simp only[p3,beq_self_eq_true,bP,bO,bM,aG];grind
   ·have p3':(s.Pc == 3)=false:=aj
    simp only[p3',bP,bO,bM,aG];grind
 by_cases p0:s.Pc=0
 ·obtain⟨l,t,x,e1,e2,e3,h1,h2,h3⟩:=aIC hm hw hc;simp_all[P0]
 ·have p0':(s.Pc == 0)=false:=aj
  simp only[p0',bO,bM,pV,mU];obtain⟨l,t,x,e1,e2,e3,h1,h2,h3⟩:=XH hm hc;by_cases p1:s.Pc=1
  ·simp_all
  ·have p1':(s.Pc == 1)=false:=aj
   simp only[p1',bO,bM];by_cases p3:s.Pc=3
   ·simp_all
   ·have p3':(s.Pc == 3)=false:=aj
    simp only[p3',bO,bM];by_cases p2:s.Pc=2
    ·obtain⟨m',x,e1,e2,h1,h2,h3⟩:=aPL hm hc;simp_all
    ·have p2':(s.Pc == 2)=false:=aj
     simp only[p2',bO,bM,bN,bJ];exact⟨_,_,rfl,rfl,_,rfl,hsm,wQ.refl hm _⟩
theorem aUP(r:eA)(e:Int):∃v,FM r e=some v/\PD r e=some v:=by
 unfold FM PD DB J3;by_cases h:2<=e
 ·simp only[cD h,bP];exact⟨_,rfl,rfl⟩
 ·simp only[dR h,bO,bM];exact⟨_,rfl,rfl⟩
theorem a3X{b:aA}{l:bR}(hx:idx b.a8 w=some l)(hl:l.Rows.length<=1000)(s:Sub) :
  (rR l.Rows s.Row s.E=some (-1)/\oK s b w=(bJ s 0).bind λx=>some (x,b)) \/
  ∃k,∃h:k<l.Rows.length,rR l.Rows s.Row s.E=some (k:Int)/\oK s b w=some (⟨s.Kind,s.A,2,s.E,(k:Int),0,l.Rows[k].Handle,s.Out,s.Code,s.jC⟩,b):=by
 have key:∀d k,k+d=l.Rows.length ->
   (loop (eS l.Rows s.E) (k:Int)=some (Out.brk ())/\loop (eV s b w) (k:Int)=some (Out.brk ())) \/
   ∃j,∃h:j<l.Rows.length,loop (eS l.Rows s.E) (k:Int)=some (Out.ret (j:Int))/\loop (eV s b w) (k:Int)=some (Out.ret (⟨s.Kind,s.A,2,s.E,(j:Int),0,l.Rows[j].Handle,s.Out,s.Code,s.jC⟩,b)):=by
  intro d;induction d with
  |zero=>
   simp_all[bH,eS,eV]
  |succ d ih=>
   intro k hk;have hk':k<l.Rows.length:=aa
   obtain⟨v,e1,e2⟩:=aUP l.Rows[k] s.E;cases v with
   |true=>
    right;refine⟨k,hk',bH ?_,bH ?_⟩
    ·simp only[eS];rw[cH,aU hk',aG,e1];rfl
    ·simp only[eV,hx,aG];rw[cH,aU hk',aG,e2];rfl
   |false=>
    have n1:eS l.Rows s.E (k:Int)=some (.next ((k+1:Nat):Int)):=by simp only[eS];rw[cH,aU hk',aG,e1,aG,cN];rfl
    have n2:eV s b w (k:Int)=some (.next ((k+1:Nat):Int)):=by simp only[eV,hx,aG];rw[cH,aU hk',aG,e2,aG,cN];rfl
    rw[bK n1,bK n2];exact ih (k+1) aa
 unfold rR oK;have hst:∃i:Nat,(if 0<s.Row then s.Row else 0)=(i:Int)/\(if s.Row<0 then 0 else s.Row)=(i:Int):=by refine⟨s.Row.toNat,?_,?_⟩<;>split<;>omega
 obtain⟨i,i1,i2⟩:=hst;rw[i1,i2];by_cases hi:i<=l.Rows.length
 ·rcases key (l.Rows.length-i) i aa with ⟨a,c⟩|⟨j,hj,a,c⟩
  ·left;rw[a,c];exact⟨rfl,rfl⟩
  ·right;rw[a,c];exact⟨j,hj,rfl,rfl⟩
 ·left;rw[bH (body:=eS l.Rows s.E) (r:=Out.brk ()) (by simp only[eS];grind),
   bH (body:=eV s b w) (r:=Out.brk ()) (by simp only[eV,hx,aG];grind)]
  exact⟨rfl,rfl⟩
theorem del_eq{l:List O}(h:k<l.length):((cO l k (l.drop (k+1))).take (k+(l.length-(k+1)))).drop 0=l.eraseIdx k:=by grind[cO,YD]
theorem aR5{l:List O}(h:k<l.length):l.Perm (l[k]::l.eraseIdx k):=by grind[BW,aB1,List.eraseIdx_eq_take_drop_succ,List.perm_middle]
theorem CI.drop{b:List bR}(hL:CI b){w:Nat}(hw:w<b.length):∀k (hk:k<b[w].Rows.length),CI (b.set w ⟨b[w].Rows.eraseIdx k⟩)/\∀r∈dP (b.set w ⟨b[w].Rows.eraseIdx k⟩),r∈dP b/\r.Handle % 32≠b[w].Rows[k].Handle % 32:=by
 intro k hk;have hsub:(dP (b.set w ⟨b[w].Rows.eraseIdx k⟩)).Sublist (dP b):=by grind[PZ,NM]
 have hnd:=hL.2.2.2;refine⟨⟨by simpa using hL.1,pG hsub.length_le hL.2.1,λr hr=>hL.2.2.1 r (hsub.subset hr),(hsub.map HU).nodup hnd⟩,λr hr=>⟨hsub.subset hr,?_⟩⟩;have hp:(dP b).Perm (b[w].Rows[k]::dP (b.set w ⟨b[w].Rows.eraseIdx k⟩)):=by rw[PZ hw,NM hw];refine List.Perm.trans (List.Perm.append_left _ (List.Perm.append_right _ (aR5 hk))) ?_;simp
 grind[HU]
theorem aR6{b:aA}(hb:wP b)(hw:0<=w/\w<=2)(s:Sub) :
  ∃x y,nH b w s=some (x,y)/\oL s b w=some (y,x)/\∃m' L,x=⟨m',b.aI,L,b.kZ⟩/\BU m'/\nQ m'/\CI L/\∀r∈dP L,mY m' r.Handle/\r.aO<=b.aI.aO:=by
 have hm:=hb.1.1;have hL:=hb.1.2.2.1;have hZ:=hb.1.2.2.2;have hsm:=(nQ.facts hm).2.2.2.2.2.1;have hlen:w.toNat<b.a8.length:=by have:=hL.1;omega
 have hx:idx b.a8 w=some b.a8[w.toNat]:=fQ hw.1 aa;have hrow:=hL.small.2.2.2 _ (cZ hlen);have hmemL:b.a8[w.toNat]∈b.a8:=cZ hlen;have hset:=CI.drop hL hlen;generalize b.a8[w.toNat]=l at hx hrow hset hmemL;have done:∀y:Sub,∃x z,(some (b,y):Option (aA×Sub))=some (x,z)/\(some (y,b):Option (Sub×aA))=some (z,x)/\∃m' L,x=⟨m',b.aI,L,b.kZ⟩/\BU m'/\nQ m'/\CI L/\∀r∈dP L,mY m' r.Handle/\r.aO<=b.aI.aO:=
  λy=>⟨_,_,rfl,rfl,b.Mem,b.a8,rfl,hsm,hm,hL,hb.2⟩
 have hw1:bC ((l.Rows.length:Int)-1)=(l.Rows.length:Int)-1:=cN;have hhas:HM b.a8 w s.Row=some (decide (0<=s.Row/\s.Row<=(l.Rows.length:Int)-1)):=by simp_all[HM,ED,kC,eT]
 unfold nH oL;rw[hhas,hx];simp only[aG,bN,cW,hw1];have hat:∃a:Bool,(if decide (0<=s.Row/\s.Row<=(l.Rows.length:Int)-1)=true then(idx l.Rows s.Row).bind λx15=>fK s b w (x15.Handle == s.H) else fK s b w false)=fK s b w a /\
   (if(!decide (0<=s.Row/\s.Row<=(l.Rows.length:Int)-1))=true then eC b s true else(idx l.Rows s.Row).bind λx11=>eC b s (x11.Handle != s.H))=eC b s (!a) /\
   (a=true->∃r,r∈l.Rows/\idx l.Rows s.Row=some r/\r.Handle=s.H/\0<=s.Row/\s.Row<l.Rows.length) /\
   (a=false->∀f:eA->Option (aA×Sub),(if(!decide (0<=s.Row/\s.Row<=(l.Rows.length:Int)-1))=true then eD b w s l true else(idx l.Rows s.Row).bind λx=>if(x.Handle != s.H)=true then eD b w s l true else f x)=eD b w s l true):=by
  by_cases q:0<=s.Row/\s.Row<=(l.Rows.length:Int)-1
  ·have hr:idx l.Rows s.Row=some (l.Rows[s.Row.toNat]' aa):=fQ q.1 aa;by_cases q2:(l.Rows[s.Row.toNat]' aa).Handle=s.H
   ·refine⟨true,?_,?_,λ_=>⟨_,cZ _,hr,q2,q.1,aa⟩,λh=>by cases h⟩
    ·rw[cD q,aL rfl,hr,aG,q2,beq_self_eq_true]
    ·rw[cD q,dY,hr,aG,q2,bne_self_eq_false];rfl
   ·have n1:((l.Rows[s.Row.toNat]' aa).Handle == s.H)=false:=by simpa using q2
    have n2:((l.Rows[s.Row.toNat]' aa).Handle != s.H)=true:=by simpa using q2
    refine⟨false,?_,?_,(λh=>by cases h),λ_ f=>?_⟩
    ·rw[cD q,aL rfl,hr,aG,n1]
    ·rw[cD q,dY,hr,aG,n2];rfl
    ·rw[cD q,dY,hr,aG,n2,aL rfl]
  simp_all[dR]
 obtain⟨a,ha1,ha2,ha3,ha4⟩:=hat;rw[ha1,ha2];unfold fK;by_cases p0:s.Pc=0
 ·simp_all
 have p0':(s.Pc == 0)=false:=aj
 simp only[p0',bO,bM];by_cases p1:s.Pc=1
 ·simp only[p1,beq_self_eq_true,bP];rcases a3X hx aa s with ⟨e1,e2⟩|⟨k,hk,e1,e2⟩
  ·simp_all[bJ]
  simp_all[aN,aU]
 have p1':(s.Pc == 1)=false:=aj
 simp only[p1',bO,bM];by_cases p2:s.Pc=2
 ·simp only[p2,beq_self_eq_true,bP,kC,aG];by_cases hB:0<=s.B/\s.B<=2
  ·rw[cD hB];simp only[g8,bO,bM,bP];cases a with
   |true=>
    have hz:idx b.kZ s.B=some (b.kZ[s.B.toNat]'(by have:=hZ.1;omega)):=fQ hB.1 (by have:=hZ.1;omega);simp only[eC,eH,g8,bO,bM,bP,hz,aG,mD];by_cases q:(b.kZ[s.B.toNat]' aj)=s.H
    ·simp_all
    ·have q':((b.kZ[s.B.toNat]' aj) == s.H)=false:=aj
     simp only[q',bO,bM];by_cases q3:bC (s.B+1)=3
     ·simp_all
     simp_all
   |false=>
    simp_all[eC,eH,dC,bN,bJ]
  simp_all[dR,eC,eH,dC,bN,bJ]
 have p2':(s.Pc == 2)=false:=aj
 simp only[p2',bO,bM,eH];by_cases p3:s.Pc=3
 ·simp only[p3,beq_self_eq_true,bP];cases a with
  |false=>
   rw[ha4 rfl];simp_all[eD,dC,bN,bJ]
  |true=>
   obtain⟨r,hrm,hr,hrH,r0,r1⟩:=ha3 rfl;obtain⟨v,e1,e2⟩:=aUP r s.E;rw[cD (show 0<=s.Row/\s.Row<=(l.Rows.length:Int)-1 by omega)];simp only[g8,bO,bM,bP,hr,aG,hrH,bne_self_eq_false,hx,e1,e2];cases v with
   |false=>
    simp_all[eD,dC,bN,bJ]
   |true=>
    have hlive:mY b.Mem s.H:=by have:r∈dP b.a8:=aKT.2 ⟨l,hmemL,hrm⟩;have:=(hb.2 r this).1;grind
    obtain⟨m',f1,f2,f3,f4⟩:=aNP hm hw hlive;have ew:bC (s.Row+1)=s.Row+1:=cN;have hdrop:J4 b.a8 w s.Row=some (b.a8.set w.toNat ⟨((cO l.Rows s.Row.toNat (l.Rows.drop (s.Row+1).toNat)).take (s.Row.toNat+(l.Rows.length-(s.Row+1).toNat))).drop 0⟩,true):=by
     unfold J4 AW;rw[XF hL.small.2.2.1 (λs h=>by have:=hL.small.2.2.2 s h;omega),IM hL.small.1,cD hL,hhas,cD (show 0<=s.Row/\s.Row<=(l.Rows.length:Int)-1 by omega)];simp only[aG,g8,bO,bM,hx,ew];unfold BH;rw[LU,pH,LU,LU,LU,bZ]
     ·rfl
     grind[fB]
    simp only[eD,dC,rS,ew,g8,bO,bM,bP];rw[LU,LU,LU,eE,aL hlive.1,aG,f1,f2,hdrop];have hk:s.Row.toNat<l.Rows.length:=aa
    have eL:((cO l.Rows s.Row.toNat (l.Rows.drop (s.Row+1).toNat)).take (s.Row.toNat+(l.Rows.length-(s.Row+1).toNat))).drop 0=l.Rows.eraseIdx s.Row.toNat:=by rw[show(s.Row+1).toNat=s.Row.toNat+1 by omega];exact del_eq hk
    have er:l.Rows[s.Row.toNat]=r:=by grind[aU]
    rw[eL] at hdrop ⊢;obtain⟨g1,g2⟩:=hset s.Row.toNat hk;refine⟨_,_,rfl,rfl,m',_,rfl,f3,f4.1,g1,λq hq=>?_⟩;obtain⟨g3,g4⟩:=g2 q hq;obtain⟨g5,g6⟩:=hb.2 q g3;refine⟨f4.live g5 λe=>?_,g6⟩;grind
 simp_all[dC,bJ]
theorem step_eq{b:aA}(hb:wP b)(hs:aRU b)(hw:0<=w/\w<=2)(s:Sub) :
  ∃x y,FO b w s=some (x,y)/\o6 s b w=some (y,x)/\wP x:=by
 have hz:=hb.1.2.2.2.1;have hl:=hb.1.2.2.1;unfold FO o6;cases hd:s.jC with
 |true=>grind
 |false=>
  simp only[bO,bM];by_cases k1:s.Kind=1
  ·obtain⟨x,y,e1,e2,m,rfl,h1,h2⟩:=alloc_eq hb.1.1 hw s;simp only[k1,beq_self_eq_true,bP,e1,e2,aG];exact⟨_,_,rfl,rfl,⟨h2.1,hb.1.2⟩,λr hr=>⟨h2.live (hb.2 r hr).1 aa,(hb.2 r hr).2⟩⟩
  have k1':(s.Kind == 1)=false:=aj
  simp only[k1',bO,bM];by_cases k2:s.Kind=2
  ·obtain⟨x,y,e1,e2,L,rfl,h1,h2⟩:=aV0 hb hs hw s;simp only[k2,beq_self_eq_true,bP,e1,e2,aG];exact⟨_,_,rfl,rfl,⟨hb.1.1,hb.1.2.1,h1,hb.1.2.2.2⟩,h2⟩
  have k2':(s.Kind == 2)=false:=aj
  simp only[k2',bO,bM];by_cases k3:s.Kind=3
  ·obtain⟨x,y,e1,e2,c,rfl,h1,h2⟩:=aRY hb.1.2.1 s;simp only[k3,beq_self_eq_true,bP,e1,e2,aG];exact⟨_,_,rfl,rfl,⟨hb.1.1,h1,hb.1.2.2⟩,λr hr=>⟨(hb.2 r hr).1,Int.le_trans (hb.2 r hr).2 h2⟩⟩
  have k3':(s.Kind == 3)=false:=aj
  simp only[k3',bO,bM];by_cases k4:s.Kind=4
  ·obtain⟨x,y,e1,e2,m,L,rfl,h1,h2,h3,h4⟩:=aR6 hb hw s;simp only[k4,beq_self_eq_true,bP,e1,e2,aG];exact⟨_,_,rfl,rfl,⟨h2,hb.1.2.1,h3,hb.1.2.2.2⟩,h4⟩
  have k4':(s.Kind == 4)=false:=aj
  simp only[k4',bO,bM];by_cases k5:s.Kind=5
  ·obtain⟨x,y,e1,e2,c,rfl,h1,h2⟩:=a7B hb.1.2.1 hw s;simp only[k5,beq_self_eq_true,bP,e1,e2,aG];exact⟨_,_,rfl,rfl,⟨hb.1.1,h1,hb.1.2.2⟩,λr hr=>⟨(hb.2 r hr).1,Int.le_trans (hb.2 r hr).2 h2⟩⟩
  have k5':(s.Kind == 5)=false:=aj
  simp only[k5',bO,bM,bN,bJ,aG];grind
theorem wP.small{b:aA}(hb:wP b):aRU b:=by have h1:=hb.1.2.1.2.1;have h2:=hb.1.2.2.1.1;have h3:=hb.1.2.2.1.2.1;have h4:=hb.1.2.2.2.1;exact⟨(nQ.facts hb.1.1).2.2.2.2.2.1,aa,aa,aa,aa⟩
def OO(s:Sub)(code:Int):Sub:={s with Code:=code,jC:=true}
def LP(n:Int):Int:=if 1<=n/\n<=8 then 0 else if 1<=n/\n<=16 then 1 else if 1<=n/\n<=40 then 2 else -1
theorem aR7(n:Int):-1<=LP n/\LP n<=2:=by grind[LP]
theorem aV5(n:Int):xB n=some (LP n):=by
 have s1:∀k,0<=k/\k<=2->fJ n k=some (if 1<=n/\n<=jU k then .stop (Out.ret k) else .next (k+1)):=λk hk=>by simp only[fJ];rw[cH,LK,aG,cW,aG,cN];grind
 have z0:jU 0=8:=rfl;have z1:jU 1=16:=rfl;have z2:jU 2=40:=rfl;unfold xB LP;by_cases q0:1<=n/\n<=8
 ·rw[bH (by rw[s1 0 aa,aL aa]),aL q0];rfl
 ·rw[bK (by rw[s1 0 aa,m9]),aN q0,show(0:Int)+1=1 from rfl];by_cases q1:1<=n/\n<=16
  ·rw[bH (by rw[s1 1 aa,aL aa]),aL q1];rfl
  ·rw[bK (by rw[s1 1 aa,m9]),aN q1,show(1:Int)+1=2 from rfl];by_cases q2:1<=n/\n<=40
   ·rw[bH (by rw[s1 2 aa,aL aa]),aL q2];rfl
   ·rw[bK (by rw[s1 2 aa,m9]),aN q2,show(2:Int)+1=3 from rfl,bH (body:=fJ n) (r:=Out.brk ()) (by simp[fJ])];rfl
def aKN(l:List Int):List Int×Int:=(l.dropLast,l.getLastD (-1))
theorem aE6{s:aW}(h:s.aR.length<=1048576):oW s=some (⟨(aKN s.aR).1⟩,(aKN s.aR).2):=by
 unfold oW GG aKN;obtain⟨l⟩:=s;rcases List.eq_nil_or_concat l with rfl|⟨L,b,rfl⟩
 ·rfl
 ·simp only[List.concat_eq_append] at h ⊢;have hl:(L++[b]).length=L.length+1:=ae
  rw[hl,cN,show((L.length+1:Nat):Int)-1=(L.length:Int) by omega,pH,LU,IL];simp
def aAA(m:Mem)(w c:Int):Mem×Int:=(⟨m.Heap,⟨m.aD.Global,m.aD.Own.set (w*3+c).toNat ⟨(aKN (gN m.aD.Own (w*3+c).toNat)).1⟩⟩⟩,(aKN (gN m.aD.Own (w*3+c).toNat)).2)
def V4(m:Mem)(c:Int):Mem×Int:=(⟨m.Heap,⟨m.aD.Global.set c.toNat ⟨(aKN (gN m.aD.Global c.toNat)).1⟩,m.aD.Own⟩⟩,(aKN (gN m.aD.Global c.toNat)).2)
def pgF(h:Heap):Nat:=h.Class.findIdx (λx=>decide (x = -1))
def aBM(m:Mem)(c:Int):Mem×Int:=if pgF m.Heap=6 then(m,-1) else
 (⟨⟨gB m.Heap.Bytes (pgF m.Heap) c (dB c).toNat,m.Heap.Class.set (pgF m.Heap) c⟩,⟨m.aD.Global.set c.toNat ⟨gN m.aD.Global c.toNat++(gS (pgF m.Heap) (dB c).toNat).drop 1⟩,m.aD.Own⟩⟩,(pgF m.Heap:Int)*4)
theorem a0O(hs:eY h):pgF h<=6:=by rw[<-hs.2.1];exact List.findIdx_le_length
theorem a7F(hs:eY h)(hq:pgF h≠6):pgF h<6/\cB h (pgF h) = -1:=by
 have h6:=hs.2.1;have hlt:pgF h<6:=by grind[a0O]
 refine⟨hlt,?_⟩;rw[<-VZ hs hlt];have:=List.findIdx_getElem (xs:=h.Class) (p:=λx=>decide (x = -1)) (w:=by grind[pgF]);exact of_decide_eq_true this
theorem a3Y(hs:eY h):∀j (hj:j<6),j<pgF h->cB h j≠-1:=λj hj hlt=>by have:=List.not_of_lt_findIdx hlt;grind[VZ]
theorem a7G(hh:XC h)(hc:0<=c/\c<=2):nW h c=some (if pgF h=6 then(h,[]) else(⟨gB h.Bytes (pgF h) c (dB c).toNat,h.Class.set (pgF h) c⟩,gS (pgF h) (dB c).toNat)):=by
 have hs:=hh.1;have h6:=hs.2.1;have h384:=hs.1;have hle:=a0O hs;have s1:∀k (hk:k<pgF h),eQ h c (k:Int)=some (.next ((k+1:Nat):Int)):=λk hk=>by
  have n:(h.Class[k] != -1)=true:=by grind[a3Y,VZ]
  simp only[eQ,AA];rw[cH,IL,aG,n,aL rfl,cN];rfl
 unfold nW;by_cases hq:pgF h=6
 ·have a1:loop (eQ h c) 0=some (Out.brk ()):=iG (pgF h) (λk=>(k:Int)) _ s1 (by simp_all[eQ]);rw[a1,aL hq];rfl
 ·obtain⟨hlt,he⟩:=a7F hs hq;rw[<-VZ hs hlt] at he;generalize hqq:pgF h=q at *;have a1:loop (eQ h c) 0=some (Out.ret (⟨gB h.Bytes q c (dB c).toNat,h.Class.set q c⟩,gS q (dB c).toNat)):=iG q (λk=>(k:Int)) _ s1 (by
   have e0:bC ((q:Int)*64)=((q*64:Nat):Int):=by grind[dA]
   have e1:bC (((q*64:Nat):Int)+1)=((q*64+1:Nat):Int):=by grind[dA]
   have e2:bC (((q*64:Nat):Int)+2)=((q*64+2:Nat):Int):=by grind[dA]
   have n:(h.Class[q] != -1)=false:=aj
   simp only[eQ,e0,e1,e2,BC];rw[cH,IL,aG,n,dY,IL,aG,aU ah,aG,iH,aG,aU ah,aG];have:=aH9 h384 hlt hc;simp only[gB] at this;rw[this];rfl)
  rw[a1,aN hq];rfl
theorem aV6(hm:nQ m)(hc:0<=c/\c<=2):xD m c=some (aBM m c):=by
 have h3:=hm.1.2.1;have hpp:0<dB c:=wM.2 hc;have hp4:=mW c;obtain⟨_,_,_,_,_,_,_,_,hsG,_⟩:=nQ.facts hm;unfold xD aBM;rw[a7G hm.1.1 hc];by_cases hq:pgF m.Heap=6
 ·simp_all
 ·have hk:c.toNat<m.aD.Global.length:=aa
  have hg0:=hsG _ (cZ hk);have hx:idx m.aD.Global c=some m.aD.Global[c.toNat]:=fQ hc.1 aa;have hz:idx (gS (pgF m.Heap) (dB c).toNat) 0=some ((pgF m.Heap:Int)*4):=by grind[aU,gS]
  have hn:(((dB c).toNat:Int) == 0)=false:=aj
  have ht:(gS (pgF m.Heap) (dB c).toNat).take (dB c).toNat=gS (pgF m.Heap) (dB c).toNat:=YD (by grind[aH8]);have hd:((gS (pgF m.Heap) (dB c).toNat).drop 1).length<=4:=aj
  simp only[aN hq,aG,aH8,hn,bO,bM,hx,hz,AD,ht];grind[bZ,eJ]
def a7H(m:Mem)(s:Int):Int:=if 1<=l8 m.Heap s/\l8 m.Heap s<=6 then l8 m.Heap s*32+s else 0
theorem a3Z(hs:eY m.Heap)(hc:0<=bW m.Heap s):tS m s=some (a7H m s):=by
 unfold tS GI pT a7H;rw[pC hs hc,aG,cW,cW];have h1:=(NI hc).1;simp only[cD h1,aG,g8,bO,bM];by_cases q:1<=l8 m.Heap s/\l8 m.Heap s<=6
 ·simp only[cD q,g8,bO,bM,aL q];grind[dA]
 grind
def aBN(b:aA)(s:Sub)(p:Mem×Int):aA×Sub:=
 if 0<=p.2 then({b with Mem:=p.1},OO {s with Out:=a7H p.1 p.2} 0) else if s.Pc=3 then({b with Mem:=p.1},OO s 3) else({b with Mem:=p.1},{s with Pc:=s.Pc+1})
def aR8(b:aA)(w:Int)(s:Sub):aA×Sub:=
 if LP s.A<0 then(b,OO s 2)
 else if s.Pc=0 then aBN b s (aAA b.Mem w (LP s.A))
 else if s.Pc=1\/s.Pc=3 then aBN b s (V4 b.Mem (LP s.A))
 else if s.Pc=2 then aBN b s (aBM b.Mem (LP s.A))
 else(b,OO s 1)
theorem aV7{b:aA}(hm:nQ b.Mem)(hw:0<=w/\w<=2)(s:Sub):tT b w s=some (aR8 b w s):=by
 obtain⟨hcnt,h3,h9,h1,h2,hsm,hcp,hlo,hsG,hsO⟩:=nQ.facts hm;have hs:=hm.1.1.1;have hr:=aR7 s.A;unfold tT aR8;rw[aV5];simp only[aG];by_cases c0:LP s.A<0
 ·simp only[cD c0,bP,bN,aL c0];rfl
 generalize LP s.A=c at *;have hc:0<=c/\c<=2:=aa
 simp only[dR c0,bO,bM,aN c0];have fin:∀(p:Mem×Int),-1<=p.2->(0<=p.2->eY p.1.Heap/\0<=bW p.1.Heap p.2)->s.Pc<=3/\0<=s.Pc->gX s p.2 ⟨p.1,b.aI,b.a8,b.kZ⟩=some (aBN b s p):=by
  intro p hp hx hpc;unfold gX aBN;simp only[pU,JE,bN];by_cases x0:0<=p.2
  ·rw[dR (show ¬p.2<0 by omega),cD x0];simp only[bO,bM,bP,aL x0,a3Z (hx x0).1 (hx x0).2,aG];rfl
  ·rw[cD (show p.2<0 by omega),dR x0];by_cases p3:s.Pc=3
   ·have p3':(s.Pc == 3)=true:=aj
    simp only[p3',bP,aN x0,aL p3,aG];rfl
   ·have p3':(s.Pc == 3)=false:=aj
    have e:bC (s.Pc+1)=s.Pc+1:=cN;grind
 have popL:∀l:List Int,-1<=(aKN l).2\/(aKN l).2∈l:=λl=>by unfold aKN;grind
 by_cases p0:s.Pc=0
 ·have hk:(w*3+c).toNat<b.Mem.aD.Own.length:=aa
  have hx:idx b.Mem.aD.Own (w*3+c)=some b.Mem.aD.Own[(w*3+c).toNat]:=fQ aa aa;obtain⟨l,t,x,e1,e2,e3,g1,g2,g3⟩:=aIC hm hw hc;have hl:=hsO _ (cZ hk);rw[hx] at e1;cases e1;rw[aE6 aa] at e2;have ep:aAA b.Mem w c=(⟨b.Mem.Heap,⟨b.Mem.aD.Global,b.Mem.aD.Own.set (w*3+c).toNat t⟩⟩,x):=by grind[aAA,eJ]
  have hx0:-1<=x:=by
   injection e2 with e2;injection e2 with e4 e5
   rcases popL b.Mem.aD.Own[(w*3+c).toNat].aR with h|h
   ·omega
   ·rw[<-e5];have:=hm.1.2.2.2.2.1 _ (List.mem_append_right _ (aKT.2 ⟨_,cZ hk,h⟩));omega
  have p0':(s.Pc == 0)=true:=aj
  have:=fin (aAA b.Mem w c) aj aj aa;rw[ep] at this;simp only[p0',bP,aL p0,(P0 hw hc).1,aG,hx];grind[aE6]
 ·have p0':(s.Pc == 0)=false:=aj
  simp only[p0',bO,bM,pV,aN p0];have hk:c.toNat<b.Mem.aD.Global.length:=aa
  have hx:idx b.Mem.aD.Global c=some b.Mem.aD.Global[c.toNat]:=fQ aa aa;obtain⟨l,t,x,e1,e2,e3,g1,g2,g3⟩:=XH hm hc;have hl:=hsG _ (cZ hk);rw[hx] at e1;cases e1;rw[aE6 aa] at e2;have ep:V4 b.Mem c=(⟨b.Mem.Heap,⟨b.Mem.aD.Global.set c.toNat t,b.Mem.aD.Own⟩⟩,x):=by grind[V4,eJ]
  have hx0:-1<=x:=by
   injection e2 with e2;injection e2 with e4 e5
   rcases popL b.Mem.aD.Global[c.toNat].aR with h|h
   ·omega
   ·rw[<-e5];have:=hm.1.2.2.2.2.1 _ (List.mem_append_left _ (aKT.2 ⟨_,cZ hk,h⟩));omega
  have tg:0<=s.Pc/\s.Pc<=3->(idx b.Mem.aD.Global c).bind (λx13=>(oW x13).bind λx14=>gX s x14.2 ({b with Mem:=(⟨b.Mem.Heap,(⟨b.Mem.aD.Global.set c.toNat x14.1,b.Mem.aD.Own⟩:aD)⟩:Mem)}:aA))=some (aBN b s (V4 b.Mem c)):=λhpc=>by grind[aE6]
  by_cases p1:s.Pc=1
  ·grind
  ·have p1':(s.Pc == 1)=false:=aj
   simp only[p1',bO,bM];by_cases p3:s.Pc=3
   ·grind
   ·have p3':(s.Pc == 3)=false:=aj
    have n13:¬(s.Pc=1\/s.Pc=3):=aa
    simp only[p3',bO,bM,aN n13];by_cases p2:s.Pc=2
    ·obtain⟨m',y,f1,f2,k1,k2,k3⟩:=aPL hm hc;have hg:=aV6 hm hc;rw[f1] at hg;have hg':aBM b.Mem c=(m',y):=aj
     have hy:-1<=(aBM b.Mem c).2:=by grind[aBM]
     grind
    ·have p2':(s.Pc == 2)=false:=aj
     simp only[p2',bO,bM,bN,aN p2,aG];rfl
def uY(c:aI)(w:Int):vC:=c.bX.getD w.toNat ⟨false,0,false,0⟩
theorem KL{c:aI}(hc:TD c)(hw:0<=w/\w<=2):idx c.bX w=some (uY c w):=by have:=hc.2.1;grind[fQ,uY]
def aPM(c:aI)(w e:Int):aI×Bool:=
 if(uY c w).On=false\/(uY c w).g9=true\/(uY c w).aO=e then(c,true)
 else if(uY c w).Seen=2 then(⟨c.aO,c.bX.set w.toNat {uY c w with g9:=true,Seen:=0}⟩,true)
 else(⟨c.aO,c.bX.set w.toNat {uY c w with Seen:=(uY c w).Seen+1}⟩,false)
theorem a0P{c:aI}(hc:TD c)(hw:0<=w/\w<=2):POk c.aO (uY c w):=by
 have:=KL hc hw;have h2:=hc.2.1;rw[fQ hw.1 aa] at this;injection this with this
 rw[<-this];exact hc.2.2 _ (cZ _)
theorem a0Q{c:aI}(hc:TD c)(hw:0<=w/\w<=2)(e:Int):B5 c w e=some (aPM c w e):=by have hp:=a0P hc hw;have hx:=KL hc hw;have hsm:=hc.small;unfold B5 vN aPM;rw[lW hsm.1,jH,cD hc,cW,cD hw,hx];simp only[aG,g8,bO,bM,mA,hx];generalize uY c w=p at *;have ew:bC (p.Seen+1)=p.Seen+1:=dA (by have:=hp.2.1;omega) (by have:=hp.2.1;omega);grind
def aPN(c:aI)(e:Int):aI×Bool:=if c.aO=e/\e≠100000 then(⟨e+1,c.bX⟩,true) else(c,false)
theorem a0R{c:aI}(hc:TD c)(e:Int):KJ c e=some (aPN c e):=by
 have hsm:=hc.small;unfold KJ xF aPN;rw[lW hsm.1,jH,cD hc];simp only[aG,g8,bO,bM];by_cases h1:c.aO=e
 ·have he:=hc.1;grind[dA]
 ·simp[h1]
def aBO(c:aI)(w e:Int):aI×Bool:=if 0<=e/\e<=c.aO then(⟨c.aO,c.bX.set w.toNat ⟨true,e,false,0⟩⟩,true) else(c,false)
theorem aV8{c:aI}(hc:TD c)(hw:0<=w/\w<=2)(e:Int):FN c w e=some (aBO c w e):=by have hsm:=hc.small;unfold FN tV aBO;rw[lW hsm.1,jH,cD hc,cW,cD hw,cW];simp only[aG,g8,bO,bM];grind[KL]
def aID(c:aI)(w:Int):aI×Bool:=if(uY c w).On then(⟨c.aO,c.bX.set w.toNat ⟨false,0,false,0⟩⟩,true) else(c,false)
theorem aBP{c:aI}(hc:TD c)(hw:0<=w/\w<=2):FR c w=some (aID c w):=by have hsm:=hc.small;have hx:=KL hc hw;unfold FR tW aID;rw[lW hsm.1,jH,cD hc,cW,cD hw,hx];grind
def aIE(b:aA)(s:Sub):aA×Sub:=
 if s.Pc=0 then(b,{s with Pc:=1,E:=b.aI.aO,B:=0})
 else if s.Pc=1 then
  if 0<=s.B/\s.B<=2 then
   if(aPM b.aI s.B s.E).2 then({b with aI:=(aPM b.aI s.B s.E).1},{s with Pc:=if s.B=2 then 2 else 1,B:=s.B+1})
   else({b with aI:=(aPM b.aI s.B s.E).1},OO s 8)
  else(b,OO s 1)
 else if s.Pc=2 then({b with aI:=(aPN b.aI s.E).1},OO {s with Out:=if(aPN b.aI s.E).2 then 1 else s.Out} 0)
 else(b,OO s 1)
theorem aPO{b:aA}(hc:TD b.aI)(s:Sub):nG b s=some (aIE b s):=by
 unfold nG aIE;rw[a0R hc,cW];simp only[bN,mB,mC,aG];by_cases p0:s.Pc=0
 ·grind
 ·have p0':(s.Pc == 0)=false:=aj
  simp only[p0',bO,bM,aN p0];by_cases p1:s.Pc=1
  ·have p1':(s.Pc == 1)=true:=aj
   simp only[p1',bP,aL p1];by_cases hB:0<=s.B/\s.B<=2
   ·have ew:bC (s.B+1)=s.B+1:=cN;simp only[cD hB,g8,bO,bM,aL hB,a0Q hc hB,aG,ew];grind[OO]
   ·simp only[dR hB,HX,bP,aN hB];rfl
  ·have p1':(s.Pc == 1)=false:=aj
   simp only[p1',bO,bM,aN p1];by_cases p2:s.Pc=2
   ·have p2':(s.Pc == 2)=true:=aj
    simp only[p2',bP,aL p2];cases h:(aPN b.aI s.E).2<;>rfl
   ·have p2':(s.Pc == 2)=false:=aj
    simp only[p2',bO,bM,aN p2];rfl
def a7I(b:aA)(w:Int)(s:Sub):aA×Sub:=
 if s.Pc=0 then(b,{s with Pc:=1,E:=b.aI.aO})
 else if s.Pc=1 then
  if(aBO b.aI w s.E).2 then({b with aI:=(aBO b.aI w s.E).1},{s with Pc:=2}) else({b with aI:=(aBO b.aI w s.E).1},OO s 1)
 else if s.Pc=2 then if b.aI.aO=s.E then(b,OO s 0) else(b,{s with Pc:=0})
 else(b,OO s 1)
theorem a30{b:aA}(hc:TD b.aI)(hw:0<=w/\w<=2)(s:Sub):B6 b w s=some (a7I b w s):=by
 unfold B6 a7I;rw[aV8 hc hw];simp only[bN,aG];by_cases p0:s.Pc=0
 ·grind
 ·have p0':(s.Pc == 0)=false:=aj
  simp only[p0',bO,bM,aN p0];by_cases p1:s.Pc=1
  ·have p1':(s.Pc == 1)=true:=aj
   simp only[p1',bP,aL p1];cases h:(aBO b.aI w s.E).2<;>rfl
  ·have p1':(s.Pc == 1)=false:=aj
   simp only[p1',bO,bM,aN p1];by_cases p2:s.Pc=2
   ·have p2':(s.Pc == 2)=true:=aj
    simp only[p2',bP,aL p2];by_cases q:b.aI.aO=s.E
    ·have q':(b.aI.aO == s.E)=true:=aj
     simp only[q',bP,aL q];rfl
    grind
   ·have p2':(s.Pc == 2)=false:=aj
    simp only[p2',bO,bM,aN p2];rfl
def BV(l:List bR)(w:Int):List eA:=(l.getD w.toNat ⟨[]⟩).Rows
theorem RK{l:List bR}(hl:CI l)(hw:0<=w/\w<=2):idx l w=some ⟨BV l w⟩:=by have:=hl.1;rw[fQ hw.1 aa];simp[BV,RP,kG (show w.toNat<l.length by omega)]
theorem aLR{l:List bR}(hl:CI l)(hw:0<=w/\w<=2):(BV l w).length<=24:=by
 have h:=RK hl hw;have h3:=hl.1;rw[fQ hw.1 aa] at h;injection h with h
 have:=hl.small.2.2.2 _ (cZ (show w.toNat<l.length by omega));grind
def aNQ(b:aA)(w:Int)(s:Sub):aA×Sub:=
 if s.Pc=0 then(b,{s with Pc:=1,E:=b.aI.aO})
 else if s.Pc=1 then
  if 0<=s.E/\s.E<=b.aI.aO then
   if mY b.Mem s.A/\¬bA b.a8 (s.A % 32) then({b with a8:=b.a8.set w.toNat ⟨BV b.a8 w++[⟨s.A,s.E⟩]⟩},OO s 0) else(b,OO s 4)
  else(b,OO s 1)
 else(b,OO s 1)
theorem aR9{b:aA}(hb:wP b)(hw:0<=w/\w<=2)(s:Sub):pW b w s=some (aNQ b w s):=by
 have hL:=hb.1.2.2.1;have hm:=hb.1.1;obtain⟨h1,h2,h3,_⟩:=nQ.facts hm;have hx:=RK hL hw;have hrow:=aLR hL hw;unfold pW aNQ;rw[cW,tP hm.1.1.1 aa (by grind[maxLen]) (by grind[maxLen]),eE];simp only[bN,aG,nX,uM];by_cases p0:s.Pc=0
 ·grind
 ·have p0':(s.Pc == 0)=false:=aj
  simp only[p0',bO,bM,aN p0];by_cases p1:s.Pc=1
  ·have p1':(s.Pc == 1)=true:=aj
   simp only[p1',bP,aL p1];by_cases q1:0<=s.E/\s.E<=b.aI.aO
   ·simp only[cD q1,g8,bO,bM,aL q1];by_cases q2:mY b.Mem s.A
    ·have hh:=q2.1;simp only[cD q2,g8,bO,bM,aL hh,IN hL,aG];by_cases q3:bA b.a8 (s.A % 32)
     ·simp only[cD q3,bP,aN (show ¬(mY b.Mem s.A/\¬bA b.a8 (s.A % 32)) from λh=>h.2 q3)];rfl
     ·simp only[dR q3,bO,bM,hx,aG,aL (show mY b.Mem s.A/\¬bA b.a8 (s.A % 32) from⟨q2,q3⟩)];rw[LJ];rfl
    ·simp only[dR q2,HX,bP,aN (show ¬(mY b.Mem s.A/\¬bA b.a8 (s.A % 32)) from λh=>q2 h.1)];rfl
   ·simp only[dR q1,HX,bP,aN q1];rfl
  ·have p1':(s.Pc == 1)=false:=aj
   simp only[p1',bO,bM,aN p1];rfl
def SY(r:eA)(e:Int):Prop:=2<=e/\r.aO<=bC (e-2)
instance (r:eA) (e:Int):Decidable (SY r e):=by unfold SY;infer_instance
theorem aIF(r:eA)(e:Int):FM r e=some (decide (SY r e)):=by unfold FM DB SY;grind
def I1(l:List eA)(e:Int)(k:Nat):Nat:=k+(l.drop k).findIdx (λr=>decide (SY r e))
theorem a0S{l:List eA}(hl:l.length<=1000){from_ e:Int}:rR l from_ e=some (if I1 l e from_.toNat<l.length then(I1 l e from_.toNat:Int) else -1):=by
 have hst:(if 0<from_ then from_ else 0)=(from_.toNat:Int):=aa
 unfold rR;rw[hst];have key:∀d k:Nat,l.length<=k+d->loop (eS l e) (k:Int)=some (if I1 l e k<l.length then Out.ret (I1 l e k:Int) else Out.brk ()):=by
  intro d;induction d with
  |zero=>
   intro k hk;rw[bH (r:=Out.brk ()) (by simp_all[eS,aN]),aN (by grind[I1])]
  |succ d ih=>
   intro k hk;by_cases hkl:k<l.length
   ·have hd:l.drop k=l[k]::l.drop (k+1):=BW hkl;by_cases hr:SY l[k] e
    ·have hs:I1 l e k=k:=by grind[I1]
     simp_all[bH,eS,aU,aIF]
    ·have hs:I1 l e k=I1 l e (k+1):=by unfold I1;grind
     rw[bK (s':=((k+1:Nat):Int)) (by simp only[eS];rw[cH,aU hkl,aG,aIF _ e,aG,dR hr,dY,cN];rfl),ih (k+1) aa,hs]
   grind
 rw[key l.length from_.toNat aa];split<;>rfl
def aUQ(m:Mem)(w h:Int):Mem:=
 if h/32+1<=6 then
  if(gN m.aD.Own (w*3+bW m.Heap (h % 32)).toNat).length<2 then⟨⟨st4 m.Heap.Bytes (iW (h % 32) (bW m.Heap (h % 32))).toNat (h/32+1),m.Heap.Class⟩,⟨m.aD.Global,m.aD.Own.set (w*3+bW m.Heap (h % 32)).toNat ⟨gN m.aD.Own (w*3+bW m.Heap (h % 32)).toNat++[h % 32]⟩⟩⟩
  else⟨⟨st4 m.Heap.Bytes (iW (h % 32) (bW m.Heap (h % 32))).toNat (h/32+1),m.Heap.Class⟩,⟨m.aD.Global.set (bW m.Heap (h % 32)).toNat ⟨gN m.aD.Global (bW m.Heap (h % 32)).toNat++[h % 32]⟩,m.aD.Own⟩⟩
 else⟨⟨st4 m.Heap.Bytes (iW (h % 32) (bW m.Heap (h % 32))).toNat (h/32+1),m.Heap.Class⟩,m.aD⟩
theorem aAB(hm:nQ m){h:Int}(hw:0<=w/\w<=2)(hv:mY m h):vO m w (h % 32)=some (aUQ m w h):=by
 obtain⟨hcnt,h3,h9,h1,h2,hsm,hcp,hlo,hsG,hsO⟩:=nQ.facts hm;have hs:=hm.1.1.1;have hh:=hv.1;have hcl:=jI hv.2.1;have hgo:=V1 hcl;have hc2:0<=bW m.Heap (h % 32)/\bW m.Heap (h % 32)<=2:=by obtain⟨_,q,e⟩:=NI hcl;rw[e];exact wM.1 aa
 have hg6:1<=h/32/\h/32<=6:=by grind[lH]
 have eo:iW (h % 32) (bW m.Heap (h % 32))=(((iW (h % 32) (bW m.Heap (h % 32))).toNat:Nat):Int):=aa
 have ew:bC (h/32+1)=h/32+1:=cN;unfold vO aUQ;rw[kX hs,aG,pC hs hcl,hv.2.2,aG,uE,aG,ew];generalize hgn:(iW (h % 32) (bW m.Heap (h % 32))).toNat=a at eo;rw[eo,IP aa aa aa];simp only[aG,DA,C9,ew];generalize bW m.Heap (h % 32)=c at *;by_cases q:h/32+1<=6
 ·have hk:(w*3+c).toNat<m.aD.Own.length:=aa
  have hx:idx m.aD.Own (w*3+c)=some m.aD.Own[(w*3+c).toNat]:=fQ aa aa;have hk2:c.toNat<m.aD.Global.length:=aa
  have hx2:idx m.aD.Global c=some m.aD.Global[c.toNat]:=fQ aa aa;have b1:=hsO _ (cZ hk);have b2:=hsG _ (cZ hk2);rw[cD q,aL rfl,aL q];unfold MP;rw[(P0 hw hc2).1];simp only[aG,hx,hx2,C8,KP,KQ,<-eJ hk,<-eJ hk2];by_cases q2:m.aD.Own[(w*3+c).toNat].aR.length<2
  ·have y1:(m.aD.Own[(w*3+c).toNat].aR.length:Int)<2:=aa
   simp only[cD y1,bP,aL q2];grind[bZ]
  ·have y1:¬(m.aD.Own[(w*3+c).toNat].aR.length:Int)<2:=aa
   simp only[dR y1,bO,bM,aN q2];grind[bZ]
 simp_all[aN]
def a0T(z:List Int)(w:Int):Int:=z.getD w.toNat 0
theorem aV9{z:List Int}(hz:aRT z)(hw:0<=w/\w<=2):idx z w=some (a0T z w):=by have:=hz.1;grind[fQ,a0T]
def VH(l:List eA)(k:Int):eA:=l.getD k.toNat ⟨0,0⟩
theorem aAC{l:List eA}{k:Int}(h:0<=k/\k<l.length):idx l k=some (VH l k):=by grind[fQ,VH]
def SZ(l:List eA)(s:Sub):Prop:=0<=s.Row/\s.Row<l.length/\(VH l s.Row).Handle=s.H
instance (l:List eA) (s:Sub):Decidable (SZ l s):=by unfold SZ;infer_instance
def aIG(b:aA)(w:Int)(s:Sub):aA×Sub:=
 if s.Pc=0 then(b,{s with Pc:=1,E:=b.aI.aO,Row:=0})
 else if s.Pc=1 then
  if I1 (BV b.a8 w) s.E s.Row.toNat<(BV b.a8 w).length then(b,{s with Pc:=2,Row:=(I1 (BV b.a8 w) s.E s.Row.toNat:Int),B:=0,H:=(VH (BV b.a8 w) (I1 (BV b.a8 w) s.E s.Row.toNat:Int)).Handle})
  else(b,OO s 0)
 else if s.Pc=2 then
  if(0<=s.B/\s.B<=2)/\SZ (BV b.a8 w) s then
   if a0T b.kZ s.B=s.H then(b,{s with Pc:=1,Row:=s.Row+1}) else(b,{s with Pc:=if s.B=2 then 3 else 2,B:=s.B+1})
  else(b,OO s 1)
 else if s.Pc=3 then
  if SZ (BV b.a8 w) s/\SY (VH (BV b.a8 w) s.Row) s.E then({b with Mem:=aUQ b.Mem w s.H,a8:=b.a8.set w.toNat ⟨(BV b.a8 w).eraseIdx s.Row.toNat⟩},{s with Pc:=1,Out:=bC (s.Out+1)})
  else(b,OO s 1)
 else(b,OO s 1)
theorem aPP{l:List bR}(hl:CI l)(hw:0<=w/\w<=2){r:eA}(hr:r∈BV l w):r∈dP l:=by
 have h:=RK hl hw;have h3:=hl.1;rw[fQ hw.1 aa] at h;injection h with h
 exact aKT.2 ⟨l[w.toNat],cZ _,aj⟩
theorem a0U{l:List eA}{k:Int}(h:0<=k/\k<l.length):VH l k∈l:=by have:=aAC h;grind[fQ]
theorem aPQ{b:aA}(hb:wP b)(hw:0<=w/\w<=2)(s:Sub):nH b w s=some (aIG b w s):=by
 have hL:=hb.1.2.2.1;have hm:=hb.1.1;have hx:=RK hL hw;have hrow:=aLR hL hw;have hfl:=λr hr=>aPP hL hw (r:=r) hr;unfold nH aIG;rw[hx];simp only[aG,bN];generalize BV b.a8 w=l at *;by_cases p0:s.Pc=0
 ·grind
 have p0':(s.Pc == 0)=false:=aj
 simp only[p0',bO,bM,aN p0];by_cases p1:s.Pc=1
 ·have p1':(s.Pc == 1)=true:=aj
  simp only[p1',bP,aL p1,a0S (show l.length<=1000 by omega),aG];by_cases q:I1 l s.E s.Row.toNat<l.length
  ·have n:¬(I1 l s.E s.Row.toNat:Int)<0:=aa
   simp only[aL q,dR n,bO,bM,aAC (l:=l) (k:=(I1 l s.E s.Row.toNat:Int)) aa,aG]
  ·simp only[aN q,cD (show(-1:Int)<0 by omega),bP];rfl
 have p1':(s.Pc == 1)=false:=aj
 simp only[p1',bO,bM,aN p1];have el:bC ((l.length:Int)-1)=(l.length:Int)-1:=cN;by_cases p2:s.Pc=2
 ·have p2':(s.Pc == 2)=true:=aj
  simp only[p2',bP,aL p2,cW,el,aG,eC,mD,bN];by_cases hB:0<=s.B/\s.B<=2
  ·simp only[cD hB,g8,bO,bM];by_cases hR:0<=s.Row/\s.Row<=(l.length:Int)-1
   ·simp only[cD hR,g8,bO,bM,aAC (l:=l) (k:=s.Row) aa,aG];by_cases hH:(VH l s.Row).Handle=s.H
    ·have hH':((VH l s.Row).Handle != s.H)=false:=aj
     have ha:(0<=s.B/\s.B<=2)/\SZ l s:=⟨hB,hR.1,aa,hH⟩;have e1:bC (s.B+1)=s.B+1:=cN;have e2:bC (s.Row+1)=s.Row+1:=cN;simp only[hH',bO,bM,aL ha,aV9 hb.1.2.2.2 hB,aG,e1,e2];grind
    ·have hH':((VH l s.Row).Handle != s.H)=true:=aj
     have ha:¬((0<=s.B/\s.B<=2)/\SZ l s):=λh=>hH h.2.2.2;simp only[hH',bP,aN ha,aG];rfl
   ·have ha:¬((0<=s.B/\s.B<=2)/\SZ l s):=λh=>hR ⟨h.2.1,by have:=h.2.2.1;omega⟩;simp only[dR hR,HX,bP,aN ha,aG];rfl
  ·have ha:¬((0<=s.B/\s.B<=2)/\SZ l s):=λh=>hB h.1;simp only[dR hB,HX,bP,aN ha,aG];rfl
 have p2':(s.Pc == 2)=false:=aj
 simp only[p2',bO,bM,aN p2];by_cases p3:s.Pc=3
 ·have p3':(s.Pc == 3)=true:=aj
  simp only[p3',bP,aL p3,cW,el,aG,eD,rS,bN];by_cases hR:0<=s.Row/\s.Row<=(l.length:Int)-1
  ·simp only[cD hR,g8,bO,bM,aAC (l:=l) (k:=s.Row) aa,aG];by_cases hH:(VH l s.Row).Handle=s.H
   ·have hH':((VH l s.Row).Handle != s.H)=false:=aj
    simp only[hH',bO,bM,aIF,aG];by_cases hr:SY (VH l s.Row) s.E
    ·have ha:SZ l s/\SY (VH l s.Row) s.E:=⟨⟨hR.1,aa,hH⟩,hr⟩;have e2:bC (s.Row+1)=s.Row+1:=cN;have hlive:=(hb.2 _ (hfl _ (a0U (l:=l) (k:=s.Row) aa))).1;rw[hH] at hlive;have et:(s.Row+1).toNat=s.Row.toNat+1:=aa
     simp only[cD hr,g8,bO,bM,aL ha,e2,eE,aL hlive.1,aG,aAB hm hw hlive,et];grind[bZ,del_eq]
    ·have ha:¬(SZ l s/\SY (VH l s.Row) s.E):=λh=>hr h.2;simp only[dR hr,HX,bP,aN ha,aG];rfl
   ·have hH':((VH l s.Row).Handle != s.H)=true:=aj
    have ha:¬(SZ l s/\SY (VH l s.Row) s.E):=λh=>hH h.1.2.2;simp only[hH',bP,aN ha,aG];rfl
  ·have ha:¬(SZ l s/\SY (VH l s.Row) s.E):=λh=>hR ⟨h.1.1,by have:=h.1.2.1;omega⟩;simp only[dR hR,HX,bP,aN ha,aG];rfl
 ·have p3':(s.Pc == 3)=false:=aj
  simp only[p3',bO,bM,aN p3];rfl
def yP(b:aA)(w:Int)(s:Sub):aA×Sub:=
 if s.jC then(b,s) else if s.Kind=1 then aR8 b w s else if s.Kind=2 then aNQ b w s else if s.Kind=3 then aIE b s else if s.Kind=4 then aIG b w s else if s.Kind=5 then a7I b w s else(b,OO s 1)
theorem aNR{b:aA}(hb:wP b)(hw:0<=w/\w<=2)(s:Sub):FO b w s=some (yP b w s):=by
 unfold FO yP;rw[aV7 hb.1.1 hw,aR9 hb hw,aPO hb.1.2.1,aPQ hb hw,a30 hb.1.2.1 hw];simp only[aG,bN];cases s.jC
 ·simp only[bO,bM,beq_iff_eq];split<;>(try rfl);split<;>(try rfl);split<;>(try rfl);split<;>(try rfl);split<;>rfl
 ·rfl
theorem a31{b:aA}(hb:wP b)(hw:0<=w/\w<=2)(s:Sub):wP (yP b w s).1:=by obtain⟨x,y,e1,_,h⟩:=step_eq hb hb.small hw s;grind[aNR]
theorem aE7{b:List Int}{a:Nat}(h:a+4<=b.length){j:Nat}(hj:j<a\/a+4<=j):bt (MA b a n) j=bt b j:=by unfold MA;rw[ON ah,ON ah,ON ah,ON aa,m9,m9,m9,m9]
theorem XC.put(hh:XC h)(hc:0<=bW h s)(hn:0<=n/\n<=4294967295) :
  XC ⟨MA h.Bytes ((iW s (bW h s)).toNat+4) n,h.Class⟩/\∀t,0<=bW h t->l8 ⟨MA h.Bytes ((iW s (bW h s)).toNat+4) n,h.Class⟩ t=l8 h t:=by
 obtain⟨hs,hp⟩:=hh;have h384:=hs.1;have hs':eY ⟨MA h.Bytes ((iW s (bW h s)).toNat+4) n,h.Class⟩:=⟨by grind[Z5],hs.2.1,aV1 hs.2.2.1 _ hn,hs.2.2.2⟩;obtain⟨p,i,p6,hi,es,ec,eo,ep⟩:=E5 hc;have hcl:0<=cB h p/\cB h p<=2:=wM.1 aa;have hroom:8+i*(bD (cB h p)).toNat+8<=64/\∀j,j<(dB (cB h p)).toNat->j*(bD (cB h p)).toNat+4<=i*(bD (cB h p)).toNat+4\/i*(bD (cB h p)).toNat+12<=j*(bD (cB h p)).toNat:=by grind[dB,bD]
 have hgen:∀q j,q<6->j<(dB (cB h q)).toNat->ld (MA h.Bytes ((iW s (bW h s)).toNat+4) n) (q*64+8+j*(bD (cB h q)).toNat) 4=ld h.Bytes (q*64+8+j*(bD (cB h q)).toNat) 4:=λq j hq hj=>by
  have hz:=uF hs hq rfl hj;refine RI aa (by grind[Z5]) λk k1 k2=>?_;by_cases e:q=p
  ·grind[aE7]
  grind[aE7]
 refine⟨⟨hs',λq hq=>?_⟩,λt ht=>?_⟩
 ·rw[HW hs' hq];have hold:=(HW hs hq).1 (hp q hq);by_cases e:q=p
  ·subst e;have hcl':¬cB h q<0:=aa
   unfold Z6 at hold ⊢;have hcc:cB ⟨MA h.Bytes ((iW s (bW h s)).toNat+4) n,h.Class⟩ q=cB h q:=rfl;rw[hcc];rw[aN hcl'] at hold ⊢;obtain⟨⟨a1,a2,a3⟩,a4,a5⟩:=hold;have bs:∀k,k<8->bt (MA h.Bytes ((iW s (bW h s)).toNat+4) n) (q*64+k)=bt h.Bytes (q*64+k):=λk hk=>aE7 aa aa;have b0:=bs 0 aa;grind
  ·refine Z6.same hq hs (by grind[Z5]) rfl (λk hk=>aE7 aa aa) hold
 ·obtain⟨p',i',p6',hi',es',ec',eo',ep'⟩:=E5 ht;have e2:bW ⟨MA h.Bytes ((iW s (bW h s)).toNat+4) n,h.Class⟩ t=bW h t:=rfl;grind[l8]
theorem nQ.put(hm:nQ m)(hc:0<=bW m.Heap s)(hn:0<=n/\n<=4294967295):wQ m ⟨⟨MA m.Heap.Bytes ((iW s (bW m.Heap s)).toNat+4) n,m.Heap.Class⟩,m.aD⟩ (-1):=by obtain⟨a,b⟩:=XC.put hm.1.1 hc hn;refine⟨nQ.heap hm a λx hx=>⟨rfl,b x (nQ.VG hm hx).1⟩,λt ht _=>?_⟩;have ht':=qX.1 ht;have e:=b t ht'.1;exact⟨qX.2 ⟨ht'.1,ht'.2.1,aj⟩,e,rfl⟩
theorem start_eq(hs:eY h)(hc:0<=bW h s):JH s (bW h s)=some (iW s (bW h s)+4)/\J6 s (bW h s)=some (iW s (bW h s)+4):=by have hg:=V1 hc;unfold JH J6;rw[uE,z6,aG,pH,cN];simp
theorem hb0(x:Int):(x == 0)=decide (x=0):=aj
theorem aAD(h:Int):DE h=some (decide (qW h)):=by grind[DE,AL,qW,fY]
theorem aAE(h:Int):HP h=some (decide (qW h)):=by grind[HP,EM,qW,iU]
theorem aPR{c:aI}(hc:TD c)(hw:0<=w/\w<=2):∃r,FR c w=some r/\QO c w=some r/\TD r.1/\r.1.aO=c.aO:=by
 obtain⟨p,hp,hpk⟩:=aRX hc hw;unfold FR QO;rw[lW hc.small.1,G6 hc.small.1,jH,BA hc.small.2,kC,cW,cD hc,cD hw];simp only[aG,g8,bO,bM,hp,tW,zW];cases p.On with
 |true=>
  simp only[g8,bO,bM];have h0:=hc.1;exact⟨_,rfl,rfl,hc.aNM ⟨aj,ae,λ_=>rfl⟩,rfl⟩
 |false=>simp_all
theorem aRT.set{z:List Int}(hz:aRT z)(k:Nat){h:Int}(hh:qW h):aRT (z.set k h):=⟨by simpa using hz.1,λq hq=>(rB hq).elim (hz.2 q) (λe=>e ▸ hh)⟩
theorem wP.clock{b:aA}(hb:wP b){cl:aI}(h:TD cl)(e:b.aI.aO<=cl.aO):wP ⟨b.Mem,cl,b.a8,b.kZ⟩:=⟨⟨hb.1.1,h,hb.1.2.2⟩,λr hr=>⟨(hb.2 r hr).1,Int.le_trans (hb.2 r hr).2 e⟩⟩
theorem wP.mem{b:aA}(hb:wP b)(h:wQ b.Mem m (-1)):wP ⟨m,b.aI,b.a8,b.kZ⟩:=⟨⟨h.1,hb.1.2⟩,λr hr=>⟨h.live (hb.2 r hr).1 aa,(hb.2 r hr).2⟩⟩
def aSA(kind a:Int):Sub:=⟨kind,a,0,0,0,0,0,0,0,false⟩
def kD:List Int->Nat->List UInt8->List Int
 |b,_,[]=>b
 |b,a,c::t=>kD (b.set a (c.toNat:Int)) (a+1) t
theorem wR:∀(t:List UInt8) (b:List Int) (a:Nat),(kD b a t).length=b.length
 |[],b,a=>rfl
 |c::t,b,a=>by rw[kD,wR];simp
theorem aLS:∀(t:List UInt8) {b:List Int} (a:Nat),qV b->qV (kD b a t)
 |[],b,a,h=>h
 |c::t,b,a,h=>aLS t (a+1) (aPK a h ⟨aa,by have:=c.toNat_lt;omega⟩)
theorem aAF:∀(t:List UInt8) {b:List Int} {a:Nat},a+t.length<=b.length->∀{j:Nat},(j<a\/a+t.length<=j)->bt (kD b a t) j=bt b j
 |[],b,a,h,j,hj=>rfl
 |c::t,b,a,h,j,hj=>by simp only[aBZ] at h hj;rw[kD,aAF t ah aa,ON aa,m9]
theorem aCI(b:List Int)(a:Nat)(t:List UInt8)(hl:b.length<=100000)(h:a+t.length<=b.length):∀(r:List UInt8) (k:Nat) (c:List Int),c.length=b.length->t.drop k=r->k+r.length=t.length->loop (j7 b (a:Int) t) (c,(k:Int))=some (kD c (a+k) r)
 |[],k,c,hc,hr,hk=>by refine bH ?_;simp only[j7];rw[bZ hc,aN aj];rfl
 |x::r,k,c,hc,hr,hk=>by
  simp only[aBZ] at hk;have hkt:k<t.length:=aa
  have e:=BW hkt;rw[hr] at e;injection e with e1 e2
  have st:j7 b (a:Int) t (c,(k:Int))=some (.next (c.set (a+k) (x.toNat:Int),((k+1:Nat):Int))):=by simp only[j7];rw[bZ hc,cH,aU hkt,aG,cN (x:=(a:Int)+k),show(a:Int)+k=((a+k:Nat):Int) by omega,IL,aG,cN,<-e1];rfl
  rw[bK st,aCI b a t hl h r (k+1) _ aj e2.symm aa,kD];rfl
theorem aLT{b:List Int}{a:Nat}(hl:b.length<=100000)(h:a+t.length<=b.length):lT b (a:Int) t=some (kD b a t):=by unfold lT;rw[show(0:Int)=((0:Nat):Int) from rfl,aCI b a t hl h t 0 b rfl rfl aa,aG];grind[K0,KZ,bZ,wR]
theorem XC.kD(hh:XC h)(hc:0<=bW h s){o:Nat}(ht:((o+t.length:Nat):Int)<=jU (bW h s)) :
  XC ⟨Gv.kD h.Bytes ((iW s (bW h s)).toNat+4+o) t,h.Class⟩/\∀u,0<=bW h u->l8 ⟨Gv.kD h.Bytes ((iW s (bW h s)).toNat+4+o) t,h.Class⟩ u=l8 h u:=by
 obtain⟨hs,hp⟩:=hh;have h384:=hs.1;have hs':eY ⟨Gv.kD h.Bytes ((iW s (bW h s)).toNat+4+o) t,h.Class⟩:=⟨by grind[wR],hs.2.1,aLS _ _ hs.2.2.1,hs.2.2.2⟩;obtain⟨p,i,p6,hi,es,ec,eo,ep⟩:=E5 hc;have hcl:0<=cB h p/\cB h p<=2:=wM.1 aa;rw[ec] at ht;have hroom:8+i*(bD (cB h p)).toNat+4+(jU (cB h p)).toNat<=64/\∀j,j<(dB (cB h p)).toNat->j*(bD (cB h p)).toNat+4<=i*(bD (cB h p)).toNat+4\/i*(bD (cB h p)).toNat+4+(jU (cB h p)).toNat<=j*(bD (cB h p)).toNat:=by grind[dB,bD,jU]
 have hot:o+t.length<=(jU (cB h p)).toNat:=aa
 have hgen:∀q j,q<6->j<(dB (cB h q)).toNat->ld (Gv.kD h.Bytes ((iW s (bW h s)).toNat+4+o) t) (q*64+8+j*(bD (cB h q)).toNat) 4=ld h.Bytes (q*64+8+j*(bD (cB h q)).toNat) 4:=λq j hq hj=>by
  have hz:=uF hs hq rfl hj;refine RI aa (by grind[wR]) λk k1 k2=>?_;by_cases e:q=p
  ·subst e;have:=hroom.2 j hj;exact aAF _ aa aa
  ·exact aAF _ aa aa
 refine⟨⟨hs',λq hq=>?_⟩,λu hu=>?_⟩
 ·rw[HW hs' hq];have hold:=(HW hs hq).1 (hp q hq);by_cases e:q=p
  ·subst e;have hcl':¬cB h q<0:=aa
   unfold Z6 at hold ⊢;have hcc:cB ⟨Gv.kD h.Bytes ((iW s (bW h s)).toNat+4+o) t,h.Class⟩ q=cB h q:=rfl;rw[hcc];rw[aN hcl'] at hold ⊢;obtain⟨⟨a1,a2,a3⟩,a4,a5⟩:=hold;have bs:∀k,k<8->bt (Gv.kD h.Bytes ((iW s (bW h s)).toNat+4+o) t) (q*64+k)=bt h.Bytes (q*64+k):=λk hk=>aAF _ aa aa;have b0:=bs 0 aa;grind
  ·refine Z6.same hq hs (by grind[wR]) rfl (λk hk=>aAF _ aa aa) hold
 ·obtain⟨p',i',p6',hi',es',ec',eo',ep'⟩:=E5 hu;have e2:bW ⟨Gv.kD h.Bytes ((iW s (bW h s)).toNat+4+o) t,h.Class⟩ u=bW h u:=rfl;grind[l8]
theorem nQ.kD(hm:nQ m)(hc:0<=bW m.Heap s){o:Nat}(ht:((o+t.length:Nat):Int)<=jU (bW m.Heap s)):wQ m ⟨⟨Gv.kD m.Heap.Bytes ((iW s (bW m.Heap s)).toNat+4+o) t,m.Heap.Class⟩,m.aD⟩ (-1):=by obtain⟨a,b⟩:=XC.kD hm.1.1 hc ht;refine⟨nQ.heap hm a λx hx=>⟨rfl,b x (nQ.VG hm hx).1⟩,λt ht _=>?_⟩;have ht':=qX.1 ht;have e:=b t ht'.1;exact⟨qX.2 ⟨ht'.1,ht'.2.1,aj⟩,e,rfl⟩
def aPS:dW:=⟨0,0,0⟩
def FZ(h:Heap)(s:Int):Nat:=(iW s (bW h s)).toNat+4
def a32(h:Heap)(s:Int):dW:=⟨ld h.Bytes (FZ h s) 2,ld h.Bytes (FZ h s+2) 4,ld h.Bytes (FZ h s+6) 4⟩
def OQ(h:Heap)(x:Int):dW:=if lH x/\0<=bW h (x % 32)/\10<=jU (bW h (x % 32)) then a32 h (x % 32) else aPS
theorem RL(hcl:0<=bW h s)(h10:10<=jU (bW h s)):FZ h s+10<=384/\16<=jU (bW h s):=by grind[bW,FZ,E5,jU,dB,bD]
theorem aIH(hs:eY h)(s:Int):EH h s=some (decide (10<=jU (bW h s))):=by grind[EH,jG,U3]
theorem X6(hs:eY h)(hc:0<=bW h s):xW h s=some (FZ h s:Int):=by have:=V1 hc;grind[xW,FZ,jG,start_eq]
theorem aWA(hs:eY h)(hc:0<=bW h s)(h10:10<=jU (bW h s)):NA h s=some (a32 h s):=by
 have hr:=(RL hc h10).1;have h1:=hs.1;unfold NA a32;rw[X6 hs hc,aG,show(2:Int)=((2:Nat):Int) from rfl,show(4:Int)=((4:Nat):Int) from rfl,tN hs.2.2.1 aa aa aa,aG,
  cN,show(FZ h s:Int)+((2:Nat):Int)=((FZ h s+2:Nat):Int) by omega,tN hs.2.2.1 aa aa aa,aG,
  cN,show(FZ h s:Int)+6=((FZ h s+6:Nat):Int) by omega,tN hs.2.2.1 aa aa aa];rfl
theorem aLU(hm:nQ m)(x:Int):∃c,HO m x=some (OQ m.Heap x,c):=by
 have hs:=hm.1.1.1;unfold HO OQ;rw[iU,aG];by_cases hh:lH x
 ·rw[cD hh,dY,(lH.mod hh).1,jG hs,aG];unfold EI;by_cases hc:bW m.Heap (x % 32)<0
  ·rw[cD hc,aL rfl,m9];exact⟨_,rfl⟩
  ·rw[dR hc,dY,(lH.mod hh).1,aIH hs,aG];by_cases h10:10<=jU (bW m.Heap (x % 32))
   ·simp_all[aWA]
   ·rw[dR h10,aL ak,m9];exact⟨_,rfl⟩
 ·rw[dR hh,aL ak,aN (λq=>hh q.1)];exact⟨_,rfl⟩
def OR(n:dW):Int:=if lH n.Next then n.Next else 0
theorem aNS(n:dW):gC n=some (OR n):=by unfold gC OR;rw[iU,aG];grind
theorem aBQ(n:dW):qW (OR n):=by
 unfold OR;split
 ·exact .inr (by assumption)
 ·exact .inl rfl
def aPT(m:Mem)(x:Int):Prop:=mY m x/\10<=jU (bW m.Heap (x % 32))
instance (m:Mem) (x:Int):Decidable (aPT m x):=by unfold aPT;infer_instance
theorem aCJ(hm:nQ m)(x:Int):∃c,zV m x=some c/\(c=0↔aPT m x):=by
 obtain⟨hcnt,h3,h9,h1,h2,hsm,hcp,hlo,hsG,hsO⟩:=nQ.facts hm;have hs:=hm.1.1.1;unfold zV aPT;rw[LO hs aa (by rw[h3];simp[maxLen]) (by rw[h9];simp[maxLen]),aG];by_cases hl:mY m x
 ·rw[cD hl,dY,(lH.mod hl.1).1,aIH hs,aG];by_cases h10:10<=jU (bW m.Heap (x % 32))
  ·rw[cD h10,dY];exact⟨_,rfl,by simp[hl,h10]⟩
  ·rw[dR h10,aL ak];exact⟨_,rfl,by simp[hl,h10]⟩
 simp_all
def XI(n:Int):List UInt8:=[u8 (n/256),u8 n]
theorem aSB(hn:0<=n/\n<=65535):kS n 2=some (XI n):=by
 have hw:xO 2=some true:=by grind[xO,eT]
 unfold kS;rw[hw];have e1:IntKind.u64.wrap (bC (8*2))=16:=ai
 have e2:aFB .i64 1 16=65536:=ai
 simp only[aG,g8,bO,bM,e1,e2];rw[pH,LU,dR aa];simp only[tZ,bO,bM];rw[LU,show bC (2-1)=((1:Nat):Int) from by grind[dA]];have st:∀(m:Int) (c:List UInt8) (i:Nat),i<c.length->i<4->0<=m->o4 (m,c,(i:Int))=some (.next (m/256,c.set i (u8 m),(i:Int)-1)):=λm c i hc hi h0=>by simp only[o4];rw[aL ae,aU hc,aG,show(8:Int)=((8:Nat):Int) from rfl,aUI h0 aa,cN,BC];rfl
 rw[bK (st n _ 1 ae aa hn.1),show((1:Nat):Int)-1=((0:Nat):Int) by rfl,
  bK (st _ _ 0 ae aa aa),bH (r:=XI n)]
 ·rfl
 ·simp only[o4];rw[dY];rfl
def a7J(n:dW):List UInt8:=XI n.Key++CK n.fE++CK n.Next
def aNT(n:dW):Prop:=(0<=n.Key/\n.Key<=99)/\(0<=n.fE/\n.fE<=65535)/\qW n.Next
instance (n:dW):Decidable (aNT n):=by unfold aNT;infer_instance
theorem aWB(n:dW):NC n=some (decide (aNT n)):=by grind[NC,aNT,eT,aAE,wD]
theorem aAG(h:qW x):0<=x/\x<=223:=by
 rcases h with h|h
 ·omega
 ·have:=h.1;omega
def aII(m:Mem)(x:Int)(n:dW):Mem:=if aNT n/\aPT m x then⟨⟨kD m.Heap.Bytes (FZ m.Heap (x % 32)) (a7J n),m.Heap.Class⟩,m.aD⟩ else m
theorem aSC(hm:nQ m)(x:Int)(n:dW):∃c,J9 m x n=some (aII m x n,c):=by
 obtain⟨hcnt,h3,h9,h1,h2,hsm,hcp,hlo,hsG,hsO⟩:=nQ.facts hm;have hs:=hm.1.1.1;have hbl:m.Heap.Bytes.length<=maxLen:=by grind[maxLen]
 unfold J9 aII;rw[VD hsm,aG,OI hbl aa,cD hm,aG,dY,aWB,aG];unfold A2;by_cases hn:aNT n
 ·rw[cD hn,dY];obtain⟨c,e,hc⟩:=aCJ hm x;rw[e,aG];by_cases hw:aPT m x
  ·have hcl:=jI hw.1.2.1;have hr:=(RL hcl hw.2).1;have hnx:=aAG hn.2.2;have hk1:=hn.1.2;have hv1:=hn.2.1.2;obtain rfl:=hc.2 hw;rw[aL ak,(lH.mod hw.1.1).1,X6 hs hcl,aG,aSB ⟨hn.1.1,aa⟩,aG,RH ⟨hn.2.1.1,aa⟩,aG,bZ (by simp[XI,CK]),
    RH ⟨hnx.1,aa⟩,aG,bZ (by simp[XI,CK]),aLT aa (by grind[XI,CK]),aG,aL ⟨hn,hw⟩]
   exact⟨_,rfl⟩
  ·rw[aN aj,aN (λq=>hw q.2)];exact⟨_,rfl⟩
 simp_all
def aIJ(m:Mem)(x y:Int):Mem:=if qW y/\aPT m x then⟨⟨kD m.Heap.Bytes (FZ m.Heap (x % 32)+6) (CK y),m.Heap.Class⟩,m.aD⟩ else m
theorem aWC(hm:nQ m)(x y:Int):∃c,NB m x y=some (Gv.aIJ m x y,c):=by
 obtain⟨hcnt,h3,h9,h1,h2,hsm,hcp,hlo,hsG,hsO⟩:=nQ.facts hm;have hs:=hm.1.1.1;have hbl:m.Heap.Bytes.length<=maxLen:=by grind[maxLen]
 unfold NB Gv.aIJ;rw[VD hsm,aG,OI hbl aa,cD hm,aG,dY,aAE,aG];unfold EN;by_cases hn:qW y
 ·rw[cD hn,dY];obtain⟨c,e,hc⟩:=aCJ hm x;rw[e,aG];by_cases hw:aPT m x
  ·have hcl:=jI hw.1.2.1;have hr:=(RL hcl hw.2).1;have hnx:=aAG hn;obtain rfl:=hc.2 hw;rw[aL ak,(lH.mod hw.1.1).1,X6 hs hcl,aG,RH ⟨hnx.1,aa⟩,aG,cN,show(FZ m.Heap (x % 32):Int)+6=((FZ m.Heap (x % 32)+6:Nat):Int) by omega,
    aLT aa (by grind[CK]),aG,aL ⟨hn,hw⟩]
   exact⟨_,rfl⟩
  ·rw[aN aj,aN (λq=>hw q.2)];exact⟨_,rfl⟩
 simp_all
theorem a0V(hm:nQ m)(x:Int)(n:dW):wQ m (aII m x n) (-1):=by
 unfold aII;split
 ·rename_i h;have:=RL (jI h.2.1.2.1) h.2.2;exact nQ.kD hm (jI h.2.1.2.1) (o:=0) (by grind[a7J,XI,CK])
 ·exact⟨hm,λs h _=>⟨h,rfl,rfl⟩⟩
theorem a0W(hm:nQ m)(x y:Int):wQ m (Gv.aIJ m x y) (-1):=by
 unfold Gv.aIJ;split
 ·rename_i h;have:=RL (jI h.2.1.2.1) h.2.2;exact nQ.kD hm (jI h.2.1.2.1) (o:=6) (by grind[CK])
 ·exact⟨hm,λs h _=>⟨h,rfl,rfl⟩⟩
def a0X:Heap:=⟨List.replicate 384 0,[-1,-1,-1,-1,-1,-1]⟩
def a7K:aD:=⟨List.replicate 3 ⟨[]⟩,List.replicate 9 ⟨[]⟩⟩
def aUR:aA:=⟨⟨a0X,a7K⟩,⟨0,List.replicate 3 ⟨false,0,false,0⟩⟩,List.replicate 3 ⟨[]⟩,List.replicate 3 0⟩
theorem aEH:JC=some a0X:=by
 unfold JC;have key:loop sM (0,[])=some (List.replicate 6 (-1)):=iG (f:=sM) 6 (λk=>((k:Int),List.replicate k (-1))) _ (λk hk=>by
  simp only[sM];rw[cH,LJ,cN,List.replicate_succ'];rfl) (by simp[sM])
 rw[LU,key];rfl
theorem a7L:uQ [-1] 6=some [-1,-1,-1,-1,-1,-1]:=by
 unfold uQ;rw[dY,show NU (IntKind.u64.wrap (([-1]:List Int).length:Int)) (IntKind.u64.wrap 6)=some (0,6) by kernel_rfl];simp only[aG];rw[dY,dR aa];simp only[oD,bO,bM];rw[show IntKind.i64.wrap 6=6 from wrap_i64 aa aa,LU,
  show(cO (List.replicate (Int.toNat 6) 0) 0 [-1],((min ([-1]:List Int).length ((List.replicate (Int.toNat 6) (0:Int)).length-0):Nat):Int))=([-1,0,0,0,0,0],1) by kernel_rfl,
  bK (body:=j5) (s':=([-1,-1,0,0,0,0],2)) (by kernel_rfl),bK (body:=j5) (s':=([-1,-1,-1,-1,0,0],4)) (by kernel_rfl),
  bK (body:=j5) (s':=([-1,-1,-1,-1,-1,-1],6)) (by kernel_rfl),bH (body:=j5) (r:=[-1,-1,-1,-1,-1,-1]) (by kernel_rfl)]
 rfl
theorem aEI:JW=some a0X:=by unfold JW;rw[LU,a7L];rfl
theorem aIK:JD=some aUR/\JX=some aUR:=by unfold JD JX T3 UF NR NV NS NW NT NX T4 UG;rw[aEH,aEI,LU,LU,LU,LU,LU];exact⟨rfl,rfl⟩
theorem a0Y:wP aUR:=of_decide_eq_true (by kernel_rfl)
theorem aBR{b:aA}(hb:wP b)(hw:0<=w/\w<=2)(s:Sub):o6 s b w=some ((yP b w s).2,(yP b w s).1):=by obtain⟨x,y,e1,e2,h⟩:=step_eq hb hb.small hw s;grind[aNR]
def OS:aE:=⟨false,⟨false,[]⟩,0,0,0,0,0,0,0,0,aPS,false,0,⟨0,0,0,0,0,0,0,0,0,false⟩,[],[],[],[],[],[]⟩
def mX(k:List cM)(i:Int):cM:=k.getD i.toNat ⟨0,0,0⟩
def RM(j:aE)(c:Int):aE:={j with Pc:=16,Code:=c}
def X7(a b:Int):Int:=Int.tmod (bC (a+b)) 65536
def CQ(j:aE)(x:aQ):Bool×aE:=if 6<(XE j.aH x).length then(false,RM j 1) else(true,{j with aH:=XE j.aH x})
def aEJ(j:aE)(is:Bool)(v:Int):aE:={j with cV:=j.cV++[⟨is,v⟩],Pc:=1,At:=j.At+1}
def aWD(j:aE)(c:jJ)(v:Int):aE:=if(CQ j ⟨c.Key,false,X7 v c.fE⟩).1 then aEJ (CQ j ⟨c.Key,false,X7 v c.fE⟩).2 true (X7 v c.fE) else(CQ j ⟨c.Key,false,X7 v c.fE⟩).2
def aKO(j:aE)(c:jJ)(v:Int)(is:Bool):aE:=if c.Kind=4 then aWD j c (if is then v else 0) else aEJ j is (if is then v else 0)
def dU(j:aE):jJ:=j.Batch.bI.getD j.At.toNat ⟨0,0,0⟩
def IS(j:aE):Prop:=j.At<j.Batch.bI.length
instance (j:aE):Decidable (IS j):=by unfold IS;infer_instance
def aSD(j:aE):aE:=
 if IS j then
  if(dU j).Kind=2\/(dU j).Kind=3 then
   if(CQ j ⟨(dU j).Key,(dU j).Kind == 3,(dU j).fE⟩).1 then {(CQ j ⟨(dU j).Key,(dU j).Kind == 3,(dU j).fE⟩).2 with At:=j.At+1,cV:=j.cV++[⟨false,0⟩]}
   else(CQ j ⟨(dU j).Key,(dU j).Kind == 3,(dU j).fE⟩).2
  else if(WH j.aH (dU j).Key).2 then aKO j (dU j) (WH j.aH (dU j).Key).1.fE (!(WH j.aH (dU j).Key).1.F8)
  else {j with Pc:=2,cM:=y9 (dU j).Key}
 else {j with Pc:=6,K:=0,Sub:=aSA 1 16}
def aIL(b:aA)(k:List cM)(w:Int)(j:aE):aE:=
 if j.Pc=2 then
  if(mX k j.cM).gG≠0 then RM j 7
  else {j with fF:=(mX k j.cM).fF,H:=(mX k j.cM).Head,Found:=false,Node:=aPS,Pc:=if(mX k j.cM).Head=0 then 5 else 3}
 else if j.Pc=3 then {j with Node:=OQ b.Mem.Heap j.H,Pc:=4}
 else if j.Pc=4 then
  if ¬((uY b.aI w).On=true/\(uY b.aI w).g9=false) then RM j 6
  else if IS j then {j with Found:=j.Node.Key == (dU j).Key,H:=OR j.Node,Pc:=if j.Node.Key=(dU j).Key\/OR j.Node=0 then 5 else 3}
  else RM j 1
 else
  if(mX k j.cM).gG≠0\/(mX k j.cM).fF≠j.fF then RM j 7
  else if(CJ j.Reads j.cM j.fF).2=false then RM {j with Reads:=(CJ j.Reads j.cM j.fF).1} 7
  else if IS j then aKO {j with Reads:=(CJ j.Reads j.cM j.fF).1} (dU j) j.Node.fE j.Found
  else RM {j with Reads:=(CJ j.Reads j.cM j.fF).1} 1
def aSE(b:aA)(w:Int)(j:aE):aA×aE:=
 if jV j.aH j.aH.length<=j.K then(b,{j with Pc:=7,K:=0})
 else((yP b w j.Sub).1,
  if(yP b w j.Sub).2.jC=false then {j with Sub:=(yP b w j.Sub).2}
  else if(yP b w j.Sub).2.Code≠0\/¬lH (yP b w j.Sub).2.Out\/6<=j.cT.length then RM {j with Sub:=(yP b w j.Sub).2} (yP b w j.Sub).2.Code
  else {j with cT:=j.cT++[(yP b w j.Sub).2.Out],K:=j.K+1,Sub:=aSA 1 16})
def fZ(j:aE):Int:=(pE j.aH).getD j.K.toNat 0
def aBS(j:aE):aE:={j with bA:=if fZ j∈j.bA then j.bA else j.bA++[fZ j],K:=j.K+1}
def aNU(k:List cM)(w:Int)(j:aE):List cM×aE×Bool:=
 if j.K<(pE j.aH).length then
  if(mX k (fZ j)).gG≠0\/(j.Reads.any λs=>s.cM == fZ j && s.fF != (mX k (fZ j)).fF)=true then(k,RM j 7,false)
  else if(mX k (fZ j)).fF=1000000 then(k,RM j 3,false)
  else if(pE j.aH).length<=j.K+1 then(k.set (fZ j).toNat {mX k (fZ j) with gG:=w+1},{aBS j with Pc:=8,K:=0},true)
  else(k.set (fZ j).toNat {mX k (fZ j) with gG:=w+1},aBS j,false)
 else(k,{j with Pc:=8,K:=0},true)
def rdN(j:aE):Seen:=j.Reads.getD j.K.toNat ⟨0,0⟩
def aWE(k:List cM)(w:Int)(j:aE):aE:=
 if j.Reads.length<=j.K then {j with Pc:=9,K:=0}
 else if((mX k (rdN j).cM).gG≠0/\(mX k (rdN j).cM).gG≠w+1)\/(mX k (rdN j).cM).fF≠(rdN j).fF then RM j 7
 else {j with K:=j.K+1}
def plF(j:aE)(x:aQ):aE:=if x.F8 then {j with Pc:=9,K:=j.K+1} else {j with Pc:=12}
def X9(j:aE):aQ:=j.aH.getD j.K.toNat ⟨0,false,0⟩
def aIM(j:aE):Int:=j.cT.getD (jV j.aH j.K).toNat 0
def aIN(j:aE):aE:=if lH j.H/\j.bG.length<6 then {j with bG:=j.bG++[j.H]} else j
def aIO(b:aA)(k:List cM)(j:aE):aA×List cM×aE:=
 if j.aH.length<=j.K then(b,k,{j with Pc:=14})
 else if j.Pc=9 then(b,k,if(mX k (y9 (X9 j).Key)).Head=0 then plF {j with Pc:=10,H:=(mX k (y9 (X9 j).Key)).Head,gO:=0} (X9 j) else {j with Pc:=10,H:=(mX k (y9 (X9 j).Key)).Head,gO:=0})
 else if j.Pc=10 then
  (b,k,if(OQ b.Mem.Heap j.H).Key=(X9 j).Key then {j with Pc:=11,Node:=OQ b.Mem.Heap j.H}
   else if OR (OQ b.Mem.Heap j.H)=0 then plF {j with Node:=OQ b.Mem.Heap j.H} (X9 j)
   else {j with H:=OR (OQ b.Mem.Heap j.H),gO:=j.H,Node:=OQ b.Mem.Heap j.H})
 else if j.Pc=11 then
  if j.gO=0 then(b,k.set (y9 (X9 j).Key).toNat {mX k (y9 (X9 j).Key) with Head:=OR j.Node},plF (aIN j) (X9 j))
  else({b with Mem:=Gv.aIJ b.Mem j.gO (OR j.Node)},k,plF (aIN j) (X9 j))
 else if j.cT.length<=jV j.aH j.K then(b,k,RM j 1)
 else if j.Pc=12 then({b with Mem:=aII b.Mem (aIM j) ⟨(X9 j).Key,(X9 j).fE,(mX k (y9 (X9 j).Key)).Head⟩},k,{j with Pc:=13})
 else(b,k.set (y9 (X9 j).Key).toNat {mX k (y9 (X9 j).Key) with Head:=aIM j},{j with Pc:=9,K:=j.K+1})
def aPU(j:aE):aE:=if j.K<j.bG.length then {j with Sub:=aSA 2 (j.bG.getD j.K.toNat 0)} else j
def I2(j:aE):Int:=j.bA.getD 0 0
def aKP(k:List cM)(j:aE):List cM×aE:=
 if 0<j.bA.length then
  (k.set (I2 j).toNat (if j.Pc=14 then⟨(mX k (I2 j)).Head,if 1000000<(mX k (I2 j)).fF+1 then 1000000 else(mX k (I2 j)).fF+1,0⟩ else {mX k (I2 j) with gG:=0}),{j with bA:=j.bA.drop 1})
 else if j.Pc=16 then(k,{j with Pc:=17})
 else(k,aPU {j with Pc:=15,K:=0})
def aSG(b:aA)(w:Int)(j:aE):aA×aE:=
 if j.bG.length<=j.K then(b,{j with Pc:=18})
 else((yP b w j.Sub).1,if(yP b w j.Sub).2.jC then aPU {j with K:=j.K+1,Sub:=(yP b w j.Sub).2} else {j with Sub:=(yP b w j.Sub).2})
def aPV(m:Mem)(w x:Int):Mem:=if mY m x then aUQ m w x else m
def aSH(b:aA)(w:Int)(j:aE):aA×aE:=
 if j.cT.length=0 then(b,{j with Pc:=18})
 else(if bA b.a8 (j.cT.getD 0 0 % 32) then b else {b with Mem:=aPV b.Mem w (j.cT.getD 0 0)},{j with cT:=j.cT.drop 1})
def aKQ(b:aA)(w:Int)(j:aE):aA×aE:=
 ((yP b w j.Sub).1,if(yP b w j.Sub).2.jC = false then {j with Sub:=(yP b w j.Sub).2}
  else if j.Pc=0 then {j with Pc:=1,Sub:=(yP b w j.Sub).2}
  else if j.Pc=20 then {j with Pc:=21,Sub:=aSA 4 0}
  else {j with Pc:=19,Sub:=(yP b w j.Sub).2})
def tlE(w:Int)(j:aE):qZ:=⟨3,w,j.aK,j.Code,[],if j.Code=0 then j.cV else []⟩
structure TR where
 b:aA
 k:List cM
 j:aE
 l:List qZ
def doF(b:aA)(k:List cM)(w:Int)(j:aE):TR:=
 if j.Pc=0\/j.Pc=20\/j.Pc=21 then⟨(aKQ b w j).1,k,(aKQ b w j).2,[]⟩
 else if j.Pc=1 then⟨b,k,aSD j,[]⟩
 else if 2<=j.Pc/\j.Pc<=5 then⟨b,k,aIL b k w j,[]⟩
 else if j.Pc=6 then⟨(aSE b w j).1,k,(aSE b w j).2,[]⟩
 else if j.Pc=7 then⟨b,(aNU k w j).1,(aNU k w j).2.1,if(aNU k w j).2.2 then [⟨2,w,j.aK,0,[],[]⟩] else []⟩
 else if j.Pc=8 then⟨b,k,aWE k w j,[]⟩
 else if 9<=j.Pc/\j.Pc<=13 then⟨(aIO b k j).1,(aIO b k j).2.1,(aIO b k j).2.2,[]⟩
 else if j.Pc=14\/j.Pc=16 then⟨b,(aKP k j).1,(aKP k j).2,[]⟩
 else if j.Pc=15 then⟨(aSG b w j).1,k,(aSG b w j).2,[]⟩
 else if j.Pc=17 then⟨(aSH b w j).1,k,(aSH b w j).2,[]⟩
 else if j.Pc=18 then⟨{b with aI:=(aID b.aI w).1},k,{j with Pc:=19},[]⟩
 else if j.Pc=19 then⟨b,k,OS,[tlE w j]⟩
 else⟨b,k,RM j 1,[]⟩
def fH(t:Table)(w:Int):aE:=t.aM.getD w.toNat OS
def LQ(t:Table)(w:Int):List Batch:=(t.bL.getD w.toNat ⟨[]⟩).List
def LR(b:Batch)(s:Int):aE:=⟨true,b,s,if b.Collect then 20 else 0,0,0,0,0,0,0,aPS,false,0,if b.Collect then aSA 3 0 else aSA 5 0,[],[],[],[],[],[]⟩
def aWF(t:Table)(w:Int)(b:Batch):Table:=⟨t.aA,t.aT,t.aM.set w.toNat (LR b (t.aK+1)),t.bL.set w.toNat ⟨(LQ t w).drop 1⟩,t.Log++[⟨1,w,t.aK+1,0,b.bI,[]⟩],t.aK+1⟩
def WI(t:Table)(w:Int)(r:TR):Table:=⟨r.b,r.k,t.aM.set w.toNat r.j,t.bL,t.Log++r.l,t.aK⟩
def wS(t:Table)(w:Int):Table:=
 if(fH t w).m0 then WI t w (doF t.aA t.aT w (fH t w))
 else if(LQ t w).length=0\/t.aK=1000000 then t else aWF t w ((LQ t w).getD 0 ⟨false,[]⟩)
def WJ(c:jJ):Prop:=(1<=c.Kind/\c.Kind<=4)/\(0<=c.Key/\c.Key<=99)/\(0<=c.fE/\c.fE<=65535)/\(c.Kind=2\/c.Kind=4\/c.fE=0)
instance (c:jJ):Decidable (WJ c):=by unfold WJ;infer_instance
def VJ(b:Batch):Prop:=(b.Collect=true->b.bI=[])/\b.bI.length<=6/\(∀c∈b.bI,WJ c)/\(b.Collect=false->1<=b.bI.length)
instance (b:Batch):Decidable (VJ b):=by unfold VJ;infer_instance
def QuV(q:aP):Prop:=q.List.length<=12/\∀b∈q.List,VJ b
instance (q:aP):Decidable (QuV q):=by unfold QuV;infer_instance
def aEK(l:List aP):Prop:=l.length=3/\∀q∈l,QuV q
instance (l:List aP):Decidable (aEK l):=by unfold aEK;infer_instance
def BkV(b:cM):Prop:=qW b.Head/\(0<=b.fF/\b.fF<=1000000)/\(0<=b.gG/\b.gG<=3)
def WrV(l:List aQ):Prop:=l.length<=6/\(∀x∈l,(0<=x.Key/\x.Key<=99)/\(0<=x.fE/\x.fE<=65535))/\l.Pairwise (λx y=>x.Key<y.Key)
structure JB (j:aE):Prop where
 busy:j.m0=true
 bat:VJ j.Batch
 h:qW j.H
 prev:qW j.gO
 bkt:0<=j.cM/\j.cM<=1
 at_:0<=j.At/\j.At<=j.Batch.bI.length
 k:0<=j.K/\j.K<=6
 new:j.cT.length<=6/\∀x∈j.cT,lH x
 old:j.bG.length<=6/\∀x∈j.bG,lH x
 reads:(∀s∈j.Reads,0<=s.cM/\s.cM<=1)/\(j.Reads.map Seen.cM).Nodup
 wr:WrV j.aH
 held:(∀x∈j.bA,0<=x/\x<=1)/\j.bA.Nodup
 res:(j.cV.length:Int)=j.At
 node:0<=j.Node.fE/\j.Node.fE<=4294967295
structure TV (t:Table):Prop where
 base:wP t.aA
 bk:t.aT.length=2/\∀x∈t.aT,BkV x
 aP2:t.aM.length=3/\∀j∈t.aM,j=OS\/JB j
 todo:aEK t.bL
 ser:0<=t.aK/\t.aK<=1000000
theorem aLV(hw:j.aH.length<=1000)(x:aQ):qO j x=some (CQ j x):=by
 unfold qO CQ;rw[aBL hw,aG];by_cases h:6<(XE j.aH x).length
 ·rw[cH,aL h];rfl
 grind
theorem P1(j:aE)(x:aQ):(CQ j x).2.cV=j.cV/\(CQ j x).2.At=j.At:=by grind[CQ,RM]
theorem aLW(hw:j.aH.length<=1000)(hr:j.cV.length<=1000)(ha:0<=j.At/\j.At<=1000)(c:jJ)(v:Int)(is:Bool):qP j c v is=some (aKO j c v is):=by
 have key:∀u,lE j c is u=some (if c.Kind=4 then aWD j c u else aEJ j is u):=λu=>by
  unfold lE;by_cases hk:c.Kind=4
  ·rw[aL aj,aL hk];unfold XV aWD;rw[aG,show Int.tmod (bC (u+c.fE)) 65536=X7 u c.fE from rfl,aLV hw,aG];obtain⟨e1,e2⟩:=P1 j ⟨c.Key,false,X7 u c.fE⟩;cases h:(CQ j ⟨c.Key,false,X7 u c.fE⟩).1
   ·simp
   ·rw[dY,aL rfl];grind[lD,pL,aEJ,bZ,dA]
  ·rw[aN aj,aN hk];grind[lD,pL,aEJ,bZ,dA]
 unfold qP aKO;grind
theorem aIP(hl:j.Batch.bI.length<=1000)(ha:0<=j.At):oN j=some (if IS j then(dU j,true,j) else(⟨0,0,0⟩,false,j)):=by
 unfold oN dU;rw[eT,aG,cN];by_cases hc:IS j
 ·have h:j.At<j.Batch.bI.length:=hc;rw[cD aa,dY,aL hc,fQ ha h,aG];grind
 ·have h:¬j.At<j.Batch.bI.length:=hc;grind
theorem a02(hl:j.Batch.bI.length<=1000)(hw:j.aH.length<=1000)(hr:j.cV.length<=1000)(ha:0<=j.At/\j.At<=1000):EG j=some (aSD j):=by
 unfold EG aSD;rw[aIP hl ha.1,aG];by_cases h:IS j
 ·rw[aL h,aL h];have put:i7 (dU j,true,j) true j=some (if(CQ j ⟨(dU j).Key,(dU j).Kind == 3,(dU j).fE⟩).1 then {(CQ j ⟨(dU j).Key,(dU j).Kind == 3,(dU j).fE⟩).2 with At:=j.At+1,cV:=j.cV++[⟨false,0⟩]} else(CQ j ⟨(dU j).Key,(dU j).Kind == 3,(dU j).fE⟩).2):=by
   unfold i7;rw[aL rfl,aLV hw,aG];obtain⟨e1,e2⟩:=P1 j ⟨(dU j).Key,(dU j).Kind == 3,(dU j).fE⟩;cases (CQ j ⟨(dU j).Key,(dU j).Kind == 3,(dU j).fE⟩).1
   ·rw[dY,dY]
   ·rw[aL rfl,aL rfl,bZ (by rw[e1];simp;omega)];simp only[e1,e2];rw[cN]
  have get:i7 (dU j,true,j) false j=some (if(WH j.aH (dU j).Key).2 then aKO j (dU j) (WH j.aH (dU j).Key).1.fE (!(WH j.aH (dU j).Key).1.F8) else {j with Pc:=2,cM:=y9 (dU j).Key}):=by
   unfold i7 EF;rw[dY,aEE hw,aG];cases (WH j.aH (dU j).Key).2
   ·rw[dY,dY,OJ];rfl
   ·rw[aL rfl,aL rfl,aLW hw hr ha];rfl
  grind
 ·rw[aN h,aN h];rfl
theorem uZ{t:Table}(h3:t.aM.length=3)(hw:0<=w/\w<=2):idx t.aM w=some (fH t w):=by grind[fQ,fH]
theorem E6{k:List cM}{i:Int}(h2:k.length=2)(hi:0<=i/\i<=1):idx k i=some (mX k i):=by grind[fQ,mX]
theorem VK{l:List O}{i:Int}{x:O}(h:0<=i/\i<l.length):idx (l.set i.toNat x) i=some x:=by grind[fQ]
theorem aNV{t:Table}(h3:t.aM.length=3)(hw:0<=w/\w<=2):fH t w∈t.aM:=by grind[fH]
def aPW(t:Table)(w:Int)(j:aE):Table:={t with aM:=t.aM.set w.toNat j}
section
variable {t:Table} {w:Int} (h3:t.aM.length=3) (h2:t.aT.length=2) (hb:wP t.aA) (hw:0<=w/\w<=2) (hj:JB (fH t w))
include h3 h2 hb hw hj
theorem P2:(fH t w).Batch.bI.length<=1000/\(fH t w).aH.length<=1000/\(fH t w).cV.length<=1000/\(0<=(fH t w).At/\(fH t w).At<=1000)/\(fH t w).Reads.length<=2:=by
 have h1:=hj.bat.2.1;have h4:=hj.at_;have h5:=hj.res;have h6:=hj.wr.1;refine⟨aa,aa,aa,aa,?_⟩;have hn:=hj.reads.2;have hm:∀x∈(fH t w).Reads.map Seen.cM,x=0\/x=1:=λx hx=>by obtain⟨s,hs,rfl⟩:=List.mem_map.1 hx;have:=hj.reads.1 s hs;omega
 have hl:((fH t w).Reads.map Seen.cM).length<=2:=by
  match h:(fH t w).Reads.map Seen.cM,hn,hm with
  |[],_,_=>simp
  |[_],_,_=>simp
  |[_,_],_,_=>simp
  |x::y::z::r,hn,hm=>
   (simp_all;omega)
 grind
theorem a33:AY t w=some (aPW t w (aIL t.aA t.aT w (fH t w))):=by
 obtain⟨s1,s2,s3,s4,s5⟩:=P2 h3 h2 hb hw hj;have hjob:=uZ h3 hw;unfold AY BM aIL aPW;rw[hjob,aG,E6 h2 hj.bkt,aG,aG,aIP s1 s4.1,aG];generalize hjj:fH t w=j at *;have e62:(if IS j then(dU j,true,j) else((⟨0,0,0⟩:jJ),false,j)).2.2=j:=aj
 have set2:∀x y:aE,(t.aM.set w.toNat x).set w.toNat y=t.aM.set w.toNat y:=λx y=>aKW ..;have iset:∀x:aE,idx (t.aM.set w.toNat x) w=some x:=λx=>VK ⟨hw.1,aa⟩;simp only[e62];by_cases p2:j.Pc=2
 ·have p2':(j.Pc == 2)=true:=aj
  simp only[p2',bP,aL p2];by_cases hl:(mX t.aT j.cM).gG=0
  ·have e:((mX t.aT j.cM).gG != 0)=false:=aj
   simp only[e,bO,bM,aN (not_not_intro hl)];by_cases hh:(mX t.aT j.cM).Head=0
   ·have e:((mX t.aT j.cM).Head == 0)=true:=aj
    simp only[e,bP,aL hh];rfl
   ·have e:((mX t.aT j.cM).Head == 0)=false:=aj
    simp only[e,bO,bM,aN hh];rfl
  ·have e:((mX t.aT j.cM).gG != 0)=true:=aj
   simp only[e,bP,aL hl];rfl
 ·have p2':(j.Pc == 2)=false:=aj
  simp only[p2',bO,bM,aN p2];by_cases p3:j.Pc=3
  ·have p3':(j.Pc == 3)=true:=aj
   simp only[p3',bP,aL p3];obtain⟨c,e⟩:=aLU hb.1.1 j.H;rw[e];rfl
  ·have p3':(j.Pc == 3)=false:=aj
   simp only[p3',bO,bM,aN p3];by_cases p4:j.Pc=4
   ·have p4':(j.Pc == 4)=true:=aj
    simp only[p4',bP,aL p4];rw[KL hb.1.2.1 hw,aG];simp only[BJ,mV];have hp:(if(uY t.aA.aI w).On=true then some (!(uY t.aA.aI w).g9) else some false)=some (decide ((uY t.aA.aI w).On=true/\(uY t.aA.aI w).g9=false)):=by cases (uY t.aA.aI w).On<;>cases (uY t.aA.aI w).g9<;>rfl
    rw[hp,aG];by_cases hpin:(uY t.aA.aI w).On=true/\(uY t.aA.aI w).g9=false
    ·simp only[cD hpin,g8,bO,bM,aN (not_not_intro hpin)];by_cases hc:IS j
     ·simp only[aL hc,g8,bO,bM,aNS,aG,BK,sA,iset,set2];grind
     ·simp only[aN hc,HX,bP];rfl
    ·simp only[dR hpin,HX,bP,aL hpin];rfl
   ·have p4':(j.Pc == 4)=false:=aj
    simp only[p4',bO,bM,aN p4];have tail:iI t w (if IS j then(dU j,true,j) else((⟨0,0,0⟩:jJ),false,j)) false=some (aPW t w (if(CJ j.Reads j.cM j.fF).2=false then RM {j with Reads:=(CJ j.Reads j.cM j.fF).1} 7
      else if IS j then aKO {j with Reads:=(CJ j.Reads j.cM j.fF).1} (dU j) j.Node.fE j.Found
      else RM {j with Reads:=(CJ j.Reads j.cM j.fF).1} 1)):=by
     simp only[iI,BL,e62,iset,aG,set2,bO,bM];rw[aEF aa,aG];cases hs:(CJ j.Reads j.cM j.fF).2
     ·rfl
     ·simp only[g8,bO,bM,reduceCtorEq];by_cases hc:IS j
      ·simp only[aL hc,g8,bO,bM];rw[aLW (j:={j with Reads:=(CJ j.Reads j.cM j.fF).1}) s2 s3 s4];rfl
      ·simp only[aN hc,HX,bP];rfl
    have ab:iI t w (if IS j then(dU j,true,j) else((⟨0,0,0⟩:jJ),false,j)) true=some (aPW t w (RM j 7)):=by simp only[iI,e62,iset,aG,set2,bP];rfl
    by_cases hl:(mX t.aT j.cM).gG=0
    ·have e:((mX t.aT j.cM).gG != 0)=false:=aj
     simp only[e,bO,bM];by_cases hv:(mX t.aT j.cM).fF=j.fF
     ·have e:((mX t.aT j.cM).fF != j.fF)=false:=aj
      rw[e,tail,aN (show ¬((mX t.aT j.cM).gG≠0\/(mX t.aT j.cM).fF≠j.fF) from λq=>q.elim (λh=>h hl) λh=>h hv)];rfl
     ·have e:((mX t.aT j.cM).fF != j.fF)=true:=aj
      rw[e,ab,aL (.inr hv)];rfl
    ·have e:((mX t.aT j.cM).gG != 0)=true:=aj
     simp only[e,bP];rw[ab,aL (.inl hl)];rfl
end
def VL(t:Table)(w:Int)(p:aA×aE):Table:={t with aA:=p.1,aM:=t.aM.set w.toNat p.2}
section
variable {t:Table} {w:Int} (h3:t.aM.length=3) (h2:t.aT.length=2) (hb:wP t.aA) (hw:0<=w/\w<=2) (hj:JB (fH t w))
include h3 h2 hb hw hj
theorem a03:rZ t w=some (VL t w (aKQ t.aA w (fH t w))):=by
 unfold rZ aKQ VL;rw[uZ h3 hw,aG,aBR hb hw,aG];generalize fH t w=j at *;generalize yP t.aA w j.Sub=r;cases hd:r.2.jC
 ·rfl
 ·simp only[hd,g8,bO,bM,reduceCtorEq];by_cases p0:j.Pc=0
  ·grind
  ·have e:(j.Pc == 0)=false:=aj
   simp only[e,bO,bM,aN p0];by_cases p20:j.Pc=20
   ·have e:(j.Pc == 20)=true:=aj
    simp only[e,bP,aL p20];rfl
   grind
theorem aWG:xX t w=some (VL t w (aSE t.aA w (fH t w))):=by
 obtain⟨s1,s2,s3,s4,s5⟩:=P2 h3 h2 hb hw hj;have hjob:=uZ h3 hw;have hk:=hj.k;have hn:=hj.new.1;unfold xX aSE VL;rw[hjob,aG,Z3 s2,aG];generalize hjj:fH t w=j at *;have set2:∀x y:aE,(t.aM.set w.toNat x).set w.toNat y=t.aM.set w.toNat y:=λx y=>aKW ..;have iset:∀x:aE,idx (t.aM.set w.toNat x) w=some x:=λx=>VK ⟨hw.1,aa⟩;unfold yX;by_cases hp:jV j.aH j.aH.length<=j.K
 ·grind
 ·rw[dR hp,dY,aN hp,hjob,aG,aBR hb hw,aG];generalize yP t.aA w j.Sub=r;cases hd:r.2.jC
  ·rfl
  ·have ab:gD w true {t with aA:=r.1,aM:=t.aM.set w.toNat {j with Sub:=r.2}}=some {t with aA:=r.1,aM:=t.aM.set w.toNat (RM {j with Sub:=r.2} r.2.Code)}:=by simp_all[gD,cJ,RM]
   have go:j.cT.length<6->gD w false {t with aA:=r.1,aM:=t.aM.set w.toNat {j with Sub:=r.2}}=some {t with aA:=r.1,aM:=t.aM.set w.toNat {j with cT:=j.cT++[r.2.Out],K:=j.K+1,Sub:=aSA 1 16}}:=λh6=>by simp only[gD,bO,bM,iset,aG,set2,yW,j6,yV];rw[LJ,cN];rfl
   simp only[hd,g8,bO,bM,reduceCtorEq];by_cases hc:r.2.Code=0
   ·have e:(r.2.Code != 0)=false:=aj
    simp only[e,bO,bM,iU,aG];grind
   grind
theorem a04:pM t w=some (aPW t w (aWE t.aT w (fH t w))):=by
 have hjob:=uZ h3 hw;have hk:=hj.k;have hr:=hj.reads.1;unfold pM sE aWE aPW;rw[hjob,aG,aG];generalize hjj:fH t w=j at *;by_cases hp:(j.Reads.length:Int)<=j.K
 ·grind
 ·have hi:j.K.toNat<j.Reads.length:=aa
  have er:rdN j=j.Reads[j.K.toNat]:=by grind[rdN]
  have hbk:=hr j.Reads[j.K.toNat] (cZ hi);rw[aN aj,aN hp,aG,fQ hk.1 aa,aG,<-er];rw[<-er] at hbk;unfold sD sC;rw[E6 h2 hbk,aG,cN];have ab:eW t w true=some {t with aM:=t.aM.set w.toNat (RM j 7)}:=by simp_all[eW,cJ,RM]
  have go:eW t w false=some {t with aM:=t.aM.set w.toNat {j with K:=j.K+1}}:=by simp only[eW,bO,bM,hjob,aG];grind[dA]
  grind
theorem aKR{l:List Seen}(hl:l.length<=1000)(f:Seen->Bool)(g:Seen->Option Bool)(hg:∀x,g x=some (f x)):iD l g=some (l.any f):=by
 have e:g=λx=>some (f x):=funext hg;rw[e];unfold iD;rcases aCG (s:=l) (p:=f) aa with ⟨j,h,h1,h2,h3⟩|⟨h1,h3⟩
 ·rw[h3,aG,cD aa];congr 1;exact(List.any_eq_true.2 ⟨l[j],cZ h,h2⟩).symm
 ·rw[h3,aG,dR aa];congr 1;refine(List.any_eq_false.2 λx hx=>?_).symm;obtain⟨i,hi,rfl⟩:=aBY hx;simp[h1 i hi]
def a9I(t:Table)(w:Int)(p:List cM×aE×Bool):Table:={t with aT:=p.1,aM:=t.aM.set w.toNat p.2.1,Log:=t.Log++if p.2.2 then [⟨2,w,(fH t w).aK,0,[],[]⟩] else []}
theorem a34(hl:t.Log.length<=1000000):A1 t w=some (a9I t w (aNU t.aT w (fH t w))):=by
 obtain⟨s1,s2,s3,s4,s5⟩:=P2 h3 h2 hb hw hj;have hjob:=uZ h3 hw;have hk:=hj.k;have hd:=hj.held;have hwr:=hj.wr;unfold A1 aNU a9I;rw[hjob,aG,aEG (by have:=hwr.1;omega) (λx hx=>(hwr.2.1 x hx).1),aG];generalize hjj:fH t w=j at *;have set2:∀x y:aE,(t.aM.set w.toNat x).set w.toNat y=t.aM.set w.toNat y:=λx y=>aKW ..;have iset:∀x:aE,idx (t.aM.set w.toNat x) w=some x:=λx=>VK ⟨hw.1,aa⟩;have hheld:j.bA.length<=2:=by
  match h:j.bA,hd with
  |[],_=>simp
  |[_],_=>simp
  |[_,_],_=>simp
  |x::y::z::r,⟨hm,hn⟩=>
   (simp_all;omega)
 by_cases hp:j.K<(pE j.aH).length
 ·have hi:j.K.toNat<(pE j.aH).length:=aa
  have er:fZ j=(pE j.aH)[j.K.toNat]:=by grind[fZ]
  have hbk:0<=fZ j/\fZ j<=1:=by grind[aH5,cZ]
  rw[aL aj,aL hp,fQ hk.1 hp,aG,<-er,E6 h2 hbk,aG];have ab:gQ t w (pE j.aH) (fZ j) true=some {t with aM:=t.aM.set w.toNat (RM j 7)}:=by simp_all[gQ,cJ,RM]
  have en:∀x:aE,x.K=j.K->x.aK=j.aK->mO t w (pE j.aH) (fZ j) (mX t.aT (fZ j)) (t.aM.set w.toNat x) =
    some {t with aT:=t.aT.set (fZ j).toNat {mX t.aT (fZ j) with gG:=w+1},aM:=t.aM.set w.toNat (if(pE j.aH).length<=j.K+1 then {x with K:=0,Pc:=8} else {x with K:=j.K+1}),Log:=t.Log++if(pE j.aH).length<=j.K+1 then [⟨2,w,j.aK,0,[],[]⟩] else []}:=λx hx hs=>by
   simp only[mO,mN,sB,iset,set2,aG,hx,hs];rw[cN,cN];by_cases hq:((pE j.aH).length:Int)<=j.K+1
   ·rw[aL aj,LJ,aL hq,aL hq]
   grind
  have go:gQ t w (pE j.aH) (fZ j) false=some (if(mX t.aT (fZ j)).fF=1000000 then {t with aM:=t.aM.set w.toNat (RM j 3)} else
    {t with aT:=t.aT.set (fZ j).toNat {mX t.aT (fZ j) with gG:=w+1},aM:=t.aM.set w.toNat (if(pE j.aH).length<=j.K+1 then {aBS j with K:=0,Pc:=8} else aBS j),Log:=t.Log++if(pE j.aH).length<=j.K+1 then [⟨2,w,j.aK,0,[],[]⟩] else []}):=by
   unfold gQ;rw[dY,E6 h2 hbk,aG];by_cases hv:(mX t.aT (fZ j)).fF=1000000
   ·simp_all[cJ,RM]
   ·have e:((mX t.aT (fZ j)).fF == 1000000)=false:=aj
    simp only[e,bO,bM,aN hv,hjob,aG];rw[contains_eq (by grind[maxLen]),aG];by_cases hm:fZ j∈j.bA
    ·rw[cD hm,dY];have:=en j rfl rfl;rw[show t.aM.set w.toNat j=t.aM by
      rw[<-hjj];unfold fH;rw[RP,kG (show w.toNat<t.aM.length by omega)];simp] at this
     simp_all[aBS]
    ·rw[dR hm,aL ak,LJ];unfold BQ;rw[en {j with bA:=j.bA++[fZ j]} rfl rfl];unfold aBS;rw[aN hm]
  have fin:∀B:Bool,gQ t w (pE j.aH) (fZ j) B=some (if B=true then {t with aM:=t.aM.set w.toNat (RM j 7)} else if(mX t.aT (fZ j)).fF=1000000 then {t with aM:=t.aM.set w.toNat (RM j 3)} else
    {t with aT:=t.aT.set (fZ j).toNat {mX t.aT (fZ j) with gG:=w+1},aM:=t.aM.set w.toNat (if(pE j.aH).length<=j.K+1 then {aBS j with K:=0,Pc:=8} else aBS j),Log:=t.Log++if(pE j.aH).length<=j.K+1 then [⟨2,w,j.aK,0,[],[]⟩] else []}):=λB=>by
   cases B
   ·simp only[bO,bM];exact go
   ·simp only[bP];exact ab
  have cf:iD j.Reads (λy0=>uS y0 (fZ j) (mX t.aT (fZ j)))=some (j.Reads.any λs=>s.cM == fZ j && s.fF != (mX t.aT (fZ j)).fF):=
   aKR h3 h2 hb hw aj aa _ _ λx=>by unfold uS oO;cases x.cM == fZ j<;>rfl
  by_cases hl0:(mX t.aT (fZ j)).gG=0
  ·have e:((mX t.aT (fZ j)).gG != 0)=false:=aj
   simp only[e,bO,bM];rw[cf,aG,fin];by_cases hany:(j.Reads.any λs=>s.cM == fZ j && s.fF != (mX t.aT (fZ j)).fF)=true
   ·grind
   ·rw[aN hany,aN (show ¬((mX t.aT (fZ j)).gG≠0\/(j.Reads.any λs=>s.cM == fZ j && s.fF != (mX t.aT (fZ j)).fF)=true) from λq=>q.elim (λa=>a hl0) hany)];by_cases hv:(mX t.aT (fZ j)).fF=1000000
    ·rw[aL hv,aL hv];simp
    ·rw[aN hv,aN hv];by_cases hq:((pE j.aH).length:Int)<=j.K+1
     ·simp only[aL hq];rfl
     ·simp only[aN hq];rfl
  grind
 ·rw[aN aj,aN hp];unfold mN sB;rw[hjob,aG,cH,LJ,aG];rfl
end
def aSI(t:Table)(w:Int)(p:aA×List cM×aE):Table:={t with aA:=p.1,aT:=p.2.1,aM:=t.aM.set w.toNat p.2.2}
theorem aIQ(hk:0<=j.K/\j.K<=100)(x:aQ):nP j x=some (plF j x):=by
 unfold nP plF;cases x.F8
 ·rfl
 ·simp only[bP];grind[dA]
theorem a05(hk:0<=j.K):j8 j=some (aPU j):=by
 unfold j8 aPU;by_cases h:j.K<j.bG.length
 ·have hi:j.K.toNat<j.bG.length:=aa
  rw[aL aj,aL h,fQ hk h,aG];simp only[j6,aG,qQ,RP,kG hi,Option.getD_some];rfl
 grind
theorem aSJ(hm:nQ m)(hw:0<=w/\w<=2)(x:Int):∃c,KA m w x=some (aPV m w x,c):=by
 obtain⟨hcnt,h3,h9,h1,h2,hsm,hcp,hlo,hsG,hsO⟩:=nQ.facts hm;have hbl:m.Heap.Bytes.length<=maxLen:=by grind[maxLen]
 unfold KA aPV;rw[OI hbl aa,cD hm,aG,dY,kC,cD hw,aG];unfold A3;rw[dY,LO hm.1.1.1 aa aa aa,aG];by_cases hl:mY m x
 ·obtain⟨m',e1,e2,_,_⟩:=aNP hm hw hl;simp_all[aAB]
 simp_all[VD]
theorem a35{l:List O}{a b:Nat}(hab:a<=b)(hb:b<=l.length):((cO l a (l.drop b)).take (a+(l.length-b))).drop 0=l.take a++l.drop b:=by
 have h1:(l.take a).length=a:=aj
 have h2:(l.drop b).length=l.length-b:=ae
 unfold cO;rw[WL,YD (l:=l.drop b) aa,<-I3,show a+(l.length-b)=(l.take a++l.drop b).length by grind];grind
theorem aPX{l:List Int}(h:0<l.length)(hl:l.length<=1000):oP l 0 1=some (l.drop 1):=by
 unfold oP;rw[LU,dY,LU,LU,bZ ai,a35 ai (show Int.toNat 1<=l.length from h),bZ]
 ·rfl
 ·rw[fB ae];simp only[G8,YB,aB0,Int.toNat_zero];omega
section
variable {t:Table} {w:Int} (h3:t.aM.length=3) (h2:t.aT.length=2) (hb:wP t.aA) (hw:0<=w/\w<=2) (hj:JB (fH t w))
include h3 h2 hb hw hj
theorem a06:xZ t w=some (aSI t w (aIO t.aA t.aT (fH t w))):=by
 obtain⟨s1,s2,s3,s4,s5⟩:=P2 h3 h2 hb hw hj;have hjob:=uZ h3 hw;have hk:=hj.k;have hwr:=hj.wr;have hol:=hj.old.1;unfold xZ y7 aIO aSI;rw[hjob,aG,aG];generalize hjj:fH t w=j at *;have set2:∀x y:aE,(t.aM.set w.toNat x).set w.toNat y=t.aM.set w.toNat y:=λx y=>aKW ..;have iset:∀x:aE,idx (t.aM.set w.toNat x) w=some x:=λx=>VK ⟨hw.1,aa⟩;by_cases hp:(j.aH.length:Int)<=j.K
 ·grind
 ·have hi:j.K.toNat<j.aH.length:=aa
  have er:X9 j=j.aH[j.K.toNat]:=by grind[X9]
  have hx:=hwr.2.1 j.aH[j.K.toNat] (cZ hi);rw[<-er] at hx;have hbk:0<=y9 (X9 j).Key/\y9 (X9 j).Key<=1:=by unfold y9;omega
  rw[aN aj,aN hp,aG,fQ hk.1 aa,aG,<-er];unfold y6;rw[OJ,aG,E6 h2 hbk,aG,hjob,aG];generalize X9 j=x at *;generalize hbb:y9 x.Key=bi at *;have ex:(⟨x.Key,x.F8,x.fE⟩:aQ)=x:=rfl;rw[ex];by_cases p9:j.Pc=9
  ·have e:(j.Pc == 9)=true:=aj
   simp only[e,bP,aL p9];by_cases hh:(mX t.aT bi).Head=0
   ·have e:((mX t.aT bi).Head == 0)=true:=aj
    simp only[e,bP,aL hh];grind[aIQ]
   grind
  ·have e : (j.Pc == 9) = false:=aj
   simp only[e,bO,bM,aN p9];by_cases p10:j.Pc=10
   ·have e:(j.Pc == 10)=true:=aj
    simp only[e,bP,aL p10];obtain⟨c,e⟩:=aLU hb.1.1 j.H;rw[e,aG];simp only;by_cases hkey:(OQ t.aA.Mem.Heap j.H).Key=x.Key
    ·grind
    ·have e:((OQ t.aA.Mem.Heap j.H).Key == x.Key)=false:=aj
     simp only[e,bO,bM,aN hkey,aNS,aG];by_cases hs:OR (OQ t.aA.Mem.Heap j.H)=0
     ·have e:(OR (OQ t.aA.Mem.Heap j.H) == 0)=true:=aj
      simp only[e,bP,aL hs];grind[aIQ]
     simp_all[yY]
   ·have e:(j.Pc == 10)=false:=aj
    simp only[e,bO,bM,aN p10];by_cases p11:j.Pc=11
    ·have e:(j.Pc == 11)=true:=aj
     simp only[e,bP,aL p11];have cut:∀u:Table,u.aM=t.aM->lG w x.Key x.F8 x.fE u=some {u with aM:=t.aM.set w.toNat (plF (aIN j) x)}:=λu hu=>by
      have hju:idx u.aM w=some j:=aj
      have last:∀v:Table,∀y:aE,idx v.aM w=some y->(0<=y.K/\y.K<=100)->lF w x.Key x.F8 x.fE v=some {v with aM:=v.aM.set w.toNat (plF y x)}:=λv y hy hyk=>by simp_all[lF,aIQ]
      unfold lG pN yZ aIN;rw[hju,aG,iU,aG];by_cases hh:lH j.H
      ·rw[cD hh,aL rfl];by_cases h6:j.bG.length<6
       ·rw[cD aa,aL rfl,aG,LJ,last _ {j with bG:=j.bG++[j.H]} aj aj,aL ⟨hh,h6⟩];grind
       grind
      grind
     by_cases hpv:j.gO=0
     ·simp_all[aNS]
     ·have e:(j.gO == 0)=false:=aj
      simp only[e,bO,bM,aN hpv,aNS,aG];obtain⟨c,e⟩:=aWC hb.1.1 j.gO (OR j.Node);grind[y5]
    ·have e:(j.Pc == 11)=false:=aj
     simp only[e,bO,bM,aN p11];have hpn:0<=jV j.aH j.K:=by grind[jV]
     have hbs:t.aT.set bi.toNat (mX t.aT bi)=t.aT:=by grind[mX,aKV]
     unfold IG;rw[Z3 s2,aG];by_cases hn:(j.cT.length:Int)<=jV j.aH j.K
     ·rw[aL aj,aL hn];simp only[cJ,aG,hbs];rfl
     ·have hi2:(jV j.aH j.K).toNat<j.cT.length:=aa
      have en:aIM j=j.cT[(jV j.aH j.K).toNat]:=by grind[aIM]
      rw[aN aj,aN hn,fQ hpn aa,<-en];by_cases p12:j.Pc=12
      ·have e:(j.Pc == 12)=true:=aj
       simp only[e,bP,aL p12,aG];obtain⟨c,e⟩:=aSC hb.1.1 (aIM j) ⟨x.Key,x.fE,(mX t.aT bi).Head⟩;grind[BR]
      ·have e:(j.Pc == 12)=false:=aj
       simp only[e,bO,bM,aN p12,aG];grind[dA]
def aUS(t:Table)(w:Int)(p:List cM×aE):Table:={t with aT:=p.1,aM:=t.aM.set w.toNat p.2}
theorem aWH(hk1:∀x∈t.aT,BkV x):uU t w=some (aUS t w (aKP t.aT (fH t w))):=by
 have hjob:=uZ h3 hw;have hd:=hj.held;unfold uU aKP aUS;rw[hjob,aG];generalize hjj:fH t w=j at *;have hheld:j.bA.length<=2:=by
  match h:j.bA,hd with
  |[],_=>simp
  |[_],_=>simp
  |[_,_],_=>simp
  |x::y::z::r,⟨hm,hn⟩=>
   (simp_all;omega)
 by_cases hp:0<j.bA.length
 ·have er:I2 j=j.bA[0]:=by grind[I2]
  have hbk:=hd.1 j.bA[0] (cZ hp);rw[<-er] at hbk;have hbv:BkV (mX t.aT (I2 j)):=by grind[mX]
  have hver:=hbv.2.1;rw[aL aj,aL hp,show(0:Int)=((0:Nat):Int) from rfl,aU hp,aG,<-er,E6 h2 hbk,aG];have un:∀k,j9 t w k=some {t with aT:=k,aM:=t.aM.set w.toNat {j with bA:=j.bA.drop 1}}:=λk=>by grind[j9,aPX]
  by_cases p14:j.Pc=14
  ·have e:(j.Pc == 14)=true:=aj
   simp only[e,bP,aL p14];grind[dA]
  ·have e:(j.Pc == 14)=false:=by simpa using p14
   simp only[e,bO,bM,aN p14];rw[un]
 ·rw[aN (by simpa using hp),aN hp];by_cases p16:j.Pc=16
  ·have e:(j.Pc == 16)=true:=by simpa using p16
   simp only[e,bP,aL p16]
  ·have e:(j.Pc == 16)=false:=by simpa using p16
   simp only[e,bO,bM,aN p16];rw[a05 (j:={j with Pc:=15,K:=0}) (Int.le_refl _)];rfl
theorem aSK:uV t w=some (VL t w (aSG t.aA w (fH t w))):=by
 have hjob:=uZ h3 hw;have hk:=hj.k;unfold uV wE aSG VL;rw[hjob,aG,aG];generalize hjj:fH t w=j at *;by_cases hp:(j.bG.length:Int)<=j.K
 ·grind
 ·rw[aN aj,aN hp,aG,aBR hb hw,aG];generalize yP t.aA w j.Sub=r;cases hd:r.2.jC
  ·simp
  ·simp only[hd,bP];grind[dA,a05]
theorem drop_eq:A4 t w=some (VL t w (aSH t.aA w (fH t w))):=by
 have hjob:=uZ h3 hw;have hn:=hj.new;unfold A4 aSH VL;rw[hjob,aG];generalize hjj:fH t w=j at *;by_cases hp:j.cT.length=0
 ·grind
 ·have hp0:0<j.cT.length:=aa
  have er:j.cT.getD 0 0=j.cT[0]:=aj
  have hh:=hn.2 j.cT[0] (cZ hp0);rw[<-er] at hh;rw[aN aj,aN hp,show(0:Int)=((0:Nat):Int) from rfl,aU hp0,aG,<-er,show((0:Nat):Int)=0 from rfl,aPX hp0 aa,aG,(lH.mod hh).1,SX hb.1.2.2.1,aG];by_cases hl:bA t.aA.a8 (j.cT.getD 0 0 % 32)
  ·grind
  ·rw[dR hl,aL ak,aN hl];obtain⟨c,e⟩:=aSJ hb.1.1 hw (j.cT.getD 0 0);rw[e];rfl
theorem aSL(hl:t.Log.length<=1000000):sH t w=some {t with aM:=t.aM.set w.toNat OS,Log:=t.Log++[tlE w (fH t w)]}:=by
 have hjob:=uZ h3 hw;unfold sH tlE;rw[hjob,aG];generalize hjj:fH t w=j at *;by_cases hc:j.Code=0
 ·have e:(j.Code == 0)=true:=aj
  simp only[e,bP,aL hc];rw[LJ];rfl
 ·have e:(j.Code == 0)=false:=aj
  simp only[e,bO,bM,aN hc];rw[LJ];rfl
end
theorem aWI{b:aA}(hb:wP b)(hw:0<=w/\w<=2):∃c,A5 b w=some (c,{b with aI:=(aID b.aI w).1}):=by obtain⟨r,e1,e2,_,_⟩:=aPR hb.1.2.1 hw;rw[aBP hb.1.2.1 hw] at e1;simp_all[A5]
section
variable {t:Table} {w:Int} (h3:t.aM.length=3) (h2:t.aT.length=2) (hb:wP t.aA) (hw:0<=w/\w<=2)
include h3 h2 hb hw
theorem a36(hq3:t.bL.length=3)(hqv:∀q∈t.bL,q.List.length<=12/\∀b∈q.List,VJ b)(hs:0<=t.aK/\t.aK<=1000000)(hl:t.Log.length<=1000000) :
  xN t w=some (if(LQ t w).length=0\/t.aK=1000000 then t else aWF t w ((LQ t w).getD 0 ⟨false,[]⟩)):=by
 have hqi:w.toNat<t.bL.length:=aa
 have hq:idx t.bL w=some ⟨LQ t w⟩:=by simp_all[fQ,LQ]
 have hqm:(⟨LQ t w⟩:aP)∈t.bL:=by unfold LQ;rw[RP,kG hqi];exact cZ _
 have hqq:=hqv _ hqm;simp only at hqq;unfold xN;rw[hq,aG];simp only;by_cases h0:(LQ t w).length=0
 ·simp_all[lB]
 ·have e:(((LQ t w).length:Int) == 0)=false:=aj
  rw[aN (by rw[e];simp)];unfold lB;by_cases hm:t.aK=1000000
  ·grind
  ·have e:(t.aK == 1000000)=false:=aj
   have hp0:0<(LQ t w).length:=aa
   have er:(LQ t w).getD 0 ⟨false,[]⟩=(LQ t w)[0]:=aj
   have hbv:=hqq.2 (LQ t w)[0] (cZ hp0);rw[<-er] at hbv;rw[aN (by rw[e];simp),hq,aG];simp only;have i0:idx (LQ t w) 0=some ((LQ t w)[0]):=aU hp0;rw[i0,aG,<-er,aN (λq=>q.elim h0 hm)];unfold IW;rw[LU,aG];generalize hbb:(LQ t w).getD 0 ⟨false,[]⟩=b at *;simp only[j6,aG];unfold yR;have fin:∀x:aE,x.aK=t.aK+1->x.Batch.Collect=b.Collect->lA t w ⟨LQ t w⟩ b x=some ⟨t.aA,t.aT,t.aM.set w.toNat {x with Batch:=⟨x.Batch.Collect,b.bI⟩,Reads:=[],aH:=[],cV:=[],cT:=[],bA:=[],bG:=[]},t.bL.set w.toNat ⟨(LQ t w).drop 1⟩,t.Log++[⟨1,w,t.aK+1,0,b.bI,[]⟩],t.aK+1⟩:=λx hx _=>by unfold lA qF yQ;rw[uZ h3 hw,aG,bZ (by have:=hbv.2.1;simp;omega),aG,LJ,hx,cN];rfl
   have e1:bC (t.aK+1)=t.aK+1:=cN;unfold aWF LR;cases hc:b.Collect
   ·rw[dY,fin _ aa aj];simp only[e1,hc,bO,bM];have eb:(⟨false,b.bI⟩:Batch)=b:=by cases b;grind
    rw[eb];rfl
   ·rw[aL rfl];simp only[j6,aG];rw[fin _ aa aj];simp only[e1,hc,bP];have eb:(⟨true,b.bI⟩:Batch)=b:=by cases b;grind
    rw[eb];rfl
end
theorem RN(t:Table)(w:Int)(p:aA×aE):WI t w ⟨p.1,t.aT,p.2,[]⟩=VL t w p:=by grind[WI,VL]
theorem a07{t:Table}(hv:TV t)(hl:t.Log.length<=1000000)(hw:0<=w/\w<=2):A6 t w=some (wS t w):=by
 have h3:=hv.aP2.1;have h2:=hv.bk.1;have hb:=hv.base;have hjob:=uZ h3 hw;have hjv:=hv.aP2.2 _ (aNV h3 hw);unfold A6 wS;rw[hjob,aG];cases hbusy:(fH t w).m0
 ·simp only[HX,bP,bO,bM];rw[a36 h3 h2 hb hw hv.todo.1 hv.todo.2 hv.ser hl];rfl
 ·have hj : JB (fH t w):=hjv.resolve_left λe=>by rw[e] at hbusy; cases hbusy
  simp only[g8,bO,bM,bP];unfold doF;by_cases p0:(fH t w).Pc=0\/(fH t w).Pc=20\/(fH t w).Pc=21
  ·rw[aL p0,RN];have go:iM t w (fH t w) true=some (VL t w (aKQ t.aA w (fH t w))):=by simp_all[iM,a03]
   grind
  ·rw[aN p0];have e0:((fH t w).Pc == 0)=false:=ah
   have e20:((fH t w).Pc == 20)=false:=ah
   have e21:((fH t w).Pc == 21)=false:=ah
   simp only[e0,e20,e21,bO,bM];unfold iM;simp only[bO,bM,eT,aG];by_cases p1:(fH t w).Pc=1
   ·have e:((fH t w).Pc == 1)=true:=aj
    simp_all[P2,a02,WI]
   ·have e : ((fH t w).Pc == 1) = false:=aj
    simp only[e,bO,bM,aN p1];by_cases p2:2<=(fH t w).Pc/\(fH t w).Pc<=5
    ·simp_all[a33,WI,aPW]
    ·simp only[dR p2,bO,bM,aN p2];by_cases p6:(fH t w).Pc=6
     ·simp_all[aWG,RN]
     ·have e : ((fH t w).Pc == 6) = false:=aj
      simp only[e,bO,bM,aN p6];by_cases p7:(fH t w).Pc=7
      ·have e:((fH t w).Pc == 7)=true:=aj
       simp only[e,bP,aL p7];rw[a34 h3 h2 hb hw hj hl];rfl
      ·have e : ((fH t w).Pc == 7) = false:=aj
       simp only[e,bO,bM,aN p7];by_cases p8:(fH t w).Pc=8
       ·simp_all[a04,WI,aPW]
       ·have e : ((fH t w).Pc == 8) = false:=aj
        simp only[e,bO,bM,aN p8];by_cases p9:9<=(fH t w).Pc/\(fH t w).Pc<=13
        ·simp_all[a06,WI,aSI]
        ·simp only[dR p9,bO,bM,aN p9];by_cases p14:(fH t w).Pc=14\/(fH t w).Pc=16
         ·rw[aL p14];have go:jS t w (fH t w) true=some (aUS t w (aKP t.aT (fH t w))):=by unfold jS;rw[aL rfl,aWH h3 h2 hb hw hj hv.bk.2];rfl
          grind[aUS,WI]
         ·have e14:((fH t w).Pc == 14)=false:=ah
          have e16:((fH t w).Pc == 16)=false:=ah
          simp only[e14,e16,bO,bM,aN p14];unfold jS;simp only[bO,bM];by_cases p15:(fH t w).Pc=15
          ·simp_all[aSK,RN]
          ·have e:((fH t w).Pc == 15)=false:=aj
           simp only[e,bO,bM,aN p15];by_cases p17:(fH t w).Pc=17
           ·simp_all[drop_eq,RN]
           ·have e:((fH t w).Pc == 17)=false:=aj
            simp only[e,bO,bM,aN p17];by_cases p18:(fH t w).Pc=18
            ·have e:((fH t w).Pc == 18)=true:=aj
             simp only[e,bP,aL p18];grind[aWI,WI]
            ·have e:((fH t w).Pc == 18)=false:=aj
             simp only[e,bO,bM,aN p18];by_cases p19:(fH t w).Pc=19
             ·have e:((fH t w).Pc == 19)=true:=aj
              simp only[e,bP,aL p19];rw[aSL h3 h2 hb hw hj hl];rfl
             simp_all[WI,cJ,RM]
def aPY(o:List aQ)(x:aQ):List aQ:=o.takeWhile (λy=>!decide (x.Key<y.Key))++[x]++o.dropWhile (λy=>!decide (x.Key<y.Key))
theorem aLX(y:aQ)(r:List aQ)(x:aQ):aPY (y::r) x=if x.Key<y.Key then x::y::r else y::aPY r x:=by grind[aPY,List.takeWhile_cons,List.dropWhile_cons]
theorem aPZ(o:List aQ)(x z:aQ):z∈aPY o x↔z=x\/z∈o:=by
 induction o with
 |nil=>simp[aPY]
 |cons y r ih=>
  grind[aLX]
theorem aP0{o:List aQ}{x:aQ}(hs:o.Pairwise (λa b=>a.Key<b.Key))(hx:∀y∈o,y.Key≠x.Key):(aPY o x).Pairwise (λa b=>a.Key<b.Key):=by
 induction o with
 |nil=>simp[aPY]
 |cons y r ih=>
  grind[aLX,aS2,aPZ]
theorem a08{l:List aQ}(h:WrV l){x:aQ}(hx:(0<=x.Key/\x.Key<=99)/\(0<=x.fE/\x.fE<=65535))(hl:(XE l x).length<=6):WrV (XE l x):=by
 refine⟨hl,λy hy=>?_,?_⟩
 ·rcases(aPZ _ _ _).1 (show y∈aPY _ x from hy) with rfl|hy
  ·exact hx
  ·exact h.2.1 y (List.mem_filter.1 hy).1
 ·exact aP0 (h.2.2.sublist List.filter_sublist) λy hy=>aj
theorem a09{a b:Int}(ha:0<=a/\a<=4294967295)(hb:0<=b/\b<=65535):0<=X7 a b/\X7 a b<=65535:=by grind[X7,dA]
section
variable {j:aE} (hj:JB j)
include hj
theorem JB.ab(c:Int):JB (RM j c):=⟨hj.busy,hj.bat,hj.h,hj.prev,hj.bkt,hj.at_,hj.k,hj.new,hj.old,hj.reads,hj.wr,hj.held,hj.res,hj.node⟩
theorem JB.pc(p:Int):JB {j with Pc:=p}:=⟨hj.busy,hj.bat,hj.h,hj.prev,hj.bkt,hj.at_,hj.k,hj.new,hj.old,hj.reads,hj.wr,hj.held,hj.res,hj.node⟩
theorem JB.sub(s:Sub):JB {j with Sub:=s}:=⟨hj.busy,hj.bat,hj.h,hj.prev,hj.bkt,hj.at_,hj.k,hj.new,hj.old,hj.reads,hj.wr,hj.held,hj.res,hj.node⟩
theorem JB.kk{k:Int}(h:0<=k/\k<=6):JB {j with K:=k}:=⟨hj.busy,hj.bat,hj.h,hj.prev,hj.bkt,hj.at_,h,hj.new,hj.old,hj.reads,hj.wr,hj.held,hj.res,hj.node⟩
theorem JB.nd{n:dW}(h:0<=n.fE/\n.fE<=4294967295):JB {j with Node:=n}:=⟨hj.busy,hj.bat,hj.h,hj.prev,hj.bkt,hj.at_,hj.k,hj.new,hj.old,hj.reads,hj.wr,hj.held,hj.res,h⟩
theorem JB.hh(h:qW x):JB {j with H:=x}:=⟨hj.busy,hj.bat,h,hj.prev,hj.bkt,hj.at_,hj.k,hj.new,hj.old,hj.reads,hj.wr,hj.held,hj.res,hj.node⟩
theorem JB.pv(h:qW x):JB {j with gO:=x}:=⟨hj.busy,hj.bat,hj.h,h,hj.bkt,hj.at_,hj.k,hj.new,hj.old,hj.reads,hj.wr,hj.held,hj.res,hj.node⟩
theorem JB.rd2:j.Reads.length<=2:=by
 have hn:=hj.reads.2;have hm:∀x∈j.Reads.map Seen.cM,x=0\/x=1:=λx hx=>by obtain⟨s,hs,rfl⟩:=List.mem_map.1 hx;have:=hj.reads.1 s hs;omega
 have hl:(j.Reads.map Seen.cM).length<=2:=by
  match h:j.Reads.map Seen.cM,hn,hm with
  |[],_,_=>simp
  |[_],_,_=>simp
  |[_,_],_,_=>simp
  |x::y::z::r,hn,hm=>
   (simp_all;omega)
 grind
theorem JB.cmd(h:IS j):WJ (dU j):=by
 have ha:=hj.at_;have hi:j.At.toNat<j.Batch.bI.length:=by grind[IS]
 unfold dU;rw[RP,kG hi];exact hj.bat.2.2.1 _ (cZ hi)
theorem JB.aEJ(h:IS j)(is:Bool)(v:Int):JB (Gv.aEJ j is v):=by have h':j.At<j.Batch.bI.length:=h;have ha:=hj.at_;have hr:=hj.res;exact⟨hj.busy,hj.bat,hj.h,hj.prev,hj.bkt,⟨by show 0<=j.At+1;omega,by show j.At+1<=(j.Batch.bI.length:Int);omega⟩,hj.k,hj.new,hj.old,hj.reads,hj.wr,hj.held,by show(((j.cV++[_]).length:Nat):Int)=j.At+1;simp;omega,hj.node⟩
theorem JB.rcw{x:aQ}(hx:(0<=x.Key/\x.Key<=99)/\(0<=x.fE/\x.fE<=65535)):JB (CQ j x).2:=by
 unfold CQ;split
 ·exact hj.ab 1
 ·exact⟨hj.busy,hj.bat,hj.h,hj.prev,hj.bkt,hj.at_,hj.k,hj.new,hj.old,hj.reads,a08 hj.wr hx aa,hj.held,hj.res,hj.node⟩
theorem aIR(x:aQ):(CQ j x).2.Batch=j.Batch:=by grind[CQ,RM]
theorem JB.ans(h:IS j){c:jJ}(hc:WJ c){v:Int}(hv:0<=v/\v<=4294967295)(is:Bool):JB (aKO j c v is):=by
 unfold aKO;split
 ·have hv':0<=(if is then v else 0)/\(if is then v else 0)<=4294967295:=aa
  generalize (if is then v else 0)=u at hv';unfold aWD;have hr:=hj.rcw (x:=⟨c.Key,false,X7 u c.fE⟩) ⟨hc.2.1,a09 hv' hc.2.2.1⟩;split
  ·refine hr.aEJ ?_ _ _;grind[IS,aIR,P1]
  ·exact hr
 ·exact hj.aEJ h _ _
theorem JB.jnx:JB (aSD j):=by
 unfold aSD;split
 ·rename_i h;have hc:=hj.cmd h;have h':j.At<j.Batch.bI.length:=h;have ha:=hj.at_;have hr:=hj.res;split
  ·have hr':=hj.rcw (x:=⟨(dU j).Key,(dU j).Kind == 3,(dU j).fE⟩) ⟨hc.2.1,hc.2.2.1⟩;split
   ·refine⟨hr'.busy,hr'.bat,hr'.h,hr'.prev,hr'.bkt,⟨aj,?_⟩,hr'.k,hr'.new,hr'.old,hr'.reads,hr'.wr,hr'.held,aj,hr'.node⟩;grind[aIR]
   ·exact hr'
  ·split
   ·refine hj.ans h hc ?_ _;unfold WH;split
    ·rename_i x hf;have:=hj.wr.2.1 x (List.mem_of_find?_eq_some hf);grind
    simp
   ·exact⟨hj.busy,hj.bat,hj.h,hj.prev,by show 0<=y9 _/\y9 _<=1;unfold y9;rw[aL hc.2.1];omega,hj.at_,hj.k,hj.new,hj.old,hj.reads,hj.wr,hj.held,hj.res,hj.node⟩
 ·exact((hj.pc 6).kk (k:=0) aa).sub _
theorem JB.spt(b v:Int)(hb:0<=b/\b<=1):JB {j with Reads:=(CJ j.Reads b v).1}:=by
 refine⟨hj.busy,hj.bat,hj.h,hj.prev,hj.bkt,hj.at_,hj.k,hj.new,hj.old,?_,hj.wr,hj.held,hj.res,hj.node⟩;show(∀s∈(CJ j.Reads b v).1,0<=s.cM/\s.cM<=1)/\((CJ j.Reads b v).1.map Seen.cM).Nodup;unfold CJ;split
 ·exact hj.reads
 ·rename_i hf;refine⟨λs hs=>?_,?_⟩
  ·rcases iX.1 hs with hs|hs
   ·exact hj.reads.1 s hs
   grind
  ·rw[BX,List.nodup_append];refine⟨hj.reads.2,ae,λa ha c hc=>?_⟩;grind
theorem JB.pl(h:j.K<j.aH.length)(x:aQ):JB (plF j x):=by
 have hk:=hj.k;have hw:=hj.wr.1;unfold plF;split
 ·exact(hj.pc 9).kk (k:=j.K+1) aa
 ·exact hj.pc 12
theorem JB.bA6:JB (aIN j):=by
 unfold aIN;split
 ·rename_i h;refine⟨hj.busy,hj.bat,hj.h,hj.prev,hj.bkt,hj.at_,hj.k,hj.new,⟨aj,λx hx=>?_⟩,hj.reads,hj.wr,hj.held,hj.res,hj.node⟩;rcases iX.1 hx with hx|hx
  ·exact hj.old.2 x hx
  grind
 ·exact hj
theorem JB.rtn:JB (aPU j):=by
 unfold aPU;split
 ·exact hj.sub _
 ·exact hj
end
theorem a37{l:List Int}(h:qV l){a:Nat}(ha:a+4<=l.length):0<=ld l a 4/\ld l a 4<=4294967295:=by
 rw[ld4 ha];have b:∀k,k<l.length->0<=bt l k/\bt l k<=255:=λk hk=>by rw[<-aR2 hk];exact h _ (cZ hk)
 grind
theorem aP1(hm:nQ m)(x:Int):0<=(OQ m.Heap x).fE/\(OQ m.Heap x).fE<=4294967295:=by
 unfold OQ;split
 ·rename_i h;have hr:=(RL h.2.1 h.2.2).1;have h1:=hm.1.1.1.1;exact a37 hm.1.1.1.2.2.1 aa
 ·show(0:Int)<=0/\(0:Int)<=4294967295;omega
theorem a1A(l:List aQ)(n:Int):jV l n<=l.length:=by grind[jV]
theorem a38{k:List cM}{i:Int}(h2:k.length=2)(hi:0<=i/\i<=1):mX k i∈k:=by grind[mX]
theorem aE8{k:List cM}(h:k.length=2/\∀x∈k,BkV x)(i:Nat){y:cM}(hy:BkV y):(k.set i y).length=2/\∀x∈k.set i y,BkV x:=
 ⟨aj,λx hx=>(rB hx).elim (h.2 x) λe=>e ▸ hy⟩
theorem a7N{b:aA}(hb:wP b)(hw:0<=w/\w<=2)(hx:lH x)(hn:¬bA b.a8 (x % 32)):wP {b with Mem:=aPV b.Mem w x}:=by
 unfold aPV;by_cases hl:mY b.Mem x
 ·obtain⟨m',e1,e2,_,h⟩:=aNP hb.1.1 hw hl;rw[aAB hb.1.1 hw hl] at e1;injection e1 with e1
  rw[aL hl,e1];refine⟨⟨h.1,hb.1.2⟩,λr hr=>⟨h.live (hb.2 r hr).1 ?_,(hb.2 r hr).2⟩⟩;intro e;exact hn ⟨r,hr,(hb.2 r hr).1.1,e⟩
 simp_all
structure TRV (r:TR):Prop where
 b:wP r.b
 k:r.k.length=2/\∀x∈r.k,BkV x
 j:r.j=OS\/JB r.j
theorem aEL{c:Prop}[Decidable c]{a b:TR}(h1:c->TRV a)(h2:¬c->TRV b):TRV (if c then a else b):=aj
theorem a7O{b:aA}{k:List cM}(hb:wP b)(hk:k.length=2/\∀x∈k,BkV x)(hw:0<=w/\w<=2)(hj:JB j):TRV (doF b k w j):=by
 have hkk:=hj.k;have hwr:=hj.wr;have hrd:=hj.rd2;have hbs:=a31 hb hw j.Sub;have bkv:∀{i},0<=i/\i<=1->BkV (mX k i):=λhi=>hk.2 _ (a38 hk.1 hi);unfold doF;refine aEL (λ_=>?_) λ_=>?_
 ·refine⟨hbs,hk,.inr ?_⟩;unfold aKQ;split
  ·exact hj.sub _
  ·split
   ·exact(hj.pc 1).sub _
   ·split
    ·exact(hj.pc 21).sub _
    ·exact(hj.pc 19).sub _
 refine aEL (λ_=>?_) λ_=>?_
 ·exact⟨hb,hk,.inr hj.jnx⟩
 refine aEL (λ_=>?_) λ_=>?_
 ·refine⟨hb,hk,.inr ?_⟩;unfold aIL;have hbk:=bkv hj.bkt;split
  ·split
   ·exact hj.ab _
   ·have h1:JB {j with fF:=(mX k j.cM).fF}:=⟨hj.busy,hj.bat,hj.h,hj.prev,hj.bkt,hj.at_,hj.k,hj.new,hj.old,hj.reads,hj.wr,hj.held,hj.res,hj.node⟩;have h2:JB {j with fF:=(mX k j.cM).fF,Found:=false}:=⟨hj.busy,hj.bat,hj.h,hj.prev,hj.bkt,hj.at_,hj.k,hj.new,hj.old,hj.reads,hj.wr,hj.held,hj.res,hj.node⟩;exact((h2.hh hbk.1).nd (n:=aPS) (by show(0:Int)<=0/\(0:Int)<=4294967295;omega)).pc _
  ·split
   ·exact(hj.nd (aP1 hb.1.1 _)).pc _
   ·split
    ·split
     ·exact hj.ab _
     ·split
      ·have h1:JB {j with Found:=j.Node.Key == (dU j).Key}:=⟨hj.busy,hj.bat,hj.h,hj.prev,hj.bkt,hj.at_,hj.k,hj.new,hj.old,hj.reads,hj.wr,hj.held,hj.res,hj.node⟩;exact(h1.hh (aBQ _)).pc _
      ·exact hj.ab _
    ·split
     ·exact hj.ab _
     ·have hs:=hj.spt j.cM j.fF hj.bkt;split
      ·exact hs.ab _
      ·split
       ·rename_i h;exact hs.ans h (hj.cmd h) hj.node _
       ·exact hs.ab _
 refine aEL (λ_=>?_) λ_=>?_
 ·unfold aSE;split
  ·exact⟨hb,hk,.inr ((hj.pc 7).kk (k:=0) aa)⟩
  ·rename_i hp;have:=a1A j.aH j.aH.length;have:=hwr.1;refine⟨hbs,hk,.inr ?_⟩;simp only;split
   ·exact hj.sub _
   ·split
    ·exact(hj.sub _).ab _
    ·rename_i hq;have q1:lH (yP b w j.Sub).2.Out:=Classical.byContradiction λq=>hq (.inr (.inl q));have q2:j.cT.length<6:=aa
     refine⟨hj.busy,hj.bat,hj.h,hj.prev,hj.bkt,hj.at_,⟨aj,aj⟩,⟨aj,λx hx=>?_⟩,hj.old,hj.reads,hj.wr,hj.held,hj.res,hj.node⟩;rcases iX.1 hx with hx|hx
     ·exact hj.new.2 x hx
     grind
 refine aEL (λ_=>?_) λ_=>?_
 ·have ht:=aNJ j.aH;unfold aNU;split
  ·rename_i hp;have hi:j.K.toNat<(pE j.aH).length:=aa
   have er:fZ j=(pE j.aH)[j.K.toNat]:=by grind[fZ]
   have hbk:0<=fZ j/\fZ j<=1:=by grind[aH5,cZ]
   have hbv:=bkv hbk;have hset:=aE8 hk (fZ j).toNat (y:={mX k (fZ j) with gG:=w+1}) ⟨hbv.1,hbv.2.1,aj⟩;have hlh:JB (aBS j):=by
    refine⟨hj.busy,hj.bat,hj.h,hj.prev,hj.bkt,hj.at_,⟨by show 0<=j.K+1;omega,by show j.K+1<=6;omega⟩,hj.new,hj.old,hj.reads,hj.wr,?_,hj.res,hj.node⟩;show(∀x∈(if fZ j∈j.bA then j.bA else j.bA++[fZ j]),0<=x/\x<=1)/\(if fZ j∈j.bA then j.bA else j.bA++[fZ j]).Nodup;split
    ·exact hj.held
    ·rename_i hm;refine⟨λx hx=>?_,?_⟩
     ·rcases iX.1 hx with hx|hx
      ·exact hj.held.1 x hx
      grind
     ·rw[List.nodup_append];exact⟨hj.held.2,ae,λa ha c hc e=>aj⟩
   split
   ·exact⟨hb,hk,.inr (hj.ab _)⟩
   ·split
    ·exact⟨hb,hk,.inr (hj.ab _)⟩
    ·split
     ·exact⟨hb,hset,.inr ((hlh.pc 8).kk (k:=0) aa)⟩
     ·exact⟨hb,hset,.inr hlh⟩
  ·exact⟨hb,hk,.inr ((hj.pc 8).kk (k:=0) aa)⟩
 refine aEL (λ_=>?_) λ_=>?_
 ·refine⟨hb,hk,.inr ?_⟩;unfold aWE;split
  ·exact(hj.pc 9).kk (k:=0) aa
  ·split
   ·exact hj.ab _
   ·exact hj.kk (k:=j.K+1) aa
 refine aEL (λ_=>?_) λ_=>?_
 ·have hwl:=hwr.1;unfold aIO;split
  ·exact⟨hb,hk,.inr (hj.pc 14)⟩
  ·rename_i hp;have hi:j.K.toNat<j.aH.length:=aa
   have er:X9 j=j.aH[j.K.toNat]:=by grind[X9]
   have hx:=hwr.2.1 j.aH[j.K.toNat] (cZ hi);rw[<-er] at hx;have hbk:0<=y9 (X9 j).Key/\y9 (X9 j).Key<=1:=by unfold y9;omega
   have hbv:=bkv hbk;have l0:qW 0:=.inl rfl;split
   ·have h1:=((hj.pc 10).hh hbv.1).pv l0;refine⟨hb,hk,.inr ?_⟩;simp only;split
    ·exact h1.pl aj _
    ·exact h1
   ·split
    ·have h1:=hj.nd (aP1 hb.1.1 j.H);refine⟨hb,hk,.inr ?_⟩;simp only;split
     ·exact h1.pc 11
     ·split
      ·exact h1.pl aj _
      ·exact(h1.hh (aBQ _)).pv hj.h
    ·split
     ·have h1:=hj.bA6;have hkl:(aIN j).K<(aIN j).aH.length:=by grind[aIN]
      split
      ·exact⟨hb,aE8 hk _ ⟨aBQ _,hbv.2⟩,.inr (h1.pl hkl _)⟩
      ·exact⟨hb.mem (a0W hb.1.1 _ _),hk,.inr (h1.pl hkl _)⟩
     ·split
      ·exact⟨hb,hk,.inr (hj.ab _)⟩
      ·rename_i hn;have hpn:0<=jV j.aH j.K:=by grind[jV]
       have hi2:(jV j.aH j.K).toNat<j.cT.length:=aa
       have en:aIM j=j.cT[(jV j.aH j.K).toNat]:=by grind[aIM]
       have hnew:lH (aIM j):=by rw[en];exact hj.new.2 _ (cZ hi2)
       split
       ·exact⟨hb.mem (a0V hb.1.1 _ _),hk,.inr (hj.pc 13)⟩
       ·exact⟨hb,aE8 hk _ ⟨.inr hnew,hbv.2⟩,.inr ((hj.pc 9).kk (k:=j.K+1) aa)⟩
 refine aEL (λ_=>?_) λ_=>?_
 ·unfold aKP;split
  ·rename_i hp;have er:I2 j=j.bA[0]:=by grind[I2]
   have hbk:=hj.held.1 j.bA[0] (cZ hp);rw[<-er] at hbk;have hbv:=bkv hbk;have hver:=hbv.2.1;refine⟨hb,aE8 hk _ ?_,.inr ⟨hj.busy,hj.bat,hj.h,hj.prev,hj.bkt,hj.at_,hj.k,hj.new,hj.old,hj.reads,hj.wr,⟨λx hx=>hj.held.1 x (aE9 hx),hj.held.2.sublist (List.drop_sublist _ _)⟩,hj.res,hj.node⟩⟩;split
   ·refine⟨hbv.1,?_,ae⟩;grind
   ·exact⟨hbv.1,hbv.2.1,ae⟩
  ·split
   ·exact⟨hb,hk,.inr (hj.pc 17)⟩
   ·exact⟨hb,hk,.inr (((hj.pc 15).kk (k:=0) aa).rtn)⟩
 refine aEL (λ_=>?_) λ_=>?_
 ·have hol:=hj.old.1;unfold aSG;split
  ·exact⟨hb,hk,.inr (hj.pc 18)⟩
  ·refine⟨hbs,hk,.inr ?_⟩;simp only;split
   ·exact((hj.kk (k:=j.K+1) aa).sub _).rtn
   ·exact hj.sub _
 refine aEL (λ_=>?_) λ_=>?_
 ·unfold aSH;split
  ·exact⟨hb,hk,.inr (hj.pc 18)⟩
  ·rename_i hp;have hp0:0<j.cT.length:=aa
   have er:j.cT.getD 0 0=j.cT[0]:=aj
   have hh:=hj.new.2 j.cT[0] (cZ hp0);rw[<-er] at hh;refine⟨?_,hk,.inr ⟨hj.busy,hj.bat,hj.h,hj.prev,hj.bkt,hj.at_,hj.k,⟨by show(j.cT.drop 1).length<=6;have:=hj.new.1;simp;omega,λx hx=>hj.new.2 x (aE9 hx)⟩,hj.old,hj.reads,hj.wr,hj.held,hj.res,hj.node⟩⟩;grind[a7N]
 refine aEL (λ_=>?_) λ_=>?_
 ·obtain⟨r,e1,e2,h1,h2⟩:=aPR hb.1.2.1 hw;rw[aBP hb.1.2.1 hw] at e1;injection e1 with e1
  refine⟨hb.clock aj aj,hk,.inr (hj.pc 19)⟩
 refine aEL (λ_=>?_) λ_=>?_
 ·exact⟨hb,hk,.inl rfl⟩
 ·exact⟨hb,hk,.inr (hj.ab 1)⟩
theorem a1B{b:Batch}(hb:VJ b)(s:Int):JB (LR b s):=
 ⟨rfl,hb,.inl rfl,.inl rfl,by simp[LR],by simp[LR],by simp[LR],by simp[LR],by simp[LR],by simp[LR],⟨by simp[LR],by simp[LR],by simp[LR]⟩,by simp[LR],by simp[LR],by show(0:Int)<=0/\(0:Int)<=4294967295;omega⟩
theorem TV.step{t:Table}(hv:TV t)(hw:0<=w/\w<=2):TV (wS t w):=by
 have hjv:=hv.aP2.2 _ (aNV hv.aP2.1 hw);have setj:∀{x:aE},(x=OS\/JB x)->(t.aM.set w.toNat x).length=3/\∀j∈t.aM.set w.toNat x,j=OS\/JB j:=λhx=>
  ⟨by simpa using hv.aP2.1,λj hj=>(rB hj).elim (hv.aP2.2 j) λe=>e ▸ hx⟩
 unfold wS;split
 ·rename_i hbusy;have hj:JB (fH t w):=hjv.resolve_left λe=>by rw[e] at hbusy;cases hbusy
  have h:=a7O hv.base hv.bk hw hj;exact⟨h.b,h.k,setj h.j,hv.todo,hv.ser⟩
 ·split
  ·exact hv
  ·rename_i hq;have hqi:w.toNat<t.bL.length:=by have:=hv.todo.1;omega
   have hqm:(⟨LQ t w⟩:aP)∈t.bL:=by unfold LQ;rw[RP,kG hqi];exact cZ _
   have hqq:(LQ t w).length<=12/\∀b∈LQ t w,VJ b:=hv.todo.2 _ hqm;have hp0:0<(LQ t w).length:=aa
   have er:(LQ t w).getD 0 ⟨false,[]⟩=(LQ t w)[0]:=aj
   have hbv:=hqq.2 (LQ t w)[0] (cZ hp0);rw[<-er] at hbv;have hs:=hv.ser;have hsn:t.aK≠1000000:=λe=>hq (.inr e);unfold aWF;refine⟨hv.base,hv.bk,setj (.inr (a1B hbv _)),⟨by simpa using hv.todo.1,λq hq'=>?_⟩,⟨aj,aj⟩⟩;rcases rB hq' with h|h
   ·exact hv.todo.2 q h
   ·subst h;exact⟨aj,λb hb=>hqq.2 b (aE9 hb)⟩
end Go.Gv
end
