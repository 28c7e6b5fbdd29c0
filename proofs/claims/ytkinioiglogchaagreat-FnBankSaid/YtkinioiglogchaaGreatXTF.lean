import Derived.Test.YtkinioiglogchaaGreatXTE
set_option linter.unusedVariables false
set_option linter.unusedSimpArgs false
set_option linter.unusedSectionVars false
set_option linter.constructorNameAsVariable false
set_option linter.unnecessarySimpa false
noncomputable section
namespace Go.Gv
variable{K c i n s u w x:Int}{A Ky:List Int}{L:List KV}{l:List aJ}{k k':List bW}{m m':Mem}{e t:Table}{j j':aI}
theorem aBQ(hm:lX m){h:Int}(hw:0<=w/\w<=2)(hv:mU m h):(∀t,bM (qC m w h).Heap t=bM m.Heap t)/\(∀t,0<=bM m.Heap t->kQ (qC m w h).Heap t=if t=h % 32 then h/32+1 else kQ m.Heap t) /\
  (∀t,t≠h % 32->(t∈iF (qC m w h).aE↔t∈iF m.aE))/\eP (qC m w h) (h % 32)≠3:=by
 obtain⟨hcnt,h3,h9,h1,h2,hsm,hcp,hlo,hsG,hsO⟩:=lX.facts hm;have hcl:=dQ hv.2.1;have hc2:0<=bM m.Heap (h % 32)/\bM m.Heap (h % 32)<=2:=by obtain⟨_,q,e⟩:=rE hcl;rw[e];exact j4.1 aa
 have hg6:1<=h/32/\h/32<=6:=by have:=hv.1;unfold lN at this;omega
 obtain⟨_,hg⟩:=HOk.a8M hm.1.1 hcl (g:=h/32+1) aa;have hh:(qC m w h).Heap=⟨st4 m.Heap.Bytes (jB (h % 32) (bM m.Heap (h % 32))).toNat (h/32+1),m.Heap.Class⟩:=by unfold qC;simp only[apply_ite Mem.Heap,ite_self]
 have kx:(w*3+bM m.Heap (h % 32)).toNat<m.aE.Own.length:=aa
 have ky:(bM m.Heap (h % 32)).toNat<m.aE.Global.length:=aa
 have hl:∀t,t∈iF (qC m w h).aE↔t∈iF m.aE\/(h/32+1<=6/\t=h % 32):=λt=>by
  unfold qC iF;by_cases q:h/32+1<=6
  ·rw[aO q];split
   ·rw[<-eB kx];simp only[cY,GR kx,iY,q,true_and];constructor
    ·rintro(a|a|a)
     ·exact .inl (.inl a)
     ·exact .inl (.inr a)
     ·exact .inr a
    ·rintro((a|a)|a)
     ·exact .inl a
     ·exact .inr (.inl a)
     ·exact .inr (.inr a)
   ·rw[<-eB ky];simp only[cY,GR ky,iY,q,true_and];constructor
    ·rintro((a|a)|a)
     ·exact .inl (.inl a)
     ·exact .inr a
     ·exact .inl (.inr a)
    ·rintro((a|a)|a)
     ·exact .inl (.inl a)
     ·exact .inr a
     ·exact .inl (.inr a)
  ·rw[aP q];simp only[cY,q,false_and,or_false]
 refine⟨λt=>by rw[hh];rfl,λt ht=>by rw[hh];exact hg t ht,λt ht=>by rw[hl];exact⟨λx=>x.elim id λy=>absurd y.2 ht,.inl⟩,λhu=>?_⟩;have hu':=iP.1 hu;have e1:kQ (qC m w h).Heap (h % 32)=h/32+1:=by rw[hh,hg _ hcl,aO rfl]
 rw[e1] at hu';exact hu'.2.1 ((hl _).2 (.inr ⟨hu'.2.2,rfl⟩))
theorem aMG(hm:lX m){h:Int}(hw:0<=w/\w<=2)(hv:mU m h){t:Int}(ht:t≠h % 32):eP (qC m w h) t=eP m t:=by
 obtain⟨a,b,c,_⟩:=aBQ hm hw hv;by_cases q:0<=bM m.Heap t
 ·exact aDW (a t) (by rw[b t q,aP ht]) (c t ht)
 ·have e:bM (qC m w h).Heap t=bM m.Heap t:=a t;unfold eP;rw[e,aO aa,aO aa]
theorem aVB{l:List eR}{j:Nat}(h:j<l.length):L4 l (j:Int)=l[j]:=by
 have:=YC (l:=l) (k:=(j:Int)) aa;rw[aZ h] at this;injection this with this
 exact this.symm
def bIM(h:Heap)(s:Int):Int:=ld h.Bytes ((jB s (bM h s)).toNat+4) 4
theorem aVC{h:Heap}(hc:0<=bM h s):(jB s (bM h s)).toNat+8<=384:=(bLB hc).1
theorem bD0{h:Heap}(hh:HOk h)(hc:0<=bM h s):1<=kQ h s/\kQ h s<=7:=by obtain⟨p,i,p6,hi,es,ec,eo,ep⟩:=qB hc;have hold:=(GQ hh.1 p6).1 (hh.2 p p6);simp_all[aBL,aP,kQ]
structure aSB (m m':Mem) (x:Int):Prop where
 was:eP m x≠3
 now:eP m' x=3
 gen:1<=kQ m'.Heap x/\kQ m'.Heap x<=6
 rest:∀t,t≠x->(eP m' t=3↔eP m t=3)
 same:∀t,eP m t=3->kQ m'.Heap t=kQ m.Heap t/\bIM m'.Heap t=bIM m.Heap t
theorem aP3(hm:lX m){ls:aE}(h1:∀t,t∈iF m.aE↔t∈iF ls\/t=x)(h2:x∉iF ls):aSB m ⟨m.Heap,ls⟩ x:=by have hx:x∈iF m.aE:=(h1 x).2 (.inr rfl);obtain⟨a,b⟩:=lX.oR hm hx;refine⟨λq=>(iP.1 q).2.1 hx,iP.2 ⟨a,h2,b⟩,⟨(bD0 hm.1.1 a).1,b⟩,λt ht=>?_,λt _=>⟨rfl,rfl⟩⟩;grind[iP]
theorem a33{l:List Int}(h:l≠[]):l=(NS l).1++[(NS l).2]:=by
 unfold NS;rcases ZP l with rfl|⟨L,b,rfl⟩
 ·exact absurd rfl h
 ·simp
theorem aVD{l:List bH}{k:Nat}(hk:k<l.length)(h:fO l k≠[]):∃A B,fJ l=A++((NS (fO l k)).2::B)/\fJ (l.set k ⟨(NS (fO l k)).1⟩)=A++B:=by grind[a33,NS,D1,eB,IA]
theorem aVE{l:List bH}{k:Nat}(hk:k<l.length)(h:fO l k=[]):l.set k ⟨(NS (fO l k)).1⟩=l/\(NS (fO l k)).2 = -1:=by
 rw[h];refine⟨?_,rfl⟩;have e:(⟨(NS []).1⟩:bH)=l[k]:=by
  have:=eB hk;rw[h] at this;cases hl:l[k] with
  |mk s=>rw[hl] at this;simp only at this;subst this;rfl
 simp_all
theorem aSC(hm:lX m)(hw:0<=w/\w<=2)(hc:0<=c/\c<=2):(GS m w c=(m,-1))\/0<=(GS m w c).2/\aSB m (GS m w c).1 (GS m w c).2:=by
 obtain⟨hcnt,h3,h9,_⟩:=lX.facts hm;have hk:(w*3+c).toNat<m.aE.Own.length:=aa
 unfold GS;by_cases q:fO m.aE.Own (w*3+c).toNat=[]
 ·left;obtain⟨a,b⟩:=aVE hk q;rw[a,b]
 ·right;obtain⟨A,B,e1,e2⟩:=aVD hk q;have nd:=hm.1.2.2.2.2.2;have rg:=hm.1.2.2.2.2.1;unfold iF at nd rg;rw[e1] at nd rg;refine⟨(rg _ ae).1,aP3 hm (λt=>?_) ?_⟩
  ·grind[iF]
  grind[iF]
theorem aOU(hm:lX m)(hc:0<=c/\c<=2):(zO m c=(m,-1))\/0<=(zO m c).2/\aSB m (zO m c).1 (zO m c).2:=by
 obtain⟨hcnt,h3,h9,_⟩:=lX.facts hm;have hk:c.toNat<m.aE.Global.length:=aa
 unfold zO;by_cases q:fO m.aE.Global c.toNat=[]
 ·left;obtain⟨a,b⟩:=aVE hk q;rw[a,b]
 ·right;obtain⟨A,B,e1,e2⟩:=aVD hk q;have nd:=hm.1.2.2.2.2.2;have rg:=hm.1.2.2.2.2.1;unfold iF at nd rg;rw[e1] at nd rg;refine⟨(rg _ ae).1,aP3 hm (λt=>?_) ?_⟩
  ·grind[iF]
  grind[iF]
theorem aYO(hm:lX m)(hc:0<=c/\c<=2):(yP m c=(m,-1))\/0<=(yP m c).2/\aSB m (yP m c).1 (yP m c).2:=by
 obtain⟨hcnt,h3,h9,h1,_⟩:=lX.facts hm;have hs:=hm.1.1.1;unfold yP;by_cases q:pgF m.Heap=6
 ·grind
 right;rw[aP q];obtain⟨hp,hun⟩:=aX7 hs q;generalize pgF m.Heap=p at hp hun;obtain⟨a,b,d,e⟩:=HOk.a8O hm.1.1 hp aa hc;have hpp:0<cJ c:=j4.2 hc;have hp4:=pY c;have hk:c.toNat<m.aE.Global.length:=aa
 have hcons:gS p (cJ c).toNat=(p:Int)*4::(gS p (cJ c).toNat).drop 1:=by
  have:0<(gS p (cJ c).toNat).length:=by grind[aFI]
  have h0:=uI this;rw[UG] at h0;have e0:(gS p (cJ c).toNat)[0]=(p:Int)*4:=by simp[gS]
  grind
 have hnd:=aUT p (cJ c).toNat;rw[hcons,ZU] at hnd;have hxs:∀t,t∈(gS p (cJ c).toNat).drop 1↔∃i,i<(cJ c).toNat/\t=(p:Int)*4+(i:Nat)/\i≠0:=λt=>by
  constructor
  ·intro h;obtain⟨i,hi,rfl⟩:=a8P (OH h);grind
  ·rintro⟨i,hi,rfl,i0⟩;have hmem:(p:Int)*4+(i:Nat)∈gS p (cJ c).toNat:=by grind[gS]
   grind
 generalize (gS p (cJ c).toNat).drop 1=xs at hnd hxs;have hmem:∀t,t∈iF ⟨m.aE.Global.set c.toNat ⟨fO m.aE.Global c.toNat++xs⟩,m.aE.Own⟩↔t∈iF m.aE\/t∈xs:=λt=>by unfold iF;rw[<-eB hk];simp[GR,or_right_comm]
 have hno:∀i,i<(cJ c).toNat->¬0<=bM m.Heap ((p:Int)*4+(i:Nat)):=λi hi z=>(d _ z).1 aa;have e0:=e 0 aa;rw[show(p:Int)*4+((0:Nat):Int)=(p:Int)*4 by omega] at e0;have hno0:=hno 0 aa;rw[show(p:Int)*4+((0:Nat):Int)=(p:Int)*4 by omega] at hno0;have bts:=λj=>(a03 hm.1.1.1.1 hp hc (cJ c).toNat aa j).1;have hbl:=KP m.Heap.Bytes p c (cJ c).toNat;refine⟨aa,λz=>hno0 (iP.1 z).1,iP.2 ⟨aj,λz=>?_,aj⟩,aj,λt ht=>?_,λt ht=>?_⟩
 ·grind[lX.oR]
 ·rw[iP,iP];simp only at ht;by_cases z:0<=bM m.Heap t
  ·obtain⟨z1,z2⟩:=d t z;have zx:t∉xs:=λy=>by obtain⟨i,hi,rfl,_⟩:=(hxs t).1 y;omega
   have:t∈iF (⟨m.aE.Global.set c.toNat ⟨fO m.aE.Global c.toNat++xs⟩,m.aE.Own⟩:aE)↔t∈iF m.aE:=aj
   simp only[this,b t z1,z2]
  ·refine⟨λy=>?_,λy=>absurd y.1 z⟩;exfalso;obtain⟨y1,y2,y3⟩:=y;by_cases zp:(t/4).toNat=p
   ·obtain⟨r1,r2,r3⟩:=rE y1;rw[zp,X9 hs hp,aO rfl] at r2;exact y2 ((hmem t).2 (.inr ((hxs t).2 ⟨(t % 4).toNat,aa,aa,aa⟩)))
   grind
 ·have ht':=iP.1 ht;obtain⟨z1,z2⟩:=d t ht'.1;refine⟨z2,?_⟩;obtain⟨p',i',p6',hi',es',ec',eo',ep'⟩:=qB ht'.1;have hend:=aVC ht'.1;have hz':=zN hs p6' rfl hi';have room:8+i'*(bD (cZ m.Heap p')).toNat+8<=64:=by
   have hcl:0<=cZ m.Heap p'/\cZ m.Heap p'<=2:=j4.1 aa;generalize cZ m.Heap p'=c' at hi' hcl;rcases nI hcl with rfl|rfl|rfl
   ·grind[cJ,bD]
   ·grind[cJ,bD]
   grind[cJ,bD]
  unfold bIM;simp only;rw[b t z1];exact I4 aa hbl λj j1 j2=>bts j aa
theorem a9E{h:Heap}{t:Int}(hc:0<=bM h s)(ht:0<=bM h t)(hn:s≠t):(jB s (bM h s)).toNat+4+(jI (bM h s)).toNat<=(jB t (bM h t)).toNat\/(jB t (bM h t)).toNat+4+(jI (bM h t)).toNat<=(jB s (bM h s)).toNat:=by
 obtain⟨p,i,p6,hi,es,ec,eo,ep⟩:=qB hc;obtain⟨q,j,q6,hj,fs,fc,fo,fp⟩:=qB ht;rw[eo,fo,ec,fc];have room:∀{c:Int} {i:Nat},i<(cJ c).toNat->(c=0/\i<4/\(bD c).toNat=12/\(jI c).toNat=8)\/(c=1/\i<2/\(bD c).toNat=20/\(jI c).toNat=16)\/(c=2/\i<1/\(bD c).toNat=44/\(jI c).toNat=40):=λ{c i} h=>by
  rcases nI (j4.1 (show 0<cJ c by omega)) with rfl|rfl|rfl
  ·exact .inl ⟨rfl,h,rfl,rfl⟩
  ·exact .inr (.inl ⟨rfl,h,rfl,rfl⟩)
  ·exact .inr (.inr ⟨rfl,h,rfl,rfl⟩)
 by_cases e:p=q
 ·subst e;have hij:i≠j:=λe=>hn aa;have r2:=room hj;rcases room hi with ⟨_,a,b,c⟩|⟨_,a,b,c⟩|⟨_,a,b,c⟩
  ·rw[b,c];omega
  ·rw[b,c];omega
  ·omega
 ·have:p<q\/q<p:=aa
  rcases room hi with ⟨_,a,b,c⟩|⟨_,a,b,c⟩|⟨_,a,b,c⟩<;>rcases room hj with ⟨_,a',b',c'⟩|⟨_,a',b',c'⟩|⟨_,a',b',c'⟩<;>rw[b,c,b',c']<;>omega
theorem aVF{b b':List Int}{a:Nat}(h:a+2<=b.length)(hl:b'.length=b.length)(hs:∀j,a<=j->j<a+2->bt b' j=bt b j):ld b' a 2=ld b a 2:=by grind[ld,uI,aLT]
theorem aMH{h h':Heap}{t:Int}(h384:h.Bytes.length=384)(hc:0<=bM h t)(h10:10<=jI (bM h t))(e:bM h' t=bM h t)(hl:h'.Bytes.length=h.Bytes.length)(hs:∀j,AP h t<=j->j<AP h t+10->bt h'.Bytes j=bt h.Bytes j):ZN h' t=ZN h t:=by grind[DH,AP,ZN,aVF,I4]
def Kn(m m':Mem)(z:Int):Prop:=∀x,kJ m x->x % 32≠z->kJ m' x/\ZN m'.Heap (x % 32)=ZN m.Heap (x % 32)
theorem Kn.refl(m:Mem)(z:Int):Kn m m z:=λ_ h _=>⟨h,rfl⟩
theorem vJ.kn{z:Int}(h:vJ m m' z)(hn:∀x,kJ m x->x % 32≠z->ZN m'.Heap (x % 32)=ZN m.Heap (x % 32)):Kn m m' z:=λx hx hz=>by obtain⟨a,b,c⟩:=h.2 _ hx.1.2.1 hz;exact⟨⟨⟨hx.1.1,a,by rw[b];exact hx.1.2.2⟩,by rw[c];exact hx.2⟩,hn x hx hz⟩
theorem aI7(hm:lX m){h:Int}(hw:0<=w/\w<=2)(hv:mU m h):Kn m (qC m w h) (h % 32):=by
 obtain⟨m',e1,e2,_,hs⟩:=aIU hm hw hv;rw[aDX hm hw hv] at e1;injection e1 with e1
 rw[<-e1] at hs;refine hs.kn λx hx hz=>?_;have hcl:=dQ hv.2.1;have h384:=hm.1.1.1.1;have hh:(qC m w h).Heap=⟨st4 m.Heap.Bytes (jB (h % 32) (bM m.Heap (h % 32))).toNat (h/32+1),m.Heap.Class⟩:=by simp[qC,apply_ite]
 rw[hh];have hc:=dQ hx.1.2.1;have e:=aVC hcl;have a:=a9E hcl hc (λq=>hz q.symm);have s1:=(DH hc hx.2).2;have s2:8<=(jI (bM m.Heap (h % 32))).toNat:=by have:=rE hcl;have hh:=j4.1 (show 0<cJ (cZ m.Heap (h % 32/4).toNat) by omega);rw[this.2.2];rcases nI hh with e|e|e<;>rw[e]<;>decide
 refine aMH h384 hc hx.2 rfl (GP ..) λj j1 j2=>?_;unfold AP at j1 j2;rw[IB aa,iE,iE]
theorem a1H(hm:lX m)(hx:kJ m x){o:Nat}{t:List UInt8}(ho:o+t.length<=10):Kn m ⟨⟨j5 m.Heap.Bytes (AP m.Heap (x % 32)+o) t,m.Heap.Class⟩,m.aE⟩ (x % 32):=by have hcl:=dQ hx.1.2.1;have r:=DH hcl hx.2;have h384:=hm.1.1.1.1;have h:=lX.j5 hm hcl (o:=o) (t:=t) aa;refine λy hy hz=>?_;have hc:=dQ hy.1.2.1;obtain⟨a,b,c⟩:=h.2 _ hy.1.2.1 aa;have ap:=a9E hcl hc (λq=>hz q.symm);have s1:=(DH hc hy.2).2;refine⟨⟨⟨hy.1.1,a,b.trans hy.1.2.2⟩,hy.2⟩,aMH h384 hc hy.2 rfl (BP ..) λj j1 j2=>?_⟩;grind[AP,L5]
theorem kJ.j5(hm:lX m)(hx:kJ m x){o:Nat}{t:List UInt8}(ho:o+t.length<=10):kJ ⟨⟨Gv.j5 m.Heap.Bytes (AP m.Heap (x % 32)+o) t,m.Heap.Class⟩,m.aE⟩ x:=by have hcl:=dQ hx.1.2.1;have r:=DH hcl hx.2;have h:=lX.j5 hm hcl (o:=o) (t:=t) aa;obtain⟨a,b,c⟩:=h.2 _ hx.1.2.1 aa;exact⟨⟨hx.1.1,a,b.trans hx.1.2.2⟩,hx.2⟩
theorem a9F{b:List Int}{a:Nat}{t:List UInt8}(h:a+t.length<=b.length){k:Nat}(j:Nat)(e:k=a+j)(hj:j<t.length):bt (j5 b a t) k=(t[j].toNat:Int):=by grind[aL0]
theorem u8v(z:Int):((u8 z).toNat:Int)=z % 256:=by grind[u8,UInt8.toNat_ofNat_of_lt']
theorem aYP{b:List Int}{a k:Nat}{t l r:List UInt8}(ht:t=l++oF n++r)(hk:k=a+l.length)(h:a+t.length<=b.length)(hn:0<=n/\n<=4294967295):ld (j5 b a t) k 4=n:=by
 have e:∀j (hj:j<4),bt (j5 b a t) (k+j)=(((oF n)[j]'(by grind[oF])).toNat:Int):=λj hj=>by
  have h4:(oF n).length=4:=rfl;have hl:t.length=l.length+4+r.length:=aj
  rw[a9F h (l.length+j) aa aa];grind
 have h4:(oF n).length=4:=rfl;have hl:t.length=l.length+4+r.length:=aj
 have e0:=e 0 aa;have e1:=e 1 aa;have e2:=e 2 aa;have e3:=e 3 aa;simp only[oF,List.getElem_cons_zero,List.getElem_cons_succ,u8v,UJ] at e0 e1 e2 e3;grind[ld4,BP]
section
variable {m:Mem} (hm:lX m) {x:Int} (hx:kJ m x)
include hm hx
theorem a1I{o:Nat}{t:List UInt8}(ho:o+t.length<=10)(s:Int):eP ⟨⟨j5 m.Heap.Bytes (AP m.Heap (x % 32)+o) t,m.Heap.Class⟩,m.aE⟩ s=eP m s:=by
 have hcl:=dQ hx.1.2.1;have r:=DH hcl hx.2;have h:=(HOk.j5 hm.1.1 hcl (o:=o) (t:=t) aa).2;by_cases q:0<=bM m.Heap s
 ·exact aDW rfl (h s q) Iff.rfl
 ·have c:bM m.Heap s<0:=aa
  exact(aO (show bM _ s<0 from c)).trans (aO c).symm
structure Wr1 (m m':Mem) (x:Int) (n:gR):Prop where
 ok:kJ m' x
 nod:ZN m'.Heap (x % 32)=n
 kn:Kn m m' (x % 32)
 st:∀s,eP m' s=eP m s
theorem bD1{y:Int}(hy:oQ y):Wr1 m (Gv.aGI m x y) x {ZN m.Heap (x % 32) with Next:=y}:=by have hcl:=dQ hx.1.2.1;have r:=(DH hcl hx.2).1;have h384:=hm.1.1.1.1;have h4:(oF y).length=4:=rfl;have hr:=aDZ hy;unfold Gv.aGI;rw[aO ⟨hy,hx⟩];refine⟨kJ.j5 hm hx aa,?_,a1H hm hx aa,a1I hm hx aa⟩;have ed:AP ⟨j5 m.Heap.Bytes (AP m.Heap (x % 32)+6) (oF y),m.Heap.Class⟩ (x % 32)=AP m.Heap (x % 32):=rfl;unfold ZN;simp only[ed];rw[aVF aa (BP ..) λj a b=>L5 _ aa aa,I4 aa (BP ..) λj a b=>L5 _ aa aa,aYP (l:=[]) (r:=[]) (n:=y) ae ae aa aa]
theorem bIN{n:gR}(hn:aBN n):Wr1 m (aAJ m x n) x n:=by
 have hcl:=dQ hx.1.2.1;have r:=(DH hcl hx.2).1;have h384:=hm.1.1.1.1;have hl:(aOR n).length=10:=by simp[aOR,R9,oF]
 have hr:=aDZ hn.2.2;have hk:=hn.1;have hv:=hn.2.1;unfold aAJ;rw[aO ⟨hn,hx⟩];refine⟨kJ.j5 hm hx (o:=0) aa,?_,a1H hm hx (o:=0) aa,a1I hm hx (o:=0) aa⟩;have ed:AP ⟨j5 m.Heap.Bytes (AP m.Heap (x % 32)) (aOR n),m.Heap.Class⟩ (x % 32)=AP m.Heap (x % 32):=rfl;have hle:AP m.Heap (x % 32)+(aOR n).length<=m.Heap.Bytes.length:=aa
 have e2:ld (j5 m.Heap.Bytes (AP m.Heap (x % 32)) (aOR n)) (AP m.Heap (x % 32)) 2=n.Key:=by
  have e:∀{b:List Int} {a:Nat},a+2<=b.length->ld b a 2=bt b a*256+bt b (a+1):=λh=>by grind[ld,uI,ldF,aLT]
  rw[e (by grind[BP]),a9F hle 0 (UJ _).symm aa,a9F hle 1 rfl aa];grind[aOR,R9,u8v]
 unfold ZN;simp only[ed];rw[e2,aYP (l:=R9 n.Key) (r:=oF n.Next) (n:=n.dC) (by simp[aOR]) (by simp[R9]) hle aa,aYP (l:=R9 n.Key++oF n.dC) (r:=[]) (n:=n.Next) (by simp[aOR]) (by simp[R9,oF]) hle aa]
end
theorem a1J(e:m'.Heap=m.Heap)(h:aSB m m' x):Kn m m' (-1):=λy hy _=>by have h1:=(h.rest (y % 32) (λq=>h.was (q ▸ hy.1.2.1))).2 hy.1.2.1;grind[kJ,mU]
theorem a1K{l:List Int}(h:0<=(NS l).2):(NS l).2∈l:=by
 rcases ZP l with rfl|⟨L,b,rfl⟩
 ·exact absurd h (by simp[NS])
 ·simp[NS]
theorem a9G(hm:lX m)(hc:0<=c/\c<=2)(h:aSB m (yP m c).1 (yP m c).2):Kn m (yP m c).1 (-1)/\bM (yP m c).1.Heap (yP m c).2=c:=by
 have hs:=hm.1.1.1;unfold yP at h ⊢;by_cases q:pgF m.Heap=6
 ·rw[aO q] at h;exact absurd h.now h.was
 rw[aP q] at h ⊢;obtain⟨hp,hun⟩:=aX7 hs q;generalize pgF m.Heap=p at hp hun h;obtain⟨a,b,d,e⟩:=HOk.a8O hm.1.1 hp aa hc;have hpp:0<cJ c:=j4.2 hc;have e0:=(e 0 aa).1;rw[show(p:Int)*4+((0:Nat):Int)=(p:Int)*4 by omega] at e0;refine⟨λy hy _=>?_,e0⟩;have h1:=(h.rest (y % 32) (λq=>h.was (q ▸ hy.1.2.1))).2 hy.1.2.1;have hcl:=dQ hy.1.2.1;obtain⟨z1,z2⟩:=d _ hcl;have ec:=b _ z1;refine⟨⟨⟨hy.1.1,h1,z2.trans hy.1.2.2⟩,by show 10<=jI (bM _ _);rw[ec];exact hy.2⟩,?_⟩;have bts:=λj=>(a03 hm.1.1.1.1 hp hc (cJ c).toNat aa j).1;obtain⟨p',i',p6',hi',es',ec',eo',ep'⟩:=qB hcl;have r:=DH hcl hy.2;refine aMH hm.1.1.1.1 hcl hy.2 ec (KP ..) λj j1 j2=>bts j ?_;unfold AP at j1 j2;have room:8+i'*(bD (cZ m.Heap p')).toNat+4+10<=64:=by
  have hcl:0<=cZ m.Heap p'/\cZ m.Heap p'<=2:=j4.1 aa;have h10:=hy.2;rw[ec'] at h10;generalize cZ m.Heap p'=c' at hi' hcl h10;rcases nI hcl with rfl|rfl|rfl
  ·exact absurd h10 ai
  ·rw[show(cJ 1).toNat=2 from rfl] at hi';rw[show(bD 1).toNat=20 from rfl];omega
  simp_all[cJ]
 omega
structure AlT (b:aA) (s:Sub) (r:aA×Sub):Prop where
 clock:r.1.aC=b.aC
 bOR:r.1.aQ=b.aQ
 haz:r.1.qT=b.qT
 two:r.1.Mem=b.Mem/\(r.2.gX=true/\r.2.Code=3\/s.Pc<=2/\r.2={s with Pc:=s.Pc+1}) \/
  r.2.gX=true/\r.2.Code=0/\kJ r.1.Mem r.2.Out/\aSB b.Mem r.1.Mem (r.2.Out % 32)/\Kn b.Mem r.1.Mem (-1)
theorem aI8{b:aA}(hm:lX b.Mem)(hw:0<=w/\w<=2){s:Sub}(hk:s.Kind=1)(hd:s.gX=false)(hp:0<=s.Pc/\s.Pc<=3)(ha:s.A=16):AlT b s (iJ b w s):=by
 have e:iJ b w s=YB b w s:=by grind[iJ]
 rw[e];have h1:KQ s.A=1:=by rw[ha];rfl
 have fin:∀p:Mem×Int,(p=(b.Mem,-1)\/0<=p.2/\aSB b.Mem p.1 p.2)->(aSB b.Mem p.1 p.2->0<=p.2->Kn b.Mem p.1 (-1)/\bM p.1.Heap p.2=1)->AlT b s (NT b s p):=λp h hk=>by
  unfold NT;rcases h with rfl|⟨h0,h1⟩
  ·rw[gH];split
   ·exact⟨rfl,rfl,rfl,.inl ⟨rfl,.inl ⟨rfl,rfl⟩⟩⟩
   ·exact⟨rfl,rfl,rfl,.inl ⟨rfl,.inr ⟨aa,rfl⟩⟩⟩
  ·obtain⟨k1,k2⟩:=hk h1 h0;rw[aO h0];have h23:=(rE (iP.1 h1.now).1).1;have eh:aX8 p.1 p.2=kQ p.1.Heap p.2*32+p.2:=aO h1.gen;have hg:=h1.gen;have e1:aX8 p.1 p.2 % 32=p.2:=aa
   have e2:aX8 p.1 p.2/32=kQ p.1.Heap p.2:=aa
   have hn:lN (aX8 p.1 p.2):=by grind[lN]
   refine⟨rfl,rfl,rfl,.inr ⟨rfl,rfl,⟨⟨hn,?_,?_⟩,?_⟩,?_,k1⟩⟩
   ·simp only[yO];rw[e1];exact h1.now
   ·grind[yO]
   ·simp only[yO];rw[e1,k2];decide
   grind[yO]
 unfold YB;rw[h1,iE];have hc:(0:Int)<=1/\(1:Int)<=2:=aa
 split
 ·refine fin _ (aSC hm hw hc) λt h=>⟨a1J rfl t,?_⟩;have hf:=hm.2.2 (w*3+1).toNat aa _ (a1K h);rw[show(((w*3+1).toNat % 3:Nat):Int)=1 by omega] at hf;exact hf.1
 split
 ·exact fin _ (aOU hm hc) λt h=>⟨a1J rfl t,(hm.2.1 1 aa _ (a1K h)).1⟩
 grind[aYO,a9G]
abbrev eN(v:Int):Prop:=0<=v/\v<=2
abbrev oG(v:Int):Prop:=0<=v/\v<=1
def cH(m:Mem)(x:Int):gR:=ZN m.Heap (x % 32)
def ChT(m:Mem):Int->List Int->Prop
 |x,[]=>x=0
 |x,h::r=>x=h/\kJ m h/\aBN (cH m h)/\ChT m (cH m h).Next r
def ZO(l:List Int)(s:Int):Nat:=(l.map (· % 32)).count s
def kR(j:aI):List Int:=if(6<=j.Pc/\j.Pc<=8)\/j.Pc=16\/j.Pc=17 then j.gL else if 9<=j.Pc/\j.Pc<=13 then j.gL.drop (fQ j.aH j.K).toNat else []
def aFQ(j:aI):List Int:=if 9<=j.Pc/\j.Pc<=14 then j.cB else if j.Pc=15 then j.cB.drop j.K.toNat else []
def own(j:aI):List Int:=kR j++aFQ j
def ind(b:aA)(s:Int):Nat:=if eP b.Mem s=3/\¬bE b.aQ s then 1 else 0
def cnO(J:Int->aI)(s:Int):Nat:=ZO (own (J 0)) s+ZO (own (J 1)) s+ZO (own (J 2)) s
def cnC(c:Int->List Int)(s:Int):Nat:=ZO (c 0) s+ZO (c 1) s
def yS(J:Int->aI)(w:Int)(j:aI):Int->aI:=λv=>if v=w then j else J v
def upC(c:Int->List Int)(i:Int)(l:List Int):Int->List Int:=λv=>if v=i then l else c v
theorem gN(J:Int->aI)(w:Int)(j:aI):yS J w j w=j:=aO rfl
theorem qR(J:Int->aI){v:Int}(j:aI)(h:v≠w):yS J w j v=J v:=aP h
theorem qE(c:Int->List Int)(i:Int)(l:List Int):upC c i l i=l:=aO rfl
def upQ(q:Int->Nat)(w:Int)(n:Nat):Int->Nat:=λv=>if v=w then n else q v
theorem a9I(q:Int->Nat)(w:Int):upQ q w (q w)=q:=by grind[upQ]
theorem KS(c:Int->List Int){v:Int}(l:List Int)(h:v≠i):upC c i l v=c v:=aP h
@[simp] theorem a9J (s : Int) : ZO [] s = 0 := rfl
theorem UA(a b:List Int)(s:Int):ZO (a++b) s=ZO a s+ZO b s:=by simp[ZO]
theorem PK(x:Int)(l:List Int)(s:Int):ZO (x::l) s=ZO l s+if x % 32=s then 1 else 0:=by grind[ZO]
theorem QO{l:List Int}(h:x∈l):1<=ZO l (x % 32):=List.count_pos_iff.2 (AU.2 ⟨x,h,rfl⟩)
theorem YG{J:Int->aI}(hw:eN w)(j:aI)(s:Int):cnO (yS J w j) s+ZO (own (J w)) s=cnO J s+ZO (own j) s:=by grind[cnO,yS]
theorem aYQ(J:Int->aI){v:Int}(hv:eN v)(s:Int):ZO (own (J v)) s<=cnO J s:=by grind[cnO]
theorem bD2(J:Int->aI){v:Int}(hv:eN v)(hw:eN w)(hn:v≠w)(s:Int):ZO (own (J v)) s+ZO (own (J w)) s<=cnO J s:=by grind[cnO]
theorem a9K{c:Int->List Int}(hi:oG i)(l:List Int)(s:Int):cnC (upC c i l) s+ZO (c i) s=cnC c s+ZO l s:=by grind[cnC,upC]
theorem a9L(c:Int->List Int)(hi:oG i)(s:Int):ZO (c i) s<=cnC c s:=by grind[cnC]
theorem a1L(c:Int->List Int){j:Int}(hi:oG i)(hj:oG j)(hn:i≠j)(s:Int):ZO (c i) s+ZO (c j) s<=cnC c s:=by grind[cnC]
def bi(j:aI):Int:=jJ (mV j).Key
structure TW (Ky:List Int) (m:Mem) (k:List bW) (c:Int->List Int) (q:Nat) (j:aI):Prop where
 pc:0<=j.Pc/\j.Pc<=21
 nO:j.Pc<6\/20<=j.Pc->j.gL=[]
 oO:j.Pc<=8\/j.Pc=16\/j.Pc=17\/20<=j.Pc->j.cB=[]
 hc:2<=j.Pc/\j.Pc<=5->uB j
 wl:(j.aH.length:Int)<=j.At
 n6:j.Pc=6->(j.gL.length:Int)=j.K/\j.K<=fQ j.aH j.aH.length
 n7:7<=j.Pc/\j.Pc<=13->(j.gL.length:Int)=fQ j.aH j.aH.length/\(9<=j.Pc->(j.cB.length:Int)<=if j.Pc<=11 then j.K else j.K+1)
 l7:j.Pc=7->∀x∈(pZ j.aH).take j.K.toNat,x∈j.bE
 l8:8<=j.Pc/\j.Pc<=13->∀x∈j.aH,jJ x.Key∈j.bE
 k9:10<=j.Pc/\j.Pc<=13->j.K<j.aH.length
 st:j.Pc=10\/j.Pc=11->∃A B,c (bi j)=A++j.H::B/\(j.gT=A.getLastD 0/\∀a∈A,(cH m a).Key≠(mV j).Key)/\(j.Pc=10->B.length<=q)
 cu:j.Pc=11->j.Node=cH m j.H/\j.Node.Key=(mV j).Key
 fl:j.Pc=12\/j.Pc=13->(mV j).G6=false/\∀a∈c (bi j),(cH m a).Key≠(mV j).Key
 ln:j.Pc=13->cH m (GW j)=⟨(mV j).Key,(mV j).dC,(dX k (bi j)).Head⟩
 cd:j.Code=0/\j.Pc≠16/\j.Pc≠17\/(j.Code=3\/j.Code=6\/j.Code=7)/\16<=j.Pc/\j.Pc<=19
 at_:j.Code=0->6<=j.Pc/\j.Pc<=19->j.At=j.Batch.bN.length
 cl:j.Batch.Collect=true->j.Pc=19\/j.Pc=20\/j.Pc=21
 cl2:j.Pc=20\/j.Pc=21->j.Batch.Collect=true
 ky:(∀x∈j.aH,x.Key∈Ky)/\∀x∈j.Batch.bN,x.Key∈Ky
def Rp(m:Mem):List Int->Prop
 |[]=>True
 |h::r=>kJ m h/\aBN (cH m h)/\((cH m h).Next=0\/(cH m h).Next∈r)/\Rp m r
def Sfe(b:aA)(J:Int->aI)(e x:Int):Prop:=(∀r∈dW b.aQ,r.Handle=x->e<=r.aL)/\∀v,eN v->x∉kR (J v)/\((J v).Pc=15->(J v).K<(J v).cB.length->(J v).Sub.A=x->(J v).Sub.Pc=1->e<=(J v).Sub.E)
def mW(m:Mem)(l:List Int):List Int:=l.map λx=>(cH m x).Key
def mG(c:aC)(v:Int):Prop:=(cT c v).On=true/\(cT c v).gP=false
structure RdL (Ky:List Int) (b:aA) (J:Int->aI) (e:Int) (l:List Int):Prop where
 rp:Rp b.Mem l
 nd:(mW b.Mem l).Nodup
 ky:∀x∈mW b.Mem l,x∈Ky
 sf:∀x∈l,Sfe b J e x
def RdJ(Ky:List Int)(b:aA)(J:Int->aI)(v:Int)(q:Nat)(j:aI):Prop:=(j.Pc=3\/j.Pc=4)->mG b.aC v->∃r,(RdL Ky b J (cT b.aC v).aL (j.H::r)/\r.length<=q)/\(j.Pc=4->(j.Node.Key=(cH b.Mem j.H).Key/\j.Node.dC=(cH b.Mem j.H).dC)/\(j.Node.Next=0\/j.Node.Next∈r))
def bD3(e:Int)(l:List eR)(s:Sub):Prop:=s.Kind=4/\s.gX=false/\(s.Pc=0\/s.E<=e/\(s.Pc=1/\0<=s.Row\/s.Pc=2/\(0<=s.B/\s.B<=2)/\NV l s/\JY (L4 l s.Row) s.E\/s.Pc=3/\NV l s/\JY (L4 l s.Row) s.E))
structure SbJ (b:aA) (v:Int) (j:aI):Prop where
 al:j.Pc=6->j.Sub.Kind=1/\j.Sub.gX=false/\(0<=j.Sub.Pc/\j.Sub.Pc<=3)/\j.Sub.A=16
 rt:j.Pc=15->j.K<j.cB.length->0<=j.K/\j.Sub.Kind=2/\j.Sub.gX=false/\j.Sub.A=j.cB.getD j.K.toNat 0/\(j.Sub.Pc=0\/j.Sub.Pc=1/\0<=j.Sub.E/\j.Sub.E<=b.aC.aL)
 col:j.Pc=21->bD3 b.aC.aL (dK b.aQ v) j.Sub
structure sK (Ky:List Int) (b:aA) (k:List bW) (c:Int->List Int) (q:Int->Nat) (J:Int->aI):Prop where
 hz:b.qT=[0,0,0]
 ch:∀i,oG i->ChT b.Mem (dX k i).Head (c i)
 key:∀i,oG i->(mW b.Mem (c i)).Nodup/\∀x∈mW b.Mem (c i),jJ x=i/\x∈Ky
 cnt:∀s,cnC c s+cnO J s=ind b s
 ok:∀v,eN v->∀x∈own (J v),kJ b.Mem x
 tw:∀v,eN v->(J v).bQ=true->TW Ky b.Mem k c (q v) (J v)
 rd:∀v,eN v->RdJ Ky b J v (q v) (J v)
 sb:∀v,eN v->SbJ b v (J v)
theorem ChT.all:∀{l:List Int} {x:Int},ChT m x l->∀y∈l,kJ m y/\aBN (cH m y)
 |[],_,_,_,h=>by cases h
 |a::r,x,h,y,hy=>by
  rcases iX.1 hy with rfl|hy
  ·exact⟨h.2.1,h.2.2.1⟩
  ·exact h.2.2.2.all y hy
theorem ChT.keep:∀{l:List Int} {x:Int},ChT m x l->(∀y∈l,kJ m' y/\cH m' y=cH m y)->ChT m' x l
 |[],_,h,_=>h
 |a::r,x,h,hk=>by obtain⟨a1,a2⟩:=hk a ae;exact⟨h.1,a1,by rw[a2];exact h.2.2.1,by rw[a2];exact h.2.2.2.keep λy hy=>hk y (by simp[hy])⟩
theorem ChT.split:∀{h:Int} {B:List Int} {x:Int},ChT m x (A++h::B)->ChT m h (h::B):=by
 induction A with
 |nil=>exact λh=>⟨rfl,h.2⟩
 |cons a A ih=>exact λh=>ih h.2.2.2
theorem ChT.rp:∀{l:List Int} {x:Int},ChT m x l->Rp m l
 |[],_,_=>trivial
 |[a],x,h=>⟨h.2.1,h.2.2.1,.inl h.2.2.2,trivial⟩
 |a::b::r,x,h=>⟨h.2.1,h.2.2.1,.inr (by rw[h.2.2.2.1];simp),h.2.2.2.rp⟩
theorem Rp.from:∀{l:List Int} {x:Int},Rp m l->x∈l->∃A r,l=A++x::r/\Rp m (x::r)
 |a::l,x,h,hx=>by
  by_cases e:x=a
  ·subst e;exact⟨[],l,rfl,h⟩
  ·obtain⟨A,r,e1,h1⟩:=h.2.2.2.from ((iX.1 hx).resolve_left e);grind
theorem Rp.keep:∀{l:List Int},Rp m l->(∀y∈l,kJ m' y/\cH m' y=cH m y)->Rp m' l
 |[],_,_=>trivial
 |a::r,h,hk=>by obtain⟨a1,a2⟩:=hk a ae;exact⟨a1,by rw[a2];exact h.2.1,by rw[a2];exact h.2.2.1,h.2.2.2.keep λy hy=>hk y (by simp[hy])⟩
theorem Rp.ok:∀{l:List Int},Rp m l->∀y∈l,kJ m y/\aBN (cH m y)
 |a::r,h,y,hy=>by
  rcases iX.1 hy with rfl|hy
  ·exact⟨h.1,h.2.1⟩
  ·exact h.2.2.2.ok y hy
theorem aFR{l:List Int}(h:∀y∈l,(cH m' y).Key=(cH m y).Key):mW m' l=mW m l:=List.map_congr_left h
theorem kJ.ne(h:kJ m x):x≠0:=by have:=h.1.1.1;omega
theorem aMK(b:aA)(s:Int):ind b s<=1:=by grind[ind]
theorem Rp.cut{y:Int}(hy:cH m' y={cH m y with Next:=(cH m (cH m y).Next).Next})(h0:(cH m y).Next≠0):∀{l:List Int},Rp m l->(∀x∈l,kJ m' x/\(x≠y->cH m' x=cH m x))->Rp m' l
 |[],_,_=>trivial
 |a::r,h,hk=>by
  have ih:=h.2.2.2.cut hy h0 λx hx=>hk x (by simp[hx]);obtain⟨a1,a2⟩:=hk a ae;by_cases e:a=y
  ·subst e;have hm:=h.2.2.1.resolve_left h0;obtain⟨A,q,e1,e2⟩:=h.2.2.2.from hm;rw[Rp,hy];refine⟨a1,⟨h.2.1.1,h.2.1.2.1,e2.2.1.2.2⟩,e2.2.2.1.imp id λz=>?_,ih⟩;grind
  grind[Rp]
structure Oth (b b':aA) (k k':List bW) (c c':Int->List Int) (J:Int->aI) (w:Int) (j':aI) (y z:Int):Prop where
 nod:∀x,kJ b.Mem x->x % 32≠z->kJ b'.Mem x/\(x≠y->cH b'.Mem x=cH b.Mem x)
 zo:z = -1\/ind b z=0\/∃x∈own (J w),x % 32=z
 yo:y=0\/y∈kR (J w)\/(∃i,oG i/\(dX k i).eM=w+1/\y∈c i)/\cH b'.Mem y={cH b.Mem y with Next:=(cH b.Mem (cH b.Mem y).Next).Next}/\(cH b.Mem y).Next≠0
 hk:∀i,oG i->(dX k i).eM≠w+1->(dX k' i).Head=(dX k i).Head/\c' i=c i
 zs:z = -1\/∀v,eN v->v≠w->(J v).Pc=3\/(J v).Pc=4->mG b.aC v->∀x,kJ b.Mem x->Sfe b J (cT b.aC v).aL x->x % 32≠z
 lr:∀r∈dW b'.aQ,r∈dW b.aQ\/(J w).Pc=15/\(J w).K<(J w).cB.length/\(J w).Sub.A=r.Handle/\(J w).Sub.Pc=1/\(J w).Sub.E=r.aL
 no:∀x∈kR j',x∈kR (J w)\/eP b.Mem (x % 32)≠3
 sr:j'.Pc=15->j'.K<j'.cB.length->j'.Sub.Pc=1->j'.Sub.E=b.aC.aL\/(J w).Pc=15/\(J w).K<(J w).cB.length/\(J w).Sub.A=j'.Sub.A/\(J w).Sub.Pc=1/\(J w).Sub.E=j'.Sub.E
 pin:∀v,eN v->v≠w->mG b'.aC v->mG b.aC v/\(cT b'.aC v).aL=(cT b.aC v).aL
 ep:b.aC.aL<=b'.aC.aL
 rows:∀v,eN v->v≠w->dK b'.aQ v=dK b.aQ v
section
variable {Ky:List Int} {b b':aA} {k k':List bW} {c c':Int->List Int} {J:Int->aI} {q:Int->Nat} {w:Int} {j':aI} {y z:Int}
theorem Oth.sfe(o:Oth b b' k k' c c' J w j' y z)(hw:eN w){e:Int}(he:e<=b.aC.aL)(hx:kJ b.Mem x)(h:Sfe b J e x):Sfe b' (yS J w j') e x:=by
 refine⟨λr hr er=>?_,λv hv=>?_⟩
 ·rcases o.lr r hr with q|⟨q1,q2,q3,q4,q5⟩
  ·exact h.1 r q er
  ·have:=(h.2 w hw).2 q1 q2 (by rw[q3,er]) q4;omega
 ·by_cases q:v=w
  ·subst q;rw[gN];refine⟨λm=>(o.no x m).elim (h.2 v hv).1 λs=>s hx.1.2.1,λa1 a2 a3 a4=>?_⟩;rcases o.sr a1 a2 a4 with s|⟨s1,s2,s3,s4,s5⟩
   ·omega
   ·have:=(h.2 v hv).2 s1 s2 (by rw[s3,a3]) s4;omega
  ·rw[qR _ _ q];exact h.2 v hv
variable (h:sK Ky b k c q J) (hl:∀v,eN v->Y4 k v (J v)) (hw:eN w)
include h hw
theorem sK.name{v:Int}(hv:eN v)(hx:x∈own (J v)):1<=ZO (own (J v)) (x % 32)/\cnC c (x % 32)+cnO J (x % 32)=ind b (x % 32)/\ZO (own (J v)) (x % 32)<=cnO J (x % 32)/\ind b (x % 32)<=1:=⟨QO hx,h.cnt _,aYQ J hv _,aMK ..⟩
theorem sK.link(hi:oG i)(hx:x∈c i):1<=ZO (c i) (x % 32)/\cnC c (x % 32)+cnO J (x % 32)=ind b (x % 32)/\ZO (c i) (x % 32)<=cnC c (x % 32)/\ind b (x % 32)<=1:=⟨QO hx,h.cnt _,a9L c hi _,aMK ..⟩
theorem NX(hx:x∈kR j):x∈own j:=QT _ hx
theorem Oth.own(o:Oth b b' k k' c c' J w j' y z){v:Int}(hv:eN v)(hn:v≠w)(hx:x∈own (J v)):kJ b'.Mem x/\cH b'.Mem x=cH b.Mem x:=by
 have a:=h.name hw hv hx;have two:=bD2 J hv hw hn (x % 32);have hz:x % 32≠z:=λe=>by
  rcases o.zo with q|q|⟨u,hu,eu⟩
  ·omega
  ·grind
  ·have:=h.name hw hw hu;grind
 have hy:x≠y:=λe=>by
  subst e;rcases o.yo with q|q|⟨⟨i,hi,_,hc⟩,_⟩
  ·exact(h.ok v hv x hx).ne q
  ·have:=h.name hw hw (NX h hw q);omega
  ·have:=h.link hw hi hc;omega
 obtain⟨r1,r2⟩:=o.nod x (h.ok v hv x hx) hz;grind
theorem Oth.chz(o:Oth b b' k k' c c' J w j' y z)(hi:oG i):∀x∈c i,kJ b'.Mem x/\(x≠y->cH b'.Mem x=cH b.Mem x):=λx hx=>by
 have a:=h.link hw hi hx;refine o.nod x ((h.ch i hi).all x hx).1 λe=>?_;rcases o.zo with q|q|⟨u,hu,eu⟩
 ·omega
 ·grind
 ·have:=h.name hw hw hu;grind
theorem Oth.chn(o:Oth b b' k k' c c' J w j' y z)(hi:oG i)(hy:y∉c i):(∀x∈c i,kJ b'.Mem x/\cH b'.Mem x=cH b.Mem x)/\((dX k' i).Head=(dX k i).Head->c' i=c i->ChT b'.Mem (dX k' i).Head (c' i)/\mW b'.Mem (c' i)=mW b.Mem (c i)):=by
 have all:∀x∈c i,kJ b'.Mem x/\cH b'.Mem x=cH b.Mem x:=λx hx=>by obtain⟨a1,a2⟩:=o.chz h hw hi x hx;grind
 refine⟨all,λe1 e2=>?_⟩;rw[e1,e2];exact⟨(h.ch i hi).keep all,aFR λx hx=>aj⟩
theorem Oth.yno(o:Oth b b' k k' c c' J w j' y z)(hi:oG i)(hn:(dX k i).eM≠w+1):y∉c i:=λhy=>by
 have a:=h.link hw hi hy;rcases o.yo with q|q|⟨⟨u,hu,hlk,hc⟩,_⟩
 ·exact((h.ch i hi).all y hy).1.ne q
 ·have:=h.name hw hw (NX h hw q);omega
 grind[a1L,QO]
theorem aML{q1:Nat}(t:TW Ky m k c q1 j)(hj:JB j)(hp:j.Pc=12\/j.Pc=13):GW j∈kR j/\∃r,kR j=GW j::r/\j.gL.drop ((fQ j.aH j.K).toNat+1)=r:=by
 have hk:=t.k9 aa;have hd:=(t.fl hp).1;have hn:=(t.n7 aa).1;have hk0:=hj.k.1;have hi:j.K.toNat<j.aH.length:=aa
 have er:mV j=j.aH[j.K.toNat]:=by grind[mV]
 have hlt:fQ j.aH j.K+1<=fQ j.aH j.aH.length:=by unfold fQ;rw[K8,List.take_length];grind[ZV,uI]
 have p0:0<=fQ j.aH j.K:=by grind[fQ]
 have hlen:(fQ j.aH j.K).toNat<j.gL.length:=aa
 have e1:kR j=j.gL.drop (fQ j.aH j.K).toNat:=by unfold kR;grind
 grind[GW,uI]
include hl
theorem sK.aP4{q':Int->Nat}(hq:∀v,v≠w->q' v=q v)(hc:KN b.aC)(hJ:∀v,eN v->(J v).bQ=true->JB (J v))(o:Oth b b' k k' c c' J w j' y z)(hz:b'.qT=b.qT)(ch':∀i,oG i->ChT b'.Mem (dX k' i).Head (c' i))(key':∀i,oG i->(mW b'.Mem (c' i)).Nodup/\∀x∈mW b'.Mem (c' i),jJ x=i/\x∈Ky)
  (cnt':∀s,cnC c' s+cnO (yS J w j') s=ind b' s) (ok':∀x∈own j',kJ b'.Mem x) (tw':j'.bQ=true->TW Ky b'.Mem k' c' (q' w) j') (rd':RdJ Ky b' (yS J w j') w (q' w) j') (sb':SbJ b' w j'):sK Ky b' k' c' q' (yS J w j'):=by
 refine⟨hz.trans h.hz,ch',key',cnt',λv hv x hx=>?_,λv hv hb=>?_,λv hv=>?_,λv hv=>?_⟩
 ·by_cases qv:v=w
  ·grind[gN]
  ·rw[qR _ _ qv] at hx;exact(o.own h hw hv qv hx).1
 ·by_cases qv:v=w
  ·grind[gN]
  ·rw[qR _ _ qv] at hb ⊢;rw[hq v qv];have t:=h.tw v hv hb;have hj:=hJ v hv hb;have held:∀i,i∈(J v).bE->oG i/\(dX k' i).Head=(dX k i).Head/\c' i=c i/\∀x∈c i,cH b'.Mem x=cH b.Mem x:=λi hi=>by
    have hb2:=hj.held.1 i hi;have hlk:=((hl v hv).iff i hb2).1 hi;have hn:(dX k i).eM≠w+1:=aa
    obtain⟨a1,a2⟩:=o.hk i hb2 hn;exact⟨hb2,a1,a2,λx hx=>((o.chn h hw hb2 (o.yno h hw hb2 hn)).1 x hx).2⟩
   have hbi:10<=(J v).Pc/\(J v).Pc<=13->bi (J v)∈(J v).bE:=λhp=>by
    have hk:=t.k9 hp;have hk0:=hj.k.1;have hi:(J v).K.toNat<(J v).aH.length:=aa
    have er:mV (J v)=(J v).aH[(J v).K.toNat]:=by grind[mV]
    exact t.l8 aa _ aj
   refine{t with st:=λhp=>?_,cu:=λhp=>?_,fl:=λhp=>?_,ln:=λhp=>?_}
   ·obtain⟨_,_,e2,e3⟩:=held _ (hbi aa);obtain⟨A,B,x1,⟨x2,x3⟩,x4⟩:=t.st hp;grind
   ·obtain⟨_,_,e2,e3⟩:=held _ (hbi aa);obtain⟨A,B,x1,_⟩:=t.st (.inr hp);rw[e3 (J v).H aj];exact t.cu hp
   ·obtain⟨_,_,e2,e3⟩:=held _ (hbi aa);obtain⟨x1,x2⟩:=t.fl hp;grind
   ·obtain⟨_,e1,e2,e3⟩:=held _ (hbi aa);rw[(o.own h hw hv qv (NX h hw (aML h hw t hj (.inr hp)).1)).2,e1];exact t.ln hp
 ·by_cases qv:v=w
  ·grind[gN]
  ·rw[qR _ _ qv,hq v qv];intro hp hpin;obtain⟨p1,p2⟩:=o.pin v hv qv hpin;obtain⟨r,⟨⟨a1,a2,a3,a4⟩,a6⟩,a5⟩:=h.rd v hv hp p1;have he:(cT b.aC v).aL<=b.aC.aL:=(aLY hc hv).1.2;have hx:∀x∈(J v).H::r,kJ b'.Mem x/\(x≠y->cH b'.Mem x=cH b.Mem x):=λx hx=>by
    refine o.nod x (a1.ok x hx).1 λez=>?_;rcases o.zs with z1|z1
    ·omega
    ·exact z1 v hv qv hp p1 x (a1.ok x hx).1 (a4 x hx) ez
   have hsf:∀x∈(J v).H::r,Sfe b' (yS J w j') (cT b'.aC v).aL x:=λx hx=>by rw[p2];exact o.sfe hw he (a1.ok x hx).1 (a4 x hx)
   have hkv:∀x∈(J v).H::r,(cH b'.Mem x).Key=(cH b.Mem x).Key/\(cH b'.Mem x).dC=(cH b.Mem x).dC:=λx hm=>by
    by_cases e:x=y
    ·rcases o.yo with q0|q0|⟨_,q1,_⟩
     ·exact absurd (e.trans q0) (a1.ok x hm).1.ne
     ·exact absurd (e ▸ q0) ((a4 x hm).2 w hw).1
     grind
    grind
   have hkk:mW b'.Mem ((J v).H::r)=mW b.Mem ((J v).H::r):=aFR λx hm=>(hkv x hm).1;have hrp:Rp b'.Mem ((J v).H::r):=by
    by_cases hy:y∈(J v).H::r
    ·rcases o.yo with q0|q0|⟨_,q1,q2⟩
     ·exact absurd q0 (a1.ok y hy).1.ne
     ·exact absurd q0 ((a4 y hy).2 w hw).1
     ·exact a1.cut q1 q2 hx
    ·exact a1.keep λx hm=>⟨(hx x hm).1,(hx x hm).2 λe=>hy (e ▸ hm)⟩
   refine⟨r,⟨⟨hrp,aj,aj,hsf⟩,a6⟩,λe=>?_⟩;grind
 ·by_cases qv:v=w
  ·grind[gN]
  ·rw[qR _ _ qv];have s:=h.sb v hv;have he:=o.ep;exact⟨s.al,λp1 p2=>by obtain⟨x0,x1,x2,x3,x4⟩:=s.rt p1 p2;grind,λp=>by rw[o.rows v hv qv];obtain⟨x1,x2,x3⟩:=s.col p;exact⟨x1,x2,x3.imp id λa=>⟨aJJ a.1 he,a.2⟩⟩⟩
theorem sK.make(hc:KN b.aC)(hJ:∀v,eN v->(J v).bQ=true->JB (J v))(o:Oth b b' k k' c c' J w j' y z)(hz:b'.qT=b.qT)(ch':∀i,oG i->ChT b'.Mem (dX k' i).Head (c' i))(key':∀i,oG i->(mW b'.Mem (c' i)).Nodup/\∀x∈mW b'.Mem (c' i),jJ x=i/\x∈Ky)
  (cnt':∀s,cnC c' s+cnO (yS J w j') s=ind b' s) (ok':∀x∈own j',kJ b'.Mem x) (tw':j'.bQ=true->TW Ky b'.Mem k' c' (q w) j') (rd':RdJ Ky b' (yS J w j') w (q w) j') (sb':SbJ b' w j'):sK Ky b' k' c' q (yS J w j'):=h.aP4 hl hw (λ_ _=>rfl) hc hJ o hz ch' key' cnt' ok' tw' rd' sb'
end
theorem aYR{b:aA}(hc:KN b.aC)(hw:0<=w/\w<=2)(s:Sub):∃cl:aC,(zP b w s).1=⟨b.Mem,cl,b.aQ,b.qT⟩/\cl.aL=b.aC.aL/\∀v,0<=v/\v<=2->v≠w->cT cl v=cT b.aC v:=by
 unfold zP QM;split
 ·grind
 split
 ·split
  ·refine⟨⟨b.aC.aL,b.aC.cO.set w.toNat ⟨true,s.E,false,0⟩⟩,rfl,rfl,λv hv hn=>by rw[zR hc hw hv,aP hn]⟩
  ·exact⟨_,rfl,rfl,λ_ _ _=>rfl⟩
 split
 ·split
  ·exact⟨_,rfl,rfl,λ_ _ _=>rfl⟩
  ·exact⟨_,rfl,rfl,λ_ _ _=>rfl⟩
 grind
theorem aVH{c:aC}(hc:KN c)(hw:0<=w/\w<=2):(KR c w).1.aL=c.aL/\∀v,0<=v/\v<=2->v≠w->cT (KR c w).1 v=cT c v:=by
 unfold KR;split
 ·exact⟨rfl,λv hv hn=>by rw[zR hc hw hv,aP hn]⟩
 ·exact⟨rfl,λ_ _ _=>rfl⟩
theorem aP5{c c':aC}{v:Int}(h:cT c' v=cT c v)(p:mG c' v):mG c v/\(cT c' v).aL=(cT c v).aL:=by grind[mG]
theorem aYS{b:aA}(hc:KN b.aC)(s:Sub):∃cl:aC,(fF b s).1=⟨b.Mem,cl,b.aQ,b.qT⟩/\b.aC.aL<=cl.aL/\∀v,0<=v/\v<=2->mG cl v->mG b.aC v/\(cT cl v).aL=(cT b.aC v).aL:=by
 unfold fF;split
 ·grind
 split
 ·split
  ·grind[aL3,mG]
  grind
 split
 ·refine⟨_,rfl,?_,?_⟩
  ·unfold aGG;grind
  ·intro v hv p;unfold aGG at p ⊢;split
   ·rename_i q;rw[aO q] at p;exact⟨p,rfl⟩
   grind
 grind
section
variable {Ky:List Int} {b:aA} {k:List bW} {c:Int->List Int} {q:Int->Nat} {J:Int->aI} {w:Int} (h:sK Ky b k c q J) (hl:∀v,eN v->Y4 k v (J v)) (hw:eN w) (hc:KN b.aC) (hJ:∀v,eN v->(J v).bQ=true->JB (J v))
include h hl hw hc hJ
theorem sK.a9N{q':Int->Nat}(hq:∀v,v≠w->q' v=q v){cl:aC}(hk:∀i,oG i->(dX k' i).Head=(dX k i).Head)(eo:own j'=own (J w))(en:∀x∈kR j',x∈kR (J w))
  (sr:j'.Pc=15->j'.K<j'.cB.length->j'.Sub.Pc=1->j'.Sub.E=b.aC.aL\/(J w).Pc=15/\(J w).K<(J w).cB.length/\(J w).Sub.A=j'.Sub.A/\(J w).Sub.Pc=1/\(J w).Sub.E=j'.Sub.E)
  (pin:∀v,eN v->v≠w->mG cl v->mG b.aC v/\(cT cl v).aL=(cT b.aC v).aL) (ep:b.aC.aL<=cl.aL)
  (tw':j'.bQ=true->TW Ky b.Mem k' c (q' w) j') (rd':RdJ Ky {b with aC:=cl} (yS J w j') w (q' w) j') (sb':SbJ {b with aC:=cl} w j'):sK Ky {b with aC:=cl} k' c q' (yS J w j'):=by refine h.aP4 hl hw hq hc hJ (y:=0) (z:=-1) ⟨λx hx _=>⟨hx,λ_=>rfl⟩,.inl rfl,.inl rfl,λi hi _=>⟨hk i hi,rfl⟩,.inl rfl,λr hr=>.inl hr,λx hx=>.inl (en x hx),sr,pin,ep,λ_ _ _=>rfl⟩ rfl (λi hi=>by rw[hk i hi];exact h.ch i hi) h.key (λs=>?_) (λx hx=>h.ok w hw x (eo ▸ hx)) tw' rd' sb';have:=YG (J:=J) hw j' s;rw[eo] at this;have h2:=h.cnt s;grind[ind]
theorem sK.quiet{cl:aC}(hk:∀i,oG i->(dX k' i).Head=(dX k i).Head)(eo:own j'=own (J w))(en:∀x∈kR j',x∈kR (J w))
  (sr:j'.Pc=15->j'.K<j'.cB.length->j'.Sub.Pc=1->j'.Sub.E=b.aC.aL\/(J w).Pc=15/\(J w).K<(J w).cB.length/\(J w).Sub.A=j'.Sub.A/\(J w).Sub.Pc=1/\(J w).Sub.E=j'.Sub.E)
  (pin:∀v,eN v->v≠w->mG cl v->mG b.aC v/\(cT cl v).aL=(cT b.aC v).aL) (ep:b.aC.aL<=cl.aL)
  (tw':j'.bQ=true->TW Ky b.Mem k' c (q w) j') (rd':RdJ Ky {b with aC:=cl} (yS J w j') w (q w) j') (sb':SbJ {b with aC:=cl} w j'):sK Ky {b with aC:=cl} k' c q (yS J w j'):=h.a9N hl hw hc hJ (λ_ _=>rfl) hk eo en sr pin ep tw' rd' sb'
theorem sK.aSD{q':Int->Nat}(hq:∀v,v≠w->q' v=q v)(hk:∀i,oG i->(dX k' i).Head=(dX k i).Head)(eo:own j'=own (J w))(en:∀x∈kR j',x∈kR (J w))(h15:j'.Pc≠15\/j'.Sub.Pc≠1)(tw':j'.bQ=true->TW Ky b.Mem k' c (q' w) j')(rd':RdJ Ky b J w (q' w) j')(sb':SbJ b w j'):sK Ky b k' c q' (yS J w j'):=
 h.a9N hl hw hc hJ hq (cl:=b.aC) hk eo en (λp _ q=>h15.elim (λa=>absurd p a) λa=>absurd q a) (λ_ _ _ p=>⟨p,rfl⟩) (J2 _) tw' (λp q=>by
  obtain⟨r,⟨a,la⟩,e⟩:=rd' p q;exact⟨r,⟨⟨a.rp,a.nd,a.ky,λx hx=>⟨(a.sf x hx).1,λv hv=>by
   by_cases z:v=w
   ·subst z;rw[gN];exact⟨λm=>((a.sf x hx).2 v hv).1 (en x m),λp1 _ _ p2=>(h15.elim (λa=>absurd p1 a) λa=>absurd p2 a)⟩
   ·rw[qR _ _ z];exact(a.sf x hx).2 v hv⟩⟩,la⟩,e⟩) sb'
theorem sK.still(hk:∀i,oG i->(dX k' i).Head=(dX k i).Head)(eo:own j'=own (J w))(en:∀x∈kR j',x∈kR (J w))(h15:j'.Pc≠15\/j'.Sub.Pc≠1)(tw':j'.bQ=true->TW Ky b.Mem k' c (q w) j')(rd':RdJ Ky b J w (q w) j')(sb':SbJ b w j'):sK Ky b k' c q (yS J w j'):=h.aSD hl hw hc hJ (λ_ _=>rfl) hk eo en h15 tw' rd' sb'
end
theorem RdJ.no{b:aA}{J:Int->aI}{v:Int}{q:Nat}(h:j.Pc≠3/\j.Pc≠4):RdJ Ky b J v q j:=λp=>absurd p aa
theorem SbJ.no{b:aA}{v:Int}(h:j.Pc≠6/\j.Pc≠15/\j.Pc≠21):SbJ b v j:=⟨λp=>absurd p h.1,λp=>absurd p h.2.1,λp=>absurd p h.2.2⟩
theorem GX(h:j.Pc<6\/18<=j.Pc):own j=[]/\kR j=[]:=by unfold own kR aFQ;grind
theorem uD(h:(6<=j.Pc/\j.Pc<=8)\/j.Pc=16\/j.Pc=17):own j=j.gL/\kR j=j.gL:=by unfold own kR aFQ;grind
theorem YH(l:List aU)(x:aU):(vI l x).length<=l.length+1:=by
 have e:(vI l x).length=(l.filter λy=>!(y.Key == x.Key)).length+1:=by unfold vI;have:=bZ List.length (aS0 (p:=λy=>!decide (x.Key<y.Key)) (l:=l.filter λy=>!(y.Key == x.Key)));grind
 grind
theorem aVI{l:List aU}{x y:aU}(h:y∈vI l x):y=x\/y∈l:=((aL6 _ _ _).1 (show y∈aR3 _ x from h)).imp id λh=>(ZT.1 h).1
theorem a1M(hj:JB j)(hc:uB j):cG j∈j.Batch.bN:=by have:=hj.at_;grind[uB,cG]
theorem aYT{c:Int->List Int}{q1:Nat}(t:TW Ky m k c q1 j)(hj:JB j)(hp:1<=j.Pc/\j.Pc<=5)(ha:uB j)(v:Int)(is:Bool):TW Ky m k c q1 (qU j (cG j) v is)/\(qU j (cG j) v is).Pc=1:=by
 have hm:=a1M hj ha;have h6:=hj.VZ.2.1;have hat:=hj.at_;unfold uB at ha;obtain⟨t1,t2,t3,t4,t5,t6,t7,t8,t9,t10,t11,t12,t13,t14,t15,t16,t17,t18,t19⟩:=t;have w5:=t5;unfold qU;split
 ·generalize (if is then v else 0)=u;unfold VW oD;have hlen:=YH j.aH ⟨(cG j).Key,false,vK u (cG j).dC⟩;have hmem:∀y∈vI j.aH ⟨(cG j).Key,false,vK u (cG j).dC⟩,y.Key∈Ky:=λy hy=>by grind[aVI]
  rw[aP (show ¬6<(vI j.aH ⟨(cG j).Key,false,vK u (cG j).dC⟩).length by omega),aO rfl];unfold T7;refine⟨?_,rfl⟩;constructor<;>grind
 ·unfold T7;refine⟨?_,rfl⟩;constructor<;>grind
section
variable {Ky:List Int} {b:aA} {k:List bW} {c:Int->List Int} {q:Int->Nat} {J:Int->aI} {w:Int} (h:sK Ky b k c q J) (hl:∀v,eN v->Y4 k v (J v)) (hw:eN w) (hc:KN b.aC) (hJ:∀v,eN v->(J v).bQ=true->JB (J v)) (hB:(J w).bQ=true)
include h hl hw hc hJ hB
theorem bIP(hp:(J w).Pc=8):sK Ky b k c q (yS J w (JZ k w (J w))):=by
 obtain⟨t1,t2,t3,t4,t5,t6,t7,t8,t9,t10,t11,t12,t13,t14,t15,t16,t17,t18,t19⟩:=h.tw w hw hB;have o:=uD (j:=J w) aa;have p0:fQ (J w).aH 0=0:=by simp[fQ]
 unfold JZ;split
 ·refine h.still hl hw hc hJ (λ_ _=>rfl) ?_ ?_ (.inl ae) (λ_=>?_) (.no ae) (.no ae)
  ·simp_all[own,kR,aFQ]
  ·grind[kR]
  ·constructor<;>grind
 ·split
  ·refine h.still hl hw hc hJ (λ_ _=>rfl) ?_ ?_ (.inl (by simp[sL])) (λ_=>?_) (.no (by simp[sL])) (.no (by simp[sL]))
   ·simp_all[own,kR,aFQ,sL]
   ·grind[kR,sL]
   ·constructor<;>grind[sL]
  ·refine h.still hl hw hc hJ (λ_ _=>rfl) ?_ ?_ (.inl (by simp[hp])) (λ_=>?_) (.no (by simp[hp])) (.no (by simp[hp]))
   ·simp_all[own,kR,aFQ]
   ·grind[kR]
   ·constructor<;>grind
theorem bD4(hp:(J w).Pc=1):sK Ky b k c q (yS J w (qP (J w))):=by
 have t:=h.tw w hw hB;have hj:=hJ w hw hB;have o:=GX (j:=J w) aa;have fin:∀{j':aI},TW Ky b.Mem k c (q w) j'->j'.Pc=1\/j'.Pc=2->sK Ky b k c q (yS J w j'):=λ{j'} t' p'=>by have o':=GX (j:=j') aa;exact h.still hl hw hc hJ (λ_ _=>rfl) aj aj (.inl aa) (λ_=>t') (.no aa) (.no aa)
 unfold qP;split
 ·rename_i ha;split
  ·have hm:=a1M hj ha;have h6:=hj.VZ.2.1;have hat:=hj.at_;unfold uB at ha;obtain⟨t1,t2,t3,t4,t5,t6,t7,t8,t9,t10,t11,t12,t13,t14,t15,t16,t17,t18,t19⟩:=t;have w5:=t5;unfold oD;have hlen:=YH (J w).aH ⟨(cG (J w)).Key,(cG (J w)).Kind == 3,(cG (J w)).dC⟩;have hmem:∀y∈vI (J w).aH ⟨(cG (J w)).Key,(cG (J w)).Kind == 3,(cG (J w)).dC⟩,y.Key∈Ky:=λy hy=>by grind[aVI]
   rw[aP (show ¬6<(vI (J w).aH ⟨(cG (J w)).Key,(cG (J w)).Kind == 3,(cG (J w)).dC⟩).length by omega),aO rfl];refine fin ?_ (.inl hp);constructor<;>grind
  ·split
   ·grind[aYT]
   ·refine fin ?_ (.inr rfl);obtain⟨t1,t2,t3,t4,t5,t6,t7,t8,t9,t10,t11,t12,t13,t14,t15,t16,t17,t18,t19⟩:=t;constructor<;>grind[uB]
 ·rename_i ha;have hat:=hj.at_;have e:own {J w with Pc:=6,K:=0,Sub:=zQ 1 16}=[]:=by rw[(uD ae).1];exact t.nO aa
  refine h.still hl hw hc hJ (λ_ _=>rfl) (by rw[o.1,e]) (by grind[uD]) (.inl ae) (λ_=>?_) (.no ae) ⟨λ_=>by simp[zQ],ae,ae⟩;obtain⟨t1,t2,t3,t4,t5,t6,t7,t8,t9,t10,t11,t12,t13,t14,t15,t16,t17,t18,t19⟩:=t;have p0:0<=fQ (J w).aH (J w).aH.length:=by grind[fQ]
  unfold uB at ha;constructor<;>grind
end
theorem aSE(h:kJ m x):VV m.Heap x=cH m x:=aO ⟨h.1.1,dQ h.1.2.1,h.2⟩
def qF(L q:Nat)(j:aI):Nat:=if j.Pc=2\/j.Pc=9 then L-1 else if j.Pc=4\/j.Pc=10 then q-1 else q
theorem bD5{l:List aU}{x:aU}(h:x∈l)(hk:0<=x.Key/\x.Key<=99):jJ x.Key∈pZ l:=by
 have:jJ x.Key=0/\(l.any λx=>x.Key % 2 == 0)=true\/jJ x.Key=1/\(l.any λx=>x.Key % 2 == 1)=true:=by unfold jJ;grind
 grind[pZ]
section
variable {Ky:List Int} {b:aA} {k:List bW} {c:Int->List Int} {q:Int->Nat} {J:Int->aI} {w:Int} (h:sK Ky b k c q J)
include h
theorem sK.free(hi:oG i)(hx:x∈c i)(e:Int):Sfe b J e x:=by
 have hn:=((h.ch i hi).all x hx).1.1.1;have a:=QO hx;have a2:=h.cnt (x % 32);have a3:=a9L c hi (x % 32);refine⟨λr hr er=>?_,λv hv=>⟨λm=>?_,λp1 p2 p3 p4=>?_⟩⟩
 ·have:ind b (x % 32)=0:=aP λq=>q.2 ⟨r,hr,er ▸ hn,by rw[er]⟩;omega
 ·have:=QO (NX h hv m);grind[aYQ,aMK]
 ·obtain⟨hk,_,_,hs,_⟩:=(h.sb v hv).rt p1 p2;have hm:x∈own (J v):=aB0 _ (by
   simp_all[aFQ,uI])
  have:=QO hm;grind[aYQ,aMK]
variable (hl:∀v,eN v->Y4 k v (J v)) (hw:eN w) (hc:KN b.aC) (hJ:∀v,eN v->(J v).bQ=true->JB (J v)) (hB:(J w).bQ=true)
include hl hw hc hJ hB
theorem a9O{n:Nat}(hp:2<=(J w).Pc/\(J w).Pc<=5)(e:j'=sL j' j'.Code)(x:j'.Code=6\/j'.Code=7)(sm:j'.gL=(J w).gL/\j'.cB=(J w).cB/\j'.aH=(J w).aH/\j'.Batch=(J w).Batch/\j'.At=(J w).At):sK Ky b k c (upQ q w n) (yS J w j'):=by
 have t:=h.tw w hw hB;have hp':j'.Pc=16:=by rw[e];rfl
 have o:=GX (j:=J w) aa;obtain⟨t1,t2,t3,t4,t5,t6,t7,t8,t9,t10,t11,t12,t13,t14,t15,t16,t17,t18,t19⟩:=t;have o':=uD (j:=j') aa;refine h.aSD hl hw hc hJ (q':=upQ q w n) (λv hv=>aP hv) (λ_ _=>rfl) aj aj (.inl aa) (λ_=>?_) (.no aa) (.no aa);obtain⟨s1,s2,s3,s4,s5⟩:=sm;constructor<;>grind
theorem bD6(hp:2<=(J w).Pc/\(J w).Pc<=5):sK Ky b k c (upQ q w (qF Ky.length (q w) (J w))) (yS J w (iQ b k w (J w))):=by
 have t:=h.tw w hw hB;have hj:=hJ w hw hB;have o:=GX (j:=J w) aa;have ha:=t.hc hp;generalize hn:qF Ky.length (q w) (J w)=n;have ab:∀(j':aI),j'.gL=(J w).gL/\j'.cB=(J w).cB/\j'.aH=(J w).aH/\j'.Batch=(J w).Batch/\j'.At=(J w).At->∀x,x=6\/x=7->sK Ky b k c (upQ q w n) (yS J w (sL j' x)):=λj' s x hx=>a9O h hl hw hc hJ hB (j':=sL j' x) hp rfl hx s;have go:∀{j':aI},TW Ky b.Mem k c n j'->j'.Pc<=5->RdJ Ky b J w n j'->sK Ky b k c (upQ q w n) (yS J w j'):=λ{j'} t' p' r'=>by have o':=GX (j:=j') aa;exact h.aSD hl hw hc hJ (q':=upQ q w n) (λv hv=>aP hv) (λ_ _=>rfl) aj aj (.inl aa) (λ_=>by simp_all[upQ]) (by simp_all[upQ]) (.no aa)
 have tw:∀{j':aI},2<=j'.Pc/\j'.Pc<=5->j'.gL=(J w).gL/\j'.cB=(J w).cB/\j'.aH=(J w).aH/\j'.Batch=(J w).Batch/\j'.At=(J w).At/\j'.Code=(J w).Code->TW Ky b.Mem k c n j':=λ{j'} p' ⟨s1,s2,s3,s4,s5,s6⟩=>by obtain⟨t1,t2,t3,t4,t5,t6,t7,t8,t9,t10,t11,t12,t13,t14,t15,t16,t17,t18,t19⟩:=t;unfold uB at ha;constructor<;>grind[uB]
 have hbk:=hj.bkt;unfold iQ;by_cases p2:(J w).Pc=2
 ·rw[aO p2];split
  ·grind
  ·have hch:=h.ch _ hbk;by_cases q:(dX k (J w).bW).Head=0
   ·rw[aO q];exact go (tw ae ⟨rfl,rfl,rfl,rfl,rfl,rfl⟩) ae (.no ae)
   ·rw[aP q];refine go (tw ae ⟨rfl,rfl,rfl,rfl,rfl,rfl⟩) ae λ_ hpin=>?_;obtain⟨k1,k2⟩:=h.key _ hbk;have fr:=λx (hx:x∈c (J w).bW)=>h.free hbk hx (cT b.aC w).aL
    match hl2:c (J w).bW,hch with
    |[],hch=>exact absurd hch q
    |x::r,hch=>
     rw[hl2] at k1 k2 fr;have e:(dX k (J w).bW).Head=x:=hch.1;simp only[e];refine⟨r,⟨⟨hch.rp,k1,λy hy=>(k2 y hy).2,fr⟩,?_⟩,λz=>absurd z ae⟩;have:=yR k1 λy hy=>(k2 y hy).2;unfold mW at this;rw[List.length_map,HA] at this;rw[<-hn];unfold qF;grind
 rw[aP p2];by_cases p3:(J w).Pc=3
 ·rw[aO p3];refine go (tw ae ⟨rfl,rfl,rfl,rfl,rfl,rfl⟩) ae λ_ hpin=>?_;obtain⟨r,⟨a,la⟩,_⟩:=h.rd w hw (.inl p3) hpin;refine⟨r,⟨a,by simp_all[qF]⟩,λ_=>?_⟩;simp only;rw[aSE a.rp.1];exact⟨⟨rfl,rfl⟩,a.rp.2.2.1⟩
 rw[aP p3];by_cases p4:(J w).Pc=4
 ·rw[aO p4];split
  ·grind
  ·rename_i hpn;have hpin:mG b.aC w:=Classical.byContradiction hpn;obtain⟨r,⟨a,la⟩,a5⟩:=h.rd w hw (.inr p4) hpin;obtain⟨_,a6⟩:=a5 p4;by_cases q:(J w).Node.Key=(cG (J w)).Key\/L6 (J w).Node=0
   ·rw[aO q];exact go (tw ae ⟨rfl,rfl,rfl,rfl,rfl,rfl⟩) ae (.no ae)
   ·rw[aP q];refine go (tw ae ⟨rfl,rfl,rfl,rfl,rfl,rfl⟩) ae λ_ _=>?_;have hs:L6 (J w).Node=(J w).Node.Next:=by simp_all[L6]
    rw[hs] at q ⊢;have hm:=a6.resolve_left λz=>q (.inr z);obtain⟨A,r',e1,e2⟩:=a.rp.2.2.2.from hm;have hsub:((J w).Node.Next::r').Sublist ((J w).H::r):=aj
    refine⟨r',⟨⟨e2,a.nd.sublist (hsub.map _),λx hx=>a.ky x ((hsub.map _).subset hx),λx hx=>a.sf x (hsub.subset hx)⟩,?_⟩,λz=>absurd z ae⟩;rw[e1,D8,HA] at la;rw[<-hn];unfold qF;grind
 rw[aP p4];split
 ·grind
 split
 ·grind
 have tr:TW Ky b.Mem k c n {J w with Reads:=(sI (J w).Reads (J w).bW (J w).eO).1}:=tw hp ⟨rfl,rfl,rfl,rfl,rfl,rfl⟩;obtain⟨a1,a2⟩:=aYT tr (hj.spt _ _ hbk) aj ha (J w).Node.dC (J w).Found;exact go a1 (aJJ (Int.le_of_eq a2) aa) (.no ⟨λz=>absurd (a2.symm.trans z) aa,λz=>absurd (a2.symm.trans z) aa⟩)
theorem bD7(h2:k.length=2)(hp:(J w).Pc=7):sK Ky b (oS k w (J w)).1 c q (yS J w (oS k w (J w)).2.1):=by
 have t:=h.tw w hw hB;have hj:=hJ w hw hB;have o:=uD (j:=J w) aa;have hk:=hj.k;have hwk:=hj.wr.2.1;have all:∀x∈(J w).aH,jJ x.Key∈pZ (J w).aH:=λx hx=>bD5 hx (hwk x hx).1;obtain⟨t1,t2,t3,t4,t5,t6,t7,t8,t9,t10,t11,t12,t13,t14,t15,t16,t17,t18,t19⟩:=t;have fin:∀{k':List bW} {j':aI},(∀i,oG i->(dX k' i).Head=(dX k i).Head)->TW Ky b.Mem k' c (q w) j'->j'.gL=(J w).gL->j'.Pc=7\/j'.Pc=8\/j'.Pc=16->sK Ky b k' c q (yS J w j'):=λ{k' j'} e t' en p'=>by have o':=uD (j:=j') aa;exact h.still hl hw hc hJ e aj aj (.inl aa) (λ_=>t') (.no aa) (.no aa)
 unfold oS;by_cases c1:(J w).K<(pZ (J w).aH).length
 ·rw[aO c1];have hi:(J w).K.toNat<(pZ (J w).aH).length:=aa
  have er:fV (J w)=(pZ (J w).aH)[(J w).K.toNat]:=by grind[fV]
  have hbk:0<=fV (J w)/\fV (J w)<=1:=by have:=R6 (dF hi);omega
  split
  ·exact fin (λ_ _=>rfl) (by unfold sL;constructor<;>grind) rfl (.inr (.inr rfl))
  split
  ·exact fin (λ_ _=>rfl) (by unfold sL;constructor<;>grind) rfl (.inr (.inr rfl))
  have hd:∀i,oG i->(dX (k.set (fV (J w)).toNat {dX k (fV (J w)) with eM:=w+1}) i).Head=(dX k i).Head:=λi hi=>by grind[rF]
  have hm:∀x∈(pZ (J w).aH).take ((J w).K+1).toNat,x∈(IC (J w)).bE:=λx hx=>by rw[show((J w).K+1).toNat=(J w).K.toNat+1 by omega,EA hi,cY,iY,<-er] at hx;have a:=t8 hp;unfold IC;grind
  split
  ·rename_i c3;refine fin hd ?_ rfl (.inr (.inl rfl));rw[aF2 aa] at hm;have hh:∀x∈(J w).aH,jJ x.Key∈(IC (J w)).bE:=λx hx=>hm _ (all x hx);unfold IC at hh ⊢;constructor<;>grind
  ·refine fin hd ?_ rfl (.inl hp);unfold IC at hm ⊢;constructor<;>grind
 ·rw[aP c1];refine fin (λ_ _=>rfl) ?_ rfl (.inr (.inl rfl));have a:=t8 hp;rw[aF2 aa] at a;constructor<;>grind
theorem a34(h2:k.length=2)(hp:(J w).Pc=14\/(J w).Pc=16):sK Ky b (AQ k (J w)).1 c q (yS J w (AQ k (J w)).2):=by
 have t:=h.tw w hw hB;have hj:=hJ w hw hB;have hk:=hj.k;have tw:∀{k':List bW} {p:Int} {j':aI},(p=(J w).Pc\/p=17/\(J w).Pc=16\/p=15/\(J w).Pc=14)->j'.Pc=p->j'.gL=(J w).gL/\j'.cB=(J w).cB/\j'.aH=(J w).aH/\j'.Batch=(J w).Batch/\j'.At=(J w).At/\j'.Code=(J w).Code->TW Ky b.Mem k' c (q w) j':=λ{k' p j'} hp' ep ⟨s1,s2,s3,s4,s5,s6⟩=>by
  have q:j'.Pc=14\/j'.Pc=15\/j'.Pc=16\/j'.Pc=17:=aa
  have cd':j'.Code=0/\j'.Pc≠16/\j'.Pc≠17\/(j'.Code=3\/j'.Code=6\/j'.Code=7)/\16<=j'.Pc/\j'.Pc<=19:=by have:=t.cd;omega
  refine⟨aa,λx=>aa,λx=>by rw[s2];exact t.oO aa,λx=>aa,by rw[s3,s5];exact t.wl,λx=>aa,λx=>aa,λx=>aa,λx=>aa,λx=>aa,λx=>aa,λx=>aa,λx=>aa,λx=>aa,cd',λx _=>by rw[s5,s4];exact t.at_ aa aa,λx=>?_,λx=>aa,by rw[s3,s4];exact t.ky⟩;have:=t.cl (by rw[<-s4];exact x);omega
 unfold AQ;by_cases c1:0<(J w).bE.length
 ·rw[aO c1];have er:wS (J w)=(J w).bE[0]:=by unfold wS;simp[G9,jC c1]
  have hbk:=hj.held.1 _ (show wS (J w)∈(J w).bE by rw[er];exact dF c1);refine h.still hl hw hc hJ (λi hi=>?_) rfl (λ_ x=>x) (.inl ?_) (λ_=>tw (.inl rfl) rfl ⟨rfl,rfl,rfl,rfl,rfl,rfl⟩) (.no (by simp only;omega)) (.no (by simp only;omega))
  ·rw[rF h2 hbk hi];split
   ·rename_i e;subst e;split<;>rfl
   ·rfl
  ·simp only;omega
 ·rw[aP c1];split
  ·rename_i e;exact h.still hl hw hc hJ (λ_ _=>rfl) (by grind[uD]) (by simp_all[uD]) (.inl ae) (λ_=>tw (.inr (.inl ⟨rfl,e⟩)) rfl ⟨rfl,rfl,rfl,rfl,rfl,rfl⟩) (.no ae) (.no ae)
  ·rename_i e;have p14:(J w).Pc=14:=aa
   have o14:own (J w)=(J w).cB/\kR (J w)=[]:=by grind[own,kR,aFQ]
   have fin:∀s:Sub,TW Ky b.Mem k c (q w) {J w with Pc:=15,K:=0,Sub:=s}:=λs=>tw (.inr (.inr ⟨rfl,p14⟩)) rfl ⟨rfl,rfl,rfl,rfl,rfl,rfl⟩;unfold J0;by_cases q:(0:Int)<(J w).cB.length
   ·rw[aO q];exact h.still hl hw hc hJ (λ_ _=>rfl) (by grind[own,kR,aFQ]) (by simp[kR]) (.inr (by simp[zQ])) (λ_=>fin _) (.no ae) ⟨λp=>absurd p ae,λ_ _=>⟨J2 _,rfl,rfl,rfl,.inl rfl⟩,λp=>absurd p ae⟩
   ·rw[aP q];exact h.quiet hl hw hc hJ (cl:=b.aC) (λ_ _=>rfl) (by grind[own,kR,aFQ]) (by simp[kR]) (λ_ y=>absurd y q) (λ_ _ _ p=>⟨p,rfl⟩) (J2 _) (λ_=>fin _) (.no ae) ⟨λp=>absurd p ae,λ_ y=>absurd y q,λp=>absurd p ae⟩
theorem Y5{cl:aC}(hp:(J w).Pc<6\/18<=(J w).Pc)(hp':(j'.Pc<6\/18<=j'.Pc)/\j'.Pc≠3/\j'.Pc≠4)(pin:∀v,eN v->v≠w->mG cl v->mG b.aC v/\(cT cl v).aL=(cT b.aC v).aL)(ep:b.aC.aL<=cl.aL)
  (tw':j'.bQ=true->TW Ky b.Mem k c (q w) j') (col:j'.Pc=21->bD3 cl.aL (dK b.aQ w) j'.Sub):sK Ky {b with aC:=cl} k c q (yS J w j'):=by have o:=GX hp;have o':=GX hp'.1;exact h.quiet hl hw hc hJ (λ_ _=>rfl) aj aj (λp=>aa) pin ep tw' (.no aa) ⟨λp=>aa,λp=>aa,col⟩
theorem a9P(hp:(J w).Pc=18):sK Ky {b with aC:=(KR b.aC w).1} k c q (yS J w {J w with Pc:=19}):=by obtain⟨e1,e2⟩:=aVH hc hw;refine Y5 h hl hw hc hJ hB aa ae (λv hv hn p=>aP5 (e2 v hv hn) p) aa (λ_=>?_) ae;obtain⟨t1,t2,t3,t4,t5,t6,t7,t8,t9,t10,t11,t12,t13,t14,t15,t16,t17,t18,t19⟩:=h.tw w hw hB;constructor<;>grind
theorem bD8(hp:(J w).Pc=19):sK Ky b k c q (yS J w cX):=Y5 h hl hw hc hJ hB (cl:=b.aC) aa (by simp[cX]) (λ_ _ _ p=>⟨p,rfl⟩) (J2 _) (λq=>by cases q) (by simp[cX])
theorem a9Q(hp:(J w).Pc=0)(hj:j'={J w with Sub:=(zP b w (J w).Sub).2}\/j'={J w with Pc:=1,Sub:=(zP b w (J w).Sub).2}):sK Ky (zP b w (J w).Sub).1 k c q (yS J w j'):=by obtain⟨cl,e,e1,e2⟩:=aYR hc hw (J w).Sub;rw[e];refine Y5 h hl hw hc hJ hB aa aj (λv hv hn p=>aP5 (e2 v hv hn) p) aa (λ_=>?_) aj;obtain⟨t1,t2,t3,t4,t5,t6,t7,t8,t9,t10,t11,t12,t13,t14,t15,t16,t17,t18,t19⟩:=h.tw w hw hB;rcases hj with rfl|rfl<;>constructor<;>grind
theorem a9R(hp:(J w).Pc=20)(hj:j'={J w with Sub:=(fF b (J w).Sub).2}\/j'={J w with Pc:=21,Sub:=zQ 4 0}):sK Ky (fF b (J w).Sub).1 k c q (yS J w j'):=by obtain⟨cl,e,e1,e2⟩:=aYS hc (J w).Sub;rw[e];refine Y5 h hl hw hc hJ hB aa aj (λv hv hn p=>e2 v hv p) e1 (λ_=>?_) (by grind[bD3,zQ]);obtain⟨t1,t2,t3,t4,t5,t6,t7,t8,t9,t10,t11,t12,t13,t14,t15,t16,t17,t18,t19⟩:=h.tw w hw hB;rcases hj with rfl|rfl<;>constructor<;>grind
omit hB in
theorem aVJ(hn:J w=cX){x:Batch}(hx:∀q∈x.bN,q.Key∈Ky)(s:Int):sK Ky b k c q (yS J w (iU x s)):=by
 have o:own (J w)=[]/\kR (J w)=[]:=GX (by rw[hn];exact .inl ai);have p':(iU x s).Pc=0\/(iU x s).Pc=20:=by grind[iU]
 have o':=GX (j:=iU x s) aa;refine h.still hl hw hc hJ (λ_ _=>rfl) aj aj (.inl aa) (λ_=>?_) (.no aa) (.no aa);unfold iU at p' ⊢;constructor<;>grind
end
theorem Y6{h g:Int}(a:mU m h)(b:mU m g)(e:h % 32=g % 32):h=g:=by have h1:=a.2.2;have h2:=b.2.2;grind
theorem aMM{l:List bU}(hl:zY l)(hw:eN w):∃A B,dW l=A++(dK l w++B)/\∀r,dW (l.set w.toNat ⟨r⟩)=A++(r++B):=by
 have h3:=hl.1;have kx:w.toNat<l.length:=aa
 have hrow:l[w.toNat].Rows=dK l w:=by have:=NU hl hw;grind[gW]
 exact⟨_,_,by grind[JX],λr=>MG kx _⟩
theorem aBR{l:List bU}(h3:l.length=3){v:Int}(hw:eN w)(hv:eN v)(hn:v≠w)(x:bU):dK (l.set w.toNat x) v=dK l v:=by unfold dK;grind
theorem bIQ{b:aA}(h1:eP b.Mem s=3)(h2:¬bE b.aQ s):ind b s=1:=aO ⟨h1,h2⟩
theorem UB{b:aA}(h:eP b.Mem s≠3\/bE b.aQ s):ind b s=0:=aP λq=>h.elim (λa=>a q.1) q.2
theorem aMN{b b':aA}(h1:eP b'.Mem s=3↔eP b.Mem s=3)(h2:bE b'.aQ s↔bE b.aQ s):ind b' s=ind b s:=by grind[ind]
section
variable {Ky:List Int} {b:aA} {k:List bW} {c:Int->List Int} {q:Int->Nat} {J:Int->aI} {w:Int} (h:sK Ky b k c q J) (hl:∀v,eN v->Y4 k v (J v)) (hw:eN w) (hb:m5 b) (hJ:∀v,eN v->(J v).bQ=true->JB (J v)) (hB:(J w).bQ=true)
include h hl hw hb hJ hB
theorem a9S(hp:(J w).Pc=6):sK Ky (vL b w (J w)).1 k c q (yS J w (vL b w (J w)).2):=by
 have t:=h.tw w hw hB;have hj:=hJ w hw hB;have hc:=hb.1.2.1;have o:=uD (j:=J w) aa;obtain⟨s1,s2,s3,s4⟩:=(h.sb w hw).al hp;have hk:=hj.k;have hn6:=t.n6 hp;have pl:=SA (J w).aH (J w).aH.length;have hwl:=hj.wr.1;have tw:∀{j':aI},(j'.Pc=6/\(j'.gL.length:Int)=j'.K/\j'.K<=fQ (J w).aH (J w).aH.length/\j'.Code=(J w).Code\/j'.Pc=7/\j'.K=0/\(j'.gL.length:Int)=fQ (J w).aH (J w).aH.length/\j'.Code=(J w).Code\/j'.Pc=16/\j'.Code=3)->j'.cB=(J w).cB/\j'.aH=(J w).aH/\j'.Batch=(J w).Batch/\j'.At=(J w).At->TW Ky b.Mem k c (q w) j':=λ{j'} q ⟨e2,e3,e4,e5⟩=>by
  have c6:(J w).Code=0:=by have:=t.cd;omega
  refine⟨aa,λx=>aa,λx=>by rw[e2];exact t.oO aa,λx=>aa,by rw[e3,e5];exact t.wl,λx=>aj,λx=>⟨aj,λy=>aa⟩,λx=>?_,λx=>aa,λx=>aa,λx=>aa,λx=>aa,λx=>aa,λx=>aa,aa,λx _=>by rw[e5,e4];exact t.at_ c6 aa,λx=>?_,λx=>aa,by rw[e3,e4];exact t.ky⟩
  ·simp_all
  ·have:=t.cl aj;omega
 unfold vL;by_cases c1:fQ (J w).aH (J w).aH.length<=(J w).K
 ·rw[aO c1];refine h.still hl hw hc hJ (λ_ _=>rfl) ?_ ?_ (.inl ae) (λ_=>tw (.inr (.inl ⟨rfl,rfl,by simp only;omega,rfl⟩)) ⟨rfl,rfl,rfl,rfl⟩) (.no ae) (.no ae)
  ·rw[o.1,(uD ae).1]
  ·rw[o.2,(uD ae).2];exact λ_ x=>x
 rw[aP c1];obtain⟨q1,q2,q3,q4⟩:=aI8 hb.1.1 hw s1 s2 s3 s4;have nF:∀{j':aI},(iJ b w (J w).Sub).1.Mem=b.Mem->j'.gL=(J w).gL->j'.Pc=6\/j'.Pc=16->TW Ky b.Mem k c (q w) j'->SbJ b w j'->sK Ky (iJ b w (J w).Sub).1 k c q (yS J w j'):=λ{j'} em en p' t' s'=>by
  have eb:(iJ b w (J w).Sub).1=b:=by
   cases hh:(iJ b w (J w).Sub).1 with
   |mk a1 a2 a3 a4=>
    simp_all
  rw[eb];have o':=uD (j:=j') aa;exact h.still hl hw hc hJ (λ_ _=>rfl) aj aj (.inl aa) (λ_=>t') (.no aa) s'
 rcases q4 with ⟨em,⟨d,e⟩|⟨e1,e2⟩⟩|⟨d,e,wk,tk,kn⟩
 ·rw[aP aj,aO (.inl aa),e];exact nF em rfl (.inr rfl) (tw (.inr (.inr ⟨rfl,rfl⟩)) ⟨rfl,rfl,rfl,rfl⟩) (.no (by simp[sL]))
 ·rw[aO aj];exact nF em rfl (.inl hp) (tw (.inl ⟨hp,hn6.1,hn6.2,rfl⟩) ⟨rfl,rfl,rfl,rfl⟩) ⟨λ_=>aj,by simp[hp],by simp[hp]⟩
 ·rw[aP aj,aP (by
   rintro(q|q|q)
   ·exact q e
   ·exact q wk.1.1
   ·omega)]
  generalize hx:(iJ b w (J w).Sub).2.Out=x at wk tk;generalize hr:(iJ b w (J w).Sub).1=b' at q1 q2 q3 kn wk tk;show sK Ky b' k c q (yS J w {J w with gL:=(J w).gL++[x],K:=(J w).K+1,Sub:=zQ 1 16});have hx0:=(rE (dQ wk.1.2.1)).1;have t':TW Ky b.Mem k c (q w) {J w with gL:=(J w).gL++[x],K:=(J w).K+1,Sub:=zQ 1 16}:=tw (.inl ⟨hp,ah,aj,rfl⟩) ⟨rfl,rfl,rfl,rfl⟩;have o':=uD (j:={J w with gL:=(J w).gL++[x],K:=(J w).K+1,Sub:=zQ 1 16}) (.inl aj);have oth:Oth b b' k k c c J w {J w with gL:=(J w).gL++[x],K:=(J w).K+1,Sub:=zQ 1 16} 0 (-1):=by
   refine⟨λy hy hz=>?_,.inl rfl,.inl rfl,λ_ _ _=>⟨rfl,rfl⟩,.inl rfl,λr hr=>.inl aj,λy hy=>?_,λz=>absurd z (by simp[hp]),λv hv hn p=>aj,aj,λ_ _ _=>by rw[q2]⟩
   ·obtain⟨a1,a2⟩:=kn y hy hz;exact⟨a1,λ_=>a2⟩
   ·rw[o'.2] at hy;rcases cY.1 hy with hy|hy
    ·grind
    ·exact .inr (by rw[iY.1 hy];exact tk.was)
  have chs:=λi (hi:oG i)=>(oth.chn h hw hi (λq=>((h.ch i hi).all 0 q).1.ne rfl)).2 rfl rfl;refine h.make hl hw hc hJ oth q3 (λi hi=>(chs i hi).1) (λi hi=>by rw[(chs i hi).2];exact h.key i hi) (λs=>?_) (λy hy=>?_) (λ_=>?_) (.no (by simp[hp])) ⟨λ_=>by simp[zQ],by simp[hp],by simp[hp]⟩
  ·have u:=YG (J:=J) hw {J w with gL:=(J w).gL++[x],K:=(J w).K+1,Sub:=zQ 1 16} s;rw[o.1,o'.1,UA,PK,a9J] at u;have u2:=h.cnt s;by_cases q:x % 32=s
   ·rw[aO q] at u;have a1:ind b s=0:=UB (.inl (by rw[<-q];exact tk.was));have a2:ind b' s=1:=bIQ (by rw[<-q];exact tk.now) (by
     rw[q2,<-q];rintro⟨r,hr,hh,er⟩;exact tk.was (by rw[<-er];exact(hb.2 r hr).1.2.1))
    omega
   ·rw[aP q] at u;have a1:ind b' s=ind b s:=aMN (tk.rest s λe=>q e.symm) (by rw[q2]);omega
  ·rw[o'.1] at hy;rcases cY.1 hy with hy|hy
   ·have hm:y∈own (J w):=aj
    have w0:=h.ok w hw y hm;exact(kn y w0 aa).1
   grind
  ·exact{t' with st:=λq=>absurd q (by simp[hp]),cu:=λq=>absurd q (by simp[hp]),fl:=λq=>absurd q (by simp[hp]),ln:=λq=>absurd q (by simp[hp])}
end
theorem bF0{z:List Int}(h:z=[0,0,0]){v:Int}(hv:eN v):a05 z v=0:=by subst h;rcases(by omega:v=0\/v=1\/v=2) with rfl|rfl|rfl<;>rfl
section
variable {Ky:List Int} {b:aA} {k:List bW} {c:Int->List Int} {q:Int->Nat} {J:Int->aI} {w:Int} (h:sK Ky b k c q J) (hl:∀v,eN v->Y4 k v (J v)) (hw:eN w) (hb:m5 b) (hJ:∀v,eN v->(J v).bQ=true->JB (J v)) (hB:(J w).bQ=true)
include h hl hw hb hJ hB
theorem a35(hp:(J w).Pc=15):sK Ky (DJ b w (J w)).1 k c q (yS J w (DJ b w (J w)).2):=by
 have t:=h.tw w hw hB;have hj:=hJ w hw hB;have hc:=hb.1.2.1;have hk:=hj.k;have o1:∀{j':aI},j'.Pc=15->own j'=j'.cB.drop j'.K.toNat/\kR j'=[]:=λ{j'} q=>by simp[own,kR,aFQ,q]
 have tw:∀{j':aI},j'.Pc=15\/j'.Pc=18->j'.aH=(J w).aH/\j'.Batch=(J w).Batch/\j'.At=(J w).At/\j'.Code=(J w).Code->TW Ky b.Mem k c (q w) j':=λ{j'} q ⟨e3,e4,e5,e6⟩=>by have cd:=t.cd;refine⟨aa,λx=>aa,λx=>aa,λx=>aa,by rw[e3,e5];exact t.wl,λx=>aa,λx=>aa,λx=>aa,λx=>aa,λx=>aa,λx=>aa,λx=>aa,λx=>aa,λx=>aa,aa,λx _=>by rw[e5,e4];exact t.at_ aa aa,λx=>?_,λx=>aa,by rw[e3,e4];exact t.ky⟩;have:=t.cl aj;omega
 unfold DJ;by_cases c1:((J w).cB.length:Int)<=(J w).K
 ·rw[aO c1];have o2:own {J w with Pc:=18}=[]/\kR {J w with Pc:=18}=[]:=GX (.inr ae);exact h.still hl hw hc hJ (λ_ _=>rfl) (by simp_all) aj (.inl ae) (λ_=>tw (.inr rfl) ⟨rfl,rfl,rfl,rfl⟩) (.no ae) (.no ae)
 rw[aP c1];obtain⟨s0,s1,s2,s3,s4⟩:=(h.sb w hw).rt hp aa;have es:iJ b w (J w).Sub=uA b w (J w).Sub:=by grind[iJ]
 rw[es];have hi:(J w).K.toNat<(J w).cB.length:=aa
 have eA:(J w).Sub.A=(J w).cB[(J w).K.toNat]:=aj
 have eo:own (J w)=(J w).Sub.A::(J w).cB.drop ((J w).K.toNat+1):=by simp_all
 have hm:(J w).Sub.A∈own (J w):=aj
 have hn:=h.name hw hw hm;have hA:=h.ok w hw _ hm;have hi1:ind b ((J w).Sub.A % 32)=1:=aa
 have hH:¬bE b.aQ ((J w).Sub.A % 32):=λq=>by grind[UB]
 unfold uA;rcases s4 with p0|⟨p1,e0,e1⟩
 ·rw[aO p0,aP (by simp[s2])];refine h.quiet hl hw hc hJ (cl:=b.aC) (λ_ _=>rfl) rfl (λ_ x=>x) (λ_ _ _=>.inl rfl) (λ_ _ _ p=>⟨p,rfl⟩) (J2 _) (λ_=>tw (.inl hp) ⟨rfl,rfl,rfl,rfl⟩) (.no (by simp[hp])) ⟨λp=>absurd p (by simp[hp]),λ_ _=>⟨s0,s1,s2,s3,.inr ⟨rfl,hc.1.1,J2 _⟩⟩,λp=>absurd p (by simp[hp])⟩
 ·rw[iE,aO p1,aO ⟨e0,e1⟩,aO ⟨hA.1,hH⟩,aO ak];have hL:=hb.1.2.2.1;obtain⟨A,B,f1,f2⟩:=aMM hL hw;have hf:∀r,r∈dW (b.aQ.set w.toNat ⟨dK b.aQ w++[⟨(J w).Sub.A,(J w).Sub.E⟩]⟩)↔r∈dW b.aQ\/r=⟨(J w).Sub.A,(J w).Sub.E⟩:=λr=>aj
  have fin:∀{j':aI},j'.Pc=15->j'.K=(J w).K+1->j'.cB=(J w).cB->j'.aH=(J w).aH/\j'.Batch=(J w).Batch/\j'.At=(J w).At/\j'.Code=(J w).Code->(j'.K<j'.cB.length->j'.Sub.Pc=0)->SbJ {b with aQ:=b.aQ.set w.toNat ⟨dK b.aQ w++[⟨(J w).Sub.A,(J w).Sub.E⟩]⟩} w j' ->
    sK Ky {b with aQ:=b.aQ.set w.toNat ⟨dK b.aQ w++[⟨(J w).Sub.A,(J w).Sub.E⟩]⟩} k c q (yS J w j'):=λ{j'} q1 q2 q3 q4 q5 q6=>by
   have o':=o1 q1;have eo':own j'=(J w).cB.drop ((J w).K.toNat+1):=by(simp_all;omega)
   refine h.make hl hw hc hJ (y:=0) (z:=-1) ⟨λx hx _=>⟨hx,λ_=>rfl⟩,.inl rfl,.inl rfl,λi hi _=>⟨rfl,rfl⟩,.inl rfl,λr hr=>?_,aj,λ_ x z=>aa,λ_ _ _ p=>⟨p,rfl⟩,J2 _,λv hv hn=>aBR hL.1 hw hv hn _⟩ rfl h.ch h.key (λs=>?_) (λx hx=>h.ok w hw x aj) (λ_=>tw (.inl q1) q4) (.no aa) q6
   ·grind
   ·have u:=YG (J:=J) hw j' s;rw[eo,eo',PK] at u;have u2:=h.cnt s;by_cases q:(J w).Sub.A % 32=s
    ·rw[aO q] at u;have a2:ind {b with aQ:=b.aQ.set w.toNat ⟨dK b.aQ w++[⟨(J w).Sub.A,(J w).Sub.E⟩]⟩} s=0:=UB (.inr ⟨⟨(J w).Sub.A,(J w).Sub.E⟩,(hf _).2 (.inr rfl),hA.1.1,q⟩);grind
    ·rw[aP q] at u;have a2:ind {b with aQ:=b.aQ.set w.toNat ⟨dK b.aQ w++[⟨(J w).Sub.A,(J w).Sub.E⟩]⟩} s=ind b s:=aMN Iff.rfl ⟨λ⟨r,hr,x1,x2⟩=>by
      rcases(hf r).1 hr with a|rfl
      ·exact⟨r,a,x1,x2⟩
      grind,λ⟨r,hr,x⟩=>⟨r,(hf r).2 (.inl hr),x⟩⟩
     omega
  unfold J0;by_cases q:(J w).K+1<(J w).cB.length
  ·rw[aO q];exact fin hp rfl rfl ⟨rfl,rfl,rfl,rfl⟩ (λ_=>rfl) ⟨λp=>absurd p (by simp[hp]),λ_ _=>⟨aj,rfl,rfl,rfl,.inl rfl⟩,λp=>absurd p (by simp[hp])⟩
  ·rw[aP q];exact fin hp rfl rfl ⟨rfl,rfl,rfl,rfl⟩ (λx=>absurd x q) ⟨λp=>absurd p (by simp[hp]),λ_ x=>absurd x q,λp=>absurd p (by simp[hp])⟩
theorem bD9(hp:(J w).Pc=17):sK Ky (DK b w (J w)).1 k c q (yS J w (DK b w (J w)).2):=by
 have t:=h.tw w hw hB;have hj:=hJ w hw hB;have hc:=hb.1.2.1;have o:=uD (j:=J w) (.inr (.inr hp));have tw:∀{m':Mem} {j':aI},j'.Pc=17\/j'.Pc=18->j'.cB=(J w).cB/\j'.aH=(J w).aH/\j'.Batch=(J w).Batch/\j'.At=(J w).At/\j'.Code=(J w).Code->TW Ky m' k c (q w) j':=λ{m' j'} q ⟨e2,e3,e4,e5,e6⟩=>by have cd:=t.cd;refine⟨aa,λx=>aa,λx=>by rw[e2];exact t.oO aa,λx=>aa,by rw[e3,e5];exact t.wl,λx=>aa,λx=>aa,λx=>aa,λx=>aa,λx=>aa,λx=>aa,λx=>aa,λx=>aa,λx=>aa,aa,λx _=>aa,λx=>?_,λx=>aa,by rw[e3,e4];exact t.ky⟩;have:=t.cl aj;omega
 unfold DK;by_cases c1:(J w).gL.length=0
 ·rw[aO c1];have e0:=uJ c1;have o2:own {J w with Pc:=18}=[]/\kR {J w with Pc:=18}=[]:=GX (.inr ae);exact h.still hl hw hc hJ (λ_ _=>rfl) aj aj (.inl ae) (λ_=>tw (.inr rfl) ⟨rfl,rfl,rfl,rfl,rfl⟩) (.no ae) (.no ae)
 rw[aP c1]
 match hN:(J w).gL,c1 with
 |x::r,_=>
 have hm:x∈own (J w):=aj
 have hA:=h.ok w hw x hm;have hn:=h.name hw hw hm;have hi1:ind b (x % 32)=1:=aa
 have hH:¬bE b.aQ (x % 32):=λq=>by grind[UB]
 show sK Ky (if bE b.aQ (x % 32) then b else {b with Mem:=aUZ b.Mem w x}) k c q (yS J w {J w with gL:=r});rw[aP hH];unfold aUZ;rw[aO hA.1];have kn:=aI7 hb.1.1 hw hA.1;have o':own {J w with gL:=r}=r/\kR {J w with gL:=r}=r:=uD (j:={J w with gL:=r}) (.inr (.inr hp));have oth:Oth b {b with Mem:=qC b.Mem w x} k k c c J w {J w with gL:=r} 0 (x % 32):=⟨λy hy hz=>⟨(kn y hy hz).1,λ_=>(kn y hy hz).2⟩,.inr (.inr ⟨x,hm,rfl⟩),.inl rfl,λ_ _ _=>⟨rfl,rfl⟩,.inr λv hv hn hp' hpin y hy hs e=>by
   have:=Y6 hy.1 hA.1 e;subst this;exact(hs.2 w hw).1 aj,λr hr=>.inl hr,λy hy=>.inl aj,λz=>absurd z (by simp[hp]),λ_ _ _ p=>⟨p,rfl⟩,J2 _,λ_ _ _=>rfl⟩
 have chs:=λi (hi:oG i)=>(oth.chn h hw hi (λq=>((h.ch i hi).all 0 q).1.ne rfl)).2 rfl rfl;have fst:∀s,s≠x % 32->eP (qC b.Mem w x) s=eP b.Mem s:=λs hs=>aMG hb.1.1 hw hA.1 hs;have fz:=(aBQ hb.1.1 hw hA.1).2.2.2;refine h.make hl hw hc hJ oth rfl (λi hi=>(chs i hi).1) (λi hi=>by rw[(chs i hi).2];exact h.key i hi) (λs=>?_) (λy hy=>?_) (λ_=>tw (.inl hp) ⟨rfl,rfl,rfl,rfl,rfl⟩) (.no (by simp[hp])) (.no (by simp[hp]))
 ·have u:=YG (J:=J) hw {J w with gL:=r} s;rw[o.1,o'.1,hN,PK] at u;have u2:=h.cnt s;by_cases q:x % 32=s
  ·rw[aO q] at u;grind[UB]
  ·rw[aP q] at u;have a2:ind {b with Mem:=qC b.Mem w x} s=ind b s:=aMN aj Iff.rfl;omega
 ·rw[o'.1] at hy;have hm':y∈own (J w):=aj
  refine(kn y (h.ok w hw y hm') λe=>?_).1;have u:=hn.1;have:2<=ZO (own (J w)) (x % 32):=by rw[o.1,hN,PK,aO rfl];grind[QO]
  omega
theorem aMO(hE:∀v,eN v->(J v).Pc=3\/(J v).Pc=4->mG b.aC v->b.aC.aL<=(cT b.aC v).aL+1)(hp:(J w).Pc=21)(hj':(cQ b w (J w).Sub).2.gX=true/\j'={J w with Pc:=19,Sub:=(cQ b w (J w).Sub).2}\/(cQ b w (J w).Sub).2.gX=false/\j'={J w with Sub:=(cQ b w (J w).Sub).2}) :
  sK Ky (cQ b w (J w).Sub).1 k c q (yS J w j')/\((cQ b w (J w).Sub).2.gX=true->(cQ b w (J w).Sub).2.Code=0):=by
 have t:=h.tw w hw hB;have hc:=hb.1.2.1;have hL:=hb.1.2.2.1;obtain⟨s1,s2,s3⟩:=(h.sb w hw).col hp;have p':j'.Pc=19\/j'.Pc=21:=aj
 have tw:∀{m':Mem},TW Ky m' k c (q w) j':=λ{m'}=>by
  obtain⟨e1,e2,e3,e4,e5,e6⟩:j'.gL=(J w).gL/\j'.cB=(J w).cB/\j'.aH=(J w).aH/\j'.Batch=(J w).Batch/\j'.At=(J w).At/\j'.Code=(J w).Code:=aj
  have cd:=t.cd;have at0:=t.at_;have hcol:=t.cl2 (.inr hp);have hbat:=(hJ w hw hB).VZ;have hat:=(hJ w hw hB).at_;have hcm:=hbat.1 hcol;rw[hcm] at hat;simp only[List.length_nil] at hat;refine⟨aa,λx=>by rw[e1];exact t.nO aa,λx=>by rw[e2];exact t.oO aa,λx=>aa,by rw[e3,e5];exact t.wl,λx=>aa,λx=>aa,λx=>aa,λx=>aa,λx=>aa,λx=>aa,λx=>aa,λx=>aa,λx=>aa,aa,λx _=>aj,λx=>aa,λx=>aj,by rw[e3,e4];exact t.ky⟩
 have o:=GX (j:=J w) (.inr aa);have o':=GX (j:=j') (.inr aa);have still:(cQ b w (J w).Sub).1=b->(j'.Pc=21->bD3 b.aC.aL (dK b.aQ w) j'.Sub)->sK Ky (cQ b w (J w).Sub).1 k c q (yS J w j'):=λe q=>by rw[e];exact h.still hl hw hc hJ (λ_ _=>rfl) aj aj (.inl aa) (λ_=>tw) (.no aa) ⟨λp=>aa,λp=>aa,q⟩
 have sub':j'.Sub=(cQ b w (J w).Sub).2:=aj
 have nd:j'.Pc=21->(cQ b w (J w).Sub).2.gX=false:=λq=>aj
 have hrow:∀{i:Int},0<=i/\i<(dK b.aQ w).length->L4 (dK b.aQ w) i∈dW b.aQ:=λhi=>PI hL hw (aDY hi);rcases s3 with p0|⟨el,⟨p1,r0⟩|⟨p2,hB2,ha,hr⟩|⟨p3,ha,hr⟩⟩
 ·have e:cQ b w (J w).Sub=(b,{(J w).Sub with Pc:=1,E:=b.aC.aL,Row:=0}):=by simp_all[cQ]
  refine⟨still (by rw[e]) λq=>?_,λq=>aj⟩;rw[sub',e];exact⟨s1,s2,.inr ⟨J2 _,.inl ⟨rfl,J2 _⟩⟩⟩
 ·by_cases q:sJ (dK b.aQ w) (J w).Sub.E (J w).Sub.Row.toNat<(dK b.aQ w).length
  ·have e:cQ b w (J w).Sub=(b,{(J w).Sub with Pc:=2,Row:=(sJ (dK b.aQ w) (J w).Sub.E (J w).Sub.Row.toNat:Int),B:=0,H:=(L4 (dK b.aQ w) (sJ (dK b.aQ w) (J w).Sub.E (J w).Sub.Row.toNat:Int)).Handle}):=by simp_all[cQ]
   obtain⟨g1,g2⟩:=aYA q;refine⟨still (by rw[e]) λ_=>?_,λz=>aj⟩;rw[sub',e];refine⟨s1,s2,.inr ⟨el,.inr (.inl ⟨rfl,⟨J2 _,ae⟩,⟨ae,aj,rfl⟩,?_⟩)⟩⟩;grind[aVB]
  simp_all[cQ,yO,aP]
 ·have hH:(J w).Sub.H≠0:=by have:=(hb.2 _ (hrow ⟨ha.1,ha.2.1⟩)).1.1;rw[ha.2.2] at this;grind[lN]
  have e:cQ b w (J w).Sub=(b,{(J w).Sub with Pc:=if(J w).Sub.B=2 then 3 else 2,B:=(J w).Sub.B+1}):=by unfold cQ;rw[iE,iE,aO p2,aO ⟨hB2,ha⟩,aP (by rw[bF0 h.hz hB2];omega)]
  refine⟨still (by rw[e]) λ_=>?_,λz=>aj⟩;rw[sub',e];refine⟨s1,s2,.inr ⟨el,.inr ?_⟩⟩;by_cases z:(J w).Sub.B=2
  ·exact .inr ⟨aO z,ha,hr⟩
  ·exact .inl ⟨aP z,aj,ha,hr⟩
 ·have e:cQ b w (J w).Sub=({b with Mem:=qC b.Mem w (J w).Sub.H,aQ:=b.aQ.set w.toNat ⟨(dK b.aQ w).eraseIdx (J w).Sub.Row.toNat⟩},{(J w).Sub with Pc:=1,Out:=aY ((J w).Sub.Out+1)}):=by simp_all[cQ]
  refine⟨?_,λz=>aj⟩;have hi:0<=(J w).Sub.Row/\(J w).Sub.Row<(dK b.aQ w).length:=⟨ha.1,ha.2.1⟩;have hrm:=hrow hi;generalize hrr:L4 (dK b.aQ w) (J w).Sub.Row=r at hrm hr;have eH:r.Handle=(J w).Sub.H:=by rw[<-hrr];exact ha.2.2
  have hv:=(hb.2 r hrm).1;rw[<-eH] at e;have hHd:bE b.aQ (r.Handle % 32):=⟨r,hrm,hv.1,rfl⟩;have hil:(J w).Sub.Row.toNat<(dK b.aQ w).length:=aa
  have er:(dK b.aQ w)[(J w).Sub.Row.toNat]=r:=by grind[aVB]
  obtain⟨A,B,f1,f2⟩:=aMM hL hw;have hperm:=aLX hil;rw[er] at hperm;have hpf:(dW b.aQ).Perm (r::dW (b.aQ.set w.toNat ⟨(dK b.aQ w).eraseIdx (J w).Sub.Row.toNat⟩)):=aj
  have hnd:=(hpf.map HK).nodup_iff.1 hL.2.2.2;rw[AT,ZU] at hnd;have hheld:∀s,s≠r.Handle % 32->(bE (b.aQ.set w.toNat ⟨(dK b.aQ w).eraseIdx (J w).Sub.Row.toNat⟩) s↔bE b.aQ s):=λs hs=>⟨λ⟨x,hx,y⟩=>⟨x,hpf.mem_iff.2 (lH _ hx),y⟩,λ⟨x,hx,y⟩=>⟨x,(iX.1 (hpf.mem_iff.1 hx)).resolve_left λq=>hs aj,y⟩⟩;have kn:=aI7 hb.1.1 hw hv;have fst:∀s,s≠r.Handle % 32->eP (qC b.Mem w r.Handle) s=eP b.Mem s:=λs hs=>aMG hb.1.1 hw hv hs;have fz:=(aBQ hb.1.1 hw hv).2.2.2;have hrip:r.aL<=(J w).Sub.E-2:=by have:=hr.2;rw[cW (by have:=hr.1;omega) (by have:=hc.1.2;omega)] at this;exact this
  rw[e];show sK Ky {b with Mem:=qC b.Mem w r.Handle,aQ:=b.aQ.set w.toNat ⟨(dK b.aQ w).eraseIdx (J w).Sub.Row.toNat⟩} k c q (yS J w j');generalize hb':({b with Mem:=qC b.Mem w r.Handle,aQ:=b.aQ.set w.toNat ⟨(dK b.aQ w).eraseIdx (J w).Sub.Row.toNat⟩}:aA)=b';have m1:b'.Mem=qC b.Mem w r.Handle:=by rw[<-hb']
  have m2:b'.aQ=b.aQ.set w.toNat ⟨(dK b.aQ w).eraseIdx (J w).Sub.Row.toNat⟩:=by rw[<-hb']
  have m3:b'.aC=b.aC:=by rw[<-hb']
  have m4:b'.qT=b.qT:=by rw[<-hb']
  have oth:Oth b b' k k c c J w j' 0 (r.Handle % 32):=⟨λy hy hz=>by rw[m1];exact⟨(kn y hy hz).1,λ_=>(kn y hy hz).2⟩,.inr (.inl (UB (.inr hHd))),.inl rfl,λ_ _ _=>⟨rfl,rfl⟩,.inr λv hv' hn hp' hpin y hy hs ez=>by
    have:=Y6 hy.1 hv ez;have:=hs.1 r hrm this.symm;have:=hE v hv' hp' hpin;omega,λx hx=>.inl (by rw[m2] at hx;exact hpf.mem_iff.2 (lH _ hx)),by rw[o'.2];simp,λz=>aa,λ_ _ _ p=>by rw[m3] at p ⊢;exact⟨p,rfl⟩,by rw[m3];exact J2 _,λv hv' hn=>by rw[m2];exact aBR hL.1 hw hv' hn _⟩
  have chs:=λi (hi:oG i)=>(oth.chn h hw hi (λq=>((h.ch i hi).all 0 q).1.ne rfl)).2 rfl rfl;refine h.make hl hw hc hJ oth m4 (λi hi=>(chs i hi).1) (λi hi=>by rw[(chs i hi).2];exact h.key i hi) (λs=>?_) (λy hy=>by rw[o'.1] at hy;cases hy) (λ_=>tw) (.no aa) ⟨λp=>aa,λp=>aa,λq=>?_⟩
  ·have u:=YG (J:=J) hw j' s;rw[o.1,o'.1] at u;have u2:=h.cnt s;by_cases q:s=r.Handle % 32
   ·have a1:ind b s=0:=UB (.inr (q ▸ hHd));have a2:ind b' s=0:=UB (.inl (by rw[m1,q];exact fz));omega
   ·have a2:ind b' s=ind b s:=aMN (by rw[m1,fst s q]) (by rw[m2];exact hheld s q);omega
  ·rw[sub',e,m3];exact⟨s1,s2,.inr ⟨el,.inl ⟨rfl,ha.1⟩⟩⟩
end
theorem bEA{l:List aU}(hK:0<=K)(h:K<l.length):fQ l (K+1)=fQ l K+if(l.getD K.toNat ⟨0,false,0⟩).G6 then 0 else 1:=by
 have hi:K.toNat<l.length:=aa
 unfold fQ;rw[show(K+1).toNat=K.toNat+1 by omega,EA hi,List.filter_append,D8,G9,jC hi,aF3];grind
theorem a9T{l:List aU}(h:l.length<=K):fQ l K=fQ l l.length:=by grind[fQ]
theorem aMP{n:gR}(h:aBN n):L6 n=n.Next:=by
 unfold L6;rcases h.2.2 with e|e
 ·rw[e];split<;>rfl
 ·rw[aO e]
theorem aD3(h:9<=j.Pc/\j.Pc<=13):own j=j.gL.drop (fQ j.aH j.K).toNat++j.cB/\kR j=j.gL.drop (fQ j.aH j.K).toNat:=by grind[own,kR,aFQ]
theorem ChT.last:∀{h:Int} {B:List Int} {x:Int},ChT m x (A++h::B)->(∀a,A.getLast?=some a->(cH m a).Next=h)/\(A=[]->x=h):=by
 induction A with
 |nil=>exact λh=>⟨λa e=>by simp at e,λ_=>h.1⟩
 |cons a A ih=>
  intro h B x hc;refine⟨λz e=>?_,λe=>by cases e⟩;obtain⟨i1,i2⟩:=ih hc.2.2.2;grind
theorem ChT.cut{p:Int}(hp:cH m' p={cH m p with Next:=(cH m (cH m p).Next).Next})(ok:kJ m' p):∀{A:List Int} {h:Int} {B:List Int} {x:Int},ChT m x (A++p::h::B)->(∀y∈A++B,kJ m' y/\cH m' y=cH m y)->ChT m' x (A++p::B)
 |[],h,B,x,hc,hk=>by
  obtain⟨e1,a1,a2,e2,b1,b2,b3⟩:=hc;refine⟨e1,ok,?_,?_⟩
  ·rw[hp];exact⟨a2.1,a2.2.1,by rw[e2];exact b2.2.2⟩
  ·rw[hp,e2];exact b3.keep λy hy=>hk y (by simp[hy])
 |a::A,h,B,x,hc,hk=>by obtain⟨a1,a2⟩:=hk a ae;exact⟨hc.1,a1,by rw[a2];exact hc.2.2.1,by rw[a2];exact hc.2.2.2.cut hp ok λy hy=>hk y aj⟩
def lkp(m:Mem)(l:List Int)(k:Int):Option Int:=(l.find? λx=>(cH m x).Key == k).map λx=>(cH m x).dC
def wv(x:aU):Option Int:=if x.G6 then none else some x.dC
structure ChW (m m':Mem) (c c':Int->List Int) (j j':aI):Prop where
 keep:∀i,oG i->(j.Pc=11\/j.Pc=13->i≠bi j)->c' i=c i/\∀x∈c i,cH m' x=cH m x
 oth:9<=j.Pc/\j.Pc<=13->∀k,k≠(mV j).Key->lkp m' (c' (bi j)) k=lkp m (c (bi j)) k
 key:9<=j.Pc/\j.Pc<=13->j'.K=j.K+1->lkp m' (c' (bi j)) (mV j).Key=wv (mV j)
theorem ChW.same{c:Int->List Int}(h:9<=j.Pc/\j.Pc<=13->j'.K=j.K+1->lkp m (c (bi j)) (mV j).Key=wv (mV j)):ChW m m c c j j':=⟨λ_ _ _=>⟨rfl,λ_ _=>rfl⟩,λ_ _ _=>rfl,h⟩
theorem aMQ{l:List Int}{k:Int}(h:∀a∈l,(cH m a).Key≠k):lkp m l k=none:=by grind[lkp]
theorem aSF{B:List Int}{p k:Int}(h:(cH m p).Key≠k):lkp m (A++p::B) k=lkp m (A++B) k:=by grind[lkp]
theorem YI{l:List Int}(h:∀a∈l,(cH m' a).Key=(cH m a).Key/\(cH m' a).dC=(cH m a).dC)(k:Int):lkp m' l k=lkp m l k:=by
 induction l with
 |nil=>rfl
 |cons a l ih=>
  grind[lkp]
theorem aI9{x:aU}(h:(L7 j x).K=j.K+1):x.G6=true:=by grind[L7]
section
variable {Ky:List Int} {b:aA} {k:List bW} {c:Int->List Int} {q:Int->Nat} {J:Int->aI} {w:Int} (h:sK Ky b k c q J) (hl:∀v,eN v->Y4 k v (J v)) (hw:eN w) (hb:m5 b) (hJ:∀v,eN v->(J v).bQ=true->JB (J v)) (hB:(J w).bQ=true)
include h hl hw hb hJ hB
set_option maxHeartbeats 1000000 in
theorem a9U(hk2:k.length=2/\∀x∈k,BkV x)(hp:9<=(J w).Pc/\(J w).Pc<=13):∃c',sK Ky (lY b k (J w)).1 (lY b k (J w)).2.1 c' (upQ q w (qF Ky.length (q w) (J w))) (yS J w (lY b k (J w)).2.2)/\ChW b.Mem (lY b k (J w)).1.Mem c c' (J w) (lY b k (J w)).2.2:=by
 have t:=h.tw w hw hB;have hj:=hJ w hw hB;have hc:=hb.1.2.1;have hk:=hj.k;have o:=aD3 hp;have hn7:=t.n7 aa;generalize hn:qF Ky.length (q w) (J w)=n;have eqw:upQ q w n w=n:=aO rfl;have hqv:∀v,v≠w->upQ q w n v=q v:=λv hv=>aP hv;generalize upQ q w n=qn at eqw hqv ⊢;subst eqw;have hcd:(J w).Code=0:=by have:=t.cd;omega
 have tw:∀{m':Mem} {k':List bW} {c':Int->List Int} {j':aI},9<=j'.Pc/\j'.Pc<=14->j'.gL=(J w).gL/\j'.aH=(J w).aH/\j'.Batch=(J w).Batch/\j'.At=(J w).At/\j'.Code=(J w).Code/\j'.bE=(J w).bE->(j'.Pc<=13->(j'.cB.length:Int)<=if j'.Pc<=11 then j'.K else j'.K+1)->(10<=j'.Pc/\j'.Pc<=13->j'.K<j'.aH.length) ->
   (j'.Pc=10\/j'.Pc=11->∃A B,c' (bi j')=A++j'.H::B/\(j'.gT=A.getLastD 0/\∀a∈A,(cH m' a).Key≠(mV j').Key)/\(j'.Pc=10->B.length<=qn w))->(j'.Pc=11->j'.Node=cH m' j'.H/\j'.Node.Key=(mV j').Key)->(j'.Pc=12\/j'.Pc=13->(mV j').G6=false/\∀a∈c' (bi j'),(cH m' a).Key≠(mV j').Key)->(j'.Pc=13->cH m' (GW j')=⟨(mV j').Key,(mV j').dC,(dX k' (bi j')).Head⟩)->TW Ky m' k' c' (qn w) j':=
  λ{m' k' c' j'} q ⟨e1,e3,e4,e5,e6,e7⟩ q1 q2 q3 q4 q5 q6=>by
  refine⟨aa,λx=>aa,λx=>aa,λx=>aa,by rw[e3,e5];exact t.wl,λx=>aa,λx=>⟨aj,λ_=>q1 x.2⟩,λx=>aa,λx=>by rw[e3,e7];exact t.l8 aa,q2,q3,q4,q5,q6,aa,λx _=>by rw[e5,e4];exact t.at_ hcd aa,λx=>?_,λx=>aa,by rw[e3,e4];exact t.ky⟩;have:=t.cl aj;omega
 have still:∀{j':aI},own j'=own (J w)->kR j'=kR (J w)\/kR j'=[]->9<=j'.Pc/\j'.Pc<=14->TW Ky b.Mem k c (qn w) j'->sK Ky b k c qn (yS J w j'):=λ{j'} e1 e2 q t'=>
  h.aSD hl hw hc hJ hqv (λ_ _=>rfl) e1 aj (.inl aa) (λ_=>t') (.no aa) (.no aa)
 unfold lY;by_cases c1:((J w).aH.length:Int)<=(J w).K
 ·rw[aO c1];have hd:(J w).gL.drop (fQ (J w).aH (J w).K).toNat=[]:=aBY (by grind[a9T]);have o':own {J w with Pc:=14}=(J w).cB/\kR {J w with Pc:=14}=[]:=by simp[own,kR,aFQ]
  exact⟨c,still aj (.inr o'.2) ae (tw ae ⟨rfl,rfl,rfl,rfl,rfl,rfl⟩ ae ae ae ae ae ae),.same λ_ z=>aj⟩
 rw[aP c1];have hi:(J w).K.toNat<(J w).aH.length:=aa
 have er:mV (J w)=(J w).aH[(J w).K.toNat]:=by grind[mV]
 have hxm:mV (J w)∈(J w).aH:=aj
 have hx:=hj.wr.2.1 _ hxm;have hbk:oG (jJ (mV (J w)).Key):=by grind[jJ]
 have hheld:=t.l8 aa _ hxm;have hlk:(dX k (jJ (mV (J w)).Key)).eM=w+1:=((hl w hw).iff _ hbk).1 hheld;have hch:=h.ch _ hbk;have hkey:=h.key _ hbk;have hol:=hn7.2 aa;have hpl:fQ (J w).aH ((J w).K+1)=fQ (J w).aH (J w).K+if(mV (J w)).G6 then 0 else 1:=bEA hk.1 aa;have p0:0<=fQ (J w).aH (J w).K:=by grind[fQ]
 generalize hi':jJ (mV (J w)).Key=i at hbk hheld hlk hch hkey;have ebi:bi (J w)=i:=hi';have place:∀{b':aA} {k':List bW} {c':Int->List Int} {j1:aI},j1.gL=(J w).gL/\j1.aH=(J w).aH/\j1.Batch=(J w).Batch/\j1.At=(J w).At/\j1.Code=(J w).Code/\j1.bE=(J w).bE/\j1.K=(J w).K->(j1.cB.length:Int)<=(J w).K+1->(∀a∈c' i,(cH b'.Mem a).Key≠(mV (J w)).Key)->TW Ky b'.Mem k' c' (qn w) (L7 j1 (mV (J w)))/\kR (L7 j1 (mV (J w)))=kR (J w)/\own (L7 j1 (mV (J w)))=kR (J w)++j1.cB/\(9<=(L7 j1 (mV (J w))).Pc/\(L7 j1 (mV (J w))).Pc<=14):=
  λ{b' k' c' j1} ⟨e1,e3,e4,e5,e6,e7,e8⟩ q1 q2=>by
  have ew:∀{j2:aI},j2.aH=j1.aH->j2.K=j1.K->mV j2=mV (J w):=λa a'=>by grind[mV]
  unfold L7;cases hd:(mV (J w)).G6
  ·rw[gH];have o':=aD3 (j:={j1 with Pc:=12}) ae;simp only at o';refine⟨tw ae ⟨e1,e3,e4,e5,e6,e7⟩ (λ_=>ah) (λ_=>by simp only;rw[e8,e3];omega) ae ae (λ_=>by
    have e2:mV {j1 with Pc:=12}=mV (J w):=ew rfl rfl;have e9:bi {j1 with Pc:=12}=i:=by unfold bi;rw[e2];exact hi'
    rw[e2,e9];exact⟨hd,q2⟩) ae,?_,?_,ae⟩
   ·rw[o'.2,o.2,e1,e3,e8]
   ·rw[o'.1,o.2,e1,e3,e8]
  ·rw[aO rfl];have o':=aD3 (j:={j1 with Pc:=9,K:=j1.K+1}) ae;simp only at o';rw[hd,aO rfl,Int.add_zero] at hpl;refine⟨tw ae ⟨e1,e3,e4,e5,e6,e7⟩ (λ_=>ah) ae ae ae ae ae,?_,?_,ae⟩
   ·rw[o'.2,o.2,e1,e3,e8,hpl]
   ·rw[o'.1,o.2,e1,e3,e8,hpl]
 have aAS:own (J w)=kR (J w)++(J w).cB:=by rw[o.1,o.2]
 by_cases p9:(J w).Pc=9
 ·rw[aO p9];rw[aO aa] at hol;refine⟨c,?_,.same λ_ z=>?_⟩
  rotate_left
  ·by_cases q:(dX k i).Head=0
   ·simp only[aO q] at z;rw[show wv (mV (J w))=none from aO (aI9 z),ebi]
    match c i,hch with
    |[],_=>rfl
    |x::r,hch=>exact absurd (hch.1.symm.trans q) hch.2.1.ne
   ·simp only[aP q] at z;omega
  by_cases q:(dX k i).Head=0
  ·rw[aO q];have hnil:c i=[]:=by
    match hci:c i,hch with
    |[],_=>rfl
    |x::r,hch=>exact absurd (hch.1.symm.trans q) hch.2.1.ne
   obtain⟨a1,a2,a3,a4⟩:=place (b':=b) (k':=k) (c':=c) (j1:={J w with Pc:=10,H:=(dX k i).Head,gT:=0}) ⟨rfl,rfl,rfl,rfl,rfl,rfl,rfl⟩ (by simp only;omega) (by rw[hnil];simp);exact still (by rw[a3,aAS]) (.inl a2) a4 a1
  ·rw[aP q];have o':=aD3 (j:={J w with Pc:=10,H:=(dX k i).Head,gT:=0}) ae;refine still (by rw[o'.1,o.1]) (.inl (by rw[o'.2,o.2])) ae (tw ae ⟨rfl,rfl,rfl,rfl,rfl,rfl⟩ ah (λ_=>by simp only;omega) (λ_=>?_) ae ae ae)
   match hci:c i,hch with
   |[],hch=>exact absurd hch q
   |x::r,hch=>
    refine⟨[],r,?_,⟨rfl,ae⟩,λ_=>?_⟩
    rotate_left
    ·have:=yR hkey.1 λy hy=>(hkey.2 y hy).2;unfold mW at this;rw[hci,List.length_map,HA] at this;rw[<-hn];unfold qF;rw[aO (.inr p9)];omega
    show c (jJ (mV (J w)).Key)=_;rw[hi',hci,V5];simp only;rw[hch.1]
 rw[aP p9];by_cases p10:(J w).Pc=10
 ·rw[aO p10];rw[aO aa] at hol;obtain⟨A,B,e1,⟨e2,e3⟩,e4⟩:=t.st (.inl p10);rw[ebi] at e1;rw[e1] at hch;have hH:=hch.split;have hok:=hH.2.1;rw[aSE hok];refine⟨c,?_,.same λ_ z=>?_⟩
  rotate_left
  ·by_cases q:(cH b.Mem (J w).H).Key=(mV (J w)).Key
   ·simp only[aO q] at z;omega
   ·simp only[aP q,aMP hH.2.2.1] at z;by_cases q2:(cH b.Mem (J w).H).Next=0
    ·simp only[aO q2] at z;rw[show wv (mV (J w))=none from aO (aI9 z),ebi,e1];refine aMQ λa ha=>?_
     match B,hH.2.2.2,ha with
     |[],_,ha=>
      rcases cY.1 ha with ha|ha
      ·exact e3 a ha
      ·rw[iY.1 ha];exact q
     |x::r,hq,_=>exact absurd (hq.1.symm.trans q2) hq.2.1.ne
    ·simp only[aP q2] at z;omega
  by_cases q:(cH b.Mem (J w).H).Key=(mV (J w)).Key
  ·rw[aO q];have o':=aD3 (j:={J w with Pc:=11,Node:=cH b.Mem (J w).H}) ae;exact still (by rw[o'.1,o.1]) (.inl (by rw[o'.2,o.2])) ae (tw ae ⟨rfl,rfl,rfl,rfl,rfl,rfl⟩ ah (λ_=>by simp only;omega) (λ_=>⟨A,B,(show c (jJ (mV (J w)).Key)=_ by rw[hi'];exact e1),⟨e2,e3⟩,λz=>absurd z ae⟩) (λ_=>⟨rfl,q⟩) ae ae)
  ·rw[aP q,aMP hH.2.2.1];by_cases q2:(cH b.Mem (J w).H).Next=0
   ·rw[aO q2];have hBn:B=[]:=by
     match B,hH.2.2.2 with
     |[],_=>rfl
     |x::r,hq=>exact absurd (hq.1.symm.trans q2) hq.2.1.ne
    obtain⟨a1,a2,a3,a4⟩:=place (b':=b) (k':=k) (c':=c) (j1:={J w with Node:=cH b.Mem (J w).H}) ⟨rfl,rfl,rfl,rfl,rfl,rfl,rfl⟩ (by simp only;omega) (by
     rw[e1,hBn];intro a ha;rcases cY.1 ha with ha|ha
     ·exact e3 a ha
     ·rw[iY.1 ha];exact q)
    exact still (by rw[a3,aAS]) (.inl a2) a4 a1
   ·rw[aP q2];have o':=aD3 (j:={J w with H:=(cH b.Mem (J w).H).Next,gT:=(J w).H,Node:=cH b.Mem (J w).H}) hp;refine still (by rw[o'.1,o.1]) (.inl (by rw[o'.2,o.2])) (by simp only;omega) (tw (by simp only;omega) ⟨rfl,rfl,rfl,rfl,rfl,rfl⟩ (λ_=>by simp only;rw[aO aa];exact hol) (λ_=>by simp only;omega) (λ_=>?_) (by simp[p10]) (by simp[p10]) (by simp[p10]))
    match B,hH.2.2.2,e1 with
    |[],hq,_=>exact absurd hq q2
    |x::r,hq,e1=>
     refine⟨A++[(J w).H],r,?_,⟨ae,λa ha=>?_⟩,λ_=>?_⟩
     rotate_left 2
     ·have:=e4 p10;rw[HA] at this;rw[<-hn];unfold qF;rw[iE,aO (.inr p10)];omega
     ·show c (jJ (mV (J w)).Key)=_;rw[hi',e1];simp only;rw[hq.1];simp
     ·rcases cY.1 ha with ha|ha
      ·exact e3 a ha
      ·rw[iY.1 ha];exact q
 rw[aP p10];have heads:∀(x:Int) (i':Int),oG i'->(dX (k.set i.toNat {dX k i with Head:=x}) i').Head=if i'=i then x else(dX k i').Head:=λx i' hi''=>by rw[rF hk2.1 hbk hi''];split<;>rfl
 have hno:∀{i':Int},oG i'->(dX k i').eM≠w+1->i'≠i:=λ_ q e=>q (e ▸ hlk);have ind0:∀{b':aA},(∀s,eP b'.Mem s=eP b.Mem s)->b'.aQ=b.aQ->∀s,ind b' s=ind b s:=λe1 e2 s=>aMN (by rw[e1]) (by rw[e2]);by_cases p11:(J w).Pc=11
 ·rw[aO p11];rw[aO aa] at hol;obtain⟨A,B,e1,⟨e2,e3⟩,_⟩:=t.st (.inr p11);rw[ebi] at e1;rw[e1] at hch hkey;have hH:=hch.split;have hok:=hH.2.1;obtain⟨n1,n2⟩:=t.cu p11;rw[n1,aMP hH.2.2.1];have hnd:=hkey.1;unfold mW at hnd;rw[m7,AT,aF1,ZU] at hnd;have hAB:∀a∈A++B,(cH b.Mem a).Key≠(mV (J w)).Key:=λa ha q=>by
   rcases cY.1 ha with ha|ha
   ·exact e3 a ha q
   ·rw[<-n2,n1] at q;exact hnd.2.1.1 (AU.2 ⟨a,ha,q⟩)
  have hold:L8 (J w)={J w with cB:=(J w).cB++[(J w).H]}:=by unfold L8;rw[aO ⟨hok.1.1,by have:=hj.wr.1;omega⟩]
  rw[hold];have hcl:ZO (c i)=λs=>ZO (A++B) s+if(J w).H % 32=s then 1 else 0:=by funext s;rw[e1,UA,PK,UA];omega
  have cntx:∀{j':aI},own j'=kR (J w)++((J w).cB++[(J w).H])->∀s,cnC (upC c i (A++B)) s+cnO (yS J w j') s=ind b s:=λ{j'} e s=>by have u1:=a9K (c:=c) hbk (A++B) s;have u2:=YG (J:=J) hw j' s;rw[e,aAS,UA,UA,UA,PK,a9J] at u2;rw[hcl] at u1;have:=h.cnt s;simp only at u1;omega
  have okx:∀{j':aI} {b':aA},own j'=kR (J w)++((J w).cB++[(J w).H])->(∀x,kJ b.Mem x->kJ b'.Mem x)->∀x∈own j',kJ b'.Mem x:=λ{j' b'} e q x hx=>by
   rw[e] at hx;refine q x ?_;rcases cY.1 hx with hx|hx
   ·exact h.ok w hw x (NX h hw hx)
   ·rcases cY.1 hx with hx|hx
    ·exact h.ok w hw x (by rw[aAS];exact aB0 _ hx)
    ·rw[iY.1 hx];exact hok
  by_cases q:(J w).gT=0
  ·rw[aO q];have hA:A=[]:=by
    rcases ZP A with rfl|⟨L,z,rfl⟩
    ·rfl
    ·rw[aJK] at e1 e2 hch;rw[q] at e2;simp at e2;exact absurd e2.symm ((hch.all z ae).1.ne)
   subst hA;simp only[V5] at *;obtain⟨a1,a2,a3,a4⟩:=place (b':=b) (k':=k.set i.toNat {dX k i with Head:=(cH b.Mem (J w).H).Next}) (c':=upC c i B) (j1:={J w with cB:=(J w).cB++[(J w).H]}) ⟨rfl,rfl,rfl,rfl,rfl,rfl,rfl⟩ ah (by rw[qE];exact hAB);refine⟨upC c i B,h.aP4 hl hw hqv hc hJ (y:=0) (z:=-1) ⟨λx hx _=>⟨hx,λ_=>rfl⟩,.inl rfl,.inl rfl,λi' hi'' hq=>⟨by rw[heads _ _ hi'',aP (hno hi'' hq)],KS _ _ (hno hi'' hq)⟩,.inl rfl,λr hr=>.inl hr,λx hx=>.inl (by rw[a2] at hx;exact hx),λz=>absurd a4.2 (by rw[show(L7 _ _).Pc=15 from z];decide),λ_ _ _ p=>⟨p,rfl⟩,J2 _,λ_ _ _=>rfl⟩ rfl (λi' hi''=>?_) (λi' hi''=>?_) (cntx a3) (okx a3 λ_ x=>x) (λ_=>a1) (.no ⟨λz=>absurd a4.1 (by rw[show(L7 _ _).Pc=3 from z];decide),λz=>absurd a4.1 (by rw[show(L7 _ _).Pc=4 from z];decide)⟩) (.no ⟨λz=>absurd a4.1 (by rw[show(L7 _ _).Pc=6 from z];decide),λz=>absurd a4.2 (by rw[show(L7 _ _).Pc=15 from z];decide),λz=>absurd a4.2 (by rw[show(L7 _ _).Pc=21 from z];decide)⟩),⟨λi' hi'' z=>⟨KS _ _ (by rw[<-ebi];exact z (.inl p11)),λ_ _=>rfl⟩,λ_ k' z=>?_,λ_ z=>?_⟩⟩
   rotate_left 2
   ·rw[ebi,qE,e1];exact(aSF (A:=[]) (by rw[<-n1,n2];exact λe=>z e.symm)).symm
   ·rw[ebi,qE,show wv (mV (J w))=none from aO (aI9 z)];exact aMQ hAB
   ·rw[heads _ _ hi''];by_cases z:i'=i
    ·rw[aO z,z,qE];exact hH.2.2.2
    ·rw[aP z,KS _ _ z];exact h.ch i' hi''
   ·by_cases z:i'=i
    ·rw[z,qE];exact⟨hnd.2.1.2,λx hx=>hkey.2 x (by unfold mW at hx ⊢;rw[AT];exact lH _ hx)⟩
    ·rw[KS _ _ z];exact h.key i' hi''
  ·rw[aP q];obtain⟨A',rfl⟩:∃A',A=A'++[(J w).gT]:=by
    rcases ZP A with rfl|⟨L,z,rfl⟩
    ·exact absurd e2 q
    ·rw[aJK] at e2 ⊢;exact⟨L,by rw[e2];simp⟩
   rw[nL,List.singleton_append] at e1 hch;have hpm:(J w).gT∈c i:=by rw[e1];simp
   have hpo:=hch.all (J w).gT ae;have hnx:(cH b.Mem (J w).gT).Next=(J w).H:=by have:=(ChT.last (A:=A'++[(J w).gT]) (h:=(J w).H) (B:=B) (by rw[nL,List.singleton_append];exact hch)).1 (J w).gT ae;exact this
   obtain⟨g1,g2,g3,g4⟩:=bD1 hb.1.1 hpo.1 hH.2.2.1.2.2;generalize hm':Gv.aGI b.Mem (J w).gT (cH b.Mem (J w).H).Next=m' at g1 g2 g3 g4;have g2':cH m' (J w).gT={cH b.Mem (J w).gT with Next:=(cH b.Mem (cH b.Mem (J w).gT).Next).Next}:=by rw[hnx];exact g2
   have gk:∀x,kJ b.Mem x->kJ m' x/\(x≠(J w).gT->cH m' x=cH b.Mem x):=λx hx=>by
    by_cases z:x % 32=(J w).gT % 32
    ·have:=Y6 hx.1 hpo.1.1 z;subst this;exact⟨g1,λz=>absurd rfl z⟩
    ·exact⟨(g3 x hx z).1,λ_=>(g3 x hx z).2⟩
   have gkey:∀x,kJ b.Mem x->(cH m' x).Key=(cH b.Mem x).Key:=λx hx=>by
    by_cases z:x=(J w).gT
    ·rw[z,g2']
    ·rw[(gk x hx).2 z]
   have hall:∀a∈A'++[(J w).gT]++B,kJ b.Mem a:=λa ha=>(hch.all a (by simp only[cY,iX,iY,UI,or_false] at ha ⊢;grind)).1;obtain⟨a1,a2,a3,a4⟩:=place (b':={b with Mem:=m'}) (k':=k) (c':=upC c i (A'++[(J w).gT]++B)) (j1:={J w with cB:=(J w).cB++[(J w).H]}) ⟨rfl,rfl,rfl,rfl,rfl,rfl,rfl⟩ ah (by
    rw[qE];exact λa ha=>by rw[gkey a (hall a ha)];exact hAB a ha)
   have oth:Oth b {b with Mem:=m'} k k c (upC c i (A'++[(J w).gT]++B)) J w (L7 {J w with cB:=(J w).cB++[(J w).H]} (mV (J w))) (J w).gT (-1):=
    ⟨λx hx _=>gk x hx,.inl rfl,.inr (.inr ⟨⟨i,hbk,hlk,hpm⟩,g2',by rw[hnx];exact hok.ne⟩),λi' hi'' hq=>⟨rfl,KS _ _ (hno hi'' hq)⟩,.inl rfl,λr hr=>.inl hr,λx hx=>.inl (by rw[a2] at hx;exact hx),λz=>absurd a4.2 (by rw[show(L7 _ _).Pc=15 from z];decide),λ_ _ _ p=>⟨p,rfl⟩,J2 _,λ_ _ _=>rfl⟩
   have hnd2:=hkey.1;have hnoP:∀i',oG i'->i'≠i->(J w).gT∉c i':=λi' hi'' z hy=>by have u1:=a1L c hi'' hbk z ((J w).gT % 32);have u2:=QO hy;have u3:=QO hpm;have u4:=h.cnt ((J w).gT % 32);have u5:=aMK b ((J w).gT % 32);omega
   have gval:∀a,kJ b.Mem a->(cH m' a).dC=(cH b.Mem a).dC:=λa ha=>by
    by_cases z:a=(J w).gT
    ·rw[z,g2']
    ·rw[(gk a ha).2 z]
   refine⟨_,h.aP4 hl hw hqv hc hJ oth rfl (λi' hi''=>?_) (λi' hi''=>?_) (λs=>by rw[cntx a3 s];exact(ind0 (b':={b with Mem:=m'}) g4 rfl s).symm) (okx a3 λx hx=>(gk x hx).1) (λ_=>a1) (.no ⟨λz=>absurd a4.1 (by rw[show(L7 _ _).Pc=3 from z];decide),λz=>absurd a4.1 (by rw[show(L7 _ _).Pc=4 from z];decide)⟩) (.no ⟨λz=>absurd a4.1 (by rw[show(L7 _ _).Pc=6 from z];decide),λz=>absurd a4.2 (by rw[show(L7 _ _).Pc=15 from z];decide),λz=>absurd a4.2 (by rw[show(L7 _ _).Pc=21 from z];decide)⟩),⟨λi' hi'' z=>⟨KS _ _ (by rw[<-ebi];exact z (.inl p11)),λx hx=>(gk x ((h.ch i' hi'').all x hx).1).2 λe=>hnoP i' hi'' (by rw[<-ebi];exact z (.inl p11)) (e ▸ hx)⟩,λ_ k' z=>?_,λ_ z=>?_⟩⟩
   rotate_left 2
   ·rw[ebi,qE,e1];show lkp m' _ k'=_;rw[YI (m:=b.Mem) (λa ha=>⟨gkey a (hall a ha),gval a (hall a ha)⟩),show A'++(J w).gT::(J w).H::B=(A'++[(J w).gT])++(J w).H::B by simp];exact(aSF (by rw[<-n1,n2];exact λe=>z e.symm)).symm
   ·rw[ebi,qE,show wv (mV (J w))=none from aO (aI9 z)];exact aMQ λa ha=>by show(cH m' a).Key≠_;rw[gkey a (hall a ha)];exact hAB a ha
   ·by_cases z:i'=i
    ·rw[z,qE,nL,List.singleton_append];have hdis:∀y∈A'++B,y≠(J w).gT:=λy hy e=>by
      have hn:=hnd2;unfold mW at hn;rw[nL,m7,m7,AT,AT,aF1] at hn;rcases cY.1 hy with hy|hy
      ·exact hn.2.2 _ (AU.2 ⟨y,hy,rfl⟩) _ (by rw[e];simp) rfl
      ·exact(ZU.1 hn.2.1).1 (by rw[<-e];exact lH _ (AU.2 ⟨y,hy,rfl⟩))
     exact hch.cut g2' g1 λy hy=>by obtain⟨x1,x2⟩:=gk y (hall y (by simp only[cY,iY] at hy ⊢;grind));exact⟨x1,x2 (hdis y hy)⟩
    ·have hy:=hnoP i' hi'' z;exact((oth.chn h hw hi'' hy).2 rfl (KS _ _ z)).1
   ·by_cases z:i'=i
    ·rw[z,qE];have ek:mW m' (A'++[(J w).gT]++B)=mW b.Mem (A'++[(J w).gT]++B):=aFR λa ha=>gkey a (hall a ha);show(mW m' _).Nodup/\∀x∈mW m' _,_;rw[ek];have hsub:(mW b.Mem (A'++[(J w).gT]++B)).Sublist (mW b.Mem (A'++[(J w).gT]++(J w).H::B)):=by unfold mW;exact List.Sublist.map _ (List.Sublist.append_left (List.sublist_cons_self ..) _)
     exact⟨hnd2.sublist hsub,λx hx=>hkey.2 x (hsub.subset hx)⟩
    ·have hy:=hnoP i' hi'' z;rw[((oth.chn h hw hi'' hy).2 rfl (KS _ _ z)).2];exact h.key i' hi''
 rw[aP p11];have hp2:(J w).Pc=12\/(J w).Pc=13:=aa
 obtain⟨fd,fk⟩:=t.fl hp2;rw[ebi] at fk;obtain⟨nm,r,en,enr⟩:=aML h hw t hj hp2;have hnw:=h.ok w hw _ (NX h hw nm);have hname:=h.name hw hw (NX h hw nm);have hnc:∀i',oG i'->GW (J w)∉c i':=λi' hi'' hm=>by have u1:=h.link hw hi'' hm;omega
 have hlen:¬((J w).gL.length:Int)<=fQ (J w).aH (J w).K:=λz=>by have:(J w).gL.drop (fQ (J w).aH (J w).K).toNat=[]:=aBY aa;rw[o.2,this] at nm;cases nm
 rw[aP hlen];have hbv:=hk2.2 _ (aR4 hk2.1 hbk);by_cases p12:(J w).Pc=12
 ·rw[aO p12];rw[iE] at hol;obtain⟨g1,g2,g3,g4⟩:=bIN hb.1.1 hnw (n:=⟨(mV (J w)).Key,(mV (J w)).dC,(dX k i).Head⟩) ⟨hx.1,hx.2,hbv.1⟩;show ∃c',sK Ky {b with Mem:=aAJ b.Mem (GW (J w)) ⟨(mV (J w)).Key,(mV (J w)).dC,(dX k i).Head⟩} k c' qn (yS J w {J w with Pc:=13})/\ChW b.Mem (aAJ b.Mem (GW (J w)) ⟨(mV (J w)).Key,(mV (J w)).dC,(dX k i).Head⟩) c c' (J w) {J w with Pc:=13};generalize aAJ b.Mem (GW (J w)) ⟨(mV (J w)).Key,(mV (J w)).dC,(dX k i).Head⟩=m' at g1 g2 g3 g4;have gk:∀x,kJ b.Mem x->kJ m' x/\(x≠GW (J w)->cH m' x=cH b.Mem x):=λx hx=>by
   by_cases z:x % 32=GW (J w) % 32
   ·have:=Y6 hx.1 hnw.1 z;subst this;exact⟨g1,λz=>absurd rfl z⟩
   ·exact⟨(g3 x hx z).1,λ_=>(g3 x hx z).2⟩
  have o':own {J w with Pc:=13}=own (J w)/\kR {J w with Pc:=13}=kR (J w):=by rw[o.1,o.2];exact aD3 (j:={J w with Pc:=13}) ae
  have oth:Oth b {b with Mem:=m'} k k c c J w {J w with Pc:=13} (GW (J w)) (-1):=
   ⟨λx hx _=>gk x hx,.inl rfl,.inr (.inl nm),λ_ _ _=>⟨rfl,rfl⟩,.inl rfl,λr hr=>.inl hr,λx hx=>.inl (by rw[o'.2] at hx;exact hx),λz=>absurd z ae,λ_ _ _ p=>⟨p,rfl⟩,J2 _,λ_ _ _=>rfl⟩
  have chs:=λi' (hi'':oG i')=>oth.chn h hw hi'' (hnc i' hi'');refine⟨c,h.aP4 hl hw hqv hc hJ oth rfl (λi' hi''=>((chs i' hi'').2 rfl rfl).1) (λi' hi''=>by rw[((chs i' hi'').2 rfl rfl).2];exact h.key i' hi'') (λs=>?_) (λx hx=>(gk x (h.ok w hw x (by rw[o'.1] at hx;exact hx))).1) (λ_=>tw ae ⟨rfl,rfl,rfl,rfl,rfl,rfl⟩ (λ_=>ah) (λ_=>by simp only;omega) ae ae (λ_=>⟨fd,λa ha=>?_⟩) (λ_=>?_)) (.no ae) (.no ae),⟨λi' hi'' _=>⟨rfl,λx hx=>(gk x ((h.ch i' hi'').all x hx).1).2 λe=>hnc i' hi'' (e ▸ hx)⟩,λ_ k' _=>?_,λ_ z=>by have:(J w).K=(J w).K+1:=z;omega⟩⟩
  rotate_left 3
  ·rw[ebi];exact YI (λa ha=>by rw[(gk a ((h.ch i hbk).all a ha).1).2 λe=>hnc i hbk (e ▸ ha)];exact⟨rfl,rfl⟩) k'
  ·have u:=YG (J:=J) hw {J w with Pc:=13} s;rw[o'.1] at u;have u2:=h.cnt s;rw[ind0 (b':={b with Mem:=m'}) g4 rfl s];omega
  ·have ha':a∈c i:=by rw[show bi {J w with Pc:=13}=i from hi'] at ha;exact ha
   show(cH m' a).Key≠_;rw[((chs i hbk).1 a ha').2];exact fk a ha'
  ·show cH m' (GW (J w))=⟨_,_,(dX k (jJ (mV (J w)).Key)).Head⟩;rw[hi'];exact g2
 ·rw[aP p12];have p13:(J w).Pc=13:=aa
  rw[iE] at hol;have ln:=t.ln p13;rw[ebi] at ln;rw[fd] at hpl;simp only[bV,bR] at hpl;show ∃c',sK Ky b (k.set i.toNat {dX k i with Head:=GW (J w)}) c' qn (yS J w {J w with Pc:=9,K:=(J w).K+1})/\ChW b.Mem b.Mem c c' (J w) {J w with Pc:=9,K:=(J w).K+1};have o':=aD3 (j:={J w with Pc:=9,K:=(J w).K+1}) ae;have er':(J w).gL.drop (fQ (J w).aH ((J w).K+1)).toNat=r:=by rw[<-enr,hpl];congr 1
  simp only[er'] at o';have e0:kR (J w)=GW (J w)::r:=en;have oth:Oth b b k (k.set i.toNat {dX k i with Head:=GW (J w)}) c (upC c i (GW (J w)::c i)) J w {J w with Pc:=9,K:=(J w).K+1} 0 (-1):=
   ⟨λx hx _=>⟨hx,λ_=>rfl⟩,.inl rfl,.inl rfl,λi' hi'' hq=>⟨by rw[heads _ _ hi'',aP (hno hi'' hq)],KS _ _ (hno hi'' hq)⟩,.inl rfl,λr hr=>.inl hr,λx hx=>.inl (by rw[o'.2] at hx;rw[e0];exact lH _ hx),λz=>absurd z ae,λ_ _ _ p=>⟨p,rfl⟩,J2 _,λ_ _ _=>rfl⟩
  refine⟨upC c i (GW (J w)::c i),h.aP4 hl hw hqv hc hJ oth rfl (λi' hi''=>?_) (λi' hi''=>?_) (λs=>?_) (λx hx=>h.ok w hw x ?_) (λ_=>tw ae ⟨rfl,rfl,rfl,rfl,rfl,rfl⟩ (λ_=>ah) ae ae ae ae ae) (.no ae) (.no ae),⟨λi' hi'' z=>⟨KS _ _ (by rw[<-ebi];exact z (.inr p13)),λ_ _=>rfl⟩,λ_ k' z=>?_,λ_ _=>?_⟩⟩
  rotate_left 4
  ·rw[ebi,qE];exact aSF (A:=[]) (by rw[ln];exact λe=>z e.symm)
  ·rw[ebi,qE];unfold lkp;rw[List.find?_cons,ln];simp[wv,fd,ln]
  ·rw[heads _ _ hi''];by_cases z:i'=i
   ·rw[aO z,z,qE];exact⟨rfl,hnw,by rw[ln];exact⟨hx.1,hx.2,hbv.1⟩,by rw[ln];exact hch⟩
   ·rw[aP z,KS _ _ z];exact h.ch i' hi''
  ·by_cases z:i'=i
   ·rw[z,qE];have ek:mW b.Mem (GW (J w)::c i)=(mV (J w)).Key::mW b.Mem (c i):=by show(cH b.Mem (GW (J w))).Key::_=_;rw[ln];rfl
    rw[ek];refine⟨ZU.2 ⟨λhm=>?_,hkey.1⟩,λx hx=>?_⟩
    ·obtain⟨a,ha,e⟩:=AU.1 hm;exact fk a ha e
    ·rcases iX.1 hx with rfl|hx
     ·exact⟨hi',t.ky.1 _ hxm⟩
     ·exact hkey.2 x hx
   ·rw[KS _ _ z];exact h.key i' hi''
  ·have u1:=a9K (c:=c) hbk (GW (J w)::c i) s;have u2:=YG (J:=J) hw {J w with Pc:=9,K:=(J w).K+1} s;rw[o'.1,aAS,e0,UA,UA,PK] at u2;rw[PK] at u1;have:=h.cnt s;omega
  ·rw[aAS,e0];rw[o'.1] at hx;simp only[cY,iX] at hx ⊢;exact hx.imp .inr id
end
def sjT(j:aI):Job:=⟨j.bQ,⟨if j.Pc=0 then 5 else if j.Pc=20\/j.Pc=21 then 4 else 3,0,0,0⟩,0,if j.Pc=21 then 1 else 0,j.Sub,0,0,0,0⟩
def EpT(c:aC)(J:Int->aI):Prop:=Ep c λv=>sjT (J v)
theorem aVL(J:Int->aI)(w:Int)(j:aI):(λv=>sjT (yS J w j v))=upJ (λv=>sjT (J v)) w (sjT j):=by grind[yS,upJ]
theorem a1N(h:j=cX\/j.Pc≠0/\j.Pc≠20/\(j.Pc=21->j.Sub.Kind=4)):Calm (sjT j):=by
 rcases h with rfl|⟨h1,h2,h3⟩
 ·exact⟨λq=>(by cases q.1),λq=>(by cases q.1),λq=>absurd q ai,λq=>absurd q ai⟩
 ·unfold Calm qD Adv sjT;grind
theorem aMR(hb:j.bQ=true)(h:j.Pc=0):qD (sjT j):=⟨hb,by simp[sjT,h],by simp[sjT,h]⟩
theorem a9V(hb:j.bQ=true)(h:j.Pc=20):Adv (sjT j):=⟨hb,by simp[sjT,h],by simp[sjT,h]⟩
theorem aD4(h:j=cX\/j.Pc≠0):¬qD (sjT j):=λq=>by
 rcases h with rfl|h
 ·cases q.1
 ·have:=q.2.1;unfold sjT at this;grind
theorem bIR(j:aI)(c:eJ)(v:Int)(is:Bool):(qU j c v is).Pc=j.Pc\/(qU j c v is).Pc=16\/(qU j c v is).Pc=1:=by grind[qU,VW,T7,oD,sL]
theorem a9W{b:aA}(h:1<=j.Pc/\j.Pc<=19):(eX b k w j).j=cX\/1<=(eX b k w j).j.Pc/\(eX b k w j).j.Pc<=19:=by
 have keep:∀{j':aI},(j'.Pc=j.Pc\/1<=j'.Pc/\j'.Pc<=19)->j'=cX\/1<=j'.Pc/\j'.Pc<=19:=λq=>.inr aa;unfold eX;rw[iE];refine dM (P:=λr=>r.j=cX\/1<=r.j.Pc/\r.j.Pc<=19) (λp=>keep (by grind[qP,oD,sL,qU,VW,T7])) λ_=>dM (P:=λr=>r.j=cX\/1<=r.j.Pc/\r.j.Pc<=19) (λp=>keep (by grind[iQ,oD,sL,qU,VW,T7])) λ_=>
  dM (P:=λr=>r.j=cX\/1<=r.j.Pc/\r.j.Pc<=19) (λp=>keep (by grind[vL,sL])) λ_=>dM (P:=λr=>r.j=cX\/1<=r.j.Pc/\r.j.Pc<=19) (λp=>keep (by grind[oS,IC,sL])) λ_=>
  dM (P:=λr=>r.j=cX\/1<=r.j.Pc/\r.j.Pc<=19) (λp=>keep (by grind[JZ,sL])) λ_=>dM (P:=λr=>r.j=cX\/1<=r.j.Pc/\r.j.Pc<=19) (λp=>keep (by grind[lY,L7,sL])) λ_=>
  dM (P:=λr=>r.j=cX\/1<=r.j.Pc/\r.j.Pc<=19) (λp=>keep (by grind[AQ,J0])) λ_=>dM (P:=λr=>r.j=cX\/1<=r.j.Pc/\r.j.Pc<=19) (λp=>keep (by grind[DJ,J0])) λ_=>
  dM (P:=λr=>r.j=cX\/1<=r.j.Pc/\r.j.Pc<=19) (λp=>keep (by grind[DK])) λ_=>dM (P:=λr=>r.j=cX\/1<=r.j.Pc/\r.j.Pc<=19) (λp=>.inr ae) λ_=>dM (P:=λr=>r.j=cX\/1<=r.j.Pc/\r.j.Pc<=19) (λp=>.inl rfl) λ_=>.inr (by simp[sL])
section
variable {b:aA} {k:List bW} {J:Int->aI} {w:Int} (hw:eN w) (hc:KN b.aC) (h:EpT b.aC J) (hB:(J w).bQ=true)
include hw hc h hB
theorem aVM{cl:aC}(e:cl=b.aC)(hp:(J w).Pc≠0)(hj:j'=cX\/j'.Pc≠0/\j'.Pc≠20/\(j'.Pc=21->j'.Sub.Kind=4)):EpT cl (yS J w j'):=by unfold EpT;rw[aVL,e];exact h.still hw (aD4 (.inr hp)) (a1N hj)
theorem aMS:((J w).Pc=0->(J w).Sub.Kind=5/\(J w).Sub.gX=false/\((J w).Sub.Pc=0\/(J w).Sub.Pc=1/\(0<=(J w).Sub.E/\(J w).Sub.E<=b.aC.aL)\/(J w).Sub.Pc=2/\(cT b.aC w).aL=(J w).Sub.E)) /\
  ((J w).Pc=20->(J w).Sub.Kind=3/\(J w).Sub.gX=false/\((J w).Sub.Pc=0\/(J w).Sub.E<=b.aC.aL/\((J w).Sub.Pc=1/\(0<=(J w).Sub.B/\(J w).Sub.B<=2)\/(J w).Sub.Pc=2/\(J w).Sub.B=3))):=by obtain⟨_,_,a,p⟩:=h.1 w hw hB;exact⟨λq=>p (aMR hB q),λq=>a (a9V hB q)⟩
theorem bLF(hk6:(J w).Pc=6\/(J w).Pc=15/\(J w).K<(J w).cB.length->(J w).Sub.Kind=1\/(J w).Sub.Kind=2)(hk21:(J w).Pc=21->(J w).Sub.Kind=4)(hpc:0<=(J w).Pc/\(J w).Pc<=21):EpT (eX b k w (J w)).b.aC (yS J w (eX b k w (J w)).j):=by
 obtain⟨s0,s20⟩:=aMS hw hc h hB;by_cases p0:(J w).Pc=0
 ·obtain⟨k5,d,_⟩:=s0 p0;have es:iJ b w (J w).Sub=zP b w (J w).Sub:=by grind[iJ]
  have e:eX b k w (J w)=⟨(zP b w (J w).Sub).1,k,if(zP b w (J w).Sub).2.gX then {J w with Pc:=1,Sub:=(zP b w (J w).Sub).2} else {J w with Sub:=(zP b w (J w).Sub).2},[]⟩:=by unfold eX;rw[aO (.inl p0)];grind[nZ]
  rw[e];unfold EpT;rw[aVL];have:=h.pin hw (b:=b) rfl hc rfl (aMR hB p0) (fin:=sjT {J w with Pc:=1,Sub:=(zP b w (J w).Sub).2}) (a1N (.inr ae));rw[show(sjT (J w)).Sub=(J w).Sub from rfl] at this;cases hd:(zP b w (J w).Sub).2.gX
  ·rw[hd,gH] at this;rw[gH];exact this
  grind
 by_cases p20:(J w).Pc=20
 ·obtain⟨k3,d,_⟩:=s20 p20;have es:iJ b w (J w).Sub=fF b (J w).Sub:=by grind[iJ]
  have e:eX b k w (J w)=⟨(fF b (J w).Sub).1,k,if(fF b (J w).Sub).2.gX then {J w with Pc:=21,Sub:=zQ 4 0} else {J w with Sub:=(fF b (J w).Sub).2},[]⟩:=by unfold eX;rw[aO (.inr (.inl p20))];grind[nZ]
  rw[e];unfold EpT;rw[aVL];have:=h.advance hw (b:=b) rfl hc rfl (a9V hB p20) (fin:=sjT {J w with Pc:=21,Sub:=zQ 4 0}) (a1N (.inr (by simp[zQ])));rw[show(sjT (J w)).Sub=(J w).Sub from rfl] at this;cases hd:(fF b (J w).Sub).2.gX
  ·rw[hd,gH] at this;rw[gH];exact this
  grind
 by_cases p21:(J w).Pc=21
 ·have hcl:=NW (b:=b) (w:=w) (s:=(J w).Sub) aa;have e:eX b k w (J w)=⟨(nZ b w (J w)).1,k,(nZ b w (J w)).2,[]⟩:=by simp_all[eX]
  grind[aVM,a3T,nZ]
 by_cases p18:(J w).Pc=18
 ·have e:eX b k w (J w)=⟨{b with aC:=(KR b.aC w).1},k,{J w with Pc:=19},[]⟩:=by unfold eX;simp[p18]
  rw[e];unfold EpT;rw[aVL];exact h.bLD hw hc (aD4 (.inr p0)) (a1N (.inr ae))
 have hcl:(eX b k w (J w)).b.aC=b.aC:=by
  unfold eX;rw[iE];refine dM (P:=λr=>r.b.aC=b.aC) (λp=>rfl) λ_=>dM (P:=λr=>r.b.aC=b.aC) (λp=>rfl) λ_=>dM (P:=λr=>r.b.aC=b.aC) (λp=>?_) λ_=>dM (P:=λr=>r.b.aC=b.aC) (λp=>rfl) λ_=>dM (P:=λr=>r.b.aC=b.aC) (λp=>rfl) λ_=>
   dM (P:=λr=>r.b.aC=b.aC) (λp=>by grind[lY]) λ_=>dM (P:=λr=>r.b.aC=b.aC) (λp=>rfl) λ_=>dM (P:=λr=>r.b.aC=b.aC) (λp=>?_) λ_=>dM (P:=λr=>r.b.aC=b.aC) (λp=>by grind[DK]) λ_=>dM (P:=λr=>r.b.aC=b.aC) (λp=>absurd p p18) λ_=>dM (P:=λr=>r.b.aC=b.aC) (λp=>rfl) λ_=>rfl
  ·have:=NW (b:=b) (w:=w) (s:=(J w).Sub) (by have:=hk6 (.inl p);omega);unfold vL;grind
  ·unfold DJ;split
   ·rfl
   ·exact NW (by have:=hk6 (.inr ⟨p,aa⟩);omega)
 grind[aVM,a9W]
end
theorem a9X{c:aC}{J:Int->aI}(hw:eN w)(h:EpT c J)(hn:J w=cX)(x:Batch)(s:Int):EpT c (yS J w (iU x s)):=by
 unfold EpT;rw[aVL];have e:sjT (iU x s)=⟨true,⟨if x.Collect then 4 else 5,0,0,0⟩,0,0,if x.Collect then zQ 3 0 else zQ 5 0,0,0,0,0⟩:=by grind[sjT,iU]
 refine h.step hw rfl (λ_ _ _=>rfl) ?_ (λ_ o1 o2=>?_) (λ_=>.inl ?_)
 ·rw[e];intro _;grind[Adv,qD,zQ]
 ·obtain⟨a1,a2⟩:=h.2 w hw (aD4 (.inl hn)) o1 o2;grind
 ·rw[e];cases x.Collect<;>rfl
theorem sK.congr{b:aA}{c:Int->List Int}{q:Int->Nat}{J J':Int->aI}(h:sK Ky b k c q J)(e:∀v,eN v->J' v=J v):sK Ky b k c q J':=by have e0:=e 0 (by simp[eN]);have e1:=e 1 (by simp[eN]);have e2:=e 2 (by simp[eN]);refine⟨h.hz,h.ch,h.key,λs=>by unfold cnO;rw[e0,e1,e2];exact h.cnt s,λv hv=>by rw[e v hv];exact h.ok v hv,λv hv=>by rw[e v hv];exact h.tw v hv,λv hv=>?_,λv hv=>by rw[e v hv];exact h.sb v hv⟩;rw[e v hv];intro p q;obtain⟨r,⟨a,la⟩,z⟩:=h.rd v hv p q;exact⟨r,⟨⟨a.rp,a.nd,a.ky,λx hx=>⟨(a.sf x hx).1,λu hu=>by rw[e u hu];exact(a.sf x hx).2 u hu⟩⟩,la⟩,z⟩
section
variable {Ky:List Int} {b:aA} {k:List bW} {c:Int->List Int} {q:Int->Nat} {J:Int->aI} {w:Int} (h:sK Ky b k c q J) (hl:∀v,eN v->Y4 k v (J v)) (hw:eN w) (hb:m5 b) (hk:k.length=2/\∀x∈k,BkV x) (hJ:∀v,eN v->(J v).bQ=true->JB (J v)) (hB:(J w).bQ=true) (hep:EpT b.aC J)
include h hl hw hb hk hJ hB hep
theorem bIS(hp:(J w).Pc=0\/(J w).Pc=20\/(J w).Pc=21):sK Ky (nZ b w (J w)).1 k c q (yS J w (nZ b w (J w)).2):=by
 have hc:=hb.1.2.1;obtain⟨s0,s20⟩:=aMS hw hc hep hB;rcases hp with p|p|p
 ·obtain⟨k5,d,_⟩:=s0 p;have es:iJ b w (J w).Sub=zP b w (J w).Sub:=by grind[iJ]
  unfold nZ;rw[es,aO p];by_cases z:(zP b w (J w).Sub).2.gX=false
  ·rw[aO z];grind[a9Q]
  ·rw[aP z];grind[a9Q]
 ·obtain⟨k3,d,_⟩:=s20 p;have es:iJ b w (J w).Sub=fF b (J w).Sub:=by grind[iJ]
  unfold nZ;rw[es,aP (show ¬(J w).Pc=0 by omega),aO p];by_cases z:(fF b (J w).Sub).2.gX=false
  ·rw[aO z];grind[a9R]
  ·rw[aP z];grind[a9R]
 ·obtain⟨k4,d,_⟩:=(h.sb w hw).col p;have es:iJ b w (J w).Sub=cQ b w (J w).Sub:=by simp_all[iJ]
  have hE:∀v,eN v->(J v).Pc=3\/(J v).Pc=4->mG b.aC v->b.aC.aL<=(cT b.aC v).aL+1:=λv hv q hp=>(hep.2 v hv (aD4 (.inr aa)) hp.1 hp.2).1;unfold nZ;rw[es,aP (show ¬(J w).Pc=0 by omega),aP (show ¬(J w).Pc=20 by omega)];by_cases z:(cQ b w (J w).Sub).2.gX=false
  ·rw[aO z];exact(aMO h hl hw hb hJ hB hE p (.inr ⟨z,rfl⟩)).1
  ·rw[aP z];exact(aMO h hl hw hb hJ hB hE p (.inl ⟨aj,rfl⟩)).1
omit hl hk hJ in
theorem bIT(hp:(J w).Pc<9\/13<(J w).Pc)(hi:oG i){x:Int}(hx:x∈c i):cH (eX b k w (J w)).b.Mem x=cH b.Mem x:=by
 have hc:=hb.1.2.1;have hL:=hb.1.2.2.1;have ok:=((h.ch i hi).all x hx).1;have hs:=h.sb w hw;obtain⟨s0,s20⟩:=aMS hw hc hep hB;have kn:∀{m':Mem} {z:Int},Kn b.Mem m' z->x % 32≠z->cH m' x=cH b.Mem x:=λa e=>(a x ok e).2;have me:∀{m':Mem},m'=b.Mem->cH m' x=cH b.Mem x:=λe=>by rw[e]
 unfold eX;have P:∀{c:Prop} [Decidable c] {y z:TR},(c->cH y.b.Mem x=cH b.Mem x)->(¬c->cH z.b.Mem x=cH b.Mem x)->_:=dM (P:=λr=>cH r.b.Mem x=cH b.Mem x);refine P (λp=>?_) λ_=>P (λ_=>rfl) λ_=>P (λ_=>rfl) λ_=>P (λp=>?_) λ_=>P (λ_=>rfl) λ_=>P (λ_=>rfl) λ_=>P (λ_=>aa) λ_=>P (λ_=>rfl) λ_=>P (λp=>?_) λ_=>P (λp=>?_) λ_=>P (λ_=>rfl) λ_=>P (λ_=>rfl) λ_=>rfl
 ·show cH (iJ b w (J w).Sub).1.Mem x=_;rcases p with p|p|p
  ·obtain⟨k5,d,_⟩:=s0 p;obtain⟨cl,e,_⟩:=aYR hc hw (J w).Sub;simp_all[iJ]
  ·obtain⟨k3,d,_⟩:=s20 p;obtain⟨cl,e,_⟩:=aYS hc (J w).Sub;grind[iJ]
  ·obtain⟨k4,d,_⟩:=hs.col p;rw[show iJ b w (J w).Sub=cQ b w (J w).Sub by grind[iJ]];have e:(cQ b w (J w).Sub).1.Mem=b.Mem\/NV (dK b.aQ w) (J w).Sub/\(cQ b w (J w).Sub).1.Mem=qC b.Mem w (J w).Sub.H:=by grind[cQ]
   rcases e with e|⟨ha,e⟩
   ·exact me e
   ·have hrm:=PI hL hw (aDY ⟨ha.1,ha.2.1⟩);have lv:=(hb.2 _ hrm).1;have hkn:=aI7 hb.1.1 hw lv;rw[ha.2.2] at hkn;rw[e];refine kn hkn λz=>?_;have u:=h.link hw hi hx;have u2:ind b (x % 32)=0:=aP λy=>y.2 ⟨_,hrm,lv.1,by rw[ha.2.2];exact z.symm⟩;omega
 ·show cH (vL b w (J w)).1.Mem x=_;unfold vL;split
  ·rfl
  ·obtain⟨s1,s2,s3,s4⟩:=hs.al p;rcases(aI8 hb.1.1 hw s1 s2 s3 s4).two with ⟨e,_⟩|⟨_,_,_,_,e⟩
   ·exact me e
   ·exact kn e aa
 ·show cH (DJ b w (J w)).1.Mem x=_;unfold DJ;split
  ·rfl
  ·rename_i q;obtain⟨_,k2,d,_⟩:=hs.rt p aa;grind[iJ,uA]
 ·show cH (DK b w (J w)).1.Mem x=_;unfold DK;split
  ·rfl
  ·rename_i q;simp only;split
   ·rfl
   ·simp only[aUZ];split
    ·rename_i lv;refine kn (aI7 hb.1.1 hw lv) λz=>?_;have hy:(J w).gL.getD 0 0∈own (J w):=by grind[own,kR]
     have u1:=h.link hw hi hx;have u2:=h.name hw hw hy;grind
    ·rfl
theorem bF1:∃c',sK Ky (eX b k w (J w)).b (eX b k w (J w)).k c' (upQ q w (qF Ky.length (q w) (J w))) (yS J w (eX b k w (J w)).j)/\ChW b.Mem (eX b k w (J w)).b.Mem c c' (J w) (eX b k w (J w)).j:=by
 have hc:=hb.1.2.1;have hpc:=(h.tw w hw hB).pc;by_cases hp:9<=(J w).Pc/\(J w).Pc<=13
 ·have e:eX b k w (J w)=⟨(lY b k (J w)).1,(lY b k (J w)).2.1,(lY b k (J w)).2.2,[]⟩:=by unfold eX;grind
  grind[a9U]
 have hm:=λi hi x hx=>bIT h hw hb hB hep aa (i:=i) hi (x:=x) hx;refine⟨c,?_,λi hi _=>⟨rfl,hm i hi⟩,λz=>absurd z hp,λz=>absurd z hp⟩;clear hm;have sm:((J w).Pc≠2/\(J w).Pc≠4)->∀{b':aA} {k':List bW} {j':aI},sK Ky b' k' c q (yS J w j')->sK Ky b' k' c (upQ q w (qF Ky.length (q w) (J w))) (yS J w j'):=λz {b' k' j'} s=>by rw[show qF Ky.length (q w) (J w)=q w by unfold qF;grind,a9I];exact s
 unfold eX;generalize hq:upQ q w (qF Ky.length (q w) (J w))=q' at sm ⊢;have P:∀{d:Prop} [Decidable d] {y z:TR},(d->sK Ky y.b y.k c q' (yS J w y.j))->(¬d->sK Ky z.b z.k c q' (yS J w z.j))->_:=dM (P:=λr=>sK Ky r.b r.k c q' (yS J w r.j));exact P (λp=>sm aa (bIS h hl hw hb hk hJ hB hep p)) λ_=>P (λp=>sm aa (bD4 h hl hw hc hJ hB p)) λ_=>P (λp=>hq ▸ bD6 h hl hw hc hJ hB p) λ_=>P (λp=>sm aa (a9S h hl hw hb hJ hB p)) λ_=>P (λp=>sm aa (bD7 h hl hw hc hJ hB hk.1 p)) λ_=>
  P (λp=>sm aa (bIP h hl hw hc hJ hB p)) λ_=>P (λp=>absurd p hp) λ_=>P (λp=>sm aa (a34 h hl hw hc hJ hB hk.1 p)) λ_=>P (λp=>sm aa (a35 h hl hw hb hJ hB p)) λ_=>P (λp=>sm aa (bD9 h hl hw hb hJ hB p)) λ_=>P (λp=>sm aa (a9P h hl hw hc hJ hB p)) λ_=>P (λp=>sm aa (bD8 h hl hw hc hJ hB p)) λ_=>aa
end
structure Sft (Ky:List Int) (q:Int->Nat) (t:Table):Prop where
 sv:∃c,sK Ky t.aA t.aR c q (aD t)
 lk:aMD t
 ep:EpT t.aA.aC (aD t)
 qk:∀w,eN w->∀b∈m6 t w,∀x∈b.bN,x.Key∈Ky
theorem Ep.a9Y{c:aC}{J J':Int->aI}(h:EpT c J)(e:∀v,eN v->J' v=J v):EpT c J':=Ep.congr (J:=λv=>sjT (J v)) h λv hv=>by rw[e v hv]
theorem L9(h3:t.aS.length=3)(hw:eN w){l:List aI}{x:aI}(hl:l=t.aS.set w.toNat x){v:Int}(hv:eN v):l.getD v.toNat cX=yS (aD t) w x v:=aME h3 hl hw hv
theorem a9Z(h3:t.fI.length=3){v:Int}(hw:eN w)(hv:eN v)(l:List Batch):((t.fI.set w.toNat ⟨l⟩).getD v.toNat ⟨[]⟩).List=if v=w then l else m6 t v:=by grind[m6]
def nxQ(Ky:List Int)(q:Int->Nat)(t:Table)(w:Int):Int->Nat:=if(aD t w).bQ then upQ q w (qF Ky.length (q w) (aD t w)) else q
theorem Sft.step{q:Int->Nat}(hv:TV t)(hw:eN w)(h:Sft Ky q t):Sft Ky (nxQ Ky q t w) (aW t w):=by
 have h3:=hv.wV.1;have hJ:∀v,eN v->(aD t v).bQ=true->JB (aD t v):=λv hv' hB=>(hv.wV.2 _ (zS h3 hv')).resolve_left λe=>by rw[e] at hB;cases hB
 obtain⟨c,hs⟩:=h.sv;have hlk:=h.lk.step hv hw;have hc:=hv.base.1.2.1;unfold nxQ;unfold aW at hlk ⊢;by_cases hB:(aD t w).bQ=true
 ·rw[aO hB] at hlk ⊢;rw[aO hB];obtain⟨c',q,_⟩:=bF1 hs h.lk hw hv.base hv.bk hJ hB h.ep;have e:∀v,eN v->aD (yQ t w (eX t.aA t.aR w (aD t w))) v=yS (aD t) w (eX t.aA t.aR w (aD t w)).j v:=λv hv'=>L9 h3 hw rfl hv';have sb:=hs.sb w hw;refine⟨⟨c',q.congr e⟩,hlk,Ep.a9Y (bLF hw hc h.ep hB (λp=>?_) (λp=>(sb.col p).1) (hs.tw w hw hB).pc) e,h.qk⟩;rcases p with p|⟨p,p'⟩
  ·exact .inl (sb.al p).1
  ·exact .inr (sb.rt p p').2.1
 ·rw[aP hB] at hlk ⊢;rw[aP hB];by_cases hq:(m6 t w).length=0\/t.aG=1000000
  ·grind
  ·rw[aP hq] at hlk ⊢;have hp0:0<(m6 t w).length:=aa
   have er:(m6 t w).getD 0 ⟨false,[]⟩=(m6 t w)[0]:=aj
   have hm:(m6 t w).getD 0 ⟨false,[]⟩∈m6 t w:=aj
   have hn:aD t w=cX:=(hv.wV.2 _ (zS h3 hw)).resolve_right λj=>hB j.busy;generalize (m6 t w).getD 0 ⟨false,[]⟩=x at hm hlk;have e:∀v,eN v->aD (qQ t w x) v=yS (aD t) w (iU x (t.aG+1)) v:=λv hv'=>L9 h3 hw rfl hv';refine⟨⟨c,(aVJ hs h.lk hw hc hJ hn (h.qk w hw x hm) _).congr e⟩,hlk,Ep.a9Y (a9X hw h.ep hn x _) e,λv hv' y hy z hz=>?_⟩;have ev:m6 (qQ t w x) v=if v=w then(m6 t w).drop 1 else m6 t v:=a9Z hv.todo.1 hw hv' _;rw[ev] at hy;split at hy
   ·exact h.qk w hw y (OH hy) z hz
   ·exact h.qk v hv' y hy z hz
theorem Sft.zero(hk:∀q∈l,∀b∈q.List,∀x∈b.bN,x.Key∈Ky):Sft Ky (λ_=>0) (b9 l):=by
 have ej:∀w,eN w->aD (b9 l) w=cX:=λw hw=>by rcases(by omega:w=0\/w=1\/w=2) with rfl|rfl|rfl<;>rfl
 have eb:∀i,oG i->dX (b9 l).aR i=⟨0,0,0⟩:=λi hi=>by rcases(by omega:i=0\/i=1) with rfl|rfl<;>rfl
 have o:own cX=[]:=(GX (.inl ai)).1;have e0:=ej 0 (by simp[eN]);have e1:=ej 1 (by simp[eN]);have e2:=ej 2 (by simp[eN]);refine⟨⟨λ_=>[],rfl,λi hi=>by rw[eb i hi];rfl,λi _=>by simp[mW],λs=>?_,λv hv x hx=>?_,λv hv hB=>?_,λv hv=>by rw[ej v hv];exact .no ai,λv hv=>by rw[ej v hv];exact .no ai⟩,aMD.zero l,?_,λw hw b hb x hx=>?_⟩
 ·have:ind (b9 l).aA s=0:=UB (.inl λq=>by
   have hc:=dQ q;obtain⟨h1,h2,_⟩:=rE hc;have h3:=j4.1 (show 0<cJ (cZ a07 (s/4).toNat) from Int.lt_of_le_of_lt aa h2);rcases(by omega:(s/4).toNat=0\/(s/4).toNat=1\/(s/4).toNat=2\/(s/4).toNat=3\/(s/4).toNat=4\/(s/4).toNat=5) with e|e|e|e|e|e<;>rw[e] at h3<;>exact absurd h3.1 ai)
  simp_all[cnC,cnO]
 ·grind
 ·rw[ej v hv] at hB;cases hB
 ·refine⟨λw hw hB=>?_,λw hw _ o1=>?_⟩
  ·have hB':(sjT (aD (b9 l) w)).bQ=true:=hB;rw[ej w hw] at hB';cases hB'
  ·rcases(by omega:w=0\/w=1\/w=2) with rfl|rfl|rfl<;>cases o1
 grind[m6,b9]
def UC(e:Int)(s:Sub):Int:=if s.Pc=0 then 3 else if s.Pc=1 then(if s.E=e then 2 else 5) else if s.E=e then 1 else 4
def QP(s:Sub):Int:=if s.Pc=0 then 5 else if s.Pc=1 then 4-s.B else 1
def UD(s:Sub):Int:=if s.Pc=0 then 8 else if s.Pc=1 then 7 else if s.Pc=2 then 6-s.B else 3
def cA(e:Int)(q:Nat)(j:aI):Int:=
 if j.bQ=false then 0
 else if j.Pc=0 then UC e j.Sub+j.Batch.bN.length*42+15
 else if j.Pc=1 then(j.Batch.bN.length-j.At)*19+j.Batch.bN.length*23+15
 else if j.Pc=2 then(j.Batch.bN.length-j.At)*19-1+j.Batch.bN.length*23+15
 else if j.Pc=3 then(j.Batch.bN.length-j.At-1)*19+2*q+3+j.Batch.bN.length*23+15
 else if j.Pc=4 then(j.Batch.bN.length-j.At-1)*19+2*q+2+j.Batch.bN.length*23+15
 else if j.Pc=5 then(j.Batch.bN.length-j.At-1)*19+1+j.Batch.bN.length*23+15
 else if j.Pc=6 then(if j.K<fQ j.aH j.aH.length then 4*(fQ j.aH j.aH.length-j.K)-j.Sub.Pc else 0)+j.aH.length*19+14
 else if j.Pc=7 then(if j.K<(pZ j.aH).length then 13-j.K else 11)+j.aH.length*19
 else if j.Pc=8 then(if j.K<j.Reads.length then(j.Reads.length:Int)-j.K else 0)+6+j.bE.length+j.aH.length*19
 else if j.Pc=9 then(if j.K<j.aH.length then((j.aH.length:Int)-j.K)*19 else 0)+5+7*j.cB.length+j.bE.length
 else if j.Pc=10 then(j.aH.length-j.K)*19-3+q+7*j.cB.length+j.bE.length
 else if j.Pc=11 then(j.aH.length-j.K)*19-4+7*j.cB.length+j.bE.length
 else if j.Pc=12 then(j.aH.length-j.K)*19-12+7*j.cB.length+j.bE.length
 else if j.Pc=13 then(j.aH.length-j.K)*19-13+7*j.cB.length+j.bE.length
 else if j.Pc=14 then 4+7*j.cB.length+j.bE.length
 else if j.Pc=15 then(if j.K<j.cB.length then 3+7*(j.cB.length-j.K)-j.Sub.Pc else 3)
 else if j.Pc=16 then 4+j.gL.length+j.bE.length
 else if j.Pc=17 then 3+j.gL.length
 else if j.Pc=18 then 2
 else if j.Pc=19 then 1
 else if j.Pc=20 then QP j.Sub+8
 else UD j.Sub
section
variable {e:Int} {q:Nat} {j:aI} (hB:j.bQ=true)
include hB
theorem jc0(hp:j.Pc=0):cA e q j=UC e j.Sub+j.Batch.bN.length*42+15:=by simp_all[cA]
theorem jc1(hp:j.Pc=1):cA e q j=(j.Batch.bN.length-j.At)*19+j.Batch.bN.length*23+15:=by simp_all[cA]
theorem jc2(hp:j.Pc=2):cA e q j=(j.Batch.bN.length-j.At)*19-1+j.Batch.bN.length*23+15:=by simp_all[cA]
theorem jc3(hp:j.Pc=3):cA e q j=(j.Batch.bN.length-j.At-1)*19+2*q+3+j.Batch.bN.length*23+15:=by simp_all[cA]
theorem jc4(hp:j.Pc=4):cA e q j=(j.Batch.bN.length-j.At-1)*19+2*q+2+j.Batch.bN.length*23+15:=by simp_all[cA]
theorem jc5(hp:j.Pc=5):cA e q j=(j.Batch.bN.length-j.At-1)*19+1+j.Batch.bN.length*23+15:=by simp_all[cA]
theorem jc6(hp:j.Pc=6):cA e q j=(if j.K<fQ j.aH j.aH.length then 4*(fQ j.aH j.aH.length-j.K)-j.Sub.Pc else 0)+j.aH.length*19+14:=by simp_all[cA]
theorem jc7(hp:j.Pc=7):cA e q j=(if j.K<(pZ j.aH).length then 13-j.K else 11)+j.aH.length*19:=by simp_all[cA]
theorem jc8(hp:j.Pc=8):cA e q j=(if j.K<j.Reads.length then(j.Reads.length:Int)-j.K else 0)+6+j.bE.length+j.aH.length*19:=by simp_all[cA]
theorem jc9(hp:j.Pc=9):cA e q j=(if j.K<j.aH.length then((j.aH.length:Int)-j.K)*19 else 0)+5+7*j.cB.length+j.bE.length:=by simp_all[cA]
theorem bEC(hp:j.Pc=10):cA e q j=(j.aH.length-j.K)*19-3+q+7*j.cB.length+j.bE.length:=by simp_all[cA]
theorem bIU(hp:j.Pc=11):cA e q j=(j.aH.length-j.K)*19-4+7*j.cB.length+j.bE.length:=by simp_all[cA]
theorem bIV(hp:j.Pc=12):cA e q j=(j.aH.length-j.K)*19-12+7*j.cB.length+j.bE.length:=by simp_all[cA]
theorem bIW(hp:j.Pc=13):cA e q j=(j.aH.length-j.K)*19-13+7*j.cB.length+j.bE.length:=by simp_all[cA]
theorem bED(hp:j.Pc=14):cA e q j=4+7*j.cB.length+j.bE.length:=by simp_all[cA]
theorem aYU(hp:j.Pc=15):cA e q j=(if j.K<j.cB.length then 3+7*(j.cB.length-j.K)-j.Sub.Pc else 3):=by simp_all[cA]
theorem a90(hp:j.Pc=16):cA e q j=4+j.gL.length+j.bE.length:=by simp_all[cA]
theorem bIX(hp:j.Pc=17):cA e q j=3+j.gL.length:=by simp_all[cA]
theorem bEE(hp:j.Pc=18):cA e q j=2:=by simp_all[cA]
theorem bEF(hp:j.Pc=19):cA e q j=1:=by simp_all[cA]
theorem a91(hp:j.Pc=20):cA e q j=QP j.Sub+8:=by simp_all[cA]
theorem aYV(hp:j.Pc=21):cA e q j=UD j.Sub:=by simp_all[cA]
end
def kI(b:aA)(w:Int):Int:=(dK b.aQ w).length
theorem aD5{x:Sub}{A B:aI}(h:x.gX=false):(if x.gX=false then A else B)=A:=aO h
theorem aP6(hj:JB j):j.bE.length<=2:=by
 have:=yR (l:=j.bE) (m:=[0,1]) hj.held.2 λx hx=>by have:=hj.held.1 x hx;simp;omega
 omega
section
variable {Ky:List Int} {b:aA} {k:List bW} {c:Int->List Int} {q:Int->Nat} {J:Int->aI} {w:Int} (hK:Ky.length<=8) (h:sK Ky b k c q J) (hl:∀v,eN v->Y4 k v (J v)) (hw:eN w) (hb:m5 b) (hk:k.length=2/\∀x∈k,BkV x) (hJ:∀v,eN v->(J v).bQ=true->JB (J v)) (hB:(J w).bQ=true) (hep:EpT b.aC J)
include hK h hl hw hb hk hJ hB hep
theorem aSG{e:Int}{n:Nat}{x:Int}(hn:j'.gL.length<=(J w).aH.length/\j'.bE.length<=2):cA e n (sL j' x)<=6+(J w).aH.length:=by
 cases hb':j'.bQ
 ·unfold cA;rw[aO (show(sL j' x).bQ=false from hb')];omega
 grind[a90,sL]
theorem aVN{e:Int}{n:Nat}{v:Int}{is:Bool}(h1:1<=j.Pc/\j.Pc<=5)(t:TW Ky b.Mem k c n j)(hj:JB j)(ha:uB j):cA e n (qU j (cG j) v is)<=(j.Batch.bN.length-j.At-1)*19+j.Batch.bN.length*23+15:=by
 obtain⟨t1,t2⟩:=aYT t hj h1 ha v is;have hat:(qU j (cG j) v is).At=j.At+1/\(qU j (cG j) v is).Batch=j.Batch/\(qU j (cG j) v is).bQ=j.bQ:=by
  have hm:=YH j.aH ⟨(cG j).Key,false,vK (if is then v else 0) (cG j).dC⟩;have:=t.wl;have:=hj.VZ.2.1;unfold uB at ha;unfold qU;split
  ·unfold VW oD T7;grind
  ·exact⟨rfl,rfl,rfl⟩
 rw[jc1 (hat.2.2.trans hj.busy) t2,hat.1,hat.2.1];omega
theorem a92(hp:(J w).Pc=0\/(J w).Pc=20\/(J w).Pc=21):cA (nZ b w (J w)).1.aC.aL (q w) (nZ b w (J w)).2+5*kI (nZ b w (J w)).1 w+1<=cA b.aC.aL (q w) (J w)+5*kI b w/\((nZ b w (J w)).1.aC.aL=b.aC.aL\/(J w).Pc=20/\(nZ b w (J w)).2.Pc=21):=by
 have hc:=hb.1.2.1;have hj:=hJ w hw hB;have hat:=hj.at_;obtain⟨s0,s20⟩:=aMS hw hc hep hB;rcases hp with p|p|p
 ·obtain⟨k5,d,s⟩:=s0 p;have es:iJ b w (J w).Sub=zP b w (J w).Sub:=by simp_all[iJ]
  obtain⟨cl,e,e1,e2⟩:=aYR hc hw (J w).Sub;unfold nZ;rw[es,aO p,jc0 hB p];have hr:kI (zP b w (J w).Sub).1 w=kI b w:=by rw[e];rfl
  have he:(zP b w (J w).Sub).1.aC.aL=b.aC.aL:=aj
  simp only[hr,he];refine⟨?_,.inl trivial⟩;rcases s with z|⟨z,z1,z2⟩|⟨z,z1⟩
  ·have e3:(zP b w (J w).Sub).2={(J w).Sub with Pc:=1,E:=b.aC.aL}:=by unfold zP;grind
   rw[e3,aD5 (by exact d),jc0 (by exact hB) (by exact p)];grind[UC]
  ·have e3:(zP b w (J w).Sub).2={(J w).Sub with Pc:=2}:=by simp_all[QM,zP]
   rw[e3,aD5 (by exact d),jc0 (by exact hB) (by exact p)];grind[UC]
  ·by_cases y:b.aC.aL=(J w).Sub.E
   ·have e3:(zP b w (J w).Sub).2=yO (J w).Sub 0:=by unfold zP;grind
    rw[e3,aP (by simp[yO]),jc1 (by exact hB) rfl];grind[UC]
   ·have e3:(zP b w (J w).Sub).2={(J w).Sub with Pc:=0}:=by unfold zP;grind
    rw[e3,aD5 (by exact d),jc0 (by exact hB) (by exact p)];unfold UC;grind
 ·obtain⟨k3,d,s⟩:=s20 p;have es:iJ b w (J w).Sub=fF b (J w).Sub:=by grind[iJ]
  have hr:kI (fF b (J w).Sub).1 w=kI b w:=by obtain⟨cl,e,_⟩:=aYS hc (J w).Sub;rw[e];rfl
  unfold nZ;rw[es,aP (show ¬(J w).Pc=0 by omega),aO p,a91 hB p];simp only[hr];have dn:∀{x:Sub} {b':aA},x.gX=true->1<=QP (J w).Sub->cA b'.aC.aL (q w) (if x.gX=false then {J w with Sub:=x} else {J w with Pc:=21,Sub:=zQ 4 0})+5*kI b w+1<=QP (J w).Sub+8+5*kI b w/\(b'.aC.aL=b.aC.aL\/(J w).Pc=20/\(if x.gX=false then {J w with Sub:=x} else {J w with Pc:=21,Sub:=zQ 4 0}).Pc=21):=λ{x b'} hx h1=>by rw[aP (by simp[hx]),aYV (by exact hB) rfl];grind[UD,zQ]
  rcases s with z|⟨_,⟨z,z1⟩|⟨z,z1⟩⟩
  ·have e3:fF b (J w).Sub=(b,{(J w).Sub with Pc:=1,E:=b.aC.aL,B:=0}):=by simp_all[fF]
   rw[e3,aD5 (by exact d),a91 (by exact hB) (by exact p)];grind[QP]
  ·by_cases y:(HL b.aC (J w).Sub.B (J w).Sub.E).2=true
   ·have e3:fF b (J w).Sub=({b with aC:=(HL b.aC (J w).Sub.B (J w).Sub.E).1},{(J w).Sub with Pc:=if(J w).Sub.B=2 then 2 else 1,B:=(J w).Sub.B+1}):=by simp_all[fF]
    rw[e3,aD5 (by exact d),a91 (by exact hB) (by exact p)];grind[aL3,QP]
   ·have e3:(fF b (J w).Sub).2=yO (J w).Sub 8:=by simp_all[fF]
    rw[e3];exact dn rfl (by unfold QP;omega)
  ·have e3:(fF b (J w).Sub).2.gX=true:=by unfold fF;rw[iE,iE,aO z];rfl
   exact dn e3 (by simp_all[QP])
 ·obtain⟨k4,d,s⟩:=(h.sb w hw).col p;have es:iJ b w (J w).Sub=cQ b w (J w).Sub:=by simp_all[iJ]
  have hcl:(cQ b w (J w).Sub).1.aC=b.aC:=by grind[NW]
  unfold nZ;rw[es,aP (show ¬(J w).Pc=0 by omega),aP (show ¬(J w).Pc=20 by omega),aYV hB p];simp only[hcl];refine⟨?_,.inl trivial⟩;rcases s with z|⟨_,⟨z,r0⟩|⟨z,hB2,ha,hr⟩|⟨z,ha,hr⟩⟩
  ·have e:cQ b w (J w).Sub=(b,{(J w).Sub with Pc:=1,E:=b.aC.aL,Row:=0}):=by simp_all[cQ]
   rw[e,aD5 (by exact d),aYV (by exact hB) (by exact p)];grind[UD]
  ·by_cases y:sJ (dK b.aQ w) (J w).Sub.E (J w).Sub.Row.toNat<(dK b.aQ w).length
   ·have e:cQ b w (J w).Sub=(b,{(J w).Sub with Pc:=2,Row:=(sJ (dK b.aQ w) (J w).Sub.E (J w).Sub.Row.toNat:Int),B:=0,H:=(L4 (dK b.aQ w) (sJ (dK b.aQ w) (J w).Sub.E (J w).Sub.Row.toNat:Int)).Handle}):=by simp_all[cQ]
    rw[e,aD5 (by exact d),aYV (by exact hB) (by exact p)];grind[UD]
   ·have e:cQ b w (J w).Sub=(b,yO (J w).Sub 0):=by simp_all[cQ,aP]
    rw[e,aP (by simp[yO]),bEF (by exact hB) rfl];grind[UD]
  ·have hH:(J w).Sub.H≠0:=by have:=(hb.2 _ (PI hb.1.2.2.1 hw (aDY ⟨ha.1,ha.2.1⟩))).1.1;rw[ha.2.2] at this;grind[lN]
   have e:cQ b w (J w).Sub=(b,{(J w).Sub with Pc:=if(J w).Sub.B=2 then 3 else 2,B:=(J w).Sub.B+1}):=by unfold cQ;rw[iE,iE,aO z,aO ⟨hB2,ha⟩,aP (by rw[bF0 h.hz hB2];omega)]
   rw[e,aD5 (by exact d),aYV (by exact hB) (by exact p)];unfold UD;grind
  ·have e:cQ b w (J w).Sub=({b with Mem:=qC b.Mem w (J w).Sub.H,aQ:=b.aQ.set w.toNat ⟨(dK b.aQ w).eraseIdx (J w).Sub.Row.toNat⟩},{(J w).Sub with Pc:=1,Out:=aY ((J w).Sub.Out+1)}):=by simp_all[cQ]
   rw[e,aD5 (by exact d),aYV (by exact hB) (by exact p)];have h3:=hb.1.2.2.1.1;have er:kI ({b with Mem:=qC b.Mem w (J w).Sub.H,aQ:=b.aQ.set w.toNat ⟨(dK b.aQ w).eraseIdx (J w).Sub.Row.toNat⟩}:aA) w=kI b w-1:=by have h1:=ha.1;have h2:=ha.2.1;unfold kI dK at *;grind
   simp only[er];unfold UD;grind
end
section
variable {Ky:List Int} {b:aA} {k:List bW} {c:Int->List Int} {q:Int->Nat} {J:Int->aI} {w:Int} (hK:Ky.length<=8) (h:sK Ky b k c q J) (hl:∀v,eN v->Y4 k v (J v)) (hw:eN w) (hb:m5 b) (hk:k.length=2/\∀x∈k,BkV x) (hJ:∀v,eN v->(J v).bQ=true->JB (J v)) (hB:(J w).bQ=true) (hep:EpT b.aC J)
include hK h hl hw hb hk hJ hB hep
theorem a37{e:Int}{n:Nat}(hp:(J w).Pc=1):cA e n (qP (J w))+1<=cA e n (J w):=by
 have t:=h.tw w hw hB;have hj:=hJ w hw hB;have hat:=hj.at_;have t1:TW Ky b.Mem k c n (J w):={t with st:=λz=>absurd z aa};rw[jc1 hB hp];unfold qP;split
 ·rename_i ha;split
  ·have h6:=hj.VZ.2.1;have wl:=t.wl;have hlen:=YH (J w).aH ⟨(cG (J w)).Key,(cG (J w)).Kind == 3,(cG (J w)).dC⟩;unfold uB at ha;unfold oD;rw[aP (show ¬6<(vI (J w).aH ⟨(cG (J w)).Key,(cG (J w)).Kind == 3,(cG (J w)).dC⟩).length by omega),aO rfl,jc1 (by exact hB) (by exact hp)];grind
  ·split
   ·have:=aVN hK h hl hw hb hk hJ hB hep (e:=e) (n:=n) (v:=(OE (J w).aH (cG (J w)).Key).1.dC) (is:=!(OE (J w).aH (cG (J w)).Key).1.G6) aa t1 hj ha;omega
   ·rw[jc2 (by exact hB) rfl];grind
 ·rename_i ha;have wl:=t.wl;have pl:=SA (J w).aH (J w).aH.length;grind[jc6,zQ]
theorem a38{e:Int}(hp:2<=(J w).Pc/\(J w).Pc<=5):cA e (qF Ky.length (q w) (J w)) (iQ b k w (J w))+1<=cA e (q w) (J w):=by
 have t:=h.tw w hw hB;have hj:=hJ w hw hB;have hat:=hj.at_;have ha:=t.hc hp;have wl:=t.wl;have h2:=aP6 hj;have hN:=t.nO aa;have ab:∀{j':aI} {x:Int},j'.gL=(J w).gL/\j'.bE=(J w).bE->∀n,cA e n (sL j' x)<=6+(J w).aH.length:=λ{j' x} z n=>aSG hK h hl hw hb hk hJ hB hep aj;have ha':(J w).At<(J w).Batch.bN.length:=ha;unfold iQ;by_cases p2:(J w).Pc=2
 ·rw[aO p2,jc2 hB p2];split
  ·grind
  ·have hq:qF Ky.length (q w) (J w)<=7:=by simp_all[qF]
   split
   ·rw[jc5 (by exact hB) rfl];grind
   ·rw[jc3 (by exact hB) rfl];grind
 rw[aP p2];by_cases p3:(J w).Pc=3
 ·rw[aO p3,jc3 hB p3,jc4 (by exact hB) rfl,show qF Ky.length (q w) (J w)=q w by simp_all[qF]];grind
 rw[aP p3];by_cases p4:(J w).Pc=4
 ·rw[aO p4,jc4 hB p4];split
  ·grind
  ·rename_i hpn;have hpin:mG b.aC w:=Classical.byContradiction hpn;obtain⟨r,⟨a,la⟩,a5⟩:=h.rd w hw (.inr p4) hpin;obtain⟨_,a6⟩:=a5 p4;by_cases z:(J w).Node.Key=(cG (J w)).Key\/L6 (J w).Node=0
   ·rw[aO z,jc5 (by exact hB) rfl];grind
   ·rw[aP z,jc3 (by exact hB) rfl];have hq:qF Ky.length (q w) (J w)=q w-1:=by simp_all[qF]
    grind[L6]
 rw[aP p4,jc5 hB aa];split
 ·grind
 split
 ·grind
 have tr:TW Ky b.Mem k c (qF Ky.length (q w) (J w)) {J w with Reads:=(sI (J w).Reads (J w).bW (J w).eO).1}:={t with st:=λz=>absurd z aj};have:=aVN hK h hl hw hb hk hJ hB hep (e:=e) (v:=(J w).Node.dC) (is:=(J w).Found) aj tr (hj.spt _ _ hj.bkt) ha;exact aJJ (Int.add_le_add_right this 1) aj
theorem aYW(hp:(J w).Pc=6):cA b.aC.aL (q w) (vL b w (J w)).2+1<=cA b.aC.aL (q w) (J w):=by
 have t:=h.tw w hw hB;have hj:=hJ w hw hB;have h2:=aP6 hj;have hn6:=t.n6 hp;have pl:=SA (J w).aH (J w).aH.length;obtain⟨s1,s2,s3,s4⟩:=(h.sb w hw).al hp;rw[jc6 hB hp];unfold vL;by_cases c1:fQ (J w).aH (J w).aH.length<=(J w).K
 ·rw[aO c1,jc7 (by exact hB) rfl];grind
 rw[aP c1,aO (show(J w).K<_ by omega)];obtain⟨q1,q2,q3,q4⟩:=aI8 hb.1.1 hw s1 s2 s3 s4;have hwl:=hj.wr.1;simp only;rcases q4 with ⟨em,⟨d,e⟩|⟨e1,e2⟩⟩|⟨d,e,wk,tk,kn⟩
 ·rw[aP aj,aO (.inl aa)];exact aJJ (Int.add_le_add_right (aSG hK h hl hw hb hk hJ hB hep (e:=b.aC.aL) (n:=q w) (j':={J w with Sub:=(iJ b w (J w).Sub).2}) (x:=(iJ b w (J w).Sub).2.Code) ⟨aj,h2⟩) 1) aa
 ·rw[aO aj,jc6 (by exact hB) (by exact hp),e2];grind
 ·rw[aP aj,aP (by
   rintro(q|q|q)
   ·exact q e
   ·exact q wk.1.1
   ·omega),jc6 (by exact hB) (by exact hp)]
  grind[zQ]
theorem a39{e:Int}{n:Nat}(hp:(J w).Pc=7):cA e n (oS k w (J w)).2.1+1<=cA e n (J w):=by
 have t:=h.tw w hw hB;have hj:=hJ w hw hB;have h2:=aP6 hj;have hr2:=hj.rd2;have hn7:=(t.n7 aa).1;have pl:=SA (J w).aH (J w).aH.length;have tl:=aRV (J w).aH;have ab:∀x,cA e n (sL (J w) x)<=6+(J w).aH.length:=λx=>aSG hK h hl hw hb hk hJ hB hep ⟨aa,h2⟩;rw[jc7 hB hp];unfold oS;by_cases c1:(J w).K<(pZ (J w).aH).length
 ·rw[aO c1,aO c1];have hk0:=hj.k;split
  ·grind
  split
  ·grind
  have h1:(IC (J w)).bE.length<=2:=by
   have hi:(J w).K.toNat<(pZ (J w).aH).length:=aa
   have er:fV (J w)=(pZ (J w).aH)[(J w).K.toNat]:=by grind[fV]
   have hbk:0<=fV (J w)/\fV (J w)<=1:=by grind[R6,dF]
   unfold IC;simp only;split
   ·exact h2
   ·rename_i hm;have:=yR (l:=(J w).bE++[fV (J w)]) (m:=[0,1]) (aF1.2 ⟨hj.held.2,ae,λa ha y hy=>aj⟩) λx hx=>by
     rcases cY.1 hx with hx|hx
     ·have:=hj.held.1 x hx;simp;omega
     grind
    omega
  split
  ·grind[jc8,IC]
  ·rw[jc7 (by exact hB) (by exact hp)];unfold IC;grind
 ·rw[aP c1,aP c1,jc8 (by exact hB) rfl];grind
theorem a93{e:Int}{n:Nat}(hp:(J w).Pc=8):cA e n (JZ k w (J w))+1<=cA e n (J w):=by
 have t:=h.tw w hw hB;have hj:=hJ w hw hB;have h2:=aP6 hj;have hO:=t.oO aa;have hn7:=(t.n7 aa).1;have pl:=SA (J w).aH (J w).aH.length;rw[jc8 hB hp];unfold JZ;by_cases c1:((J w).Reads.length:Int)<=(J w).K
 ·rw[aO c1,jc9 (by exact hB) rfl];grind
 rw[aP c1,aO (show(J w).K<_ by omega)];grind[a90,sL,jc8]
theorem a94{e:Int}{n:Nat}(hp:(J w).Pc=14\/(J w).Pc=16):cA e n (AQ k (J w)).2+1<=cA e n (J w):=by
 unfold AQ;by_cases c1:0<(J w).bE.length
 ·rw[aO c1];grind[bED,a90]
 ·rw[aP c1];rcases hp with p|p
  ·rw[iE,bED hB p];unfold J0;by_cases z:(0:Int)<(J w).cB.length
   ·rw[aO z,aYU (by exact hB) rfl];simp only[zQ];omega
   simp_all[aYU]
  ·rw[aO p,a90 hB p,bIX (by exact hB) rfl];grind
theorem a95{e:Int}{n:Nat}(hp:(J w).Pc=15):cA e n (DJ b w (J w)).2+5*kI (DJ b w (J w)).1 w+1<=cA e n (J w)+5*kI b w:=by
 have hj:=hJ w hw hB;unfold DJ;rw[aYU hB hp];by_cases c1:((J w).cB.length:Int)<=(J w).K
 ·rw[aO c1,bEE (by exact hB) rfl,aP (show ¬(J w).K<_ by omega)];grind
 rw[aP c1,aO (show(J w).K<_ by omega)];obtain⟨s0,s1,s2,s3,s4⟩:=(h.sb w hw).rt hp aa;have es:iJ b w (J w).Sub=uA b w (J w).Sub:=by grind[iJ]
 rw[es];rcases s4 with p0|⟨p1,e0,e1⟩
 ·have er:uA b w (J w).Sub=(b,{(J w).Sub with Pc:=1,E:=b.aC.aL}):=by simp_all[uA]
  rw[er,aP (by simp[s2]),aYU (by exact hB) (by exact hp)];grind
 ·have hr:kI (uA b w (J w).Sub).1 w<=kI b w+1/\(uA b w (J w).Sub).2.gX=true:=by
   have h3:=hb.1.2.2.1.1;unfold uA;rw[iE,aO p1,aO ⟨e0,e1⟩];split
   ·refine⟨?_,rfl⟩;unfold kI dK;grind
   ·exact⟨aj,rfl⟩
  rw[aO hr.2];unfold J0;by_cases z:(J w).K+1<(J w).cB.length
  ·rw[aO z,aYU (by exact hB) (by exact hp)];simp only[zQ];omega
  ·rw[aP z,aYU (by exact hB) (by exact hp)];grind
end
section
variable {Ky:List Int} {b:aA} {k:List bW} {c:Int->List Int} {q:Int->Nat} {J:Int->aI} {w:Int} (hK:Ky.length<=8) (h:sK Ky b k c q J) (hl:∀v,eN v->Y4 k v (J v)) (hw:eN w) (hb:m5 b) (hk:k.length=2/\∀x∈k,BkV x) (hJ:∀v,eN v->(J v).bQ=true->JB (J v)) (hB:(J w).bQ=true) (hep:EpT b.aC J)
include hK h hl hw hb hk hJ hB hep
theorem a96{e:Int}(hp:9<=(J w).Pc/\(J w).Pc<=13):cA e (qF Ky.length (q w) (J w)) (lY b k (J w)).2.2+1<=cA e (q w) (J w):=by
 have t:=h.tw w hw hB;have hj:=hJ w hw hB;have hk0:=hj.k;generalize hn:qF Ky.length (q w) (J w)=n;have place:∀{j1:aI},j1.bQ=true->(J w).K<(J w).aH.length->j1.aH=(J w).aH/\j1.K=(J w).K/\j1.bE=(J w).bE->cA e n (L7 j1 (mV (J w)))<=((J w).aH.length-(J w).K)*19-12+7*j1.cB.length+(J w).bE.length:=λ{j1} hb1 hlt ⟨e1,e2,e3⟩=>by grind[L7,jc9,bIV]
 unfold lY;by_cases c1:((J w).aH.length:Int)<=(J w).K
 ·have p9:(J w).Pc=9:=by have:=t.k9;omega
  rw[aO c1,jc9 hB p9,bED (by exact hB) rfl,aP (show ¬(J w).K<_ by omega)];grind
 rw[aP c1];have hlt:(J w).K<(J w).aH.length:=aa
 by_cases p9:(J w).Pc=9
 ·rw[aO p9,jc9 hB p9,aO hlt];have hq:n<=7:=by rw[<-hn];unfold qF;grind
  simp only;split
  ·grind
  ·rw[bEC (by exact hB) rfl];grind
 rw[aP p9];by_cases p10:(J w).Pc=10
 ·rw[aO p10,bEC hB p10];simp only;obtain⟨A,B,e1,⟨e2,e3⟩,e4⟩:=t.st (.inl p10);have hq:n=q w-1:=by simp_all[qF]
  split
  ·rw[bIU (by exact hB) rfl];grind
  split
  ·grind
  ·rename_i z1 z2;rw[bEC (by exact hB) (by exact p10),hq];have hi:(J w).K.toNat<(J w).aH.length:=aa
   have er:mV (J w)=(J w).aH[(J w).K.toNat]:=by grind[mV]
   have hx:=hj.wr.2.1 _ (show mV (J w)∈(J w).aH by grind);have hbk:oG (bi (J w)):=by unfold bi jJ;omega
   have hch:=h.ch _ hbk;rw[e1] at hch;have hH:=hch.split;rw[aSE hH.2.1,aMP hH.2.2.1] at z2;have:1<=B.length:=by
    match B,hH.2.2.2 with
    |[],y=>exact absurd y z2
    |_::_,_=>simp
   grind
 rw[aP p10];by_cases p11:(J w).Pc=11
 ·rw[aO p11,bIU hB p11];grind[L8]
 rw[aP p11];obtain⟨nm,_⟩:=aML h hw t hj aa;have hlen:¬((J w).gL.length:Int)<=fQ (J w).aH (J w).K:=λz=>by simp_all[fQ,aBY,aD3]
 rw[aP hlen];by_cases p12:(J w).Pc=12
 ·rw[aO p12,bIV hB p12,bIW (by exact hB) rfl];grind
 ·rw[aP p12,bIW hB aa,jc9 (by exact hB) rfl];grind
theorem bEG:cA (eX b k w (J w)).b.aC.aL (qF Ky.length (q w) (J w)) (eX b k w (J w)).j+5*kI (eX b k w (J w)).b w+1<=cA b.aC.aL (q w) (J w)+5*kI b w/\((eX b k w (J w)).b.aC.aL=b.aC.aL\/(J w).Pc=20/\(eX b k w (J w)).j.Pc=21):=by
 have hc:=hb.1.2.1;have t:=h.tw w hw hB;have hpc:=t.pc;have sm:((J w).Pc≠2/\(J w).Pc≠4/\(J w).Pc≠9/\(J w).Pc≠10)->qF Ky.length (q w) (J w)=q w:=λz=>by simp_all[qF]
 generalize hn:qF Ky.length (q w) (J w)=n at sm;have fl:∀{b':aA} {k':List bW} {j':aI} {l:List j7},b'.aC.aL=b.aC.aL->kI b' w=kI b w->cA b.aC.aL n j'+1<=cA b.aC.aL (q w) (J w)->cA (⟨b',k',j',l⟩:TR).b.aC.aL n (⟨b',k',j',l⟩:TR).j+5*kI (⟨b',k',j',l⟩:TR).b w+1<=cA b.aC.aL (q w) (J w)+5*kI b w/\((⟨b',k',j',l⟩:TR).b.aC.aL=b.aC.aL\/(J w).Pc=20/\(⟨b',k',j',l⟩:TR).j.Pc=21):=λ{b' k' j' l} e1 e2 e3=>⟨aj,.inl e1⟩;unfold eX;have P:∀{c:Prop} [Decidable c] {x y:TR},(c->cA x.b.aC.aL n x.j+5*kI x.b w+1<=cA b.aC.aL (q w) (J w)+5*kI b w/\(x.b.aC.aL=b.aC.aL\/(J w).Pc=20/\x.j.Pc=21))->(¬c->cA y.b.aC.aL n y.j+5*kI y.b w+1<=cA b.aC.aL (q w) (J w)+5*kI b w/\(y.b.aC.aL=b.aC.aL\/(J w).Pc=20/\y.j.Pc=21))->_:=
  dM (P:=λr=>cA r.b.aC.aL n r.j+5*kI r.b w+1<=cA b.aC.aL (q w) (J w)+5*kI b w/\(r.b.aC.aL=b.aC.aL\/(J w).Pc=20/\r.j.Pc=21))
 refine P (λp=>?_) λ_=>P (λp=>fl rfl rfl (by rw[sm aa];exact a37 hK h hl hw hb hk hJ hB hep p)) λ_=>P (λp=>fl rfl rfl (hn ▸ a38 hK h hl hw hb hk hJ hB hep p)) λ_=>P (λp=>?_) λ_=>P (λp=>fl rfl rfl (by rw[sm aa];exact a39 hK h hl hw hb hk hJ hB hep p)) λ_=>P (λp=>fl rfl rfl (by rw[sm aa];exact a93 hK h hl hw hb hk hJ hB hep p)) λ_=>
  P (λp=>fl (b':=(lY b k (J w)).1) (k':=(lY b k (J w)).2.1) (j':=(lY b k (J w)).2.2) (l:=[]) (by grind[lY]) (by grind[lY,kI]) (hn ▸ a96 hK h hl hw hb hk hJ hB hep p)) λ_=>P (λp=>fl rfl rfl ?_) λ_=>P (λp=>?_) λ_=>P (λp=>?_) λ_=>P (λp=>?_) λ_=>P (λp=>fl rfl rfl ?_) λ_=>aa
 ·rw[sm aa];obtain⟨a1,a2⟩:=a92 hK h hl hw hb hk hJ hB hep p;grind
 ·obtain⟨s1,s2,s3,s4⟩:=(h.sb w hw).al p;obtain⟨q1,q2,q3,_⟩:=aI8 hb.1.1 hw s1 s2 s3 s4;have e1:(vL b w (J w)).1.aC=b.aC:=by grind[vL]
  have e2:(vL b w (J w)).1.aQ=b.aQ:=by grind[vL]
  exact fl (b':=(vL b w (J w)).1) (k':=k) (j':=(vL b w (J w)).2) (l:=[]) (bZ aC.aL e1) (bZ (λl=>((dK l w).length:Int)) e2) (by rw[sm aa];exact aYW hK h hl hw hb hk hJ hB hep p)
 ·rw[sm aa];exact a94 hK h hl hw hb hk hJ hB hep p
 ·have hcl:(DJ b w (J w)).1.aC=b.aC:=by
   unfold DJ;split
   ·rfl
   ·exact NW (by have:=(h.sb w hw).rt p aa;omega)
  refine⟨?_,.inl (by rw[hcl])⟩;simp only;rw[hcl,sm aa];exact a95 hK h hl hw hb hk hJ hB hep p
 ·have e:(DK b w (J w)).1.aC=b.aC/\(DK b w (J w)).1.aQ=b.aQ:=by grind[DK]
  refine fl (b':=(DK b w (J w)).1) (k':=k) (j':=(DK b w (J w)).2) (l:=[]) (bZ aC.aL e.1) (bZ (λl=>((dK l w).length:Int)) e.2) ?_;grind[bIX,DK,bEE]
 ·refine fl (b':={b with aC:=(KR b.aC w).1}) (k':=k) (j':={J w with Pc:=19}) (l:=[]) (aVH hc hw).1 rfl ?_;grind[bEE,bEF]
 ·rw[bEF hB p];unfold cA;rw[aO (show cX.bQ=false from rfl)];omega
end
theorem a4A(e e':Int)(q:Nat)(j:aI):cA e' q j<=cA e q j+3:=by
 cases hb:j.bQ
 ·simp_all[cA]
 ·by_cases p:j.Pc=0
  ·rw[jc0 hb p,jc0 hb p];grind[UC]
  ·have:cA e' q j=cA e q j:=by unfold cA;grind
   omega
def bC(x:Batch):Int:=if x.Collect then 14 else x.bN.length*42+19
def isC(x:Batch):Int:=if x.Collect then 1 else 0
def G7(f:Batch->Int):List Batch->Int
 |[]=>0
 |x::r=>f x+G7 f r
def zZ(t:Table)(w:Int):Int:=G7 isC (m6 t w)+if(aD t w).bQ=true/\(aD t w).Pc=20 then 1 else 0
def aVO(q:Int->Nat)(t:Table)(w:Int):Int:=cA t.aA.aC.aL (q w) (aD t w)+5*kI t.aA w+G7 bC (m6 t w)
def vM(f:Int->Int):Int:=f 0+f 1+f 2
def aD6(q:Int->Nat)(t:Table)(w:Int):Int:=aVO q t w+3*(vM (zZ t)-zZ t w)
def YJ(t:Table)(w:Int):Prop:=(aD t w).bQ=false/\m6 t w=[]
theorem a4B(b:aA)(w:Int)(s:Sub):(iJ b w s).1.aQ=b.aQ\/∃x,(iJ b w s).1.aQ=b.aQ.set w.toNat x:=by grind[NT,YB,fF,zP,uA,cQ,iJ]
theorem a97(b:aA)(k:List bW)(w:Int)(j:aI):(eX b k w j).b.aQ=b.aQ\/∃x,(eX b k w j).b.aQ=b.aQ.set w.toNat x:=by
 have hs:=a4B b w j.Sub;unfold eX;have P:∀{c:Prop} [Decidable c] {x y:TR},(c->(x.b.aQ=b.aQ\/∃z,x.b.aQ=b.aQ.set w.toNat z))->(¬c->(y.b.aQ=b.aQ\/∃z,y.b.aQ=b.aQ.set w.toNat z))->_:=dM (P:=λr=>r.b.aQ=b.aQ\/∃z,r.b.aQ=b.aQ.set w.toNat z);refine P (λ_=>hs) λ_=>P (λ_=>.inl rfl) λ_=>P (λ_=>.inl rfl) λ_=>P (λ_=>?_) λ_=>P (λ_=>.inl rfl) λ_=>P (λ_=>.inl rfl) λ_=>P (λ_=>.inl (by grind[lY])) λ_=>P (λ_=>.inl rfl) λ_=>P (λ_=>?_) λ_=>P (λ_=>.inl (by grind[DK])) λ_=>P (λ_=>.inl rfl) λ_=>P (λ_=>.inl rfl) λ_=>.inl rfl
 ·unfold vL;split;exact .inl rfl;exact hs
 ·unfold DJ;split;exact .inl rfl;exact hs
theorem aD7{f:Batch->Int}(h:∀x,0<=f x):∀l,0<=G7 f l
 |[]=>J2 _
 |x::r=>Int.add_nonneg (h x) (aD7 h r)
theorem bIY(x:Batch):0<=bC x:=by grind[bC]
theorem aSH(x:Batch):0<=isC x:=by grind[isC]
theorem a4C(t:Table)(w:Int):0<=zZ t w:=by have:=aD7 aSH (m6 t w);grind[zZ]
theorem bEH(f:Int->Int)(h:∀v,0<=f v)(hw:eN w):f w<=vM f:=by grind[vM]
theorem YK{f g:Int->Int}(hw:eN w)(h:∀v,eN v->v≠w->g v=f v):vM g-g w=vM f-f w:=by grind[vM]
section
variable {Ky:List Int} {q:Int->Nat} {t:Table} (hK:Ky.length<=8) (hv:TV t) (hs:Sft Ky q t) {w:Int} (hw:eN w) (hser:t.aG≠1000000)
include hK hv hs hw
theorem a4D(hB:(aD t w).bQ=true):1<=cA t.aA.aC.aL (q w) (aD t w):=by
 have hj:JB (aD t w):=(hv.wV.2 _ (zS hv.wV.1 hw)).resolve_left λe=>by rw[e] at hB;cases hB
 obtain⟨c,h⟩:=hs.sv;have T:=h.tw w hw hB;have hpc:=T.pc;have hat:=hj.at_;have sb:=h.sb w hw;have hc:=hv.base.1.2.1;obtain⟨s0,s20⟩:=aMS hw hc hs.ep hB;have tl:=aRV (aD t w).aH;have hk:=hj.k;rcases(by omega:(aD t w).Pc=0\/(aD t w).Pc=1\/(2<=(aD t w).Pc/\(aD t w).Pc<=5)\/(aD t w).Pc=6\/(aD t w).Pc=7\/(aD t w).Pc=8\/(aD t w).Pc=9\/(10<=(aD t w).Pc/\(aD t w).Pc<=13)\/(aD t w).Pc=14\/(aD t w).Pc=15\/(aD t w).Pc=16\/(aD t w).Pc=17\/(aD t w).Pc=18\/(aD t w).Pc=19\/(aD t w).Pc=20\/(aD t w).Pc=21) with p|p|p|p|p|p|p|p|p|p|p|p|p|p|p|p
 ·rw[jc0 hB p];grind[UC]
 ·grind[jc1]
 ·have ha:(aD t w).At<(aD t w).Batch.bN.length:=T.hc p;grind[jc2,jc3,jc4,jc5]
 ·rw[jc6 hB p];have:=(sb.al p).2.2.1;omega
 ·grind[jc7]
 ·grind[jc8]
 ·grind[jc9]
 ·have:=T.k9 p;grind[bEC,bIU,bIV,bIW]
 ·grind[bED]
 ·rw[aYU hB p];split
  ·have:=sb.rt p aa;omega
  ·omega
 ·grind[a90]
 ·grind[bIX]
 ·grind[bEE]
 ·grind[bEF]
 ·grind[a91,QP]
 ·rw[aYV hB p];obtain⟨_,_,z⟩:=sb.col p;grind[UD]
theorem bEI(h:¬YJ t w):0<=aD6 q t w:=by
 have a:=aD7 bIY (m6 t w);have b:=bEH (zZ t) (a4C t) hw;have r:0<=kI t.aA w:=Int.natCast_nonneg _;unfold aD6 aVO;by_cases hB:(aD t w).bQ=true
 ·have:=a4D hK hv hs hw hB;omega
 ·have:cA t.aA.aC.aL (q w) (aD t w)=0:=by simp_all[cA]
  omega
theorem aP7(h:YJ t w):aW t w=t/\nxQ Ky q t w=q:=by unfold aW nxQ;rw[aP (by rw[h.1];decide),aO (.inl (by rw[h.2];rfl)),aP (by rw[h.1];decide)];simp
include hser
theorem aVP(h:¬YJ t w):aD6 (nxQ Ky q t w) (aW t w) w+1<=aD6 q t w/\∀v,eN v->v≠w->aD6 (nxQ Ky q t w) (aW t w) v<=aD6 q t v/\(YJ t v->YJ (aW t w) v):=by
 have h3:=hv.wV.1;have hJ:∀v,eN v->(aD t v).bQ=true->JB (aD t v):=λv hv' hB=>(hv.wV.2 _ (zS h3 hv')).resolve_left λe=>by rw[e] at hB;cases hB
 obtain⟨c,sv⟩:=hs.sv;by_cases hB:(aD t w).bQ=true
 ·have est:aW t w=yQ t w (eX t.aA t.aR w (aD t w)):=by simp_all[aW]
  have enq:nxQ Ky q t w=upQ q w (qF Ky.length (q w) (aD t w)):=aO hB;obtain⟨a1,a2⟩:=bEG hK sv hs.lk hw hv.base hv.bk hJ hB hs.ep;have hpc:=(sv.tw w hw hB).pc;have hdp:(eX t.aA t.aR w (aD t w)).j.bQ=true/\(eX t.aA t.aR w (aD t w)).j.Pc=20->(aD t w).Pc=20:=λz=>by
   by_cases p:1<=(aD t w).Pc/\(aD t w).Pc<=19
   ·rcases a9W (b:=t.aA) (k:=t.aR) (w:=w) p with e|e
    ·rw[e] at z;cases z.1
    ·omega
   ·by_cases p0:(aD t w).Pc=20
    ·exact p0
    ·exfalso;have e:(eX t.aA t.aR w (aD t w)).j=(nZ t.aA w (aD t w)).2:=by unfold eX;rw[aO aa]
     grind[nZ]
  have hrow:=a97 t.aA t.aR w (aD t w);rw[est,enq];generalize eX t.aA t.aR w (aD t w)=r at a1 a2 hdp hrow;have ej:∀v,eN v->aD (yQ t w r) v=if v=w then r.j else aD t v:=λv hv'=>L9 h3 hw rfl hv';have eq:∀v,m6 (yQ t w r) v=m6 t v:=λ_=>rfl;have er:∀v,eN v->v≠w->kI r.b v=kI t.aA v:=λv hv' hn=>by
   unfold kI;rcases hrow with e|⟨x,e⟩
   ·rw[e]
   ·rw[e,aBR hv.base.1.2.2.1.1 hw hv' hn]
  have bo:∀v,eN v->v≠w->zZ (yQ t w r) v=zZ t v:=λv hv' hn=>by simp_all[zZ]
  have bw:zZ (yQ t w r) w<=zZ t w/\(r.b.aC.aL≠t.aA.aC.aL->zZ (yQ t w r) w+1<=zZ t w):=by unfold zZ;grind
  have s1:=YK hw bo;refine⟨?_,λv hv' hn=>⟨?_,λi=>?_⟩⟩
  ·unfold aD6 aVO;rw[s1,eq,ej w hw,aO rfl];show cA r.b.aC.aL (upQ q w _ w) r.j+5*kI r.b w+_+_+1<=_;rw[show upQ q w (qF Ky.length (q w) (aD t w)) w=qF Ky.length (q w) (aD t w) from aO rfl];omega
  ·unfold aD6 aVO;rw[eq,ej v hv',aP hn,bo v hv' hn];show cA r.b.aC.aL (upQ q w _ v) (aD t v)+5*kI r.b v+_+_<=_;rw[show upQ q w (qF Ky.length (q w) (aD t w)) v=q v from aP hn,er v hv' hn];have:=a4A t.aA.aC.aL r.b.aC.aL (q v) (aD t v);grind
  ·exact⟨by rw[ej v hv',aP hn];exact i.1,i.2⟩
 ·have hq:¬((m6 t w).length=0\/t.aG=1000000):=λz=>z.elim (λz=>h ⟨aj,uJ z⟩) hser;have est:aW t w=qQ t w ((m6 t w).getD 0 ⟨false,[]⟩):=by simp_all[aW]
  have enq:nxQ Ky q t w=q:=aP hB;rw[est,enq]
  match hQ:m6 t w,hq with
  |[],hq=>grind
  |x::l,_=>
  simp only[List.getD_cons_zero];have ej:∀v,eN v->aD (qQ t w x) v=if v=w then iU x (t.aG+1) else aD t v:=λv hv'=>L9 h3 hw rfl hv';have eq:∀v,eN v->m6 (qQ t w x) v=if v=w then l else m6 t v:=λv hv'=>by grind[m6,qQ]
  have j0:cA t.aA.aC.aL (q w) (aD t w)=0:=by simp_all[cA]
  have jn:cA t.aA.aC.aL (q w) (iU x (t.aG+1))+1<=bC x:=by
   cases hx:x.Collect
   ·rw[jc0 (show(iU x (t.aG+1)).bQ=true from rfl) (by grind[iU])];grind[iU,bC,UC,zQ]
   simp_all[a91,iU,bC,QP,zQ]
  have bo:∀v,eN v->v≠w->zZ (qQ t w x) v=zZ t v:=λv hv' hn=>by simp_all[zZ]
  have bw:zZ (qQ t w x) w<=zZ t w:=by unfold zZ;rw[eq w hw,ej w hw,aO rfl,aO rfl,hQ,aP (show ¬((aD t w).bQ=true/\_) from λz=>hB z.1)];grind[G7,iU,isC]
  have s1:=YK hw bo;refine⟨?_,λv hv' hn=>⟨?_,λi=>?_⟩⟩
  ·unfold aD6 aVO;rw[s1,eq w hw,ej w hw,aO rfl,aO rfl,hQ,j0];show cA t.aA.aC.aL (q w) (iU x (t.aG+1))+5*kI t.aA w+_+_+1<=_;grind[G7]
  ·unfold aD6 aVO;rw[eq v hv',ej v hv',aP hn,aP hn,bo v hv' hn];show cA t.aA.aC.aL (q v) (aD t v)+5*kI t.aA v+_+_<=_;omega
  ·exact⟨by rw[ej v hv',aP hn];exact i.1,by rw[eq v hv',aP hn];exact i.2⟩
end
theorem QQ{l:List aI}(hl:l.length<=1000){f:aI->Bool}{g:aI->Option Bool}(hg:∀x∈l,g x=some (f x)):gY l g=some (l.any f):=
 MH (f:=qI l g) (m:=A3) aa (λk=>by
  simp only[qI];by_cases h:k<l.length
  ·rw[dif_pos h,eV,aZ h,aM,hg _ (dF h),aM,dO];rfl
  grind) (λ_=>rfl) rfl
theorem aSI{l:List bW}(hl:l.length<=1000){f:bW->Bool}{g:bW->Option Bool}(hg:∀x∈l,g x=some (f x)):rT l g=some (l.any f):=
 MH (f:=rS l g) (m:=DU) aa (λk=>by
  simp only[rS];by_cases h:k<l.length
  ·rw[dif_pos h,eV,aZ h,aM,hg _ (dF h),aM,dO];rfl
  grind) (λ_=>rfl) rfl
theorem aMT{l:List Seen}(hl:l.length<=1000){f:Seen->Bool}{g:Seen->Option Bool}(hg:∀x∈l,g x=some (f x)):fS l g=some (l.any f):=
 MH (f:=jH l g) (m:=A4) aa (λk=>by
  simp only[jH];by_cases h:k<l.length
  ·rw[dif_pos h,eV,aZ h,aM,hg _ (dF h),aM,dO];rfl
  grind) (λ_=>rfl) rfl
theorem aMU(b:Int):HU b=some (decide (0<=b/\b<=1)):=by grind[HU,dP]
theorem aMV{O:Type}{l:List O}{f:O->Bool}(h:∀x∈l,f x=false):l.any f=false:=aSW.2 λx hx=>aj
theorem aVQ{l:List Int}(hl:l.length<=6)(h:∀x∈l,lN x):uV l=some true:=by unfold uV;rw[eV,show(λy0=>wI y0)=λy0=>some (!decide (lN y0)) from funext λy=>by grind[wI,g8],GM (by grind[maxLen]),aMV λx hx=>aj];rfl
theorem aVR{l:List aU}(h:WrV l):IS l=some true:=by
 have h6:=h.1;unfold IS;have key:loop (rU l) 0=some (Out.brk ()):=iW (f:=rU l) l.length (λk=>(k:Int)) _ (λk hk=>by
  have hx:=h.2.1 _ (dF hk);simp only[rU];rw[eV,aZ hk,aM,dP,dA hx.1,aM,gH,dP,dA hx.2,aM,gH];by_cases k0:(0:Int)<k
  ·have hk1:k-1<l.length:=aa
   have hlt:=bFC.1 h.2.2 (k-1) k hk1 hk aa;rw[aO aj,dO (x:=(k:Int)-1),show(k:Int)-1=((k-1:Nat):Int) by omega,aZ hk1,aM,iD aa];unfold lC;rw[gH,dO];rfl
  simp_all[lC,cW]) (by simp[rU])
 grind[RM,RL]
theorem a98(h:JB j):sP j=some true:=by
 have hb:=h.VZ.2.1;have hk:=h.k;have hh:=h.held;have hheld:=aP6 h;have key:loop (xN j) 0=some (Out.brk ()):=iW (f:=xN j) j.bE.length (λk=>(k:Int)) _ (λk hk=>by
  simp only[xN,FD];rw[eV,aZ hk,aM,aMU,dA (hh.1 _ (dF hk)),aM,gH,SF,K8,UG,contains_eq (by grind[maxLen]),iD ((aXV _).1 hh.2 k hk),aM,gH,dO];rfl) (by simp[xN])
 unfold sP;rw[aP (by simp[h.busy]),key];simp only[aM,WM];unfold WL;rw[aL9 aa,dA h.VZ,GU,dA h.h,GU,dA h.prev,aMU,dA h.bkt,dP,dA h.at_,dP,dA (show 0<=j.K/\j.K<=100 by omega),aVQ h.new.1 h.new.2,aVQ h.old.1 h.old.2,
  aMT (f:=λ_=>false) (by have:=h.rd2;omega) (λs hs=>by unfold PU;rw[aMU,dA (h.reads.1 s hs)];rfl),aMV λ_ _=>rfl,aVR h.wr]
 rfl
theorem aYX:sP cX=some true:=by
 have c1:FB cX.Batch cX.Batch=some true:=by unfold FB;rw[aO ak];unfold HT;rw[gH,bB (r:=Out.brk ()) (by simp[K0,cX])];rfl
 have c2:wH [] []=some true:=by unfold wH;rw[gH,bB (r:=Out.brk ()) (by simp[JF])];rfl
 have c3:tG [] []=some true:=by unfold tG;rw[gH,bB (r:=Out.brk ()) (by simp[HF])];rfl
 have c4:yZ [] []=some true:=by unfold yZ;rw[gH,bB (r:=Out.brk ()) (by simp[KZ])];rfl
 have c5:nH [] []=some true:=by unfold nH;rw[gH,bB (r:=Out.brk ()) (by simp[K2])];rfl
 unfold sP;rw[aO ak];show(IQ cX cX).bind _=_;unfold IQ;rw[c1,show cX.Reads=[] from rfl,show cX.aH=[] from rfl,show cX.hU=[] from rfl,show cX.gL=[] from rfl,show cX.bE=[] from rfl,show cX.cB=[] from rfl,c2,c3,c4,c5];simp[bY]
theorem aP8(hv:TV t):∀j∈t.aS,sP j=some true:=λj hj=>by
 rcases hv.wV.2 j hj with rfl|h
 ·exact aYX
 ·exact a98 h
theorem aD8(hv:TV t):FE t=some true:=by
 have h2:=hv.bk.1;have h3:=hv.wV.1;have ht:=hv.todo;unfold FE;rw[aLO hv.base.small.fits,dA hv.base,aM,aO rfl,eV,
  aSI (f:=λ_=>false) aa (λx hx=>by
   have hx:=hv.bk.2 x hx;unfold MQ aAX;rw[GU,dA hx.1,aM,aO rfl,dP,dA hx.2.1,aM,aO rfl,dP,dA hx.2.2];rfl),aMV λ_ _=>rfl,aM,aO ak,eV,
  QQ (f:=λ_=>false) aa (λj hj=>by grind[MR,aP8]),aMV λ_ _=>rfl,aM,aO ak,
  aMA (by have:=ht.1;omega) (λq hq=>by have:=(ht.2 q hq).1;omega) (λq hq b hb=>by have:=((ht.2 q hq).2 b hb).2.1;omega),dA ht,aM,aO rfl,dP,dA hv.ser]
 rfl
def EvS(e:j7):Prop:=e.bN.length<=1000/\e.hU.length<=1000
theorem a99{e:j7}(h:EvS e):EL e=some e:=by obtain⟨h1,h2⟩:=h;unfold EL lB rK;rw[OD,aM,OD];simp[J7]
theorem bEJ(h:j=cX\/JB j):II j=some j:=by
 have hl:j.Batch.bN.length<=1000/\j.Reads.length<=1000/\j.aH.length<=1000/\j.hU.length<=1000/\j.gL.length<=1000/\j.bE.length<=1000/\j.cB.length<=1000:=by
  rcases h with rfl|h
  ·simp[cX]
  ·have a1:=h.VZ.2.1;have a2:=h.rd2;have a3:=h.wr.1;have a4:=h.res;have a5:=h.at_;have a6:=h.new.1;have a7:=aP6 h;have a8:=h.old.1;omega
 obtain⟨h1,h2,h3,h4,h5,h6,h7⟩:=hl;unfold II pD nQ rK HQ;rw[(aR7 h1).2,aM,OD,aM,OD,aM,OD,aM,qA aa,qA aa,qA aa];rfl
theorem a4E(hb:T2 t.aA)(hk:t.aR.length<=1000)(hj:t.aS.length<=1000/\∀j∈t.aS,j=cX\/JB j)(ht:t.fI.length<=1000/\(∀q∈t.fI,q.List.length<=1000)/\∀q∈t.fI,∀b∈q.List,b.bN.length<=1000)(hl:t.Log.length<=1000000/\∀e∈t.Log,EvS e):EY t=some t:=by
 unfold EY HP;rw[aRX hb,aM,OD,aM,(aMB ht.1 ht.2.1 ht.2.2).2,aM];unfold EX;have k2:loop (l6 t) (0,(⟨t.aA,[]++t.aR,[],t.fI,[],t.aG⟩:Table))=some (⟨t.aA,t.aR,t.aS,t.fI,[],t.aG⟩:Table):=by
  have:=iW (f:=l6 t) t.aS.length (λk=>((k:Int),(⟨t.aA,t.aR,t.aS.take k,t.fI,[],t.aG⟩:Table))) (⟨t.aA,t.aR,t.aS,t.fI,[],t.aG⟩:Table) (λk hk=>by
   simp only[l6];rw[eV,aZ hk,aM,bEJ (hj.2 _ (dF hk)),aM,OD];grind[EW,cW,EA]) (by simp[l6])
  grind
 have k3:loop (l5 t) (0,(⟨t.aA,t.aR,t.aS,t.fI,[],t.aG⟩:Table))=some t:=by
  have:=iW (f:=l5 t) t.Log.length (λk=>((k:Int),(⟨t.aA,t.aR,t.aS,t.fI,t.Log.take k,t.aG⟩:Table))) t (λk hk=>by
   simp only[l5];rw[eV,aZ hk,aM,a99 (hl.2 _ (dF hk)),aM,OD];grind[EV,cW,EA]) (by simp[l5])
  grind
 show(loop (l6 t) (0,(⟨t.aA,[]++t.aR,[],t.fI,[],t.aG⟩:Table))).bind _=_;rw[k2,aM];show(loop (l5 t) (0,(⟨t.aA,t.aR,t.aS,t.fI,[],t.aG⟩:Table))).bind _=_;rw[k3];rfl
def MA(t:Table):Bool:=!(t.aS.any λj=>j.bQ) && !(t.fI.any λq=>decide (0<(q.List.length:Int)))
theorem aP9(hj:t.aS.length<=1000)(ht:t.fI.length<=1000):FW t=some (MA t):=by
 unfold FW MA;rw[QQ (f:=λj=>j.bQ) (g:=λy0=>HX y0) hj λ_ _=>rfl,aM];cases (t.aS.any λj=>j.bQ)
 ·rw[aO ak,VH (f:=λq=>decide (0<(q.List.length:Int))) (g:=λy0=>HY y0) ht λ_ _=>rfl];rfl
 ·rfl
theorem aVS(hv:TV t):MA t=true↔∀w,eN w->YJ t w:=by
 have h3:=hv.wV.1;have h4:=hv.todo.1;unfold MA;rw[uG,aWL,aWL,aSW,aSW];constructor
 ·rintro⟨a,b⟩ w hw;refine⟨by grind[zS],?_⟩;have hi:w.toNat<t.fI.length:=aa
  simp_all[m6]
 ·intro h;refine⟨λj hj=>?_,λq hq=>?_⟩
  ·obtain⟨i,hi,rfl⟩:=V4 hj;have:=(h i aa).1;grind[aD]
  ·obtain⟨i,hi,rfl⟩:=V4 hq;have:=(h i aa).2;grind[m6]
def NY:Nat->Nat->Table->Table
 |0,_,t=>t
 |n+1,k,t=>if MA t then t else NY n (k+1) (aW t ((k % 3:Nat):Int))
theorem aJB(k:Nat):eN ((k % 3:Nat):Int):=aa
theorem aVT:∀(n k:Nat) (t:Table),k+n=3000->TV t->t.Log.length+n<=1000000->(loop (mT 3000 true) ((k:Int),t)).bind K4=some (NY n k t)
 |0,k,t,hk,_,_=>by rw[bB (r:=Out.brk t) (by simp_all[mT])];rfl
 |n + 1,k,t,hk,hv,hl=>by
  have h3:=hv.wV.1;have h4:=hv.todo.1;unfold NY;cases hi:MA t
  ·have hs:=aU2 hv aa (aJB k);rw[bG (s':=(((k+1:Nat):Int),aW t ((k % 3:Nat):Int))) (by
    simp only[mT];rw[eV,aO trivial,aP9 aa aa,aM,hi,gH,QQ (f:=λ_=>false) aa (λj hj=>by grind[tQ,aP8]),aMV λ_ _=>rfl,aM];unfold mS;rw[gH,NN aa,show((k:Int) % 3)=((k % 3:Nat):Int) by omega,hs,aM,dO];rfl)]
   rw[gH];refine aVT n (k+1) _ aa (hv.step (aJB k)) ?_;have:=Y3 t ((k % 3:Nat):Int);unfold PJ at this;grind
  ·rw[bB (r:=Out.ret t) (by
    simp only[mT];rw[eV,aO trivial,aP9 aa aa,aM,hi,aO rfl];rfl),aO rfl];rfl
theorem a4F(hv:TV t)(hl:t.Log.length+3000<=1000000)(he:∀e∈t.Log,EvS e):lE t=some (NY 3000 0 t):=by have h2:=hv.bk.1;have h3:=hv.wV.1;have h4:=hv.todo;unfold lE;rw[a4E hv.base.small aa ⟨aa,hv.wV.2⟩ ⟨by have:=h4.1;omega,λq hq=>by have:=(h4.2 q hq).1;omega,λq hq b hb=>by have:=((h4.2 q hq).2 b hb).2.1;omega⟩ ⟨aa,he⟩,aM,aD8 hv,aM,aO rfl];have:=aVT 3000 0 t rfl hv hl;unfold HZ;rw[show((0:Nat):Int)=0 from rfl] at this;rw[this];rfl
theorem aQA{Ky:List Int}(hK:Ky.length<=8)(P:Table->Prop)(hP:∀t w,TV t->eN w->P t->P (aW t w))(hser:∀t,P t->t.aG≠1000000):∀(n k:Nat) (q:Int->Nat) (t:Table),TV t->Sft Ky q t->P t->(∀w,eN w->¬YJ t w->3*aD6 q t w+(w-k) % 3<n)->MA (NY n k t)=true/\TV (NY n k t)/\P (NY n k t)/\∃q',Sft Ky q' (NY n k t)
 |0,k,q,t,hv,hs,hp,hn=>⟨(aVS hv).2 λw hw=>Classical.byContradiction λhi=>by
   have:=hn w hw hi;have:=bEI hK hv hs hw hi;omega,hv,hp,q,hs⟩
 |n + 1,k,q,t,hv,hs,hp,hn=>by
  unfold NY;by_cases hi:MA t=true
  ·grind
  ·rw[aP hi];have hw:=aJB k;refine aQA hK P hP hser n (k+1) (nxQ Ky q t ((k % 3:Nat):Int)) _ (hv.step hw) (hs.step hv hw) (hP t _ hv hw hp) λv hv' hni=>?_;by_cases hid:YJ t ((k % 3:Nat):Int)
   ·obtain⟨e1,e2⟩:=aP7 hK hv hs hw hid;rw[e1] at hni;rw[e1,e2];have:=hn v hv' hni;have hne:v≠((k % 3:Nat):Int):=λe=>hni (e ▸ hid);unfold eN at hv';omega
   ·obtain⟨a1,a2⟩:=aVP hK hv hs hw (hser t hp) hid;have h0:=hn _ hw hid;by_cases e:v=((k % 3:Nat):Int)
    ·rw[e];omega
    ·obtain⟨b1,b2⟩:=a2 v hv' e;have:=hn v hv' λz=>hni (b2 z);unfold eN at hv';omega
theorem aMW(f:Batch->Int)(x:Batch):∀l:List Batch,G7 f (l++[x])=G7 f l+f x
 |[]=>by simp[G7]
 |y::r=>by simp only[DM,G7,aMW f x r];omega
theorem bAA(x:Batch):isC x<=1:=by grind[isC]
theorem aVU:∀l:List Batch,G7 isC l<=l.length
 |[]=>by simp[G7]
 |x::r=>by have:=aVU r;have:=bAA x;grind[G7]
def KyD(k:Int):Prop:=(0<=k/\k<=5)\/k=7\/k=99\/k<0\/99<k
def BaD(x:Batch):Prop:=bC x<=145/\∀y∈x.bN,KyD y.Key
def QuD(m c:Int)(q:aJ):Prop:=G7 bC q.List<=c/\G7 isC q.List<=m/\(q.List.length:Int)<=m/\∀x∈q.List,x.bN.length<=1000/\∀y∈x.bN,KyD y.Key
theorem aJC{l:List Batch}{m m' c':Int}(h:QuD m c ⟨l⟩)(hm:m+1<=m'){x:Batch}(hc:c+bC x<=c')(hx:x.bN.length<=1000/\∀y∈x.bN,KyD y.Key):QuD m' c' ⟨l++[x]⟩:=by obtain⟨h1,h2,h3,h4⟩:=h;simp only at h1 h2 h3 h4;have:=bAA x;refine⟨by grind[aMW],by grind[aMW],aj,λy hy=>?_⟩;grind
theorem YL{m m' c':Int}{q:aJ}(h:QuD m c q)(hm:m<=m')(hc:c<=c'):QuD m' c' q:=⟨aJJ h.1 hc,aJJ h.2.1 hm,aJJ h.2.2.1 hm,h.2.2.2⟩
section
variable {b:List UInt8} {i h:Int} (hc:Cu b i)
include hc
theorem bF3:DI (I7 ⟨b,i,h⟩) (λx=>KyD x.1.Key/\Cu b x.2.1):=by
 unfold I7 EH EG;refine .bind (aPX hc ai ai) λx1 ⟨_,h1⟩=>.bind (below h1 aa) λx2 ⟨k2,h2⟩=>?_;have hk:KyD x2.1:=.inl aa;refine .ite (λ_=>.ite (λ_=>?_) λ_=>.ret ⟨hk,h2⟩) λ_=>.ite (λ_=>?_) λ_=>.ret ⟨hk,h2⟩
 ·exact .bind (below h2 aa) λx7 ⟨_,h7⟩=>.bind (aPX h7 ae ae) λx8 ⟨_,h8⟩=>.ret ⟨hk,h8⟩
 ·exact .bind (below h2 aa) λx7 ⟨_,h7⟩=>.bind (aPX h7 ae ae) λx8 ⟨_,h8⟩=>.ret ⟨hk,h8⟩
theorem bAB:DI (OS ⟨b,i,h⟩) (λx=>KyD x.1.Key/\Cu b x.2.1):=by
 unfold OS rJ;refine .bind (bF3 hc) λx1 ⟨k1,h1⟩=>.bind (below h1 aa) λx7 ⟨_,h7⟩=>.ite (λ_=>?_) λ_=>.ite (λ_=>?_) λ_=>.ite (λ_=>?_) λ_=>.ret ⟨k1,h7⟩
 ·exact .bind (aPX h7 ai ai) λx8 ⟨_,h8⟩=>.ret ⟨k1,h8⟩
 ·exact .bind (aPX h7 ai ai) λx8 ⟨k8,h8⟩=>.ret ⟨by grind[KyD],h8⟩
 ·exact .bind (aPX h7 ai ai) λx8 ⟨_,h8⟩=>.ret ⟨k1,h8⟩
theorem bEK:DI (LC ⟨b,i,h⟩) (λx=>BaD x.1/\x.1.bN.length<=1000/\Cu b x.2.1):=by unfold LC;refine .bind (bLC hc aa) λx1 h1=>.ite (λ_=>.ret ⟨⟨by show(14:Int)<=145;decide,ae⟩,ae,h1⟩) λ_=>.bind (below h1 aa) λx2 ⟨hx,h2⟩=>?_;rw[dO];refine .bind (P:=λx=>(x.2.2.length<=3/\∀y∈x.2.2,KyD y.Key)/\Cu b x.1) (.loop (λs=>s.1.toNat) (λs=>(0<=s.1/\s.1+s.2.2.2.length<=3/\∀y∈s.2.2.2,KyD y.Key)/\Cu b s.2.1) ⟨⟨aa,ah,ae⟩,h2⟩ ?_) λ⟨a1,a2,a3⟩ ⟨⟨hx,hy⟩,h3⟩=>.ret ⟨⟨by simp only at hx;unfold bC;grind,hy⟩,aj,h3⟩;rintro⟨n,i1,h1,l⟩ ⟨⟨n0,n1,n2⟩,hi1⟩;simp only at n0 n1 n2 hi1;simp only[UM,J6];refine .ite (λq=>?_) (λq=>.ret ⟨⟨aj,n2⟩,hi1⟩);have q1:=of_decide_eq_true q;refine .bind (bF3 hi1) λo ⟨ho,h3⟩=>.need ah (.ret ?_);grind[cW]
theorem aQB{m:Int}(hm:0<=m/\m<=12):DI (xA ⟨b,i,h⟩ m) (λx=>(x.1.length=3/\∀q∈x.1,QuD m (m*145) q)/\Cu b x.2.1):=by
 unfold xA;refine .bind (P:=λx=>(x.1.length=3/\∀q∈x.1,QuD m (m*145) q)/\Cu b x.2.1) (.loop (λs=>3-s.2.1.toNat) (λs=>((s.1.length:Int)=s.2.1/\s.2.1<=3/\∀q∈s.1,QuD m (m*145) q)/\Cu b s.2.2.1) ⟨⟨rfl,ae,ae⟩,hc⟩ ?_) λx hx=>.ret hx;rintro⟨l,k,i',h'⟩ ⟨⟨e,k3,hq⟩,hi⟩;simp only at e k3 hq hi;simp only[OR];refine .ite (λq=>?_) (λq=>?_)
 ·have q':=of_decide_eq_true q;rw[dO (x:=m+1)];refine .bind (below hi aa) λn ⟨hn,h1⟩=>?_;refine .bind (P:=λx=>QuD m (m*145) ⟨x.2.2⟩/\Cu b x.1) (.loop (λs=>s.1.toNat) (λs=>(0<=s.1/\QuD (m-s.1) ((m-s.1)*145) ⟨s.2.2.2⟩)/\Cu b s.2.1) ⟨⟨hn.1,by grind[QuD,G7]⟩,h1⟩ ?_) ?_
  ·rintro⟨n,i1,h1,ops⟩ ⟨⟨n0,ho⟩,hi1⟩;simp only at n0 ho hi1;have hol:=ho.2.2.1;simp only at hol;simp only[OO,EI];refine .ite (λq=>?_) (λq=>?_)
   ·have q1:=of_decide_eq_true q;refine .bind (bEK hi1) λo ⟨h0,h2,h3⟩=>.need ah (.ret ?_);have hq:=aJC (m':=m-(n-1)) (c':=(m-(n-1))*145) ho aa (x:=o.1) (by have:=h0.1;omega) ⟨h2,h0.2⟩;grind[cW]
   ·have q1:¬0<n:=aj
    exact .ret ⟨YL ho aa aa,hi1⟩
  ·rintro⟨i1,h1,ops⟩ ⟨ho,hi1⟩;simp only[OQ,ON];refine .need ah (.ret ?_);grind[cW]
 ·have q':¬k<3:=aj
  exact .ret ⟨⟨aj,hq⟩,hi⟩
def YM(l:List aJ):Prop:=l.length<=3/\∀q∈l,QuD 13 910 q
omit hc in
theorem aVV(hl:YM l)(k:Nat){q:aJ}(hq:QuD 13 910 q):YM (l.set k q):=⟨by simpa using hl.1,λx hx=>(rG hx).elim (hl.2 x) (λe=>e ▸ hq)⟩
theorem aYY:DI (BS ⟨b,i,h⟩) (λx=>YM x.1/\Cu b x.2.1):=by
 unfold BS;refine .bind (aQB hc aa) λx1 ⟨⟨l3,hq⟩,h1⟩=>.bind (below h1 aa) λx5 ⟨_,h5⟩=>?_;have hT:YM x1.1:=⟨aa,λq hq'=>YL (hq q hq') aa aa⟩;simp only[lA,ML,CZ];refine .ite (λ_=>?_) λ_=>.ite (λ_=>?_) λ_=>.ite (λ_=>?_) λ_=>.ite (λ_=>?_) λ_=>?_
 ·exact .need aa (.ret ⟨⟨ah,λq hq'=>hT.2 q (a44 (by simpa using hq'))⟩,h5⟩)
 ·refine .bind (.idx aa) λx6 h6=>?_;have h7:=hq _ h6;have:=h7.2.2.1;exact .need ah (.ret ⟨aVV hT _ (aJC (m:=5) (c:=5*145) (l:=x6.List) h7 aa (x:=⟨false,[]⟩) (by show _+(19:Int)<=910;omega) ⟨ae,ae⟩),h5⟩)
 ·refine .bind (P:=λx=>YM x.1/\Cu b x.2.1) (.loop (λs=>20-((s.1.getD 1 ⟨[]⟩).List.length)) (λs=>(s.1.length=3/\∀q∈s.1,QuD 13 (725+14*q.List.length) q)/\Cu b s.2.1) ⟨⟨l3,λq hq'=>YL (hq q hq') aa aa⟩,h5⟩ ?_) ?_
  ·rintro⟨l,i1,h1⟩ ⟨⟨l3,hq⟩,hi1⟩;simp only at l3 hq hi1;simp only[MM,CY];have hx:idx l 1=some l[1]:=aZ (k:=1) aa;have hm:=hq _ (dF (show 1<l.length by omega));have hm1:=hm.2.2.1;rw[hx];simp only[aM];refine .bind (below hi1 aa) λx ⟨hx2,hi2⟩=>.ite (λq=>?_) (λq=>?_)
   ·have q':=of_decide_eq_true q;rw[dO] at q';refine .need ah (.ret ?_);refine⟨⟨⟨by simp[l3],λx hx=>?_⟩,hi2⟩,?_⟩
    ·rcases rG hx with hx|hx
     ·grind
     ·have:=aJC (m':=14) (c':=725+14*(l[1].List++[(⟨true,[]⟩:Batch)]).length) (l:=l[1].List) hm aa (x:=⟨true,[]⟩) (by show _+(14:Int)<=_;simp;omega) ⟨ae,ae⟩;rw[hx];refine⟨this.1,?_,ah,this.2.2.2⟩;have h13:=aVU (l[1].List++[(⟨true,[]⟩:Batch)]);grind
    grind
   ·exact .ret ⟨⟨aj,λq hq'=>YL (hq q hq') aa (by have:=(hq q hq').2.2.1;omega)⟩,hi2⟩
  ·rintro⟨l,i1,h1⟩ hx;exact .ret hx
 ·refine .bind (.idx aa) λx25 h25=>.bind (bAB h5) λx26 ⟨k26,h26⟩=>?_;have h7:=hq _ h25;have:=h7.2.2.1;exact .need ah (.ret ⟨aVV hT _ (aJC (m:=5) (c:=5*145) (l:=x25.List) h7 aa (x:=⟨false,[x26.1]⟩) (by show _+(1*42+19:Int)<=910;omega) ⟨ae,aj⟩),h26⟩)
 ·exact .ret ⟨hT,h5⟩
end
theorem aGJ{code:List UInt8}(hl:code.length<=1048576):DI (nP code) (λx=>YM x.fI/\x.fY.length<=5000):=by unfold nP;refine .bind (bNS hl) λx1 h1=>.bind (aQB h1 aa) λx2 ⟨⟨l3,hq⟩,h2⟩=>.bind (bDR h2 aa) λx3 ⟨p,h3⟩=>.bind (below h3 aa) λx6 ⟨_,h6⟩=>?_;have hT:YM x2.1:=⟨aa,λq hq'=>YL (hq q hq') aa aa⟩;simp only[kX];refine .ite (λ_=>.bind (aYY h6) λx7 ⟨h7,_⟩=>.ret ⟨h7,aj⟩) λ_=>.ite (λ_=>.need ah (.ret ⟨hT,ah⟩)) λ_=>.ret ⟨hT,aj⟩
theorem YM.bLK(h:YM l):bII l:=⟨h.1,λq hq=>⟨by have:=(h.2 q hq).2.2.1;omega,λx hx=>((h.2 q hq).2.2.2 x hx).1⟩⟩
theorem a1O(j:aI)(x:aU):(oD j x).2.Batch=j.Batch:=by grind[oD,sL]
theorem a1P(j:aI)(c:eJ)(v:Int)(is:Bool):(qU j c v is).Batch=j.Batch:=by
 unfold qU;split
 ·generalize (if is then v else 0)=u;unfold VW;have h:=a1O j ⟨c.Key,false,vK u c.dC⟩;split
  ·exact h
  ·exact h
 ·rfl
theorem bEL(j:aI):(qP j).Batch=j.Batch:=by grind[qP,a1O,a1P]
theorem bAC(b:aA)(k:List bW)(w:Int)(j:aI):(iQ b k w j).Batch=j.Batch:=by
 unfold iQ;split
 ·split<;>rfl
 ·split
  ·simp
  ·split
   ·split
    ·rfl
    ·split<;>rfl
   ·split
    ·rfl
    ·split
     ·rfl
     ·split
      ·grind[a1P]
      ·rfl
theorem bEM(b:aA)(w:Int)(j:aI):(vL b w j).2.Batch=j.Batch:=by
 unfold vL;split
 ·simp
 ·simp only;split
  ·simp
  ·split<;>rfl
theorem bEN(k:List bW)(w:Int)(j:aI):(oS k w j).2.1.Batch=j.Batch:=by
 unfold oS;split
 ·split
  ·rfl
  ·split
   ·rfl
   ·split<;>rfl
 simp
theorem bEO(k:List bW)(w:Int)(j:aI):(JZ k w j).Batch=j.Batch:=by
 unfold JZ;split
 ·simp
 ·split<;>rfl
theorem aYZ(j:aI)(x:aU):(L7 j x).Batch=j.Batch:=by grind[L7]
theorem bEP(j:aI):(L8 j).Batch=j.Batch:=by grind[L8]
theorem bEQ(b:aA)(k:List bW)(j:aI):(lY b k j).2.2.Batch=j.Batch:=by
 unfold lY;split
 ·simp
 ·split
  ·grind[aYZ]
  ·split
   ·grind[aYZ]
   ·split
    ·grind[aYZ,bEP]
    ·split
     ·rfl
     grind
theorem a1Q(j:aI):(J0 j).Batch=j.Batch:=by grind[J0]
theorem bER(k:List bW)(j:aI):(AQ k j).2.Batch=j.Batch:=by grind[AQ,a1Q]
theorem bES(b:aA)(w:Int)(j:aI):(DJ b w j).2.Batch=j.Batch:=by grind[DJ,a1Q]
theorem bET(b:aA)(w:Int)(j:aI):(DK b w j).2.Batch=j.Batch:=by grind[DK]
theorem bEU(b:aA)(w:Int)(j:aI):(nZ b w j).2.Batch=j.Batch:=by grind[nZ]
def SC(w:Int)(j:aI)(r:TR):Prop:=(r.j.aG=j.aG/\r.j.bQ=j.bQ/\r.j.Batch=j.Batch/\(r.l=[]\/r.l=[⟨2,w,j.aG,0,[],[]⟩]))\/(¬(j.Pc<19\/19<j.Pc)/\r.j=cX/\r.l=[tlE w j])
theorem uE(b:aA)(k:List bW)(w:Int)(j:aI)(hp:0<=j.Pc/\j.Pc<=21):SC w j (eX b k w j):=by
 unfold eX;refine dM (P:=SC w j) (λ_=>.inl ⟨(aI6 b w j).1,(aI6 b w j).2,bEU b w j,.inl rfl⟩) λ_=>dM (P:=SC w j) (λ_=>.inl ⟨(aIY j).1,(aIY j).2,bEL j,.inl rfl⟩) λ_=>
  dM (P:=SC w j) (λ_=>.inl ⟨(aD2 b k w j).1,(aD2 b k w j).2,bAC b k w j,.inl rfl⟩) λ_=>dM (P:=SC w j) (λ_=>.inl ⟨(aIZ b w j).1,(aIZ b w j).2,bEM b w j,.inl rfl⟩) λ_=>
  dM (P:=SC w j) (λ_=>.inl ⟨(aI0 k w j).1,(aI0 k w j).2,bEN k w j,?_⟩) λ_=>dM (P:=SC w j) (λ_=>.inl ⟨(aI1 k w j).1,(aI1 k w j).2,bEO k w j,.inl rfl⟩) λ_=>
  dM (P:=SC w j) (λ_=>.inl ⟨(aI2 b k j).1,(aI2 b k j).2,bEQ b k j,.inl rfl⟩) λ_=>dM (P:=SC w j) (λ_=>.inl ⟨(aI3 k j).1,(aI3 k j).2,bER k j,.inl rfl⟩) λ_=>
  dM (P:=SC w j) (λ_=>.inl ⟨(aI4 b w j).1,(aI4 b w j).2,bES b w j,.inl rfl⟩) λ_=>dM (P:=SC w j) (λ_=>.inl ⟨(aI5 b w j).1,(aI5 b w j).2,bET b w j,.inl rfl⟩) λ_=>
  dM (P:=SC w j) (λ_=>.inl ⟨rfl,rfl,rfl,.inl rfl⟩) λ_=>dM (P:=SC w j) (λp=>.inr ⟨aa,rfl,rfl⟩) λ_=>.inl ⟨rfl,rfl,rfl,.inl rfl⟩
 simp
structure TlJ (l:List j7) (s:Int) (P:List eJ->Prop):Prop where
 call:∃c∈l,c.Kind=1/\c.aG=s
 all:∀c∈l,c.Kind=1->c.aG=s->P c.bN
theorem TlJ.app{l:List j7}{P:List eJ->Prop}(h:TlJ l s P){m:List j7}(hm:∀x∈m,x.Kind=1->x.aG≠s):TlJ (l++m) s P:=by obtain⟨⟨c,hc,h1⟩,h2⟩:=h;refine⟨⟨c,QT _ hc,h1⟩,λx hx k e=>?_⟩;grind
def kT(l:List j7):Int:=(l.countP λe=>e.Kind == 3:Nat)
def VX(t:Table)(v:Int):Int:=if(aD t v).bQ then 1 else 0
def GY(t:Table)(v:Int):Int:=(m6 t v).length
def bIZ(e:j7)(c:List eJ):Prop:=if e.Code=0 then e.hU.length=c.length else e.hU=[]
structure TlT (n:Int) (t:Table):Prop where
 ev:∀e∈t.Log,EvS e/\e.aG<=t.aG
 job:∀w,eN w->(aD t w).bQ=true->(aD t w).aG<=t.aG/\TlJ t.Log (aD t w).aG (·=(aD t w).Batch.bN)
 tell:∀e∈t.Log,e.Kind=3->(e.Code=0\/e.Code=3\/e.Code=6\/e.Code=7)/\TlJ t.Log e.aG (bIZ e)
 sum:kT t.Log+vM (VX t)+vM (GY t)=n
 ser:t.aG+vM (GY t)=n
theorem aJD{f g:Int->Int}(hw:eN w)(hg:∀v,eN v->v≠w->g v=f v):vM g+f w=vM f+g w:=by grind[vM]
theorem bAE(l m:List j7):kT (l++m)=kT l+kT m:=by grind[kT]
theorem TlT.zero(hn:vM (GY (b9 l))=n):TlT n (b9 l):=by
 have hj:∀w,eN w->(aD (b9 l) w).bQ=false:=λw hw=>by rcases(by omega:w=0\/w=1\/w=2) with rfl|rfl|rfl<;>rfl
 have h0:vM (VX (b9 l))=0:=rfl;have e0:(b9 l).Log=[]:=rfl;refine⟨λe he=>?_,λw hw h=>?_,λe he=>?_,?_,?_⟩
 ·grind
 ·grind
 ·grind
 ·grind[kT]
 ·rw[hn];show(0:Int)+n=n;omega
theorem TlT.step{q:Int->Nat}(hv:TV t)(hw:eN w)(hs:Sft Ky q t)(h:TlT n t):TlT n (aW t w):=by
 have h3:=hv.wV.1;have h4:=hv.todo.1;have hJ:(aD t w).bQ=true->JB (aD t w):=λhB=>(hv.wV.2 _ (zS h3 hw)).resolve_left λe=>by rw[e] at hB;cases hB
 obtain⟨c,sv⟩:=hs.sv;unfold aW;by_cases hB:(aD t w).bQ=true
 ·rw[aO hB];have tw:=sv.tw w hw hB;have jb:=hJ hB;obtain⟨js,jt⟩:=h.job w hw hB;have hd:=uE t.aA t.aR w (aD t w) tw.pc;generalize eX t.aA t.aR w (aD t w)=r at hd;have ej:∀v,eN v->aD (yQ t w r) v=if v=w then r.j else aD t v:=λv hv'=>aR9 h3 rfl hw hv';have eq:GY (yQ t w r)=GY t:=rfl;have el:(yQ t w r).Log=t.Log++r.l:=rfl;have es:(yQ t w r).aG=t.aG:=rfl;have hne:∀x∈r.l,x.Kind≠1:=λx hx=>by
   rcases hd with ⟨_,_,_,e|e⟩|⟨_,_,e⟩<;>rw[e] at hx
   ·cases hx
   ·grind
   ·rw[iY.1 hx];exact(by decide:(3:Int)≠1)
  have keep:∀{s:Int} {P:List eJ->Prop},TlJ t.Log s P->TlJ (t.Log++r.l) s P:=λa=>a.app λx hx k=>absurd k (hne x hx);have hlen:(tlE w (aD t w)).Code=0->((tlE w (aD t w)).hU.length:Int)=(aD t w).At/\(tlE w (aD t w)).hU=(aD t w).hU:=λe=>by have e':(aD t w).Code=0:=e;simp only[tlE,aO e'];exact⟨jb.res,trivial⟩
  have hbl:=jb.at_;have hb6:=jb.VZ.2.1;have hres:=jb.res;refine⟨λe he=>?_,λv hv' hb'=>?_,λe he k=>?_,?_,?_⟩
  ·rw[el] at he;rw[es];rcases cY.1 he with he|he
   ·exact h.ev e he
   ·rcases hd with ⟨_,_,_,e1|e1⟩|⟨_,_,e1⟩<;>rw[e1] at he
    ·cases he
    ·rw[iY.1 he];exact⟨⟨ae,ae⟩,js⟩
    ·rw[iY.1 he];refine⟨⟨by simp[tlE],?_⟩,js⟩;show(if(aD t w).Code=0 then(aD t w).hU else []).length<=1000;grind
  ·rw[el,es];rw[ej v hv'] at hb' ⊢;by_cases e:v=w
   ·rw[aO e] at hb' ⊢;rcases hd with ⟨s1,s2,s3,_⟩|⟨_,s1,_⟩
    ·grind
    ·rw[s1] at hb';cases hb'
   ·rw[aP e] at hb' ⊢;exact⟨(h.job v hv' hb').1,keep (h.job v hv' hb').2⟩
  ·rw[el] at he ⊢;rcases cY.1 he with he|he
   ·exact⟨(h.tell e he k).1,keep (h.tell e he k).2⟩
   ·rcases hd with ⟨_,_,_,e1|e1⟩|⟨p19,_,e1⟩<;>rw[e1] at he
    ·cases he
    ·grind
    ·rw[iY.1 he];have cd:=tw.cd;have at1:=tw.at_;refine⟨?_,keep ⟨jt.call,λc hc kc ec=>?_⟩⟩
     ·show(aD t w).Code=0\/(aD t w).Code=3\/(aD t w).Code=6\/(aD t w).Code=7;omega
     ·rw[jt.all c hc kc ec];unfold bIZ;by_cases z:(aD t w).Code=0
      ·rw[aO (show(tlE w (aD t w)).Code=0 from z),(hlen z).2];omega
      ·rw[aP (show ¬(tlE w (aD t w)).Code=0 from z)];show(if(aD t w).Code=0 then(aD t w).hU else [])=[];grind
  ·rw[el,eq,bAE];have a:=aJD (f:=VX t) (g:=VX (yQ t w r)) hw λv hv' hn=>by simp_all[VX]
   have b:VX (yQ t w r) w=if r.j.bQ then 1 else 0:=by simp_all[VX]
   have b':VX t w=1:=by simp_all[VX]
   have s:=h.sum;rcases hd with ⟨_,s2,_,e1|e1⟩|⟨_,s1,e1⟩
   ·simp_all[kT]
   ·simp_all[kT]
   ·rw[s1,aP ai] at b;grind[kT,tlE]
  ·rw[eq,es];exact h.ser
 ·rw[aP hB];by_cases hq:(m6 t w).length=0\/t.aG=1000000
  ·grind
  ·rw[aP hq];have hmem:(m6 t w).getD 0 ⟨false,[]⟩∈m6 t w:=aj
   have hb6:((m6 t w).getD 0 ⟨false,[]⟩).bN.length<=6:=by
    have hi:w.toNat<t.fI.length:=aa
    have hq:=hv.todo.2 _ (dF hi);have e:m6 t w=t.fI[w.toNat].List:=by grind[m6]
    exact(hq.2 _ (e ▸ hmem)).2.1
   generalize (m6 t w).getD 0 ⟨false,[]⟩=b at hb6;have ej:∀v,eN v->aD (qQ t w b) v=if v=w then iU b (t.aG+1) else aD t v:=λv hv'=>aR9 h3 rfl hw hv';have eqq:∀v,eN v->GY (qQ t w b) v=if v=w then(((m6 t w).drop 1).length:Int) else GY t v:=λv hv'=>by grind[GY,m6,qQ]
   have el:(qQ t w b).Log=t.Log++[⟨1,w,t.aG+1,0,b.bN,[]⟩]:=rfl;have es:(qQ t w b).aG=t.aG+1:=rfl;have keep:∀{s:Int} {P:List eJ->Prop},s<=t.aG->TlJ t.Log s P->TlJ (t.Log++[⟨1,w,t.aG+1,0,b.bN,[]⟩]) s P:=λhs a=>a.app λx hx k=>aj
   refine⟨λe he=>?_,λv hv' hb'=>?_,λe he k=>?_,?_,?_⟩
   ·rw[el] at he;rw[es];rcases cY.1 he with he|he
    ·have:=h.ev e he;grind
    ·rw[iY.1 he];exact⟨⟨aj,ae⟩,J2 _⟩
   ·rw[el,es];rw[ej v hv'] at hb' ⊢;by_cases e:v=w
    ·rw[aO e];refine⟨J2 _,⟨⟨_,aB0 _ (iY.2 rfl),rfl,rfl⟩,λc hc kc ec=>?_⟩⟩;rcases cY.1 hc with hc|hc
     ·have:=(h.ev c hc).2;have ec':c.aG=t.aG+1:=ec;omega
     ·rw[iY.1 hc];rfl
    ·rw[aP e] at hb' ⊢;obtain⟨a,b⟩:=h.job v hv' hb';grind
   ·rw[el] at he ⊢;rcases cY.1 he with he|he
    ·exact⟨(h.tell e he k).1,keep (h.ev e he).2 (h.tell e he k).2⟩
    grind
   ·rw[el,bAE];have a:=aJD (f:=VX t) (g:=VX (qQ t w b)) hw λv hv' hn=>by simp_all[VX]
    have a':=aJD (f:=GY t) (g:=GY (qQ t w b)) hw λv hv' hn=>aj
    have b1:VX (qQ t w b) w=1:=by unfold VX;rw[ej w hw,aO rfl];rfl
    have b':VX t w=0:=by simp_all[VX]
    have c1:=eqq w hw;rw[aO rfl,UH] at c1;have c2:GY t w=(m6 t w).length:=rfl;have s:=h.sum;grind[kT]
   ·rw[es];have a':=aJD (f:=GY t) (g:=GY (qQ t w b)) hw λv hv' hn=>aj
    have c1:=eqq w hw;rw[aO rfl,UH] at c1;have c2:GY t w=(m6 t w).length:=rfl;have s:=h.ser;omega
def cN(c:Int)(l:List j7):Nat:=l.countP λe=>e.Kind == 3 && e.Code == c
theorem a1R{l:List j7}(hl:l.length<=1000000)(c:Int):M1 l c=some (cN c l:Int):=by
 unfold M1;have key:loop (A9 l c) (0,0)=some (cN c l:Int):=by
  have:=iW (f:=A9 l c) l.length (λi=>((cN c (l.take i):Int),(i:Int))) (cN c l:Int) (λi hi=>by
   have hle:cN c (l.take i)<=i:=lO (List.countP_le_length) aj;have e:cN c (l.take (i+1))=cN c (l.take i)+if l[i].Kind == 3 && l[i].Code == c then 1 else 0:=by grind[EA,cN]
   simp only[A9,IZ,I0];rw[eV,aZ hi,aM,e];grind[cW]) (by simp[A9])
  grind[cN]
 rw[key];rfl
def UE(l:List j7):List j7:=l.filter λe=>e.Kind == 3
theorem a4G(hl:t.Log.length<=1000000)(he:∀e∈t.Log,EvS e):CF t=some (UE t.Log):=by
 unfold CF;have key:loop (nW t) ([],0)=some (UE t.Log):=by
  have:=iW (f:=nW t) t.Log.length (λi=>(UE (t.Log.take i),(i:Int))) (UE t.Log) (λi hi=>by
   have hle:(UE (t.Log.take i)).length<=i:=lO (aSY _ _) aj;simp only[nW,tR];rw[eV,aZ hi,aM,a99 (he _ (dF hi)),aM,OD,dO,EA hi];grind[UE]) (by simp[nW])
  grind[UE]
 rw[key];rfl
theorem aVW:∀(n k:Nat) (t:Table),(NY n k t).Log.length<=t.Log.length+n
 |0,_,t=>iZ _
 |n + 1,k,t=>by
  unfold NY;split
  ·omega
  ·have:=aVW n (k+1) (aW t ((k % 3:Nat):Int));have h:=Y3 t ((k % 3:Nat):Int);unfold PJ at h;grind
def Ky7:List Int:=[0,1,2,3,4,5,7,99]
theorem bLL{k:Int}(h:KyD k)(v:0<=k/\k<=99):k∈Ky7:=by
 unfold KyD at h;have:k=0\/k=1\/k=2\/k=3\/k=4\/k=5\/k=7\/k=99:=aa
 simpa[Ky7] using this
theorem bI1(hd:YM l)(ht:T8 l):Sft Ky7 (λ_=>0) (b9 l):=Sft.zero λq hq b hb x hx=>bLL ((hd.2 q hq).2.2.2 b hb |>.2 x hx) ((((ht.2 q hq).2 b hb).2.2.1 x hx).2.1)
theorem bLM(hd:YM l)(hw:eN w):aD6 (λ_=>0) (b9 l) w<=999:=by
 have ej:∀v,eN v->aD (b9 l) v=cX:=λv hv=>by rcases(by omega:v=0\/v=1\/v=2) with rfl|rfl|rfl<;>rfl
 have eq:∀v:Int,QuD 13 910 ⟨m6 (b9 l) v⟩:=λv=>by
  show QuD 13 910 ⟨(l.getD v.toNat ⟨[]⟩).List⟩;rw[G9];cases e:l[v.toNat]? with
  |none=>simp[QuD,G7]
  |some q=>exact hd.2 q (D9 e)
 have eb:∀v,eN v->0<=zZ (b9 l) v/\zZ (b9 l) v<=13:=λv hv=>by have h1:=aD7 aSH (m6 (b9 l) v);have h2:=(eq v).2.1;unfold zZ;rw[ej v hv,aP (λq=>by cases q.1)];grind
 have er:kI (b9 l).aA w=0:=by rcases(by omega:w=0\/w=1\/w=2) with rfl|rfl|rfl<;>rfl
 have eo:aVO (λ_=>0) (b9 l) w<=910:=by unfold aVO;rw[ej w hw,er];have h1:=(eq w).1;grind[cA,cX]
 have b0:=eb 0 (by simp[eN]);have b1:=eb 1 (by simp[eN]);have b2:=eb 2 (by simp[eN]);unfold aD6 vM;rcases(by omega:w=0\/w=1\/w=2) with rfl|rfl|rfl<;>omega
def PlT(n:Int)(t:Table):Prop:=TlT n t/\∃q,Sft Ky7 q t
def PhT(n:Int)(t:Table):Prop:=TlT n t/\∃q,Sft Ky7 q t/\∀w,eN w->¬YJ t w->aD6 q t w<=999
theorem aVY(t:Table):0<=vM (GY t):=by grind[vM,GY]
theorem PlT.step(hv:TV t)(hw:eN w)(h:PlT n t):PlT n (aW t w):=by obtain⟨a,q,b⟩:=h;exact⟨a.step hv hw b,_,b.step hv hw⟩
theorem PhT.step(hn:n<=100)(hv:TV t)(hw:eN w)(h:PhT n t):PhT n (aW t w):=by
 obtain⟨a,q,b,c⟩:=h;refine⟨a.step hv hw b,_,b.step hv hw,λv hv' hi=>?_⟩;have hser:t.aG≠1000000:=by have:=a.ser;have:=aVY t;omega
 by_cases hid:YJ t w
 ·obtain⟨e1,e2⟩:=aP7 ai hv b hw hid;grind
 ·obtain⟨a1,a2⟩:=aVP ai hv b hw hser hid;grind
theorem bNX(hd:YM l)(ht:T8 l)(p:List Int)(hp:p.length<=400):lE (BQ (b9 l) p)=some (NY 3000 0 (BQ (b9 l) p))/\MA (NY 3000 0 (BQ (b9 l) p))=true/\TV (NY 3000 0 (BQ (b9 l) p))/\PlT (vM (GY (b9 l))) (NY 3000 0 (BQ (b9 l) p))/\(NY 3000 0 (BQ (b9 l) p)).Log.length<=3400:=by
 have hn:vM (GY (b9 l))<=100:=by
  have:∀v:Int,GY (b9 l) v<=13:=λv=>by
   show(((l.getD v.toNat ⟨[]⟩).List.length:Nat):Int)<=13;rw[G9];cases e:l[v.toNat]? with
   |none=>simp
   |some q=>exact(hd.2 q (D9 e)).2.2.1
  grind[vM]
 obtain⟨v,a,q,b,c⟩:=aMC (P:=PhT (vM (GY (b9 l)))) (λt w hv hw h=>h.step hn hv hw) p (aFP ht) ⟨.zero rfl,_,bI1 hd ht,λw hw _=>bLM hd hw⟩;have hl:=aP2 p (b9 l);rw[show(b9 l).Log.length=0 from rfl] at hl;generalize BQ (b9 l) p=t at v a b c hl;obtain⟨g1,g2,g3,_⟩:=aQA ai (PlT (vM (GY (b9 l)))) (λt w hv hw h=>h.step hv hw) (λt h=>by have:=h.1.ser;have:=aVY t;omega) 3000 0 q t v b ⟨a,q,b⟩ λw hw hi=>aj
 have:=aVW 3000 0 t;exact⟨a4F v aa λe he=>(a.ev e he).1,g1,g2,g3,aa⟩
theorem bAF{l:List j7}{P:List eJ->Prop}(h:TlJ l s P):0<=ID l 1 s/\P (l.getD (ID l 1 s).toNat ⟨0,0,0,0,[],[]⟩).bN:=by obtain⟨c,hc,k,e⟩:=h.call;have hlt:l.findIdx (isE 1 s)<l.length:=a43 ⟨c,hc,by grind[isE]⟩;have hp:=aSX (w:=hlt);have e1:ID l 1 s=(l.findIdx (isE 1 s):Int):=aO hlt;rw[e1];refine⟨aa,?_⟩;rw[K8,G9,jC hlt];unfold isE at hp;rw[uG,beq_iff_eq,beq_iff_eq] at hp;exact h.all _ (dF hlt) hp.1 hp.2
theorem kJ.cls(h:kJ m x):0<=bM m.Heap (x % 32)/\lN x:=⟨dQ h.1.2.1,h.1.1⟩
theorem aMX{m:Mem}(hm:lX m):∀(r:List Int) (done:List Int) (x:Int),ChT m x r->(done++r).Nodup->done.length+r.length<=1000->loop (CI m) (done,x)=some (Out.brk (done++r))
 |[],done,x,h,hn,hl=>by refine bB ?_;have hx:x=0:=h;simp_all[CI]
 |a::r,done,x,h,hn,hl=>by
  obtain⟨rfl,hw,hk,hc⟩:=h;obtain⟨hcl,hh⟩:=hw.cls;obtain⟨c,e,hc0⟩:=YD hm x;have hx0:x≠0:=by have:=hh.1;omega
  have hnot:x∉done:=λq=>aj
  simp only[HA] at hl;rw[bG (s':=(done++[x],(cH m x).Next)) (by
   simp only[CI];rw[aO aj,e,aM,hc0.2 hw,gH,contains_eq (by grind[maxLen]),aM,iD hnot];unfold CH;rw[gH,show Int.tmod x 32=x % 32 from aQJ (by have:=hh.1;omega),aFJ hm.1.1.1 hcl hw.2,aM,aPW,aM,dA (show aBN (ZN m.Heap (x % 32)) from hk),gH,OD];rfl)]
  rw[aMX hm r (done++[x]) _ hc aj ah];simp
theorem aSJ(hm:lX m)(hb:m.Heap.Bytes.length<=maxLen)(ha:(iF m.aE).length<=1073741824){l:List Int}(h:ChT m x l)(hn:l.Nodup)(hl:l.length<=1000):FX m x=some (l,true):=by unfold FX;rw[BN hb ha,dA hm,aM,gH,aMX hm l [] x h aj aj];rfl
def bLN:List Int->Int->List Int
 |[],x=>[x]
 |a::t,x=>if a=x then a::t else if x<a then x::a::t else a::bLN t x
def a4H(f:Int->List Int):Nat->List Int
 |0=>[]
 |k+1=>a4H f k++f k
def srt(l:List Int):List Int:=l.foldl bLN []
def aOV(c:Int->List Int)(J:Int->aI):List Int:=a4H c 2++a4H (λv=>own (J v)) 3
section
variable {Ky:List Int} {b:aA} {k:List bW} {c:Int->List Int} {q:Int->Nat} {J:Int->aI} (h:sK Ky b k c q J)
include h
theorem a1S(s:Int):ZO (aOV c J) s=ind b s:=by rw[<-h.cnt s];grind[aOV,a4H,UA,cnC,cnO]
theorem bI3(hx:x∈aOV c J):kJ b.Mem x/\¬bE b.aQ (x % 32):=by
 refine⟨?_,?_⟩
 ·have:x∈c 0\/x∈c 1\/x∈own (J 0)\/x∈own (J 1)\/x∈own (J 2):=by grind[aOV,a4H]
  rcases this with m|m|m|m|m
  ·exact((h.ch 0 (by simp[oG])).all x m).1
  ·exact((h.ch 1 (by simp[oG])).all x m).1
  ·exact h.ok 0 (by simp[eN]) x m
  ·exact h.ok 1 (by simp[eN]) x m
  ·exact h.ok 2 (by simp[eN]) x m
 ·have:=QO hx;rw[a1S h] at this;grind[ind]
theorem a1T:((aOV c J).map (· % 32)).Nodup:=List.nodup_iff_count.2 λs=>by have:=a1S h s;grind[ZO,ind]
theorem a4I:(aOV c J).Nodup:=(List.pairwise_map.1 (a1T h)).imp λh e=>h (by rw[e])
theorem a1U(hx:x∈aOV c J):(0<=x % 32/\x % 32<24)/\x % 32 % 4<2/\x≠0:=by obtain⟨⟨lv,h10⟩,_⟩:=bI3 h hx;obtain⟨a,e,f⟩:=rE (dQ lv.2.1);rw[f] at h10;have:=lv.1;grind[lN,cJ,jI]
theorem bEV:(aOV c J).length<=12:=by
 have e:=a32 (p:=λi:Nat=>decide ((i:Int)∈(aOV c J).map (· % 32))) (n:=24) (a1T h) (λx hx=>by
  grind[a1U]) (λi _=>ae)
 rw[List.length_map] at e;rw[<-e];unfold bDY;refine lO (m:=((List.range 24).filter λi:Nat=>decide (i % 4<2)).length) ?_ ai;rw[<-List.countP_eq_length_filter,<-List.countP_eq_length_filter];refine List.countP_mono_left λi _ hi=>?_;obtain⟨y,hy,e⟩:=AU.1 (of_decide_eq_true hi);grind[a1U]
end
section
variable {Ky:List Int} {t:Table} {c:Int->List Int} {q:Int->Nat} (hv:TV t) (h:sK Ky t.aA t.aR c q (aD t))
include hv h
theorem aY0(hi:oG i):(c i).length<=12/\(c i).Nodup:=by have h1:=bEV h;grind[a4I,aOV,a4H]
theorem bAG:JM t=some ([c 0,c 1],true):=by
 have hm:=hv.base.1.1;obtain⟨hcnt,h3,h9,h384,_⟩:=lX.facts hm;have k2:=hv.bk.1;have e:∀i:Int,oG i->idx t.aR i=some (dX t.aR i)/\FX t.aA.Mem (dX t.aR i).Head=some (c i,true):=λi hi=>by obtain⟨a,b⟩:=aY0 hv h hi;refine⟨?_,aSJ hm (by grind[maxLen]) aa (h.ch i hi) b aa⟩;grind[gW,dX]
 have key:loop (xV t) (([]:List (List Int)),0)=some (Out.brk [c 0,c 1]):=by
  rw[bG (s':=([c 0],1)) (by simp_all[xV,cW,b7]),
   bG (s':=([c 0,c 1],2)) (by simp_all[xV,cW,b7]),bB (r:=Out.brk [c 0,c 1]) (by grind[xV])]
 unfold JM;rw[aD8 hv,aM,gH,key];rfl
end
theorem aQC{s:List KV}{p:KV->Bool}(hl:s.length<=4611686018427387904) :
  (∃j,∃h:j<s.length,(∀i (h:i<s.length),i<j->p s[i]=false)/\p s[j]=true/\jA s (λy=>some (p y))=some (j:Int))\/((∀i (h:i<s.length),p s[i]=false)/\jA s (λy=>some (p y))=some (-1)):=by
 rcases R0 (f:=tS s (λy=>some (p y))) (p:=p) hl (λk=>by
  simp only[tS];by_cases h:k<s.length
  ·rw[dif_pos h,eV,aZ h,aM,aM,dO];rfl
  grind) s.length 0 aa with ⟨j,h,_,h2,h3,h4⟩|⟨h1,h2⟩
 ·refine .inl ⟨j,h,λi hi a=>h2 i hi (jD _) a,h3,?_⟩;unfold jA;rw[show(0:Int)=((0:Nat):Int) from rfl,h4];rfl
 ·refine .inr ⟨λi hi=>h1 i hi (jD _),?_⟩;unfold jA;rw[show(0:Int)=((0:Nat):Int) from rfl,h2];rfl
theorem aY1{s:List KV}{p:KV->Bool}(hl:s.length<=4611686018427387904):pT s (λy=>some (p y))=some (s.filter λx=>!p x):=by
 unfold pT;rcases aQC (p:=p) hl with ⟨j,h,h1,h2,h3⟩|⟨h1,h3⟩
 ·have ne:¬(((j:Int) == -1)=true):=ae
  rw[h3,aM,aP ne,dO];obtain⟨M,k,g1,g2,g3,g4⟩:=aIS (p:=p) (n:=s.length) (f:=mD (λy=>some (p y))) hl (λL i j h hn hi=>by
   simp only[mD];rw[eV,aZ h,aM,aM];by_cases hp:p L[j]=true
   ·rw[aO hp,aP (by simp[hp])];grind[jX,cW]
   ·rw[aP hp,aO aj,XX,aM];grind[jX,cW]) (λL i j h=>by
   grind[mD]) (s.length-(j+1)) s j (j+1) aa rfl aa
  grind[DW,DV,b7,eZ,aPI,aUJ]
 ·rw[h3,aM,aO ak,List.filter_eq_self.2];grind[V4]
theorem bAH{O:Type}{p:O->Bool}:∀{l:List O},(∀x∈l,p x=true)->l.dropWhile p=[]
 |[],_=>rfl
 |a::l,h=>by rw[List.dropWhile_cons,aO (h a ae),bAH λx hx=>h x (by simp[hx])]
def mpF(m:List KV)(k v:Int):List KV:=(m.filter λx=>!(x.Key == k)).takeWhile (λx=>!decide (k<x.Key))++⟨k,v⟩::(m.filter λx=>!(x.Key == k)).dropWhile (λx=>!decide (k<x.Key))
theorem a4J{m:List KV}(hl:m.length<=100000)(k v:Int):DX m k v=some (mpF m k v):=by
 unfold DX WV KG;rw[OD,aM,V5,show(λy0=>P5 y0 k)=(λy=>some (y.Key == k)) from rfl,aY1 aa,aM,aM];unfold mpF;have hd:(m.filter λx=>!(x.Key == k)).length<=m.length:=aSY _ _;generalize (m.filter λx=>!(x.Key == k))=d at hd;have ins:∀j:Nat,j<=d.length->xU k v d (j:Int)=some (d.take j++⟨k,v⟩::d.drop j):=λj hj=>by grind[xU,H0,b7]
 rw[show(λy0=>P6 y0 k)=(λy=>some (decide (k<y.Key))) from rfl];rcases aQC (s:=d) (p:=λy=>decide (k<y.Key)) aa with ⟨j,h,h1,h2,h3⟩|⟨h1,h3⟩
 ·obtain⟨e1,e2⟩:=aRU (q:=λx:KV=>!decide (k<x.Key)) h (λi hi a=>aj) aj;grind
 ·have hall:∀x∈d,(!decide (k<x.Key))=true:=λx hx=>by grind[V4]
  have e0:d.dropWhile (λx:KV=>!decide (k<x.Key))=[]:=bAH hall;have e1:=aS0 (p:=λx:KV=>!decide (k<x.Key)) (l:=d);grind
theorem bEW{m:List KV}{k v:Int}(h:∀x∈m,x.Key≠k):(mpF m k v).length=m.length+1/\∀x,x∈mpF m k v↔x=⟨k,v⟩\/x∈m:=by unfold mpF;rw[List.filter_eq_self.2 (λx hx=>aj)];have e:=aS0 (p:=λx:KV=>!decide (k<x.Key)) (l:=m);grind
def chF(m:Mem)(l:List Int)(a:List KV):List KV:=l.foldr (λh a=>mpF a (cH m h).Key (cH m h).dC) a
theorem aD9{m:Mem}{a:List KV}:∀{l:List Int},(mW m l).Nodup->(∀x∈a,∀y∈l,x.Key≠(cH m y).Key)->(chF m l a).length=a.length+l.length/\∀x,x∈chF m l a↔x∈a\/∃y∈l,x=⟨(cH m y).Key,(cH m y).dC⟩
 |[],_,_=>by simp[chF]
 |h::l,hn,hd=>by unfold mW at hn;rw[AT,ZU] at hn;obtain⟨i1,i2⟩:=aD9 (l:=l) hn.2 (λx hx y hy=>hd x hx y (lH _ hy));grind[chF,bEW]
section
variable {Ky:List Int} {t:Table} {c:Int->List Int} {q:Int->Nat} (hv:TV t) (h:sK Ky t.aA t.aR c q (aD t))
include hv h
theorem aY2{i:Int}(hi:oG i):∀{l A:List Int} {a:List KV},c i=A++l->(mW t.aA.Mem l).Nodup->(∀x∈a,∀y∈l,x.Key≠(cH t.aA.Mem y).Key)->a.length<=1000->l.length<=100->tmB t l a=some (chF t.aA.Mem l a)
 |[],_,_,_,_,_,_,_=>rfl
 |x::l,A,a,e,hn,hd,ha,hl=>by have hm:=hv.base.1.1;unfold mW at hn;rw[AT,ZU] at hn;rw[HA] at hl;have hd':∀z∈a,∀y∈l,z.Key≠(cH t.aA.Mem y).Key:=λz hz y hy=>hd z hz y (lH _ hy);have ih:=aY2 hi (l:=l) (A:=A++[x]) (a:=a) (by rw[e];simp) hn.2 hd' ha aa;obtain⟨w1,w2⟩:=(h.ch i hi).all x (by rw[e];simp);obtain⟨hcl,hh⟩:=w1.cls;have hlen:=(aD9 (m:=t.aA.Mem) (l:=l) hn.2 hd').1;unfold tmB;rw[ih,aM,show Int.tmod x 32=x % 32 from aQJ (by have:=hh.1;omega),aFJ hm.1.1.1 hcl w1.2,aM];exact a4J aa _ _
def aY3(m:Mem)(c:Int->List Int):List KV:=chF m (c 1) (chF m (c 0) [])
theorem aVZ:∀x∈chF t.aA.Mem (c 0) [],∀y∈c 1,x.Key≠(cH t.aA.Mem y).Key:=λx hx y hy e=>by
 obtain⟨k1,k2⟩:=h.key 0 (by simp[oG]);obtain⟨k3,k4⟩:=h.key 1 (by simp[oG]);rcases((aD9 (a:=[]) k1 ae).2 x).1 hx with q|⟨z,hz,rfl⟩
 ·cases q
 ·have e1:=(k2 _ (AU.2 ⟨z,hz,rfl⟩)).1;have e2:=(k4 _ (AU.2 ⟨y,hy,rfl⟩)).1;grind
theorem a1V:vW t=some (aY3 t.aA.Mem c)/\(aY3 t.aA.Mem c).length=(c 0).length+(c 1).length:=by obtain⟨k1,_⟩:=h.key 0 (by simp[oG]);obtain⟨k3,_⟩:=h.key 1 (by simp[oG]);have l0:=(aY0 hv h (i:=0) (by simp[oG])).1;have l1:=(aY0 hv h (i:=1) (by simp[oG])).1;obtain⟨e0,_⟩:=aD9 (m:=t.aA.Mem) (a:=[]) k1 ae;obtain⟨e1,_⟩:=aD9 (m:=t.aA.Mem) k3 (aVZ hv h);refine⟨?_,by grind[aY3]⟩;unfold vW;rw[bAG hv h,aM];simp only[tmL];rw[aY2 hv h (by simp[oG]) (A:=[]) rfl k1 ae ae aa,aM,aY2 hv h (by simp[oG]) (A:=[]) rfl k3 (aVZ hv h) aj aa];rfl
end
abbrev IE:=Int->Option Int
def upM(M:IE)(k:Int)(v:Option Int):IE:=λx=>if x=k then v else M x
def aV0(M:IE)(c:eJ):IE×hU:=
 if c.Kind=2 then(upM M c.Key (some c.dC),⟨false,0⟩)
 else if c.Kind=3 then(upM M c.Key none,⟨false,0⟩)
 else if c.Kind=4 then(upM M c.Key (some (vK ((M c.Key).getD 0) c.dC)),⟨true,vK ((M c.Key).getD 0) c.dC⟩)
 else(M,⟨(M c.Key).isSome,(M c.Key).getD 0⟩)
def GZ(M:IE):List eJ->IE×List hU
 |[]=>(M,[])
 |c::l=>((GZ (aV0 M c).1 l).1,(aV0 M c).2::(GZ (aV0 M c).1 l).2)
theorem UF(c:eJ):∀(l:List eJ) (M:IE),GZ M (l++[c])=((aV0 (GZ M l).1 c).1,(GZ M l).2++[(aV0 (GZ M l).1 c).2])
 |[],M=>rfl
 |d::l,M=>by simp only[DM,GZ,UF c l]
def apw(W:List aU)(M:IE):IE:=λk=>match W.find? (λy=>y.Key == k) with
 |some x=>wv x
 |none=>M k
theorem aEA(M:IE):apw [] M=M:=rfl
theorem a1W(W:List aU)(x:aU)(M:IE):apw (vI W x) M=upM (apw W M) x.Key (wv x):=by
 have e:=aS0 (p:=λy:aU=>!decide (x.Key<y.Key)) (l:=W.filter λy=>!(y.Key == x.Key));funext k;unfold apw upM vI;by_cases h:k=x.Key
 ·subst h;have hn:((W.filter λy=>!(y.Key == x.Key)).takeWhile (λy=>!decide (x.Key<y.Key))).find? (λy=>y.Key == x.Key)=none:=by grind[List.takeWhile_sublist]
  grind
 ·have hf:(W.filter λy=>!(y.Key == x.Key)).find? (λy=>y.Key == k)=W.find? (λy=>y.Key == k):=aj
  grind
theorem a1X(W:List aU)(M:IE)(k:Int):apw W M k=if(OE W k).2 then(if(OE W k).1.G6 then none else some (OE W k).1.dC) else M k:=by unfold apw OE;cases W.find? λy=>y.Key == k<;>rfl
theorem aV1{W:List aU}{M:IE}{k:Int}(h:∀y∈W,y.Key≠k):apw W M k=M k:=by grind[apw]
theorem SD{W:List aU}{M N:IE}{k:Int}(h:M k=N k):apw W M k=apw W N k:=by grind[apw]
theorem aV2{W:List aU}(hs:W.Pairwise (λx y=>x.Key<y.Key))(h0:0<=K)(h:K<W.length)(M:IE)(k:Int):apw (W.drop K.toNat) M k=if k=(W.getD K.toNat ⟨0,false,0⟩).Key then wv (W.getD K.toNat ⟨0,false,0⟩) else apw (W.drop (K+1).toNat) M k:=by
 have hi:K.toNat<W.length:=aa
 have e:(K+1).toNat=K.toNat+1:=aa
 unfold apw;rw[uI hi,G9,jC hi,aF3,List.find?_cons,e];grind
theorem bEX{W:List aU}(hs:W.Pairwise (λx y=>x.Key<y.Key))(h0:0<=K)(h:K<W.length):∀y∈W.drop (K+1).toNat,y.Key≠(W.getD K.toNat ⟨0,false,0⟩).Key:=λy hy=>by
 have hi:K.toNat<W.length:=aa
 rw[show(K+1).toNat=K.toNat+1 by omega] at hy;rw[G9,jC hi,aF3];have h1:=hs.sublist (List.drop_sublist K.toNat W);grind[uI,aJL]
def bAI(G:List (Int×Option Int))(M:IE):Prop:=∀g∈G,M g.1=g.2
def Did(G:List (Int×Option Int))(j:aI):Prop:=∀M,bAI G M->GZ M (j.Batch.bN.take j.At.toNat)=(apw j.aH M,j.hU)
section
variable {G G':List (Int×Option Int)} {j:aI} (h:Did G j) (hat:0<=j.At) (hc:uB j)
include h hat hc
theorem aFS:j.Batch.bN.take (j.At+1).toNat=j.Batch.bN.take j.At.toNat++[cG j]:=by
 unfold uB at hc;have hi:j.At.toNat<j.Batch.bN.length:=aa
 unfold cG
 (simp_all;omega)
theorem bEY(hk:(cG j).Kind=2\/(cG j).Kind=3)(e1:j'.Batch=j.Batch)(e2:j'.At=j.At+1)(e3:j'.aH=vI j.aH ⟨(cG j).Key,(cG j).Kind == 3,(cG j).dC⟩)(e4:j'.hU=j.hU++[⟨false,0⟩]):Did G j':=λM hM=>by rw[e1,e2,e3,e4,aFS h hat hc,UF,h M hM,a1W];grind[aV0,wv]
theorem a1Y{v:Int}{is:Bool}(hG:∀M,bAI G' M->bAI G M)(hk:(cG j).Kind=1\/(cG j).Kind=4)(hv:∀M,bAI G' M->apw j.aH M (cG j).Key=if is then some v else none)(hl:(vI j.aH ⟨(cG j).Key,false,vK (if is then v else 0) (cG j).dC⟩).length<=6):Did G' (qU j (cG j) v is):=λM hM=>by
 have hd:=h M (hG M hM);have hx:=hv M hM;unfold qU;rcases hk with k|k
 ·rw[iE];unfold T7;simp only;rw[aFS h hat hc,UF,hd];grind[aV0]
 ·rw[aO k];unfold VW oD;rw[aP (show ¬6<(vI j.aH ⟨(cG j).Key,false,vK (if is then v else 0) (cG j).dC⟩).length by omega),aO rfl];unfold T7;simp only;rw[aFS h hat hc,UF,hd,a1W];grind[aV0,wv]
end
def BkS(k k':List bW)(w:Int)(j:aI)(i:Int):Prop:=
 ((dX k' i).eO=(dX k i).eO/\((dX k' i).eM=(dX k i).eM\/(j.Pc=7/\(dX k i).eM=0/\(dX k' i).eM=w+1/\(dX k i).eO≠1000000)\/(j.Pc=16/\(dX k i).eM=w+1/\(dX k' i).eM=0))) \/
 (j.Pc=14/\(dX k i).eM=w+1/\(dX k' i).eM=0/\(dX k' i).eO=if 1000000<(dX k i).eO+1 then 1000000 else(dX k i).eO+1)
theorem bEZ(h0:0<=j.K)(h:j.K<(pZ j.aH).length):oG (fV j):=by grind[fV,R6,dF]
theorem bAJ(h:0<j.bE.length):wS j∈j.bE:=by grind[wS]
theorem aMY{b:aA}(h2:k.length=2)(hj:JB j)(hl:Y4 k w j)(hi:oG i):BkS k (eX b k w j).k w j i:=by
 have same:∀{k':List bW},(dX k' i).eO=(dX k i).eO->(dX k' i).eM=(dX k i).eM->BkS k k' w j i:=λa b=>.inl ⟨a,.inl b⟩;have hd:∀(i' x:Int),oG i'->BkS k (k.set i'.toNat {dX k i' with Head:=x}) w j i:=λi' x hi'=>by grind[rF]
 unfold eX;have P:∀{c:Prop} [Decidable c] {x y:TR},(c->BkS k x.k w j i)->(¬c->BkS k y.k w j i)->_:=dM (P:=λr=>BkS k r.k w j i);refine P (λ_=>same rfl rfl) λ_=>P (λ_=>same rfl rfl) λ_=>P (λ_=>same rfl rfl) λ_=>P (λ_=>same rfl rfl) λ_=>P (λp=>?_) λ_=>P (λ_=>same rfl rfl) λ_=>P (λp=>?_) λ_=>P (λp=>?_) λ_=>P (λ_=>same rfl rfl) λ_=>P (λ_=>same rfl rfl) λ_=>P (λ_=>same rfl rfl) λ_=>P (λ_=>same rfl rfl) λ_=>same rfl rfl
 ·show BkS k (oS k w j).1 w j i;have key:∀(h:j.K<(pZ j.aH).length),(dX k (fV j)).eM=0->(dX k (fV j)).eO≠1000000->BkS k (k.set (fV j).toNat {dX k (fV j) with eM:=w+1}) w j i:=λh a c=>by
   have hb:=bEZ hj.k.1 h;by_cases e:i=fV j
   ·refine .inl ⟨?_,.inr (.inl ⟨p,?_⟩)⟩
    ·rw[rF h2 hb hi,aO e,e]
    ·rw[rF h2 hb hi,aO e,e];exact⟨a,rfl,c⟩
   simp_all[rF]
  unfold oS;grind
 ·show BkS k (lY b k j).2.1 w j i;unfold lY;split
  ·grind
  rename_i q;have hx:=hj.wr.2.1 (mV j) (by
   have hi:j.K.toNat<j.aH.length:=by have:=hj.k;omega
   grind[mV])
  have hb:oG (jJ (mV j).Key):=by unfold jJ;omega
  grind
 ·show BkS k (AQ k j).1 w j i;unfold AQ;split
  ·rename_i h0;have hm:=bAJ h0;have hb:=hj.held.1 _ hm;have hlk:=(hl.iff _ hb).1 hm;by_cases e:i=wS j
   ·by_cases p14:j.Pc=14
    ·refine .inr ⟨p14,?_⟩;rw[rF h2 hb hi,aO e,aO p14,e];exact⟨hlk,rfl,rfl⟩
    ·refine .inl ⟨?_,.inr (.inr ⟨aa,?_⟩)⟩
     ·rw[rF h2 hb hi,aO e,aP p14,e]
     ·rw[rF h2 hb hi,aO e,aP p14,e];exact⟨hlk,rfl⟩
   simp_all[rF]
  grind
structure Bz (n:Int) (t:Table):Prop where
 v:TV t
 pl:PlT n t
 lg:a30 t
 lv:∀i,oG i->(dX t.aR i).eM≠0->(dX t.aR i).eO≠1000000
 rv:∀w,eN w->∀s∈(aD t w).Reads,s.eO<=(dX t.aR s.bW).eO
 tu:∀x∈t.Log,∀y∈t.Log,x.Kind=3->y.Kind=3->x.aG=y.aG->x=y
theorem bAK{b:aA}(hp:0<=j.Pc/\j.Pc<=21):∀s∈(eX b k w j).j.Reads,s∈j.Reads\/s=⟨j.bW,j.eO⟩/\(dX k j.bW).eO=j.eO:=by
 unfold eX;have P:∀{c:Prop} [Decidable c] {x y:TR},(c->∀s∈x.j.Reads,s∈j.Reads\/s=⟨j.bW,j.eO⟩/\(dX k j.bW).eO=j.eO)->(¬c->∀s∈y.j.Reads,s∈j.Reads\/s=⟨j.bW,j.eO⟩/\(dX k j.bW).eO=j.eO)->_:=dM (P:=λr=>∀s∈r.j.Reads,s∈j.Reads\/s=⟨j.bW,j.eO⟩/\(dX k j.bW).eO=j.eO);have E:∀{j':aI},j'.Reads=j.Reads->∀s∈j'.Reads,s∈j.Reads\/s=⟨j.bW,j.eO⟩/\(dX k j.bW).eO=j.eO:=λe s hs=>.inl (e ▸ hs);have rr:∀(j:aI) (x:aU),(oD j x).2.Reads=j.Reads:=λj x=>by unfold oD sL;split<;>rfl
 have ra:∀(j:aI) c v is,(qU j c v is).Reads=j.Reads:=λj c v is=>by
  unfold qU;split
  ·generalize (if is then v else 0)=u;have h:=rr j ⟨c.Key,false,vK u c.dC⟩;unfold VW;split
   ·exact h
   ·exact h
  ·rfl
 refine P (λ_=>E ?_) λ_=>P (λ_=>E ?_) λ_=>P (λp=>?_) λ_=>P (λ_=>E ?_) λ_=>P (λ_=>E ?_) λ_=>P (λ_=>E ?_) λ_=>P (λ_=>E ?_) λ_=>P (λ_=>E ?_) λ_=>P (λ_=>E ?_) λ_=>P (λ_=>E ?_) λ_=>P (λ_=>E rfl) λ_=>P (λ_ s hs=>by cases hs) λ_=>E rfl
 ·show(nZ b w j).2.Reads=_;grind[nZ]
 ·show(qP j).Reads=_;grind[qP]
 ·show ∀s∈(iQ b k w j).Reads,_;unfold iQ;split
  ·split<;>exact E rfl
  split
  ·exact E rfl
  split
  ·split
   ·exact E rfl
   ·split<;>exact E rfl
  ·split
   ·exact E rfl
   rename_i q;have hv:(dX k j.bW).eO=j.eO:=Classical.byContradiction λz=>q (.inr z);have sp:∀s∈(sI j.Reads j.bW j.eO).1,s∈j.Reads\/s=⟨j.bW,j.eO⟩/\(dX k j.bW).eO=j.eO:=λs hs=>by
    unfold sI at hs;split at hs
    ·exact .inl hs
    ·rcases cY.1 hs with hs|hs
     ·exact .inl hs
     ·exact .inr ⟨iY.1 hs,hv⟩
   split
   ·exact sp
   split
   ·rw[ra];exact sp
   ·exact sp
 ·show(vL b w j).2.Reads=_;grind[vL,sL]
 ·show(oS k w j).2.1.Reads=_;grind[oS,IC,sL]
 ·show(JZ k w j).Reads=_;grind[JZ,sL]
 ·show(lY b k j).2.2.Reads=_;grind[lY,L7,L8,sL]
 ·show(AQ k j).2.Reads=_;grind[AQ,J0]
 ·show(DJ b w j).2.Reads=_;grind[DJ,J0]
 ·show(DK b w j).2.Reads=_;grind[DK]
theorem BkS.le(h:BkS k k' w j i)(hv:(dX k i).eO<=1000000):(dX k i).eO<=(dX k' i).eO:=by
 rcases h with ⟨a,_⟩|⟨_,_,_,a⟩
 ·omega
 ·rw[a];split<;>omega
theorem bAL(hv:TV t)(hi:oG i):(dX t.aR i).eO<=1000000:=(hv.bk.2 _ (aR4 hv.bk.1 hi)).2.1.2
theorem Bz.jb(h:Bz n t)(hw:eN w)(hB:(aD t w).bQ=true):JB (aD t w):=(h.v.wV.2 _ (zS h.v.wV.1 hw)).resolve_left λe=>by rw[e] at hB;cases hB
theorem Bz.step(hw:eN w)(h:Bz n t):Bz n (aW t w):=by
 have h3:=h.v.wV.1;have hpl:=h.pl;obtain⟨_,q,hs⟩:=h.pl;obtain⟨c,sv⟩:=hs.sv;refine⟨h.v.step hw,hpl.step h.v hw,h.lg.step h.v hw,?_,?_,?_⟩
 ·intro i hi hn;unfold aW at hn ⊢;by_cases hB:(aD t w).bQ=true
  ·rw[aO hB] at hn ⊢;have b1:=aMY (b:=t.aA) h.v.bk.1 (h.jb hw hB) (hs.lk w hw) hi;have lv:=h.lv i hi;show(dX (eX t.aA t.aR w (aD t w)).k i).eO≠_;have hn:(dX (eX t.aA t.aR w (aD t w)).k i).eM≠0:=hn;unfold eN at hw;rcases b1 with ⟨a,b|b|b⟩|b
   ·rw[a];exact lv aa
   ·rw[a];exact b.2.2.2
   ·omega
   ·omega
  ·rw[aP hB] at hn ⊢;split at hn<;>split<;>first|exact h.lv i hi hn|contradiction
 ·intro v hv s hs';unfold aW at hs' ⊢;by_cases hB:(aD t w).bQ=true
  ·rw[aO hB] at hs' ⊢;have ej:aD (yQ t w (eX t.aA t.aR w (aD t w))) v=yS (aD t) w (eX t.aA t.aR w (aD t w)).j v:=L9 h3 hw rfl hv;rw[ej] at hs';show s.eO<=(dX (eX t.aA t.aR w (aD t w)).k s.bW).eO;have le:∀{u:Int},oG u->(dX t.aR u).eO<=(dX (eX t.aA t.aR w (aD t w)).k u).eO:=λhu=>(aMY (b:=t.aA) h.v.bk.1 (h.jb hw hB) (hs.lk w hw) hu).le (bAL h.v hu);have old:∀u,eN u->s∈(aD t u).Reads->s.eO<=(dX (eX t.aA t.aR w (aD t w)).k s.bW).eO:=λu hu m=>by
    have a:=h.rv u hu s m;have hb:oG s.bW:=by
     rcases h.v.wV.2 _ (zS h3 hu) with e|e
     ·rw[e] at m;cases m
     ·exact e.reads.1 s m
    grind
   by_cases e:v=w
   ·rw[e,gN] at hs';rcases bAK (sv.tw w hw hB).pc s hs' with m|⟨e1,e2⟩
    ·grind
    ·rw[e1];exact e2 ▸ le (h.jb hw hB).bkt
   grind[qR]
  ·rw[aP hB] at hs' ⊢;by_cases hq:(m6 t w).length=0\/t.aG=1000000
   ·rw[aO hq] at hs' ⊢;exact h.rv v hv s hs'
   ·rw[aP hq] at hs' ⊢;have ej:aD (qQ t w ((m6 t w).getD 0 ⟨false,[]⟩)) v=yS (aD t) w (iU ((m6 t w).getD 0 ⟨false,[]⟩) (t.aG+1)) v:=L9 h3 hw rfl hv;rw[ej] at hs';by_cases e:v=w
    ·rw[e,gN] at hs';cases hs'
    ·rw[qR _ _ e] at hs';exact h.rv v hv s hs'
 ·have add:∀z:j7,(z.Kind=3->∀x∈t.Log,x.Kind=3->x.aG≠z.aG)->∀x∈t.Log++[z],∀y∈t.Log++[z],x.Kind=3->y.Kind=3->x.aG=y.aG->x=y:=λz hz x hx y hy kx ky e=>by
   rcases cY.1 hx with hx|hx<;>rcases cY.1 hy with hy|hy
   ·exact h.tu x hx y hy kx ky e
   ·rw[iY.1 hy] at ky e;exact absurd e (hz ky x hx kx)
   ·rw[iY.1 hx] at kx e;exact absurd e.symm (hz kx y hy ky)
   ·rw[iY.1 hx,iY.1 hy]
  unfold aW;by_cases hB:(aD t w).bQ=true
  ·rw[aO hB];show ∀x∈t.Log++_,∀y∈t.Log++_,_;rcases aVA t.aA t.aR w (aD t w) with ⟨_,_,e|e⟩|⟨_,e⟩<;>rw[e]
   ·rw[uH];exact h.tu
   ·grind
   ·exact add _ λ_=>(h.lg.job w hw hB).tell
  ·rw[aP hB];split
   ·exact h.tu
   ·exact add _ λz=>by cases z
inductive Rn:Table->Table->Prop
 |refl (t:Table):Rn t t
 |step {t e:Table} {w:Int}:eN w->Rn (aW t w) e->Rn t e
theorem Rn.trans{a b c:Table}(h:Rn a b)(k:Rn b c):Rn a c:=by
 induction h with
 |refl=>exact k
 |step hw _ ih=>exact .step hw (ih k)
theorem aJE:∀(l:List Int) (t:Table),Rn t (BQ t l)
 |[],t=>.refl t
 |p::l,t=>by
  have:=aJE l (PJ t p);show Rn t (BQ (PJ t p) l);unfold PJ at this ⊢;split at this
  ·rw[aO (by assumption)];exact .step (by assumption) this
  grind
theorem aSK:∀(n k:Nat) (t:Table),Rn t (NY n k t)
 |0,_,t=>.refl t
 |n + 1,k,t=>by
  unfold NY;split
  ·exact .refl t
  ·exact .step (aJB k) (aSK n (k+1) _)
def uF(e:Table)(s:Int):Bool:=e.Log.any λx=>x.Kind == 3 && x.aG == s && x.Code == 0
theorem aEB:uF e s=true↔∃x∈e.Log,x.Kind=3/\x.aG=s/\x.Code=0:=by simp[uF,and_assoc]
theorem bAM(h:∀x∈e.Log,x.Kind=3->x.aG=s->x.Code≠0):uF e s=false:=by grind[aEB]
theorem aV3(t:Table)(w:Int):∃m,(aW t w).Log=t.Log++m:=by
 unfold aW;split
 ·exact⟨_,rfl⟩
 ·split
  ·simp
  ·exact⟨_,rfl⟩
theorem Rn.log(h:Rn t e):∃m,e.Log=t.Log++m:=by
 induction h with
 |refl=>simp
 |step hw _ ih=>
  obtain⟨m,hm⟩:=ih;obtain⟨a,ha⟩:=aV3 _ _;exact⟨a++m,by rw[hm,ha,nL]⟩
theorem aV4{b:aA}(h:16<=j.Pc/\j.Pc<=18):(eX b k w j).j.Code=j.Code:=by grind[eX,AQ,DK]
theorem aSL{b:aA}(h:8<=j.Pc/\j.Pc<=18)(hp:j.Pc≠16/\j.Pc≠17)(hc:j.Code=0):((eX b k w j).j.Code=7/\j.Pc=8\/(eX b k w j).j.Code=1)\/(eX b k w j).j.Code=0/\(if j.Pc=8 then 8 else 9)<=(eX b k w j).j.Pc/\(eX b k w j).j.Pc<=19:=by
 rcases(by omega:j.Pc=8\/(9<=j.Pc/\j.Pc<=13)\/j.Pc=14\/j.Pc=15\/j.Pc=18) with p|p|p|p|p
 ·grind[eX,JZ,sL]
 ·have e:(eX b k w j).j=(lY b k j).2.2:=by unfold eX;grind
  grind[lY,L7,L8,sL]
 ·grind[eX,AQ,J0]
 ·have e:(eX b k w j).j=(DJ b w j).2:=by grind[eX]
  grind[DJ,J0]
 grind[eX]
section
variable {n:Int} {t:Table} (h:Bz n t)
include h
theorem Bz.ne{v:Int}(hv:eN v)(hw:eN w)(b1:(aD t v).bQ=true)(b2:(aD t w).bQ=true)(e:(aD t v).aG=(aD t w).aG):v=w:=Classical.byContradiction λq=>h.lg.ne v w hv hw q b1 b2 e
theorem Bz.tw(hw:eN w)(hB:(aD t w).bQ=true):(0<=(aD t w).Pc/\(aD t w).Pc<=21)/\((aD t w).Code=0/\(aD t w).Pc≠16/\(aD t w).Pc≠17\/((aD t w).Code=3\/(aD t w).Code=6\/(aD t w).Code=7)/\16<=(aD t w).Pc/\(aD t w).Pc<=19):=by obtain⟨_,q,hs⟩:=h.pl;obtain⟨c,sv⟩:=hs.sv;exact⟨(sv.tw w hw hB).pc,(sv.tw w hw hB).cd⟩
theorem Bz.lk(hw:eN w):Y4 t.aR w (aD t w):=by obtain⟨_,q,hs⟩:=h.pl;exact hs.lk w hw
theorem nJ(hw:eN w)(hB:(aD t w).bQ=true):aW t w=yQ t w (eX t.aA t.aR w (aD t w))/\∀v,eN v->aD (aW t w) v=yS (aD t) w (eX t.aA t.aR w (aD t w)).j v:=by
 have e:aW t w=yQ t w (eX t.aA t.aR w (aD t w)):=by simp_all[aW]
 exact⟨e,λv hv=>by rw[e];exact L9 h.v.wV.1 hw rfl hv⟩
theorem DL(hw:eN w)(hB:(aD t w).bQ≠true):aD t w=cX/\(aW t w=t\/∃x∈m6 t w,aW t w=qQ t w x/\∀v,eN v->aD (aW t w) v=yS (aD t) w (iU x (t.aG+1)) v):=by
 refine⟨(h.v.wV.2 _ (zS h.v.wV.1 hw)).resolve_right λj=>hB j.busy,?_⟩;by_cases hq:(m6 t w).length=0\/t.aG=1000000
 ·simp_all[aW]
 ·right;have e:aW t w=qQ t w ((m6 t w).getD 0 ⟨false,[]⟩):=by simp_all[aW]
  refine⟨_,?_,e,λv hv=>by rw[e];exact L9 h.v.wV.1 hw rfl hv⟩;grind
end
def a4L(t:Table)(s:Int):Prop:=s<=t.aG/\(∀x∈t.Log,x.Kind=3->x.aG=s->x.Code≠0)/\∀w,eN w->(aD t w).bQ=true->(aD t w).aG=s->(aD t w).Code≠0
theorem a4L.step(h:Bz n t)(hw:eN w)(k:a4L t s):a4L (aW t w) s:=by
 obtain⟨k1,k2,k3⟩:=k;by_cases hB:(aD t w).bQ=true
 ·obtain⟨e,ej⟩:=nJ h hw hB;obtain⟨hpc,cd⟩:=h.tw hw hB;have dk:=uE t.aA t.aR w (aD t w) hpc;refine⟨by rw[e];exact k1,λx hx kx ex=>?_,λv hv hb es=>?_⟩
  ·rw[e] at hx;rcases cY.1 hx with hx|hx
   ·grind
   ·rcases dk with ⟨_,_,_,q|q⟩|⟨_,_,q⟩<;>rw[q] at hx
    ·cases hx
    ·grind
    ·rw[iY.1 hx] at ex ⊢;exact k3 w hw hB ex
  ·rw[ej v hv] at hb es ⊢;by_cases z:v=w
   ·rw[z,gN] at hb es ⊢;rcases dk with ⟨s1,_,_,_⟩|⟨_,q,_⟩
    ·have:=k3 w hw hB (s1.symm.trans es);rw[aV4]
     ·exact this
     ·refine⟨aa,?_⟩;have:=uE t.aA t.aR w (aD t w) hpc;by_cases p:(aD t w).Pc=19
      ·have e2:(eX t.aA t.aR w (aD t w)).j=cX:=by simp_all[eX]
       rw[e2] at hb;cases hb
      ·omega
    ·rw[q] at hb;cases hb
   grind[qR]
 ·obtain⟨hn,e|⟨x,_,e,ej⟩⟩:=DL h hw hB
  ·rw[e];exact⟨k1,k2,k3⟩
  ·refine⟨by rw[e];show s<=t.aG+1;omega,λy hy ky ey=>?_,λv hv hb es=>?_⟩
   ·rw[e] at hy;rcases cY.1 hy with hy|hy
    ·exact k2 y hy ky ey
    ·rw[iY.1 hy] at ky;cases ky
   ·rw[ej v hv] at hb es ⊢;by_cases z:v=w
    ·rw[z,gN] at es;have:t.aG+1=s:=es;omega
    grind[qR]
theorem a4L.run(r:Rn t e)(h:Bz n t)(k:a4L t s):uF e s=false:=by
 induction r with
 |refl=>exact bAM k.2.1
 |step hw _ ih=>exact ih (h.step hw) (k.step h hw)
theorem a1Z(r:Rn t e)(h:Bz n t)(hw:eN w)(hB:(aD t w).bQ=true)(hc:(aD t w).Code≠0):uF e (aD t w).aG=false:=a4L.run r h ⟨h.lg.jle w hw hB,λx hx k q=>absurd q ((h.lg.job w hw hB).tell x hx k),λv hv b q=>by rw[h.ne hv hw b hB q];exact hc⟩
theorem bE0(r:Rn t e)(he:∀v,eN v->(aD e v).bQ=false)(h:Bz n t)(k:(∃x∈t.Log,x.Kind=3/\x.aG=s/\x.Code=0)\/∃w,eN w/\(aD t w).bQ=true/\(aD t w).aG=s/\(aD t w).Code=0/\9<=(aD t w).Pc/\(aD t w).Pc<=19):uF e s=true:=by
 induction r with
 |refl=>
  grind[aEB]
 |step hu _ ih=>
  rename_i t e u _;refine ih he (h.step hu) ?_;rcases k with ⟨x,m,k⟩|⟨w,hw,hB,es,hc,hp⟩
  ·obtain⟨l,el⟩:=aV3 t u;grind
  ·by_cases z:w=u
   ·subst z;obtain⟨e1,ej⟩:=nJ h hw hB;obtain⟨hpc,cd⟩:=h.tw hw hB;have dk:=uE t.aA t.aR w (aD t w) hpc;by_cases p:(aD t w).Pc=19
    ·left;rcases dk with ⟨_,q,_⟩|⟨_,_,q⟩
     ·exfalso;have e2:(eX t.aA t.aR w (aD t w)).j=cX:=by unfold eX;simp only[p];rfl
      rw[e2,hB] at q;cases q
     ·refine⟨tlE w (aD t w),by rw[e1];exact aB0 _ (by rw[q];simp),rfl,es,hc⟩
    ·right;rcases dk with ⟨s1,s2,_⟩|⟨q,_⟩
     ·have hb':(aD (aW t w) w).bQ=true:=by rw[ej w hw,gN,s2];exact hB
      have cd':=((h.step hw).tw hw hb').2;refine⟨w,hw,hb',by rw[ej w hw,gN,s1];exact es,?_⟩;rw[ej w hw,gN] at cd' ⊢;rcases aSL (b:=t.aA) (k:=t.aR) (w:=w) (j:=aD t w) aa aa hc with c|⟨c1,c2,c3⟩
      ·omega
      ·rw[iE] at c2;exact⟨c1,c2,c3⟩
     ·omega
   ·right;have ej:aD (aW t u) w=aD t w:=by
     by_cases hBu:(aD t u).bQ=true
     ·rw[(nJ h hu hBu).2 w hw,qR _ _ z]
     ·obtain⟨_,q|⟨x,_,_,q⟩⟩:=DL h hu hBu
      ·rw[q]
      ·rw[q w hw,qR _ _ z]
    grind
def Holds(F:Int->Bool)(t:Table)(v i:Int):Prop:=(dX t.aR i).eM=v+1/\F (aD t v).aG=true/\8<=(aD t v).Pc
def Bad(F:Int->Bool)(t:Table)(w:Int):Prop:=∃s∈(aD t w).Reads.drop (aD t w).K.toNat,s.eO<(dX t.aR s.bW).eO\/∃v,eN v/\v≠w/\Holds F t v s.bW
theorem D2(h:Bz n t){v:Int}(hv:eN v)(hi:oG i)(hl:(dX t.aR i).eM=v+1):(aD t v).bQ=true/\i∈(aD t v).bE/\(7<=(aD t v).Pc/\(aD t v).Pc<=14\/(aD t v).Pc=16):=by
 have hm:=((h.lk hv).iff i hi).2 hl;refine⟨?_,hm,(h.lk hv).pc (List.ne_nil_of_mem hm)⟩;rcases h.v.wV.2 _ (zS h.v.wV.1 hv) with e|e
 ·rw[e] at hm;cases hm
 ·exact e.busy
theorem Holds.step(h:Bz n t)(hu:eN u)(r:Rn (aW t u) e){v:Int}(hv:eN v)(hi:oG i)(k:Holds (uF e) t v i):Holds (uF e) (aW t u) v i\/u=v/\(aD t v).Pc=14/\(dX (aW t u).aR i).eO=(dX t.aR i).eO+1/\(dX (aW t u).aR i).eM=0:=by
 obtain⟨k1,k2,k3⟩:=k;obtain⟨hB,hm,hp⟩:=D2 h hv hi k1;obtain⟨hpc,cd⟩:=h.tw hv hB;have hc:(aD t v).Code=0:=Classical.byContradiction λq=>by have:=a1Z (.step hu r) h hv hB q;grind
 by_cases z:v=u
 ·subst z;obtain⟨e1,ej⟩:=nJ h hv hB;have bk:=aMY (b:=t.aA) h.v.bk.1 (h.jb hv hB) (h.lk hv) hi;have lv:=h.lv i hi aa;have le:=bAL h.v hi;rcases bk with ⟨b1,b2|b2|b2⟩|⟨p,b1,b2,b3⟩
  ·left;rcases uE t.aA t.aR v (aD t v) hpc with ⟨s1,s2,_⟩|⟨q,_⟩
   ·unfold Holds;rw[ej v hv,gN,s1];refine⟨by rw[e1];exact b2.trans k1,k2,?_⟩;have hb':(aD (aW t v) v).bQ=true:=by grind[gN]
    rcases aSL (b:=t.aA) (k:=t.aR) (w:=v) (j:=aD t v) aa aa hc with c|⟨c1,c2,c3⟩
    ·exfalso;have:=a1Z r (h.step hv) hv hb' (by grind[gN]);grind[gN]
    omega
   ·omega
  ·omega
  ·omega
  ·right;rw[e1];refine⟨rfl,p,?_,b2⟩;show(dX (eX t.aA t.aR v (aD t v)).k i).eO=_;rw[b3,iE]
 ·left;unfold Holds;by_cases hBu:(aD t u).bQ=true
  ·obtain⟨e1,ej⟩:=nJ h hu hBu;have bk:=aMY (b:=t.aA) h.v.bk.1 (h.jb hu hBu) (h.lk hu) hi;rw[ej v hv,qR _ _ z];refine⟨?_,k2,k3⟩;rw[e1];show(dX (eX t.aA t.aR u (aD t u)).k i).eM=_;unfold eN at hv hu;rcases bk with ⟨b1,b2|b2|b2⟩|b
   ·rw[b2];exact k1
   ·omega
   ·omega
   ·omega
  ·obtain⟨_,q|⟨x,_,q1,q⟩⟩:=DL h hu hBu
   ·grind
   ·rw[q v hv,qR _ _ z,q1];exact⟨k1,k2,k3⟩
theorem aSM(h:Bz n t)(hu:eN u)(hi:oG i):(dX t.aR i).eO<=(dX (aW t u).aR i).eO:=by
 by_cases hBu:(aD t u).bQ=true
 ·rw[(nJ h hu hBu).1];exact(aMY (b:=t.aA) h.v.bk.1 (h.jb hu hBu) (h.lk hu) hi).le (bAL h.v hi)
 ·obtain⟨_,q|⟨x,_,q1,q⟩⟩:=DL h hu hBu
  ·grind
  ·rw[q1];exact J2 _
theorem bNY(r:Rn t e)(hw:eN w)(h:Bz n t)(hB:(aD t w).bQ=true)(hp:(aD t w).Pc=8)(k:Bad (uF e) t w):uF e (aD t w).aG=false:=by
 induction r with
 |refl=>exact bAM λx hx k q=>absurd q ((h.lg.job w hw hB).tell x hx k)
 |step hu r ih=>
  rename_i t e u;obtain⟨s,hs,hk⟩:=k;have hb:oG s.bW:=(h.jb hw hB).reads.1 s (OH hs);have hk':s.eO<(dX (aW t u).aR s.bW).eO\/∃v,eN v/\v≠w/\Holds (uF e) (aW t u) v s.bW:=by
   rcases hk with k|⟨v,hv,hn,k⟩
   ·have:=aSM h hu hb;left;omega
   ·rcases k.step h hu r hv hb with q|⟨_,_,q,_⟩
    ·grind
    ·have:=h.rv w hw s (OH hs);left;omega
  by_cases z:w=u
  ·subst z;obtain⟨e1,ej⟩:=nJ h hw hB;have e2:(eX t.aA t.aR w (aD t w)).j=JZ t.aR w (aD t w):=by grind[eX]
   have ew:aD (aW t w) w=JZ t.aR w (aD t w):=by grind[gN]
   have hk0:=(h.jb hw hB).k;unfold JZ at ew;split at ew
   ·grind[aBY]
   rename_i c1;split at ew
   ·have:=a1Z r (h.step hw) hw (by rw[ew];exact hB) (by grind[sL]);rw[ew] at this;exact this
   ·rename_i c2;have hi:(aD t w).K.toNat<(aD t w).Reads.length:=aa
    rw[uI hi] at hs;have hin:s∈(aD t w).Reads.drop ((aD t w).K+1).toNat:=by
     rw[show((aD t w).K+1).toNat=(aD t w).K.toNat+1 by omega];rcases iX.1 hs with q|q
     ·exfalso;have er:rdN (aD t w)=s:=by rw[q];unfold rdN;rw[G9,jC hi];rfl
      rw[er] at c2;apply c2;rcases hk with k|⟨v,hv,hn,k,_⟩
      ·right;omega
      ·left;unfold eN at hv;omega
     ·exact q
    have:=ih (h.step hw) (by rw[ew];exact hB) (by rw[ew];exact hp) ⟨s,by rw[ew];exact hin,hk'⟩;rw[ew] at this;exact this
  ·have ej:aD (aW t u) w=aD t w:=by
    by_cases hBu:(aD t u).bQ=true
    ·rw[(nJ h hu hBu).2 w hw,qR _ _ z]
    ·obtain⟨_,q|⟨x,_,_,q⟩⟩:=DL h hu hBu
     ·rw[q]
     ·rw[q w hw,qR _ _ z]
   have:=ih (h.step hu) aj aj ⟨s,aj,hk'⟩;grind
structure FC (F:Int->Bool) (t:Table):Prop where
 ok:∀w,eN w->(aD t w).bQ=true->F (aD t w).aG=true->(aD t w).Code=0/\((aD t w).Pc=8->¬Bad F t w)
 bLT:∀w,eN w->(aD t w).bQ=true->(aD t w).Code=0->9<=(aD t w).Pc->(aD t w).Pc<=19->F (aD t w).aG=true
theorem aMZ(r:Rn t e)(he:∀v,eN v->(aD e v).bQ=false)(h:Bz n t):FC (uF e) t:=⟨λw hw hB hF=>⟨Classical.byContradiction λq=>(by grind[a1Z]),λp q=>(by grind[bNY])⟩,λw hw hB hc p1 p2=>bE0 r he h (.inr ⟨w,hw,hB,rfl,hc,p1,p2⟩)⟩
def rpF(cm:Int->List eJ)(a:IE×List (Int×List hU))(s:Int):IE×List (Int×List hU):=((GZ a.1 (cm s)).1,a.2++[(s,(GZ a.1 (cm s)).2)])
def rpS(cm:Int->List eJ)(p:List Int):IE×List (Int×List hU):=p.foldl (rpF cm) (λ_=>none,[])
theorem aM0(cm:Int->List eJ)(p:List Int)(s:Int):rpS cm (p++[s])=rpF cm (rpS cm p) s:=by grind[rpS]
def pts(F:Int->Bool)(l:List j7):List Int:=(l.filter λx=>x.Kind == 2 && F x.aG).map j7.aG
theorem a10(F:Int->Bool)(l m:List j7):pts F (l++m)=pts F l++pts F m:=by grind[pts]
theorem bAN{F:Int->Bool}{m:List j7}(h:∀x∈m,x.Kind≠2):pts F m=[]:=by grind[pts,List.filter_eq_nil_iff]
def MT(F:Int->Bool)(cm:Int->List eJ)(t:Table):IE:=(rpS cm (pts F t.Log)).1
def RT(F:Int->Bool)(cm:Int->List eJ)(t:Table):List (Int×List hU):=(rpS cm (pts F t.Log)).2
def rmW(j:aI):List aU:=if j.Pc=8 then j.aH else if 9<=j.Pc/\j.Pc<=13 then j.aH.drop j.K.toNat else []
def Clr(F:Int->Bool)(t:Table)(i:Int):Prop:=∀v,eN v->¬Holds F t v i
def JRd(F:Int->Bool)(cm:Int->List eJ)(t:Table)(j:aI):Prop:=∃G,Did G j/\∀g∈G,∃s∈j.Reads,s.bW=jJ g.1/\(s.eO=(dX t.aR s.bW).eO->Clr F t s.bW->MT F cm t g.1=g.2)
structure Wlk (m:Mem) (c:Int->List Int) (P:Prop) (j:aI):Prop where
 key:(OE j.aH (cG j).Key).2=false/\jJ (cG j).Key=j.bW/\((cG j).Kind=1\/(cG j).Kind=4)
 at3:j.Pc=3\/j.Pc=4->P->∃A B,c j.bW=A++j.H::B/\∀a∈A,(cH m a).Key≠(cG j).Key
 at4:j.Pc=4->P->j.Node=cH m j.H
 at5:j.Pc=5->P->lkp m (c j.bW) (cG j).Key=if j.Found then some j.Node.dC else none
structure IvC (F:Int->Bool) (cm:Int->List eJ) (t:Table) (c:Int->List Int):Prop where
 free:∀i,oG i->Clr F t i->∀k,jJ k=i->MT F cm t k=lkp t.aA.Mem (c i) k
 held:∀i,oG i->∀v,eN v->Holds F t v i->∀k,jJ k=i->MT F cm t k=apw (rmW (aD t v)) (lkp t.aA.Mem (c i)) k
 job:∀w,eN w->(aD t w).bQ=true->(aD t w).Code=0->(aD t w).Pc<=7->JRd F cm t (aD t w)
 walk:∀w,eN w->(aD t w).bQ=true->2<=(aD t w).Pc->(aD t w).Pc<=5->((aD t w).Pc≠2->(aD t w).eO<=(dX t.aR (aD t w).bW).eO)/\Wlk t.aA.Mem c ((aD t w).eO=(dX t.aR (aD t w).bW).eO/\Clr F t (aD t w).bW) (aD t w)
 res:∀w,eN w->(aD t w).bQ=true->F (aD t w).aG=true->8<=(aD t w).Pc->(aD t w).Pc<=19->(aD t w).Batch.Collect=false->((aD t w).aG,(aD t w).hU)∈RT F cm t
 tel:∀x∈t.Log,x.Kind=3->x.Code=0->cm x.aG≠[]->(x.aG,x.hU)∈RT F cm t
 pt:∀x∈t.Log,x.Kind=2->cm x.aG≠[]/\∀v,eN v->(aD t v).bQ=true->(aD t v).aG=x.aG->8<=(aD t v).Pc
 pu:((t.Log.filter λx=>x.Kind == 2).map j7.aG).Nodup
 cv:∀x∈t.Log,x.Kind=1->x.bN.length<=6/\∀c∈x.bN,QN c
def V1(j j':aI):Prop:=j'.Batch=j.Batch/\j'.At=j.At/\j'.aH=j.aH/\j'.hU=j.hU/\j'.Reads=j.Reads
theorem V1.did{G:List (Int×Option Int)}(h:V1 j j')(d:Did G j):Did G j':=λM hM=>by obtain⟨a,b,c,e,_⟩:=h;rw[a,b,c,e];exact d M hM
theorem aM1{b:aA}(hp:0<=j.Pc/\j.Pc<=21)(h:j.Pc≠1/\j.Pc≠5/\j.Pc≠19):V1 j (eX b k w j).j:=by
 unfold eX;have P:∀{c:Prop} [Decidable c] {x y:TR},(c->V1 j x.j)->(¬c->V1 j y.j)->_:=dM (P:=λr=>V1 j r.j);refine P (λ_=>?_) λ_=>P (λp=>absurd p h.1) λ_=>P (λp=>?_) λ_=>P (λ_=>?_) λ_=>P (λ_=>?_) λ_=>P (λ_=>?_) λ_=>P (λ_=>?_) λ_=>P (λ_=>?_) λ_=>P (λ_=>?_) λ_=>P (λ_=>?_) λ_=>P (λ_=>⟨rfl,rfl,rfl,rfl,rfl⟩) λ_=>P (λp=>absurd p h.2.2) λ_=>⟨rfl,rfl,rfl,rfl,rfl⟩
 ·show V1 j (nZ b w j).2;unfold V1;grind[nZ]
 ·show V1 j (iQ b k w j);have:¬j.Pc=5:=h.2.1;unfold V1 iQ sL;grind
 ·show V1 j (vL b w j).2;unfold V1;grind[vL,sL]
 ·show V1 j (oS k w j).2.1;unfold V1;grind[oS,IC,sL]
 ·show V1 j (JZ k w j);unfold V1;grind[JZ,sL]
 ·show V1 j (lY b k j).2.2;have z:V1 j j:=⟨rfl,rfl,rfl,rfl,rfl⟩;have pl:∀{j1:aI} (x:aU),V1 j j1->V1 j (L7 j1 x):=λx q=>by unfold L7;split<;>exact q
  have ol:V1 j (L8 j):=by unfold L8;split<;>exact z
  unfold lY;split;exact z;split
  ·simp only;split;exact pl _ z;exact z
  split
  ·simp only;split;exact z;split;exact pl _ z;exact z
  split
  ·split<;>exact pl _ ol
  split;exact z;split<;>exact z
 ·show V1 j (AQ k j).2;unfold V1;grind[AQ,J0]
 ·show V1 j (DJ b w j).2;unfold V1;grind[DJ,J0]
 ·show V1 j (DK b w j).2;unfold V1;grind[DK]
theorem aFU{W:List aU}{x:aU}(h:W.length+1<=6):(vI W x).length<=6:=by grind[YH]
theorem aQD(j:aI)(c:eJ)(v:Int)(is:Bool):(qU j c v is).Reads=j.Reads/\(qU j c v is).Batch=j.Batch:=by
 have rr:∀(x:aU),(oD j x).2.Reads=j.Reads/\(oD j x).2.Batch=j.Batch:=λx=>by grind[oD,sL]
 unfold qU;split
 ·generalize (if is then v else 0)=u;have h:=rr ⟨c.Key,false,vK u c.dC⟩;unfold VW;split
  ·exact h
  ·exact h
 ·exact⟨rfl,rfl⟩
theorem aM2{G:List (Int×Option Int)}(d:Did G j)(hj:JB j)(hw:(j.aH.length:Int)<=j.At)(hp:j.Pc=1):Did G (qP j)/\(qP j).Reads=j.Reads/\((qP j).Pc<=5->2<=(qP j).Pc->(qP j).Pc=2/\(OE (qP j).aH (cG (qP j)).Key).2=false/\jJ (cG (qP j)).Key=(qP j).bW/\((cG (qP j)).Kind=1\/(cG (qP j)).Kind=4)):=by
 have hat:=hj.at_;by_cases hc:uB j
 ·have hlen:j.aH.length+1<=6:=by have:=hj.VZ.2.1;grind[uB]
  have h6:∀x,(oD j x).1=true/\(oD j x).2={j with aH:=vI j.aH x}:=λx=>by simp_all[oD,aP,aFU]
  by_cases hk:(cG j).Kind=2\/(cG j).Kind=3
  ·have e:qP j={{j with aH:=vI j.aH ⟨(cG j).Key,(cG j).Kind == 3,(cG j).dC⟩} with At:=j.At+1,hU:=j.hU++[⟨false,0⟩]}:=by simp_all[qP]
   grind[bEY]
  have hkk:(cG j).Kind=1\/(cG j).Kind=4:=by
   have hi:j.At.toNat<j.Batch.bN.length:=by grind[uB]
   have hm:cG j∈j.Batch.bN:=by grind[cG]
   have:=(hj.VZ.2.2.1 _ hm).1;omega
  by_cases ho:(OE j.aH (cG j).Key).2=true
  ·have e:qP j=qU j (cG j) (OE j.aH (cG j).Key).1.dC (!(OE j.aH (cG j).Key).1.G6):=by simp_all[qP]
   rw[e];refine⟨a1Y d hat.1 hc (λ_ h=>h) hkk (λM _=>?_) (aFU hlen),(aQD ..).1,λa b=>?_⟩
   ·rw[a1X,aO ho];grind
   grind[bIR]
  ·have e:qP j={j with Pc:=2,bW:=jJ (cG j).Key}:=by simp_all[qP]
   rw[e];exact⟨V1.did ⟨rfl,rfl,rfl,rfl,rfl⟩ d,rfl,λ_ _=>⟨rfl,Bool.eq_false_iff.2 ho,rfl,hkk⟩⟩
 ·have e:qP j={j with Pc:=6,K:=0,Sub:=zQ 1 16}:=by simp_all[qP]
  rw[e];exact⟨V1.did ⟨rfl,rfl,rfl,rfl,rfl⟩ d,rfl,λa=>by simp at a⟩
theorem bAO(l:List Seen)(b v:Int)(h:(sI l b v).2=true):(∀s∈l,s∈(sI l b v).1)/\∃s∈(sI l b v).1,s.bW=b/\s.eO=v:=by
 unfold sI at h ⊢;split at h
 ·grind
 simp_all
theorem a4N{b:aA}{c:Int->List Int}{q:Int->Nat}{J:Int->aI}(h:sK Ky b k c q J)(hj:JB j){P:Prop}(hp:2<=j.Pc/\j.Pc<=4)(hw:Wlk b.Mem c P j)(hc:(iQ b k w j).Code=0)(hc0:j.Code=0):(2<=(iQ b k w j).Pc/\(iQ b k w j).Pc<=5)/\(iQ b k w j).bW=j.bW/\((iQ b k w j).eO=if j.Pc=2 then(dX k j.bW).eO else j.eO)/\Wlk b.Mem c (j.Pc=2\/P) (iQ b k w j):=by
 obtain⟨w1,w2,w3,w4⟩:=hw;have hb:oG j.bW:=hj.bkt;have hch:=h.ch _ hb;by_cases p2:j.Pc=2
 ·by_cases hl:(dX k j.bW).eM≠0
  ·exfalso;unfold iQ at hc;rw[aO p2,aO hl] at hc;cases hc
  ·have e:iQ b k w j={j with eO:=(dX k j.bW).eO,H:=(dX k j.bW).Head,Found:=false,Node:=aPU,Pc:=if(dX k j.bW).Head=0 then 5 else 3}:=by simp_all[iQ]
   rw[e];refine⟨?_,rfl,aj,w1,λz _=>?_,λz=>?_,λz _=>?_⟩
   ·grind
   ·by_cases h0:(dX k j.bW).Head=0
    ·grind
    ·match hci:c j.bW,hch with
     |[],hch=>exact absurd hch h0
     |x::r,hch=>exact⟨[],r,by show x::r=(dX k j.bW).Head::r;rw[hch.1],ae⟩
   ·grind
   ·by_cases h0:(dX k j.bW).Head=0
    ·show lkp b.Mem (c j.bW) _=none
     match c j.bW,hch with
     |[],_=>rfl
     |x::r,hch=>exact absurd (hch.1.symm.trans h0) hch.2.1.ne
    grind
 by_cases p3:j.Pc=3
 ·have e:iQ b k w j={j with Node:=VV b.Mem.Heap j.H,Pc:=4}:=by simp_all[iQ]
  rw[e];refine⟨ae,rfl,aj,w1,λ_ z=>w2 (.inl p3) (z.resolve_left p2),λ_ z=>?_,λz=>by simp at z⟩;obtain⟨A,B,e1,_⟩:=w2 (.inl p3) (z.resolve_left p2);rw[e1] at hch;exact aSE (hch.all j.H ae).1
 have p4:j.Pc=4:=aa
 by_cases hpin:¬((cT b.aC w).On=true/\(cT b.aC w).gP=false)
 ·exfalso;unfold iQ at hc;rw[aP p2,aP p3,aO p4,aO hpin] at hc;cases hc
 by_cases hC:uB j
 ·have e:iQ b k w j={j with Found:=j.Node.Key == (cG j).Key,H:=L6 j.Node,Pc:=if j.Node.Key=(cG j).Key\/L6 j.Node=0 then 5 else 3}:=by simp_all[iQ]
  rw[e];refine⟨aj,rfl,aj,w1,λz y=>?_,λz=>aj,λz y=>?_⟩
  ·obtain⟨A,B,e1,e2⟩:=w2 (.inr p4) (y.resolve_left p2);have en:=w3 p4 (y.resolve_left p2);rw[e1] at hch;have hH:=hch.split;have ng:¬(j.Node.Key=(cG j).Key\/L6 j.Node=0):=λg=>aj
   rw[en,aMP hH.2.2.1] at ng
   match B,hH.2.2.2,e1 with
   |[],hq,_=>exact absurd hq λg=>ng (.inr g)
   |x::r,hq,e1=>
    refine⟨A++[j.H],r,?_,λa ha=>?_⟩
    ·show c j.bW=_;rw[e1,en,aMP hH.2.2.1,hq.1];simp
    ·rcases cY.1 ha with ha|ha
     ·exact e2 a ha
     ·rw[iY.1 ha];exact λg=>ng (.inl g)
  ·obtain⟨A,B,e1,e2⟩:=w2 (.inr p4) (y.resolve_left p2);have en:=w3 p4 (y.resolve_left p2);rw[e1] at hch;have hH:=hch.split;show lkp b.Mem (c j.bW) (cG j).Key=if j.Node.Key == (cG j).Key then some j.Node.dC else none;rw[e1,en];by_cases g:(cH b.Mem j.H).Key=(cG j).Key
   ·grind[lkp]
   ·rw[aP aj];have g2:L6 j.Node=0:=Classical.byContradiction λq=>aj
    rw[en,aMP hH.2.2.1] at g2;refine aMQ λa ha=>?_
    match B,hH.2.2.2,ha with
    |[],_,ha=>
     grind
    |x::r,hq,_=>exact absurd (hq.1.symm.trans g2) hq.2.1.ne
 ·exfalso;unfold iQ at hc;rw[aP p2,aP p3,aO p4,aP hpin,aP hC] at hc;cases hc
theorem bF4{b:aA}(h:0<=j.Pc/\j.Pc<=6):(eX b k w j).j.Pc<=7\/(eX b k w j).j.Pc=16:=by
 unfold eX;have P:∀{c:Prop} [Decidable c] {x y:TR},(c->(x.j.Pc<=7\/x.j.Pc=16))->(¬c->(y.j.Pc<=7\/y.j.Pc=16))->_:=dM (P:=λr=>r.j.Pc<=7\/r.j.Pc=16);refine P (λp=>?_) λ_=>P (λp=>?_) λ_=>P (λp=>?_) λ_=>P (λp=>?_) λ_=>aa
 ·show(nZ b w j).2.Pc<=7\/(nZ b w j).2.Pc=16;grind[nZ]
 ·show(qP j).Pc<=7\/(qP j).Pc=16;grind[qP,oD,sL,qU,VW,T7]
 ·show(iQ b k w j).Pc<=7\/(iQ b k w j).Pc=16;grind[iQ,oD,sL,qU,VW,T7]
 ·show(vL b w j).2.Pc<=7\/(vL b w j).2.Pc=16;grind[vL,sL]
theorem bLP{b:aA}(h:j.Pc=20\/j.Pc=21):19<=(eX b k w j).j.Pc:=by
 have e:(eX b k w j).j=(nZ b w j).2:=by simp_all[eX]
 grind[nZ]
theorem bLQ{b:aA}(hp:9<=j.Pc/\j.Pc<=13)(h:j.K<j.aH.length)(hc:(lY b k j).2.2.Code=0)(hc0:j.Code=0):(9<=(lY b k j).2.2.Pc/\(lY b k j).2.2.Pc<=13)/\((lY b k j).2.2.K=j.K\/(lY b k j).2.2.K=j.K+1):=by grind[lY,L7,L8,sL]
theorem bAP{b:aA}(hk:(eX b k w j).l=[⟨2,w,j.aG,0,[],[]⟩]):j.Pc=7/\(eX b k w j).j.Pc=8:=by
 have p7:j.Pc=7:=Classical.byContradiction λq=>by
  have:(eX b k w j).l=[]\/(eX b k w j).l=[tlE w j]:=by unfold eX;have P:∀{c:Prop} [Decidable c] {x y:TR},(c->x.l=[]\/x.l=[tlE w j])->(¬c->y.l=[]\/y.l=[tlE w j])->_:=dM (P:=λr=>r.l=[]\/r.l=[tlE w j]);exact P (λ_=>.inl rfl) λ_=>P (λ_=>.inl rfl) λ_=>P (λ_=>.inl rfl) λ_=>P (λ_=>.inl rfl) λ_=>P (λp=>absurd p q) λ_=>P (λ_=>.inl rfl) λ_=>P (λ_=>.inl rfl) λ_=>P (λ_=>.inl rfl) λ_=>P (λ_=>.inl rfl) λ_=>P (λ_=>.inl rfl) λ_=>P (λ_=>.inl rfl) λ_=>P (λ_=>.inr rfl) λ_=>.inl rfl
  simp_all[tlE]
 have ed:eX b k w j=⟨b,(oS k w j).1,(oS k w j).2.1,if(oS k w j).2.2 then [⟨2,w,j.aG,0,[],[]⟩] else []⟩:=by grind[eX]
 refine⟨p7,?_⟩;rw[ed] at hk ⊢;have k3:(oS k w j).2.2=true:=Classical.byContradiction λz=>aj
 grind[oS]
section
variable {n:Int} {t e:Table} {u:Int} (hu:eN u) (r:Rn (aW t u) e) (he:∀v,eN v->(aD e v).bQ=false) (h:Bz n t) (hB:(aD t u).bQ=true) {cm:Int->List eJ} (hcm:∀w,eN w->(aD t w).bQ=true->cm (aD t w).aG=(aD t w).Batch.bN) {c:Int->List Int} {q:Int->Nat} (sv:sK Ky7 t.aA t.aR c q (aD t)) (I:IvC (uF e) cm t c)
include hu r he h hB
theorem pc7(hi:oG i){v:Int}(hv:eN v)(k:Holds (uF e) (aW t u) v i):Holds (uF e) t v i\/v=u/\(aD t u).Pc=7/\(eX t.aA t.aR u (aD t u)).j.Pc=8:=by
 obtain⟨k1,k2,k3⟩:=k;obtain⟨e1,ej⟩:=nJ h hu hB;obtain⟨hB',_,_⟩:=D2 (h.step hu) hv hi k1;have bk:=aMY (b:=t.aA) h.v.bk.1 (h.jb hu hB) (h.lk hu) hi;rw[e1] at k1;have k1:(dX (eX t.aA t.aR u (aD t u)).k i).eM=v+1:=k1;by_cases z:v=u
 ·have fc:=(aMZ r he (h.step hu)).ok v hv hB' k2;have hl:=(D2 h hu hi);rw[ej v hv,z,gN] at k2 k3 fc;obtain⟨hpc,_⟩:=h.tw hu hB;have hs:=uE t.aA t.aR u (aD t u) hpc;by_cases p7:(aD t u).Pc<=6
  ·have:=bF4 (b:=t.aA) (k:=t.aR) (w:=u) (j:=aD t u) ⟨hpc.1,p7⟩;rcases bk with ⟨_,b|b|b⟩|b
   ·have:=(hl aa).2.2;omega
   ·omega
   ·omega
   ·omega
  ·by_cases p:(aD t u).Pc=7
   ·grind[eX,oS,IC,sL]
   ·left;refine⟨?_,?_,by rw[z];omega⟩
    ·rcases bk with ⟨_,b|b|b⟩|b
     ·omega
     ·omega
     ·unfold eN at hv;omega
     ·unfold eN at hv;omega
    ·rcases hs with ⟨s1,_⟩|⟨_,s1,_⟩
     ·grind
     ·rw[s1] at k3;exact absurd k3 ai
 ·left;rw[ej v hv,qR _ _ z] at k2 k3;refine⟨?_,k2,k3⟩;unfold eN at hv hu;rcases bk with ⟨_,b|b|b⟩|b<;>omega
theorem bE1(hp:9<=(aD t u).Pc/\(aD t u).Pc<=13)(hk:(aD t u).K<(aD t u).aH.length){c:Int->List Int}{q:Int->Nat}(sv:sK Ky7 t.aA t.aR c q (aD t)):oG (bi (aD t u))/\Holds (uF e) t u (bi (aD t u)):=by
 have hj:=h.jb hu hB;have hi:(aD t u).K.toNat<(aD t u).aH.length:=by have:=hj.k;omega
 have er:mV (aD t u)=(aD t u).aH[(aD t u).K.toNat]:=by grind[mV]
 have hm:mV (aD t u)∈(aD t u).aH:=aj
 have hx:=hj.wr.2.1 _ hm;have hb:oG (bi (aD t u)):=by unfold bi jJ;omega
 have cd:=(h.tw hu hB).2;exact⟨hb,((h.lk hu).iff _ hb).1 ((sv.tw u hu hB).l8 aa _ hm),(aMZ (.step hu r) he h).bLT u hu hB aa hp.1 aa,aa⟩
include hcm sv I
theorem a11:(MT (uF e) cm (aW t u)=MT (uF e) cm t/\RT (uF e) cm (aW t u)=RT (uF e) cm t/\¬((aD t u).Pc=7/\(eX t.aA t.aR u (aD t u)).j.Pc=8/\uF e (aD t u).aG=true)) \/
  ((aD t u).Pc=7/\(eX t.aA t.aR u (aD t u)).j.Pc=8/\uF e (aD t u).aG=true)/\MT (uF e) cm (aW t u)=apw (aD t u).aH (MT (uF e) cm t)/\RT (uF e) cm (aW t u)=RT (uF e) cm t++[((aD t u).aG,(aD t u).hU)]:=by
 obtain⟨e1,ej⟩:=nJ h hu hB;obtain⟨hpc,cd⟩:=h.tw hu hB;have el:(aW t u).Log=t.Log++(eX t.aA t.aR u (aD t u)).l:=by rw[e1];rfl
 by_cases p:(aD t u).Pc=7/\(eX t.aA t.aR u (aD t u)).j.Pc=8
 ·have ed:eX t.aA t.aR u (aD t u)=⟨t.aA,(oS t.aR u (aD t u)).1,(oS t.aR u (aD t u)).2.1,if(oS t.aR u (aD t u)).2.2 then [⟨2,u,(aD t u).aG,0,[],[]⟩] else []⟩:=by grind[eX]
  have e8:(oS t.aR u (aD t u)).2.1.Pc=8:=aj
  have e3:(oS t.aR u (aD t u)).2.2=true/\(oS t.aR u (aD t u)).2.1.K=0:=by grind[oS,IC,sL]
  have ell:(eX t.aA t.aR u (aD t u)).l=[⟨2,u,(aD t u).aG,0,[],[]⟩]:=aj
  rw[ell] at el;cases hF:uF e (aD t u).aG
  ·grind[pts,MT,RT]
  ·right;refine⟨⟨p.1,p.2,rfl⟩,?_⟩;have hp:pts (uF e) (aW t u).Log=pts (uF e) t.Log++[(aD t u).aG]:=by grind[pts]
   obtain⟨G,d,g⟩:=I.job u hu hB aa aa;have sm:V1 (aD t u) (eX t.aA t.aR u (aD t u)).j:=aM1 hpc aa;have hs1:(eX t.aA t.aR u (aD t u)).j.aG=(aD t u).aG/\(eX t.aA t.aR u (aD t u)).j.bQ=true:=by
    rcases uE t.aA t.aR u (aD t u) hpc with ⟨s1,s2,_⟩|⟨s,_⟩
    ·exact⟨s1,s2.trans hB⟩
    ·omega
   have ew:aD (aW t u) u=(eX t.aA t.aR u (aD t u)).j:=by grind[gN]
   have nb:=((aMZ r he (h.step hu)).ok u hu aj aj).2 aj;have sees:bAI G (MT (uF e) cm t):=λx hx=>by
    obtain⟨s,hs,hsb,hk⟩:=g x hx;have hb:oG s.bW:=(h.jb hu hB).reads.1 s hs;have hin:s∈(aD (aW t u) u).Reads.drop (aD (aW t u) u).K.toNat:=by rw[ew,sm.2.2.2.2,show(eX t.aA t.aR u (aD t u)).j.K=0 by grind];exact hs
    have a1:=h.rv u hu s hs;have a2:=aSM h hu hb;refine hk ?_ λv hv k=>?_
    ·have:¬s.eO<(dX (aW t u).aR s.bW).eO:=λz=>nb ⟨s,hin,.inl z⟩;omega
    ·rcases k.step h hu r hv hb with k'|⟨z,z2,_⟩
     ·by_cases z:v=u
      ·have:=k.2.2;grind
      ·exact nb ⟨s,hin,.inr ⟨v,hv,z,k'⟩⟩
     grind
   have hat:=(sv.tw u hu hB).at_ aa aa;have dd:=d _ sees;grind[List.take_length,MT,RT,aM0,rpF]
 ·left;have hl:∀x∈(eX t.aA t.aR u (aD t u)).l,x.Kind≠2:=λx hx=>by
   rcases uE t.aA t.aR u (aD t u) hpc with ⟨_,_,_,k|k⟩|⟨_,_,k⟩
   ·grind
   ·grind[bAP]
   ·rw[k] at hx;rw[iY.1 hx];exact(by decide:(3:Int)≠2)
  have:pts (uF e) (aW t u).Log=pts (uF e) t.Log:=by grind[a10,bAN]
  grind[MT,RT]
theorem a12(hi:oG i)(hn:¬Holds (uF e) (aW t u) u i){k:Int}(hk:jJ k=i):MT (uF e) cm (aW t u) k=MT (uF e) cm t k:=by
 obtain⟨e1,ej⟩:=nJ h hu hB;obtain⟨hpc,cd⟩:=h.tw hu hB;rcases a11 hu r he h hB hcm sv I with ⟨a,_⟩|⟨⟨p7,p8,hF⟩,a,_⟩
 ·rw[a]
 ·rw[a];refine aV1 λy hy q=>hn ?_;have hs1:(eX t.aA t.aR u (aD t u)).j.aG=(aD t u).aG/\(eX t.aA t.aR u (aD t u)).j.bQ=true:=by
   rcases uE t.aA t.aR u (aD t u) hpc with ⟨s1,s2,_⟩|⟨s,_⟩
   ·exact⟨s1,s2.trans hB⟩
   ·omega
  have sm:V1 (aD t u) (eX t.aA t.aR u (aD t u)).j:=aM1 hpc aa;have ew:aD (aW t u) u=(eX t.aA t.aR u (aD t u)).j:=by grind[gN]
  obtain⟨_,q',hs'⟩:=(h.step hu).pl;obtain⟨c',sv'⟩:=hs'.sv;have l8:=(sv'.tw u hu aj).l8 aj y (by rw[ew,sm.2.2.1];exact hy);rw[q,hk] at l8;exact⟨(((h.step hu).lk hu).iff i hi).1 l8,aj,aj⟩
theorem ck(hi:oG i)(hx:x<=(dX t.aR i).eO)(e1:x=(dX (aW t u).aR i).eO)(hc:Clr (uF e) (aW t u) i):x=(dX t.aR i).eO/\Clr (uF e) t i/\∀k,jJ k=i->MT (uF e) cm (aW t u) k=MT (uF e) cm t k:=by
 have a2:=aSM h hu hi;refine⟨aa,λv hv k=>?_,λk hk=>a12 hu r he h hB hcm sv I hi (hc u hu) hk⟩;rcases k.step h hu r hv hi with k'|⟨_,_,z,_⟩
 ·exact hc v hv k'
 ·omega
theorem bI4{w:Int}(hw:eN w)(ejw:aD t w=j)(hb:(aD t w).bQ=true)(k:JRd (uF e) cm t j)(hd:∀G,Did G j->Did G j')(hr:∀s∈j.Reads,s∈j'.Reads):JRd (uF e) cm (aW t u) j':=by obtain⟨G,d,g⟩:=k;refine⟨G,hd G d,λx hx=>?_⟩;obtain⟨s,hs,hsb,hk⟩:=g x hx;subst ejw;refine⟨s,hr s hs,hsb,λa b=>?_⟩;obtain⟨c1,c2,c3⟩:=ck hu r he h hB hcm sv I ((h.jb hw hb).reads.1 s hs) (h.rv w hw s hs) a b;grind
end
theorem Wlk.mono{c c':Int->List Int}{P P':Prop}(h:Wlk m c P j)(k:P'->P/\c' j.bW=c j.bW/\∀x∈c j.bW,cH m' x=cH m x):Wlk m' c' P' j:=by
 refine⟨h.key,λz p=>?_,λz p=>?_,λz p=>?_⟩
 ·obtain⟨k1,k2,k3⟩:=k p;obtain⟨A,B,a,b⟩:=h.at3 z k1;grind
 ·obtain⟨k1,k2,k3⟩:=k p;obtain⟨A,B,a,b⟩:=h.at3 (.inr z) k1;rw[h.at4 z k1,k3 j.H (by rw[a];simp)]
 ·obtain⟨k1,k2,k3⟩:=k p;rw[k2,YI (m:=m) (m':=m') (λx hx=>aj)];exact h.at5 z k1
theorem bAQ{b:aA}(p:j.Pc=5):(iQ b k w j).Pc=16\/(iQ b k w j).Pc=1:=by
 have a:∀(j:aI) c v is,(qU j c v is).Pc=16\/(qU j c v is).Pc=1:=λj c v is=>by
  unfold qU;split
  ·generalize (if is then v else 0)=u;unfold VW oD;by_cases q:6<(vI j.aH ⟨c.Key,false,vK u c.dC⟩).length
   ·rw[aO q];exact .inl rfl
   ·rw[aP q];exact .inr rfl
  ·exact .inr rfl
 unfold iQ;rw[iE,iE,iE];split;exact .inl rfl;split;exact .inl rfl;split;exact a ..;exact .inl rfl
section
variable {n:Int} {t e:Table} {u:Int} (hu:eN u) (r:Rn (aW t u) e) (he:∀v,eN v->(aD e v).bQ=false) (h:Bz n t) (hB:(aD t u).bQ=true) {cm:Int->List eJ} (hcm:∀w,eN w->(aD t w).bQ=true->cm (aD t w).aG=(aD t w).Batch.bN) {c:Int->List Int} {q:Int->Nat} (sv:sK Ky7 t.aA t.aR c q (aD t)) (I:IvC (uF e) cm t c)
include hu r he h hB hcm sv I
theorem a4O(p:(aD t u).Pc=5)(hc:(iQ t.aA t.aR u (aD t u)).Code=0):JRd (uF e) cm (aW t u) (iQ t.aA t.aR u (aD t u)):=by
 have hj:=h.jb hu hB;have tw:=sv.tw u hu hB;have hC:=tw.hc aa;obtain⟨_,w1,_,_,w4⟩:=I.walk u hu hB aa aa;obtain⟨G,d,g⟩:=I.job u hu hB (by have:=tw.cd;omega) aa;have hb:oG (aD t u).bW:=hj.bkt;unfold iQ at hc ⊢;rw[iE,iE,iE] at hc ⊢;by_cases q1:(dX t.aR (aD t u).bW).eM≠0\/(dX t.aR (aD t u).bW).eO≠(aD t u).eO
 ·rw[aO q1] at hc;cases hc
 rw[aP q1] at hc ⊢;by_cases q2:(sI (aD t u).Reads (aD t u).bW (aD t u).eO).2=false
 ·rw[aO q2] at hc;cases hc
 rw[aP q2,aO hC];clear hc;have hl0:(dX t.aR (aD t u).bW).eM=0:=Classical.byContradiction λz=>q1 (.inl z);have hv0:(dX t.aR (aD t u).bW).eO=(aD t u).eO:=Classical.byContradiction λz=>q1 (.inr z);have clr:Clr (uF e) t (aD t u).bW:=λv hv k=>by have:=k.1;omega
 have hx:=(I.free _ hb clr _ w1.2.1).trans (w4 p ⟨hv0.symm,clr⟩);obtain⟨r1,s0,r2,r3,r4⟩:=bAO (aD t u).Reads (aD t u).bW (aD t u).eO aj;have hlen:(aD t u).aH.length+1<=6:=by have:=hj.VZ.2.1;have:=tw.wl;grind[uB]
 have ar:=(aQD {aD t u with Reads:=(sI (aD t u).Reads (aD t u).bW (aD t u).eO).1} (cG (aD t u)) (aD t u).Node.dC (aD t u).Found).1;refine⟨((cG (aD t u)).Key,if(aD t u).Found then some (aD t u).Node.dC else none)::G,?_,λx hx'=>?_⟩
 ·exact a1Y (j:={aD t u with Reads:=(sI (aD t u).Reads (aD t u).bW (aD t u).eO).1}) (G:=G) d hj.at_.1 hC (λM hM x hx=>hM x (lH _ hx)) w1.2.2 (λM hM=>by
   rw[a1X];have:=w1.1;show(if(OE (aD t u).aH (cG (aD t u)).Key).2=true then _ else M (cG (aD t u)).Key)=_;rw[this];exact hM _ (ZS ..)) (aFU hlen)
 ·rw[ar];rcases iX.1 hx' with z|z
  ·subst z;refine⟨s0,r2,r3.trans w1.2.1.symm,λa b=>?_⟩;rw[r3] at a b;obtain⟨_,_,c3⟩:=ck hu r he h hB hcm sv I hb aa a b;grind
  ·obtain⟨s,hs,hsb,hk⟩:=g x z;refine⟨s,r1 s hs,hsb,λa b=>?_⟩;obtain⟨c1,c2,c3⟩:=ck hu r he h hB hcm sv I (hj.reads.1 s hs) (h.rv u hu s hs) a b;grind
theorem IvC.bLR:∃c' q',sK Ky7 (aW t u).aA (aW t u).aR c' q' (aD (aW t u))/\IvC (uF e) cm (aW t u) c':=by
 have hJ:∀v,eN v->(aD t v).bQ=true->JB (aD t v):=λv hv hb=>h.jb hv hb;obtain⟨_,q0,hs⟩:=h.pl;obtain⟨c',sv',W⟩:=bF1 sv hs.lk hu h.v.base h.v.bk hJ hB hs.ep;obtain⟨e1,ej⟩:=nJ h hu hB;have h':=h.step hu;have fc:=aMZ (.step hu r) he h;have fc':=aMZ r he h';obtain⟨hpc,cd⟩:=h.tw hu hB;have tw:=sv.tw u hu hB;have hj:=h.jb hu hB;have mk:=λ{i:Int} (hi:oG i) (hn:¬Holds (uF e) (aW t u) u i) {k:Int} (hk:jJ k=i)=>a12 hu r he h hB hcm sv I hi hn hk;have ms:=a11 hu r he h hB hcm sv I;have hp7:=λ{i:Int} (hi:oG i) {v:Int} (hv:eN v) k=>pc7 hu r he h hB hi (v:=v) hv k;have jup:=λ{j j':aI} {w:Int} (hw:eN w) a b k d r'=>bI4 hu r he h hB hcm sv I (j:=j) (j':=j') (w:=w) hw a b k d r';have cks:=λ{i:Int} (hi:oG i) {x:Int} hx a b=>ck hu r he h hB hcm sv I hi (x:=x) hx a b;have eb:(aW t u).aA=(eX t.aA t.aR u (aD t u)).b:=by rw[e1];rfl
 have ek:(aW t u).aR=(eX t.aA t.aR u (aD t u)).k:=by rw[e1];rfl
 have ew:aD (aW t u) u=(eX t.aA t.aR u (aD t u)).j:=by rw[ej u hu,gN]
 have eo:∀v,eN v->v≠u->aD (aW t u) v=aD t v:=λv hv hn=>by rw[ej v hv,qR _ _ hn]
 have keep:∀i,oG i->(aD t u).Pc≠11/\(aD t u).Pc≠13\/¬Holds (uF e) t u i->c' i=c i/\∀x∈c i,cH (aW t u).aA.Mem x=cH t.aA.Mem x:=λi hi z=>by
  rw[eb];refine W.keep i hi λp ei=>?_;rcases z with z|z
  ·omega
  ·rw[ei] at z;exact z (bE1 hu r he h hB aa (tw.k9 aa) sv).2
 have lk:∀i,oG i->(aD t u).Pc≠11/\(aD t u).Pc≠13\/¬Holds (uF e) t u i->∀k,lkp (aW t u).aA.Mem (c' i) k=lkp t.aA.Mem (c i) k:=λi hi z k=>by obtain⟨a,b⟩:=keep i hi z;rw[a];exact YI (λx hx=>by rw[b x hx];omega) k
 have lock1:∀{v i:Int},Holds (uF e) t v i->v≠u->¬Holds (uF e) t u i:=λa z b=>z (by have:=a.1;have:=b.1;omega);have rsub:∀x∈RT (uF e) cm t,x∈RT (uF e) cm (aW t u):=λx hx=>by
  rcases ms with ⟨_,a,_⟩|⟨_,_,a⟩
  ·grind
  ·rw[a];exact QT _ hx
 have own:(aD (aW t u) u).bQ=true->(eX t.aA t.aR u (aD t u)).j.aG=(aD t u).aG/\(eX t.aA t.aR u (aD t u)).j.Batch=(aD t u).Batch/\(aD t u).Pc≠19:=λhb=>by
  rcases uE t.aA t.aR u (aD t u) hpc with ⟨s1,_,s3,_⟩|⟨_,s1,_⟩
  ·refine⟨s1,s3,λp=>?_⟩;have e2:(eX t.aA t.aR u (aD t u)).j=cX:=by unfold eX;simp only[p];rfl
   rw[ew,e2] at hb;cases hb
  ·rw[ew,s1] at hb;cases hb
 have low:(aD (aW t u) u).bQ=true->(aD (aW t u) u).Code=0->(aD (aW t u) u).Pc<=7->(aD t u).Pc<=7/\(aD t u).Code=0:=λhb hc hp=>by
  obtain⟨_,_,p19⟩:=own hb;rw[ew] at hc hp;have:(aD t u).Pc<=7:=Classical.byContradiction λz=>by
   by_cases p20:(aD t u).Pc=20\/(aD t u).Pc=21
   ·have:=bLP (b:=t.aA) (k:=t.aR) (w:=u) p20;omega
   ·by_cases c0:(aD t u).Code=0
    ·rcases aSL (b:=t.aA) (k:=t.aR) (w:=u) (j:=aD t u) aa aa c0 with y|⟨_,y,_⟩
     ·omega
     ·split at y<;>omega
    ·rw[aV4 aa] at hc;exact c0 hc
  omega
 refine⟨c',_,by rw[eb,ek];exact sv'.congr ej,?_,?_,?_,?_,?_,?_,?_,?_,?_⟩
 ·intro i hi hc k hk;rw[mk hi (hc u hu) hk];by_cases z:Clr (uF e) t i
  ·rw[I.free i hi z k hk,lk i hi (.inr (z u hu))]
  ·obtain⟨v,hv,kh⟩:∃v,eN v/\Holds (uF e) t v i:=Classical.byContradiction λy=>z λv hv k=>y ⟨v,hv,k⟩;rcases kh.step h hu r hv hi with y|⟨y,p14,_⟩
   ·exact absurd y (hc v hv)
   ·rw[I.held i hi v hv kh k hk];have:rmW (aD t v)=[]:=by unfold rmW;rw[iE,iE]
    rw[this,aEA,lk i hi (.inl (by rw[y];omega))]
 ·intro i hi v hv kh k hk;rcases hp7 hi hv kh with k0|⟨z,p7,p8⟩
  ·by_cases z:v=u
   ·subst z;obtain⟨hb',_,hpp⟩:=D2 h' hv hi kh.1;obtain⟨o1,o2,o3⟩:=own hb';have hc0:=(fc'.ok v hv hb' (by rw[ew,o1];exact k0.2.1)).1;rw[ew] at hc0 hpp;have p8:=k0.2.2;obtain⟨_,_,hpp0⟩:=D2 h hv hi k0.1;have c0:=(fc.ok v hv hB k0.2.1).1;have em:MT (uF e) cm (aW t v)=MT (uF e) cm t:=aj
    rw[em,I.held i hi v hv k0 k hk,ew];have sm:V1 (aD t v) (eX t.aA t.aR v (aD t v)).j:=aM1 hpc aa;by_cases q8:(aD t v).Pc=8
    ·have e2:(eX t.aA t.aR v (aD t v)).j=JZ t.aR v (aD t v):=by unfold eX;simp only[q8];rfl
     have e3:rmW (eX t.aA t.aR v (aD t v)).j=(aD t v).aH:=by
      rw[e2] at hc0 ⊢;unfold rmW;unfold JZ at hc0 ⊢;split
      ·simp
      ·rename_i a;rw[aP a] at hc0;split
       ·rename_i a2;rw[aO a2] at hc0;cases hc0
       ·simp[q8]
     rw[e3,show rmW (aD t v)=(aD t v).aH from aO q8];exact SD (lk i hi (.inl aa) k).symm
    by_cases q14:(aD t v).Pc=14
    ·have e2:(eX t.aA t.aR v (aD t v)).j=(AQ t.aR (aD t v)).2:=by unfold eX;simp only[q14];rfl
     have e3:rmW (eX t.aA t.aR v (aD t v)).j=[]:=by
      rw[e2];have:(AQ t.aR (aD t v)).2.Pc=14\/(AQ t.aR (aD t v)).2.Pc=15:=by grind[AQ,J0]
      unfold rmW;rw[iE,iE]
     rw[e3,show rmW (aD t v)=[] by unfold rmW;grind,aEA,aEA];exact(lk i hi (.inl aa) k).symm
    have q9:9<=(aD t v).Pc/\(aD t v).Pc<=13:=aa
    have e2:(eX t.aA t.aR v (aD t v)).j=(lY t.aA t.aR (aD t v)).2.2:=by unfold eX;rw[iE,iE,iE,iE,iE,iE,aO q9]
    have r0:rmW (aD t v)=(aD t v).aH.drop (aD t v).K.toNat:=by unfold rmW;grind
    by_cases hK:(aD t v).K<(aD t v).aH.length
    ·have hsrt:=hj.wr.2.2;have hk0:=hj.k.1;rw[e2] at hc0 sm;obtain⟨k1,k2⟩:=bLQ q9 hK hc0 c0;have r1:rmW (eX t.aA t.aR v (aD t v)).j=(aD t v).aH.drop (lY t.aA t.aR (aD t v)).2.2.K.toNat:=by rw[e2];unfold rmW;rw[iE,aO k1,sm.2.2.1]
     have oth:∀k,k≠(mV (aD t v)).Key->jJ k=i->lkp t.aA.Mem (c i) k=lkp (aW t v).aA.Mem (c' i) k:=λk a b=>by
      by_cases y:i=bi (aD t v)
      ·rw[y,eb];exact(W.oth q9 k a).symm
      ·obtain⟨a1,a2⟩:=W.keep i hi λ_=>y;rw[a1,eb];exact(YI (λx hx=>by rw[a2 x hx];omega) k).symm
     rw[r0,r1,aV2 hsrt hk0 hK];rcases k2 with k2|k2
     ·rw[k2,aV2 hsrt hk0 hK];split
      ·rfl
      ·rename_i y;exact SD (oth k y hk)
     ·rw[k2];split
      ·rename_i y;rw[aV1 (λx hx=>by rw[y];exact bEX hsrt hk0 hK x hx),y,show i=bi (aD t v) by rw[<-hk,y];rfl,eb];exact(W.key q9 aj).symm
      ·rename_i y;exact SD (oth k y hk)
    ·have p9:(aD t v).Pc=9:=by have:=tw.k9;omega
     have e3:(lY t.aA t.aR (aD t v)).2.2.Pc=14:=by unfold lY;grind
     rw[r0,aBY aa,show rmW (eX t.aA t.aR v (aD t v)).j=[] by rw[e2];unfold rmW;rw[iE,iE],aEA,aEA];exact(lk i hi (.inl aa) k).symm
   ·rw[mk hi (λy=>z (by have:=y.1;have:=kh.1;omega)) hk,eo v hv z,I.held i hi v hv k0 k hk];exact SD (lk i hi (.inr (lock1 k0 z)) k).symm
  ·subst z;obtain⟨hb',_,_⟩:=D2 h' hv hi kh.1;obtain⟨o1,_,_⟩:=own hb';have hF:uF e (aD t v).aG=true:=by have:=kh.2.1;grind
   have bk:=aMY (b:=t.aA) h.v.bk.1 hj (h.lk hv) hi;have hl:=kh.1;rw[ek] at hl;have clr:Clr (uF e) t i:=λv' hv' k'=>by
    have a:=k'.1;have b:=k'.2.2;by_cases y:v'=v
    ·grind
    ·unfold eN at hv hv';rcases bk with ⟨_,z|z|z⟩|z<;>omega
   rcases ms with ⟨_,_,a⟩|⟨_,a,_⟩
   ·grind
   ·have sm:V1 (aD t v) (eX t.aA t.aR v (aD t v)).j:=aM1 hpc aa;rw[a,ew,show rmW (eX t.aA t.aR v (aD t v)).j=(aD t v).aH by unfold rmW;rw[aO p8,sm.2.2.1]];exact SD (by rw[I.free i hi clr k hk,lk i hi (.inl aa)])
 ·intro w hw hb hc hp;by_cases z:w=u
  ·subst z;obtain⟨p7,c0⟩:=low hb hc hp;have jr:=I.job w hw hB c0 p7;rw[ew] at hc hp ⊢;by_cases p1:(aD t w).Pc=1
   ·have e2:(eX t.aA t.aR w (aD t w)).j=qP (aD t w):=by unfold eX;simp only[p1];rfl
    rw[e2];obtain⟨G0,d0,g0⟩:=jr;have hrd:=(aM2 d0 hj tw.wl p1).2.1;exact jup hw rfl hB ⟨G0,d0,g0⟩ (λG d=>(aM2 d hj tw.wl p1).1) λs hs=>aj
   by_cases p5:(aD t w).Pc=5
   ·have e2:(eX t.aA t.aR w (aD t w)).j=iQ t.aA t.aR w (aD t w):=by unfold eX;simp only[p5];rfl
    rw[e2] at hc ⊢;exact a4O hw r he h hB hcm sv I p5 hc
   have sm:V1 (aD t w) (eX t.aA t.aR w (aD t w)).j:=aM1 hpc aa;exact jup hw rfl hB jr (λG d=>sm.did d) λs hs=>by rw[sm.2.2.2.2];exact hs
  ·rw[eo w hw z] at hb hc hp ⊢;exact jup hw rfl hb (I.job w hw hb hc hp) (λ_ d=>d) λ_ h=>h
 ·intro w hw hb a2 a5;by_cases z:w=u
  ·subst z;have cd':=(h'.tw hw hb).2;have hc:(aD (aW t w) w).Code=0:=aa
   obtain⟨p7,c0⟩:=low hb hc aa;rw[ew] at hc a2 a5 ⊢;by_cases p1:(aD t w).Pc=1
   ·have e2:(eX t.aA t.aR w (aD t w)).j=qP (aD t w):=by unfold eX;simp only[p1];rfl
    rw[e2] at a2 a5 ⊢;obtain⟨G,d,_⟩:=I.job w hw hB c0 p7;obtain⟨x1,x2⟩:=(aM2 d hj tw.wl p1).2.2 a5 a2;exact⟨λy=>absurd x1 y,x2,λy=>aa,λy=>aa,λy=>aa⟩
   have hp24:2<=(aD t w).Pc/\(aD t w).Pc<=4:=by
    by_cases p0:(aD t w).Pc=0
    ·exfalso;have e2:(eX t.aA t.aR w (aD t w)).j=(nZ t.aA w (aD t w)).2:=by unfold eX;grind
     rw[e2] at a2;have:(nZ t.aA w (aD t w)).2.Pc<=1:=by grind[nZ]
     omega
    by_cases p5:(aD t w).Pc=5
    ·exfalso;have e2:(eX t.aA t.aR w (aD t w)).j=iQ t.aA t.aR w (aD t w):=by unfold eX;simp only[p5];rfl
     rw[e2] at a2 a5 hc;have:=bAQ (b:=t.aA) (k:=t.aR) (w:=w) p5;omega
    by_cases p6:(aD t w).Pc=6
    ·exfalso;have e2:(eX t.aA t.aR w (aD t w)).j=(vL t.aA w (aD t w)).2:=by unfold eX;simp only[p6];rfl
     rw[e2] at a5;have:6<=(vL t.aA w (aD t w)).2.Pc:=by grind[vL,sL]
     omega
    by_cases p7:(aD t w).Pc=7
    ·exfalso;have e2:(eX t.aA t.aR w (aD t w)).j=(oS t.aR w (aD t w)).2.1:=by unfold eX;simp only[p7];rfl
     rw[e2] at a5;have:7<=(oS t.aR w (aD t w)).2.1.Pc:=by grind[oS,IC,sL]
     omega
    omega
   have ed:eX t.aA t.aR w (aD t w)=⟨t.aA,t.aR,iQ t.aA t.aR w (aD t w),[]⟩:=by unfold eX;rw[iE,iE,aO aa]
   rw[ed] at a2 a5 hc ek eb;obtain⟨i1,i2⟩:=I.walk w hw hB hp24.1 aa;obtain⟨_,s2,s3,s4⟩:=a4N sv (w:=w) hj hp24 i2 hc c0;rw[ed];simp only;rw[s2,ek];have hbk:oG (aD t w).bW:=hj.bkt;refine⟨λ_=>?_,s4.mono λP'=>?_⟩
   ·rw[s3];split
    ·simp
    grind
   ·obtain⟨k1,k2⟩:=keep (aD t w).bW hbk (.inl aa);rw[s2];refine⟨?_,k1,k2⟩;by_cases y:(aD t w).Pc=2
    ·exact .inl y
    ·right;rw[s3,aP y] at P';obtain⟨c1,c2,_⟩:=cks hbk (i1 y) aj P'.2;grind
  ·rw[eo w hw z] at hb a2 a5 ⊢;obtain⟨i1,i2⟩:=I.walk w hw hb a2 a5;have hbk:oG (aD t w).bW:=(h.jb hw hb).bkt;refine⟨λy=>aJJ (i1 y) (aSM h hu hbk),?_⟩;by_cases y:(aD t w).Pc=2
   ·exact⟨i2.key,λa=>aa,λa=>aa,λa=>aa⟩
   refine i2.mono λP'=>?_;obtain⟨c1,c2,_⟩:=cks hbk (i1 y) P'.1 P'.2;exact⟨⟨c1,c2⟩,keep _ hbk (.inr (c2 u hu))⟩
 ·intro w hw hb hF a8 a19 hcl;by_cases z:w=u
  ·subst z;obtain⟨o1,o2,o3⟩:=own hb;have hc:=(fc'.ok w hw hb hF).1;rw[ew] at hF a8 a19 hcl hc ⊢;rw[o1] at hF ⊢;rw[o2] at hcl;by_cases p7:(aD t w).Pc=7
   ·have e2:(eX t.aA t.aR w (aD t w)).j=(oS t.aR w (aD t w)).2.1:=by unfold eX;simp only[p7];rfl
    have sm:V1 (aD t w) (eX t.aA t.aR w (aD t w)).j:=aM1 hpc aa;have p8:(eX t.aA t.aR w (aD t w)).j.Pc=8:=by rw[e2] at hc a8 ⊢;grind[oS,IC,sL]
    rw[sm.2.2.2.1];rcases ms with ⟨_,_,a⟩|⟨_,_,a⟩
    ·grind
    ·rw[a];simp
   by_cases p6:(aD t w).Pc<=6
   ·exfalso;have:=bF4 (b:=t.aA) (k:=t.aR) (w:=w) (j:=aD t w) ⟨hpc.1,p6⟩;have cd':=(h'.tw hw hb).2;rw[ew] at cd';omega
   have p20:(aD t w).Pc≠20/\(aD t w).Pc≠21:=by constructor<;>(intro p;have:=tw.cl2 aa;grind)
   have sm:V1 (aD t w) (eX t.aA t.aR w (aD t w)).j:=aM1 hpc aa;rw[sm.2.2.2.1];exact rsub _ (I.res w hw hB hF aa aa hcl)
  ·rw[eo w hw z] at hb hF a8 a19 hcl ⊢;exact rsub _ (I.res w hw hb hF a8 a19 hcl)
 ·intro x hx kx cx hne;rw[e1] at hx;rcases cY.1 hx with hx|hx
  ·exact rsub _ (I.tel x hx kx cx hne)
  ·rcases uE t.aA t.aR u (aD t u) hpc with ⟨_,_,_,k|k⟩|⟨p,_,k⟩<;>rw[k] at hx
   ·cases hx
   ·rw[iY.1 hx] at kx;cases kx
   ·have ex:=iY.1 hx;subst ex;have hc0:(aD t u).Code=0:=cx;have p19:(aD t u).Pc=19:=aa
    have hF:=fc.bLT u hu hB hc0 aa aa;have hcl:(aD t u).Batch.Collect=false:=by
     cases y:(aD t u).Batch.Collect
     ·rfl
     ·exfalso;apply hne;show cm (aD t u).aG=[];rw[hcm u hu hB];exact hj.VZ.1 y
    have er:(tlE u (aD t u)).hU=(aD t u).hU:=aO hc0;rw[er];exact rsub _ (I.res u hu hB hF aa aa hcl)
 ·have up:∀{s:Int},(∀v,eN v->(aD t v).bQ=true->(aD t v).aG=s->8<=(aD t v).Pc)->∀v,eN v->(aD (aW t u) v).bQ=true->(aD (aW t u) v).aG=s->8<=(aD (aW t u) v).Pc:=λ{s} k v hv hb es=>by
   by_cases y:v=u
   ·subst y;have cd':=(h'.tw hv hb).2;have o1:=(own hb).1;have:=k v hv hB aj;grind
   ·rw[eo v hv y] at hb es ⊢;exact k v hv hb es
  intro x hx kx;rw[e1] at hx;rcases cY.1 hx with hx|hx
  ·exact⟨(I.pt x hx kx).1,up (I.pt x hx kx).2⟩
  ·rcases uE t.aA t.aR u (aD t u) hpc with ⟨_,_,_,k|k⟩|⟨p,_,k⟩<;>rw[k] at hx
   ·cases hx
   ·rw[iY.1 hx];have p7:=bAP k;refine⟨?_,λv hv hb es=>?_⟩
    ·show cm (aD t u).aG≠[];rw[hcm u hu hB];intro z;have hcl:(aD t u).Batch.Collect=false:=by
      cases y:(aD t u).Batch.Collect
      ·rfl
      ·have:=tw.cl y;omega
     have:=hj.VZ.2.2.2 hcl;rw[z] at this;simp at this
    ·have hvu:v=u:=by
      by_cases y:v=u
      ·exact y
      ·rw[eo v hv y] at hb es;exact absurd (h.ne hv hu hb hB es) y
     grind
   ·rw[iY.1 hx] at kx;cases kx
 ·have el:(aW t u).Log=t.Log++(eX t.aA t.aR u (aD t u)).l:=by rw[e1];rfl
  rw[el,List.filter_append,m7];rcases uE t.aA t.aR u (aD t u) hpc with ⟨_,_,_,k|k⟩|⟨p,_,k⟩
  ·rw[k];simpa using I.pu
  ·have p7:=(bAP k).1;rw[k];refine aF1.2 ⟨I.pu,ae,λa ha b hb=>?_⟩;simp at hb;obtain⟨x,hx,ex⟩:=AU.1 ha;obtain⟨hx1,hx2⟩:=ZT.1 hx;intro z;have:=(I.pt x hx1 aj).2 u hu hB aa;omega
  ·rw[k];have:([tlE u (aD t u)].filter λx:j7=>x.Kind == 2)=[]:=by simp[tlE]
   rw[this];simpa using I.pu
 ·intro x hx kx;rw[e1] at hx;rcases cY.1 hx with hx|hx
  ·exact I.cv x hx kx
  ·rcases uE t.aA t.aR u (aD t u) hpc with ⟨_,_,_,k|k⟩|⟨p,_,k⟩<;>rw[k] at hx
   ·cases hx
   ·rw[iY.1 hx] at kx;cases kx
   ·rw[iY.1 hx] at kx;cases kx
end
def cmE(e:Table)(s:Int):List eJ:=(e.Log.getD (ID e.Log 1 s).toNat ⟨0,0,0,0,[],[]⟩).bN
theorem aM3{l m:List j7}(el:e.Log=l++m){P:List eJ->Prop}(h:TlJ l s P):0<=ID e.Log 1 s/\P (cmE e s):=by
 obtain⟨x,hx,k,es⟩:=h.call;have hlt:l.findIdx (isE 1 s)<l.length:=a43 ⟨x,hx,by grind[isE]⟩;have ef:(l++m).findIdx (isE 1 s)=l.findIdx (isE 1 s):=aj
 have ep:ID (l++m) 1 s=ID l 1 s:=by unfold ID;grind
 grind[bAF,aMF,cmE]
theorem bE2(r:Rn t e)(h:Bz n t)(hw:eN w)(hB:(aD t w).bQ=true):cmE e (aD t w).aG=(aD t w).Batch.bN:=by obtain⟨m,el⟩:=r.log;exact(aM3 el (h.pl.1.job w hw hB).2).2
section
variable {F:Int->Bool} {cm:Int->List eJ} {n:Int} {t:Table} {u:Int} (hu:eN u) (h:Bz n t) {c:Int->List Int} {q:Int->Nat} (sv:sK Ky7 t.aA t.aR c q (aD t)) (I:IvC F cm t c)
include hu h sv I
theorem IvC.begin(hn:aD t u=cX){x:Batch}(hx:x∈m6 t u)(ej:∀v,eN v->aD (qQ t u x) v=yS (aD t) u (iU x (t.aG+1)) v):sK Ky7 (qQ t u x).aA (qQ t u x).aR c q (aD (qQ t u x))/\IvC F cm (qQ t u x) c:=by
 obtain⟨_,q0,hs⟩:=h.pl;have hJ:∀v,eN v->(aD t v).bQ=true->JB (aD t v):=λv hv hb=>h.jb hv hb;have ew:aD (qQ t u x) u=iU x (t.aG+1):=by grind[gN]
 have eo:∀v,eN v->v≠u->aD (qQ t u x) v=aD t v:=λv hv hn=>by grind[qR]
 have hd:∀v i,eN v->oG i->(Holds F (qQ t u x) v i↔Holds F t v i):=λv i hv hi=>by
  by_cases z:v=u
  ·subst z;have nl:(dX t.aR i).eM≠v+1:=λy=>by have:=(D2 h hv hi y).1;rw[hn] at this;cases this
   exact⟨λk=>absurd k.1 nl,λk=>absurd k.1 nl⟩
  ·unfold Holds;rw[eo v hv z];exact Iff.rfl
 have cl:∀i,oG i->(Clr F (qQ t u x) i↔Clr F t i):=λi hi=>⟨λk v hv a=>k v hv ((hd v i hv hi).2 a),λk v hv a=>k v hv ((hd v i hv hi).1 a)⟩;have hp:pts F (qQ t u x).Log=pts F t.Log:=by show pts F (t.Log++_)=_;grind[a10,bAN]
 have em:MT F cm (qQ t u x)=MT F cm t:=by grind[MT]
 have er:RT F cm (qQ t u x)=RT F cm t:=by unfold RT;rw[hp]
 have npc:(iU x (t.aG+1)).Pc=0\/(iU x (t.aG+1)).Pc=20:=by unfold iU;simp only;split<;>simp
 have new:∀y∈(qQ t u x).Log,y.Kind≠1->y∈t.Log:=λy hy k=>by
  rcases cY.1 hy with hy|hy
  ·exact hy
  ·rw[iY.1 hy] at k;exact absurd rfl k
 refine⟨(aVJ sv hs.lk hu h.v.base.1.2.1 hJ hn (hs.qk u hu x hx) _).congr ej,λi hi k=>?_,λi hi v hv k=>?_,λw hw hb hc a=>?_,λw hw hb a b=>?_,λw hw hb a b d hcl=>?_,λy hy k a b=>?_,λy hy k=>?_,?_,λy hy k=>?_⟩
 ·rw[em];exact I.free i hi ((cl i hi).1 k)
 ·have k':=(hd v i hv hi).1 k;have z:v≠u:=λz=>by have:=k'.2.2;rw[z,hn] at this;exact absurd this ai
  rw[em,eo v hv z];exact I.held i hi v hv k'
 ·by_cases z:w=u
  ·rw[z,ew];exact⟨[],λM _=>rfl,λg hg=>by cases hg⟩
  ·rw[eo w hw z] at hb hc a ⊢;obtain⟨G,d,g⟩:=I.job w hw hb hc a;refine⟨G,d,λy hy=>?_⟩;obtain⟨s,hs,hsb,hk⟩:=g y hy;exact⟨s,hs,hsb,λa b=>by rw[em];exact hk a ((cl _ ((h.jb hw hb).reads.1 s hs)).1 b)⟩
 ·by_cases z:w=u
  ·grind
  ·rw[eo w hw z] at hb a b ⊢;obtain⟨i1,i2⟩:=I.walk w hw hb a b;exact⟨i1,i2.mono λp=>⟨⟨p.1,(cl _ (h.jb hw hb).bkt).1 p.2⟩,rfl,λ_ _=>rfl⟩⟩
 ·by_cases z:w=u
  ·grind
  ·rw[eo w hw z] at hb a b d hcl ⊢;rw[er];exact I.res w hw hb a b d hcl
 ·rw[er];exact I.tel y (new y hy aa) k a b
 ·have hm:=new y hy aa;obtain⟨p1,p2⟩:=I.pt y hm k;refine⟨p1,λv hv hb es=>?_⟩;by_cases z:v=u
  ·rw[z,ew] at es;have:=h.lg.le y hm;have es:t.aG+1=y.aG:=es;omega
  grind
 ·show((t.Log++[_]).filter _ |>.map _).Nodup;rw[List.filter_append];simpa using I.pu
 ·rcases cY.1 hy with hy|hy
  ·exact I.cv y hy k
  ·rw[iY.1 hy];have hq:QuV ⟨m6 t u⟩:=by
    have hi:u.toNat<t.fI.length:=by have:=h.v.todo.1;omega
    have e:(⟨m6 t u⟩:aJ)=t.fI[u.toNat]:=by simp_all[m6]
    rw[e];exact h.v.todo.2 _ (dF hi)
   have:=hq.2 x hx;exact⟨this.2.1,this.2.2.1⟩
end
theorem bI5(r:Rn t e)(he:∀v,eN v->(aD e v).bQ=false)(h:Bz n t)(k:∃c q,sK Ky7 t.aA t.aR c q (aD t)/\IvC (uF e) (cmE e) t c):Bz n e/\∃c q,sK Ky7 e.aA e.aR c q (aD e)/\IvC (uF e) (cmE e) e c:=by
 induction r with
 |refl=>grind
 |step hu r ih=>
  rename_i t e u;refine ih he (h.step hu) ?_;obtain⟨c,q,sv,I⟩:=k;by_cases hB:(aD t u).bQ=true
  ·exact I.bLR hu r he h hB (λw hw hb=>bE2 (.step hu r) h hw hb) sv
  ·obtain⟨hn,z|⟨x,hx,z,ej⟩⟩:=DL h hu hB
   ·grind
   ·rw[z] at ej ⊢;obtain⟨a,b⟩:=I.begin hu h sv hn hx ej;grind
theorem bz0(hd:YM l)(ht:T8 l):Bz (vM (GY (b9 l))) (b9 l):=by
 refine⟨aFP ht,⟨.zero rfl,_,bI1 hd ht⟩,.zero l,λi hi k=>?_,λw hw s hs=>?_,λx hx=>by cases hx⟩
 ·rcases(by omega:i=0\/i=1) with rfl|rfl<;>exact absurd rfl k
 ·rcases(by omega:w=0\/w=1\/w=2) with rfl|rfl|rfl<;>cases hs
theorem iv0{F:Int->Bool}{cm:Int->List eJ}(hd:YM l)(ht:T8 l):∃c q,sK Ky7 (b9 l).aA (b9 l).aR c q (aD (b9 l))/\IvC F cm (b9 l) c:=by
 obtain⟨c,sv⟩:=(bI1 hd ht).sv;have hb:∀i,oG i->dX (b9 l).aR i=⟨0,0,0⟩:=λi hi=>by rcases(by omega:i=0\/i=1) with rfl|rfl<;>rfl
 have hj:∀w,eN w->aD (b9 l) w=cX:=λw hw=>by rcases(by omega:w=0\/w=1\/w=2) with rfl|rfl|rfl<;>rfl
 have nb:∀{P:Prop} {w:Int},eN w->(aD (b9 l) w).bQ=true->P:=λhw b=>by rw[hj _ hw] at b;cases b
 refine⟨c,_,sv,λi hi _ k hk=>?_,λi hi v hv k=>?_,λw hw b=>nb hw b,λw hw b=>nb hw b,λw hw b=>nb hw b,λx hx=>(by cases hx),λx hx=>(by cases hx),List.nodup_nil,λx hx=>(by cases hx)⟩
 ·have hc:=sv.ch i hi;rw[hb i hi] at hc
  match c i,hc with
  |[],_=>rfl
  |x::r,hc=>exact absurd hc.1.symm hc.2.1.ne
 ·have:=k.1;grind
theorem bE3(hu:∀x∈e.Log,∀y∈e.Log,x.Kind=3->y.Kind=3->x.aG=y.aG->x=y)(hp:((e.Log.filter λx=>x.Kind == 2).map j7.aG).Nodup):aBO e.Log=pts (uF e) e.Log:=by
 have ok:∀s,bIK e.Log s=uF e s:=λs=>by
  rw[HM,aEB];unfold bIK;rw[uG,decide_eq_true_eq,beq_iff_eq];have at_:0<=ID e.Log 3 s->(e.Log.getD (ID e.Log 3 s).toNat ⟨0,0,0,0,[],[]⟩)∈e.Log/\(e.Log.getD (ID e.Log 3 s).toNat ⟨0,0,0,0,[],[]⟩).Kind=3/\(e.Log.getD (ID e.Log 3 s).toNat ⟨0,0,0,0,[],[]⟩).aG=s:=λh=>by
   have hlt:=aMF h;unfold ID at h hlt ⊢;split at h
   ·rename_i q;rw[aO q] at hlt ⊢;rw[K8,G9,jC q];have:=aSX (w:=q);simp_all[isE]
   ·omega
  constructor
  ·grind
  ·rintro⟨x,m,k,z,b⟩;have hlt:e.Log.findIdx (isE 3 s)<e.Log.length:=a43 ⟨x,m,by grind[isE]⟩;have h0:0<=ID e.Log 3 s:=by simp_all[ID]
   grind
 have key:∀(es:List j7) (out:List Int),(out++(es.filter λx=>x.Kind == 2).map j7.aG).Nodup->es.foldl (a31 e.Log) out=out++pts (uF e) es:=λes=>by
  induction es with
  |nil=>grind[pts]
  |cons x es ih=>
   intro out hn;rw[List.foldl_cons];by_cases k:x.Kind=2
   ·rw[List.filter_cons_of_pos aj,AT] at hn;have hx:x.aG∉out:=λm=>(aF1.1 hn).2.2 _ m _ (ZS ..) rfl;cases hf:uF e x.aG
    ·have e1:a31 e.Log out x=out:=by simp_all[a31]
     grind[pts]
    simp_all[a31,pts]
   simp_all[a31,pts]
 grind[aBO]
theorem bLS(hd:YM l)(ht:T8 l)(p:List Int)(hp:p.length<=400)(ee:e=NY 3000 0 (BQ (b9 l) p)):(lE (BQ (b9 l) p)=some e/\(∀w,eN w->YJ e w)/\e.Log.length<=3400)/\Bz (vM (GY (b9 l))) e/\aBO e.Log=pts (uF e) e.Log/\∃c q,sK Ky7 e.aA e.aR c q (aD e)/\IvC (uF e) (cmE e) e c/\∀i,oG i->∀k,jJ k=i->MT (uF e) (cmE e) e k=lkp e.aA.Mem (c i) k:=by
 obtain⟨e1,hi,v,_,hl⟩:=bNX hd ht p hp;rw[<-ee] at e1 hi v hl;have hid:=(aVS v).1 hi;have he:∀v,eN v->(aD e v).bQ=false:=λv hv=>(hid v hv).1;have r:Rn (b9 l) e:=by rw[ee];exact(aJE p _).trans (aSK 3000 0 _)
 obtain⟨hz,c,q,sv,I⟩:=bI5 r he (bz0 hd ht) (iv0 hd ht);refine⟨⟨e1,hid,hl⟩,hz,bE3 hz.tu I.pu,c,q,sv,I,λi hi k hk=>I.free i hi (λv hv a=>?_) k hk⟩;have:=(D2 hz hv hi a.1).1;grind
def kvm(L:List KV):IE:=λk=>(L.find? λx=>x.Key == k).map KV.dC
structure aIC (L:List KV):Prop where
 srt:L.Pairwise λx y=>x.Key<y.Key
 rng:∀x∈L,(0<=x.Key/\x.Key<=99)/\0<=x.dC/\x.dC<=65535
theorem aIC.len(h:aIC L):L.length<=100:=by
 have:=yR (l:=L.map KV.Key) (m:=(List.range 100).map Int.ofNat) (by
  unfold List.Nodup;exact List.pairwise_map.2 (h.srt.imp λa b=>aa)) λx hx=>by
  obtain⟨y,hy,rfl⟩:=AU.1 hx;have:=(h.rng y hy).1;exact AU.2 ⟨y.Key.toNat,List.mem_range.2 aa,ah⟩
 grind
theorem aV5(x:KV)(L:List KV)(k:Int):kvm (x::L) k=if x.Key=k then some x.dC else kvm L k:=by unfold kvm;grind
theorem bI6{k:Int}(h:∀x∈L,x.Key≠k):kvm L k=none:=by grind[kvm]
theorem aIC.tail{x:KV}(h:aIC (x::L)):aIC L/\∀y∈L,x.Key<y.Key:=⟨⟨(aJL.1 h.srt).2,λy hy=>h.rng y (lH _ hy)⟩,(aJL.1 h.srt).1⟩
theorem bE4(h:aIC L)(k:Int):aIC (L.filter λx=>!(x.Key == k))/\kvm (L.filter λx=>!(x.Key == k))=upM (kvm L) k none:=by
 refine⟨⟨h.srt.sublist List.filter_sublist,λx hx=>h.rng x (ZT.1 hx).1⟩,funext λz=>?_⟩;unfold upM;by_cases q:z=k
 ·simp_all[bI6]
 ·rw[aP q];grind[kvm]
theorem bAR{k:Int}:∀{D:List KV},D.Pairwise (λx y=>x.Key<y.Key)->(∀x∈D,x.Key≠k)->(∀x∈D.takeWhile (λx=>!decide (k<x.Key)),x.Key<k)/\∀x∈D.dropWhile (λx=>!decide (k<x.Key)),k<x.Key
 |[],_,_=>⟨λx hx=>(by cases hx),λx hx=>(by cases hx)⟩
 |y::D,hs,hn=>by
  obtain⟨h1,h2⟩:=aJL.1 hs;have hy:=hn y (ZS ..);by_cases q:k<y.Key
  ·grind[List.takeWhile_cons_of_neg,List.dropWhile_cons_of_neg]
  ·obtain⟨i1,i2⟩:=bAR h2 λx hx=>hn x (lH _ hx)
   (simp_all;omega)
theorem bE5(h:aIC L){k v:Int}(hk:0<=k/\k<=99)(hv:0<=v/\v<=65535):aIC (mpF L k v)/\kvm (mpF L k v)=upM (kvm L) k (some v):=by
 obtain⟨d1,d2⟩:=bE4 h k;have hne:∀x∈L.filter λx=>!(x.Key == k),x.Key≠k:=λx hx=>aj
 unfold mpF;generalize (L.filter λx=>!(x.Key == k))=D at d1 d2 hne;have e:=aS0 (p:=λx:KV=>!decide (k<x.Key)) (l:=D);obtain⟨ht,hd⟩:=bAR d1.srt hne;refine⟨⟨?_,λx hx=>?_⟩,funext λz=>?_⟩
 ·have hs:=d1.srt;grind[aJL]
 ·rcases cY.1 hx with hx|hx
  ·exact d1.rng x ((List.takeWhile_sublist _).subset hx)
  ·rcases iX.1 hx with rfl|hx
   ·grind
   ·exact d1.rng x ((List.dropWhile_sublist _).subset hx)
 ·unfold upM;by_cases q:z=k
  ·rw[aO q,q];grind[kvm]
  ·rw[aP q];have hz:(k == z)=false:=aj
   have:kvm D z=kvm L z:=by rw[d2];exact aP q
   grind[kvm]
theorem bE6(cm:Int->List eJ)(p:List Int):(rpS cm p).2.map Prod.fst=p:=by
 have:∀(p:List Int) (a:IE×List (Int×List hU)),(p.foldl (rpF cm) a).2.map Prod.fst=a.2.map Prod.fst++p:=λp=>by
  induction p with
  |nil=>simp
  |cons s p ih=>grind[rpF]
 exact this p _
theorem aM4(h:Bz n t){c:Int->List Int}{q:Int->Nat}(sv:sK Ky7 t.aA t.aR c q (aD t)):aIC (aY3 t.aA.Mem c)/\∀k,kvm (aY3 t.aA.Mem c) k=((lkp t.aA.Mem (c 1) k).or (lkp t.aA.Mem (c 0) k)):=by
 have one:∀(l:List Int) (a:List KV),aIC a->(∀x∈l,aBN (cH t.aA.Mem x))->aIC (chF t.aA.Mem l a)/\∀k,kvm (chF t.aA.Mem l a) k=(lkp t.aA.Mem l k).or (kvm a k):=λl=>by
  induction l with
  |nil=>intro a ha _;exact⟨ha,λk=>rfl⟩
  |cons x l ih=>
   intro a ha hx;obtain⟨i1,i2⟩:=ih a ha λy hy=>hx y (lH _ hy);have nx:=hx x (ZS ..);obtain⟨p1,p2⟩:=bE5 i1 nx.1 nx.2.1;refine⟨p1,λk=>?_⟩;show kvm (mpF (chF t.aA.Mem l a) _ _) k=_;rw[p2];unfold upM lkp;rw[List.find?_cons];by_cases z:k=(cH t.aA.Mem x).Key
   ·grind
   ·rw[aP z,i2,show((cH t.aA.Mem x).Key == k)=false by grind];rfl
 have nd:∀i,oG i->∀x∈c i,aBN (cH t.aA.Mem x):=λi hi x hx=>((sv.ch i hi).all x hx).2;obtain⟨a1,a2⟩:=one (c 0) [] ⟨List.Pairwise.nil,λx hx=>by cases hx⟩ (nd 0 (by simp[oG]));obtain⟨b1,b2⟩:=one (c 1) (chF t.aA.Mem (c 0) []) a1 (nd 1 (by simp[oG]));refine⟨b1,λk=>?_⟩;show kvm (chF _ _ _) k=_;grind[kvm]
section
variable {n:Int} {e:Table} (h:Bz n e) {c:Int->List Int} (I:IvC (uF e) (cmE e) e c) (ho:aBO e.Log=pts (uF e) e.Log)
include h I ho
theorem a13(hs:s∈aBO e.Log):∃x∈e.Log,x.Kind=2/\x.aG=s/\uF e s=true/\cmE e s≠[]:=by rw[ho] at hs;obtain⟨x,hx,rfl⟩:=AU.1 hs;obtain⟨a,b⟩:=ZT.1 hx;rw[uG,beq_iff_eq] at b;exact⟨x,a,b.1,rfl,b.2,(I.pt x a b.1).1⟩
theorem bE7{x:j7}(hx:x∈e.Log)(kx:x.Kind=3):x.aG∈aBO e.Log↔x.Code=0/\cmE e x.aG≠[]:=by
 constructor
 ·intro hs;obtain⟨_,_,_,_,f,m⟩:=a13 h I ho hs;obtain⟨y,hy,ky,es,cy⟩:=aEB.1 f;rw[h.tu x hx y hy kx ky es.symm];grind
 ·rintro⟨a,b⟩;have:=I.tel x hx kx a b;grind[RT,bE6]
end
def bsC(t:Table)(v:Int):Int:=if(aD t v).bQ=true/\(aD t v).Batch.Collect=true then 1 else 0
def lnC(t:Table)(v:Int):Int:=G7 isC (m6 t v)
structure QPt (P:List eJ->Prop) (k:Int) (t:Table):Prop where
 qs:∀w,eN w->∀b∈m6 t w,P b.bN
 cl:∀x∈t.Log,x.Kind=1->P x.bN
 tn:((t.Log.filter λx=>x.Kind == 3).map j7.aG).Nodup
 c0:∀w,eN w->(aD t w).bQ=true->(aD t w).Batch.Collect=true->(aD t w).Code=0
 cc:k<=cN 0 t.Log+vM (bsC t)+vM (lnC t)
theorem QPt.step{P:List eJ->Prop}{k:Int}(hu:eN u)(h:Bz n t)(q:QPt P k t):QPt P k (aW t u):=by
 obtain⟨_,q0,hs⟩:=h.pl;obtain⟨c,sv⟩:=hs.sv;by_cases hB:(aD t u).bQ=true
 ·obtain⟨e1,ej⟩:=nJ h hu hB;obtain⟨hpc,cd⟩:=h.tw hu hB;have tw:=sv.tw u hu hB;have eq:∀w,m6 (aW t u) w=m6 t w:=λw=>by rw[e1];rfl
  have el:(aW t u).Log=t.Log++(eX t.aA t.aR u (aD t u)).l:=by rw[e1];rfl
  have eo:∀v,eN v->v≠u->aD (aW t u) v=aD t v:=λv hv hn=>by rw[ej v hv,qR _ _ hn]
  have ew:aD (aW t u) u=(eX t.aA t.aR u (aD t u)).j:=by rw[ej u hu,gN]
  have s1:=YK (f:=bsC t) (g:=bsC (aW t u)) hu λv hv hn=>by unfold bsC;rw[eo v hv hn]
  have s2:vM (lnC (aW t u))=vM (lnC t):=by unfold vM lnC;rw[eq,eq,eq]
  have dk:=uE t.aA t.aR u (aD t u) hpc;refine⟨λw hw b hb=>q.qs w hw b (by rw[eq] at hb;exact hb),λx hx kx=>?_,?_,λw hw hb hc=>?_,?_⟩
  ·rw[el] at hx;rcases cY.1 hx with hx|hx
   ·exact q.cl x hx kx
   ·rcases dk with ⟨_,_,_,z|z⟩|⟨_,_,z⟩<;>rw[z] at hx
    ·cases hx
    ·rw[iY.1 hx] at kx;cases kx
    ·rw[iY.1 hx] at kx;cases kx
  ·rw[el,List.filter_append,m7];rcases dk with ⟨_,_,_,z|z⟩|⟨_,_,z⟩<;>rw[z]
   ·simpa using q.tn
   ·simpa using q.tn
   ·refine aF1.2 ⟨q.tn,by simp[tlE],λa ha b hb=>?_⟩;simp[tlE] at hb;obtain⟨x,hx,ex⟩:=AU.1 ha;obtain⟨m1,m2⟩:=ZT.1 hx;have:=(h.lg.job u hu hB).tell x m1 (by simpa using m2);omega
  ·by_cases z:w=u
   ·rw[z,ew] at hb hc ⊢;rcases dk with ⟨_,_,s3,_⟩|⟨_,z,_⟩
    ·rw[s3] at hc;have c0:=q.c0 u hu hB hc;have pc:=tw.cl hc;by_cases p19:(aD t u).Pc=19
     ·have e2:(eX t.aA t.aR u (aD t u)).j=cX:=by unfold eX;simp only[p19];rfl
      rw[e2] at hb;cases hb
     ·have e2:(eX t.aA t.aR u (aD t u)).j=(nZ t.aA u (aD t u)).2:=by unfold eX;rw[aO aa]
      rw[e2];grind[nZ]
    ·rw[z] at hb;cases hb
   ·rw[eo w hw z] at hb hc ⊢;exact q.c0 w hw hb hc
  ·rw[el,s2];have:=q.cc;have ea:(cN 0 (t.Log++(eX t.aA t.aR u (aD t u)).l):Int)=cN 0 t.Log+cN 0 (eX t.aA t.aR u (aD t u)).l:=by unfold cN;rw[List.countP_append];omega
   rw[ea];have b0:bsC t u=if(aD t u).Batch.Collect=true then 1 else 0:=by unfold bsC;simp[hB]
   rcases dk with ⟨_,d2,d3,_⟩|⟨_,d1,z⟩
   ·have b1:bsC (aW t u) u=bsC t u:=by unfold bsC;rw[ew,d2,d3]
    omega
   ·have b1:bsC (aW t u) u=0:=by unfold bsC;rw[ew,d1];rfl
    rw[z];by_cases hc:(aD t u).Batch.Collect=true
    ·have c0:=q.c0 u hu hB hc;have:cN 0 [tlE u (aD t u)]=1:=by simp[cN,tlE,c0]
     rw[aO hc] at b0;omega
    ·rw[aP hc] at b0;omega
 ·obtain⟨hn,z|⟨x,hx,e1,ej⟩⟩:=DL h hu hB
  ·rw[z];exact q
  ·have h4:=h.v.todo.1;have eo:∀v,eN v->v≠u->aD (aW t u) v=aD t v:=λv hv hn=>by rw[ej v hv,qR _ _ hn]
   have ew:aD (aW t u) u=iU x (t.aG+1):=by rw[ej u hu,gN]
   have hq:¬((m6 t u).length=0\/t.aG=1000000):=λy=>by
    have e2:aW t u=t:=by unfold aW;rw[aP hB,aO y]
    rw[e2] at e1;have:=bZ Table.aG e1;have this:t.aG=t.aG+1:=this;omega
   have e2:aW t u=qQ t u ((m6 t u).getD 0 ⟨false,[]⟩):=by unfold aW;rw[aP hB,aP hq]
   have ex:x=(m6 t u).getD 0 ⟨false,[]⟩:=by
    have h1:aD (aW t u) u=iU ((m6 t u).getD 0 ⟨false,[]⟩) (t.aG+1):=by rw[e2,show aD (qQ t u _) u=yS (aD t) u (iU _ (t.aG+1)) u from L9 h.v.wV.1 hu rfl hu,gN]
    exact bZ aI.Batch (ew.symm.trans h1)
   have eq:∀v,eN v->m6 (aW t u) v=if v=u then(m6 t u).drop 1 else m6 t v:=λv hv=>by rw[e1];exact a9Z h4 hu hv _
   have ecs:m6 t u=x::(m6 t u).drop 1:=by
    match e:m6 t u,hq with
    |[],hq=>exact absurd (.inl rfl) hq
    |y::r,_=>rw[ex,e];rfl
   have s1:=YK (f:=bsC t) (g:=bsC (aW t u)) hu λv hv hn=>by unfold bsC;rw[eo v hv hn]
   have s2:=YK (f:=lnC t) (g:=lnC (aW t u)) hu λv hv hn=>by unfold lnC;rw[eq v hv,aP hn]
   have b0:bsC t u=0:=by unfold bsC;rw[hn];rfl
   have b1:bsC (aW t u) u=isC x:=by unfold bsC isC;rw[ew];simp[iU]
   have l0:lnC t u=isC x+G7 isC ((m6 t u).drop 1):=by unfold lnC;rw[ecs];rfl
   have l1:lnC (aW t u) u=G7 isC ((m6 t u).drop 1):=by unfold lnC;rw[eq u hu,aO rfl]
   refine⟨λw hw b hb=>?_,λy hy ky=>?_,?_,λw hw hb hc=>?_,?_⟩
   ·rw[eq w hw] at hb;split at hb
    ·exact q.qs u hu b (OH hb)
    ·exact q.qs w hw b hb
   ·rw[e1] at hy;rcases cY.1 hy with hy|hy
    ·exact q.cl y hy ky
    ·rw[iY.1 hy];exact q.qs u hu x hx
   ·rw[e1];show((t.Log++[_]).filter _ |>.map _).Nodup;rw[List.filter_append];simpa using q.tn
   ·by_cases z:w=u
    ·rw[z,ew];rfl
    ·rw[eo w hw z] at hb hc ⊢;exact q.c0 w hw hb hc
   ·have:=q.cc;have ea:cN 0 (aW t u).Log=cN 0 t.Log:=by rw[e1];show cN 0 (t.Log++[_])=_;unfold cN;rw[List.countP_append];simp
    rw[ea];omega
theorem bAS{P:List eJ->Prop}{k:Int}(r:Rn t e)(h:Bz n t)(q:QPt P k t):QPt P k e:=by
 induction r with
 |refl=>exact q
 |step hu _ ih=>exact ih (h.step hu) (q.step hu h)
theorem bE9{P:List eJ->Prop}{k:Int}(q:QPt P k e){f:Int->Nat}{p:j7->Bool}{o:List Int}(hn:o.Nodup)(hm:∀s,s∈o↔∃x∈e.Log,x.Kind=3/\p x=true/\x.aG=s):(e.Log.map λx=>if x.Kind=3/\p x=true then f x.aG else 0).sum=(o.map f).sum:=by
 have h1:∀l:List j7,(l.map λx=>if x.Kind=3/\p x=true then f x.aG else 0).sum=(((l.filter λx=>p x && x.Kind == 3).map j7.aG).map f).sum:=λl=>by
  induction l with
  |nil=>rfl
  |cons x l ih=>
   rw[AT,List.sum_cons,ih];by_cases z:x.Kind=3/\p x=true
   ·rw[aO z,List.filter_cons_of_pos (by simp[z])];rfl
   ·rw[aP z,List.filter_cons_of_neg (by simp;exact λa b=>z ⟨b,a⟩)];omega
 rw[h1];refine((List.perm_ext_iff_of_nodup ?_ hn).2 λs=>?_).map f |>.sum_nat
 ·have:(e.Log.filter λx=>p x && x.Kind == 3).Sublist (e.Log.filter λx=>x.Kind == 3):=by rw[<-List.filter_filter];exact List.filter_sublist
  exact q.tn.sublist (this.map _)
 ·rw[hm,AU];constructor
  ·rintro⟨x,hx,e⟩;obtain⟨a,b⟩:=ZT.1 hx;rw[uG,beq_iff_eq] at b;exact⟨x,a,b.2,b.1,e⟩
  ·rintro⟨x,a,b,c,e⟩;exact⟨x,ZT.2 ⟨a,by simp[b,c]⟩,e⟩
end Go.Gv
end
