import Derived.Test.YtkinioiglogchaaGreatXQG
set_option linter.unusedSectionVars false
noncomputable section
namespace Go.Gv
variable{K c e i s w x:Int}{A Ky l:List Int}{k k':List bR}{m m':Mem}{n:Nat}{t:Table}{j j':aI}
theorem aBI(hm:lW m){h:Int}(hw:0<=w/\w<=2)(hv:mO m h):(∀t,bL (qA m w h).Heap t=bL m.Heap t)/\(∀t,0<=bL m.Heap t->kQ (qA m w h).Heap t=if t=h % 32 then h/32+1 else kQ m.Heap t) /\
  (∀t,t≠h % 32->(t∈iE (qA m w h).aE↔t∈iE m.aE))/\eN (qA m w h) (h % 32)≠3:=by
 obtain⟨hcnt,h3,h9,h1,h2,hsm,hcp,hlo,hsG,hsO⟩:=lW.facts hm;have hcl:=dO hv.2.1;have hc2:0<=bL m.Heap (h % 32)/\bL m.Heap (h % 32)<=2:=by obtain⟨_,q,e⟩:=rB hcl;rw[e];exact jZ.1 aa
 have hg6:1<=h/32/\h/32<=6:=by have:=hv.1;unfold lK at this;omega
 obtain⟨_,hg⟩:=HOk.a8F hm.1.1 hcl (g:=h/32+1) aa;have hh:(qA m w h).Heap=⟨st4 m.Heap.Bytes (i4 (h % 32) (bL m.Heap (h % 32))).toNat (h/32+1),m.Heap.Class⟩:=by unfold qA;simp only[apply_ite Mem.Heap,ite_self]
 have kx:(w*3+bL m.Heap (h % 32)).toNat<m.aE.Own.length:=aa
 have ky:(bL m.Heap (h % 32)).toNat<m.aE.Global.length:=aa
 have hl:∀t,t∈iE (qA m w h).aE↔t∈iE m.aE\/(h/32+1<=6/\t=h % 32):=λt=>by
  unfold qA iE;by_cases q:h/32+1<=6
  ·rw[aO q];split
   ·rw[<-dY kx];simp only[dD,GP kx,jJ,q,true_and];constructor
    ·rintro(a|a|a)
     ·exact .inl (.inl a)
     ·exact .inl (.inr a)
     ·exact .inr a
    ·rintro((a|a)|a)
     ·exact .inl a
     ·exact .inr (.inl a)
     ·exact .inr (.inr a)
   ·rw[<-dY ky];simp only[dD,GP ky,jJ,q,true_and];constructor
    ·rintro((a|a)|a)
     ·exact .inl (.inl a)
     ·exact .inr a
     ·exact .inl (.inr a)
    ·rintro((a|a)|a)
     ·exact .inl (.inl a)
     ·exact .inr a
     ·exact .inl (.inr a)
  ·rw[aP q];simp only[dD,q,false_and,or_false]
 refine⟨λt=>by rw[hh];rfl,λt ht=>by rw[hh];exact hg t ht,λt ht=>by rw[hl];exact⟨λx=>x.elim id λy=>absurd y.2 ht,.inl⟩,λhu=>?_⟩;have hu':=iL.1 hu;have e1:kQ (qA m w h).Heap (h % 32)=h/32+1:=by rw[hh,hg _ hcl,aO rfl]
 rw[e1] at hu';exact hu'.2.1 ((hl _).2 (.inr ⟨hu'.2.2,rfl⟩))
theorem aL8(hm:lW m){h:Int}(hw:0<=w/\w<=2)(hv:mO m h){t:Int}(ht:t≠h % 32):eN (qA m w h) t=eN m t:=by
 obtain⟨a,b,c,_⟩:=aBI hm hw hv;by_cases q:0<=bL m.Heap t
 ·exact aDH (a t) (by rw[b t q,aP ht]) (c t ht)
 ·have e:bL (qA m w h).Heap t=bL m.Heap t:=a t;unfold eN;rw[e,aO aa,aO aa]
theorem aU2{l:List fB}{j:Nat}(h:j<l.length):MB l (j:Int)=l[j]:=by
 have:=YC (l:=l) (k:=(j:Int)) aa;rw[aW h] at this;injection this with this
 exact this.symm
def bIX(h:Heap)(s:Int):Int:=ld h.Bytes ((i4 s (bL h s)).toNat+4) 4
theorem aU3{h:Heap}(hc:0<=bL h s):(i4 s (bL h s)).toNat+8<=384:=(bLM hc).1
theorem bD5{h:Heap}(hh:HOk h)(hc:0<=bL h s):1<=kQ h s/\kQ h s<=7:=by obtain⟨p,i,p6,hi,es,ec,eo,ep⟩:=pZ hc;have hold:=(GO hh.1 p6).1 (hh.2 p p6);simp_all[aBF,aP,kQ]
structure aR1 (m m':Mem) (x:Int):Prop where
 was:eN m x≠3
 now:eN m' x=3
 gen:1<=kQ m'.Heap x/\kQ m'.Heap x<=6
 rest:∀t,t≠x->(eN m' t=3↔eN m t=3)
 same:∀t,eN m t=3->kQ m'.Heap t=kQ m.Heap t/\bIX m'.Heap t=bIX m.Heap t
theorem aPN(hm:lW m){ls:aE}(h1:∀t,t∈iE m.aE↔t∈iE ls\/t=x)(h2:x∉iE ls):aR1 m ⟨m.Heap,ls⟩ x:=by have hx:x∈iE m.aE:=(h1 x).2 (.inr rfl);obtain⟨a,b⟩:=lW.oN hm hx;refine⟨λq=>(iL.1 q).2.1 hx,iL.2 ⟨a,h2,b⟩,⟨(bD5 hm.1.1 a).1,b⟩,λt ht=>?_,λt _=>⟨rfl,rfl⟩⟩;grind[iL]
theorem a3U(h:l≠[]):l=(NS l).1++[(NS l).2]:=by
 unfold NS;rcases ZQ l with rfl|⟨L,b,rfl⟩
 ·exact absurd rfl h
 ·simp
theorem aU4{l:List bG}{k:Nat}(hk:k<l.length)(h:fQ l k≠[]):∃A B,fK l=A++((NS (fQ l k)).2::B)/\fK (l.set k ⟨(NS (fQ l k)).1⟩)=A++B:=by grind[a3U,NS,DY,dY,H4]
theorem aU5{l:List bG}{k:Nat}(hk:k<l.length)(h:fQ l k=[]):l.set k ⟨(NS (fQ l k)).1⟩=l/\(NS (fQ l k)).2 = -1:=by
 rw[h];refine⟨?_,rfl⟩;have e:(⟨(NS []).1⟩:bG)=l[k]:=by
  have:=dY hk;rw[h] at this;cases hl:l[k] with
  |mk s=>rw[hl] at this;simp only at this;subst this;rfl
 simp_all
theorem aR2(hm:lW m)(hw:0<=w/\w<=2)(hc:0<=c/\c<=2):(GQ m w c=(m,-1))\/0<=(GQ m w c).2/\aR1 m (GQ m w c).1 (GQ m w c).2:=by
 obtain⟨hcnt,h3,h9,_⟩:=lW.facts hm;have hk:(w*3+c).toNat<m.aE.Own.length:=aa
 unfold GQ;by_cases q:fQ m.aE.Own (w*3+c).toNat=[]
 ·left;obtain⟨a,b⟩:=aU5 hk q;rw[a,b]
 ·right;obtain⟨A,B,e1,e2⟩:=aU4 hk q;have nd:=hm.1.2.2.2.2.2;have rg:=hm.1.2.2.2.2.1;unfold iE at nd rg;rw[e1] at nd rg;refine⟨(rg _ ae).1,aPN hm (λt=>?_) ?_⟩
  ·grind[iE]
  grind[iE]
theorem aOE(hm:lW m)(hc:0<=c/\c<=2):(zP m c=(m,-1))\/0<=(zP m c).2/\aR1 m (zP m c).1 (zP m c).2:=by
 obtain⟨hcnt,h3,h9,_⟩:=lW.facts hm;have hk:c.toNat<m.aE.Global.length:=aa
 unfold zP;by_cases q:fQ m.aE.Global c.toNat=[]
 ·left;obtain⟨a,b⟩:=aU5 hk q;rw[a,b]
 ·right;obtain⟨A,B,e1,e2⟩:=aU4 hk q;have nd:=hm.1.2.2.2.2.2;have rg:=hm.1.2.2.2.2.1;unfold iE at nd rg;rw[e1] at nd rg;refine⟨(rg _ ae).1,aPN hm (λt=>?_) ?_⟩
  ·grind[iE]
  grind[iE]
theorem aYB(hm:lW m)(hc:0<=c/\c<=2):(yJ m c=(m,-1))\/0<=(yJ m c).2/\aR1 m (yJ m c).1 (yJ m c).2:=by
 obtain⟨hcnt,h3,h9,h1,_⟩:=lW.facts hm;have hs:=hm.1.1.1;unfold yJ;by_cases q:pgF m.Heap=6
 ·grind
 right;rw[aP q];obtain⟨hp,hun⟩:=aXV hs q;generalize pgF m.Heap=p at hp hun;obtain⟨a,b,d,e⟩:=HOk.a8H hm.1.1 hp aa hc;have hpp:0<cK c:=jZ.2 hc;have hp4:=pW c;have hk:c.toNat<m.aE.Global.length:=aa
 have hcons:gS p (cK c).toNat=(p:Int)*4::(gS p (cK c).toNat).drop 1:=by
  have:0<(gS p (cK c).toNat).length:=by grind[aE4]
  have h0:=vY this;rw[UM] at h0;have e0:(gS p (cK c).toNat)[0]=(p:Int)*4:=by simp[gS]
  grind
 have hnd:=aUN p (cK c).toNat;rw[hcons,ZT] at hnd;have hxs:∀t,t∈(gS p (cK c).toNat).drop 1↔∃i,i<(cK c).toNat/\t=(p:Int)*4+(i:Nat)/\i≠0:=λt=>by
  constructor
  ·intro h;obtain⟨i,hi,rfl⟩:=a8I (QQ h);grind
  ·rintro⟨i,hi,rfl,i0⟩;have hmem:(p:Int)*4+(i:Nat)∈gS p (cK c).toNat:=by grind[gS]
   grind
 generalize (gS p (cK c).toNat).drop 1=xs at hnd hxs;have hmem:∀t,t∈iE ⟨m.aE.Global.set c.toNat ⟨fQ m.aE.Global c.toNat++xs⟩,m.aE.Own⟩↔t∈iE m.aE\/t∈xs:=λt=>by unfold iE;rw[<-dY hk];simp[GP,or_right_comm]
 have hno:∀i,i<(cK c).toNat->¬0<=bL m.Heap ((p:Int)*4+(i:Nat)):=λi hi z=>(d _ z).1 aa;have e0:=e 0 aa;rw[show(p:Int)*4+((0:Nat):Int)=(p:Int)*4 by omega] at e0;have hno0:=hno 0 aa;rw[show(p:Int)*4+((0:Nat):Int)=(p:Int)*4 by omega] at hno0;have bts:=λj=>(a0S hm.1.1.1.1 hp hc (cK c).toNat aa j).1;have hbl:=KR m.Heap.Bytes p c (cK c).toNat;refine⟨aa,λz=>hno0 (iL.1 z).1,iL.2 ⟨ak,λz=>?_,ak⟩,ak,λt ht=>?_,λt ht=>?_⟩
 ·grind[lW.oN]
 ·rw[iL,iL];simp only at ht;by_cases z:0<=bL m.Heap t
  ·obtain⟨z1,z2⟩:=d t z;have zx:t∉xs:=λy=>by obtain⟨i,hi,rfl,_⟩:=(hxs t).1 y;omega
   have:t∈iE (⟨m.aE.Global.set c.toNat ⟨fQ m.aE.Global c.toNat++xs⟩,m.aE.Own⟩:aE)↔t∈iE m.aE:=ak
   simp only[this,b t z1,z2]
  ·refine⟨λy=>?_,λy=>absurd y.1 z⟩;exfalso;obtain⟨y1,y2,y3⟩:=y;by_cases zp:(t/4).toNat=p
   ·obtain⟨r1,r2,r3⟩:=rB y1;rw[zp,YA hs hp,aO rfl] at r2;exact y2 ((hmem t).2 (.inr ((hxs t).2 ⟨(t % 4).toNat,aa,aa,aa⟩)))
   grind
 ·have ht':=iL.1 ht;obtain⟨z1,z2⟩:=d t ht'.1;refine⟨z2,?_⟩;obtain⟨p',i',p6',hi',es',ec',eo',ep'⟩:=pZ ht'.1;have hend:=aU3 ht'.1;have hz':=zO hs p6' rfl hi';have room:8+i'*(bE (dA m.Heap p')).toNat+8<=64:=by
   have hcl:0<=dA m.Heap p'/\dA m.Heap p'<=2:=jZ.1 aa;generalize dA m.Heap p'=c' at hi' hcl;rcases nC hcl with rfl|rfl|rfl
   ·grind[cK,bE]
   ·grind[cK,bE]
   grind[cK,bE]
  unfold bIX;simp only;rw[b t z1];exact I0 aa hbl λj j1 j2=>bts j aa
theorem a9B{h:Heap}{t:Int}(hc:0<=bL h s)(ht:0<=bL h t)(hn:s≠t):(i4 s (bL h s)).toNat+4+(jC (bL h s)).toNat<=(i4 t (bL h t)).toNat\/(i4 t (bL h t)).toNat+4+(jC (bL h t)).toNat<=(i4 s (bL h s)).toNat:=by
 obtain⟨p,i,p6,hi,es,ec,eo,ep⟩:=pZ hc;obtain⟨q,j,q6,hj,fs,fc,fo,fp⟩:=pZ ht;rw[eo,fo,ec,fc];have room:∀{c:Int} {i:Nat},i<(cK c).toNat->(c=0/\i<4/\(bE c).toNat=12/\(jC c).toNat=8)\/(c=1/\i<2/\(bE c).toNat=20/\(jC c).toNat=16)\/(c=2/\i<1/\(bE c).toNat=44/\(jC c).toNat=40):=λ{c i} h=>by
  rcases nC (jZ.1 (show 0<cK c by omega)) with rfl|rfl|rfl
  ·exact .inl ⟨rfl,h,rfl,rfl⟩
  ·exact .inr (.inl ⟨rfl,h,rfl,rfl⟩)
  ·exact .inr (.inr ⟨rfl,h,rfl,rfl⟩)
 by_cases e:p=q
 ·subst e;have hij:i≠j:=λe=>hn aa;have r2:=room hj;rcases room hi with ⟨_,a,b,c⟩|⟨_,a,b,c⟩|⟨_,a,b,c⟩
  ·rw[b,c];omega
  ·rw[b,c];omega
  ·omega
 ·have:p<q\/q<p:=aa
  rcases room hi with ⟨_,a,b,c⟩|⟨_,a,b,c⟩|⟨_,a,b,c⟩<;>rcases room hj with ⟨_,a',b',c'⟩|⟨_,a',b',c'⟩|⟨_,a',b',c'⟩<;>rw[b,c,b',c']<;>omega
theorem aU6{b b':List Int}{a:Nat}(h:a+2<=b.length)(hl:b'.length=b.length)(hs:∀j,a<=j->j<a+2->bt b' j=bt b j):ld b' a 2=ld b a 2:=by grind[ld,vY,aLK]
theorem aL9{h h':Heap}{t:Int}(h384:h.Bytes.length=384)(hc:0<=bL h t)(h10:10<=jC (bL h t))(e:bL h' t=bL h t)(hl:h'.Bytes.length=h.Bytes.length)(hs:∀j,AS h t<=j->j<AS h t+10->bt h'.Bytes j=bt h.Bytes j):ZJ h' t=ZJ h t:=by grind[DH,AS,ZJ,aU6,I0]
def Kn(m m':Mem)(z:Int):Prop:=∀x,kJ m x->x % 32≠z->kJ m' x/\ZJ m'.Heap (x % 32)=ZJ m.Heap (x % 32)
theorem Kn.refl(m:Mem)(z:Int):Kn m m z:=λ_ h _=>⟨h,rfl⟩
theorem vH.kn{z:Int}(h:vH m m' z)(hn:∀x,kJ m x->x % 32≠z->ZJ m'.Heap (x % 32)=ZJ m.Heap (x % 32)):Kn m m' z:=λx hx hz=>by obtain⟨a,b,c⟩:=h.2 _ hx.1.2.1 hz;exact⟨⟨⟨hx.1.1,a,by rw[b];exact hx.1.2.2⟩,by rw[c];exact hx.2⟩,hn x hx hz⟩
theorem aI2(hm:lW m){h:Int}(hw:0<=w/\w<=2)(hv:mO m h):Kn m (qA m w h) (h % 32):=by
 obtain⟨m',e1,e2,_,hs⟩:=aIP hm hw hv;rw[aDI hm hw hv] at e1;injection e1 with e1
 rw[<-e1] at hs;refine hs.kn λx hx hz=>?_;have hcl:=dO hv.2.1;have h384:=hm.1.1.1.1;have hh:(qA m w h).Heap=⟨st4 m.Heap.Bytes (i4 (h % 32) (bL m.Heap (h % 32))).toNat (h/32+1),m.Heap.Class⟩:=by simp[qA,apply_ite]
 rw[hh];have hc:=dO hx.1.2.1;have e:=aU3 hcl;have a:=a9B hcl hc (λq=>hz q.symm);have s1:=(DH hc hx.2).2;have s2:8<=(jC (bL m.Heap (h % 32))).toNat:=by have:=rB hcl;have hh:=jZ.1 (show 0<cK (dA m.Heap (h % 32/4).toNat) by omega);rw[this.2.2];rcases nC hh with e|e|e<;>rw[e]<;>decide
 refine aL9 h384 hc hx.2 rfl (GN ..) λj j1 j2=>?_;unfold AS at j1 j2;rw[H5 aa,gT,gT]
theorem a04(hm:lW m)(hx:kJ m x){o:Nat}{t:List UInt8}(ho:o+t.length<=10):Kn m ⟨⟨j3 m.Heap.Bytes (AS m.Heap (x % 32)+o) t,m.Heap.Class⟩,m.aE⟩ (x % 32):=by have hcl:=dO hx.1.2.1;have r:=DH hcl hx.2;have h384:=hm.1.1.1.1;have h:=lW.j3 hm hcl (o:=o) (t:=t) aa;refine λy hy hz=>?_;have hc:=dO hy.1.2.1;obtain⟨a,b,c⟩:=h.2 _ hy.1.2.1 aa;have ap:=a9B hcl hc (λq=>hz q.symm);have s1:=(DH hc hy.2).2;refine⟨⟨⟨hy.1.1,a,b.trans hy.1.2.2⟩,hy.2⟩,aL9 h384 hc hy.2 rfl (BP ..) λj j1 j2=>?_⟩;grind[AS,MC]
theorem kJ.j3(hm:lW m)(hx:kJ m x){o:Nat}{t:List UInt8}(ho:o+t.length<=10):kJ ⟨⟨Gv.j3 m.Heap.Bytes (AS m.Heap (x % 32)+o) t,m.Heap.Class⟩,m.aE⟩ x:=by have hcl:=dO hx.1.2.1;have r:=DH hcl hx.2;have h:=lW.j3 hm hcl (o:=o) (t:=t) aa;obtain⟨a,b,c⟩:=h.2 _ hx.1.2.1 aa;exact⟨⟨hx.1.1,a,b.trans hx.1.2.2⟩,hx.2⟩
theorem a9C{b:List Int}{a:Nat}{t:List UInt8}(h:a+t.length<=b.length){k:Nat}(j:Nat)(e:k=a+j)(hj:j<t.length):bt (j3 b a t) k=(t[j].toNat:Int):=by grind[aLR]
theorem u8v(z:Int):((u8 z).toNat:Int)=z % 256:=by grind[u8,UInt8.toNat_ofNat_of_lt']
theorem aYC{b:List Int}{a k:Nat}{t l r:List UInt8}{n:Int}(ht:t=l++oD n++r)(hk:k=a+l.length)(h:a+t.length<=b.length)(hn:0<=n/\n<=4294967295):ld (j3 b a t) k 4=n:=by
 have e:∀j (hj:j<4),bt (j3 b a t) (k+j)=(((oD n)[j]'(by grind[oD])).toNat:Int):=λj hj=>by
  have h4:(oD n).length=4:=rfl;have hl:t.length=l.length+4+r.length:=ak
  rw[a9C h (l.length+j) aa aa];grind
 have h4:(oD n).length=4:=rfl;have hl:t.length=l.length+4+r.length:=ak
 have e0:=e 0 aa;have e1:=e 1 aa;have e2:=e 2 aa;have e3:=e 3 aa;simp only[oD,List.getElem_cons_zero,List.getElem_cons_succ,u8v,UO] at e0 e1 e2 e3;grind[ld4,BP]
section
variable {m:Mem} (hm:lW m) {x:Int} (hx:kJ m x)
include hm hx
theorem a05{o:Nat}{t:List UInt8}(ho:o+t.length<=10)(s:Int):eN ⟨⟨j3 m.Heap.Bytes (AS m.Heap (x % 32)+o) t,m.Heap.Class⟩,m.aE⟩ s=eN m s:=by
 have hcl:=dO hx.1.2.1;have r:=DH hcl hx.2;have h:=(HOk.j3 hm.1.1 hcl (o:=o) (t:=t) aa).2;by_cases q:0<=bL m.Heap s
 ·exact aDH rfl (h s q) Iff.rfl
 ·have c:bL m.Heap s<0:=aa
  exact(aO (show bL _ s<0 from c)).trans (aO c).symm
structure Wr1 (m m':Mem) (x:Int) (n:gX):Prop where
 ok:kJ m' x
 nod:ZJ m'.Heap (x % 32)=n
 kn:Kn m m' (x % 32)
 st:∀s,eN m' s=eN m s
theorem bD6{y:Int}(hy:oK y):Wr1 m (Gv.aF1 m x y) x {ZJ m.Heap (x % 32) with Next:=y}:=by have hcl:=dO hx.1.2.1;have r:=(DH hcl hx.2).1;have h384:=hm.1.1.1.1;have h4:(oD y).length=4:=rfl;have hr:=aDK hy;unfold Gv.aF1;rw[aO ⟨hy,hx⟩];refine⟨kJ.j3 hm hx aa,?_,a04 hm hx aa,a05 hm hx aa⟩;have ed:AS ⟨j3 m.Heap.Bytes (AS m.Heap (x % 32)+6) (oD y),m.Heap.Class⟩ (x % 32)=AS m.Heap (x % 32):=rfl;unfold ZJ;simp only[ed];rw[aU6 aa (BP ..) λj a b=>MC _ aa aa,I0 aa (BP ..) λj a b=>MC _ aa aa,aYC (l:=[]) (r:=[]) (n:=y) ae ae aa aa]
theorem bIY{n:gX}(hn:aBH n):Wr1 m (aAG m x n) x n:=by
 have hcl:=dO hx.1.2.1;have r:=(DH hcl hx.2).1;have h384:=hm.1.1.1.1;have hl:(aOC n).length=10:=by simp[aOC,SG,oD]
 have hr:=aDK hn.2.2;have hk:=hn.1;have hv:=hn.2.1;unfold aAG;rw[aO ⟨hn,hx⟩];refine⟨kJ.j3 hm hx (o:=0) aa,?_,a04 hm hx (o:=0) aa,a05 hm hx (o:=0) aa⟩;have ed:AS ⟨j3 m.Heap.Bytes (AS m.Heap (x % 32)) (aOC n),m.Heap.Class⟩ (x % 32)=AS m.Heap (x % 32):=rfl;have hle:AS m.Heap (x % 32)+(aOC n).length<=m.Heap.Bytes.length:=aa
 have e2:ld (j3 m.Heap.Bytes (AS m.Heap (x % 32)) (aOC n)) (AS m.Heap (x % 32)) 2=n.Key:=by
  have e:∀{b:List Int} {a:Nat},a+2<=b.length->ld b a 2=bt b a*256+bt b (a+1):=λh=>by grind[ld,vY,ldF,aLK]
  rw[e (by grind[BP]),a9C hle 0 (UO _).symm aa,a9C hle 1 rfl aa];grind[aOC,SG,u8v]
 unfold ZJ;simp only[ed];rw[e2,aYC (l:=SG n.Key) (r:=oD n.Next) (n:=n.dI) (by simp[aOC]) (by simp[SG]) hle aa,aYC (l:=SG n.Key++oD n.dI) (r:=[]) (n:=n.Next) (by simp[aOC]) (by simp[SG,oD]) hle aa]
end
theorem a06(e:m'.Heap=m.Heap)(h:aR1 m m' x):Kn m m' (-1):=λy hy _=>by have h1:=(h.rest (y % 32) (λq=>h.was (q ▸ hy.1.2.1))).2 hy.1.2.1;grind[kJ,mO]
theorem a07(h:0<=(NS l).2):(NS l).2∈l:=by
 rcases ZQ l with rfl|⟨L,b,rfl⟩
 ·exact absurd h (by simp[NS])
 ·simp[NS]
theorem a9D(hm:lW m)(hc:0<=c/\c<=2)(h:aR1 m (yJ m c).1 (yJ m c).2):Kn m (yJ m c).1 (-1)/\bL (yJ m c).1.Heap (yJ m c).2=c:=by
 have hs:=hm.1.1.1;unfold yJ at h ⊢;by_cases q:pgF m.Heap=6
 ·rw[aO q] at h;exact absurd h.now h.was
 rw[aP q] at h ⊢;obtain⟨hp,hun⟩:=aXV hs q;generalize pgF m.Heap=p at hp hun h;obtain⟨a,b,d,e⟩:=HOk.a8H hm.1.1 hp aa hc;have hpp:0<cK c:=jZ.2 hc;have e0:=(e 0 aa).1;rw[show(p:Int)*4+((0:Nat):Int)=(p:Int)*4 by omega] at e0;refine⟨λy hy _=>?_,e0⟩;have h1:=(h.rest (y % 32) (λq=>h.was (q ▸ hy.1.2.1))).2 hy.1.2.1;have hcl:=dO hy.1.2.1;obtain⟨z1,z2⟩:=d _ hcl;have ec:=b _ z1;refine⟨⟨⟨hy.1.1,h1,z2.trans hy.1.2.2⟩,by show 10<=jC (bL _ _);rw[ec];exact hy.2⟩,?_⟩;have bts:=λj=>(a0S hm.1.1.1.1 hp hc (cK c).toNat aa j).1;obtain⟨p',i',p6',hi',es',ec',eo',ep'⟩:=pZ hcl;have r:=DH hcl hy.2;refine aL9 hm.1.1.1.1 hcl hy.2 ec (KR ..) λj j1 j2=>bts j ?_;unfold AS at j1 j2;have room:8+i'*(bE (dA m.Heap p')).toNat+4+10<=64:=by
  have hcl:0<=dA m.Heap p'/\dA m.Heap p'<=2:=jZ.1 aa;have h10:=hy.2;rw[ec'] at h10;generalize dA m.Heap p'=c' at hi' hcl h10;rcases nC hcl with rfl|rfl|rfl
  ·exact absurd h10 ai
  ·rw[show(cK 1).toNat=2 from rfl] at hi';rw[show(bE 1).toNat=20 from rfl];omega
  simp_all[cK]
 omega
structure AlT (b:aA) (s:Sub) (r:aA×Sub):Prop where
 clock:r.1.aC=b.aC
 bOW:r.1.aQ=b.aQ
 haz:r.1.qU=b.qU
 two:r.1.Mem=b.Mem/\(r.2.gK=true/\r.2.Code=3\/s.Pc<=2/\r.2={s with Pc:=s.Pc+1}) \/
  r.2.gK=true/\r.2.Code=0/\kJ r.1.Mem r.2.Out/\aR1 b.Mem r.1.Mem (r.2.Out % 32)/\Kn b.Mem r.1.Mem (-1)
theorem aI3{b:aA}(hm:lW b.Mem)(hw:0<=w/\w<=2){s:Sub}(hk:s.Kind=1)(hd:s.gK=false)(hp:0<=s.Pc/\s.Pc<=3)(ha:s.A=16):AlT b s (gQ b w s):=by
 have e:gQ b w s=QJ b w s:=by grind[gQ]
 rw[e];have h1:KS s.A=1:=by rw[ha];rfl
 have fin:∀p:Mem×Int,(p=(b.Mem,-1)\/0<=p.2/\aR1 b.Mem p.1 p.2)->(aR1 b.Mem p.1 p.2->0<=p.2->Kn b.Mem p.1 (-1)/\bL p.1.Heap p.2=1)->AlT b s (KT b s p):=λp h hk=>by
  unfold KT;rcases h with rfl|⟨h0,h1⟩
  ·rw[gJ];split
   ·exact⟨rfl,rfl,rfl,.inl ⟨rfl,.inl ⟨rfl,rfl⟩⟩⟩
   ·exact⟨rfl,rfl,rfl,.inl ⟨rfl,.inr ⟨aa,rfl⟩⟩⟩
  ·obtain⟨k1,k2⟩:=hk h1 h0;rw[aO h0];have h23:=(rB (iL.1 h1.now).1).1;have eh:aXW p.1 p.2=kQ p.1.Heap p.2*32+p.2:=aO h1.gen;have hg:=h1.gen;have e1:aXW p.1 p.2 % 32=p.2:=aa
   have e2:aXW p.1 p.2/32=kQ p.1.Heap p.2:=aa
   have hn:lK (aXW p.1 p.2):=by grind[lK]
   refine⟨rfl,rfl,rfl,.inr ⟨rfl,rfl,⟨⟨hn,?_,?_⟩,?_⟩,?_,k1⟩⟩
   ·simp only[vI];rw[e1];exact h1.now
   ·grind[vI]
   ·simp only[vI];rw[e1,k2];decide
   grind[vI]
 unfold QJ;rw[h1,gT];have hc:(0:Int)<=1/\(1:Int)<=2:=aa
 split
 ·refine fin _ (aR2 hm hw hc) λt h=>⟨a06 rfl t,?_⟩;have hf:=hm.2.2 (w*3+1).toNat aa _ (a07 h);rw[show(((w*3+1).toNat % 3:Nat):Int)=1 by omega] at hf;exact hf.1
 split
 ·exact fin _ (aOE hm hc) λt h=>⟨a06 rfl t,(hm.2.1 1 aa _ (a07 h)).1⟩
 grind[aYB,a9D]
abbrev eO(v:Int):Prop:=0<=v/\v<=2
abbrev nY(v:Int):Prop:=0<=v/\v<=1
def cJ(m:Mem)(x:Int):gX:=ZJ m.Heap (x % 32)
def ChT(m:Mem):Int->List Int->Prop
 |x,[]=>x=0
 |x,h::r=>x=h/\kJ m h/\aBH (cJ m h)/\ChT m (cJ m h).Next r
def ZL(l:List Int)(s:Int):Nat:=(l.map (· % 32)).count s
def kR(j:aI):List Int:=if(6<=j.Pc/\j.Pc<=8)\/j.Pc=16\/j.Pc=17 then j.gL else if 9<=j.Pc/\j.Pc<=13 then j.gL.drop (fU j.aH j.K).toNat else []
def aFC(j:aI):List Int:=if 9<=j.Pc/\j.Pc<=14 then j.cA else if j.Pc=15 then j.cA.drop j.K.toNat else []
def own(j:aI):List Int:=kR j++aFC j
def ind(b:aA)(s:Int):Nat:=if eN b.Mem s=3/\¬bD b.aQ s then 1 else 0
def cnO(J:Int->aI)(s:Int):Nat:=ZL (own (J 0)) s+ZL (own (J 1)) s+ZL (own (J 2)) s
def cnC(c:Int->List Int)(s:Int):Nat:=ZL (c 0) s+ZL (c 1) s
def zS(J:Int->aI)(w:Int)(j:aI):Int->aI:=λv=>if v=w then j else J v
def upC(c:Int->List Int)(i:Int)(l:List Int):Int->List Int:=λv=>if v=i then l else c v
theorem gZ(J:Int->aI)(w:Int)(j:aI):zS J w j w=j:=aO rfl
theorem qS(J:Int->aI){v:Int}(j:aI)(h:v≠w):zS J w j v=J v:=aP h
theorem qD(c:Int->List Int)(i:Int)(l:List Int):upC c i l i=l:=aO rfl
def upQ(q:Int->Nat)(w:Int)(n:Nat):Int->Nat:=λv=>if v=w then n else q v
theorem a9F(q:Int->Nat)(w:Int):upQ q w (q w)=q:=by grind[upQ]
theorem KU(c:Int->List Int){v:Int}(l:List Int)(h:v≠i):upC c i l v=c v:=aP h
@[simp] theorem a9G (s : Int) : ZL [] s = 0 := rfl
theorem UG(a b:List Int)(s:Int):ZL (a++b) s=ZL a s+ZL b s:=by simp[ZL]
theorem PF(x:Int)(l:List Int)(s:Int):ZL (x::l) s=ZL l s+if x % 32=s then 1 else 0:=by grind[ZL]
theorem QL(h:x∈l):1<=ZL l (x % 32):=List.count_pos_iff.2 (AU.2 ⟨x,h,rfl⟩)
theorem YH{J:Int->aI}(hw:eO w)(j:aI)(s:Int):cnO (zS J w j) s+ZL (own (J w)) s=cnO J s+ZL (own j) s:=by grind[cnO,zS]
theorem aYD(J:Int->aI){v:Int}(hv:eO v)(s:Int):ZL (own (J v)) s<=cnO J s:=by grind[cnO]
theorem bD7(J:Int->aI){v:Int}(hv:eO v)(hw:eO w)(hn:v≠w)(s:Int):ZL (own (J v)) s+ZL (own (J w)) s<=cnO J s:=by grind[cnO]
theorem a9H{c:Int->List Int}(hi:nY i)(l:List Int)(s:Int):cnC (upC c i l) s+ZL (c i) s=cnC c s+ZL l s:=by grind[cnC,upC]
theorem a9I(c:Int->List Int)(hi:nY i)(s:Int):ZL (c i) s<=cnC c s:=by grind[cnC]
theorem a08(c:Int->List Int){j:Int}(hi:nY i)(hj:nY j)(hn:i≠j)(s:Int):ZL (c i) s+ZL (c j) s<=cnC c s:=by grind[cnC]
def bi(j:aI):Int:=jD (mR j).Key
structure TW (Ky:List Int) (m:Mem) (k:List bR) (c:Int->List Int) (q:Nat) (j:aI):Prop where
 pc:0<=j.Pc/\j.Pc<=21
 nO:j.Pc<6\/20<=j.Pc->j.gL=[]
 oO:j.Pc<=8\/j.Pc=16\/j.Pc=17\/20<=j.Pc->j.cA=[]
 hc:2<=j.Pc/\j.Pc<=5->sM j
 wl:(j.aH.length:Int)<=j.At
 n6:j.Pc=6->(j.gL.length:Int)=j.K/\j.K<=fU j.aH j.aH.length
 n7:7<=j.Pc/\j.Pc<=13->(j.gL.length:Int)=fU j.aH j.aH.length/\(9<=j.Pc->(j.cA.length:Int)<=if j.Pc<=11 then j.K else j.K+1)
 l7:j.Pc=7->∀x∈(m0 j.aH).take j.K.toNat,x∈j.bD
 l8:8<=j.Pc/\j.Pc<=13->∀x∈j.aH,jD x.Key∈j.bD
 k9:10<=j.Pc/\j.Pc<=13->j.K<j.aH.length
 st:j.Pc=10\/j.Pc=11->∃A B,c (bi j)=A++j.H::B/\(j.gR=A.getLastD 0/\∀a∈A,(cJ m a).Key≠(mR j).Key)/\(j.Pc=10->B.length<=q)
 cu:j.Pc=11->j.Node=cJ m j.H/\j.Node.Key=(mR j).Key
 fl:j.Pc=12\/j.Pc=13->(mR j).G3=false/\∀a∈c (bi j),(cJ m a).Key≠(mR j).Key
 ln:j.Pc=13->cJ m (GV j)=⟨(mR j).Key,(mR j).dI,(dL k (bi j)).Head⟩
 cd:j.Code=0/\j.Pc≠16/\j.Pc≠17\/(j.Code=3\/j.Code=6\/j.Code=7)/\16<=j.Pc/\j.Pc<=19
 at_:j.Code=0->6<=j.Pc/\j.Pc<=19->j.At=j.Batch.bK.length
 cl:j.Batch.Collect=true->j.Pc=19\/j.Pc=20\/j.Pc=21
 cl2:j.Pc=20\/j.Pc=21->j.Batch.Collect=true
 ky:(∀x∈j.aH,x.Key∈Ky)/\∀x∈j.Batch.bK,x.Key∈Ky
def Rp(m:Mem):List Int->Prop
 |[]=>True
 |h::r=>kJ m h/\aBH (cJ m h)/\((cJ m h).Next=0\/(cJ m h).Next∈r)/\Rp m r
def Sfe(b:aA)(J:Int->aI)(e x:Int):Prop:=(∀r∈dV b.aQ,r.Handle=x->e<=r.aK)/\∀v,eO v->x∉kR (J v)/\((J v).Pc=15->(J v).K<(J v).cA.length->(J v).Sub.A=x->(J v).Sub.Pc=1->e<=(J v).Sub.E)
def mS(m:Mem)(l:List Int):List Int:=l.map λx=>(cJ m x).Key
def jI(c:aC)(v:Int):Prop:=(cS c v).On=true/\(cS c v).gO=false
structure RdL (Ky:List Int) (b:aA) (J:Int->aI) (e:Int) (l:List Int):Prop where
 rp:Rp b.Mem l
 nd:(mS b.Mem l).Nodup
 ky:∀x∈mS b.Mem l,x∈Ky
 sf:∀x∈l,Sfe b J e x
def RdJ(Ky:List Int)(b:aA)(J:Int->aI)(v:Int)(q:Nat)(j:aI):Prop:=(j.Pc=3\/j.Pc=4)->jI b.aC v->∃r,(RdL Ky b J (cS b.aC v).aK (j.H::r)/\r.length<=q)/\(j.Pc=4->(j.Node.Key=(cJ b.Mem j.H).Key/\j.Node.dI=(cJ b.Mem j.H).dI)/\(j.Node.Next=0\/j.Node.Next∈r))
def bD8(e:Int)(l:List fB)(s:Sub):Prop:=s.Kind=4/\s.gK=false/\(s.Pc=0\/s.E<=e/\(s.Pc=1/\0<=s.Row\/s.Pc=2/\(0<=s.B/\s.B<=2)/\NV l s/\J2 (MB l s.Row) s.E\/s.Pc=3/\NV l s/\J2 (MB l s.Row) s.E))
structure SbJ (b:aA) (v:Int) (j:aI):Prop where
 al:j.Pc=6->j.Sub.Kind=1/\j.Sub.gK=false/\(0<=j.Sub.Pc/\j.Sub.Pc<=3)/\j.Sub.A=16
 rt:j.Pc=15->j.K<j.cA.length->0<=j.K/\j.Sub.Kind=2/\j.Sub.gK=false/\j.Sub.A=j.cA.getD j.K.toNat 0/\(j.Sub.Pc=0\/j.Sub.Pc=1/\0<=j.Sub.E/\j.Sub.E<=b.aC.aK)
 col:j.Pc=21->bD8 b.aC.aK (dF b.aQ v) j.Sub
structure sK (Ky:List Int) (b:aA) (k:List bR) (c:Int->List Int) (q:Int->Nat) (J:Int->aI):Prop where
 hz:b.qU=[0,0,0]
 ch:∀i,nY i->ChT b.Mem (dL k i).Head (c i)
 key:∀i,nY i->(mS b.Mem (c i)).Nodup/\∀x∈mS b.Mem (c i),jD x=i/\x∈Ky
 cnt:∀s,cnC c s+cnO J s=ind b s
 ok:∀v,eO v->∀x∈own (J v),kJ b.Mem x
 tw:∀v,eO v->(J v).bO=true->TW Ky b.Mem k c (q v) (J v)
 rd:∀v,eO v->RdJ Ky b J v (q v) (J v)
 sb:∀v,eO v->SbJ b v (J v)
theorem ChT.all:∀{l:List Int} {x:Int},ChT m x l->∀y∈l,kJ m y/\aBH (cJ m y)
 |[],_,_,_,h=>by cases h
 |a::r,x,h,y,hy=>by
  rcases j6.1 hy with rfl|hy
  ·exact⟨h.2.1,h.2.2.1⟩
  ·exact h.2.2.2.all y hy
theorem ChT.keep:∀{l:List Int} {x:Int},ChT m x l->(∀y∈l,kJ m' y/\cJ m' y=cJ m y)->ChT m' x l
 |[],_,h,_=>h
 |a::r,x,h,hk=>by obtain⟨a1,a2⟩:=hk a ae;exact⟨h.1,a1,by rw[a2];exact h.2.2.1,by rw[a2];exact h.2.2.2.keep λy hy=>hk y (by simp[hy])⟩
theorem ChT.split:∀{h:Int} {B:List Int} {x:Int},ChT m x (A++h::B)->ChT m h (h::B):=by
 induction A with
 |nil=>exact λh=>⟨rfl,h.2⟩
 |cons a A ih=>exact λh=>ih h.2.2.2
theorem ChT.rp:∀{l:List Int} {x:Int},ChT m x l->Rp m l
 |[],_,_=>trivial
 |[a],x,h=>⟨h.2.1,h.2.2.1,.inl h.2.2.2,trivial⟩
 |a::b::r,x,h=>⟨h.2.1,h.2.2.1,.inr (by rw[h.2.2.2.1];simp),h.2.2.2.rp⟩
theorem Rp.from:∀{l:List Int} {x:Int},Rp m l->x∈l->∃A r,l=A++x::r/\Rp m (x::r)
 |a::l,x,h,hx=>by
  by_cases e:x=a
  ·subst e;exact⟨[],l,rfl,h⟩
  ·obtain⟨A,r,e1,h1⟩:=h.2.2.2.from ((j6.1 hx).resolve_left e);grind
theorem Rp.keep:∀{l:List Int},Rp m l->(∀y∈l,kJ m' y/\cJ m' y=cJ m y)->Rp m' l
 |[],_,_=>trivial
 |a::r,h,hk=>by obtain⟨a1,a2⟩:=hk a ae;exact⟨a1,by rw[a2];exact h.2.1,by rw[a2];exact h.2.2.1,h.2.2.2.keep λy hy=>hk y (by simp[hy])⟩
theorem Rp.ok:∀{l:List Int},Rp m l->∀y∈l,kJ m y/\aBH (cJ m y)
 |a::r,h,y,hy=>by
  rcases j6.1 hy with rfl|hy
  ·exact⟨h.1,h.2.1⟩
  ·exact h.2.2.2.ok y hy
theorem aFD(h:∀y∈l,(cJ m' y).Key=(cJ m y).Key):mS m' l=mS m l:=List.map_congr_left h
theorem kJ.ne(h:kJ m x):x≠0:=by have:=h.1.1.1;omega
theorem aMC(b:aA)(s:Int):ind b s<=1:=by grind[ind]
theorem Rp.cut{y:Int}(hy:cJ m' y={cJ m y with Next:=(cJ m (cJ m y).Next).Next})(h0:(cJ m y).Next≠0):∀{l:List Int},Rp m l->(∀x∈l,kJ m' x/\(x≠y->cJ m' x=cJ m x))->Rp m' l
 |[],_,_=>trivial
 |a::r,h,hk=>by
  have ih:=h.2.2.2.cut hy h0 λx hx=>hk x (by simp[hx]);obtain⟨a1,a2⟩:=hk a ae;by_cases e:a=y
  ·subst e;have hm:=h.2.2.1.resolve_left h0;obtain⟨A,q,e1,e2⟩:=h.2.2.2.from hm;rw[Rp,hy];refine⟨a1,⟨h.2.1.1,h.2.1.2.1,e2.2.1.2.2⟩,e2.2.2.1.imp id λz=>?_,ih⟩;grind
  grind[Rp]
structure Oth (b b':aA) (k k':List bR) (c c':Int->List Int) (J:Int->aI) (w:Int) (j':aI) (y z:Int):Prop where
 nod:∀x,kJ b.Mem x->x % 32≠z->kJ b'.Mem x/\(x≠y->cJ b'.Mem x=cJ b.Mem x)
 zo:z = -1\/ind b z=0\/∃x∈own (J w),x % 32=z
 yo:y=0\/y∈kR (J w)\/(∃i,nY i/\(dL k i).dU=w+1/\y∈c i)/\cJ b'.Mem y={cJ b.Mem y with Next:=(cJ b.Mem (cJ b.Mem y).Next).Next}/\(cJ b.Mem y).Next≠0
 hk:∀i,nY i->(dL k i).dU≠w+1->(dL k' i).Head=(dL k i).Head/\c' i=c i
 zs:z = -1\/∀v,eO v->v≠w->(J v).Pc=3\/(J v).Pc=4->jI b.aC v->∀x,kJ b.Mem x->Sfe b J (cS b.aC v).aK x->x % 32≠z
 lr:∀r∈dV b'.aQ,r∈dV b.aQ\/(J w).Pc=15/\(J w).K<(J w).cA.length/\(J w).Sub.A=r.Handle/\(J w).Sub.Pc=1/\(J w).Sub.E=r.aK
 no:∀x∈kR j',x∈kR (J w)\/eN b.Mem (x % 32)≠3
 sr:j'.Pc=15->j'.K<j'.cA.length->j'.Sub.Pc=1->j'.Sub.E=b.aC.aK\/(J w).Pc=15/\(J w).K<(J w).cA.length/\(J w).Sub.A=j'.Sub.A/\(J w).Sub.Pc=1/\(J w).Sub.E=j'.Sub.E
 pin:∀v,eO v->v≠w->jI b'.aC v->jI b.aC v/\(cS b'.aC v).aK=(cS b.aC v).aK
 ep:b.aC.aK<=b'.aC.aK
 rows:∀v,eO v->v≠w->dF b'.aQ v=dF b.aQ v
section
variable {Ky:List Int} {b b':aA} {k k':List bR} {c c':Int->List Int} {J:Int->aI} {q:Int->Nat} {w:Int} {j':aI} {y z:Int}
theorem Oth.sfe(o:Oth b b' k k' c c' J w j' y z)(hw:eO w)(he:e<=b.aC.aK)(hx:kJ b.Mem x)(h:Sfe b J e x):Sfe b' (zS J w j') e x:=by
 refine⟨λr hr er=>?_,λv hv=>?_⟩
 ·rcases o.lr r hr with q|⟨q1,q2,q3,q4,q5⟩
  ·exact h.1 r q er
  ·have:=(h.2 w hw).2 q1 q2 (by rw[q3,er]) q4;omega
 ·by_cases q:v=w
  ·subst q;rw[gZ];refine⟨λm=>(o.no x m).elim (h.2 v hv).1 λs=>s hx.1.2.1,λa1 a2 a3 a4=>?_⟩;rcases o.sr a1 a2 a4 with s|⟨s1,s2,s3,s4,s5⟩
   ·omega
   ·have:=(h.2 v hv).2 s1 s2 (by rw[s3,a3]) s4;omega
  ·rw[qS _ _ q];exact h.2 v hv
variable (h:sK Ky b k c q J) (hl:∀v,eO v->YG k v (J v)) (hw:eO w)
include h hw
theorem sK.name{v:Int}(hv:eO v)(hx:x∈own (J v)):1<=ZL (own (J v)) (x % 32)/\cnC c (x % 32)+cnO J (x % 32)=ind b (x % 32)/\ZL (own (J v)) (x % 32)<=cnO J (x % 32)/\ind b (x % 32)<=1:=
 ⟨QL hx,h.cnt _,aYD J hv _,aMC ..⟩
theorem sK.link(hi:nY i)(hx:x∈c i):1<=ZL (c i) (x % 32)/\cnC c (x % 32)+cnO J (x % 32)=ind b (x % 32)/\ZL (c i) (x % 32)<=cnC c (x % 32)/\ind b (x % 32)<=1:=
 ⟨QL hx,h.cnt _,a9I c hi _,aMC ..⟩
theorem NW(hx:x∈kR j):x∈own j:=V7 _ hx
theorem Oth.own(o:Oth b b' k k' c c' J w j' y z){v:Int}(hv:eO v)(hn:v≠w)(hx:x∈own (J v)):kJ b'.Mem x/\cJ b'.Mem x=cJ b.Mem x:=by
 have a:=h.name hw hv hx;have two:=bD7 J hv hw hn (x % 32);have hz:x % 32≠z:=λe=>by
  rcases o.zo with q|q|⟨u,hu,eu⟩
  ·omega
  ·grind
  ·have:=h.name hw hw hu;grind
 have hy:x≠y:=λe=>by
  subst e;rcases o.yo with q|q|⟨⟨i,hi,_,hc⟩,_⟩
  ·exact(h.ok v hv x hx).ne q
  ·have:=h.name hw hw (NW h hw q);omega
  ·have:=h.link hw hi hc;omega
 obtain⟨r1,r2⟩:=o.nod x (h.ok v hv x hx) hz;grind
theorem Oth.chz(o:Oth b b' k k' c c' J w j' y z)(hi:nY i):∀x∈c i,kJ b'.Mem x/\(x≠y->cJ b'.Mem x=cJ b.Mem x):=λx hx=>by
 have a:=h.link hw hi hx;refine o.nod x ((h.ch i hi).all x hx).1 λe=>?_;rcases o.zo with q|q|⟨u,hu,eu⟩
 ·omega
 ·grind
 ·have:=h.name hw hw hu;grind
theorem Oth.chn(o:Oth b b' k k' c c' J w j' y z)(hi:nY i)(hy:y∉c i):(∀x∈c i,kJ b'.Mem x/\cJ b'.Mem x=cJ b.Mem x)/\((dL k' i).Head=(dL k i).Head->c' i=c i->ChT b'.Mem (dL k' i).Head (c' i)/\mS b'.Mem (c' i)=mS b.Mem (c i)):=by
 have all:∀x∈c i,kJ b'.Mem x/\cJ b'.Mem x=cJ b.Mem x:=λx hx=>by obtain⟨a1,a2⟩:=o.chz h hw hi x hx;grind
 refine⟨all,λe1 e2=>?_⟩;rw[e1,e2];exact⟨(h.ch i hi).keep all,aFD λx hx=>ak⟩
theorem Oth.yno(o:Oth b b' k k' c c' J w j' y z)(hi:nY i)(hn:(dL k i).dU≠w+1):y∉c i:=λhy=>by
 have a:=h.link hw hi hy;rcases o.yo with q|q|⟨⟨u,hu,hlk,hc⟩,_⟩
 ·exact((h.ch i hi).all y hy).1.ne q
 ·have:=h.name hw hw (NW h hw q);omega
 grind[a08,QL]
theorem aMD{q1:Nat}(t:TW Ky m k c q1 j)(hj:JB j)(hp:j.Pc=12\/j.Pc=13):GV j∈kR j/\∃r,kR j=GV j::r/\j.gL.drop ((fU j.aH j.K).toNat+1)=r:=by
 have hk:=t.k9 aa;have hd:=(t.fl hp).1;have hn:=(t.n7 aa).1;have hk0:=hj.k.1;have hi:j.K.toNat<j.aH.length:=aa
 have er:mR j=j.aH[j.K.toNat]:=by grind[mR]
 have hlt:fU j.aH j.K+1<=fU j.aH j.aH.length:=by unfold fU;rw[MM,List.take_length];grind[ZU,vY]
 have p0:0<=fU j.aH j.K:=by grind[fU]
 have hlen:(fU j.aH j.K).toNat<j.gL.length:=aa
 have e1:kR j=j.gL.drop (fU j.aH j.K).toNat:=by unfold kR;grind
 grind[GV,vY]
include hl
theorem sK.aPO{q':Int->Nat}(hq:∀v,v≠w->q' v=q v)(hc:KP b.aC)(hJ:∀v,eO v->(J v).bO=true->JB (J v))(o:Oth b b' k k' c c' J w j' y z)(hz:b'.qU=b.qU)(ch':∀i,nY i->ChT b'.Mem (dL k' i).Head (c' i))(key':∀i,nY i->(mS b'.Mem (c' i)).Nodup/\∀x∈mS b'.Mem (c' i),jD x=i/\x∈Ky)
  (cnt':∀s,cnC c' s+cnO (zS J w j') s=ind b' s) (ok':∀x∈own j',kJ b'.Mem x) (tw':j'.bO=true->TW Ky b'.Mem k' c' (q' w) j') (rd':RdJ Ky b' (zS J w j') w (q' w) j') (sb':SbJ b' w j'):sK Ky b' k' c' q' (zS J w j'):=by
 refine⟨hz.trans h.hz,ch',key',cnt',λv hv x hx=>?_,λv hv hb=>?_,λv hv=>?_,λv hv=>?_⟩
 ·by_cases qv:v=w
  ·grind[gZ]
  ·rw[qS _ _ qv] at hx;exact(o.own h hw hv qv hx).1
 ·by_cases qv:v=w
  ·grind[gZ]
  ·rw[qS _ _ qv] at hb ⊢;rw[hq v qv];have t:=h.tw v hv hb;have hj:=hJ v hv hb;have held:∀i,i∈(J v).bD->nY i/\(dL k' i).Head=(dL k i).Head/\c' i=c i/\∀x∈c i,cJ b'.Mem x=cJ b.Mem x:=λi hi=>by
    have hb2:=hj.held.1 i hi;have hlk:=((hl v hv).iff i hb2).1 hi;have hn:(dL k i).dU≠w+1:=aa
    obtain⟨a1,a2⟩:=o.hk i hb2 hn;exact⟨hb2,a1,a2,λx hx=>((o.chn h hw hb2 (o.yno h hw hb2 hn)).1 x hx).2⟩
   have hbi:10<=(J v).Pc/\(J v).Pc<=13->bi (J v)∈(J v).bD:=λhp=>by
    have hk:=t.k9 hp;have hk0:=hj.k.1;have hi:(J v).K.toNat<(J v).aH.length:=aa
    have er:mR (J v)=(J v).aH[(J v).K.toNat]:=by grind[mR]
    exact t.l8 aa _ ak
   refine{t with st:=λhp=>?_,cu:=λhp=>?_,fl:=λhp=>?_,ln:=λhp=>?_}
   ·obtain⟨_,_,e2,e3⟩:=held _ (hbi aa);obtain⟨A,B,x1,⟨x2,x3⟩,x4⟩:=t.st hp;grind
   ·obtain⟨_,_,e2,e3⟩:=held _ (hbi aa);obtain⟨A,B,x1,_⟩:=t.st (.inr hp);rw[e3 (J v).H ak];exact t.cu hp
   ·obtain⟨_,_,e2,e3⟩:=held _ (hbi aa);obtain⟨x1,x2⟩:=t.fl hp;grind
   ·obtain⟨_,e1,e2,e3⟩:=held _ (hbi aa);rw[(o.own h hw hv qv (NW h hw (aMD h hw t hj (.inr hp)).1)).2,e1];exact t.ln hp
 ·by_cases qv:v=w
  ·grind[gZ]
  ·rw[qS _ _ qv,hq v qv];intro hp hpin;obtain⟨p1,p2⟩:=o.pin v hv qv hpin;obtain⟨r,⟨⟨a1,a2,a3,a4⟩,a6⟩,a5⟩:=h.rd v hv hp p1;have he:(cS b.aC v).aK<=b.aC.aK:=(aLP hc hv).1.2;have hx:∀x∈(J v).H::r,kJ b'.Mem x/\(x≠y->cJ b'.Mem x=cJ b.Mem x):=λx hx=>by
    refine o.nod x (a1.ok x hx).1 λez=>?_;rcases o.zs with z1|z1
    ·omega
    ·exact z1 v hv qv hp p1 x (a1.ok x hx).1 (a4 x hx) ez
   have hsf:∀x∈(J v).H::r,Sfe b' (zS J w j') (cS b'.aC v).aK x:=λx hx=>by rw[p2];exact o.sfe hw he (a1.ok x hx).1 (a4 x hx)
   have hkv:∀x∈(J v).H::r,(cJ b'.Mem x).Key=(cJ b.Mem x).Key/\(cJ b'.Mem x).dI=(cJ b.Mem x).dI:=λx hm=>by
    by_cases e:x=y
    ·rcases o.yo with q0|q0|⟨_,q1,_⟩
     ·exact absurd (e.trans q0) (a1.ok x hm).1.ne
     ·exact absurd (e ▸ q0) ((a4 x hm).2 w hw).1
     grind
    grind
   have hkk:mS b'.Mem ((J v).H::r)=mS b.Mem ((J v).H::r):=aFD λx hm=>(hkv x hm).1;have hrp:Rp b'.Mem ((J v).H::r):=by
    by_cases hy:y∈(J v).H::r
    ·rcases o.yo with q0|q0|⟨_,q1,q2⟩
     ·exact absurd q0 (a1.ok y hy).1.ne
     ·exact absurd q0 ((a4 y hy).2 w hw).1
     ·exact a1.cut q1 q2 hx
    ·exact a1.keep λx hm=>⟨(hx x hm).1,(hx x hm).2 λe=>hy (e ▸ hm)⟩
   refine⟨r,⟨⟨hrp,ak,ak,hsf⟩,a6⟩,λe=>?_⟩;grind
 ·by_cases qv:v=w
  ·grind[gZ]
  ·rw[qS _ _ qv];have s:=h.sb v hv;have he:=o.ep;exact⟨s.al,λp1 p2=>by obtain⟨x0,x1,x2,x3,x4⟩:=s.rt p1 p2;grind,λp=>by rw[o.rows v hv qv];obtain⟨x1,x2,x3⟩:=s.col p;exact⟨x1,x2,x3.imp id λa=>⟨aI8 a.1 he,a.2⟩⟩⟩
theorem sK.make(hc:KP b.aC)(hJ:∀v,eO v->(J v).bO=true->JB (J v))(o:Oth b b' k k' c c' J w j' y z)(hz:b'.qU=b.qU)(ch':∀i,nY i->ChT b'.Mem (dL k' i).Head (c' i))(key':∀i,nY i->(mS b'.Mem (c' i)).Nodup/\∀x∈mS b'.Mem (c' i),jD x=i/\x∈Ky)
  (cnt':∀s,cnC c' s+cnO (zS J w j') s=ind b' s) (ok':∀x∈own j',kJ b'.Mem x) (tw':j'.bO=true->TW Ky b'.Mem k' c' (q w) j') (rd':RdJ Ky b' (zS J w j') w (q w) j') (sb':SbJ b' w j'):sK Ky b' k' c' q (zS J w j'):=
 h.aPO hl hw (λ_ _=>rfl) hc hJ o hz ch' key' cnt' ok' tw' rd' sb'
end
theorem aYE{b:aA}(hc:KP b.aC)(hw:0<=w/\w<=2)(s:Sub):∃cl:aC,(qO b w s).1=⟨b.Mem,cl,b.aQ,b.qU⟩/\cl.aK=b.aC.aK/\∀v,0<=v/\v<=2->v≠w->cS cl v=cS b.aC v:=by
 unfold qO NT;split
 ·grind
 split
 ·split
  ·refine⟨⟨b.aC.aK,b.aC.cE.set w.toNat ⟨true,s.E,false,0⟩⟩,rfl,rfl,λv hv hn=>by rw[zQ hc hw hv,aP hn]⟩
  ·exact⟨_,rfl,rfl,λ_ _ _=>rfl⟩
 split
 ·split
  ·exact⟨_,rfl,rfl,λ_ _ _=>rfl⟩
  ·exact⟨_,rfl,rfl,λ_ _ _=>rfl⟩
 grind
theorem aU8{c:aC}(hc:KP c)(hw:0<=w/\w<=2):(H6 c w).1.aK=c.aK/\∀v,0<=v/\v<=2->v≠w->cS (H6 c w).1 v=cS c v:=by
 unfold H6;split
 ·exact⟨rfl,λv hv hn=>by rw[zQ hc hw hv,aP hn]⟩
 ·exact⟨rfl,λ_ _ _=>rfl⟩
theorem aPP{c c':aC}{v:Int}(h:cS c' v=cS c v)(p:jI c' v):jI c v/\(cS c' v).aK=(cS c v).aK:=by grind[jI]
theorem aYF{b:aA}(hc:KP b.aC)(s:Sub):∃cl:aC,(fF b s).1=⟨b.Mem,cl,b.aQ,b.qU⟩/\b.aC.aK<=cl.aK/\∀v,0<=v/\v<=2->jI cl v->jI b.aC v/\(cS cl v).aK=(cS b.aC v).aK:=by
 unfold fF;split
 ·grind
 split
 ·split
  ·grind[aLU,jI]
  grind
 split
 ·refine⟨_,rfl,?_,?_⟩
  ·unfold aFZ;grind
  ·intro v hv p;unfold aFZ at p ⊢;split
   ·rename_i q;rw[aO q] at p;exact⟨p,rfl⟩
   grind
 grind
section
variable {Ky:List Int} {b:aA} {k:List bR} {c:Int->List Int} {q:Int->Nat} {J:Int->aI} {w:Int} (h:sK Ky b k c q J) (hl:∀v,eO v->YG k v (J v)) (hw:eO w) (hc:KP b.aC) (hJ:∀v,eO v->(J v).bO=true->JB (J v))
include h hl hw hc hJ
theorem sK.a9J{q':Int->Nat}(hq:∀v,v≠w->q' v=q v){cl:aC}(hk:∀i,nY i->(dL k' i).Head=(dL k i).Head)(eo:own j'=own (J w))(en:∀x∈kR j',x∈kR (J w))
  (sr:j'.Pc=15->j'.K<j'.cA.length->j'.Sub.Pc=1->j'.Sub.E=b.aC.aK\/(J w).Pc=15/\(J w).K<(J w).cA.length/\(J w).Sub.A=j'.Sub.A/\(J w).Sub.Pc=1/\(J w).Sub.E=j'.Sub.E)
  (pin:∀v,eO v->v≠w->jI cl v->jI b.aC v/\(cS cl v).aK=(cS b.aC v).aK) (ep:b.aC.aK<=cl.aK)
  (tw':j'.bO=true->TW Ky b.Mem k' c (q' w) j') (rd':RdJ Ky {b with aC:=cl} (zS J w j') w (q' w) j') (sb':SbJ {b with aC:=cl} w j'):sK Ky {b with aC:=cl} k' c q' (zS J w j'):=by
 refine h.aPO hl hw hq hc hJ (y:=0) (z:=-1) ⟨λx hx _=>⟨hx,λ_=>rfl⟩,.inl rfl,.inl rfl,λi hi _=>⟨hk i hi,rfl⟩,.inl rfl,λr hr=>.inl hr,λx hx=>.inl (en x hx),sr,pin,ep,λ_ _ _=>rfl⟩ rfl (λi hi=>by rw[hk i hi];exact h.ch i hi) h.key (λs=>?_) (λx hx=>h.ok w hw x (eo ▸ hx)) tw' rd' sb';have:=YH (J:=J) hw j' s;rw[eo] at this;have h2:=h.cnt s;grind[ind]
theorem sK.quiet{cl:aC}(hk:∀i,nY i->(dL k' i).Head=(dL k i).Head)(eo:own j'=own (J w))(en:∀x∈kR j',x∈kR (J w))
  (sr:j'.Pc=15->j'.K<j'.cA.length->j'.Sub.Pc=1->j'.Sub.E=b.aC.aK\/(J w).Pc=15/\(J w).K<(J w).cA.length/\(J w).Sub.A=j'.Sub.A/\(J w).Sub.Pc=1/\(J w).Sub.E=j'.Sub.E)
  (pin:∀v,eO v->v≠w->jI cl v->jI b.aC v/\(cS cl v).aK=(cS b.aC v).aK) (ep:b.aC.aK<=cl.aK)
  (tw':j'.bO=true->TW Ky b.Mem k' c (q w) j') (rd':RdJ Ky {b with aC:=cl} (zS J w j') w (q w) j') (sb':SbJ {b with aC:=cl} w j'):sK Ky {b with aC:=cl} k' c q (zS J w j'):=
 h.a9J hl hw hc hJ (λ_ _=>rfl) hk eo en sr pin ep tw' rd' sb'
theorem sK.aR3{q':Int->Nat}(hq:∀v,v≠w->q' v=q v)(hk:∀i,nY i->(dL k' i).Head=(dL k i).Head)(eo:own j'=own (J w))(en:∀x∈kR j',x∈kR (J w))(h15:j'.Pc≠15\/j'.Sub.Pc≠1)(tw':j'.bO=true->TW Ky b.Mem k' c (q' w) j')(rd':RdJ Ky b J w (q' w) j')(sb':SbJ b w j'):sK Ky b k' c q' (zS J w j'):=
 h.a9J hl hw hc hJ hq (cl:=b.aC) hk eo en (λp _ q=>h15.elim (λa=>absurd p a) λa=>absurd q a) (λ_ _ _ p=>⟨p,rfl⟩) (I3 _) tw' (λp q=>by
  obtain⟨r,⟨a,la⟩,e⟩:=rd' p q;exact⟨r,⟨⟨a.rp,a.nd,a.ky,λx hx=>⟨(a.sf x hx).1,λv hv=>by
   by_cases z:v=w
   ·subst z;rw[gZ];exact⟨λm=>((a.sf x hx).2 v hv).1 (en x m),λp1 _ _ p2=>(h15.elim (λa=>absurd p1 a) λa=>absurd p2 a)⟩
   ·rw[qS _ _ z];exact(a.sf x hx).2 v hv⟩⟩,la⟩,e⟩) sb'
theorem sK.still(hk:∀i,nY i->(dL k' i).Head=(dL k i).Head)(eo:own j'=own (J w))(en:∀x∈kR j',x∈kR (J w))(h15:j'.Pc≠15\/j'.Sub.Pc≠1)(tw':j'.bO=true->TW Ky b.Mem k' c (q w) j')(rd':RdJ Ky b J w (q w) j')(sb':SbJ b w j'):sK Ky b k' c q (zS J w j'):=
 h.aR3 hl hw hc hJ (λ_ _=>rfl) hk eo en h15 tw' rd' sb'
end
theorem RdJ.no{b:aA}{J:Int->aI}{v:Int}{q:Nat}(h:j.Pc≠3/\j.Pc≠4):RdJ Ky b J v q j:=λp=>absurd p aa
theorem SbJ.no{b:aA}{v:Int}(h:j.Pc≠6/\j.Pc≠15/\j.Pc≠21):SbJ b v j:=⟨λp=>absurd p h.1,λp=>absurd p h.2.1,λp=>absurd p h.2.2⟩
theorem GW(h:j.Pc<6\/18<=j.Pc):own j=[]/\kR j=[]:=by unfold own kR aFC;grind
theorem uG(h:(6<=j.Pc/\j.Pc<=8)\/j.Pc=16\/j.Pc=17):own j=j.gL/\kR j=j.gL:=by unfold own kR aFC;grind
theorem YI(l:List aU)(x:aU):(vG l x).length<=l.length+1:=by
 have e:(vG l x).length=(l.filter λy=>!(y.Key == x.Key)).length+1:=by unfold vG;have:=b8 List.length (aSS (p:=λy=>!decide (x.Key<y.Key)) (l:=l.filter λy=>!(y.Key == x.Key)));grind
 grind
theorem aU9{l:List aU}{x y:aU}(h:y∈vG l x):y=x\/y∈l:=((aLX _ _ _).1 (show y∈aRU _ x from h)).imp id λh=>(V8.1 h).1
theorem a1A(hj:JB j)(hc:sM j):cH j∈j.Batch.bK:=by have:=hj.at_;grind[sM,cH]
theorem aYG{c:Int->List Int}{q1:Nat}(t:TW Ky m k c q1 j)(hj:JB j)(hp:1<=j.Pc/\j.Pc<=5)(ha:sM j)(v:Int)(is:Bool):TW Ky m k c q1 (lL j (cH j) v is)/\(lL j (cH j) v is).Pc=1:=by
 have hm:=a1A hj ha;have h6:=hj.V5.2.1;have hat:=hj.at_;unfold sM at ha;obtain⟨t1,t2,t3,t4,t5,t6,t7,t8,t9,t10,t11,t12,t13,t14,t15,t16,t17,t18,t19⟩:=t;have w5:=t5;unfold lL;split
 ·generalize (if is then v else 0)=u;unfold SI kH;have hlen:=YI j.aH ⟨(cH j).Key,false,BQ u (cH j).dI⟩;have hmem:∀y∈vG j.aH ⟨(cH j).Key,false,BQ u (cH j).dI⟩,y.Key∈Ky:=λy hy=>by grind[aU9]
  rw[aP (show ¬6<(vG j.aH ⟨(cH j).Key,false,BQ u (cH j).dI⟩).length by omega),aO rfl];unfold SH;refine⟨?_,rfl⟩;constructor<;>grind
 ·unfold SH;refine⟨?_,rfl⟩;constructor<;>grind
section
variable {Ky:List Int} {b:aA} {k:List bR} {c:Int->List Int} {q:Int->Nat} {J:Int->aI} {w:Int} (h:sK Ky b k c q J) (hl:∀v,eO v->YG k v (J v)) (hw:eO w) (hc:KP b.aC) (hJ:∀v,eO v->(J v).bO=true->JB (J v)) (hB:(J w).bO=true)
include h hl hw hc hJ hB
theorem bI0(hp:(J w).Pc=8):sK Ky b k c q (zS J w (GU k w (J w))):=by
 obtain⟨t1,t2,t3,t4,t5,t6,t7,t8,t9,t10,t11,t12,t13,t14,t15,t16,t17,t18,t19⟩:=h.tw w hw hB;have o:=uG (j:=J w) aa;have p0:fU (J w).aH 0=0:=by simp[fU]
 unfold GU;split
 ·refine h.still hl hw hc hJ (λ_ _=>rfl) ?_ ?_ (.inl ae) (λ_=>?_) (.no ae) (.no ae)
  ·simp_all[own,kR,aFC]
  ·grind[kR]
  ·constructor<;>grind
 ·split
  ·refine h.still hl hw hc hJ (λ_ _=>rfl) ?_ ?_ (.inl (by simp[nZ])) (λ_=>?_) (.no (by simp[nZ])) (.no (by simp[nZ]))
   ·simp_all[own,kR,aFC,nZ]
   ·grind[kR,nZ]
   ·constructor<;>grind[nZ]
  ·refine h.still hl hw hc hJ (λ_ _=>rfl) ?_ ?_ (.inl (by simp[hp])) (λ_=>?_) (.no (by simp[hp])) (.no (by simp[hp]))
   ·simp_all[own,kR,aFC]
   ·grind[kR]
   ·constructor<;>grind
theorem bD9(hp:(J w).Pc=1):sK Ky b k c q (zS J w (oA (J w))):=by
 have t:=h.tw w hw hB;have hj:=hJ w hw hB;have o:=GW (j:=J w) aa;have fin:∀{j':aI},TW Ky b.Mem k c (q w) j'->j'.Pc=1\/j'.Pc=2->sK Ky b k c q (zS J w j'):=λ{j'} t' p'=>by have o':=GW (j:=j') aa;exact h.still hl hw hc hJ (λ_ _=>rfl) ak ak (.inl aa) (λ_=>t') (.no aa) (.no aa)
 unfold oA;split
 ·rename_i ha;split
  ·have hm:=a1A hj ha;have h6:=hj.V5.2.1;have hat:=hj.at_;unfold sM at ha;obtain⟨t1,t2,t3,t4,t5,t6,t7,t8,t9,t10,t11,t12,t13,t14,t15,t16,t17,t18,t19⟩:=t;have w5:=t5;unfold kH;have hlen:=YI (J w).aH ⟨(cH (J w)).Key,(cH (J w)).Kind == 3,(cH (J w)).dI⟩;have hmem:∀y∈vG (J w).aH ⟨(cH (J w)).Key,(cH (J w)).Kind == 3,(cH (J w)).dI⟩,y.Key∈Ky:=λy hy=>by grind[aU9]
   rw[aP (show ¬6<(vG (J w).aH ⟨(cH (J w)).Key,(cH (J w)).Kind == 3,(cH (J w)).dI⟩).length by omega),aO rfl];refine fin ?_ (.inl hp);constructor<;>grind
  ·split
   ·grind[aYG]
   ·refine fin ?_ (.inr rfl);obtain⟨t1,t2,t3,t4,t5,t6,t7,t8,t9,t10,t11,t12,t13,t14,t15,t16,t17,t18,t19⟩:=t;constructor<;>grind[sM]
 ·rename_i ha;have hat:=hj.at_;have e:own {J w with Pc:=6,K:=0,Sub:=yK 1 16}=[]:=by rw[(uG ae).1];exact t.nO aa
  refine h.still hl hw hc hJ (λ_ _=>rfl) (by rw[o.1,e]) (by grind[uG]) (.inl ae) (λ_=>?_) (.no ae) ⟨λ_=>by simp[yK],ae,ae⟩;obtain⟨t1,t2,t3,t4,t5,t6,t7,t8,t9,t10,t11,t12,t13,t14,t15,t16,t17,t18,t19⟩:=t;have p0:0<=fU (J w).aH (J w).aH.length:=by grind[fU]
  unfold sM at ha;constructor<;>grind
end
theorem aR4(h:kJ m x):V3 m.Heap x=cJ m x:=aO ⟨h.1.1,dO h.1.2.1,h.2⟩
def qF(L q:Nat)(j:aI):Nat:=if j.Pc=2\/j.Pc=9 then L-1 else if j.Pc=4\/j.Pc=10 then q-1 else q
theorem bEA{l:List aU}{x:aU}(h:x∈l)(hk:0<=x.Key/\x.Key<=99):jD x.Key∈m0 l:=by
 have:jD x.Key=0/\(l.any λx=>x.Key % 2 == 0)=true\/jD x.Key=1/\(l.any λx=>x.Key % 2 == 1)=true:=by unfold jD;grind
 grind[m0]
section
variable {Ky:List Int} {b:aA} {k:List bR} {c:Int->List Int} {q:Int->Nat} {J:Int->aI} {w:Int} (h:sK Ky b k c q J)
include h
theorem sK.free(hi:nY i)(hx:x∈c i)(e:Int):Sfe b J e x:=by
 have hn:=((h.ch i hi).all x hx).1.1.1;have a:=QL hx;have a2:=h.cnt (x % 32);have a3:=a9I c hi (x % 32);refine⟨λr hr er=>?_,λv hv=>⟨λm=>?_,λp1 p2 p3 p4=>?_⟩⟩
 ·have:ind b (x % 32)=0:=aP λq=>q.2 ⟨r,hr,er ▸ hn,by rw[er]⟩;omega
 ·have:=QL (NW h hv m);grind[aYD,aMC]
 ·obtain⟨hk,_,_,hs,_⟩:=(h.sb v hv).rt p1 p2;have hm:x∈own (J v):=aBP _ (by
   simp_all[aFC,vY])
  have:=QL hm;grind[aYD,aMC]
variable (hl:∀v,eO v->YG k v (J v)) (hw:eO w) (hc:KP b.aC) (hJ:∀v,eO v->(J v).bO=true->JB (J v)) (hB:(J w).bO=true)
include hl hw hc hJ hB
theorem a9K(hp:2<=(J w).Pc/\(J w).Pc<=5)(e:j'=nZ j' j'.Code)(x:j'.Code=6\/j'.Code=7)(sm:j'.gL=(J w).gL/\j'.cA=(J w).cA/\j'.aH=(J w).aH/\j'.Batch=(J w).Batch/\j'.At=(J w).At):sK Ky b k c (upQ q w n) (zS J w j'):=by
 have t:=h.tw w hw hB;have hp':j'.Pc=16:=by rw[e];rfl
 have o:=GW (j:=J w) aa;obtain⟨t1,t2,t3,t4,t5,t6,t7,t8,t9,t10,t11,t12,t13,t14,t15,t16,t17,t18,t19⟩:=t;have o':=uG (j:=j') aa;refine h.aR3 hl hw hc hJ (q':=upQ q w n) (λv hv=>aP hv) (λ_ _=>rfl) ak ak (.inl aa) (λ_=>?_) (.no aa) (.no aa);obtain⟨s1,s2,s3,s4,s5⟩:=sm;constructor<;>grind
theorem bEB(hp:2<=(J w).Pc/\(J w).Pc<=5):sK Ky b k c (upQ q w (qF Ky.length (q w) (J w))) (zS J w (iB b k w (J w))):=by
 have t:=h.tw w hw hB;have hj:=hJ w hw hB;have o:=GW (j:=J w) aa;have ha:=t.hc hp;generalize hn:qF Ky.length (q w) (J w)=n;have ab:∀(j':aI),j'.gL=(J w).gL/\j'.cA=(J w).cA/\j'.aH=(J w).aH/\j'.Batch=(J w).Batch/\j'.At=(J w).At->∀x,x=6\/x=7->sK Ky b k c (upQ q w n) (zS J w (nZ j' x)):=λj' s x hx=>a9K h hl hw hc hJ hB (j':=nZ j' x) hp rfl hx s;have go:∀{j':aI},TW Ky b.Mem k c n j'->j'.Pc<=5->RdJ Ky b J w n j'->sK Ky b k c (upQ q w n) (zS J w j'):=λ{j'} t' p' r'=>by have o':=GW (j:=j') aa;exact h.aR3 hl hw hc hJ (q':=upQ q w n) (λv hv=>aP hv) (λ_ _=>rfl) ak ak (.inl aa) (λ_=>by simp_all[upQ]) (by simp_all[upQ]) (.no aa)
 have tw:∀{j':aI},2<=j'.Pc/\j'.Pc<=5->j'.gL=(J w).gL/\j'.cA=(J w).cA/\j'.aH=(J w).aH/\j'.Batch=(J w).Batch/\j'.At=(J w).At/\j'.Code=(J w).Code->TW Ky b.Mem k c n j':=λ{j'} p' ⟨s1,s2,s3,s4,s5,s6⟩=>by obtain⟨t1,t2,t3,t4,t5,t6,t7,t8,t9,t10,t11,t12,t13,t14,t15,t16,t17,t18,t19⟩:=t;unfold sM at ha;constructor<;>grind[sM]
 have hbk:=hj.bkt;unfold iB;by_cases p2:(J w).Pc=2
 ·rw[aO p2];split
  ·grind
  ·have hch:=h.ch _ hbk;by_cases q:(dL k (J w).bR).Head=0
   ·rw[aO q];exact go (tw ae ⟨rfl,rfl,rfl,rfl,rfl,rfl⟩) ae (.no ae)
   ·rw[aP q];refine go (tw ae ⟨rfl,rfl,rfl,rfl,rfl,rfl⟩) ae λ_ hpin=>?_;obtain⟨k1,k2⟩:=h.key _ hbk;have fr:=λx (hx:x∈c (J w).bR)=>h.free hbk hx (cS b.aC w).aK
    match hl2:c (J w).bR,hch with
    |[],hch=>exact absurd hch q
    |x::r,hch=>
     rw[hl2] at k1 k2 fr;have e:(dL k (J w).bR).Head=x:=hch.1;simp only[e];refine⟨r,⟨⟨hch.rp,k1,λy hy=>(k2 y hy).2,fr⟩,?_⟩,λz=>absurd z ae⟩;have:=yN k1 λy hy=>(k2 y hy).2;unfold mS at this;rw[aFL,G5] at this;rw[<-hn];unfold qF;grind
 rw[aP p2];by_cases p3:(J w).Pc=3
 ·rw[aO p3];refine go (tw ae ⟨rfl,rfl,rfl,rfl,rfl,rfl⟩) ae λ_ hpin=>?_;obtain⟨r,⟨a,la⟩,_⟩:=h.rd w hw (.inl p3) hpin;refine⟨r,⟨a,by simp_all[qF]⟩,λ_=>?_⟩;simp only;rw[aR4 a.rp.1];exact⟨⟨rfl,rfl⟩,a.rp.2.2.1⟩
 rw[aP p3];by_cases p4:(J w).Pc=4
 ·rw[aO p4];split
  ·grind
  ·rename_i hpn;have hpin:jI b.aC w:=Classical.byContradiction hpn;obtain⟨r,⟨a,la⟩,a5⟩:=h.rd w hw (.inr p4) hpin;obtain⟨_,a6⟩:=a5 p4;by_cases q:(J w).Node.Key=(cH (J w)).Key\/MD (J w).Node=0
   ·rw[aO q];exact go (tw ae ⟨rfl,rfl,rfl,rfl,rfl,rfl⟩) ae (.no ae)
   ·rw[aP q];refine go (tw ae ⟨rfl,rfl,rfl,rfl,rfl,rfl⟩) ae λ_ _=>?_;have hs:MD (J w).Node=(J w).Node.Next:=by simp_all[MD]
    rw[hs] at q ⊢;have hm:=a6.resolve_left λz=>q (.inr z);obtain⟨A,r',e1,e2⟩:=a.rp.2.2.2.from hm;have hsub:((J w).Node.Next::r').Sublist ((J w).H::r):=ak
    refine⟨r',⟨⟨e2,a.nd.sublist (hsub.map _),λx hx=>a.ky x ((hsub.map _).subset hx),λx hx=>a.sf x (hsub.subset hx)⟩,?_⟩,λz=>absurd z ae⟩;rw[e1,D6,G5] at la;rw[<-hn];unfold qF;grind
 rw[aP p4];split
 ·grind
 split
 ·grind
 have tr:TW Ky b.Mem k c n {J w with Reads:=(nS (J w).Reads (J w).bR (J w).eB).1}:=tw hp ⟨rfl,rfl,rfl,rfl,rfl,rfl⟩;obtain⟨a1,a2⟩:=aYG tr (hj.spt _ _ hbk) ak ha (J w).Node.dI (J w).Found;exact go a1 (aI8 (Int.le_of_eq a2) aa) (.no ⟨λz=>absurd (a2.symm.trans z) aa,λz=>absurd (a2.symm.trans z) aa⟩)
theorem bEC(h2:k.length=2)(hp:(J w).Pc=7):sK Ky b (mQ k w (J w)).1 c q (zS J w (mQ k w (J w)).2.1):=by
 have t:=h.tw w hw hB;have hj:=hJ w hw hB;have o:=uG (j:=J w) aa;have hk:=hj.k;have hwk:=hj.wr.2.1;have all:∀x∈(J w).aH,jD x.Key∈m0 (J w).aH:=λx hx=>bEA hx (hwk x hx).1;obtain⟨t1,t2,t3,t4,t5,t6,t7,t8,t9,t10,t11,t12,t13,t14,t15,t16,t17,t18,t19⟩:=t;have fin:∀{k':List bR} {j':aI},(∀i,nY i->(dL k' i).Head=(dL k i).Head)->TW Ky b.Mem k' c (q w) j'->j'.gL=(J w).gL->j'.Pc=7\/j'.Pc=8\/j'.Pc=16->sK Ky b k' c q (zS J w j'):=λ{k' j'} e t' en p'=>by have o':=uG (j:=j') aa;exact h.still hl hw hc hJ e ak ak (.inl aa) (λ_=>t') (.no aa) (.no aa)
 unfold mQ;by_cases c1:(J w).K<(m0 (J w).aH).length
 ·rw[aO c1];have hi:(J w).K.toNat<(m0 (J w).aH).length:=aa
  have er:eV (J w)=(m0 (J w).aH)[(J w).K.toNat]:=by grind[eV]
  have hbk:0<=eV (J w)/\eV (J w)<=1:=by have:=NQ (cY hi);omega
  split
  ·exact fin (λ_ _=>rfl) (by unfold nZ;constructor<;>grind) rfl (.inr (.inr rfl))
  split
  ·exact fin (λ_ _=>rfl) (by unfold nZ;constructor<;>grind) rfl (.inr (.inr rfl))
  have hd:∀i,nY i->(dL (k.set (eV (J w)).toNat {dL k (eV (J w)) with dU:=w+1}) i).Head=(dL k i).Head:=λi hi=>by grind[qC]
  have hm:∀x∈(m0 (J w).aH).take ((J w).K+1).toNat,x∈(D4 (J w)).bD:=λx hx=>by rw[show((J w).K+1).toNat=(J w).K.toNat+1 by omega,I6 hi,dD,jJ,<-er] at hx;have a:=t8 hp;unfold D4;grind
  split
  ·rename_i c3;refine fin hd ?_ rfl (.inr (.inl rfl));rw[aFO aa] at hm;have hh:∀x∈(J w).aH,jD x.Key∈(D4 (J w)).bD:=λx hx=>hm _ (all x hx);unfold D4 at hh ⊢;constructor<;>grind
  ·refine fin hd ?_ rfl (.inl hp);unfold D4 at hm ⊢;constructor<;>grind
 ·rw[aP c1];refine fin (λ_ _=>rfl) ?_ rfl (.inr (.inl rfl));have a:=t8 hp;rw[aFO aa] at a;constructor<;>grind
theorem a3V(h2:k.length=2)(hp:(J w).Pc=14\/(J w).Pc=16):sK Ky b (wR k (J w)).1 c q (zS J w (wR k (J w)).2):=by
 have t:=h.tw w hw hB;have hj:=hJ w hw hB;have hk:=hj.k;have tw:∀{k':List bR} {p:Int} {j':aI},(p=(J w).Pc\/p=17/\(J w).Pc=16\/p=15/\(J w).Pc=14)->j'.Pc=p->j'.gL=(J w).gL/\j'.cA=(J w).cA/\j'.aH=(J w).aH/\j'.Batch=(J w).Batch/\j'.At=(J w).At/\j'.Code=(J w).Code->TW Ky b.Mem k' c (q w) j':=λ{k' p j'} hp' ep ⟨s1,s2,s3,s4,s5,s6⟩=>by
  have q:j'.Pc=14\/j'.Pc=15\/j'.Pc=16\/j'.Pc=17:=aa
  have cd':j'.Code=0/\j'.Pc≠16/\j'.Pc≠17\/(j'.Code=3\/j'.Code=6\/j'.Code=7)/\16<=j'.Pc/\j'.Pc<=19:=by have:=t.cd;omega
  refine⟨aa,λx=>aa,λx=>by rw[s2];exact t.oO aa,λx=>aa,by rw[s3,s5];exact t.wl,λx=>aa,λx=>aa,λx=>aa,λx=>aa,λx=>aa,λx=>aa,λx=>aa,λx=>aa,λx=>aa,cd',λx _=>by rw[s5,s4];exact t.at_ aa aa,λx=>?_,λx=>aa,by rw[s3,s4];exact t.ky⟩;have:=t.cl (by rw[<-s4];exact x);omega
 unfold wR;by_cases c1:0<(J w).bD.length
 ·rw[aO c1];have er:wN (J w)=(J w).bD[0]:=by unfold wN;simp[I4,iT c1]
  have hbk:=hj.held.1 _ (show wN (J w)∈(J w).bD by rw[er];exact cY c1);refine h.still hl hw hc hJ (λi hi=>?_) rfl (λ_ x=>x) (.inl ?_) (λ_=>tw (.inl rfl) rfl ⟨rfl,rfl,rfl,rfl,rfl,rfl⟩) (.no (by simp only;omega)) (.no (by simp only;omega))
  ·rw[qC h2 hbk hi];split
   ·rename_i e;subst e;split<;>rfl
   ·rfl
  ·simp only;omega
 ·rw[aP c1];split
  ·rename_i e;exact h.still hl hw hc hJ (λ_ _=>rfl) (by grind[uG]) (by simp_all[uG]) (.inl ae) (λ_=>tw (.inr (.inl ⟨rfl,e⟩)) rfl ⟨rfl,rfl,rfl,rfl,rfl,rfl⟩) (.no ae) (.no ae)
  ·rename_i e;have p14:(J w).Pc=14:=aa
   have o14:own (J w)=(J w).cA/\kR (J w)=[]:=by grind[own,kR,aFC]
   have fin:∀s:Sub,TW Ky b.Mem k c (q w) {J w with Pc:=15,K:=0,Sub:=s}:=λs=>tw (.inr (.inr ⟨rfl,p14⟩)) rfl ⟨rfl,rfl,rfl,rfl,rfl,rfl⟩;unfold G4;by_cases q:(0:Int)<(J w).cA.length
   ·rw[aO q];exact h.still hl hw hc hJ (λ_ _=>rfl) (by grind[own,kR,aFC]) (by simp[kR]) (.inr (by simp[yK])) (λ_=>fin _) (.no ae) ⟨λp=>absurd p ae,λ_ _=>⟨I3 _,rfl,rfl,rfl,.inl rfl⟩,λp=>absurd p ae⟩
   ·rw[aP q];exact h.quiet hl hw hc hJ (cl:=b.aC) (λ_ _=>rfl) (by grind[own,kR,aFC]) (by simp[kR]) (λ_ y=>absurd y q) (λ_ _ _ p=>⟨p,rfl⟩) (I3 _) (λ_=>fin _) (.no ae) ⟨λp=>absurd p ae,λ_ y=>absurd y q,λp=>absurd p ae⟩
theorem Y1{cl:aC}(hp:(J w).Pc<6\/18<=(J w).Pc)(hp':(j'.Pc<6\/18<=j'.Pc)/\j'.Pc≠3/\j'.Pc≠4)(pin:∀v,eO v->v≠w->jI cl v->jI b.aC v/\(cS cl v).aK=(cS b.aC v).aK)(ep:b.aC.aK<=cl.aK)
  (tw':j'.bO=true->TW Ky b.Mem k c (q w) j') (col:j'.Pc=21->bD8 cl.aK (dF b.aQ w) j'.Sub):sK Ky {b with aC:=cl} k c q (zS J w j'):=by
 have o:=GW hp;have o':=GW hp'.1;exact h.quiet hl hw hc hJ (λ_ _=>rfl) ak ak (λp=>aa) pin ep tw' (.no aa) ⟨λp=>aa,λp=>aa,col⟩
theorem a9L(hp:(J w).Pc=18):sK Ky {b with aC:=(H6 b.aC w).1} k c q (zS J w {J w with Pc:=19}):=by obtain⟨e1,e2⟩:=aU8 hc hw;refine Y1 h hl hw hc hJ hB aa ae (λv hv hn p=>aPP (e2 v hv hn) p) aa (λ_=>?_) ae;obtain⟨t1,t2,t3,t4,t5,t6,t7,t8,t9,t10,t11,t12,t13,t14,t15,t16,t17,t18,t19⟩:=h.tw w hw hB;constructor<;>grind
theorem bED(hp:(J w).Pc=19):sK Ky b k c q (zS J w cG):=
 Y1 h hl hw hc hJ hB (cl:=b.aC) aa (by simp[cG]) (λ_ _ _ p=>⟨p,rfl⟩) (I3 _) (λq=>by cases q) (by simp[cG])
theorem a9M(hp:(J w).Pc=0)(hj:j'={J w with Sub:=(qO b w (J w).Sub).2}\/j'={J w with Pc:=1,Sub:=(qO b w (J w).Sub).2}):sK Ky (qO b w (J w).Sub).1 k c q (zS J w j'):=by obtain⟨cl,e,e1,e2⟩:=aYE hc hw (J w).Sub;rw[e];refine Y1 h hl hw hc hJ hB aa ak (λv hv hn p=>aPP (e2 v hv hn) p) aa (λ_=>?_) ak;obtain⟨t1,t2,t3,t4,t5,t6,t7,t8,t9,t10,t11,t12,t13,t14,t15,t16,t17,t18,t19⟩:=h.tw w hw hB;rcases hj with rfl|rfl<;>constructor<;>grind
theorem a9N(hp:(J w).Pc=20)(hj:j'={J w with Sub:=(fF b (J w).Sub).2}\/j'={J w with Pc:=21,Sub:=yK 4 0}):sK Ky (fF b (J w).Sub).1 k c q (zS J w j'):=by obtain⟨cl,e,e1,e2⟩:=aYF hc (J w).Sub;rw[e];refine Y1 h hl hw hc hJ hB aa ak (λv hv hn p=>e2 v hv p) e1 (λ_=>?_) (by grind[bD8,yK]);obtain⟨t1,t2,t3,t4,t5,t6,t7,t8,t9,t10,t11,t12,t13,t14,t15,t16,t17,t18,t19⟩:=h.tw w hw hB;rcases hj with rfl|rfl<;>constructor<;>grind
omit hB in
theorem aVA(hn:J w=cG){x:Batch}(hx:∀q∈x.bK,q.Key∈Ky)(s:Int):sK Ky b k c q (zS J w (gY x s)):=by
 have o:own (J w)=[]/\kR (J w)=[]:=GW (by rw[hn];exact .inl ai);have p':(gY x s).Pc=0\/(gY x s).Pc=20:=by grind[gY]
 have o':=GW (j:=gY x s) aa;refine h.still hl hw hc hJ (λ_ _=>rfl) ak ak (.inl aa) (λ_=>?_) (.no aa) (.no aa);unfold gY at p' ⊢;constructor<;>grind
end
theorem Y2{h g:Int}(a:mO m h)(b:mO m g)(e:h % 32=g % 32):h=g:=by have h1:=a.2.2;have h2:=b.2.2;grind
theorem aME{l:List bW}(hl:z6 l)(hw:eO w):∃A B,dV l=A++(dF l w++B)/\∀r,dV (l.set w.toNat ⟨r⟩)=A++(r++B):=by
 have h3:=hl.1;have kx:w.toNat<l.length:=aa
 have hrow:l[w.toNat].Rows=dF l w:=by have:=NU hl hw;grind[gP]
 exact⟨_,_,by grind[J1],λr=>MK kx _⟩
theorem aBJ{l:List bW}(h3:l.length=3){v:Int}(hw:eO w)(hv:eO v)(hn:v≠w)(x:bW):dF (l.set w.toNat x) v=dF l v:=by unfold dF;grind
theorem bI1{b:aA}(h1:eN b.Mem s=3)(h2:¬bD b.aQ s):ind b s=1:=aO ⟨h1,h2⟩
theorem UH{b:aA}(h:eN b.Mem s≠3\/bD b.aQ s):ind b s=0:=aP λq=>h.elim (λa=>a q.1) q.2
theorem aMF{b b':aA}(h1:eN b'.Mem s=3↔eN b.Mem s=3)(h2:bD b'.aQ s↔bD b.aQ s):ind b' s=ind b s:=by grind[ind]
section
variable {Ky:List Int} {b:aA} {k:List bR} {c:Int->List Int} {q:Int->Nat} {J:Int->aI} {w:Int} (h:sK Ky b k c q J) (hl:∀v,eO v->YG k v (J v)) (hw:eO w) (hb:mP b) (hJ:∀v,eO v->(J v).bO=true->JB (J v)) (hB:(J w).bO=true)
include h hl hw hb hJ hB
theorem a9O(hp:(J w).Pc=6):sK Ky (qP b w (J w)).1 k c q (zS J w (qP b w (J w)).2):=by
 have t:=h.tw w hw hB;have hj:=hJ w hw hB;have hc:=hb.1.2.1;have o:=uG (j:=J w) aa;obtain⟨s1,s2,s3,s4⟩:=(h.sb w hw).al hp;have hk:=hj.k;have hn6:=t.n6 hp;have pl:=SK (J w).aH (J w).aH.length;have hwl:=hj.wr.1;have tw:∀{j':aI},(j'.Pc=6/\(j'.gL.length:Int)=j'.K/\j'.K<=fU (J w).aH (J w).aH.length/\j'.Code=(J w).Code\/j'.Pc=7/\j'.K=0/\(j'.gL.length:Int)=fU (J w).aH (J w).aH.length/\j'.Code=(J w).Code\/j'.Pc=16/\j'.Code=3)->j'.cA=(J w).cA/\j'.aH=(J w).aH/\j'.Batch=(J w).Batch/\j'.At=(J w).At->TW Ky b.Mem k c (q w) j':=λ{j'} q ⟨e2,e3,e4,e5⟩=>by
  have c6:(J w).Code=0:=by have:=t.cd;omega
  refine⟨aa,λx=>aa,λx=>by rw[e2];exact t.oO aa,λx=>aa,by rw[e3,e5];exact t.wl,λx=>ak,λx=>⟨ak,λy=>aa⟩,λx=>?_,λx=>aa,λx=>aa,λx=>aa,λx=>aa,λx=>aa,λx=>aa,aa,λx _=>by rw[e5,e4];exact t.at_ c6 aa,λx=>?_,λx=>aa,by rw[e3,e4];exact t.ky⟩
  ·simp_all
  ·have:=t.cl ak;omega
 unfold qP;by_cases c1:fU (J w).aH (J w).aH.length<=(J w).K
 ·rw[aO c1];refine h.still hl hw hc hJ (λ_ _=>rfl) ?_ ?_ (.inl ae) (λ_=>tw (.inr (.inl ⟨rfl,rfl,by simp only;omega,rfl⟩)) ⟨rfl,rfl,rfl,rfl⟩) (.no ae) (.no ae)
  ·rw[o.1,(uG ae).1]
  ·rw[o.2,(uG ae).2];exact λ_ x=>x
 rw[aP c1];obtain⟨q1,q2,q3,q4⟩:=aI3 hb.1.1 hw s1 s2 s3 s4;have nF:∀{j':aI},(gQ b w (J w).Sub).1.Mem=b.Mem->j'.gL=(J w).gL->j'.Pc=6\/j'.Pc=16->TW Ky b.Mem k c (q w) j'->SbJ b w j'->sK Ky (gQ b w (J w).Sub).1 k c q (zS J w j'):=λ{j'} em en p' t' s'=>by
  have eb:(gQ b w (J w).Sub).1=b:=by
   cases hh:(gQ b w (J w).Sub).1 with
   |mk a1 a2 a3 a4=>
    simp_all
  rw[eb];have o':=uG (j:=j') aa;exact h.still hl hw hc hJ (λ_ _=>rfl) ak ak (.inl aa) (λ_=>t') (.no aa) s'
 rcases q4 with ⟨em,⟨d,e⟩|⟨e1,e2⟩⟩|⟨d,e,wk,tk,kn⟩
 ·rw[aP ak,aO (.inl aa),e];exact nF em rfl (.inr rfl) (tw (.inr (.inr ⟨rfl,rfl⟩)) ⟨rfl,rfl,rfl,rfl⟩) (.no (by simp[nZ]))
 ·rw[aO ak];exact nF em rfl (.inl hp) (tw (.inl ⟨hp,hn6.1,hn6.2,rfl⟩) ⟨rfl,rfl,rfl,rfl⟩) ⟨λ_=>ak,by simp[hp],by simp[hp]⟩
 ·rw[aP ak,aP (by
   rintro(q|q|q)
   ·exact q e
   ·exact q wk.1.1
   ·omega)]
  generalize hx:(gQ b w (J w).Sub).2.Out=x at wk tk;generalize hr:(gQ b w (J w).Sub).1=b' at q1 q2 q3 kn wk tk;show sK Ky b' k c q (zS J w {J w with gL:=(J w).gL++[x],K:=(J w).K+1,Sub:=yK 1 16});have hx0:=(rB (dO wk.1.2.1)).1;have t':TW Ky b.Mem k c (q w) {J w with gL:=(J w).gL++[x],K:=(J w).K+1,Sub:=yK 1 16}:=tw (.inl ⟨hp,ah,ak,rfl⟩) ⟨rfl,rfl,rfl,rfl⟩;have o':=uG (j:={J w with gL:=(J w).gL++[x],K:=(J w).K+1,Sub:=yK 1 16}) (.inl ak);have oth:Oth b b' k k c c J w {J w with gL:=(J w).gL++[x],K:=(J w).K+1,Sub:=yK 1 16} 0 (-1):=by
   refine⟨λy hy hz=>?_,.inl rfl,.inl rfl,λ_ _ _=>⟨rfl,rfl⟩,.inl rfl,λr hr=>.inl ak,λy hy=>?_,λz=>absurd z (by simp[hp]),λv hv hn p=>ak,ak,λ_ _ _=>by rw[q2]⟩
   ·obtain⟨a1,a2⟩:=kn y hy hz;exact⟨a1,λ_=>a2⟩
   ·rw[o'.2] at hy;rcases dD.1 hy with hy|hy
    ·grind
    ·exact .inr (by rw[jJ.1 hy];exact tk.was)
  have chs:=λi (hi:nY i)=>(oth.chn h hw hi (λq=>((h.ch i hi).all 0 q).1.ne rfl)).2 rfl rfl;refine h.make hl hw hc hJ oth q3 (λi hi=>(chs i hi).1) (λi hi=>by rw[(chs i hi).2];exact h.key i hi) (λs=>?_) (λy hy=>?_) (λ_=>?_) (.no (by simp[hp])) ⟨λ_=>by simp[yK],by simp[hp],by simp[hp]⟩
  ·have u:=YH (J:=J) hw {J w with gL:=(J w).gL++[x],K:=(J w).K+1,Sub:=yK 1 16} s;rw[o.1,o'.1,UG,PF,a9G] at u;have u2:=h.cnt s;by_cases q:x % 32=s
   ·rw[aO q] at u;have a1:ind b s=0:=UH (.inl (by rw[<-q];exact tk.was));have a2:ind b' s=1:=bI1 (by rw[<-q];exact tk.now) (by
     rw[q2,<-q];rintro⟨r,hr,hh,er⟩;exact tk.was (by rw[<-er];exact(hb.2 r hr).1.2.1))
    omega
   ·rw[aP q] at u;have a1:ind b' s=ind b s:=aMF (tk.rest s λe=>q e.symm) (by rw[q2]);omega
  ·rw[o'.1] at hy;rcases dD.1 hy with hy|hy
   ·have hm:y∈own (J w):=ak
    have w0:=h.ok w hw y hm;exact(kn y w0 aa).1
   grind
  ·exact{t' with st:=λq=>absurd q (by simp[hp]),cu:=λq=>absurd q (by simp[hp]),fl:=λq=>absurd q (by simp[hp]),ln:=λq=>absurd q (by simp[hp])}
end
theorem bGA{z:List Int}(h:z=[0,0,0]){v:Int}(hv:eO v):a0U z v=0:=by subst h;rcases(by omega:v=0\/v=1\/v=2) with rfl|rfl|rfl<;>rfl
section
variable {Ky:List Int} {b:aA} {k:List bR} {c:Int->List Int} {q:Int->Nat} {J:Int->aI} {w:Int} (h:sK Ky b k c q J) (hl:∀v,eO v->YG k v (J v)) (hw:eO w) (hb:mP b) (hJ:∀v,eO v->(J v).bO=true->JB (J v)) (hB:(J w).bO=true)
include h hl hw hb hJ hB
theorem a3W(hp:(J w).Pc=15):sK Ky (wS b w (J w)).1 k c q (zS J w (wS b w (J w)).2):=by
 have t:=h.tw w hw hB;have hj:=hJ w hw hB;have hc:=hb.1.2.1;have hk:=hj.k;have o1:∀{j':aI},j'.Pc=15->own j'=j'.cA.drop j'.K.toNat/\kR j'=[]:=λ{j'} q=>by simp[own,kR,aFC,q]
 have tw:∀{j':aI},j'.Pc=15\/j'.Pc=18->j'.aH=(J w).aH/\j'.Batch=(J w).Batch/\j'.At=(J w).At/\j'.Code=(J w).Code->TW Ky b.Mem k c (q w) j':=λ{j'} q ⟨e3,e4,e5,e6⟩=>by have cd:=t.cd;refine⟨aa,λx=>aa,λx=>aa,λx=>aa,by rw[e3,e5];exact t.wl,λx=>aa,λx=>aa,λx=>aa,λx=>aa,λx=>aa,λx=>aa,λx=>aa,λx=>aa,λx=>aa,aa,λx _=>by rw[e5,e4];exact t.at_ aa aa,λx=>?_,λx=>aa,by rw[e3,e4];exact t.ky⟩;have:=t.cl ak;omega
 unfold wS;by_cases c1:((J w).cA.length:Int)<=(J w).K
 ·rw[aO c1];have o2:own {J w with Pc:=18}=[]/\kR {J w with Pc:=18}=[]:=GW (.inr ae);exact h.still hl hw hc hJ (λ_ _=>rfl) (by simp_all) ak (.inl ae) (λ_=>tw (.inr rfl) ⟨rfl,rfl,rfl,rfl⟩) (.no ae) (.no ae)
 rw[aP c1];obtain⟨s0,s1,s2,s3,s4⟩:=(h.sb w hw).rt hp aa;have es:gQ b w (J w).Sub=uF b w (J w).Sub:=by grind[gQ]
 rw[es];have hi:(J w).K.toNat<(J w).cA.length:=aa
 have eA:(J w).Sub.A=(J w).cA[(J w).K.toNat]:=ak
 have eo:own (J w)=(J w).Sub.A::(J w).cA.drop ((J w).K.toNat+1):=by simp_all
 have hm:(J w).Sub.A∈own (J w):=ak
 have hn:=h.name hw hw hm;have hA:=h.ok w hw _ hm;have hi1:ind b ((J w).Sub.A % 32)=1:=aa
 have hH:¬bD b.aQ ((J w).Sub.A % 32):=λq=>by grind[UH]
 unfold uF;rcases s4 with p0|⟨p1,e0,e1⟩
 ·rw[aO p0,aP (by simp[s2])];refine h.quiet hl hw hc hJ (cl:=b.aC) (λ_ _=>rfl) rfl (λ_ x=>x) (λ_ _ _=>.inl rfl) (λ_ _ _ p=>⟨p,rfl⟩) (I3 _) (λ_=>tw (.inl hp) ⟨rfl,rfl,rfl,rfl⟩) (.no (by simp[hp])) ⟨λp=>absurd p (by simp[hp]),λ_ _=>⟨s0,s1,s2,s3,.inr ⟨rfl,hc.1.1,I3 _⟩⟩,λp=>absurd p (by simp[hp])⟩
 ·rw[gT,aO p1,aO ⟨e0,e1⟩,aO ⟨hA.1,hH⟩,aO an];have hL:=hb.1.2.2.1;obtain⟨A,B,f1,f2⟩:=aME hL hw;have hf:∀r,r∈dV (b.aQ.set w.toNat ⟨dF b.aQ w++[⟨(J w).Sub.A,(J w).Sub.E⟩]⟩)↔r∈dV b.aQ\/r=⟨(J w).Sub.A,(J w).Sub.E⟩:=λr=>ak
  have fin:∀{j':aI},j'.Pc=15->j'.K=(J w).K+1->j'.cA=(J w).cA->j'.aH=(J w).aH/\j'.Batch=(J w).Batch/\j'.At=(J w).At/\j'.Code=(J w).Code->(j'.K<j'.cA.length->j'.Sub.Pc=0)->SbJ {b with aQ:=b.aQ.set w.toNat ⟨dF b.aQ w++[⟨(J w).Sub.A,(J w).Sub.E⟩]⟩} w j' ->
    sK Ky {b with aQ:=b.aQ.set w.toNat ⟨dF b.aQ w++[⟨(J w).Sub.A,(J w).Sub.E⟩]⟩} k c q (zS J w j'):=λ{j'} q1 q2 q3 q4 q5 q6=>by
   have o':=o1 q1;have eo':own j'=(J w).cA.drop ((J w).K.toNat+1):=by(simp_all;omega)
   refine h.make hl hw hc hJ (y:=0) (z:=-1) ⟨λx hx _=>⟨hx,λ_=>rfl⟩,.inl rfl,.inl rfl,λi hi _=>⟨rfl,rfl⟩,.inl rfl,λr hr=>?_,ak,λ_ x z=>aa,λ_ _ _ p=>⟨p,rfl⟩,I3 _,λv hv hn=>aBJ hL.1 hw hv hn _⟩ rfl h.ch h.key (λs=>?_) (λx hx=>h.ok w hw x ak) (λ_=>tw (.inl q1) q4) (.no aa) q6
   ·grind
   ·have u:=YH (J:=J) hw j' s;rw[eo,eo',PF] at u;have u2:=h.cnt s;by_cases q:(J w).Sub.A % 32=s
    ·rw[aO q] at u;have a2:ind {b with aQ:=b.aQ.set w.toNat ⟨dF b.aQ w++[⟨(J w).Sub.A,(J w).Sub.E⟩]⟩} s=0:=UH (.inr ⟨⟨(J w).Sub.A,(J w).Sub.E⟩,(hf _).2 (.inr rfl),hA.1.1,q⟩);grind
    ·rw[aP q] at u;have a2:ind {b with aQ:=b.aQ.set w.toNat ⟨dF b.aQ w++[⟨(J w).Sub.A,(J w).Sub.E⟩]⟩} s=ind b s:=aMF Iff.rfl ⟨λ⟨r,hr,x1,x2⟩=>by
      rcases(hf r).1 hr with a|rfl
      ·exact⟨r,a,x1,x2⟩
      grind,λ⟨r,hr,x⟩=>⟨r,(hf r).2 (.inl hr),x⟩⟩
     omega
  unfold G4;by_cases q:(J w).K+1<(J w).cA.length
  ·rw[aO q];exact fin hp rfl rfl ⟨rfl,rfl,rfl,rfl⟩ (λ_=>rfl) ⟨λp=>absurd p (by simp[hp]),λ_ _=>⟨ak,rfl,rfl,rfl,.inl rfl⟩,λp=>absurd p (by simp[hp])⟩
  ·rw[aP q];exact fin hp rfl rfl ⟨rfl,rfl,rfl,rfl⟩ (λx=>absurd x q) ⟨λp=>absurd p (by simp[hp]),λ_ x=>absurd x q,λp=>absurd p (by simp[hp])⟩
theorem bEE(hp:(J w).Pc=17):sK Ky (wT b w (J w)).1 k c q (zS J w (wT b w (J w)).2):=by
 have t:=h.tw w hw hB;have hj:=hJ w hw hB;have hc:=hb.1.2.1;have o:=uG (j:=J w) (.inr (.inr hp));have tw:∀{m':Mem} {j':aI},j'.Pc=17\/j'.Pc=18->j'.cA=(J w).cA/\j'.aH=(J w).aH/\j'.Batch=(J w).Batch/\j'.At=(J w).At/\j'.Code=(J w).Code->TW Ky m' k c (q w) j':=λ{m' j'} q ⟨e2,e3,e4,e5,e6⟩=>by have cd:=t.cd;refine⟨aa,λx=>aa,λx=>by rw[e2];exact t.oO aa,λx=>aa,by rw[e3,e5];exact t.wl,λx=>aa,λx=>aa,λx=>aa,λx=>aa,λx=>aa,λx=>aa,λx=>aa,λx=>aa,λx=>aa,aa,λx _=>aa,λx=>?_,λx=>aa,by rw[e3,e4];exact t.ky⟩;have:=t.cl ak;omega
 unfold wT;by_cases c1:(J w).gL.length=0
 ·rw[aO c1];have e0:=uI c1;have o2:own {J w with Pc:=18}=[]/\kR {J w with Pc:=18}=[]:=GW (.inr ae);exact h.still hl hw hc hJ (λ_ _=>rfl) ak ak (.inl ae) (λ_=>tw (.inr rfl) ⟨rfl,rfl,rfl,rfl,rfl⟩) (.no ae) (.no ae)
 rw[aP c1]
 match hN:(J w).gL,c1 with
 |x::r,_=>
 have hm:x∈own (J w):=ak
 have hA:=h.ok w hw x hm;have hn:=h.name hw hw hm;have hi1:ind b (x % 32)=1:=aa
 have hH:¬bD b.aQ (x % 32):=λq=>by grind[UH]
 show sK Ky (if bD b.aQ (x % 32) then b else {b with Mem:=aUT b.Mem w x}) k c q (zS J w {J w with gL:=r});rw[aP hH];unfold aUT;rw[aO hA.1];have kn:=aI2 hb.1.1 hw hA.1;have o':own {J w with gL:=r}=r/\kR {J w with gL:=r}=r:=uG (j:={J w with gL:=r}) (.inr (.inr hp));have oth:Oth b {b with Mem:=qA b.Mem w x} k k c c J w {J w with gL:=r} 0 (x % 32):=⟨λy hy hz=>⟨(kn y hy hz).1,λ_=>(kn y hy hz).2⟩,.inr (.inr ⟨x,hm,rfl⟩),.inl rfl,λ_ _ _=>⟨rfl,rfl⟩,.inr λv hv hn hp' hpin y hy hs e=>by
   have:=Y2 hy.1 hA.1 e;subst this;exact(hs.2 w hw).1 ak,λr hr=>.inl hr,λy hy=>.inl ak,λz=>absurd z (by simp[hp]),λ_ _ _ p=>⟨p,rfl⟩,I3 _,λ_ _ _=>rfl⟩
 have chs:=λi (hi:nY i)=>(oth.chn h hw hi (λq=>((h.ch i hi).all 0 q).1.ne rfl)).2 rfl rfl;have fst:∀s,s≠x % 32->eN (qA b.Mem w x) s=eN b.Mem s:=λs hs=>aL8 hb.1.1 hw hA.1 hs;have fz:=(aBI hb.1.1 hw hA.1).2.2.2;refine h.make hl hw hc hJ oth rfl (λi hi=>(chs i hi).1) (λi hi=>by rw[(chs i hi).2];exact h.key i hi) (λs=>?_) (λy hy=>?_) (λ_=>tw (.inl hp) ⟨rfl,rfl,rfl,rfl,rfl⟩) (.no (by simp[hp])) (.no (by simp[hp]))
 ·have u:=YH (J:=J) hw {J w with gL:=r} s;rw[o.1,o'.1,hN,PF] at u;have u2:=h.cnt s;by_cases q:x % 32=s
  ·rw[aO q] at u;grind[UH]
  ·rw[aP q] at u;have a2:ind {b with Mem:=qA b.Mem w x} s=ind b s:=aMF ak Iff.rfl;omega
 ·rw[o'.1] at hy;have hm':y∈own (J w):=ak
  refine(kn y (h.ok w hw y hm') λe=>?_).1;have u:=hn.1;have:2<=ZL (own (J w)) (x % 32):=by rw[o.1,hN,PF,aO rfl];grind[QL]
  omega
theorem aMG(hE:∀v,eO v->(J v).Pc=3\/(J v).Pc=4->jI b.aC v->b.aC.aK<=(cS b.aC v).aK+1)(hp:(J w).Pc=21)(hj':(cQ b w (J w).Sub).2.gK=true/\j'={J w with Pc:=19,Sub:=(cQ b w (J w).Sub).2}\/(cQ b w (J w).Sub).2.gK=false/\j'={J w with Sub:=(cQ b w (J w).Sub).2}) :
  sK Ky (cQ b w (J w).Sub).1 k c q (zS J w j')/\((cQ b w (J w).Sub).2.gK=true->(cQ b w (J w).Sub).2.Code=0):=by
 have t:=h.tw w hw hB;have hc:=hb.1.2.1;have hL:=hb.1.2.2.1;obtain⟨s1,s2,s3⟩:=(h.sb w hw).col hp;have p':j'.Pc=19\/j'.Pc=21:=ak
 have tw:∀{m':Mem},TW Ky m' k c (q w) j':=λ{m'}=>by
  obtain⟨e1,e2,e3,e4,e5,e6⟩:j'.gL=(J w).gL/\j'.cA=(J w).cA/\j'.aH=(J w).aH/\j'.Batch=(J w).Batch/\j'.At=(J w).At/\j'.Code=(J w).Code:=ak
  have cd:=t.cd;have at0:=t.at_;have hcol:=t.cl2 (.inr hp);have hbat:=(hJ w hw hB).V5;have hat:=(hJ w hw hB).at_;have hcm:=hbat.1 hcol;rw[hcm] at hat;simp only[List.length_nil] at hat;refine⟨aa,λx=>by rw[e1];exact t.nO aa,λx=>by rw[e2];exact t.oO aa,λx=>aa,by rw[e3,e5];exact t.wl,λx=>aa,λx=>aa,λx=>aa,λx=>aa,λx=>aa,λx=>aa,λx=>aa,λx=>aa,λx=>aa,aa,λx _=>ak,λx=>aa,λx=>ak,by rw[e3,e4];exact t.ky⟩
 have o:=GW (j:=J w) (.inr aa);have o':=GW (j:=j') (.inr aa);have still:(cQ b w (J w).Sub).1=b->(j'.Pc=21->bD8 b.aC.aK (dF b.aQ w) j'.Sub)->sK Ky (cQ b w (J w).Sub).1 k c q (zS J w j'):=λe q=>by rw[e];exact h.still hl hw hc hJ (λ_ _=>rfl) ak ak (.inl aa) (λ_=>tw) (.no aa) ⟨λp=>aa,λp=>aa,q⟩
 have sub':j'.Sub=(cQ b w (J w).Sub).2:=ak
 have nd:j'.Pc=21->(cQ b w (J w).Sub).2.gK=false:=λq=>ak
 have hrow:∀{i:Int},0<=i/\i<(dF b.aQ w).length->MB (dF b.aQ w) i∈dV b.aQ:=λhi=>PE hL hw (aDJ hi);rcases s3 with p0|⟨el,⟨p1,r0⟩|⟨p2,hB2,ha,hr⟩|⟨p3,ha,hr⟩⟩
 ·have e:cQ b w (J w).Sub=(b,{(J w).Sub with Pc:=1,E:=b.aC.aK,Row:=0}):=by simp_all[cQ]
  refine⟨still (by rw[e]) λq=>?_,λq=>ak⟩;rw[sub',e];exact⟨s1,s2,.inr ⟨I3 _,.inl ⟨rfl,I3 _⟩⟩⟩
 ·by_cases q:sJ (dF b.aQ w) (J w).Sub.E (J w).Sub.Row.toNat<(dF b.aQ w).length
  ·have e:cQ b w (J w).Sub=(b,{(J w).Sub with Pc:=2,Row:=(sJ (dF b.aQ w) (J w).Sub.E (J w).Sub.Row.toNat:Int),B:=0,H:=(MB (dF b.aQ w) (sJ (dF b.aQ w) (J w).Sub.E (J w).Sub.Row.toNat:Int)).Handle}):=by simp_all[cQ]
   obtain⟨g1,g2⟩:=aXY q;refine⟨still (by rw[e]) λ_=>?_,λz=>ak⟩;rw[sub',e];refine⟨s1,s2,.inr ⟨el,.inr (.inl ⟨rfl,⟨I3 _,ae⟩,⟨ae,ak,rfl⟩,?_⟩)⟩⟩;grind[aU2]
  simp_all[cQ,vI,aP]
 ·have hH:(J w).Sub.H≠0:=by have:=(hb.2 _ (hrow ⟨ha.1,ha.2.1⟩)).1.1;rw[ha.2.2] at this;grind[lK]
  have e:cQ b w (J w).Sub=(b,{(J w).Sub with Pc:=if(J w).Sub.B=2 then 3 else 2,B:=(J w).Sub.B+1}):=by unfold cQ;rw[gT,gT,aO p2,aO ⟨hB2,ha⟩,aP (by rw[bGA h.hz hB2];omega)]
  refine⟨still (by rw[e]) λ_=>?_,λz=>ak⟩;rw[sub',e];refine⟨s1,s2,.inr ⟨el,.inr ?_⟩⟩;by_cases z:(J w).Sub.B=2
  ·exact .inr ⟨aO z,ha,hr⟩
  ·exact .inl ⟨aP z,ak,ha,hr⟩
 ·have e:cQ b w (J w).Sub=({b with Mem:=qA b.Mem w (J w).Sub.H,aQ:=b.aQ.set w.toNat ⟨(dF b.aQ w).eraseIdx (J w).Sub.Row.toNat⟩},{(J w).Sub with Pc:=1,Out:=bB ((J w).Sub.Out+1)}):=by simp_all[cQ]
  refine⟨?_,λz=>ak⟩;have hi:0<=(J w).Sub.Row/\(J w).Sub.Row<(dF b.aQ w).length:=⟨ha.1,ha.2.1⟩;have hrm:=hrow hi;generalize hrr:MB (dF b.aQ w) (J w).Sub.Row=r at hrm hr;have eH:r.Handle=(J w).Sub.H:=by rw[<-hrr];exact ha.2.2
  have hv:=(hb.2 r hrm).1;rw[<-eH] at e;have hHd:bD b.aQ (r.Handle % 32):=⟨r,hrm,hv.1,rfl⟩;have hil:(J w).Sub.Row.toNat<(dF b.aQ w).length:=aa
  have er:(dF b.aQ w)[(J w).Sub.Row.toNat]=r:=by grind[aU2]
  obtain⟨A,B,f1,f2⟩:=aME hL hw;have hperm:=aLO hil;rw[er] at hperm;have hpf:(dV b.aQ).Perm (r::dV (b.aQ.set w.toNat ⟨(dF b.aQ w).eraseIdx (J w).Sub.Row.toNat⟩)):=ak
  have hnd:=(hpf.map HD).nodup_iff.1 hL.2.2.2;rw[I5,ZT] at hnd;have hheld:∀s,s≠r.Handle % 32->(bD (b.aQ.set w.toNat ⟨(dF b.aQ w).eraseIdx (J w).Sub.Row.toNat⟩) s↔bD b.aQ s):=λs hs=>⟨λ⟨x,hx,y⟩=>⟨x,hpf.mem_iff.2 (lD _ hx),y⟩,λ⟨x,hx,y⟩=>⟨x,(j6.1 (hpf.mem_iff.1 hx)).resolve_left λq=>hs ak,y⟩⟩;have kn:=aI2 hb.1.1 hw hv;have fst:∀s,s≠r.Handle % 32->eN (qA b.Mem w r.Handle) s=eN b.Mem s:=λs hs=>aL8 hb.1.1 hw hv hs;have fz:=(aBI hb.1.1 hw hv).2.2.2;have hrip:r.aK<=(J w).Sub.E-2:=by have:=hr.2;rw[cO (by have:=hr.1;omega) (by have:=hc.1.2;omega)] at this;exact this
  rw[e];show sK Ky {b with Mem:=qA b.Mem w r.Handle,aQ:=b.aQ.set w.toNat ⟨(dF b.aQ w).eraseIdx (J w).Sub.Row.toNat⟩} k c q (zS J w j');generalize hb':({b with Mem:=qA b.Mem w r.Handle,aQ:=b.aQ.set w.toNat ⟨(dF b.aQ w).eraseIdx (J w).Sub.Row.toNat⟩}:aA)=b';have m1:b'.Mem=qA b.Mem w r.Handle:=by rw[<-hb']
  have m2:b'.aQ=b.aQ.set w.toNat ⟨(dF b.aQ w).eraseIdx (J w).Sub.Row.toNat⟩:=by rw[<-hb']
  have m3:b'.aC=b.aC:=by rw[<-hb']
  have m4:b'.qU=b.qU:=by rw[<-hb']
  have oth:Oth b b' k k c c J w j' 0 (r.Handle % 32):=⟨λy hy hz=>by rw[m1];exact⟨(kn y hy hz).1,λ_=>(kn y hy hz).2⟩,.inr (.inl (UH (.inr hHd))),.inl rfl,λ_ _ _=>⟨rfl,rfl⟩,.inr λv hv' hn hp' hpin y hy hs ez=>by
    have:=Y2 hy.1 hv ez;have:=hs.1 r hrm this.symm;have:=hE v hv' hp' hpin;omega,λx hx=>.inl (by rw[m2] at hx;exact hpf.mem_iff.2 (lD _ hx)),by rw[o'.2];simp,λz=>aa,λ_ _ _ p=>by rw[m3] at p ⊢;exact⟨p,rfl⟩,by rw[m3];exact I3 _,λv hv' hn=>by rw[m2];exact aBJ hL.1 hw hv' hn _⟩
  have chs:=λi (hi:nY i)=>(oth.chn h hw hi (λq=>((h.ch i hi).all 0 q).1.ne rfl)).2 rfl rfl;refine h.make hl hw hc hJ oth m4 (λi hi=>(chs i hi).1) (λi hi=>by rw[(chs i hi).2];exact h.key i hi) (λs=>?_) (λy hy=>by rw[o'.1] at hy;cases hy) (λ_=>tw) (.no aa) ⟨λp=>aa,λp=>aa,λq=>?_⟩
  ·have u:=YH (J:=J) hw j' s;rw[o.1,o'.1] at u;have u2:=h.cnt s;by_cases q:s=r.Handle % 32
   ·have a1:ind b s=0:=UH (.inr (q ▸ hHd));have a2:ind b' s=0:=UH (.inl (by rw[m1,q];exact fz));omega
   ·have a2:ind b' s=ind b s:=aMF (by rw[m1,fst s q]) (by rw[m2];exact hheld s q);omega
  ·rw[sub',e,m3];exact⟨s1,s2,.inr ⟨el,.inl ⟨rfl,ha.1⟩⟩⟩
end
theorem bEF{l:List aU}(hK:0<=K)(h:K<l.length):fU l (K+1)=fU l K+if(l.getD K.toNat ⟨0,false,0⟩).G3 then 0 else 1:=by
 have hi:K.toNat<l.length:=aa
 unfold fU;rw[show(K+1).toNat=K.toNat+1 by omega,I6 hi,aFH,D6,I4,iT hi,aFP];grind
theorem a9P{l:List aU}(h:l.length<=K):fU l K=fU l l.length:=by grind[fU]
theorem aMH{n:gX}(h:aBH n):MD n=n.Next:=by
 unfold MD;rcases h.2.2 with e|e
 ·rw[e];split<;>rfl
 ·rw[aO e]
theorem aDN(h:9<=j.Pc/\j.Pc<=13):own j=j.gL.drop (fU j.aH j.K).toNat++j.cA/\kR j=j.gL.drop (fU j.aH j.K).toNat:=by grind[own,kR,aFC]
theorem ChT.last:∀{h:Int} {B:List Int} {x:Int},ChT m x (A++h::B)->(∀a,A.getLast?=some a->(cJ m a).Next=h)/\(A=[]->x=h):=by
 induction A with
 |nil=>exact λh=>⟨λa e=>by simp at e,λ_=>h.1⟩
 |cons a A ih=>
  intro h B x hc;refine⟨λz e=>?_,λe=>by cases e⟩;obtain⟨i1,i2⟩:=ih hc.2.2.2;grind
theorem ChT.cut{p:Int}(hp:cJ m' p={cJ m p with Next:=(cJ m (cJ m p).Next).Next})(ok:kJ m' p):∀{A:List Int} {h:Int} {B:List Int} {x:Int},ChT m x (A++p::h::B)->(∀y∈A++B,kJ m' y/\cJ m' y=cJ m y)->ChT m' x (A++p::B)
 |[],h,B,x,hc,hk=>by
  obtain⟨e1,a1,a2,e2,b1,b2,b3⟩:=hc;refine⟨e1,ok,?_,?_⟩
  ·rw[hp];exact⟨a2.1,a2.2.1,by rw[e2];exact b2.2.2⟩
  ·rw[hp,e2];exact b3.keep λy hy=>hk y (by simp[hy])
 |a::A,h,B,x,hc,hk=>by obtain⟨a1,a2⟩:=hk a ae;exact⟨hc.1,a1,by rw[a2];exact hc.2.2.1,by rw[a2];exact hc.2.2.2.cut hp ok λy hy=>hk y ak⟩
def lkp(m:Mem)(l:List Int)(k:Int):Option Int:=(l.find? λx=>(cJ m x).Key == k).map λx=>(cJ m x).dI
def wv(x:aU):Option Int:=if x.G3 then none else some x.dI
structure ChW (m m':Mem) (c c':Int->List Int) (j j':aI):Prop where
 keep:∀i,nY i->(j.Pc=11\/j.Pc=13->i≠bi j)->c' i=c i/\∀x∈c i,cJ m' x=cJ m x
 oth:9<=j.Pc/\j.Pc<=13->∀k,k≠(mR j).Key->lkp m' (c' (bi j)) k=lkp m (c (bi j)) k
 key:9<=j.Pc/\j.Pc<=13->j'.K=j.K+1->lkp m' (c' (bi j)) (mR j).Key=wv (mR j)
theorem ChW.same{c:Int->List Int}(h:9<=j.Pc/\j.Pc<=13->j'.K=j.K+1->lkp m (c (bi j)) (mR j).Key=wv (mR j)):ChW m m c c j j':=⟨λ_ _ _=>⟨rfl,λ_ _=>rfl⟩,λ_ _ _=>rfl,h⟩
theorem aMI{k:Int}(h:∀a∈l,(cJ m a).Key≠k):lkp m l k=none:=by grind[lkp]
theorem aR5{B:List Int}{p k:Int}(h:(cJ m p).Key≠k):lkp m (A++p::B) k=lkp m (A++B) k:=by grind[lkp]
theorem YJ(h:∀a∈l,(cJ m' a).Key=(cJ m a).Key/\(cJ m' a).dI=(cJ m a).dI)(k:Int):lkp m' l k=lkp m l k:=by
 induction l with
 |nil=>rfl
 |cons a l ih=>
  grind[lkp]
theorem aI4{x:aU}(h:(I1 j x).K=j.K+1):x.G3=true:=by grind[I1]
section
variable {Ky:List Int} {b:aA} {k:List bR} {c:Int->List Int} {q:Int->Nat} {J:Int->aI} {w:Int} (h:sK Ky b k c q J) (hl:∀v,eO v->YG k v (J v)) (hw:eO w) (hb:mP b) (hJ:∀v,eO v->(J v).bO=true->JB (J v)) (hB:(J w).bO=true)
include h hl hw hb hJ hB
set_option maxHeartbeats 1000000 in
theorem a9Q(hk2:k.length=2/\∀x∈k,BkV x)(hp:9<=(J w).Pc/\(J w).Pc<=13):∃c',sK Ky (jH b k (J w)).1 (jH b k (J w)).2.1 c' (upQ q w (qF Ky.length (q w) (J w))) (zS J w (jH b k (J w)).2.2)/\ChW b.Mem (jH b k (J w)).1.Mem c c' (J w) (jH b k (J w)).2.2:=by
 have t:=h.tw w hw hB;have hj:=hJ w hw hB;have hc:=hb.1.2.1;have hk:=hj.k;have o:=aDN hp;have hn7:=t.n7 aa;generalize hn:qF Ky.length (q w) (J w)=n;have eqw:upQ q w n w=n:=aO rfl;have hqv:∀v,v≠w->upQ q w n v=q v:=λv hv=>aP hv;generalize upQ q w n=qn at eqw hqv ⊢;subst eqw;have hcd:(J w).Code=0:=by have:=t.cd;omega
 have tw:∀{m':Mem} {k':List bR} {c':Int->List Int} {j':aI},9<=j'.Pc/\j'.Pc<=14->j'.gL=(J w).gL/\j'.aH=(J w).aH/\j'.Batch=(J w).Batch/\j'.At=(J w).At/\j'.Code=(J w).Code/\j'.bD=(J w).bD->(j'.Pc<=13->(j'.cA.length:Int)<=if j'.Pc<=11 then j'.K else j'.K+1)->(10<=j'.Pc/\j'.Pc<=13->j'.K<j'.aH.length) ->
   (j'.Pc=10\/j'.Pc=11->∃A B,c' (bi j')=A++j'.H::B/\(j'.gR=A.getLastD 0/\∀a∈A,(cJ m' a).Key≠(mR j').Key)/\(j'.Pc=10->B.length<=qn w))->(j'.Pc=11->j'.Node=cJ m' j'.H/\j'.Node.Key=(mR j').Key)->(j'.Pc=12\/j'.Pc=13->(mR j').G3=false/\∀a∈c' (bi j'),(cJ m' a).Key≠(mR j').Key)->(j'.Pc=13->cJ m' (GV j')=⟨(mR j').Key,(mR j').dI,(dL k' (bi j')).Head⟩)->TW Ky m' k' c' (qn w) j':=
  λ{m' k' c' j'} q ⟨e1,e3,e4,e5,e6,e7⟩ q1 q2 q3 q4 q5 q6=>by
  refine⟨aa,λx=>aa,λx=>aa,λx=>aa,by rw[e3,e5];exact t.wl,λx=>aa,λx=>⟨ak,λ_=>q1 x.2⟩,λx=>aa,λx=>by rw[e3,e7];exact t.l8 aa,q2,q3,q4,q5,q6,aa,λx _=>by rw[e5,e4];exact t.at_ hcd aa,λx=>?_,λx=>aa,by rw[e3,e4];exact t.ky⟩;have:=t.cl ak;omega
 have still:∀{j':aI},own j'=own (J w)->kR j'=kR (J w)\/kR j'=[]->9<=j'.Pc/\j'.Pc<=14->TW Ky b.Mem k c (qn w) j'->sK Ky b k c qn (zS J w j'):=λ{j'} e1 e2 q t'=>
  h.aR3 hl hw hc hJ hqv (λ_ _=>rfl) e1 ak (.inl aa) (λ_=>t') (.no aa) (.no aa)
 unfold jH;by_cases c1:((J w).aH.length:Int)<=(J w).K
 ·rw[aO c1];have hd:(J w).gL.drop (fU (J w).aH (J w).K).toNat=[]:=aBN (by grind[a9P]);have o':own {J w with Pc:=14}=(J w).cA/\kR {J w with Pc:=14}=[]:=by simp[own,kR,aFC]
  exact⟨c,still ak (.inr o'.2) ae (tw ae ⟨rfl,rfl,rfl,rfl,rfl,rfl⟩ ae ae ae ae ae ae),.same λ_ z=>ak⟩
 rw[aP c1];have hi:(J w).K.toNat<(J w).aH.length:=aa
 have er:mR (J w)=(J w).aH[(J w).K.toNat]:=by grind[mR]
 have hxm:mR (J w)∈(J w).aH:=ak
 have hx:=hj.wr.2.1 _ hxm;have hbk:nY (jD (mR (J w)).Key):=by grind[jD]
 have hheld:=t.l8 aa _ hxm;have hlk:(dL k (jD (mR (J w)).Key)).dU=w+1:=((hl w hw).iff _ hbk).1 hheld;have hch:=h.ch _ hbk;have hkey:=h.key _ hbk;have hol:=hn7.2 aa;have hpl:fU (J w).aH ((J w).K+1)=fU (J w).aH (J w).K+if(mR (J w)).G3 then 0 else 1:=bEF hk.1 aa;have p0:0<=fU (J w).aH (J w).K:=by grind[fU]
 generalize hi':jD (mR (J w)).Key=i at hbk hheld hlk hch hkey;have ebi:bi (J w)=i:=hi';have place:∀{b':aA} {k':List bR} {c':Int->List Int} {j1:aI},j1.gL=(J w).gL/\j1.aH=(J w).aH/\j1.Batch=(J w).Batch/\j1.At=(J w).At/\j1.Code=(J w).Code/\j1.bD=(J w).bD/\j1.K=(J w).K->(j1.cA.length:Int)<=(J w).K+1->(∀a∈c' i,(cJ b'.Mem a).Key≠(mR (J w)).Key)->TW Ky b'.Mem k' c' (qn w) (I1 j1 (mR (J w)))/\kR (I1 j1 (mR (J w)))=kR (J w)/\own (I1 j1 (mR (J w)))=kR (J w)++j1.cA/\(9<=(I1 j1 (mR (J w))).Pc/\(I1 j1 (mR (J w))).Pc<=14):=
  λ{b' k' c' j1} ⟨e1,e3,e4,e5,e6,e7,e8⟩ q1 q2=>by
  have ew:∀{j2:aI},j2.aH=j1.aH->j2.K=j1.K->mR j2=mR (J w):=λa a'=>by grind[mR]
  unfold I1;cases hd:(mR (J w)).G3
  ·rw[gJ];have o':=aDN (j:={j1 with Pc:=12}) ae;simp only at o';refine⟨tw ae ⟨e1,e3,e4,e5,e6,e7⟩ (λ_=>ah) (λ_=>by simp only;rw[e8,e3];omega) ae ae (λ_=>by
    have e2:mR {j1 with Pc:=12}=mR (J w):=ew rfl rfl;have e9:bi {j1 with Pc:=12}=i:=by unfold bi;rw[e2];exact hi'
    rw[e2,e9];exact⟨hd,q2⟩) ae,?_,?_,ae⟩
   ·rw[o'.2,o.2,e1,e3,e8]
   ·rw[o'.1,o.2,e1,e3,e8]
  ·rw[aO rfl];have o':=aDN (j:={j1 with Pc:=9,K:=j1.K+1}) ae;simp only at o';rw[hd,aO rfl,Int.add_zero] at hpl;refine⟨tw ae ⟨e1,e3,e4,e5,e6,e7⟩ (λ_=>ah) ae ae ae ae ae,?_,?_,ae⟩
   ·rw[o'.2,o.2,e1,e3,e8,hpl]
   ·rw[o'.1,o.2,e1,e3,e8,hpl]
 have RE:own (J w)=kR (J w)++(J w).cA:=by rw[o.1,o.2]
 by_cases p9:(J w).Pc=9
 ·rw[aO p9];rw[aO aa] at hol;refine⟨c,?_,.same λ_ z=>?_⟩
  rotate_left
  ·by_cases q:(dL k i).Head=0
   ·simp only[aO q] at z;rw[show wv (mR (J w))=none from aO (aI4 z),ebi]
    match c i,hch with
    |[],_=>rfl
    |x::r,hch=>exact absurd (hch.1.symm.trans q) hch.2.1.ne
   ·simp only[aP q] at z;omega
  by_cases q:(dL k i).Head=0
  ·rw[aO q];have hnil:c i=[]:=by
    match hci:c i,hch with
    |[],_=>rfl
    |x::r,hch=>exact absurd (hch.1.symm.trans q) hch.2.1.ne
   obtain⟨a1,a2,a3,a4⟩:=place (b':=b) (k':=k) (c':=c) (j1:={J w with Pc:=10,H:=(dL k i).Head,gR:=0}) ⟨rfl,rfl,rfl,rfl,rfl,rfl,rfl⟩ (by simp only;omega) (by rw[hnil];simp);exact still (by rw[a3,RE]) (.inl a2) a4 a1
  ·rw[aP q];have o':=aDN (j:={J w with Pc:=10,H:=(dL k i).Head,gR:=0}) ae;refine still (by rw[o'.1,o.1]) (.inl (by rw[o'.2,o.2])) ae (tw ae ⟨rfl,rfl,rfl,rfl,rfl,rfl⟩ ah (λ_=>by simp only;omega) (λ_=>?_) ae ae ae)
   match hci:c i,hch with
   |[],hch=>exact absurd hch q
   |x::r,hch=>
    refine⟨[],r,?_,⟨rfl,ae⟩,λ_=>?_⟩
    rotate_left
    ·have:=yN hkey.1 λy hy=>(hkey.2 y hy).2;unfold mS at this;rw[hci,aFL,G5] at this;rw[<-hn];unfold qF;rw[aO (.inr p9)];omega
    show c (jD (mR (J w)).Key)=_;rw[hi',hci,QT];simp only;rw[hch.1]
 rw[aP p9];by_cases p10:(J w).Pc=10
 ·rw[aO p10];rw[aO aa] at hol;obtain⟨A,B,e1,⟨e2,e3⟩,e4⟩:=t.st (.inl p10);rw[ebi] at e1;rw[e1] at hch;have hH:=hch.split;have hok:=hH.2.1;rw[aR4 hok];refine⟨c,?_,.same λ_ z=>?_⟩
  rotate_left
  ·by_cases q:(cJ b.Mem (J w).H).Key=(mR (J w)).Key
   ·simp only[aO q] at z;omega
   ·simp only[aP q,aMH hH.2.2.1] at z;by_cases q2:(cJ b.Mem (J w).H).Next=0
    ·simp only[aO q2] at z;rw[show wv (mR (J w))=none from aO (aI4 z),ebi,e1];refine aMI λa ha=>?_
     match B,hH.2.2.2,ha with
     |[],_,ha=>
      rcases dD.1 ha with ha|ha
      ·exact e3 a ha
      ·rw[jJ.1 ha];exact q
     |x::r,hq,_=>exact absurd (hq.1.symm.trans q2) hq.2.1.ne
    ·simp only[aP q2] at z;omega
  by_cases q:(cJ b.Mem (J w).H).Key=(mR (J w)).Key
  ·rw[aO q];have o':=aDN (j:={J w with Pc:=11,Node:=cJ b.Mem (J w).H}) ae;exact still (by rw[o'.1,o.1]) (.inl (by rw[o'.2,o.2])) ae (tw ae ⟨rfl,rfl,rfl,rfl,rfl,rfl⟩ ah (λ_=>by simp only;omega) (λ_=>⟨A,B,(show c (jD (mR (J w)).Key)=_ by rw[hi'];exact e1),⟨e2,e3⟩,λz=>absurd z ae⟩) (λ_=>⟨rfl,q⟩) ae ae)
  ·rw[aP q,aMH hH.2.2.1];by_cases q2:(cJ b.Mem (J w).H).Next=0
   ·rw[aO q2];have hBn:B=[]:=by
     match B,hH.2.2.2 with
     |[],_=>rfl
     |x::r,hq=>exact absurd (hq.1.symm.trans q2) hq.2.1.ne
    obtain⟨a1,a2,a3,a4⟩:=place (b':=b) (k':=k) (c':=c) (j1:={J w with Node:=cJ b.Mem (J w).H}) ⟨rfl,rfl,rfl,rfl,rfl,rfl,rfl⟩ (by simp only;omega) (by
     rw[e1,hBn];intro a ha;rcases dD.1 ha with ha|ha
     ·exact e3 a ha
     ·rw[jJ.1 ha];exact q)
    exact still (by rw[a3,RE]) (.inl a2) a4 a1
   ·rw[aP q2];have o':=aDN (j:={J w with H:=(cJ b.Mem (J w).H).Next,gR:=(J w).H,Node:=cJ b.Mem (J w).H}) hp;refine still (by rw[o'.1,o.1]) (.inl (by rw[o'.2,o.2])) (by simp only;omega) (tw (by simp only;omega) ⟨rfl,rfl,rfl,rfl,rfl,rfl⟩ (λ_=>by simp only;rw[aO aa];exact hol) (λ_=>by simp only;omega) (λ_=>?_) (by simp[p10]) (by simp[p10]) (by simp[p10]))
    match B,hH.2.2.2,e1 with
    |[],hq,_=>exact absurd hq q2
    |x::r,hq,e1=>
     refine⟨A++[(J w).H],r,?_,⟨ae,λa ha=>?_⟩,λ_=>?_⟩
     rotate_left 2
     ·have:=e4 p10;rw[G5] at this;rw[<-hn];unfold qF;rw[gT,aO (.inr p10)];omega
     ·show c (jD (mR (J w)).Key)=_;rw[hi',e1];simp only;rw[hq.1];simp
     ·rcases dD.1 ha with ha|ha
      ·exact e3 a ha
      ·rw[jJ.1 ha];exact q
 rw[aP p10];have heads:∀(x:Int) (i':Int),nY i'->(dL (k.set i.toNat {dL k i with Head:=x}) i').Head=if i'=i then x else(dL k i').Head:=λx i' hi''=>by rw[qC hk2.1 hbk hi''];split<;>rfl
 have hno:∀{i':Int},nY i'->(dL k i').dU≠w+1->i'≠i:=λ_ q e=>q (e ▸ hlk);have ind0:∀{b':aA},(∀s,eN b'.Mem s=eN b.Mem s)->b'.aQ=b.aQ->∀s,ind b' s=ind b s:=λe1 e2 s=>aMF (by rw[e1]) (by rw[e2]);by_cases p11:(J w).Pc=11
 ·rw[aO p11];rw[aO aa] at hol;obtain⟨A,B,e1,⟨e2,e3⟩,_⟩:=t.st (.inr p11);rw[ebi] at e1;rw[e1] at hch hkey;have hH:=hch.split;have hok:=hH.2.1;obtain⟨n1,n2⟩:=t.cu p11;rw[n1,aMH hH.2.2.1];have hnd:=hkey.1;unfold mS at hnd;rw[o7,I5,aOI,ZT] at hnd;have hAB:∀a∈A++B,(cJ b.Mem a).Key≠(mR (J w)).Key:=λa ha q=>by
   rcases dD.1 ha with ha|ha
   ·exact e3 a ha q
   ·rw[<-n2,n1] at q;exact hnd.2.1.1 (AU.2 ⟨a,ha,q⟩)
  have hold:J3 (J w)={J w with cA:=(J w).cA++[(J w).H]}:=by unfold J3;rw[aO ⟨hok.1.1,by have:=hj.wr.1;omega⟩]
  rw[hold];have hcl:ZL (c i)=λs=>ZL (A++B) s+if(J w).H % 32=s then 1 else 0:=by funext s;rw[e1,UG,PF,UG];omega
  have cntx:∀{j':aI},own j'=kR (J w)++((J w).cA++[(J w).H])->∀s,cnC (upC c i (A++B)) s+cnO (zS J w j') s=ind b s:=λ{j'} e s=>by have u1:=a9H (c:=c) hbk (A++B) s;have u2:=YH (J:=J) hw j' s;rw[e,RE,UG,UG,UG,PF,a9G] at u2;rw[hcl] at u1;have:=h.cnt s;simp only at u1;omega
  have okx:∀{j':aI} {b':aA},own j'=kR (J w)++((J w).cA++[(J w).H])->(∀x,kJ b.Mem x->kJ b'.Mem x)->∀x∈own j',kJ b'.Mem x:=λ{j' b'} e q x hx=>by
   rw[e] at hx;refine q x ?_;rcases dD.1 hx with hx|hx
   ·exact h.ok w hw x (NW h hw hx)
   ·rcases dD.1 hx with hx|hx
    ·exact h.ok w hw x (by rw[RE];exact aBP _ hx)
    ·rw[jJ.1 hx];exact hok
  by_cases q:(J w).gR=0
  ·rw[aO q];have hA:A=[]:=by
    rcases ZQ A with rfl|⟨L,z,rfl⟩
    ·rfl
    ·rw[aI9] at e1 e2 hch;rw[q] at e2;simp at e2;exact absurd e2.symm ((hch.all z ae).1.ne)
   subst hA;simp only[QT] at *;obtain⟨a1,a2,a3,a4⟩:=place (b':=b) (k':=k.set i.toNat {dL k i with Head:=(cJ b.Mem (J w).H).Next}) (c':=upC c i B) (j1:={J w with cA:=(J w).cA++[(J w).H]}) ⟨rfl,rfl,rfl,rfl,rfl,rfl,rfl⟩ ah (by rw[qD];exact hAB);refine⟨upC c i B,h.aPO hl hw hqv hc hJ (y:=0) (z:=-1) ⟨λx hx _=>⟨hx,λ_=>rfl⟩,.inl rfl,.inl rfl,λi' hi'' hq=>⟨by rw[heads _ _ hi'',aP (hno hi'' hq)],KU _ _ (hno hi'' hq)⟩,.inl rfl,λr hr=>.inl hr,λx hx=>.inl (by rw[a2] at hx;exact hx),λz=>absurd a4.2 (by rw[show(I1 _ _).Pc=15 from z];decide),λ_ _ _ p=>⟨p,rfl⟩,I3 _,λ_ _ _=>rfl⟩ rfl (λi' hi''=>?_) (λi' hi''=>?_) (cntx a3) (okx a3 λ_ x=>x) (λ_=>a1) (.no ⟨λz=>absurd a4.1 (by rw[show(I1 _ _).Pc=3 from z];decide),λz=>absurd a4.1 (by rw[show(I1 _ _).Pc=4 from z];decide)⟩) (.no ⟨λz=>absurd a4.1 (by rw[show(I1 _ _).Pc=6 from z];decide),λz=>absurd a4.2 (by rw[show(I1 _ _).Pc=15 from z];decide),λz=>absurd a4.2 (by rw[show(I1 _ _).Pc=21 from z];decide)⟩),⟨λi' hi'' z=>⟨KU _ _ (by rw[<-ebi];exact z (.inl p11)),λ_ _=>rfl⟩,λ_ k' z=>?_,λ_ z=>?_⟩⟩
   rotate_left 2
   ·rw[ebi,qD,e1];exact(aR5 (A:=[]) (by rw[<-n1,n2];exact λe=>z e.symm)).symm
   ·rw[ebi,qD,show wv (mR (J w))=none from aO (aI4 z)];exact aMI hAB
   ·rw[heads _ _ hi''];by_cases z:i'=i
    ·rw[aO z,z,qD];exact hH.2.2.2
    ·rw[aP z,KU _ _ z];exact h.ch i' hi''
   ·by_cases z:i'=i
    ·rw[z,qD];exact⟨hnd.2.1.2,λx hx=>hkey.2 x (by unfold mS at hx ⊢;rw[I5];exact lD _ hx)⟩
    ·rw[KU _ _ z];exact h.key i' hi''
  ·rw[aP q];obtain⟨A',rfl⟩:∃A',A=A'++[(J w).gR]:=by
    rcases ZQ A with rfl|⟨L,z,rfl⟩
    ·exact absurd e2 q
    ·rw[aI9] at e2 ⊢;exact⟨L,by rw[e2];simp⟩
   rw[o6,List.singleton_append] at e1 hch;have hpm:(J w).gR∈c i:=by rw[e1];simp
   have hpo:=hch.all (J w).gR ae;have hnx:(cJ b.Mem (J w).gR).Next=(J w).H:=by have:=(ChT.last (A:=A'++[(J w).gR]) (h:=(J w).H) (B:=B) (by rw[o6,List.singleton_append];exact hch)).1 (J w).gR ae;exact this
   obtain⟨g1,g2,g3,g4⟩:=bD6 hb.1.1 hpo.1 hH.2.2.1.2.2;generalize hm':Gv.aF1 b.Mem (J w).gR (cJ b.Mem (J w).H).Next=m' at g1 g2 g3 g4;have g2':cJ m' (J w).gR={cJ b.Mem (J w).gR with Next:=(cJ b.Mem (cJ b.Mem (J w).gR).Next).Next}:=by rw[hnx];exact g2
   have gk:∀x,kJ b.Mem x->kJ m' x/\(x≠(J w).gR->cJ m' x=cJ b.Mem x):=λx hx=>by
    by_cases z:x % 32=(J w).gR % 32
    ·have:=Y2 hx.1 hpo.1.1 z;subst this;exact⟨g1,λz=>absurd rfl z⟩
    ·exact⟨(g3 x hx z).1,λ_=>(g3 x hx z).2⟩
   have gkey:∀x,kJ b.Mem x->(cJ m' x).Key=(cJ b.Mem x).Key:=λx hx=>by
    by_cases z:x=(J w).gR
    ·rw[z,g2']
    ·rw[(gk x hx).2 z]
   have hall:∀a∈A'++[(J w).gR]++B,kJ b.Mem a:=λa ha=>(hch.all a (by simp only[dD,j6,jJ,aYX,or_false] at ha ⊢;grind)).1;obtain⟨a1,a2,a3,a4⟩:=place (b':={b with Mem:=m'}) (k':=k) (c':=upC c i (A'++[(J w).gR]++B)) (j1:={J w with cA:=(J w).cA++[(J w).H]}) ⟨rfl,rfl,rfl,rfl,rfl,rfl,rfl⟩ ah (by
    rw[qD];exact λa ha=>by rw[gkey a (hall a ha)];exact hAB a ha)
   have oth:Oth b {b with Mem:=m'} k k c (upC c i (A'++[(J w).gR]++B)) J w (I1 {J w with cA:=(J w).cA++[(J w).H]} (mR (J w))) (J w).gR (-1):=
    ⟨λx hx _=>gk x hx,.inl rfl,.inr (.inr ⟨⟨i,hbk,hlk,hpm⟩,g2',by rw[hnx];exact hok.ne⟩),λi' hi'' hq=>⟨rfl,KU _ _ (hno hi'' hq)⟩,.inl rfl,λr hr=>.inl hr,λx hx=>.inl (by rw[a2] at hx;exact hx),λz=>absurd a4.2 (by rw[show(I1 _ _).Pc=15 from z];decide),λ_ _ _ p=>⟨p,rfl⟩,I3 _,λ_ _ _=>rfl⟩
   have hnd2:=hkey.1;have hnoP:∀i',nY i'->i'≠i->(J w).gR∉c i':=λi' hi'' z hy=>by have u1:=a08 c hi'' hbk z ((J w).gR % 32);have u2:=QL hy;have u3:=QL hpm;have u4:=h.cnt ((J w).gR % 32);have u5:=aMC b ((J w).gR % 32);omega
   have gval:∀a,kJ b.Mem a->(cJ m' a).dI=(cJ b.Mem a).dI:=λa ha=>by
    by_cases z:a=(J w).gR
    ·rw[z,g2']
    ·rw[(gk a ha).2 z]
   refine⟨_,h.aPO hl hw hqv hc hJ oth rfl (λi' hi''=>?_) (λi' hi''=>?_) (λs=>by rw[cntx a3 s];exact(ind0 (b':={b with Mem:=m'}) g4 rfl s).symm) (okx a3 λx hx=>(gk x hx).1) (λ_=>a1) (.no ⟨λz=>absurd a4.1 (by rw[show(I1 _ _).Pc=3 from z];decide),λz=>absurd a4.1 (by rw[show(I1 _ _).Pc=4 from z];decide)⟩) (.no ⟨λz=>absurd a4.1 (by rw[show(I1 _ _).Pc=6 from z];decide),λz=>absurd a4.2 (by rw[show(I1 _ _).Pc=15 from z];decide),λz=>absurd a4.2 (by rw[show(I1 _ _).Pc=21 from z];decide)⟩),⟨λi' hi'' z=>⟨KU _ _ (by rw[<-ebi];exact z (.inl p11)),λx hx=>(gk x ((h.ch i' hi'').all x hx).1).2 λe=>hnoP i' hi'' (by rw[<-ebi];exact z (.inl p11)) (e ▸ hx)⟩,λ_ k' z=>?_,λ_ z=>?_⟩⟩
   rotate_left 2
   ·rw[ebi,qD,e1];show lkp m' _ k'=_;rw[YJ (m:=b.Mem) (λa ha=>⟨gkey a (hall a ha),gval a (hall a ha)⟩),show A'++(J w).gR::(J w).H::B=(A'++[(J w).gR])++(J w).H::B by simp];exact(aR5 (by rw[<-n1,n2];exact λe=>z e.symm)).symm
   ·rw[ebi,qD,show wv (mR (J w))=none from aO (aI4 z)];exact aMI λa ha=>by show(cJ m' a).Key≠_;rw[gkey a (hall a ha)];exact hAB a ha
   ·by_cases z:i'=i
    ·rw[z,qD,o6,List.singleton_append];have hdis:∀y∈A'++B,y≠(J w).gR:=λy hy e=>by
      have hn:=hnd2;unfold mS at hn;rw[o6,o7,o7,I5,I5,aOI] at hn;rcases dD.1 hy with hy|hy
      ·exact hn.2.2 _ (AU.2 ⟨y,hy,rfl⟩) _ (by rw[e];simp) rfl
      ·exact(ZT.1 hn.2.1).1 (by rw[<-e];exact lD _ (AU.2 ⟨y,hy,rfl⟩))
     exact hch.cut g2' g1 λy hy=>by obtain⟨x1,x2⟩:=gk y (hall y (by simp only[dD,jJ] at hy ⊢;grind));exact⟨x1,x2 (hdis y hy)⟩
    ·have hy:=hnoP i' hi'' z;exact((oth.chn h hw hi'' hy).2 rfl (KU _ _ z)).1
   ·by_cases z:i'=i
    ·rw[z,qD];have ek:mS m' (A'++[(J w).gR]++B)=mS b.Mem (A'++[(J w).gR]++B):=aFD λa ha=>gkey a (hall a ha);show(mS m' _).Nodup/\∀x∈mS m' _,_;rw[ek];have hsub:(mS b.Mem (A'++[(J w).gR]++B)).Sublist (mS b.Mem (A'++[(J w).gR]++(J w).H::B)):=by unfold mS;exact List.Sublist.map _ (List.Sublist.append_left (List.sublist_cons_self ..) _)
     exact⟨hnd2.sublist hsub,λx hx=>hkey.2 x (hsub.subset hx)⟩
    ·have hy:=hnoP i' hi'' z;rw[((oth.chn h hw hi'' hy).2 rfl (KU _ _ z)).2];exact h.key i' hi''
 rw[aP p11];have hp2:(J w).Pc=12\/(J w).Pc=13:=aa
 obtain⟨fd,fk⟩:=t.fl hp2;rw[ebi] at fk;obtain⟨nm,r,en,enr⟩:=aMD h hw t hj hp2;have hnw:=h.ok w hw _ (NW h hw nm);have hname:=h.name hw hw (NW h hw nm);have hnc:∀i',nY i'->GV (J w)∉c i':=λi' hi'' hm=>by have u1:=h.link hw hi'' hm;omega
 have hlen:¬((J w).gL.length:Int)<=fU (J w).aH (J w).K:=λz=>by have:(J w).gL.drop (fU (J w).aH (J w).K).toNat=[]:=aBN aa;rw[o.2,this] at nm;cases nm
 rw[aP hlen];have hbv:=hk2.2 _ (aRV hk2.1 hbk);by_cases p12:(J w).Pc=12
 ·rw[aO p12];rw[gT] at hol;obtain⟨g1,g2,g3,g4⟩:=bIY hb.1.1 hnw (n:=⟨(mR (J w)).Key,(mR (J w)).dI,(dL k i).Head⟩) ⟨hx.1,hx.2,hbv.1⟩;show ∃c',sK Ky {b with Mem:=aAG b.Mem (GV (J w)) ⟨(mR (J w)).Key,(mR (J w)).dI,(dL k i).Head⟩} k c' qn (zS J w {J w with Pc:=13})/\ChW b.Mem (aAG b.Mem (GV (J w)) ⟨(mR (J w)).Key,(mR (J w)).dI,(dL k i).Head⟩) c c' (J w) {J w with Pc:=13};generalize aAG b.Mem (GV (J w)) ⟨(mR (J w)).Key,(mR (J w)).dI,(dL k i).Head⟩=m' at g1 g2 g3 g4;have gk:∀x,kJ b.Mem x->kJ m' x/\(x≠GV (J w)->cJ m' x=cJ b.Mem x):=λx hx=>by
   by_cases z:x % 32=GV (J w) % 32
   ·have:=Y2 hx.1 hnw.1 z;subst this;exact⟨g1,λz=>absurd rfl z⟩
   ·exact⟨(g3 x hx z).1,λ_=>(g3 x hx z).2⟩
  have o':own {J w with Pc:=13}=own (J w)/\kR {J w with Pc:=13}=kR (J w):=by rw[o.1,o.2];exact aDN (j:={J w with Pc:=13}) ae
  have oth:Oth b {b with Mem:=m'} k k c c J w {J w with Pc:=13} (GV (J w)) (-1):=
   ⟨λx hx _=>gk x hx,.inl rfl,.inr (.inl nm),λ_ _ _=>⟨rfl,rfl⟩,.inl rfl,λr hr=>.inl hr,λx hx=>.inl (by rw[o'.2] at hx;exact hx),λz=>absurd z ae,λ_ _ _ p=>⟨p,rfl⟩,I3 _,λ_ _ _=>rfl⟩
  have chs:=λi' (hi'':nY i')=>oth.chn h hw hi'' (hnc i' hi'');refine⟨c,h.aPO hl hw hqv hc hJ oth rfl (λi' hi''=>((chs i' hi'').2 rfl rfl).1) (λi' hi''=>by rw[((chs i' hi'').2 rfl rfl).2];exact h.key i' hi'') (λs=>?_) (λx hx=>(gk x (h.ok w hw x (by rw[o'.1] at hx;exact hx))).1) (λ_=>tw ae ⟨rfl,rfl,rfl,rfl,rfl,rfl⟩ (λ_=>ah) (λ_=>by simp only;omega) ae ae (λ_=>⟨fd,λa ha=>?_⟩) (λ_=>?_)) (.no ae) (.no ae),⟨λi' hi'' _=>⟨rfl,λx hx=>(gk x ((h.ch i' hi'').all x hx).1).2 λe=>hnc i' hi'' (e ▸ hx)⟩,λ_ k' _=>?_,λ_ z=>by have:(J w).K=(J w).K+1:=z;omega⟩⟩
  rotate_left 3
  ·rw[ebi];exact YJ (λa ha=>by rw[(gk a ((h.ch i hbk).all a ha).1).2 λe=>hnc i hbk (e ▸ ha)];exact⟨rfl,rfl⟩) k'
  ·have u:=YH (J:=J) hw {J w with Pc:=13} s;rw[o'.1] at u;have u2:=h.cnt s;rw[ind0 (b':={b with Mem:=m'}) g4 rfl s];omega
  ·have ha':a∈c i:=by rw[show bi {J w with Pc:=13}=i from hi'] at ha;exact ha
   show(cJ m' a).Key≠_;rw[((chs i hbk).1 a ha').2];exact fk a ha'
  ·show cJ m' (GV (J w))=⟨_,_,(dL k (jD (mR (J w)).Key)).Head⟩;rw[hi'];exact g2
 ·rw[aP p12];have p13:(J w).Pc=13:=aa
  rw[gT] at hol;have ln:=t.ln p13;rw[ebi] at ln;rw[fd] at hpl;simp only[bU,bS] at hpl;show ∃c',sK Ky b (k.set i.toNat {dL k i with Head:=GV (J w)}) c' qn (zS J w {J w with Pc:=9,K:=(J w).K+1})/\ChW b.Mem b.Mem c c' (J w) {J w with Pc:=9,K:=(J w).K+1};have o':=aDN (j:={J w with Pc:=9,K:=(J w).K+1}) ae;have er':(J w).gL.drop (fU (J w).aH ((J w).K+1)).toNat=r:=by rw[<-enr,hpl];congr 1
  simp only[er'] at o';have e0:kR (J w)=GV (J w)::r:=en;have oth:Oth b b k (k.set i.toNat {dL k i with Head:=GV (J w)}) c (upC c i (GV (J w)::c i)) J w {J w with Pc:=9,K:=(J w).K+1} 0 (-1):=
   ⟨λx hx _=>⟨hx,λ_=>rfl⟩,.inl rfl,.inl rfl,λi' hi'' hq=>⟨by rw[heads _ _ hi'',aP (hno hi'' hq)],KU _ _ (hno hi'' hq)⟩,.inl rfl,λr hr=>.inl hr,λx hx=>.inl (by rw[o'.2] at hx;rw[e0];exact lD _ hx),λz=>absurd z ae,λ_ _ _ p=>⟨p,rfl⟩,I3 _,λ_ _ _=>rfl⟩
  refine⟨upC c i (GV (J w)::c i),h.aPO hl hw hqv hc hJ oth rfl (λi' hi''=>?_) (λi' hi''=>?_) (λs=>?_) (λx hx=>h.ok w hw x ?_) (λ_=>tw ae ⟨rfl,rfl,rfl,rfl,rfl,rfl⟩ (λ_=>ah) ae ae ae ae ae) (.no ae) (.no ae),⟨λi' hi'' z=>⟨KU _ _ (by rw[<-ebi];exact z (.inr p13)),λ_ _=>rfl⟩,λ_ k' z=>?_,λ_ _=>?_⟩⟩
  rotate_left 4
  ·rw[ebi,qD];exact aR5 (A:=[]) (by rw[ln];exact λe=>z e.symm)
  ·rw[ebi,qD];unfold lkp;rw[List.find?_cons,ln];simp[wv,fd,ln]
  ·rw[heads _ _ hi''];by_cases z:i'=i
   ·rw[aO z,z,qD];exact⟨rfl,hnw,by rw[ln];exact⟨hx.1,hx.2,hbv.1⟩,by rw[ln];exact hch⟩
   ·rw[aP z,KU _ _ z];exact h.ch i' hi''
  ·by_cases z:i'=i
   ·rw[z,qD];have ek:mS b.Mem (GV (J w)::c i)=(mR (J w)).Key::mS b.Mem (c i):=by show(cJ b.Mem (GV (J w))).Key::_=_;rw[ln];rfl
    rw[ek];refine⟨ZT.2 ⟨λhm=>?_,hkey.1⟩,λx hx=>?_⟩
    ·obtain⟨a,ha,e⟩:=AU.1 hm;exact fk a ha e
    ·rcases j6.1 hx with rfl|hx
     ·exact⟨hi',t.ky.1 _ hxm⟩
     ·exact hkey.2 x hx
   ·rw[KU _ _ z];exact h.key i' hi''
  ·have u1:=a9H (c:=c) hbk (GV (J w)::c i) s;have u2:=YH (J:=J) hw {J w with Pc:=9,K:=(J w).K+1} s;rw[o'.1,RE,e0,UG,UG,PF] at u2;rw[PF] at u1;have:=h.cnt s;omega
  ·rw[RE,e0];rw[o'.1] at hx;simp only[dD,j6] at hx ⊢;exact hx.imp .inr id
end
def sjT(j:aI):Job:=⟨j.bO,⟨if j.Pc=0 then 5 else if j.Pc=20\/j.Pc=21 then 4 else 3,0,0,0⟩,0,if j.Pc=21 then 1 else 0,j.Sub,0,0,0,0⟩
def EpT(c:aC)(J:Int->aI):Prop:=Ep c λv=>sjT (J v)
theorem aVC(J:Int->aI)(w:Int)(j:aI):(λv=>sjT (zS J w j v))=upJ (λv=>sjT (J v)) w (sjT j):=by grind[zS,upJ]
theorem a1B(h:j=cG\/j.Pc≠0/\j.Pc≠20/\(j.Pc=21->j.Sub.Kind=4)):Calm (sjT j):=by
 rcases h with rfl|⟨h1,h2,h3⟩
 ·exact⟨λq=>(by cases q.1),λq=>(by cases q.1),λq=>absurd q ai,λq=>absurd q ai⟩
 ·unfold Calm qB Adv sjT;grind
theorem aMJ(hb:j.bO=true)(h:j.Pc=0):qB (sjT j):=⟨hb,by simp[sjT,h],by simp[sjT,h]⟩
theorem a9R(hb:j.bO=true)(h:j.Pc=20):Adv (sjT j):=⟨hb,by simp[sjT,h],by simp[sjT,h]⟩
theorem aDO(h:j=cG\/j.Pc≠0):¬qB (sjT j):=λq=>by
 rcases h with rfl|h
 ·cases q.1
 ·have:=q.2.1;unfold sjT at this;grind
theorem bI2(j:aI)(c:iP)(v:Int)(is:Bool):(lL j c v is).Pc=j.Pc\/(lL j c v is).Pc=16\/(lL j c v is).Pc=1:=by grind[lL,SI,SH,kH,nZ]
theorem a9S{b:aA}(h:1<=j.Pc/\j.Pc<=19):(dX b k w j).j=cG\/1<=(dX b k w j).j.Pc/\(dX b k w j).j.Pc<=19:=by
 have keep:∀{j':aI},(j'.Pc=j.Pc\/1<=j'.Pc/\j'.Pc<=19)->j'=cG\/1<=j'.Pc/\j'.Pc<=19:=λq=>.inr aa;unfold dX;rw[gT];refine dM (P:=λr=>r.j=cG\/1<=r.j.Pc/\r.j.Pc<=19) (λp=>keep (by grind[oA,kH,nZ,lL,SI,SH])) λ_=>dM (P:=λr=>r.j=cG\/1<=r.j.Pc/\r.j.Pc<=19) (λp=>keep (by grind[iB,kH,nZ,lL,SI,SH])) λ_=>
  dM (P:=λr=>r.j=cG\/1<=r.j.Pc/\r.j.Pc<=19) (λp=>keep (by grind[qP,nZ])) λ_=>dM (P:=λr=>r.j=cG\/1<=r.j.Pc/\r.j.Pc<=19) (λp=>keep (by grind[mQ,D4,nZ])) λ_=>
  dM (P:=λr=>r.j=cG\/1<=r.j.Pc/\r.j.Pc<=19) (λp=>keep (by grind[GU,nZ])) λ_=>dM (P:=λr=>r.j=cG\/1<=r.j.Pc/\r.j.Pc<=19) (λp=>keep (by grind[jH,I1,nZ])) λ_=>
  dM (P:=λr=>r.j=cG\/1<=r.j.Pc/\r.j.Pc<=19) (λp=>keep (by grind[wR,G4])) λ_=>dM (P:=λr=>r.j=cG\/1<=r.j.Pc/\r.j.Pc<=19) (λp=>keep (by grind[wS,G4])) λ_=>
  dM (P:=λr=>r.j=cG\/1<=r.j.Pc/\r.j.Pc<=19) (λp=>keep (by grind[wT])) λ_=>dM (P:=λr=>r.j=cG\/1<=r.j.Pc/\r.j.Pc<=19) (λp=>.inr ae) λ_=>dM (P:=λr=>r.j=cG\/1<=r.j.Pc/\r.j.Pc<=19) (λp=>.inl rfl) λ_=>.inr (by simp[nZ])
section
variable {b:aA} {k:List bR} {J:Int->aI} {w:Int} (hw:eO w) (hc:KP b.aC) (h:EpT b.aC J) (hB:(J w).bO=true)
include hw hc h hB
theorem aVD{cl:aC}(e:cl=b.aC)(hp:(J w).Pc≠0)(hj:j'=cG\/j'.Pc≠0/\j'.Pc≠20/\(j'.Pc=21->j'.Sub.Kind=4)):EpT cl (zS J w j'):=by unfold EpT;rw[aVC,e];exact h.still hw (aDO (.inr hp)) (a1B hj)
theorem aMK:((J w).Pc=0->(J w).Sub.Kind=5/\(J w).Sub.gK=false/\((J w).Sub.Pc=0\/(J w).Sub.Pc=1/\(0<=(J w).Sub.E/\(J w).Sub.E<=b.aC.aK)\/(J w).Sub.Pc=2/\(cS b.aC w).aK=(J w).Sub.E)) /\
  ((J w).Pc=20->(J w).Sub.Kind=3/\(J w).Sub.gK=false/\((J w).Sub.Pc=0\/(J w).Sub.E<=b.aC.aK/\((J w).Sub.Pc=1/\(0<=(J w).Sub.B/\(J w).Sub.B<=2)\/(J w).Sub.Pc=2/\(J w).Sub.B=3))):=by
 obtain⟨_,_,a,p⟩:=h.1 w hw hB;exact⟨λq=>p (aMJ hB q),λq=>a (a9R hB q)⟩
theorem bLQ(hk6:(J w).Pc=6\/(J w).Pc=15/\(J w).K<(J w).cA.length->(J w).Sub.Kind=1\/(J w).Sub.Kind=2)(hk21:(J w).Pc=21->(J w).Sub.Kind=4)(hpc:0<=(J w).Pc/\(J w).Pc<=21):EpT (dX b k w (J w)).b.aC (zS J w (dX b k w (J w)).j):=by
 obtain⟨s0,s20⟩:=aMK hw hc h hB;by_cases p0:(J w).Pc=0
 ·obtain⟨k5,d,_⟩:=s0 p0;have es:gQ b w (J w).Sub=qO b w (J w).Sub:=by grind[gQ]
  have e:dX b k w (J w)=⟨(qO b w (J w).Sub).1,k,if(qO b w (J w).Sub).2.gK then {J w with Pc:=1,Sub:=(qO b w (J w).Sub).2} else {J w with Sub:=(qO b w (J w).Sub).2},[]⟩:=by unfold dX;rw[aO (.inl p0)];grind[lC]
  rw[e];unfold EpT;rw[aVC];have:=h.pin hw (b:=b) rfl hc rfl (aMJ hB p0) (fin:=sjT {J w with Pc:=1,Sub:=(qO b w (J w).Sub).2}) (a1B (.inr ae));rw[show(sjT (J w)).Sub=(J w).Sub from rfl] at this;cases hd:(qO b w (J w).Sub).2.gK
  ·rw[hd,gJ] at this;rw[gJ];exact this
  grind
 by_cases p20:(J w).Pc=20
 ·obtain⟨k3,d,_⟩:=s20 p20;have es:gQ b w (J w).Sub=fF b (J w).Sub:=by grind[gQ]
  have e:dX b k w (J w)=⟨(fF b (J w).Sub).1,k,if(fF b (J w).Sub).2.gK then {J w with Pc:=21,Sub:=yK 4 0} else {J w with Sub:=(fF b (J w).Sub).2},[]⟩:=by unfold dX;rw[aO (.inr (.inl p20))];grind[lC]
  rw[e];unfold EpT;rw[aVC];have:=h.advance hw (b:=b) rfl hc rfl (a9R hB p20) (fin:=sjT {J w with Pc:=21,Sub:=yK 4 0}) (a1B (.inr (by simp[yK])));rw[show(sjT (J w)).Sub=(J w).Sub from rfl] at this;cases hd:(fF b (J w).Sub).2.gK
  ·rw[hd,gJ] at this;rw[gJ];exact this
  grind
 by_cases p21:(J w).Pc=21
 ·have hcl:=DJ (b:=b) (w:=w) (s:=(J w).Sub) aa;have e:dX b k w (J w)=⟨(lC b w (J w)).1,k,(lC b w (J w)).2,[]⟩:=by simp_all[dX]
  grind[aVD,a3J,lC]
 by_cases p18:(J w).Pc=18
 ·have e:dX b k w (J w)=⟨{b with aC:=(H6 b.aC w).1},k,{J w with Pc:=19},[]⟩:=by unfold dX;simp[p18]
  rw[e];unfold EpT;rw[aVC];exact h.bLO hw hc (aDO (.inr p0)) (a1B (.inr ae))
 have hcl:(dX b k w (J w)).b.aC=b.aC:=by
  unfold dX;rw[gT];refine dM (P:=λr=>r.b.aC=b.aC) (λp=>rfl) λ_=>dM (P:=λr=>r.b.aC=b.aC) (λp=>rfl) λ_=>dM (P:=λr=>r.b.aC=b.aC) (λp=>?_) λ_=>dM (P:=λr=>r.b.aC=b.aC) (λp=>rfl) λ_=>dM (P:=λr=>r.b.aC=b.aC) (λp=>rfl) λ_=>
   dM (P:=λr=>r.b.aC=b.aC) (λp=>by grind[jH]) λ_=>dM (P:=λr=>r.b.aC=b.aC) (λp=>rfl) λ_=>dM (P:=λr=>r.b.aC=b.aC) (λp=>?_) λ_=>dM (P:=λr=>r.b.aC=b.aC) (λp=>by grind[wT]) λ_=>dM (P:=λr=>r.b.aC=b.aC) (λp=>absurd p p18) λ_=>dM (P:=λr=>r.b.aC=b.aC) (λp=>rfl) λ_=>rfl
  ·have:=DJ (b:=b) (w:=w) (s:=(J w).Sub) (by have:=hk6 (.inl p);omega);unfold qP;grind
  ·unfold wS;split
   ·rfl
   ·exact DJ (by have:=hk6 (.inr ⟨p,aa⟩);omega)
 grind[aVD,a9S]
end
theorem a9T{c:aC}{J:Int->aI}(hw:eO w)(h:EpT c J)(hn:J w=cG)(x:Batch)(s:Int):EpT c (zS J w (gY x s)):=by
 unfold EpT;rw[aVC];have e:sjT (gY x s)=⟨true,⟨if x.Collect then 4 else 5,0,0,0⟩,0,0,if x.Collect then yK 3 0 else yK 5 0,0,0,0,0⟩:=by grind[sjT,gY]
 refine h.step hw rfl (λ_ _ _=>rfl) ?_ (λ_ o1 o2=>?_) (λ_=>.inl ?_)
 ·rw[e];intro _;grind[Adv,qB,yK]
 ·obtain⟨a1,a2⟩:=h.2 w hw (aDO (.inl hn)) o1 o2;grind
 ·rw[e];cases x.Collect<;>rfl
theorem sK.congr{b:aA}{c:Int->List Int}{q:Int->Nat}{J J':Int->aI}(h:sK Ky b k c q J)(e:∀v,eO v->J' v=J v):sK Ky b k c q J':=by have e0:=e 0 (by simp[eO]);have e1:=e 1 (by simp[eO]);have e2:=e 2 (by simp[eO]);refine⟨h.hz,h.ch,h.key,λs=>by unfold cnO;rw[e0,e1,e2];exact h.cnt s,λv hv=>by rw[e v hv];exact h.ok v hv,λv hv=>by rw[e v hv];exact h.tw v hv,λv hv=>?_,λv hv=>by rw[e v hv];exact h.sb v hv⟩;rw[e v hv];intro p q;obtain⟨r,⟨a,la⟩,z⟩:=h.rd v hv p q;exact⟨r,⟨⟨a.rp,a.nd,a.ky,λx hx=>⟨(a.sf x hx).1,λu hu=>by rw[e u hu];exact(a.sf x hx).2 u hu⟩⟩,la⟩,z⟩
section
variable {Ky:List Int} {b:aA} {k:List bR} {c:Int->List Int} {q:Int->Nat} {J:Int->aI} {w:Int} (h:sK Ky b k c q J) (hl:∀v,eO v->YG k v (J v)) (hw:eO w) (hb:mP b) (hk:k.length=2/\∀x∈k,BkV x) (hJ:∀v,eO v->(J v).bO=true->JB (J v)) (hB:(J w).bO=true) (hep:EpT b.aC J)
include h hl hw hb hk hJ hB hep
theorem bI3(hp:(J w).Pc=0\/(J w).Pc=20\/(J w).Pc=21):sK Ky (lC b w (J w)).1 k c q (zS J w (lC b w (J w)).2):=by
 have hc:=hb.1.2.1;obtain⟨s0,s20⟩:=aMK hw hc hep hB;rcases hp with p|p|p
 ·obtain⟨k5,d,_⟩:=s0 p;have es:gQ b w (J w).Sub=qO b w (J w).Sub:=by grind[gQ]
  unfold lC;rw[es,aO p];by_cases z:(qO b w (J w).Sub).2.gK=false
  ·rw[aO z];grind[a9M]
  ·rw[aP z];grind[a9M]
 ·obtain⟨k3,d,_⟩:=s20 p;have es:gQ b w (J w).Sub=fF b (J w).Sub:=by grind[gQ]
  unfold lC;rw[es,aP (show ¬(J w).Pc=0 by omega),aO p];by_cases z:(fF b (J w).Sub).2.gK=false
  ·rw[aO z];grind[a9N]
  ·rw[aP z];grind[a9N]
 ·obtain⟨k4,d,_⟩:=(h.sb w hw).col p;have es:gQ b w (J w).Sub=cQ b w (J w).Sub:=by simp_all[gQ]
  have hE:∀v,eO v->(J v).Pc=3\/(J v).Pc=4->jI b.aC v->b.aC.aK<=(cS b.aC v).aK+1:=λv hv q hp=>(hep.2 v hv (aDO (.inr aa)) hp.1 hp.2).1;unfold lC;rw[es,aP (show ¬(J w).Pc=0 by omega),aP (show ¬(J w).Pc=20 by omega)];by_cases z:(cQ b w (J w).Sub).2.gK=false
  ·rw[aO z];exact(aMG h hl hw hb hJ hB hE p (.inr ⟨z,rfl⟩)).1
  ·rw[aP z];exact(aMG h hl hw hb hJ hB hE p (.inl ⟨ak,rfl⟩)).1
omit hl hk hJ in
theorem bI4(hp:(J w).Pc<9\/13<(J w).Pc)(hi:nY i){x:Int}(hx:x∈c i):cJ (dX b k w (J w)).b.Mem x=cJ b.Mem x:=by
 have hc:=hb.1.2.1;have hL:=hb.1.2.2.1;have ok:=((h.ch i hi).all x hx).1;have hs:=h.sb w hw;obtain⟨s0,s20⟩:=aMK hw hc hep hB;have kn:∀{m':Mem} {z:Int},Kn b.Mem m' z->x % 32≠z->cJ m' x=cJ b.Mem x:=λa e=>(a x ok e).2;have me:∀{m':Mem},m'=b.Mem->cJ m' x=cJ b.Mem x:=λe=>by rw[e]
 unfold dX;have P:∀{c:Prop} [Decidable c] {y z:TR},(c->cJ y.b.Mem x=cJ b.Mem x)->(¬c->cJ z.b.Mem x=cJ b.Mem x)->_:=dM (P:=λr=>cJ r.b.Mem x=cJ b.Mem x);refine P (λp=>?_) λ_=>P (λ_=>rfl) λ_=>P (λ_=>rfl) λ_=>P (λp=>?_) λ_=>P (λ_=>rfl) λ_=>P (λ_=>rfl) λ_=>P (λ_=>aa) λ_=>P (λ_=>rfl) λ_=>P (λp=>?_) λ_=>P (λp=>?_) λ_=>P (λ_=>rfl) λ_=>P (λ_=>rfl) λ_=>rfl
 ·show cJ (gQ b w (J w).Sub).1.Mem x=_;rcases p with p|p|p
  ·obtain⟨k5,d,_⟩:=s0 p;obtain⟨cl,e,_⟩:=aYE hc hw (J w).Sub;simp_all[gQ]
  ·obtain⟨k3,d,_⟩:=s20 p;obtain⟨cl,e,_⟩:=aYF hc (J w).Sub;grind[gQ]
  ·obtain⟨k4,d,_⟩:=hs.col p;rw[show gQ b w (J w).Sub=cQ b w (J w).Sub by grind[gQ]];have e:(cQ b w (J w).Sub).1.Mem=b.Mem\/NV (dF b.aQ w) (J w).Sub/\(cQ b w (J w).Sub).1.Mem=qA b.Mem w (J w).Sub.H:=by grind[cQ]
   rcases e with e|⟨ha,e⟩
   ·exact me e
   ·have hrm:=PE hL hw (aDJ ⟨ha.1,ha.2.1⟩);have lv:=(hb.2 _ hrm).1;have hkn:=aI2 hb.1.1 hw lv;rw[ha.2.2] at hkn;rw[e];refine kn hkn λz=>?_;have u:=h.link hw hi hx;have u2:ind b (x % 32)=0:=aP λy=>y.2 ⟨_,hrm,lv.1,by rw[ha.2.2];exact z.symm⟩;omega
 ·show cJ (qP b w (J w)).1.Mem x=_;unfold qP;split
  ·rfl
  ·obtain⟨s1,s2,s3,s4⟩:=hs.al p;rcases(aI3 hb.1.1 hw s1 s2 s3 s4).two with ⟨e,_⟩|⟨_,_,_,_,e⟩
   ·exact me e
   ·exact kn e aa
 ·show cJ (wS b w (J w)).1.Mem x=_;unfold wS;split
  ·rfl
  ·rename_i q;obtain⟨_,k2,d,_⟩:=hs.rt p aa;grind[gQ,uF]
 ·show cJ (wT b w (J w)).1.Mem x=_;unfold wT;split
  ·rfl
  ·rename_i q;simp only;split
   ·rfl
   ·simp only[aUT];split
    ·rename_i lv;refine kn (aI2 hb.1.1 hw lv) λz=>?_;have hy:(J w).gL.getD 0 0∈own (J w):=by grind[own,kR]
     have u1:=h.link hw hi hx;have u2:=h.name hw hw hy;grind
    ·rfl
theorem bGB:∃c',sK Ky (dX b k w (J w)).b (dX b k w (J w)).k c' (upQ q w (qF Ky.length (q w) (J w))) (zS J w (dX b k w (J w)).j)/\ChW b.Mem (dX b k w (J w)).b.Mem c c' (J w) (dX b k w (J w)).j:=by
 have hc:=hb.1.2.1;have hpc:=(h.tw w hw hB).pc;by_cases hp:9<=(J w).Pc/\(J w).Pc<=13
 ·have e:dX b k w (J w)=⟨(jH b k (J w)).1,(jH b k (J w)).2.1,(jH b k (J w)).2.2,[]⟩:=by unfold dX;grind
  grind[a9Q]
 have hm:=λi hi x hx=>bI4 h hw hb hB hep aa (i:=i) hi (x:=x) hx;refine⟨c,?_,λi hi _=>⟨rfl,hm i hi⟩,λz=>absurd z hp,λz=>absurd z hp⟩;clear hm;have sm:((J w).Pc≠2/\(J w).Pc≠4)->∀{b':aA} {k':List bR} {j':aI},sK Ky b' k' c q (zS J w j')->sK Ky b' k' c (upQ q w (qF Ky.length (q w) (J w))) (zS J w j'):=λz {b' k' j'} s=>by rw[show qF Ky.length (q w) (J w)=q w by unfold qF;grind,a9F];exact s
 unfold dX;generalize hq:upQ q w (qF Ky.length (q w) (J w))=q' at sm ⊢;have P:∀{d:Prop} [Decidable d] {y z:TR},(d->sK Ky y.b y.k c q' (zS J w y.j))->(¬d->sK Ky z.b z.k c q' (zS J w z.j))->_:=dM (P:=λr=>sK Ky r.b r.k c q' (zS J w r.j));exact P (λp=>sm aa (bI3 h hl hw hb hk hJ hB hep p)) λ_=>P (λp=>sm aa (bD9 h hl hw hc hJ hB p)) λ_=>P (λp=>hq ▸ bEB h hl hw hc hJ hB p) λ_=>P (λp=>sm aa (a9O h hl hw hb hJ hB p)) λ_=>P (λp=>sm aa (bEC h hl hw hc hJ hB hk.1 p)) λ_=>
  P (λp=>sm aa (bI0 h hl hw hc hJ hB p)) λ_=>P (λp=>absurd p hp) λ_=>P (λp=>sm aa (a3V h hl hw hc hJ hB hk.1 p)) λ_=>P (λp=>sm aa (a3W h hl hw hb hJ hB p)) λ_=>P (λp=>sm aa (bEE h hl hw hb hJ hB p)) λ_=>P (λp=>sm aa (a9L h hl hw hc hJ hB p)) λ_=>P (λp=>sm aa (bED h hl hw hc hJ hB p)) λ_=>aa
end
structure Sft (Ky:List Int) (q:Int->Nat) (t:Table):Prop where
 sv:∃c,sK Ky t.aA t.aR c q (aD t)
 lk:aL5 t
 ep:EpT t.aA.aC (aD t)
 qk:∀w,eO w->∀b∈mF t w,∀x∈b.bK,x.Key∈Ky
theorem Ep.a9U{c:aC}{J J':Int->aI}(h:EpT c J)(e:∀v,eO v->J' v=J v):EpT c J':=Ep.congr (J:=λv=>sjT (J v)) h λv hv=>by rw[e v hv]
theorem PG(h3:t.aS.length=3)(hw:eO w){l:List aI}{x:aI}(hl:l=t.aS.set w.toNat x){v:Int}(hv:eO v):l.getD v.toNat cG=zS (aD t) w x v:=aL6 h3 hl hw hv
theorem a9V(h3:t.eE.length=3){v:Int}(hw:eO w)(hv:eO v)(l:List Batch):((t.eE.set w.toNat ⟨l⟩).getD v.toNat ⟨[]⟩).List=if v=w then l else mF t v:=by grind[mF]
def nxQ(Ky:List Int)(q:Int->Nat)(t:Table)(w:Int):Int->Nat:=if(aD t w).bO then upQ q w (qF Ky.length (q w) (aD t w)) else q
theorem Sft.step{q:Int->Nat}(hv:TV t)(hw:eO w)(h:Sft Ky q t):Sft Ky (nxQ Ky q t w) (aY t w):=by
 have h3:=hv.yO.1;have hJ:∀v,eO v->(aD t v).bO=true->JB (aD t v):=λv hv' hB=>(hv.yO.2 _ (zR h3 hv')).resolve_left λe=>by rw[e] at hB;cases hB
 obtain⟨c,hs⟩:=h.sv;have hlk:=h.lk.step hv hw;have hc:=hv.base.1.2.1;unfold nxQ;unfold aY at hlk ⊢;by_cases hB:(aD t w).bO=true
 ·rw[aO hB] at hlk ⊢;rw[aO hB];obtain⟨c',q,_⟩:=bGB hs h.lk hw hv.base hv.bk hJ hB h.ep;have e:∀v,eO v->aD (yL t w (dX t.aA t.aR w (aD t w))) v=zS (aD t) w (dX t.aA t.aR w (aD t w)).j v:=λv hv'=>PG h3 hw rfl hv';have sb:=hs.sb w hw;refine⟨⟨c',q.congr e⟩,hlk,Ep.a9U (bLQ hw hc h.ep hB (λp=>?_) (λp=>(sb.col p).1) (hs.tw w hw hB).pc) e,h.qk⟩;rcases p with p|⟨p,p'⟩
  ·exact .inl (sb.al p).1
  ·exact .inr (sb.rt p p').2.1
 ·rw[aP hB] at hlk ⊢;rw[aP hB];by_cases hq:(mF t w).length=0\/t.aG=1000000
  ·grind
  ·rw[aP hq] at hlk ⊢;have hp0:0<(mF t w).length:=aa
   have er:(mF t w).getD 0 ⟨false,[]⟩=(mF t w)[0]:=ak
   have hm:(mF t w).getD 0 ⟨false,[]⟩∈mF t w:=ak
   have hn:aD t w=cG:=(hv.yO.2 _ (zR h3 hw)).resolve_right λj=>hB j.busy;generalize (mF t w).getD 0 ⟨false,[]⟩=x at hm hlk;have e:∀v,eO v->aD (qQ t w x) v=zS (aD t) w (gY x (t.aG+1)) v:=λv hv'=>PG h3 hw rfl hv';refine⟨⟨c,(aVA hs h.lk hw hc hJ hn (h.qk w hw x hm) _).congr e⟩,hlk,Ep.a9U (a9T hw h.ep hn x _) e,λv hv' y hy z hz=>?_⟩;have ev:mF (qQ t w x) v=if v=w then(mF t w).drop 1 else mF t v:=a9V hv.todo.1 hw hv' _;rw[ev] at hy;split at hy
   ·exact h.qk w hw y (QQ hy) z hz
   ·exact h.qk v hv' y hy z hz
theorem Sft.zero{l:List aN}(hk:∀q∈l,∀b∈q.List,∀x∈b.bK,x.Key∈Ky):Sft Ky (λ_=>0) (cC l):=by
 have ej:∀w,eO w->aD (cC l) w=cG:=λw hw=>by rcases(by omega:w=0\/w=1\/w=2) with rfl|rfl|rfl<;>rfl
 have eb:∀i,nY i->dL (cC l).aR i=⟨0,0,0⟩:=λi hi=>by rcases(by omega:i=0\/i=1) with rfl|rfl<;>rfl
 have o:own cG=[]:=(GW (.inl ai)).1;have e0:=ej 0 (by simp[eO]);have e1:=ej 1 (by simp[eO]);have e2:=ej 2 (by simp[eO]);refine⟨⟨λ_=>[],rfl,λi hi=>by rw[eb i hi];rfl,λi _=>by simp[mS],λs=>?_,λv hv x hx=>?_,λv hv hB=>?_,λv hv=>by rw[ej v hv];exact .no ai,λv hv=>by rw[ej v hv];exact .no ai⟩,aL5.zero l,?_,λw hw b hb x hx=>?_⟩
 ·have:ind (cC l).aA s=0:=UH (.inl λq=>by
   have hc:=dO q;obtain⟨h1,h2,_⟩:=rB hc;have h3:=jZ.1 (show 0<cK (dA a0W (s/4).toNat) from Int.lt_of_le_of_lt aa h2);rcases(by omega:(s/4).toNat=0\/(s/4).toNat=1\/(s/4).toNat=2\/(s/4).toNat=3\/(s/4).toNat=4\/(s/4).toNat=5) with e|e|e|e|e|e<;>rw[e] at h3<;>exact absurd h3.1 ai)
  simp_all[cnC,cnO]
 ·grind
 ·rw[ej v hv] at hB;cases hB
 ·refine⟨λw hw hB=>?_,λw hw _ o1=>?_⟩
  ·have hB':(sjT (aD (cC l) w)).bO=true:=hB;rw[ej w hw] at hB';cases hB'
  ·rcases(by omega:w=0\/w=1\/w=2) with rfl|rfl|rfl<;>cases o1
 grind[mF,cC]
def UI(e:Int)(s:Sub):Int:=if s.Pc=0 then 3 else if s.Pc=1 then(if s.E=e then 2 else 5) else if s.E=e then 1 else 4
def QM(s:Sub):Int:=if s.Pc=0 then 5 else if s.Pc=1 then 4-s.B else 1
def UJ(s:Sub):Int:=if s.Pc=0 then 8 else if s.Pc=1 then 7 else if s.Pc=2 then 6-s.B else 3
def b9(e:Int)(q:Nat)(j:aI):Int:=
 if j.bO=false then 0
 else if j.Pc=0 then UI e j.Sub+j.Batch.bK.length*42+15
 else if j.Pc=1 then(j.Batch.bK.length-j.At)*19+j.Batch.bK.length*23+15
 else if j.Pc=2 then(j.Batch.bK.length-j.At)*19-1+j.Batch.bK.length*23+15
 else if j.Pc=3 then(j.Batch.bK.length-j.At-1)*19+2*q+3+j.Batch.bK.length*23+15
 else if j.Pc=4 then(j.Batch.bK.length-j.At-1)*19+2*q+2+j.Batch.bK.length*23+15
 else if j.Pc=5 then(j.Batch.bK.length-j.At-1)*19+1+j.Batch.bK.length*23+15
 else if j.Pc=6 then(if j.K<fU j.aH j.aH.length then 4*(fU j.aH j.aH.length-j.K)-j.Sub.Pc else 0)+j.aH.length*19+14
 else if j.Pc=7 then(if j.K<(m0 j.aH).length then 13-j.K else 11)+j.aH.length*19
 else if j.Pc=8 then(if j.K<j.Reads.length then(j.Reads.length:Int)-j.K else 0)+6+j.bD.length+j.aH.length*19
 else if j.Pc=9 then(if j.K<j.aH.length then((j.aH.length:Int)-j.K)*19 else 0)+5+7*j.cA.length+j.bD.length
 else if j.Pc=10 then(j.aH.length-j.K)*19-3+q+7*j.cA.length+j.bD.length
 else if j.Pc=11 then(j.aH.length-j.K)*19-4+7*j.cA.length+j.bD.length
 else if j.Pc=12 then(j.aH.length-j.K)*19-12+7*j.cA.length+j.bD.length
 else if j.Pc=13 then(j.aH.length-j.K)*19-13+7*j.cA.length+j.bD.length
 else if j.Pc=14 then 4+7*j.cA.length+j.bD.length
 else if j.Pc=15 then(if j.K<j.cA.length then 3+7*(j.cA.length-j.K)-j.Sub.Pc else 3)
 else if j.Pc=16 then 4+j.gL.length+j.bD.length
 else if j.Pc=17 then 3+j.gL.length
 else if j.Pc=18 then 2
 else if j.Pc=19 then 1
 else if j.Pc=20 then QM j.Sub+8
 else UJ j.Sub
section
variable {e:Int} {q:Nat} {j:aI} (hB:j.bO=true)
include hB
theorem jc0(hp:j.Pc=0):b9 e q j=UI e j.Sub+j.Batch.bK.length*42+15:=by simp_all[b9]
theorem jc1(hp:j.Pc=1):b9 e q j=(j.Batch.bK.length-j.At)*19+j.Batch.bK.length*23+15:=by simp_all[b9]
theorem jc2(hp:j.Pc=2):b9 e q j=(j.Batch.bK.length-j.At)*19-1+j.Batch.bK.length*23+15:=by simp_all[b9]
theorem jc3(hp:j.Pc=3):b9 e q j=(j.Batch.bK.length-j.At-1)*19+2*q+3+j.Batch.bK.length*23+15:=by simp_all[b9]
theorem jc4(hp:j.Pc=4):b9 e q j=(j.Batch.bK.length-j.At-1)*19+2*q+2+j.Batch.bK.length*23+15:=by simp_all[b9]
theorem jc5(hp:j.Pc=5):b9 e q j=(j.Batch.bK.length-j.At-1)*19+1+j.Batch.bK.length*23+15:=by simp_all[b9]
theorem jc6(hp:j.Pc=6):b9 e q j=(if j.K<fU j.aH j.aH.length then 4*(fU j.aH j.aH.length-j.K)-j.Sub.Pc else 0)+j.aH.length*19+14:=by simp_all[b9]
theorem jc7(hp:j.Pc=7):b9 e q j=(if j.K<(m0 j.aH).length then 13-j.K else 11)+j.aH.length*19:=by simp_all[b9]
theorem jc8(hp:j.Pc=8):b9 e q j=(if j.K<j.Reads.length then(j.Reads.length:Int)-j.K else 0)+6+j.bD.length+j.aH.length*19:=by simp_all[b9]
theorem jc9(hp:j.Pc=9):b9 e q j=(if j.K<j.aH.length then((j.aH.length:Int)-j.K)*19 else 0)+5+7*j.cA.length+j.bD.length:=by simp_all[b9]
theorem bEH(hp:j.Pc=10):b9 e q j=(j.aH.length-j.K)*19-3+q+7*j.cA.length+j.bD.length:=by simp_all[b9]
theorem bI5(hp:j.Pc=11):b9 e q j=(j.aH.length-j.K)*19-4+7*j.cA.length+j.bD.length:=by simp_all[b9]
theorem bI6(hp:j.Pc=12):b9 e q j=(j.aH.length-j.K)*19-12+7*j.cA.length+j.bD.length:=by simp_all[b9]
theorem bI7(hp:j.Pc=13):b9 e q j=(j.aH.length-j.K)*19-13+7*j.cA.length+j.bD.length:=by simp_all[b9]
theorem bEI(hp:j.Pc=14):b9 e q j=4+7*j.cA.length+j.bD.length:=by simp_all[b9]
theorem aYH(hp:j.Pc=15):b9 e q j=(if j.K<j.cA.length then 3+7*(j.cA.length-j.K)-j.Sub.Pc else 3):=by simp_all[b9]
theorem a9W(hp:j.Pc=16):b9 e q j=4+j.gL.length+j.bD.length:=by simp_all[b9]
theorem bI8(hp:j.Pc=17):b9 e q j=3+j.gL.length:=by simp_all[b9]
theorem bEJ(hp:j.Pc=18):b9 e q j=2:=by simp_all[b9]
theorem bEK(hp:j.Pc=19):b9 e q j=1:=by simp_all[b9]
theorem a9X(hp:j.Pc=20):b9 e q j=QM j.Sub+8:=by simp_all[b9]
theorem aYI(hp:j.Pc=21):b9 e q j=UJ j.Sub:=by simp_all[b9]
end
def kI(b:aA)(w:Int):Int:=(dF b.aQ w).length
theorem aDP{x:Sub}{A B:aI}(h:x.gK=false):(if x.gK=false then A else B)=A:=aO h
theorem aPQ(hj:JB j):j.bD.length<=2:=by
 have:=yN (l:=j.bD) (m:=[0,1]) hj.held.2 λx hx=>by have:=hj.held.1 x hx;simp;omega
 omega
section
variable {Ky:List Int} {b:aA} {k:List bR} {c:Int->List Int} {q:Int->Nat} {J:Int->aI} {w:Int} (hK:Ky.length<=8) (h:sK Ky b k c q J) (hl:∀v,eO v->YG k v (J v)) (hw:eO w) (hb:mP b) (hk:k.length=2/\∀x∈k,BkV x) (hJ:∀v,eO v->(J v).bO=true->JB (J v)) (hB:(J w).bO=true) (hep:EpT b.aC J)
include hK h hl hw hb hk hJ hB hep
theorem aR6{x:Int}(hn:j'.gL.length<=(J w).aH.length/\j'.bD.length<=2):b9 e n (nZ j' x)<=6+(J w).aH.length:=by
 cases hb':j'.bO
 ·unfold b9;rw[aO (show(nZ j' x).bO=false from hb')];omega
 grind[a9W,nZ]
theorem aVE{v:Int}{is:Bool}(h1:1<=j.Pc/\j.Pc<=5)(t:TW Ky b.Mem k c n j)(hj:JB j)(ha:sM j):b9 e n (lL j (cH j) v is)<=(j.Batch.bK.length-j.At-1)*19+j.Batch.bK.length*23+15:=by
 obtain⟨t1,t2⟩:=aYG t hj h1 ha v is;have hat:(lL j (cH j) v is).At=j.At+1/\(lL j (cH j) v is).Batch=j.Batch/\(lL j (cH j) v is).bO=j.bO:=by
  have hm:=YI j.aH ⟨(cH j).Key,false,BQ (if is then v else 0) (cH j).dI⟩;have:=t.wl;have:=hj.V5.2.1;unfold sM at ha;unfold lL;split
  ·unfold SI kH SH;grind
  ·exact⟨rfl,rfl,rfl⟩
 rw[jc1 (hat.2.2.trans hj.busy) t2,hat.1,hat.2.1];omega
theorem a9Y(hp:(J w).Pc=0\/(J w).Pc=20\/(J w).Pc=21):b9 (lC b w (J w)).1.aC.aK (q w) (lC b w (J w)).2+5*kI (lC b w (J w)).1 w+1<=b9 b.aC.aK (q w) (J w)+5*kI b w/\((lC b w (J w)).1.aC.aK=b.aC.aK\/(J w).Pc=20/\(lC b w (J w)).2.Pc=21):=by
 have hc:=hb.1.2.1;have hj:=hJ w hw hB;have hat:=hj.at_;obtain⟨s0,s20⟩:=aMK hw hc hep hB;rcases hp with p|p|p
 ·obtain⟨k5,d,s⟩:=s0 p;have es:gQ b w (J w).Sub=qO b w (J w).Sub:=by simp_all[gQ]
  obtain⟨cl,e,e1,e2⟩:=aYE hc hw (J w).Sub;unfold lC;rw[es,aO p,jc0 hB p];have hr:kI (qO b w (J w).Sub).1 w=kI b w:=by rw[e];rfl
  have he:(qO b w (J w).Sub).1.aC.aK=b.aC.aK:=ak
  simp only[hr,he];refine⟨?_,.inl trivial⟩;rcases s with z|⟨z,z1,z2⟩|⟨z,z1⟩
  ·have e3:(qO b w (J w).Sub).2={(J w).Sub with Pc:=1,E:=b.aC.aK}:=by unfold qO;grind
   rw[e3,aDP (by exact d),jc0 (by exact hB) (by exact p)];grind[UI]
  ·have e3:(qO b w (J w).Sub).2={(J w).Sub with Pc:=2}:=by simp_all[NT,qO]
   rw[e3,aDP (by exact d),jc0 (by exact hB) (by exact p)];grind[UI]
  ·by_cases y:b.aC.aK=(J w).Sub.E
   ·have e3:(qO b w (J w).Sub).2=vI (J w).Sub 0:=by unfold qO;grind
    rw[e3,aP (by simp[vI]),jc1 (by exact hB) rfl];grind[UI]
   ·have e3:(qO b w (J w).Sub).2={(J w).Sub with Pc:=0}:=by unfold qO;grind
    rw[e3,aDP (by exact d),jc0 (by exact hB) (by exact p)];unfold UI;grind
 ·obtain⟨k3,d,s⟩:=s20 p;have es:gQ b w (J w).Sub=fF b (J w).Sub:=by grind[gQ]
  have hr:kI (fF b (J w).Sub).1 w=kI b w:=by obtain⟨cl,e,_⟩:=aYF hc (J w).Sub;rw[e];rfl
  unfold lC;rw[es,aP (show ¬(J w).Pc=0 by omega),aO p,a9X hB p];simp only[hr];have dn:∀{x:Sub} {b':aA},x.gK=true->1<=QM (J w).Sub->b9 b'.aC.aK (q w) (if x.gK=false then {J w with Sub:=x} else {J w with Pc:=21,Sub:=yK 4 0})+5*kI b w+1<=QM (J w).Sub+8+5*kI b w/\(b'.aC.aK=b.aC.aK\/(J w).Pc=20/\(if x.gK=false then {J w with Sub:=x} else {J w with Pc:=21,Sub:=yK 4 0}).Pc=21):=λ{x b'} hx h1=>by rw[aP (by simp[hx]),aYI (by exact hB) rfl];grind[UJ,yK]
  rcases s with z|⟨_,⟨z,z1⟩|⟨z,z1⟩⟩
  ·have e3:fF b (J w).Sub=(b,{(J w).Sub with Pc:=1,E:=b.aC.aK,B:=0}):=by simp_all[fF]
   rw[e3,aDP (by exact d),a9X (by exact hB) (by exact p)];grind[QM]
  ·by_cases y:(HE b.aC (J w).Sub.B (J w).Sub.E).2=true
   ·have e3:fF b (J w).Sub=({b with aC:=(HE b.aC (J w).Sub.B (J w).Sub.E).1},{(J w).Sub with Pc:=if(J w).Sub.B=2 then 2 else 1,B:=(J w).Sub.B+1}):=by simp_all[fF]
    rw[e3,aDP (by exact d),a9X (by exact hB) (by exact p)];grind[aLU,QM]
   ·have e3:(fF b (J w).Sub).2=vI (J w).Sub 8:=by simp_all[fF]
    rw[e3];exact dn rfl (by unfold QM;omega)
  ·have e3:(fF b (J w).Sub).2.gK=true:=by unfold fF;rw[gT,gT,aO z];rfl
   exact dn e3 (by simp_all[QM])
 ·obtain⟨k4,d,s⟩:=(h.sb w hw).col p;have es:gQ b w (J w).Sub=cQ b w (J w).Sub:=by simp_all[gQ]
  have hcl:(cQ b w (J w).Sub).1.aC=b.aC:=by grind[DJ]
  unfold lC;rw[es,aP (show ¬(J w).Pc=0 by omega),aP (show ¬(J w).Pc=20 by omega),aYI hB p];simp only[hcl];refine⟨?_,.inl trivial⟩;rcases s with z|⟨_,⟨z,r0⟩|⟨z,hB2,ha,hr⟩|⟨z,ha,hr⟩⟩
  ·have e:cQ b w (J w).Sub=(b,{(J w).Sub with Pc:=1,E:=b.aC.aK,Row:=0}):=by simp_all[cQ]
   rw[e,aDP (by exact d),aYI (by exact hB) (by exact p)];grind[UJ]
  ·by_cases y:sJ (dF b.aQ w) (J w).Sub.E (J w).Sub.Row.toNat<(dF b.aQ w).length
   ·have e:cQ b w (J w).Sub=(b,{(J w).Sub with Pc:=2,Row:=(sJ (dF b.aQ w) (J w).Sub.E (J w).Sub.Row.toNat:Int),B:=0,H:=(MB (dF b.aQ w) (sJ (dF b.aQ w) (J w).Sub.E (J w).Sub.Row.toNat:Int)).Handle}):=by simp_all[cQ]
    rw[e,aDP (by exact d),aYI (by exact hB) (by exact p)];grind[UJ]
   ·have e:cQ b w (J w).Sub=(b,vI (J w).Sub 0):=by simp_all[cQ,aP]
    rw[e,aP (by simp[vI]),bEK (by exact hB) rfl];grind[UJ]
  ·have hH:(J w).Sub.H≠0:=by have:=(hb.2 _ (PE hb.1.2.2.1 hw (aDJ ⟨ha.1,ha.2.1⟩))).1.1;rw[ha.2.2] at this;grind[lK]
   have e:cQ b w (J w).Sub=(b,{(J w).Sub with Pc:=if(J w).Sub.B=2 then 3 else 2,B:=(J w).Sub.B+1}):=by unfold cQ;rw[gT,gT,aO z,aO ⟨hB2,ha⟩,aP (by rw[bGA h.hz hB2];omega)]
   rw[e,aDP (by exact d),aYI (by exact hB) (by exact p)];unfold UJ;grind
  ·have e:cQ b w (J w).Sub=({b with Mem:=qA b.Mem w (J w).Sub.H,aQ:=b.aQ.set w.toNat ⟨(dF b.aQ w).eraseIdx (J w).Sub.Row.toNat⟩},{(J w).Sub with Pc:=1,Out:=bB ((J w).Sub.Out+1)}):=by simp_all[cQ]
   rw[e,aDP (by exact d),aYI (by exact hB) (by exact p)];have h3:=hb.1.2.2.1.1;have er:kI ({b with Mem:=qA b.Mem w (J w).Sub.H,aQ:=b.aQ.set w.toNat ⟨(dF b.aQ w).eraseIdx (J w).Sub.Row.toNat⟩}:aA) w=kI b w-1:=by have h1:=ha.1;have h2:=ha.2.1;unfold kI dF at *;grind
   simp only[er];unfold UJ;grind
end
section
variable {Ky:List Int} {b:aA} {k:List bR} {c:Int->List Int} {q:Int->Nat} {J:Int->aI} {w:Int} (hK:Ky.length<=8) (h:sK Ky b k c q J) (hl:∀v,eO v->YG k v (J v)) (hw:eO w) (hb:mP b) (hk:k.length=2/\∀x∈k,BkV x) (hJ:∀v,eO v->(J v).bO=true->JB (J v)) (hB:(J w).bO=true) (hep:EpT b.aC J)
include hK h hl hw hb hk hJ hB hep
theorem a3Y(hp:(J w).Pc=1):b9 e n (oA (J w))+1<=b9 e n (J w):=by
 have t:=h.tw w hw hB;have hj:=hJ w hw hB;have hat:=hj.at_;have t1:TW Ky b.Mem k c n (J w):={t with st:=λz=>absurd z aa};rw[jc1 hB hp];unfold oA;split
 ·rename_i ha;split
  ·have h6:=hj.V5.2.1;have wl:=t.wl;have hlen:=YI (J w).aH ⟨(cH (J w)).Key,(cH (J w)).Kind == 3,(cH (J w)).dI⟩;unfold sM at ha;unfold kH;rw[aP (show ¬6<(vG (J w).aH ⟨(cH (J w)).Key,(cH (J w)).Kind == 3,(cH (J w)).dI⟩).length by omega),aO rfl,jc1 (by exact hB) (by exact hp)];grind
  ·split
   ·have:=aVE hK h hl hw hb hk hJ hB hep (e:=e) (n:=n) (v:=(OB (J w).aH (cH (J w)).Key).1.dI) (is:=!(OB (J w).aH (cH (J w)).Key).1.G3) aa t1 hj ha;omega
   ·rw[jc2 (by exact hB) rfl];grind
 ·rename_i ha;have wl:=t.wl;have pl:=SK (J w).aH (J w).aH.length;grind[jc6,yK]
theorem a3Z(hp:2<=(J w).Pc/\(J w).Pc<=5):b9 e (qF Ky.length (q w) (J w)) (iB b k w (J w))+1<=b9 e (q w) (J w):=by
 have t:=h.tw w hw hB;have hj:=hJ w hw hB;have hat:=hj.at_;have ha:=t.hc hp;have wl:=t.wl;have h2:=aPQ hj;have hN:=t.nO aa;have ab:∀{j':aI} {x:Int},j'.gL=(J w).gL/\j'.bD=(J w).bD->∀n,b9 e n (nZ j' x)<=6+(J w).aH.length:=λ{j' x} z n=>aR6 hK h hl hw hb hk hJ hB hep ak;have ha':(J w).At<(J w).Batch.bK.length:=ha;unfold iB;by_cases p2:(J w).Pc=2
 ·rw[aO p2,jc2 hB p2];split
  ·grind
  ·have hq:qF Ky.length (q w) (J w)<=7:=by simp_all[qF]
   split
   ·rw[jc5 (by exact hB) rfl];grind
   ·rw[jc3 (by exact hB) rfl];grind
 rw[aP p2];by_cases p3:(J w).Pc=3
 ·rw[aO p3,jc3 hB p3,jc4 (by exact hB) rfl,show qF Ky.length (q w) (J w)=q w by simp_all[qF]];grind
 rw[aP p3];by_cases p4:(J w).Pc=4
 ·rw[aO p4,jc4 hB p4];split
  ·grind
  ·rename_i hpn;have hpin:jI b.aC w:=Classical.byContradiction hpn;obtain⟨r,⟨a,la⟩,a5⟩:=h.rd w hw (.inr p4) hpin;obtain⟨_,a6⟩:=a5 p4;by_cases z:(J w).Node.Key=(cH (J w)).Key\/MD (J w).Node=0
   ·rw[aO z,jc5 (by exact hB) rfl];grind
   ·rw[aP z,jc3 (by exact hB) rfl];have hq:qF Ky.length (q w) (J w)=q w-1:=by simp_all[qF]
    grind[MD]
 rw[aP p4,jc5 hB aa];split
 ·grind
 split
 ·grind
 have tr:TW Ky b.Mem k c (qF Ky.length (q w) (J w)) {J w with Reads:=(nS (J w).Reads (J w).bR (J w).eB).1}:={t with st:=λz=>absurd z ak};have:=aVE hK h hl hw hb hk hJ hB hep (e:=e) (v:=(J w).Node.dI) (is:=(J w).Found) ak tr (hj.spt _ _ hj.bkt) ha;exact aI8 (Int.add_le_add_right this 1) ak
theorem aYJ(hp:(J w).Pc=6):b9 b.aC.aK (q w) (qP b w (J w)).2+1<=b9 b.aC.aK (q w) (J w):=by
 have t:=h.tw w hw hB;have hj:=hJ w hw hB;have h2:=aPQ hj;have hn6:=t.n6 hp;have pl:=SK (J w).aH (J w).aH.length;obtain⟨s1,s2,s3,s4⟩:=(h.sb w hw).al hp;rw[jc6 hB hp];unfold qP;by_cases c1:fU (J w).aH (J w).aH.length<=(J w).K
 ·rw[aO c1,jc7 (by exact hB) rfl];grind
 rw[aP c1,aO (show(J w).K<_ by omega)];obtain⟨q1,q2,q3,q4⟩:=aI3 hb.1.1 hw s1 s2 s3 s4;have hwl:=hj.wr.1;simp only;rcases q4 with ⟨em,⟨d,e⟩|⟨e1,e2⟩⟩|⟨d,e,wk,tk,kn⟩
 ·rw[aP ak,aO (.inl aa)];exact aI8 (Int.add_le_add_right (aR6 hK h hl hw hb hk hJ hB hep (e:=b.aC.aK) (n:=q w) (j':={J w with Sub:=(gQ b w (J w).Sub).2}) (x:=(gQ b w (J w).Sub).2.Code) ⟨ak,h2⟩) 1) aa
 ·rw[aO ak,jc6 (by exact hB) (by exact hp),e2];grind
 ·rw[aP ak,aP (by
   rintro(q|q|q)
   ·exact q e
   ·exact q wk.1.1
   ·omega),jc6 (by exact hB) (by exact hp)]
  grind[yK]
theorem a30(hp:(J w).Pc=7):b9 e n (mQ k w (J w)).2.1+1<=b9 e n (J w):=by
 have t:=h.tw w hw hB;have hj:=hJ w hw hB;have h2:=aPQ hj;have hr2:=hj.rd2;have hn7:=(t.n7 aa).1;have pl:=SK (J w).aH (J w).aH.length;have tl:=aRM (J w).aH;have ab:∀x,b9 e n (nZ (J w) x)<=6+(J w).aH.length:=λx=>aR6 hK h hl hw hb hk hJ hB hep ⟨aa,h2⟩;rw[jc7 hB hp];unfold mQ;by_cases c1:(J w).K<(m0 (J w).aH).length
 ·rw[aO c1,aO c1];have hk0:=hj.k;split
  ·grind
  split
  ·grind
  have h1:(D4 (J w)).bD.length<=2:=by
   have hi:(J w).K.toNat<(m0 (J w).aH).length:=aa
   have er:eV (J w)=(m0 (J w).aH)[(J w).K.toNat]:=by grind[eV]
   have hbk:0<=eV (J w)/\eV (J w)<=1:=by grind[NQ,cY]
   unfold D4;simp only;split
   ·exact h2
   ·rename_i hm;have:=yN (l:=(J w).bD++[eV (J w)]) (m:=[0,1]) (aOI.2 ⟨hj.held.2,ae,λa ha y hy=>ak⟩) λx hx=>by
     rcases dD.1 hx with hx|hx
     ·have:=hj.held.1 x hx;simp;omega
     grind
    omega
  split
  ·grind[jc8,D4]
  ·rw[jc7 (by exact hB) (by exact hp)];unfold D4;grind
 ·rw[aP c1,aP c1,jc8 (by exact hB) rfl];grind
theorem a9Z(hp:(J w).Pc=8):b9 e n (GU k w (J w))+1<=b9 e n (J w):=by
 have t:=h.tw w hw hB;have hj:=hJ w hw hB;have h2:=aPQ hj;have hO:=t.oO aa;have hn7:=(t.n7 aa).1;have pl:=SK (J w).aH (J w).aH.length;rw[jc8 hB hp];unfold GU;by_cases c1:((J w).Reads.length:Int)<=(J w).K
 ·rw[aO c1,jc9 (by exact hB) rfl];grind
 rw[aP c1,aO (show(J w).K<_ by omega)];grind[a9W,nZ,jc8]
theorem a90(hp:(J w).Pc=14\/(J w).Pc=16):b9 e n (wR k (J w)).2+1<=b9 e n (J w):=by
 unfold wR;by_cases c1:0<(J w).bD.length
 ·rw[aO c1];grind[bEI,a9W]
 ·rw[aP c1];rcases hp with p|p
  ·rw[gT,bEI hB p];unfold G4;by_cases z:(0:Int)<(J w).cA.length
   ·rw[aO z,aYH (by exact hB) rfl];simp only[yK];omega
   simp_all[aYH]
  ·rw[aO p,a9W hB p,bI8 (by exact hB) rfl];grind
theorem a91(hp:(J w).Pc=15):b9 e n (wS b w (J w)).2+5*kI (wS b w (J w)).1 w+1<=b9 e n (J w)+5*kI b w:=by
 have hj:=hJ w hw hB;unfold wS;rw[aYH hB hp];by_cases c1:((J w).cA.length:Int)<=(J w).K
 ·rw[aO c1,bEJ (by exact hB) rfl,aP (show ¬(J w).K<_ by omega)];grind
 rw[aP c1,aO (show(J w).K<_ by omega)];obtain⟨s0,s1,s2,s3,s4⟩:=(h.sb w hw).rt hp aa;have es:gQ b w (J w).Sub=uF b w (J w).Sub:=by grind[gQ]
 rw[es];rcases s4 with p0|⟨p1,e0,e1⟩
 ·have er:uF b w (J w).Sub=(b,{(J w).Sub with Pc:=1,E:=b.aC.aK}):=by simp_all[uF]
  rw[er,aP (by simp[s2]),aYH (by exact hB) (by exact hp)];grind
 ·have hr:kI (uF b w (J w).Sub).1 w<=kI b w+1/\(uF b w (J w).Sub).2.gK=true:=by
   have h3:=hb.1.2.2.1.1;unfold uF;rw[gT,aO p1,aO ⟨e0,e1⟩];split
   ·refine⟨?_,rfl⟩;unfold kI dF;grind
   ·exact⟨ak,rfl⟩
  rw[aO hr.2];unfold G4;by_cases z:(J w).K+1<(J w).cA.length
  ·rw[aO z,aYH (by exact hB) (by exact hp)];simp only[yK];omega
  ·rw[aP z,aYH (by exact hB) (by exact hp)];grind
end
section
variable {Ky:List Int} {b:aA} {k:List bR} {c:Int->List Int} {q:Int->Nat} {J:Int->aI} {w:Int} (hK:Ky.length<=8) (h:sK Ky b k c q J) (hl:∀v,eO v->YG k v (J v)) (hw:eO w) (hb:mP b) (hk:k.length=2/\∀x∈k,BkV x) (hJ:∀v,eO v->(J v).bO=true->JB (J v)) (hB:(J w).bO=true) (hep:EpT b.aC J)
include hK h hl hw hb hk hJ hB hep
theorem a92(hp:9<=(J w).Pc/\(J w).Pc<=13):b9 e (qF Ky.length (q w) (J w)) (jH b k (J w)).2.2+1<=b9 e (q w) (J w):=by
 have t:=h.tw w hw hB;have hj:=hJ w hw hB;have hk0:=hj.k;generalize hn:qF Ky.length (q w) (J w)=n;have place:∀{j1:aI},j1.bO=true->(J w).K<(J w).aH.length->j1.aH=(J w).aH/\j1.K=(J w).K/\j1.bD=(J w).bD->b9 e n (I1 j1 (mR (J w)))<=((J w).aH.length-(J w).K)*19-12+7*j1.cA.length+(J w).bD.length:=λ{j1} hb1 hlt ⟨e1,e2,e3⟩=>by grind[I1,jc9,bI6]
 unfold jH;by_cases c1:((J w).aH.length:Int)<=(J w).K
 ·have p9:(J w).Pc=9:=by have:=t.k9;omega
  rw[aO c1,jc9 hB p9,bEI (by exact hB) rfl,aP (show ¬(J w).K<_ by omega)];grind
 rw[aP c1];have hlt:(J w).K<(J w).aH.length:=aa
 by_cases p9:(J w).Pc=9
 ·rw[aO p9,jc9 hB p9,aO hlt];have hq:n<=7:=by rw[<-hn];unfold qF;grind
  simp only;split
  ·grind
  ·rw[bEH (by exact hB) rfl];grind
 rw[aP p9];by_cases p10:(J w).Pc=10
 ·rw[aO p10,bEH hB p10];simp only;obtain⟨A,B,e1,⟨e2,e3⟩,e4⟩:=t.st (.inl p10);have hq:n=q w-1:=by simp_all[qF]
  split
  ·rw[bI5 (by exact hB) rfl];grind
  split
  ·grind
  ·rename_i z1 z2;rw[bEH (by exact hB) (by exact p10),hq];have hi:(J w).K.toNat<(J w).aH.length:=aa
   have er:mR (J w)=(J w).aH[(J w).K.toNat]:=by grind[mR]
   have hx:=hj.wr.2.1 _ (show mR (J w)∈(J w).aH by grind);have hbk:nY (bi (J w)):=by unfold bi jD;omega
   have hch:=h.ch _ hbk;rw[e1] at hch;have hH:=hch.split;rw[aR4 hH.2.1,aMH hH.2.2.1] at z2;have:1<=B.length:=by
    match B,hH.2.2.2 with
    |[],y=>exact absurd y z2
    |_::_,_=>simp
   grind
 rw[aP p10];by_cases p11:(J w).Pc=11
 ·rw[aO p11,bI5 hB p11];grind[J3]
 rw[aP p11];obtain⟨nm,_⟩:=aMD h hw t hj aa;have hlen:¬((J w).gL.length:Int)<=fU (J w).aH (J w).K:=λz=>by simp_all[fU,aBN,aDN]
 rw[aP hlen];by_cases p12:(J w).Pc=12
 ·rw[aO p12,bI6 hB p12,bI7 (by exact hB) rfl];grind
 ·rw[aP p12,bI7 hB aa,jc9 (by exact hB) rfl];grind
theorem bEL:b9 (dX b k w (J w)).b.aC.aK (qF Ky.length (q w) (J w)) (dX b k w (J w)).j+5*kI (dX b k w (J w)).b w+1<=b9 b.aC.aK (q w) (J w)+5*kI b w/\((dX b k w (J w)).b.aC.aK=b.aC.aK\/(J w).Pc=20/\(dX b k w (J w)).j.Pc=21):=by
 have hc:=hb.1.2.1;have t:=h.tw w hw hB;have hpc:=t.pc;have sm:((J w).Pc≠2/\(J w).Pc≠4/\(J w).Pc≠9/\(J w).Pc≠10)->qF Ky.length (q w) (J w)=q w:=λz=>by simp_all[qF]
 generalize hn:qF Ky.length (q w) (J w)=n at sm;have fl:∀{b':aA} {k':List bR} {j':aI} {l:List mT},b'.aC.aK=b.aC.aK->kI b' w=kI b w->b9 b.aC.aK n j'+1<=b9 b.aC.aK (q w) (J w)->b9 (⟨b',k',j',l⟩:TR).b.aC.aK n (⟨b',k',j',l⟩:TR).j+5*kI (⟨b',k',j',l⟩:TR).b w+1<=b9 b.aC.aK (q w) (J w)+5*kI b w/\((⟨b',k',j',l⟩:TR).b.aC.aK=b.aC.aK\/(J w).Pc=20/\(⟨b',k',j',l⟩:TR).j.Pc=21):=λ{b' k' j' l} e1 e2 e3=>⟨ak,.inl e1⟩;unfold dX;have P:∀{c:Prop} [Decidable c] {x y:TR},(c->b9 x.b.aC.aK n x.j+5*kI x.b w+1<=b9 b.aC.aK (q w) (J w)+5*kI b w/\(x.b.aC.aK=b.aC.aK\/(J w).Pc=20/\x.j.Pc=21))->(¬c->b9 y.b.aC.aK n y.j+5*kI y.b w+1<=b9 b.aC.aK (q w) (J w)+5*kI b w/\(y.b.aC.aK=b.aC.aK\/(J w).Pc=20/\y.j.Pc=21))->_:=
  dM (P:=λr=>b9 r.b.aC.aK n r.j+5*kI r.b w+1<=b9 b.aC.aK (q w) (J w)+5*kI b w/\(r.b.aC.aK=b.aC.aK\/(J w).Pc=20/\r.j.Pc=21))
 refine P (λp=>?_) λ_=>P (λp=>fl rfl rfl (by rw[sm aa];exact a3Y hK h hl hw hb hk hJ hB hep p)) λ_=>P (λp=>fl rfl rfl (hn ▸ a3Z hK h hl hw hb hk hJ hB hep p)) λ_=>P (λp=>?_) λ_=>P (λp=>fl rfl rfl (by rw[sm aa];exact a30 hK h hl hw hb hk hJ hB hep p)) λ_=>P (λp=>fl rfl rfl (by rw[sm aa];exact a9Z hK h hl hw hb hk hJ hB hep p)) λ_=>
  P (λp=>fl (b':=(jH b k (J w)).1) (k':=(jH b k (J w)).2.1) (j':=(jH b k (J w)).2.2) (l:=[]) (by grind[jH]) (by grind[jH,kI]) (hn ▸ a92 hK h hl hw hb hk hJ hB hep p)) λ_=>P (λp=>fl rfl rfl ?_) λ_=>P (λp=>?_) λ_=>P (λp=>?_) λ_=>P (λp=>?_) λ_=>P (λp=>fl rfl rfl ?_) λ_=>aa
 ·rw[sm aa];obtain⟨a1,a2⟩:=a9Y hK h hl hw hb hk hJ hB hep p;grind
 ·obtain⟨s1,s2,s3,s4⟩:=(h.sb w hw).al p;obtain⟨q1,q2,q3,_⟩:=aI3 hb.1.1 hw s1 s2 s3 s4;have e1:(qP b w (J w)).1.aC=b.aC:=by grind[qP]
  have e2:(qP b w (J w)).1.aQ=b.aQ:=by grind[qP]
  exact fl (b':=(qP b w (J w)).1) (k':=k) (j':=(qP b w (J w)).2) (l:=[]) (b8 aC.aK e1) (b8 (λl=>((dF l w).length:Int)) e2) (by rw[sm aa];exact aYJ hK h hl hw hb hk hJ hB hep p)
 ·rw[sm aa];exact a90 hK h hl hw hb hk hJ hB hep p
 ·have hcl:(wS b w (J w)).1.aC=b.aC:=by
   unfold wS;split
   ·rfl
   ·exact DJ (by have:=(h.sb w hw).rt p aa;omega)
  refine⟨?_,.inl (by rw[hcl])⟩;simp only;rw[hcl,sm aa];exact a91 hK h hl hw hb hk hJ hB hep p
 ·have e:(wT b w (J w)).1.aC=b.aC/\(wT b w (J w)).1.aQ=b.aQ:=by grind[wT]
  refine fl (b':=(wT b w (J w)).1) (k':=k) (j':=(wT b w (J w)).2) (l:=[]) (b8 aC.aK e.1) (b8 (λl=>((dF l w).length:Int)) e.2) ?_;grind[bI8,wT,bEJ]
 ·refine fl (b':={b with aC:=(H6 b.aC w).1}) (k':=k) (j':={J w with Pc:=19}) (l:=[]) (aU8 hc hw).1 rfl ?_;grind[bEJ,bEK]
 ·rw[bEK hB p];unfold b9;rw[aO (show cG.bO=false from rfl)];omega
end
theorem a31(e e':Int)(q:Nat)(j:aI):b9 e' q j<=b9 e q j+3:=by
 cases hb:j.bO
 ·simp_all[b9]
 ·by_cases p:j.Pc=0
  ·rw[jc0 hb p,jc0 hb p];grind[UI]
  ·have:b9 e' q j=b9 e q j:=by unfold b9;grind
   omega
def bC(x:Batch):Int:=if x.Collect then 14 else x.bK.length*42+19
def isC(x:Batch):Int:=if x.Collect then 1 else 0
def UK(f:Batch->Int):List Batch->Int
 |[]=>0
 |x::r=>f x+UK f r
def z7(t:Table)(w:Int):Int:=UK isC (mF t w)+if(aD t w).bO=true/\(aD t w).Pc=20 then 1 else 0
def aVF(q:Int->Nat)(t:Table)(w:Int):Int:=b9 t.aA.aC.aK (q w) (aD t w)+5*kI t.aA w+UK bC (mF t w)
def ME(f:Int->Int):Int:=f 0+f 1+f 2
def aDQ(q:Int->Nat)(t:Table)(w:Int):Int:=aVF q t w+3*(ME (z7 t)-z7 t w)
def VR(t:Table)(w:Int):Prop:=(aD t w).bO=false/\mF t w=[]
theorem a32(b:aA)(w:Int)(s:Sub):(gQ b w s).1.aQ=b.aQ\/∃x,(gQ b w s).1.aQ=b.aQ.set w.toNat x:=by grind[KT,QJ,fF,qO,uF,cQ,gQ]
theorem a93(b:aA)(k:List bR)(w:Int)(j:aI):(dX b k w j).b.aQ=b.aQ\/∃x,(dX b k w j).b.aQ=b.aQ.set w.toNat x:=by
 have hs:=a32 b w j.Sub;unfold dX;have P:∀{c:Prop} [Decidable c] {x y:TR},(c->(x.b.aQ=b.aQ\/∃z,x.b.aQ=b.aQ.set w.toNat z))->(¬c->(y.b.aQ=b.aQ\/∃z,y.b.aQ=b.aQ.set w.toNat z))->_:=dM (P:=λr=>r.b.aQ=b.aQ\/∃z,r.b.aQ=b.aQ.set w.toNat z);refine P (λ_=>hs) λ_=>P (λ_=>.inl rfl) λ_=>P (λ_=>.inl rfl) λ_=>P (λ_=>?_) λ_=>P (λ_=>.inl rfl) λ_=>P (λ_=>.inl rfl) λ_=>P (λ_=>.inl (by grind[jH])) λ_=>P (λ_=>.inl rfl) λ_=>P (λ_=>?_) λ_=>P (λ_=>.inl (by grind[wT])) λ_=>P (λ_=>.inl rfl) λ_=>P (λ_=>.inl rfl) λ_=>.inl rfl
 ·unfold qP;split;exact .inl rfl;exact hs
 ·unfold wS;split;exact .inl rfl;exact hs
theorem aDR{f:Batch->Int}(h:∀x,0<=f x):∀l,0<=UK f l
 |[]=>I3 _
 |x::r=>Int.add_nonneg (h x) (aDR h r)
theorem bI9(x:Batch):0<=bC x:=by grind[bC]
theorem a1C(x:Batch):0<=isC x:=by grind[isC]
theorem a33(t:Table)(w:Int):0<=z7 t w:=by have:=aDR a1C (mF t w);grind[z7]
theorem bEM(f:Int->Int)(h:∀v,0<=f v)(hw:eO w):f w<=ME f:=by grind[ME]
theorem aVG{f g:Int->Int}(hw:eO w)(h:∀v,eO v->v≠w->g v=f v):ME g-g w=ME f-f w:=by grind[ME]
section
variable {Ky:List Int} {q:Int->Nat} {t:Table} (hK:Ky.length<=8) (hv:TV t) (hs:Sft Ky q t) {w:Int} (hw:eO w) (hser:t.aG≠1000000)
include hK hv hs hw
theorem a34(hB:(aD t w).bO=true):1<=b9 t.aA.aC.aK (q w) (aD t w):=by
 have hj:JB (aD t w):=(hv.yO.2 _ (zR hv.yO.1 hw)).resolve_left λe=>by rw[e] at hB;cases hB
 obtain⟨c,h⟩:=hs.sv;have T:=h.tw w hw hB;have hpc:=T.pc;have hat:=hj.at_;have sb:=h.sb w hw;have hc:=hv.base.1.2.1;obtain⟨s0,s20⟩:=aMK hw hc hs.ep hB;have tl:=aRM (aD t w).aH;have hk:=hj.k;rcases(by omega:(aD t w).Pc=0\/(aD t w).Pc=1\/(2<=(aD t w).Pc/\(aD t w).Pc<=5)\/(aD t w).Pc=6\/(aD t w).Pc=7\/(aD t w).Pc=8\/(aD t w).Pc=9\/(10<=(aD t w).Pc/\(aD t w).Pc<=13)\/(aD t w).Pc=14\/(aD t w).Pc=15\/(aD t w).Pc=16\/(aD t w).Pc=17\/(aD t w).Pc=18\/(aD t w).Pc=19\/(aD t w).Pc=20\/(aD t w).Pc=21) with p|p|p|p|p|p|p|p|p|p|p|p|p|p|p|p
 ·rw[jc0 hB p];grind[UI]
 ·grind[jc1]
 ·have ha:(aD t w).At<(aD t w).Batch.bK.length:=T.hc p;grind[jc2,jc3,jc4,jc5]
 ·rw[jc6 hB p];have:=(sb.al p).2.2.1;omega
 ·grind[jc7]
 ·grind[jc8]
 ·grind[jc9]
 ·have:=T.k9 p;grind[bEH,bI5,bI6,bI7]
 ·grind[bEI]
 ·rw[aYH hB p];split
  ·have:=sb.rt p aa;omega
  ·omega
 ·grind[a9W]
 ·grind[bI8]
 ·grind[bEJ]
 ·grind[bEK]
 ·grind[a9X,QM]
 ·rw[aYI hB p];obtain⟨_,_,z⟩:=sb.col p;grind[UJ]
theorem bEN(h:¬VR t w):0<=aDQ q t w:=by
 have a:=aDR bI9 (mF t w);have b:=bEM (z7 t) (a33 t) hw;have r:0<=kI t.aA w:=Int.natCast_nonneg _;unfold aDQ aVF;by_cases hB:(aD t w).bO=true
 ·have:=a34 hK hv hs hw hB;omega
 ·have:b9 t.aA.aC.aK (q w) (aD t w)=0:=by simp_all[b9]
  omega
theorem aPR(h:VR t w):aY t w=t/\nxQ Ky q t w=q:=by unfold aY nxQ;rw[aP (by rw[h.1];decide),aO (.inl (by rw[h.2];rfl)),aP (by rw[h.1];decide)];simp
include hser
theorem aVH(h:¬VR t w):aDQ (nxQ Ky q t w) (aY t w) w+1<=aDQ q t w/\∀v,eO v->v≠w->aDQ (nxQ Ky q t w) (aY t w) v<=aDQ q t v/\(VR t v->VR (aY t w) v):=by
 have h3:=hv.yO.1;have hJ:∀v,eO v->(aD t v).bO=true->JB (aD t v):=λv hv' hB=>(hv.yO.2 _ (zR h3 hv')).resolve_left λe=>by rw[e] at hB;cases hB
 obtain⟨c,sv⟩:=hs.sv;by_cases hB:(aD t w).bO=true
 ·have est:aY t w=yL t w (dX t.aA t.aR w (aD t w)):=by simp_all[aY]
  have enq:nxQ Ky q t w=upQ q w (qF Ky.length (q w) (aD t w)):=aO hB;obtain⟨a1,a2⟩:=bEL hK sv hs.lk hw hv.base hv.bk hJ hB hs.ep;have hpc:=(sv.tw w hw hB).pc;have hdp:(dX t.aA t.aR w (aD t w)).j.bO=true/\(dX t.aA t.aR w (aD t w)).j.Pc=20->(aD t w).Pc=20:=λz=>by
   by_cases p:1<=(aD t w).Pc/\(aD t w).Pc<=19
   ·rcases a9S (b:=t.aA) (k:=t.aR) (w:=w) p with e|e
    ·rw[e] at z;cases z.1
    ·omega
   ·by_cases p0:(aD t w).Pc=20
    ·exact p0
    ·exfalso;have e:(dX t.aA t.aR w (aD t w)).j=(lC t.aA w (aD t w)).2:=by unfold dX;rw[aO aa]
     grind[lC]
  have hrow:=a93 t.aA t.aR w (aD t w);rw[est,enq];generalize dX t.aA t.aR w (aD t w)=r at a1 a2 hdp hrow;have ej:∀v,eO v->aD (yL t w r) v=if v=w then r.j else aD t v:=λv hv'=>PG h3 hw rfl hv';have eq:∀v,mF (yL t w r) v=mF t v:=λ_=>rfl;have er:∀v,eO v->v≠w->kI r.b v=kI t.aA v:=λv hv' hn=>by
   unfold kI;rcases hrow with e|⟨x,e⟩
   ·rw[e]
   ·rw[e,aBJ hv.base.1.2.2.1.1 hw hv' hn]
  have bo:∀v,eO v->v≠w->z7 (yL t w r) v=z7 t v:=λv hv' hn=>by simp_all[z7]
  have bw:z7 (yL t w r) w<=z7 t w/\(r.b.aC.aK≠t.aA.aC.aK->z7 (yL t w r) w+1<=z7 t w):=by unfold z7;grind
  have s1:=aVG hw bo;refine⟨?_,λv hv' hn=>⟨?_,λi=>?_⟩⟩
  ·unfold aDQ aVF;rw[s1,eq,ej w hw,aO rfl];show b9 r.b.aC.aK (upQ q w _ w) r.j+5*kI r.b w+_+_+1<=_;rw[show upQ q w (qF Ky.length (q w) (aD t w)) w=qF Ky.length (q w) (aD t w) from aO rfl];omega
  ·unfold aDQ aVF;rw[eq,ej v hv',aP hn,bo v hv' hn];show b9 r.b.aC.aK (upQ q w _ v) (aD t v)+5*kI r.b v+_+_<=_;rw[show upQ q w (qF Ky.length (q w) (aD t w)) v=q v from aP hn,er v hv' hn];have:=a31 t.aA.aC.aK r.b.aC.aK (q v) (aD t v);grind
  ·exact⟨by rw[ej v hv',aP hn];exact i.1,i.2⟩
 ·have hq:¬((mF t w).length=0\/t.aG=1000000):=λz=>z.elim (λz=>h ⟨ak,uI z⟩) hser;have est:aY t w=qQ t w ((mF t w).getD 0 ⟨false,[]⟩):=by simp_all[aY]
  have enq:nxQ Ky q t w=q:=aP hB;rw[est,enq]
  match hQ:mF t w,hq with
  |[],hq=>grind
  |x::l,_=>
  simp only[List.getD_cons_zero];have ej:∀v,eO v->aD (qQ t w x) v=if v=w then gY x (t.aG+1) else aD t v:=λv hv'=>PG h3 hw rfl hv';have eq:∀v,eO v->mF (qQ t w x) v=if v=w then l else mF t v:=λv hv'=>by grind[mF,qQ]
  have j0:b9 t.aA.aC.aK (q w) (aD t w)=0:=by simp_all[b9]
  have jn:b9 t.aA.aC.aK (q w) (gY x (t.aG+1))+1<=bC x:=by
   cases hx:x.Collect
   ·rw[jc0 (show(gY x (t.aG+1)).bO=true from rfl) (by grind[gY])];grind[gY,bC,UI,yK]
   simp_all[a9X,gY,bC,QM,yK]
  have bo:∀v,eO v->v≠w->z7 (qQ t w x) v=z7 t v:=λv hv' hn=>by simp_all[z7]
  have bw:z7 (qQ t w x) w<=z7 t w:=by unfold z7;rw[eq w hw,ej w hw,aO rfl,aO rfl,hQ,aP (show ¬((aD t w).bO=true/\_) from λz=>hB z.1)];grind[UK,gY,isC]
  have s1:=aVG hw bo;refine⟨?_,λv hv' hn=>⟨?_,λi=>?_⟩⟩
  ·unfold aDQ aVF;rw[s1,eq w hw,ej w hw,aO rfl,aO rfl,hQ,j0];show b9 t.aA.aC.aK (q w) (gY x (t.aG+1))+5*kI t.aA w+_+_+1<=_;grind[UK]
  ·unfold aDQ aVF;rw[eq v hv',ej v hv',aP hn,aP hn,bo v hv' hn];show b9 t.aA.aC.aK (q v) (aD t v)+5*kI t.aA v+_+_<=_;omega
  ·exact⟨by rw[ej v hv',aP hn];exact i.1,by rw[eq v hv',aP hn];exact i.2⟩
end
theorem QN{l:List aI}(hl:l.length<=1000){f:aI->Bool}{g:aI->Option Bool}(hg:∀x∈l,g x=some (f x)):g7 l g=some (l.any f):=
 ML (f:=qH l g) (m:=A2) aa (λk=>by
  simp only[qH];by_cases h:k<l.length
  ·rw[dif_pos h,eK,aW h,aM,hg _ (cY h),aM,eG];rfl
  grind) (λ_=>rfl) rfl
theorem aR7{l:List bR}(hl:l.length<=1000){f:bR->Bool}{g:bR->Option Bool}(hg:∀x∈l,g x=some (f x)):rP l g=some (l.any f):=
 ML (f:=rO l g) (m:=DR) aa (λk=>by
  simp only[rO];by_cases h:k<l.length
  ·rw[dif_pos h,eK,aW h,aM,hg _ (cY h),aM,eG];rfl
  grind) (λ_=>rfl) rfl
theorem aML{l:List Seen}(hl:l.length<=1000){f:Seen->Bool}{g:Seen->Option Bool}(hg:∀x∈l,g x=some (f x)):fV l g=some (l.any f):=
 ML (f:=jB l g) (m:=A3) aa (λk=>by
  simp only[jB];by_cases h:k<l.length
  ·rw[dif_pos h,eK,aW h,aM,hg _ (cY h),aM,eG];rfl
  grind) (λ_=>rfl) rfl
theorem aMM(b:Int):HO b=some (decide (0<=b/\b<=1)):=by grind[HO,dN]
theorem aMN{O:Type}{l:List O}{f:O->Bool}(h:∀x∈l,f x=false):l.any f=false:=aSQ.2 λx hx=>ak
theorem aVI(hl:l.length<=6)(h:∀x∈l,lK x):uT l=some true:=by unfold uT;rw[eK,show(λy0=>wF y0)=λy0=>some (!decide (lK y0)) from funext λy=>by grind[wF,g8],GK (by grind[maxLen]),aMN λx hx=>ak];rfl
theorem aVJ{l:List aU}(h:WrV l):IN l=some true:=by
 have h6:=h.1;unfold IN;have key:loop (rQ l) 0=some (Out.brk ()):=iS (f:=rQ l) l.length (λk=>(k:Int)) _ (λk hk=>by
  have hx:=h.2.1 _ (cY hk);simp only[rQ];rw[eK,aW hk,aM,dN,cV hx.1,aM,gJ,dN,cV hx.2,aM,gJ];by_cases k0:(0:Int)<k
  ·have hk1:k-1<l.length:=aa
   have hlt:=aYY.1 h.2.2 (k-1) k hk1 hk aa;rw[aO ak,eG (x:=(k:Int)-1),show(k:Int)-1=((k-1:Nat):Int) by omega,aW hk1,aM,iC aa];unfold kZ;rw[gJ,eG];rfl
  simp_all[kZ,cO]) (by simp[rQ])
 grind[RR,RQ]
theorem a94(h:JB j):sS j=some true:=by
 have hb:=h.V5.2.1;have hk:=h.k;have hh:=h.held;have hheld:=aPQ h;have key:loop (xM j) 0=some (Out.brk ()):=iS (f:=xM j) j.bD.length (λk=>(k:Int)) _ (λk hk=>by
  simp only[xM,FD];rw[eK,aW hk,aM,aMM,cV (hh.1 _ (cY hk)),aM,gJ,VH,MM,UM,contains_eq (by grind[maxLen]),iC ((aXI _).1 hh.2 k hk),aM,gJ,eG];rfl) (by simp[xM])
 unfold sS;rw[aP (by simp[h.busy]),key];simp only[aM,WQ];unfold WO;rw[aL1 aa,cV h.V5,GR,cV h.h,GR,cV h.prev,aMM,cV h.bkt,dN,cV h.at_,dN,cV (show 0<=j.K/\j.K<=100 by omega),aVI h.new.1 h.new.2,aVI h.old.1 h.old.2,
  aML (f:=λ_=>false) (by have:=h.rd2;omega) (λs hs=>by unfold PQ;rw[aMM,cV (h.reads.1 s hs)];rfl),aMN λ_ _=>rfl,aVJ h.wr]
 rfl
theorem aYK:sS cG=some true:=by
 have c1:FB cG.Batch cG.Batch=some true:=by unfold FB;rw[aO an];unfold HN;rw[gJ,bA (r:=Out.brk ()) (by simp[K0,cG])];rfl
 have c2:wE [] []=some true:=by unfold wE;rw[gJ,bA (r:=Out.brk ()) (by simp[JH])];rfl
 have c3:tK [] []=some true:=by unfold tK;rw[gJ,bA (r:=Out.brk ()) (by simp[G9])];rfl
 have c4:yX [] []=some true:=by unfold yX;rw[gJ,bA (r:=Out.brk ()) (by simp[KZ])];rfl
 have c5:nA [] []=some true:=by unfold nA;rw[gJ,bA (r:=Out.brk ()) (by simp[K2])];rfl
 unfold sS;rw[aO an];show(IM cG cG).bind _=_;unfold IM;rw[c1,show cG.Reads=[] from rfl,show cG.aH=[] from rfl,show cG.fY=[] from rfl,show cG.gL=[] from rfl,show cG.bD=[] from rfl,show cG.cA=[] from rfl,c2,c3,c4,c5];simp[b7]
theorem aPS(hv:TV t):∀j∈t.aS,sS j=some true:=λj hj=>by
 rcases hv.yO.2 j hj with rfl|h
 ·exact aYK
 ·exact a94 h
theorem aDS(hv:TV t):FE t=some true:=by
 have h2:=hv.bk.1;have h3:=hv.yO.1;have ht:=hv.todo;unfold FE;rw[aLF hv.base.small.fits,cV hv.base,aM,aO rfl,eK,
  aR7 (f:=λ_=>false) aa (λx hx=>by
   have hx:=hv.bk.2 x hx;unfold MY aAQ;rw[GR,cV hx.1,aM,aO rfl,dN,cV hx.2.1,aM,aO rfl,dN,cV hx.2.2];rfl),aMN λ_ _=>rfl,aM,aO an,eK,
  QN (f:=λ_=>false) aa (λj hj=>by grind[MZ,aPS]),aMN λ_ _=>rfl,aM,aO an,
  aL2 (by have:=ht.1;omega) (λq hq=>by have:=(ht.2 q hq).1;omega) (λq hq b hb=>by have:=((ht.2 q hq).2 b hb).2.1;omega),cV ht,aM,aO rfl,dN,cV hv.ser]
 rfl
def EvS(e:mT):Prop:=e.bK.length<=1000/\e.fY.length<=1000
theorem a95{e:mT}(h:EvS e):EL e=some e:=by obtain⟨h1,h2⟩:=h;unfold EL kY rG;rw[MA,aM,MA];simp[J8]
theorem bEO(h:j=cG\/JB j):IF j=some j:=by
 have hl:j.Batch.bK.length<=1000/\j.Reads.length<=1000/\j.aH.length<=1000/\j.fY.length<=1000/\j.gL.length<=1000/\j.bD.length<=1000/\j.cA.length<=1000:=by
  rcases h with rfl|h
  ·simp[cG]
  ·have a1:=h.V5.2.1;have a2:=h.rd2;have a3:=h.wr.1;have a4:=h.res;have a5:=h.at_;have a6:=h.new.1;have a7:=aPQ h;have a8:=h.old.1;omega
 obtain⟨h1,h2,h3,h4,h5,h6,h7⟩:=hl;unfold IF pG nG rG HL;rw[(aRY h1).2,aM,MA,aM,MA,aM,MA,aM,pX aa,pX aa,pX aa];rfl
theorem a35(hb:UA t.aA)(hk:t.aR.length<=1000)(hj:t.aS.length<=1000/\∀j∈t.aS,j=cG\/JB j)(ht:t.eE.length<=1000/\(∀q∈t.eE,q.List.length<=1000)/\∀q∈t.eE,∀b∈q.List,b.bK.length<=1000)(hl:t.Log.length<=1000000/\∀e∈t.Log,EvS e):EY t=some t:=by
 unfold EY HK;rw[aRO hb,aM,MA,aM,(aL3 ht.1 ht.2.1 ht.2.2).2,aM];unfold EX;have k2:loop (l4 t) (0,(⟨t.aA,[]++t.aR,[],t.eE,[],t.aG⟩:Table))=some (⟨t.aA,t.aR,t.aS,t.eE,[],t.aG⟩:Table):=by
  have:=iS (f:=l4 t) t.aS.length (λk=>((k:Int),(⟨t.aA,t.aR,t.aS.take k,t.eE,[],t.aG⟩:Table))) (⟨t.aA,t.aR,t.aS,t.eE,[],t.aG⟩:Table) (λk hk=>by
   simp only[l4];rw[eK,aW hk,aM,bEO (hj.2 _ (cY hk)),aM,MA];grind[EW,cO,I6]) (by simp[l4])
  grind
 have k3:loop (lZ t) (0,(⟨t.aA,t.aR,t.aS,t.eE,[],t.aG⟩:Table))=some t:=by
  have:=iS (f:=lZ t) t.Log.length (λk=>((k:Int),(⟨t.aA,t.aR,t.aS,t.eE,t.Log.take k,t.aG⟩:Table))) t (λk hk=>by
   simp only[lZ];rw[eK,aW hk,aM,a95 (hl.2 _ (cY hk)),aM,MA];grind[EV,cO,I6]) (by simp[lZ])
  grind
 show(loop (l4 t) (0,(⟨t.aA,[]++t.aR,[],t.eE,[],t.aG⟩:Table))).bind _=_;rw[k2,aM];show(loop (lZ t) (0,(⟨t.aA,t.aR,t.aS,t.eE,[],t.aG⟩:Table))).bind _=_;rw[k3];rfl
def MF(t:Table):Bool:=!(t.aS.any λj=>j.bO) && !(t.eE.any λq=>decide (0<(q.List.length:Int)))
theorem aPT(hj:t.aS.length<=1000)(ht:t.eE.length<=1000):FW t=some (MF t):=by
 unfold FW MF;rw[QN (f:=λj=>j.bO) (g:=λy0=>HR y0) hj λ_ _=>rfl,aM];cases (t.aS.any λj=>j.bO)
 ·rw[aO an,VO (f:=λq=>decide (0<(q.List.length:Int))) (g:=λy0=>HT y0) ht λ_ _=>rfl];rfl
 ·rfl
theorem aVK(hv:TV t):MF t=true↔∀w,eO w->VR t w:=by
 have h3:=hv.yO.1;have h4:=hv.todo.1;unfold MF;rw[yQ,a1Z,a1Z,aSQ,aSQ];constructor
 ·rintro⟨a,b⟩ w hw;refine⟨by grind[zR],?_⟩;have hi:w.toNat<t.eE.length:=aa
  simp_all[mF]
 ·intro h;refine⟨λj hj=>?_,λq hq=>?_⟩
  ·obtain⟨i,hi,rfl⟩:=QP hj;have:=(h i aa).1;grind[aD]
  ·obtain⟨i,hi,rfl⟩:=QP hq;have:=(h i aa).2;grind[mF]
def SM:Nat->Nat->Table->Table
 |0,_,t=>t
 |n+1,k,t=>if MF t then t else SM n (k+1) (aY t ((k % 3:Nat):Int))
theorem aI5(k:Nat):eO ((k % 3:Nat):Int):=aa
theorem aVL:∀(n k:Nat) (t:Table),k+n=3000->TV t->t.Log.length+n<=1000000->(loop (mN 3000 true) ((k:Int),t)).bind K4=some (SM n k t)
 |0,k,t,hk,_,_=>by rw[bA (r:=Out.brk t) (by simp_all[mN])];rfl
 |n + 1,k,t,hk,hv,hl=>by
  have h3:=hv.yO.1;have h4:=hv.todo.1;unfold SM;cases hi:MF t
  ·have hs:=a8Y hv aa (aI5 k);rw[bM (s':=(((k+1:Nat):Int),aY t ((k % 3:Nat):Int))) (by
    simp only[mN];rw[eK,aO trivial,aPT aa aa,aM,hi,gJ,QN (f:=λ_=>false) aa (λj hj=>by grind[tU,aPS]),aMN λ_ _=>rfl,aM];unfold mM;rw[gJ,NM aa,show((k:Int) % 3)=((k % 3:Nat):Int) by omega,hs,aM,eG];rfl)]
   rw[gJ];refine aVL n (k+1) _ aa (hv.step (aI5 k)) ?_;have:=aFB t ((k % 3:Nat):Int);unfold VQ at this;grind
  ·rw[bA (r:=Out.ret t) (by
    simp only[mN];rw[eK,aO trivial,aPT aa aa,aM,hi,aO rfl];rfl),aO rfl];rfl
theorem a36(hv:TV t)(hl:t.Log.length+3000<=1000000)(he:∀e∈t.Log,EvS e):nB t=some (SM 3000 0 t):=by have h2:=hv.bk.1;have h3:=hv.yO.1;have h4:=hv.todo;unfold nB;rw[a35 hv.base.small aa ⟨aa,hv.yO.2⟩ ⟨by have:=h4.1;omega,λq hq=>by have:=(h4.2 q hq).1;omega,λq hq b hb=>by have:=((h4.2 q hq).2 b hb).2.1;omega⟩ ⟨aa,he⟩,aM,aDS hv,aM,aO rfl];have:=aVL 3000 0 t rfl hv hl;unfold HU;rw[show((0:Nat):Int)=0 from rfl] at this;rw[this];rfl
theorem aPU{Ky:List Int}(hK:Ky.length<=8)(P:Table->Prop)(hP:∀t w,TV t->eO w->P t->P (aY t w))(hser:∀t,P t->t.aG≠1000000):∀(n k:Nat) (q:Int->Nat) (t:Table),TV t->Sft Ky q t->P t->(∀w,eO w->¬VR t w->3*aDQ q t w+(w-k) % 3<n)->MF (SM n k t)=true/\TV (SM n k t)/\P (SM n k t)/\∃q',Sft Ky q' (SM n k t)
 |0,k,q,t,hv,hs,hp,hn=>⟨(aVK hv).2 λw hw=>Classical.byContradiction λhi=>by
   have:=hn w hw hi;have:=bEN hK hv hs hw hi;omega,hv,hp,q,hs⟩
 |n + 1,k,q,t,hv,hs,hp,hn=>by
  unfold SM;by_cases hi:MF t=true
  ·grind
  ·rw[aP hi];have hw:=aI5 k;refine aPU hK P hP hser n (k+1) (nxQ Ky q t ((k % 3:Nat):Int)) _ (hv.step hw) (hs.step hv hw) (hP t _ hv hw hp) λv hv' hni=>?_;by_cases hid:VR t ((k % 3:Nat):Int)
   ·obtain⟨e1,e2⟩:=aPR hK hv hs hw hid;rw[e1] at hni;rw[e1,e2];have:=hn v hv' hni;have hne:v≠((k % 3:Nat):Int):=λe=>hni (e ▸ hid);unfold eO at hv';omega
   ·obtain⟨a1,a2⟩:=aVH hK hv hs hw (hser t hp) hid;have h0:=hn _ hw hid;by_cases e:v=((k % 3:Nat):Int)
    ·rw[e];omega
    ·obtain⟨b1,b2⟩:=a2 v hv' e;have:=hn v hv' λz=>hni (b2 z);unfold eO at hv';omega
theorem aMO(f:Batch->Int)(x:Batch):∀l:List Batch,UK f (l++[x])=UK f l+f x
 |[]=>by simp[UK]
 |y::r=>by simp only[D5,UK,aMO f x r];omega
theorem a96(x:Batch):isC x<=1:=by grind[isC]
theorem aVM:∀l:List Batch,UK isC l<=l.length
 |[]=>by simp[UK]
 |x::r=>by have:=aVM r;have:=a96 x;grind[UK]
def KyD(k:Int):Prop:=(0<=k/\k<=5)\/k=7\/k=99\/k<0\/99<k
def BaD(x:Batch):Prop:=bC x<=145/\∀y∈x.bK,KyD y.Key
def QuD(m c:Int)(q:aN):Prop:=UK bC q.List<=c/\UK isC q.List<=m/\(q.List.length:Int)<=m/\∀x∈q.List,x.bK.length<=1000/\∀y∈x.bK,KyD y.Key
theorem aI6{l:List Batch}{m m' c':Int}(h:QuD m c ⟨l⟩)(hm:m+1<=m'){x:Batch}(hc:c+bC x<=c')(hx:x.bK.length<=1000/\∀y∈x.bK,KyD y.Key):QuD m' c' ⟨l++[x]⟩:=by obtain⟨h1,h2,h3,h4⟩:=h;simp only at h1 h2 h3 h4;have:=a96 x;refine⟨by grind[aMO],by grind[aMO],ak,λy hy=>?_⟩;grind
theorem YK{m m' c':Int}{q:aN}(h:QuD m c q)(hm:m<=m')(hc:c<=c'):QuD m' c' q:=⟨aI8 h.1 hc,aI8 h.2.1 hm,aI8 h.2.2.1 hm,h.2.2.2⟩
section
variable {b:List UInt8} {i h:Int} (hc:Cu b i)
include hc
theorem bGE:DI (I9 ⟨b,i,h⟩) (λx=>KyD x.1.Key/\Cu b x.2.1):=by
 unfold I9 EF EE;refine .bind (aPG hc ai ai) λx1 ⟨_,h1⟩=>.bind (below h1 aa) λx2 ⟨k2,h2⟩=>?_;have hk:KyD x2.1:=.inl aa;refine .ite (λ_=>.ite (λ_=>?_) λ_=>.ret ⟨hk,h2⟩) λ_=>.ite (λ_=>?_) λ_=>.ret ⟨hk,h2⟩
 ·exact .bind (below h2 aa) λx7 ⟨_,h7⟩=>.bind (aPG h7 ae ae) λx8 ⟨_,h8⟩=>.ret ⟨hk,h8⟩
 ·exact .bind (below h2 aa) λx7 ⟨_,h7⟩=>.bind (aPG h7 ae ae) λx8 ⟨_,h8⟩=>.ret ⟨hk,h8⟩
theorem a98:DI (OM ⟨b,i,h⟩) (λx=>KyD x.1.Key/\Cu b x.2.1):=by
 unfold OM rF;refine .bind (bGE hc) λx1 ⟨k1,h1⟩=>.bind (below h1 aa) λx7 ⟨_,h7⟩=>.ite (λ_=>?_) λ_=>.ite (λ_=>?_) λ_=>.ite (λ_=>?_) λ_=>.ret ⟨k1,h7⟩
 ·exact .bind (aPG h7 ai ai) λx8 ⟨_,h8⟩=>.ret ⟨k1,h8⟩
 ·exact .bind (aPG h7 ai ai) λx8 ⟨k8,h8⟩=>.ret ⟨by grind[KyD],h8⟩
 ·exact .bind (aPG h7 ai ai) λx8 ⟨_,h8⟩=>.ret ⟨k1,h8⟩
theorem bEP:DI (LD ⟨b,i,h⟩) (λx=>BaD x.1/\x.1.bK.length<=1000/\Cu b x.2.1):=by unfold LD;refine .bind (bLN hc aa) λx1 h1=>.ite (λ_=>.ret ⟨⟨by show(14:Int)<=145;decide,ae⟩,ae,h1⟩) λ_=>.bind (below h1 aa) λx2 ⟨hx,h2⟩=>?_;rw[eG];refine .bind (P:=λx=>(x.2.2.length<=3/\∀y∈x.2.2,KyD y.Key)/\Cu b x.1) (.loop (λs=>s.1.toNat) (λs=>(0<=s.1/\s.1+s.2.2.2.length<=3/\∀y∈s.2.2.2,KyD y.Key)/\Cu b s.2.1) ⟨⟨aa,ah,ae⟩,h2⟩ ?_) λ⟨a1,a2,a3⟩ ⟨⟨hx,hy⟩,h3⟩=>.ret ⟨⟨by simp only at hx;unfold bC;grind,hy⟩,ak,h3⟩;rintro⟨n,i1,h1,l⟩ ⟨⟨n0,n1,n2⟩,hi1⟩;simp only at n0 n1 n2 hi1;simp only[US,J7];refine .ite (λq=>?_) (λq=>.ret ⟨⟨ak,n2⟩,hi1⟩);have q1:=of_decide_eq_true q;refine .bind (bGE hi1) λo ⟨ho,h3⟩=>.need ah (.ret ?_);grind[cO]
theorem aPV{m:Int}(hm:0<=m/\m<=12):DI (wZ ⟨b,i,h⟩ m) (λx=>(x.1.length=3/\∀q∈x.1,QuD m (m*145) q)/\Cu b x.2.1):=by
 unfold wZ;refine .bind (P:=λx=>(x.1.length=3/\∀q∈x.1,QuD m (m*145) q)/\Cu b x.2.1) (.loop (λs=>3-s.2.1.toNat) (λs=>((s.1.length:Int)=s.2.1/\s.2.1<=3/\∀q∈s.1,QuD m (m*145) q)/\Cu b s.2.2.1) ⟨⟨rfl,ae,ae⟩,hc⟩ ?_) λx hx=>.ret hx;rintro⟨l,k,i',h'⟩ ⟨⟨e,k3,hq⟩,hi⟩;simp only at e k3 hq hi;simp only[OL];refine .ite (λq=>?_) (λq=>?_)
 ·have q':=of_decide_eq_true q;rw[eG (x:=m+1)];refine .bind (below hi aa) λn ⟨hn,h1⟩=>?_;refine .bind (P:=λx=>QuD m (m*145) ⟨x.2.2⟩/\Cu b x.1) (.loop (λs=>s.1.toNat) (λs=>(0<=s.1/\QuD (m-s.1) ((m-s.1)*145) ⟨s.2.2.2⟩)/\Cu b s.2.1) ⟨⟨hn.1,by grind[QuD,UK]⟩,h1⟩ ?_) ?_
  ·rintro⟨n,i1,h1,ops⟩ ⟨⟨n0,ho⟩,hi1⟩;simp only at n0 ho hi1;have hol:=ho.2.2.1;simp only at hol;simp only[OJ,EG];refine .ite (λq=>?_) (λq=>?_)
   ·have q1:=of_decide_eq_true q;refine .bind (bEP hi1) λo ⟨h0,h2,h3⟩=>.need ah (.ret ?_);have hq:=aI6 (m':=m-(n-1)) (c':=(m-(n-1))*145) ho aa (x:=o.1) (by have:=h0.1;omega) ⟨h2,h0.2⟩;grind[cO]
   ·have q1:¬0<n:=ak
    exact .ret ⟨YK ho aa aa,hi1⟩
  ·rintro⟨i1,h1,ops⟩ ⟨ho,hi1⟩;simp only[OK,OI];refine .need ah (.ret ?_);grind[cO]
 ·have q':¬k<3:=ak
  exact .ret ⟨⟨ak,hq⟩,hi⟩
def ZM(l:List aN):Prop:=l.length<=3/\∀q∈l,QuD 13 910 q
omit hc in
theorem aVN{l:List aN}(hl:ZM l)(k:Nat){q:aN}(hq:QuD 13 910 q):ZM (l.set k q):=⟨by simpa using hl.1,λx hx=>(o8 hx).elim (hl.2 x) (λe=>e ▸ hq)⟩
theorem aYL:DI (BU ⟨b,i,h⟩) (λx=>ZM x.1/\Cu b x.2.1):=by
 unfold BU;refine .bind (aPV hc aa) λx1 ⟨⟨l3,hq⟩,h1⟩=>.bind (below h1 aa) λx5 ⟨_,h5⟩=>?_;have hT:ZM x1.1:=⟨aa,λq hq'=>YK (hq q hq') aa aa⟩;simp only[kX,MS,C0];refine .ite (λ_=>?_) λ_=>.ite (λ_=>?_) λ_=>.ite (λ_=>?_) λ_=>.ite (λ_=>?_) λ_=>?_
 ·exact .need aa (.ret ⟨⟨ah,λq hq'=>hT.2 q (a4X (by simpa using hq'))⟩,h5⟩)
 ·refine .bind (.idx aa) λx6 h6=>?_;have h7:=hq _ h6;have:=h7.2.2.1;exact .need ah (.ret ⟨aVN hT _ (aI6 (m:=5) (c:=5*145) (l:=x6.List) h7 aa (x:=⟨false,[]⟩) (by show _+(19:Int)<=910;omega) ⟨ae,ae⟩),h5⟩)
 ·refine .bind (P:=λx=>ZM x.1/\Cu b x.2.1) (.loop (λs=>20-((s.1.getD 1 ⟨[]⟩).List.length)) (λs=>(s.1.length=3/\∀q∈s.1,QuD 13 (725+14*q.List.length) q)/\Cu b s.2.1) ⟨⟨l3,λq hq'=>YK (hq q hq') aa aa⟩,h5⟩ ?_) ?_
  ·rintro⟨l,i1,h1⟩ ⟨⟨l3,hq⟩,hi1⟩;simp only at l3 hq hi1;simp only[MU,CZ];have hx:idx l 1=some l[1]:=aW (k:=1) aa;have hm:=hq _ (cY (show 1<l.length by omega));have hm1:=hm.2.2.1;rw[hx];simp only[aM];refine .bind (below hi1 aa) λx ⟨hx2,hi2⟩=>.ite (λq=>?_) (λq=>?_)
   ·have q':=of_decide_eq_true q;rw[eG] at q';refine .need ah (.ret ?_);refine⟨⟨⟨by simp[l3],λx hx=>?_⟩,hi2⟩,?_⟩
    ·rcases o8 hx with hx|hx
     ·grind
     ·have:=aI6 (m':=14) (c':=725+14*(l[1].List++[(⟨true,[]⟩:Batch)]).length) (l:=l[1].List) hm aa (x:=⟨true,[]⟩) (by show _+(14:Int)<=_;simp;omega) ⟨ae,ae⟩;rw[hx];refine⟨this.1,?_,ah,this.2.2.2⟩;have h13:=aVM (l[1].List++[(⟨true,[]⟩:Batch)]);grind
    grind
   ·exact .ret ⟨⟨ak,λq hq'=>YK (hq q hq') aa (by have:=(hq q hq').2.2.1;omega)⟩,hi2⟩
  ·rintro⟨l,i1,h1⟩ hx;exact .ret hx
 ·refine .bind (.idx aa) λx25 h25=>.bind (a98 h5) λx26 ⟨k26,h26⟩=>?_;have h7:=hq _ h25;have:=h7.2.2.1;exact .need ah (.ret ⟨aVN hT _ (aI6 (m:=5) (c:=5*145) (l:=x25.List) h7 aa (x:=⟨false,[x26.1]⟩) (by show _+(1*42+19:Int)<=910;omega) ⟨ae,ak⟩),h26⟩)
 ·exact .ret ⟨hT,h5⟩
end
theorem aVO{code:List UInt8}(hl:code.length<=1048576):DI (tF code) (λx=>ZM x.eE/\x.aO0.length<=5000):=by unfold tF;refine .bind (bNX hl) λx1 h1=>.bind (aPV h1 aa) λx2 ⟨⟨l3,hq⟩,h2⟩=>.bind (bDY h2 aa) λx3 ⟨p,h3⟩=>.bind (below h3 aa) λx6 ⟨_,h6⟩=>?_;have hT:ZM x2.1:=⟨aa,λq hq'=>YK (hq q hq') aa aa⟩;simp only[kV];refine .ite (λ_=>.bind (aYL h6) λx7 ⟨h7,_⟩=>.ret ⟨h7,ak⟩) λ_=>.ite (λ_=>.need ah (.ret ⟨hT,ah⟩)) λ_=>.ret ⟨hT,ak⟩
theorem ZM.bLV{l:List aN}(h:ZM l):bDX l:=⟨h.1,λq hq=>⟨by have:=(h.2 q hq).2.2.1;omega,λx hx=>((h.2 q hq).2.2.2 x hx).1⟩⟩
theorem a1D(j:aI)(x:aU):(kH j x).2.Batch=j.Batch:=by grind[kH,nZ]
theorem a1E(j:aI)(c:iP)(v:Int)(is:Bool):(lL j c v is).Batch=j.Batch:=by
 unfold lL;split
 ·generalize (if is then v else 0)=u;unfold SI;have h:=a1D j ⟨c.Key,false,BQ u c.dI⟩;split
  ·exact h
  ·exact h
 ·rfl
theorem bEQ(j:aI):(oA j).Batch=j.Batch:=by grind[oA,a1D,a1E]
theorem a99(b:aA)(k:List bR)(w:Int)(j:aI):(iB b k w j).Batch=j.Batch:=by
 unfold iB;split
 ·split<;>rfl
 ·split
  ·simp
  ·split
   ·split
    ·rfl
    ·split<;>rfl
   ·split
    ·rfl
    ·split
     ·rfl
     ·split
      ·grind[a1E]
      ·rfl
theorem bER(b:aA)(w:Int)(j:aI):(qP b w j).2.Batch=j.Batch:=by
 unfold qP;split
 ·simp
 ·simp only;split
  ·simp
  ·split<;>rfl
theorem bES(k:List bR)(w:Int)(j:aI):(mQ k w j).2.1.Batch=j.Batch:=by
 unfold mQ;split
 ·split
  ·rfl
  ·split
   ·rfl
   ·split<;>rfl
 simp
theorem bET(k:List bR)(w:Int)(j:aI):(GU k w j).Batch=j.Batch:=by
 unfold GU;split
 ·simp
 ·split<;>rfl
theorem aYM(j:aI)(x:aU):(I1 j x).Batch=j.Batch:=by grind[I1]
theorem bEU(j:aI):(J3 j).Batch=j.Batch:=by grind[J3]
theorem bEV(b:aA)(k:List bR)(j:aI):(jH b k j).2.2.Batch=j.Batch:=by
 unfold jH;split
 ·simp
 ·split
  ·grind[aYM]
  ·split
   ·grind[aYM]
   ·split
    ·grind[aYM,bEU]
    ·split
     ·rfl
     grind
theorem a1F(j:aI):(G4 j).Batch=j.Batch:=by grind[G4]
theorem bEW(k:List bR)(j:aI):(wR k j).2.Batch=j.Batch:=by grind[wR,a1F]
theorem bEX(b:aA)(w:Int)(j:aI):(wS b w j).2.Batch=j.Batch:=by grind[wS,a1F]
theorem bEY(b:aA)(w:Int)(j:aI):(wT b w j).2.Batch=j.Batch:=by grind[wT]
theorem bEZ(b:aA)(w:Int)(j:aI):(lC b w j).2.Batch=j.Batch:=by grind[lC]
def SN(w:Int)(j:aI)(r:TR):Prop:=
 (r.j.aG=j.aG/\r.j.bO=j.bO/\r.j.Batch=j.Batch/\(r.l=[]\/r.l=[⟨2,w,j.aG,0,[],[]⟩]))\/(¬(j.Pc<19\/19<j.Pc)/\r.j=cG/\r.l=[tlE w j])
theorem uH(b:aA)(k:List bR)(w:Int)(j:aI)(hp:0<=j.Pc/\j.Pc<=21):SN w j (dX b k w j):=by
 unfold dX;refine dM (P:=SN w j) (λ_=>.inl ⟨(aI1 b w j).1,(aI1 b w j).2,bEZ b w j,.inl rfl⟩) λ_=>dM (P:=SN w j) (λ_=>.inl ⟨(aIT j).1,(aIT j).2,bEQ j,.inl rfl⟩) λ_=>
  dM (P:=SN w j) (λ_=>.inl ⟨(aDM b k w j).1,(aDM b k w j).2,a99 b k w j,.inl rfl⟩) λ_=>dM (P:=SN w j) (λ_=>.inl ⟨(aIU b w j).1,(aIU b w j).2,bER b w j,.inl rfl⟩) λ_=>
  dM (P:=SN w j) (λ_=>.inl ⟨(aIV k w j).1,(aIV k w j).2,bES k w j,?_⟩) λ_=>dM (P:=SN w j) (λ_=>.inl ⟨(aIW k w j).1,(aIW k w j).2,bET k w j,.inl rfl⟩) λ_=>
  dM (P:=SN w j) (λ_=>.inl ⟨(aIX b k j).1,(aIX b k j).2,bEV b k j,.inl rfl⟩) λ_=>dM (P:=SN w j) (λ_=>.inl ⟨(aIY k j).1,(aIY k j).2,bEW k j,.inl rfl⟩) λ_=>
  dM (P:=SN w j) (λ_=>.inl ⟨(aIZ b w j).1,(aIZ b w j).2,bEX b w j,.inl rfl⟩) λ_=>dM (P:=SN w j) (λ_=>.inl ⟨(aI0 b w j).1,(aI0 b w j).2,bEY b w j,.inl rfl⟩) λ_=>
  dM (P:=SN w j) (λ_=>.inl ⟨rfl,rfl,rfl,.inl rfl⟩) λ_=>dM (P:=SN w j) (λp=>.inr ⟨aa,rfl,rfl⟩) λ_=>.inl ⟨rfl,rfl,rfl,.inl rfl⟩
 simp
structure TlJ (l:List mT) (s:Int) (P:List iP->Prop):Prop where
 call:∃c∈l,c.Kind=1/\c.aG=s
 all:∀c∈l,c.Kind=1->c.aG=s->P c.bK
theorem TlJ.app{l:List mT}{P:List iP->Prop}(h:TlJ l s P){m:List mT}(hm:∀x∈m,x.Kind=1->x.aG≠s):TlJ (l++m) s P:=by obtain⟨⟨c,hc,h1⟩,h2⟩:=h;refine⟨⟨c,V7 _ hc,h1⟩,λx hx k e=>?_⟩;grind
def kT(l:List mT):Int:=(l.countP λe=>e.Kind == 3:Nat)
def ZN(t:Table)(v:Int):Int:=if(aD t v).bO then 1 else 0
def NX(t:Table)(v:Int):Int:=(mF t v).length
def bJA(e:mT)(c:List iP):Prop:=if e.Code=0 then e.fY.length=c.length else e.fY=[]
structure TlT (n:Int) (t:Table):Prop where
 ev:∀e∈t.Log,EvS e/\e.aG<=t.aG
 job:∀w,eO w->(aD t w).bO=true->(aD t w).aG<=t.aG/\TlJ t.Log (aD t w).aG (·=(aD t w).Batch.bK)
 tell:∀e∈t.Log,e.Kind=3->(e.Code=0\/e.Code=3\/e.Code=6\/e.Code=7)/\TlJ t.Log e.aG (bJA e)
 sum:kT t.Log+ME (ZN t)+ME (NX t)=n
 ser:t.aG+ME (NX t)=n
theorem aI7{f g:Int->Int}(hw:eO w)(hg:∀v,eO v->v≠w->g v=f v):ME g+f w=ME f+g w:=by grind[ME]
theorem bAB(l m:List mT):kT (l++m)=kT l+kT m:=by grind[kT]
theorem TlT.zero{l:List aN}{n:Int}(hn:ME (NX (cC l))=n):TlT n (cC l):=by
 have hj:∀w,eO w->(aD (cC l) w).bO=false:=λw hw=>by rcases(by omega:w=0\/w=1\/w=2) with rfl|rfl|rfl<;>rfl
 have h0:ME (ZN (cC l))=0:=rfl;have e0:(cC l).Log=[]:=rfl;refine⟨λe he=>?_,λw hw h=>?_,λe he=>?_,?_,?_⟩
 ·grind
 ·grind
 ·grind
 ·grind[kT]
 ·rw[hn];show(0:Int)+n=n;omega
theorem TlT.step{q:Int->Nat}{n:Int}(hv:TV t)(hw:eO w)(hs:Sft Ky q t)(h:TlT n t):TlT n (aY t w):=by
 have h3:=hv.yO.1;have h4:=hv.todo.1;have hJ:(aD t w).bO=true->JB (aD t w):=λhB=>(hv.yO.2 _ (zR h3 hw)).resolve_left λe=>by rw[e] at hB;cases hB
 obtain⟨c,sv⟩:=hs.sv;unfold aY;by_cases hB:(aD t w).bO=true
 ·rw[aO hB];have tw:=sv.tw w hw hB;have jb:=hJ hB;obtain⟨js,jt⟩:=h.job w hw hB;have hd:=uH t.aA t.aR w (aD t w) tw.pc;generalize dX t.aA t.aR w (aD t w)=r at hd;have ej:∀v,eO v->aD (yL t w r) v=if v=w then r.j else aD t v:=λv hv'=>aR0 h3 rfl hw hv';have eq:NX (yL t w r)=NX t:=rfl;have el:(yL t w r).Log=t.Log++r.l:=rfl;have es:(yL t w r).aG=t.aG:=rfl;have hne:∀x∈r.l,x.Kind≠1:=λx hx=>by
   rcases hd with ⟨_,_,_,e|e⟩|⟨_,_,e⟩<;>rw[e] at hx
   ·cases hx
   ·grind
   ·rw[jJ.1 hx];exact(by decide:(3:Int)≠1)
  have keep:∀{s:Int} {P:List iP->Prop},TlJ t.Log s P->TlJ (t.Log++r.l) s P:=λa=>a.app λx hx k=>absurd k (hne x hx);have hlen:(tlE w (aD t w)).Code=0->((tlE w (aD t w)).fY.length:Int)=(aD t w).At/\(tlE w (aD t w)).fY=(aD t w).fY:=λe=>by have e':(aD t w).Code=0:=e;simp only[tlE,aO e'];exact⟨jb.res,trivial⟩
  have hbl:=jb.at_;have hb6:=jb.V5.2.1;have hres:=jb.res;refine⟨λe he=>?_,λv hv' hb'=>?_,λe he k=>?_,?_,?_⟩
  ·rw[el] at he;rw[es];rcases dD.1 he with he|he
   ·exact h.ev e he
   ·rcases hd with ⟨_,_,_,e1|e1⟩|⟨_,_,e1⟩<;>rw[e1] at he
    ·cases he
    ·rw[jJ.1 he];exact⟨⟨ae,ae⟩,js⟩
    ·rw[jJ.1 he];refine⟨⟨by simp[tlE],?_⟩,js⟩;show(if(aD t w).Code=0 then(aD t w).fY else []).length<=1000;grind
  ·rw[el,es];rw[ej v hv'] at hb' ⊢;by_cases e:v=w
   ·rw[aO e] at hb' ⊢;rcases hd with ⟨s1,s2,s3,_⟩|⟨_,s1,_⟩
    ·grind
    ·rw[s1] at hb';cases hb'
   ·rw[aP e] at hb' ⊢;exact⟨(h.job v hv' hb').1,keep (h.job v hv' hb').2⟩
  ·rw[el] at he ⊢;rcases dD.1 he with he|he
   ·exact⟨(h.tell e he k).1,keep (h.tell e he k).2⟩
   ·rcases hd with ⟨_,_,_,e1|e1⟩|⟨p19,_,e1⟩<;>rw[e1] at he
    ·cases he
    ·grind
    ·rw[jJ.1 he];have cd:=tw.cd;have at1:=tw.at_;refine⟨?_,keep ⟨jt.call,λc hc kc ec=>?_⟩⟩
     ·show(aD t w).Code=0\/(aD t w).Code=3\/(aD t w).Code=6\/(aD t w).Code=7;omega
     ·rw[jt.all c hc kc ec];unfold bJA;by_cases z:(aD t w).Code=0
      ·rw[aO (show(tlE w (aD t w)).Code=0 from z),(hlen z).2];omega
      ·rw[aP (show ¬(tlE w (aD t w)).Code=0 from z)];show(if(aD t w).Code=0 then(aD t w).fY else [])=[];grind
  ·rw[el,eq,bAB];have a:=aI7 (f:=ZN t) (g:=ZN (yL t w r)) hw λv hv' hn=>by simp_all[ZN]
   have b:ZN (yL t w r) w=if r.j.bO then 1 else 0:=by simp_all[ZN]
   have b':ZN t w=1:=by simp_all[ZN]
   have s:=h.sum;rcases hd with ⟨_,s2,_,e1|e1⟩|⟨_,s1,e1⟩
   ·simp_all[kT]
   ·simp_all[kT]
   ·rw[s1,aP ai] at b;grind[kT,tlE]
  ·rw[eq,es];exact h.ser
 ·rw[aP hB];by_cases hq:(mF t w).length=0\/t.aG=1000000
  ·grind
  ·rw[aP hq];have hmem:(mF t w).getD 0 ⟨false,[]⟩∈mF t w:=ak
   have hb6:((mF t w).getD 0 ⟨false,[]⟩).bK.length<=6:=by
    have hi:w.toNat<t.eE.length:=aa
    have hq:=hv.todo.2 _ (cY hi);have e:mF t w=t.eE[w.toNat].List:=by grind[mF]
    exact(hq.2 _ (e ▸ hmem)).2.1
   generalize (mF t w).getD 0 ⟨false,[]⟩=b at hb6;have ej:∀v,eO v->aD (qQ t w b) v=if v=w then gY b (t.aG+1) else aD t v:=λv hv'=>aR0 h3 rfl hw hv';have eqq:∀v,eO v->NX (qQ t w b) v=if v=w then(((mF t w).drop 1).length:Int) else NX t v:=λv hv'=>by grind[NX,mF,qQ]
   have el:(qQ t w b).Log=t.Log++[⟨1,w,t.aG+1,0,b.bK,[]⟩]:=rfl;have es:(qQ t w b).aG=t.aG+1:=rfl;have keep:∀{s:Int} {P:List iP->Prop},s<=t.aG->TlJ t.Log s P->TlJ (t.Log++[⟨1,w,t.aG+1,0,b.bK,[]⟩]) s P:=λhs a=>a.app λx hx k=>ak
   refine⟨λe he=>?_,λv hv' hb'=>?_,λe he k=>?_,?_,?_⟩
   ·rw[el] at he;rw[es];rcases dD.1 he with he|he
    ·have:=h.ev e he;grind
    ·rw[jJ.1 he];exact⟨⟨ak,ae⟩,I3 _⟩
   ·rw[el,es];rw[ej v hv'] at hb' ⊢;by_cases e:v=w
    ·rw[aO e];refine⟨I3 _,⟨⟨_,aBP _ (jJ.2 rfl),rfl,rfl⟩,λc hc kc ec=>?_⟩⟩;rcases dD.1 hc with hc|hc
     ·have:=(h.ev c hc).2;have ec':c.aG=t.aG+1:=ec;omega
     ·rw[jJ.1 hc];rfl
    ·rw[aP e] at hb' ⊢;obtain⟨a,b⟩:=h.job v hv' hb';grind
   ·rw[el] at he ⊢;rcases dD.1 he with he|he
    ·exact⟨(h.tell e he k).1,keep (h.ev e he).2 (h.tell e he k).2⟩
    grind
   ·rw[el,bAB];have a:=aI7 (f:=ZN t) (g:=ZN (qQ t w b)) hw λv hv' hn=>by simp_all[ZN]
    have a':=aI7 (f:=NX t) (g:=NX (qQ t w b)) hw λv hv' hn=>ak
    have b1:ZN (qQ t w b) w=1:=by unfold ZN;rw[ej w hw,aO rfl];rfl
    have b':ZN t w=0:=by simp_all[ZN]
    have c1:=eqq w hw;rw[aO rfl,UN] at c1;have c2:NX t w=(mF t w).length:=rfl;have s:=h.sum;grind[kT]
   ·rw[es];have a':=aI7 (f:=NX t) (g:=NX (qQ t w b)) hw λv hv' hn=>ak
    have c1:=eqq w hw;rw[aO rfl,UN] at c1;have c2:NX t w=(mF t w).length:=rfl;have s:=h.ser;omega
def SO(l:List mT):List mT:=l.filter λe=>e.Kind == 3
theorem a37(hl:t.Log.length<=1000000)(he:∀e∈t.Log,EvS e):CI t=some (SO t.Log):=by
 unfold CI;have key:loop (nM t) ([],0)=some (SO t.Log):=by
  have:=iS (f:=nM t) t.Log.length (λi=>(SO (t.Log.take i),(i:Int))) (SO t.Log) (λi hi=>by
   have hle:(SO (t.Log.take i)).length<=i:=lX (aYW _ _) ak;simp only[nM,tV];rw[eK,aW hi,aM,a95 (he _ (cY hi)),aM,MA,eG,I6 hi];grind[SO]) (by simp[nM])
  grind[SO]
 rw[key];rfl
theorem aVP:∀(n k:Nat) (t:Table),(SM n k t).Log.length<=t.Log.length+n
 |0,_,t=>iU _
 |n + 1,k,t=>by
  unfold SM;split
  ·omega
  ·have:=aVP n (k+1) (aY t ((k % 3:Nat):Int));have h:=aFB t ((k % 3:Nat):Int);unfold VQ at h;grind
def Ky7:List Int:=[0,1,2,3,4,5,7,99]
theorem bLW{k:Int}(h:KyD k)(v:0<=k/\k<=99):k∈Ky7:=by
 unfold KyD at h;have:k=0\/k=1\/k=2\/k=3\/k=4\/k=5\/k=7\/k=99:=aa
 simpa[Ky7] using this
theorem bJC{l:List aN}(hd:ZM l)(ht:SJ l):Sft Ky7 (λ_=>0) (cC l):=Sft.zero λq hq b hb x hx=>bLW ((hd.2 q hq).2.2.2 b hb |>.2 x hx) ((((ht.2 q hq).2 b hb).2.2.1 x hx).2.1)
theorem bLX{l:List aN}(hd:ZM l)(hw:eO w):aDQ (λ_=>0) (cC l) w<=999:=by
 have ej:∀v,eO v->aD (cC l) v=cG:=λv hv=>by rcases(by omega:v=0\/v=1\/v=2) with rfl|rfl|rfl<;>rfl
 have eq:∀v:Int,QuD 13 910 ⟨mF (cC l) v⟩:=λv=>by
  show QuD 13 910 ⟨(l.getD v.toNat ⟨[]⟩).List⟩;rw[I4];cases e:l[v.toNat]? with
  |none=>simp[QuD,UK]
  |some q=>exact hd.2 q (D7 e)
 have eb:∀v,eO v->0<=z7 (cC l) v/\z7 (cC l) v<=13:=λv hv=>by have h1:=aDR a1C (mF (cC l) v);have h2:=(eq v).2.1;unfold z7;rw[ej v hv,aP (λq=>by cases q.1)];grind
 have er:kI (cC l).aA w=0:=by rcases(by omega:w=0\/w=1\/w=2) with rfl|rfl|rfl<;>rfl
 have eo:aVF (λ_=>0) (cC l) w<=910:=by unfold aVF;rw[ej w hw,er];have h1:=(eq w).1;grind[b9,cG]
 have b0:=eb 0 (by simp[eO]);have b1:=eb 1 (by simp[eO]);have b2:=eb 2 (by simp[eO]);unfold aDQ ME;rcases(by omega:w=0\/w=1\/w=2) with rfl|rfl|rfl<;>omega
def PlT(n:Int)(t:Table):Prop:=TlT n t/\∃q,Sft Ky7 q t
def PhT(n:Int)(t:Table):Prop:=TlT n t/\∃q,Sft Ky7 q t/\∀w,eO w->¬VR t w->aDQ q t w<=999
theorem aVR(t:Table):0<=ME (NX t):=by grind[ME,NX]
theorem PlT.step{n:Int}(hv:TV t)(hw:eO w)(h:PlT n t):PlT n (aY t w):=by obtain⟨a,q,b⟩:=h;exact⟨a.step hv hw b,_,b.step hv hw⟩
theorem PhT.step{n:Int}(hn:n<=100)(hv:TV t)(hw:eO w)(h:PhT n t):PhT n (aY t w):=by
 obtain⟨a,q,b,c⟩:=h;refine⟨a.step hv hw b,_,b.step hv hw,λv hv' hi=>?_⟩;have hser:t.aG≠1000000:=by have:=a.ser;have:=aVR t;omega
 by_cases hid:VR t w
 ·obtain⟨e1,e2⟩:=aPR ai hv b hw hid;grind
 ·obtain⟨a1,a2⟩:=aVH ai hv b hw hser hid;grind
theorem bN2{l:List aN}(hd:ZM l)(ht:SJ l)(p:List Int)(hp:p.length<=400):nB (K9 (cC l) p)=some (SM 3000 0 (K9 (cC l) p))/\MF (SM 3000 0 (K9 (cC l) p))=true/\TV (SM 3000 0 (K9 (cC l) p))/\PlT (ME (NX (cC l))) (SM 3000 0 (K9 (cC l) p))/\(SM 3000 0 (K9 (cC l) p)).Log.length<=3400:=by
 have hn:ME (NX (cC l))<=100:=by
  have:∀v:Int,NX (cC l) v<=13:=λv=>by
   show(((l.getD v.toNat ⟨[]⟩).List.length:Nat):Int)<=13;rw[I4];cases e:l[v.toNat]? with
   |none=>simp
   |some q=>exact(hd.2 q (D7 e)).2.2.1
  grind[ME]
 obtain⟨v,a,q,b,c⟩:=aL4 (P:=PhT (ME (NX (cC l)))) (λt w hv hw h=>h.step hn hv hw) p (aPK ht) ⟨.zero rfl,_,bJC hd ht,λw hw _=>bLX hd hw⟩;have hl:=aPL p (cC l);rw[show(cC l).Log.length=0 from rfl] at hl;generalize K9 (cC l) p=t at v a b c hl;obtain⟨g1,g2,g3,_⟩:=aPU ai (PlT (ME (NX (cC l)))) (λt w hv hw h=>h.step hv hw) (λt h=>by have:=h.1.ser;have:=aVR t;omega) 3000 0 q t v b ⟨a,q,b⟩ λw hw hi=>ak
 have:=aVP 3000 0 t;exact⟨a36 v aa λe he=>(a.ev e he).1,g1,g2,g3,aa⟩
theorem bAC{l:List mT}{P:List iP->Prop}(h:TlJ l s P):0<=aL7 l 1 s/\P (l.getD (aL7 l 1 s).toNat ⟨0,0,0,0,[],[]⟩).bK:=by obtain⟨c,hc,k,e⟩:=h.call;have hlt:l.findIdx (isE 1 s)<l.length:=bFK ⟨c,hc,by grind[isE]⟩;have hp:=a4W (w:=hlt);have e1:aL7 l 1 s=(l.findIdx (isE 1 s):Int):=aO hlt;rw[e1];refine⟨aa,?_⟩;rw[MM,I4,iT hlt];unfold isE at hp;rw[yQ,beq_iff_eq,beq_iff_eq] at hp;exact h.all _ (cY hlt) hp.1 hp.2
theorem kJ.cls(h:kJ m x):0<=bL m.Heap (x % 32)/\lK x:=⟨dO h.1.2.1,h.1.1⟩
theorem aMP{m:Mem}(hm:lW m):∀(r:List Int) (done:List Int) (x:Int),ChT m x r->(done++r).Nodup->done.length+r.length<=1000->loop (CL m) (done,x)=some (Out.brk (done++r))
 |[],done,x,h,hn,hl=>by refine bA ?_;have hx:x=0:=h;simp_all[CL]
 |a::r,done,x,h,hn,hl=>by
  obtain⟨rfl,hw,hk,hc⟩:=h;obtain⟨hcl,hh⟩:=hw.cls;obtain⟨c,e,hc0⟩:=YD hm x;have hx0:x≠0:=by have:=hh.1;omega
  have hnot:x∉done:=λq=>ak
  simp only[G5] at hl;rw[bM (s':=(done++[x],(cJ m x).Next)) (by
   simp only[CL];rw[aO ak,e,aM,hc0.2 hw,gJ,contains_eq (by grind[maxLen]),aM,iC hnot];unfold CJ;rw[gJ,show Int.tmod x 32=x % 32 from aSP (by have:=hh.1;omega),aE5 hm.1.1.1 hcl hw.2,aM,aPF,aM,cV (show aBH (ZJ m.Heap (x % 32)) from hk),gJ,MA];rfl)]
  rw[aMP hm r (done++[x]) _ hc ak ah];simp
theorem aR8(hm:lW m)(hb:m.Heap.Bytes.length<=maxLen)(ha:(iE m.aE).length<=1073741824)(h:ChT m x l)(hn:l.Nodup)(hl:l.length<=1000):FX m x=some (l,true):=by unfold FX;rw[BN hb ha,cV hm,aM,gJ,aMP hm l [] x h ak ak];rfl
def bLY:List Int->Int->List Int
 |[],x=>[x]
 |a::t,x=>if a=x then a::t else if x<a then x::a::t else a::bLY t x
def a38(f:Int->List Int):Nat->List Int
 |0=>[]
 |k+1=>a38 f k++f k
def srt(l:List Int):List Int:=l.foldl bLY []
def aOF(c:Int->List Int)(J:Int->aI):List Int:=a38 c 2++a38 (λv=>own (J v)) 3
section
variable {Ky:List Int} {b:aA} {k:List bR} {c:Int->List Int} {q:Int->Nat} {J:Int->aI} (h:sK Ky b k c q J)
include h
theorem a1G(s:Int):ZL (aOF c J) s=ind b s:=by rw[<-h.cnt s];grind[aOF,a38,UG,cnC,cnO]
theorem bJD(hx:x∈aOF c J):kJ b.Mem x/\¬bD b.aQ (x % 32):=by
 refine⟨?_,?_⟩
 ·have:x∈c 0\/x∈c 1\/x∈own (J 0)\/x∈own (J 1)\/x∈own (J 2):=by grind[aOF,a38]
  rcases this with m|m|m|m|m
  ·exact((h.ch 0 (by simp[nY])).all x m).1
  ·exact((h.ch 1 (by simp[nY])).all x m).1
  ·exact h.ok 0 (by simp[eO]) x m
  ·exact h.ok 1 (by simp[eO]) x m
  ·exact h.ok 2 (by simp[eO]) x m
 ·have:=QL hx;rw[a1G h] at this;grind[ind]
theorem a1H:((aOF c J).map (· % 32)).Nodup:=List.nodup_iff_count.2 λs=>by have:=a1G h s;grind[ZL,ind]
theorem a39:(aOF c J).Nodup:=(List.pairwise_map.1 (a1H h)).imp λh e=>h (by rw[e])
theorem a1I(hx:x∈aOF c J):(0<=x % 32/\x % 32<24)/\x % 32 % 4<2/\x≠0:=by obtain⟨⟨lv,h10⟩,_⟩:=bJD h hx;obtain⟨a,e,f⟩:=rB (dO lv.2.1);rw[f] at h10;have:=lv.1;grind[lK,cK,jC]
theorem bE0:(aOF c J).length<=12:=by
 have e:=a3T (p:=λi:Nat=>decide ((i:Int)∈(aOF c J).map (· % 32))) (n:=24) (a1H h) (λx hx=>by
  grind[a1I]) (λi _=>ae)
 rw[aFL] at e;rw[<-e];unfold bD4;refine lX (m:=((List.range 24).filter λi:Nat=>decide (i % 4<2)).length) ?_ ai;rw[<-List.countP_eq_length_filter,<-List.countP_eq_length_filter];refine List.countP_mono_left λi _ hi=>?_;obtain⟨y,hy,e⟩:=AU.1 (of_decide_eq_true hi);grind[a1I]
end
section
variable {Ky:List Int} {t:Table} {c:Int->List Int} {q:Int->Nat} (hv:TV t) (h:sK Ky t.aA t.aR c q (aD t))
include hv h
theorem aYN(hi:nY i):(c i).length<=12/\(c i).Nodup:=by have h1:=bE0 h;grind[a39,aOF,a38]
theorem bAD:JO t=some ([c 0,c 1],true):=by
 have hm:=hv.base.1.1;obtain⟨hcnt,h3,h9,h384,_⟩:=lW.facts hm;have k2:=hv.bk.1;have e:∀i:Int,nY i->idx t.aR i=some (dL t.aR i)/\FX t.aA.Mem (dL t.aR i).Head=some (c i,true):=λi hi=>by obtain⟨a,b⟩:=aYN hv h hi;refine⟨?_,aR8 hm (by grind[maxLen]) aa (h.ch i hi) b aa⟩;grind[gP,dL]
 have key:loop (xS t) (([]:List (List Int)),0)=some (Out.brk [c 0,c 1]):=by
  rw[bM (s':=([c 0],1)) (by simp_all[xS,cO,bZ]),
   bM (s':=([c 0,c 1],2)) (by simp_all[xS,cO,bZ]),bA (r:=Out.brk [c 0,c 1]) (by grind[xS])]
 unfold JO;rw[aDS hv,aM,gJ,key];rfl
end
theorem aPW{s:List KV}{p:KV->Bool}(hl:s.length<=4611686018427387904) :
  (∃j,∃h:j<s.length,(∀i (h:i<s.length),i<j->p s[i]=false)/\p s[j]=true/\iZ s (λy=>some (p y))=some (j:Int))\/((∀i (h:i<s.length),p s[i]=false)/\iZ s (λy=>some (p y))=some (-1)):=by
 rcases XY (f:=tW s (λy=>some (p y))) (p:=p) hl (λk=>by
  simp only[tW];by_cases h:k<s.length
  ·rw[dif_pos h,eK,aW h,aM,aM,eG];rfl
  grind) s.length 0 aa with ⟨j,h,_,h2,h3,h4⟩|⟨h1,h2⟩
 ·refine .inl ⟨j,h,λi hi a=>h2 i hi (jK _) a,h3,?_⟩;unfold iZ;rw[show(0:Int)=((0:Nat):Int) from rfl,h4];rfl
 ·refine .inr ⟨λi hi=>h1 i hi (jK _),?_⟩;unfold iZ;rw[show(0:Int)=((0:Nat):Int) from rfl,h2];rfl
theorem aYO{s:List KV}{p:KV->Bool}(hl:s.length<=4611686018427387904):pT s (λy=>some (p y))=some (s.filter λx=>!p x):=by
 unfold pT;rcases aPW (p:=p) hl with ⟨j,h,h1,h2,h3⟩|⟨h1,h3⟩
 ·have ne:¬(((j:Int) == -1)=true):=ae
  rw[h3,aM,aP ne,eG];obtain⟨M,k,g1,g2,g3,g4⟩:=aIN (p:=p) (n:=s.length) (f:=mB (λy=>some (p y))) hl (λL i j h hn hi=>by
   simp only[mB];rw[eK,aW h,aM,aM];by_cases hp:p L[j]=true
   ·rw[aO hp,aP (by simp[hp])];grind[jW,cO]
   ·rw[aP hp,aO ak,V2,aM];grind[jW,cO]) (λL i j h=>by
   grind[mB]) (s.length-(j+1)) s j (j+1) aa rfl aa
  grind[DT,DS,bZ,eX,aO1,aUD]
 ·rw[h3,aM,aO an,List.filter_eq_self.2];grind[QP]
theorem bAE{O:Type}{p:O->Bool}:∀{l:List O},(∀x∈l,p x=true)->l.dropWhile p=[]
 |[],_=>rfl
 |a::l,h=>by rw[List.dropWhile_cons,aO (h a ae),bAE λx hx=>h x (by simp[hx])]
def mpF(m:List KV)(k v:Int):List KV:=(m.filter λx=>!(x.Key == k)).takeWhile (λx=>!decide (k<x.Key))++⟨k,v⟩::(m.filter λx=>!(x.Key == k)).dropWhile (λx=>!decide (k<x.Key))
theorem a4A{m:List KV}(hl:m.length<=100000)(k v:Int):DU m k v=some (mpF m k v):=by
 unfold DU WU KH;rw[MA,aM,QT,show(λy0=>PY y0 k)=(λy=>some (y.Key == k)) from rfl,aYO aa,aM,aM];unfold mpF;have hd:(m.filter λx=>!(x.Key == k)).length<=m.length:=aYW _ _;generalize (m.filter λx=>!(x.Key == k))=d at hd;have ins:∀j:Nat,j<=d.length->xT k v d (j:Int)=some (d.take j++⟨k,v⟩::d.drop j):=λj hj=>by grind[xT,HV,bZ]
 rw[show(λy0=>PZ y0 k)=(λy=>some (decide (k<y.Key))) from rfl];rcases aPW (s:=d) (p:=λy=>decide (k<y.Key)) aa with ⟨j,h,h1,h2,h3⟩|⟨h1,h3⟩
 ·obtain⟨e1,e2⟩:=aRL (q:=λx:KV=>!decide (k<x.Key)) h (λi hi a=>ak) ak;grind
 ·have hall:∀x∈d,(!decide (k<x.Key))=true:=λx hx=>by grind[QP]
  have e0:d.dropWhile (λx:KV=>!decide (k<x.Key))=[]:=bAE hall;have e1:=aSS (p:=λx:KV=>!decide (k<x.Key)) (l:=d);grind
theorem bE1{m:List KV}{k v:Int}(h:∀x∈m,x.Key≠k):(mpF m k v).length=m.length+1/\∀x,x∈mpF m k v↔x=⟨k,v⟩\/x∈m:=by unfold mpF;rw[List.filter_eq_self.2 (λx hx=>ak)];have e:=aSS (p:=λx:KV=>!decide (k<x.Key)) (l:=m);grind
def chF(m:Mem)(l:List Int)(a:List KV):List KV:=l.foldr (λh a=>mpF a (cJ m h).Key (cJ m h).dI) a
theorem aDT{m:Mem}{a:List KV}:∀{l:List Int},(mS m l).Nodup->(∀x∈a,∀y∈l,x.Key≠(cJ m y).Key)->(chF m l a).length=a.length+l.length/\∀x,x∈chF m l a↔x∈a\/∃y∈l,x=⟨(cJ m y).Key,(cJ m y).dI⟩
 |[],_,_=>by simp[chF]
 |h::l,hn,hd=>by unfold mS at hn;rw[I5,ZT] at hn;obtain⟨i1,i2⟩:=aDT (l:=l) hn.2 (λx hx y hy=>hd x hx y (lD _ hy));grind[chF,bE1]
section
variable {Ky:List Int} {t:Table} {c:Int->List Int} {q:Int->Nat} (hv:TV t) (h:sK Ky t.aA t.aR c q (aD t))
include hv h
theorem aYP{i:Int}(hi:nY i):∀{l A:List Int} {a:List KV},c i=A++l->(mS t.aA.Mem l).Nodup->(∀x∈a,∀y∈l,x.Key≠(cJ t.aA.Mem y).Key)->a.length<=1000->l.length<=100->tmB t l a=some (chF t.aA.Mem l a)
 |[],_,_,_,_,_,_,_=>rfl
 |x::l,A,a,e,hn,hd,ha,hl=>by have hm:=hv.base.1.1;unfold mS at hn;rw[I5,ZT] at hn;rw[G5] at hl;have hd':∀z∈a,∀y∈l,z.Key≠(cJ t.aA.Mem y).Key:=λz hz y hy=>hd z hz y (lD _ hy);have ih:=aYP hi (l:=l) (A:=A++[x]) (a:=a) (by rw[e];simp) hn.2 hd' ha aa;obtain⟨w1,w2⟩:=(h.ch i hi).all x (by rw[e];simp);obtain⟨hcl,hh⟩:=w1.cls;have hlen:=(aDT (m:=t.aA.Mem) (l:=l) hn.2 hd').1;unfold tmB;rw[ih,aM,show Int.tmod x 32=x % 32 from aSP (by have:=hh.1;omega),aE5 hm.1.1.1 hcl w1.2,aM];exact a4A aa _ _
def a4C(m:Mem)(c:Int->List Int):List KV:=chF m (c 1) (chF m (c 0) [])
theorem aVS:∀x∈chF t.aA.Mem (c 0) [],∀y∈c 1,x.Key≠(cJ t.aA.Mem y).Key:=λx hx y hy e=>by
 obtain⟨k1,k2⟩:=h.key 0 (by simp[nY]);obtain⟨k3,k4⟩:=h.key 1 (by simp[nY]);rcases((aDT (a:=[]) k1 ae).2 x).1 hx with q|⟨z,hz,rfl⟩
 ·cases q
 ·have e1:=(k2 _ (AU.2 ⟨z,hz,rfl⟩)).1;have e2:=(k4 _ (AU.2 ⟨y,hy,rfl⟩)).1;grind
theorem bE2:A8 t=some (a4C t.aA.Mem c)/\(a4C t.aA.Mem c).length=(c 0).length+(c 1).length:=by obtain⟨k1,_⟩:=h.key 0 (by simp[nY]);obtain⟨k3,_⟩:=h.key 1 (by simp[nY]);have l0:=(aYN hv h (i:=0) (by simp[nY])).1;have l1:=(aYN hv h (i:=1) (by simp[nY])).1;obtain⟨e0,_⟩:=aDT (m:=t.aA.Mem) (a:=[]) k1 ae;obtain⟨e1,_⟩:=aDT (m:=t.aA.Mem) k3 (aVS hv h);refine⟨?_,by grind[a4C]⟩;unfold A8;rw[bAD hv h,aM];simp only[tmL];rw[aYP hv h (by simp[nY]) (A:=[]) rfl k1 ae ae aa,aM,aYP hv h (by simp[nY]) (A:=[]) rfl k3 (aVS hv h) ak aa];rfl
end
abbrev NY:=Int->Option Int
def upM(M:NY)(k:Int)(v:Option Int):NY:=λx=>if x=k then v else M x
def aFE(M:NY)(c:iP):NY×fY:=
 if c.Kind=2 then(upM M c.Key (some c.dI),⟨false,0⟩)
 else if c.Kind=3 then(upM M c.Key none,⟨false,0⟩)
 else if c.Kind=4 then(upM M c.Key (some (BQ ((M c.Key).getD 0) c.dI)),⟨true,BQ ((M c.Key).getD 0) c.dI⟩)
 else(M,⟨(M c.Key).isSome,(M c.Key).getD 0⟩)
def wO(M:NY):List iP->NY×List fY
 |[]=>(M,[])
 |c::l=>((wO (aFE M c).1 l).1,(aFE M c).2::(wO (aFE M c).1 l).2)
theorem UL(c:iP):∀(l:List iP) (M:NY),wO M (l++[c])=((aFE (wO M l).1 c).1,(wO M l).2++[(aFE (wO M l).1 c).2])
 |[],M=>rfl
 |d::l,M=>by simp only[D5,wO,UL c l]
def apw(W:List aU)(M:NY):NY:=λk=>match W.find? (λy=>y.Key == k) with
 |some x=>wv x
 |none=>M k
theorem aDU(M:NY):apw [] M=M:=rfl
theorem a1J(W:List aU)(x:aU)(M:NY):apw (vG W x) M=upM (apw W M) x.Key (wv x):=by
 have e:=aSS (p:=λy:aU=>!decide (x.Key<y.Key)) (l:=W.filter λy=>!(y.Key == x.Key));funext k;unfold apw upM vG;by_cases h:k=x.Key
 ·subst h;have hn:((W.filter λy=>!(y.Key == x.Key)).takeWhile (λy=>!decide (x.Key<y.Key))).find? (λy=>y.Key == x.Key)=none:=by grind[List.takeWhile_sublist]
  grind
 ·have hf:(W.filter λy=>!(y.Key == x.Key)).find? (λy=>y.Key == k)=W.find? (λy=>y.Key == k):=ak
  grind
theorem a1K(W:List aU)(M:NY)(k:Int):apw W M k=if(OB W k).2 then(if(OB W k).1.G3 then none else some (OB W k).1.dI) else M k:=by unfold apw OB;cases W.find? λy=>y.Key == k<;>rfl
theorem aVT{W:List aU}{M:NY}{k:Int}(h:∀y∈W,y.Key≠k):apw W M k=M k:=by grind[apw]
theorem SP{W:List aU}{M N:NY}{k:Int}(h:M k=N k):apw W M k=apw W N k:=by grind[apw]
theorem aVU{W:List aU}(hs:W.Pairwise (λx y=>x.Key<y.Key))(h0:0<=K)(h:K<W.length)(M:NY)(k:Int):apw (W.drop K.toNat) M k=if k=(W.getD K.toNat ⟨0,false,0⟩).Key then wv (W.getD K.toNat ⟨0,false,0⟩) else apw (W.drop (K+1).toNat) M k:=by
 have hi:K.toNat<W.length:=aa
 have e:(K+1).toNat=K.toNat+1:=aa
 unfold apw;rw[vY hi,I4,iT hi,aFP,List.find?_cons,e];grind
theorem bE3{W:List aU}(hs:W.Pairwise (λx y=>x.Key<y.Key))(h0:0<=K)(h:K<W.length):∀y∈W.drop (K+1).toNat,y.Key≠(W.getD K.toNat ⟨0,false,0⟩).Key:=λy hy=>by
 have hi:K.toNat<W.length:=aa
 rw[show(K+1).toNat=K.toNat+1 by omega] at hy;rw[I4,iT hi,aFP];have h1:=hs.sublist (List.drop_sublist K.toNat W);grind[vY,aBR]
def bAF(G:List (Int×Option Int))(M:NY):Prop:=∀g∈G,M g.1=g.2
def Did(G:List (Int×Option Int))(j:aI):Prop:=∀M,bAF G M->wO M (j.Batch.bK.take j.At.toNat)=(apw j.aH M,j.fY)
section
variable {G G':List (Int×Option Int)} {j:aI} (h:Did G j) (hat:0<=j.At) (hc:sM j)
include h hat hc
theorem aFF:j.Batch.bK.take (j.At+1).toNat=j.Batch.bK.take j.At.toNat++[cH j]:=by
 unfold sM at hc;have hi:j.At.toNat<j.Batch.bK.length:=aa
 unfold cH
 (simp_all;omega)
theorem bE4(hk:(cH j).Kind=2\/(cH j).Kind=3)(e1:j'.Batch=j.Batch)(e2:j'.At=j.At+1)(e3:j'.aH=vG j.aH ⟨(cH j).Key,(cH j).Kind == 3,(cH j).dI⟩)(e4:j'.fY=j.fY++[⟨false,0⟩]):Did G j':=λM hM=>by rw[e1,e2,e3,e4,aFF h hat hc,UL,h M hM,a1J];grind[aFE,wv]
theorem a1L{v:Int}{is:Bool}(hG:∀M,bAF G' M->bAF G M)(hk:(cH j).Kind=1\/(cH j).Kind=4)(hv:∀M,bAF G' M->apw j.aH M (cH j).Key=if is then some v else none)(hl:(vG j.aH ⟨(cH j).Key,false,BQ (if is then v else 0) (cH j).dI⟩).length<=6):Did G' (lL j (cH j) v is):=λM hM=>by
 have hd:=h M (hG M hM);have hx:=hv M hM;unfold lL;rcases hk with k|k
 ·rw[gT];unfold SH;simp only;rw[aFF h hat hc,UL,hd];grind[aFE]
 ·rw[aO k];unfold SI kH;rw[aP (show ¬6<(vG j.aH ⟨(cH j).Key,false,BQ (if is then v else 0) (cH j).dI⟩).length by omega),aO rfl];unfold SH;simp only;rw[aFF h hat hc,UL,hd,a1J];grind[aFE,wv]
end
def BkS(k k':List bR)(w:Int)(j:aI)(i:Int):Prop:=
 ((dL k' i).eB=(dL k i).eB/\((dL k' i).dU=(dL k i).dU\/(j.Pc=7/\(dL k i).dU=0/\(dL k' i).dU=w+1/\(dL k i).eB≠1000000)\/(j.Pc=16/\(dL k i).dU=w+1/\(dL k' i).dU=0))) \/
 (j.Pc=14/\(dL k i).dU=w+1/\(dL k' i).dU=0/\(dL k' i).eB=if 1000000<(dL k i).eB+1 then 1000000 else(dL k i).eB+1)
theorem bE5(h0:0<=j.K)(h:j.K<(m0 j.aH).length):nY (eV j):=by grind[eV,NQ,cY]
theorem bAG(h:0<j.bD.length):wN j∈j.bD:=by grind[wN]
theorem aMQ{b:aA}(h2:k.length=2)(hj:JB j)(hl:YG k w j)(hi:nY i):BkS k (dX b k w j).k w j i:=by
 have same:∀{k':List bR},(dL k' i).eB=(dL k i).eB->(dL k' i).dU=(dL k i).dU->BkS k k' w j i:=λa b=>.inl ⟨a,.inl b⟩;have hd:∀(i' x:Int),nY i'->BkS k (k.set i'.toNat {dL k i' with Head:=x}) w j i:=λi' x hi'=>by grind[qC]
 unfold dX;have P:∀{c:Prop} [Decidable c] {x y:TR},(c->BkS k x.k w j i)->(¬c->BkS k y.k w j i)->_:=dM (P:=λr=>BkS k r.k w j i);refine P (λ_=>same rfl rfl) λ_=>P (λ_=>same rfl rfl) λ_=>P (λ_=>same rfl rfl) λ_=>P (λ_=>same rfl rfl) λ_=>P (λp=>?_) λ_=>P (λ_=>same rfl rfl) λ_=>P (λp=>?_) λ_=>P (λp=>?_) λ_=>P (λ_=>same rfl rfl) λ_=>P (λ_=>same rfl rfl) λ_=>P (λ_=>same rfl rfl) λ_=>P (λ_=>same rfl rfl) λ_=>same rfl rfl
 ·show BkS k (mQ k w j).1 w j i;have key:∀(h:j.K<(m0 j.aH).length),(dL k (eV j)).dU=0->(dL k (eV j)).eB≠1000000->BkS k (k.set (eV j).toNat {dL k (eV j) with dU:=w+1}) w j i:=λh a c=>by
   have hb:=bE5 hj.k.1 h;by_cases e:i=eV j
   ·refine .inl ⟨?_,.inr (.inl ⟨p,?_⟩)⟩
    ·rw[qC h2 hb hi,aO e,e]
    ·rw[qC h2 hb hi,aO e,e];exact⟨a,rfl,c⟩
   simp_all[qC]
  unfold mQ;grind
 ·show BkS k (jH b k j).2.1 w j i;unfold jH;split
  ·grind
  rename_i q;have hx:=hj.wr.2.1 (mR j) (by
   have hi:j.K.toNat<j.aH.length:=by have:=hj.k;omega
   grind[mR])
  have hb:nY (jD (mR j).Key):=by unfold jD;omega
  grind
 ·show BkS k (wR k j).1 w j i;unfold wR;split
  ·rename_i h0;have hm:=bAG h0;have hb:=hj.held.1 _ hm;have hlk:=(hl.iff _ hb).1 hm;by_cases e:i=wN j
   ·by_cases p14:j.Pc=14
    ·refine .inr ⟨p14,?_⟩;rw[qC h2 hb hi,aO e,aO p14,e];exact⟨hlk,rfl,rfl⟩
    ·refine .inl ⟨?_,.inr (.inr ⟨aa,?_⟩)⟩
     ·rw[qC h2 hb hi,aO e,aP p14,e]
     ·rw[qC h2 hb hi,aO e,aP p14,e];exact⟨hlk,rfl⟩
   simp_all[qC]
  grind
structure Bz (n:Int) (t:Table):Prop where
 v:TV t
 pl:PlT n t
 lg:a3S t
 lv:∀i,nY i->(dL t.aR i).dU≠0->(dL t.aR i).eB≠1000000
 rv:∀w,eO w->∀s∈(aD t w).Reads,s.eB<=(dL t.aR s.bR).eB
 tu:∀x∈t.Log,∀y∈t.Log,x.Kind=3->y.Kind=3->x.aG=y.aG->x=y
theorem bAH{b:aA}(hp:0<=j.Pc/\j.Pc<=21):∀s∈(dX b k w j).j.Reads,s∈j.Reads\/s=⟨j.bR,j.eB⟩/\(dL k j.bR).eB=j.eB:=by
 unfold dX;have P:∀{c:Prop} [Decidable c] {x y:TR},(c->∀s∈x.j.Reads,s∈j.Reads\/s=⟨j.bR,j.eB⟩/\(dL k j.bR).eB=j.eB)->(¬c->∀s∈y.j.Reads,s∈j.Reads\/s=⟨j.bR,j.eB⟩/\(dL k j.bR).eB=j.eB)->_:=dM (P:=λr=>∀s∈r.j.Reads,s∈j.Reads\/s=⟨j.bR,j.eB⟩/\(dL k j.bR).eB=j.eB);have E:∀{j':aI},j'.Reads=j.Reads->∀s∈j'.Reads,s∈j.Reads\/s=⟨j.bR,j.eB⟩/\(dL k j.bR).eB=j.eB:=λe s hs=>.inl (e ▸ hs);have rr:∀(j:aI) (x:aU),(kH j x).2.Reads=j.Reads:=λj x=>by unfold kH nZ;split<;>rfl
 have ra:∀(j:aI) c v is,(lL j c v is).Reads=j.Reads:=λj c v is=>by
  unfold lL;split
  ·generalize (if is then v else 0)=u;have h:=rr j ⟨c.Key,false,BQ u c.dI⟩;unfold SI;split
   ·exact h
   ·exact h
  ·rfl
 refine P (λ_=>E ?_) λ_=>P (λ_=>E ?_) λ_=>P (λp=>?_) λ_=>P (λ_=>E ?_) λ_=>P (λ_=>E ?_) λ_=>P (λ_=>E ?_) λ_=>P (λ_=>E ?_) λ_=>P (λ_=>E ?_) λ_=>P (λ_=>E ?_) λ_=>P (λ_=>E ?_) λ_=>P (λ_=>E rfl) λ_=>P (λ_ s hs=>by cases hs) λ_=>E rfl
 ·show(lC b w j).2.Reads=_;grind[lC]
 ·show(oA j).Reads=_;grind[oA]
 ·show ∀s∈(iB b k w j).Reads,_;unfold iB;split
  ·split<;>exact E rfl
  split
  ·exact E rfl
  split
  ·split
   ·exact E rfl
   ·split<;>exact E rfl
  ·split
   ·exact E rfl
   rename_i q;have hv:(dL k j.bR).eB=j.eB:=Classical.byContradiction λz=>q (.inr z);have sp:∀s∈(nS j.Reads j.bR j.eB).1,s∈j.Reads\/s=⟨j.bR,j.eB⟩/\(dL k j.bR).eB=j.eB:=λs hs=>by
    unfold nS at hs;split at hs
    ·exact .inl hs
    ·rcases dD.1 hs with hs|hs
     ·exact .inl hs
     ·exact .inr ⟨jJ.1 hs,hv⟩
   split
   ·exact sp
   split
   ·rw[ra];exact sp
   ·exact sp
 ·show(qP b w j).2.Reads=_;grind[qP,nZ]
 ·show(mQ k w j).2.1.Reads=_;grind[mQ,D4,nZ]
 ·show(GU k w j).Reads=_;grind[GU,nZ]
 ·show(jH b k j).2.2.Reads=_;grind[jH,I1,J3,nZ]
 ·show(wR k j).2.Reads=_;grind[wR,G4]
 ·show(wS b w j).2.Reads=_;grind[wS,G4]
 ·show(wT b w j).2.Reads=_;grind[wT]
theorem BkS.le(h:BkS k k' w j i)(hv:(dL k i).eB<=1000000):(dL k i).eB<=(dL k' i).eB:=by
 rcases h with ⟨a,_⟩|⟨_,_,_,a⟩
 ·omega
 ·rw[a];split<;>omega
theorem bAI(hv:TV t)(hi:nY i):(dL t.aR i).eB<=1000000:=(hv.bk.2 _ (aRV hv.bk.1 hi)).2.1.2
theorem Bz.jb{n:Int}(h:Bz n t)(hw:eO w)(hB:(aD t w).bO=true):JB (aD t w):=(h.v.yO.2 _ (zR h.v.yO.1 hw)).resolve_left λe=>by rw[e] at hB;cases hB
theorem Bz.step{n:Int}(hw:eO w)(h:Bz n t):Bz n (aY t w):=by
 have h3:=h.v.yO.1;have hpl:=h.pl;obtain⟨_,q,hs⟩:=h.pl;obtain⟨c,sv⟩:=hs.sv;refine⟨h.v.step hw,hpl.step h.v hw,h.lg.step h.v hw,?_,?_,?_⟩
 ·intro i hi hn;unfold aY at hn ⊢;by_cases hB:(aD t w).bO=true
  ·rw[aO hB] at hn ⊢;have b1:=aMQ (b:=t.aA) h.v.bk.1 (h.jb hw hB) (hs.lk w hw) hi;have lv:=h.lv i hi;show(dL (dX t.aA t.aR w (aD t w)).k i).eB≠_;have hn:(dL (dX t.aA t.aR w (aD t w)).k i).dU≠0:=hn;unfold eO at hw;rcases b1 with ⟨a,b|b|b⟩|b
   ·rw[a];exact lv aa
   ·rw[a];exact b.2.2.2
   ·omega
   ·omega
  ·rw[aP hB] at hn ⊢;split at hn<;>split<;>first|exact h.lv i hi hn|contradiction
 ·intro v hv s hs';unfold aY at hs' ⊢;by_cases hB:(aD t w).bO=true
  ·rw[aO hB] at hs' ⊢;have ej:aD (yL t w (dX t.aA t.aR w (aD t w))) v=zS (aD t) w (dX t.aA t.aR w (aD t w)).j v:=PG h3 hw rfl hv;rw[ej] at hs';show s.eB<=(dL (dX t.aA t.aR w (aD t w)).k s.bR).eB;have le:∀{u:Int},nY u->(dL t.aR u).eB<=(dL (dX t.aA t.aR w (aD t w)).k u).eB:=λhu=>(aMQ (b:=t.aA) h.v.bk.1 (h.jb hw hB) (hs.lk w hw) hu).le (bAI h.v hu);have old:∀u,eO u->s∈(aD t u).Reads->s.eB<=(dL (dX t.aA t.aR w (aD t w)).k s.bR).eB:=λu hu m=>by
    have a:=h.rv u hu s m;have hb:nY s.bR:=by
     rcases h.v.yO.2 _ (zR h3 hu) with e|e
     ·rw[e] at m;cases m
     ·exact e.reads.1 s m
    grind
   by_cases e:v=w
   ·rw[e,gZ] at hs';rcases bAH (sv.tw w hw hB).pc s hs' with m|⟨e1,e2⟩
    ·grind
    ·rw[e1];exact e2 ▸ le (h.jb hw hB).bkt
   grind[qS]
  ·rw[aP hB] at hs' ⊢;by_cases hq:(mF t w).length=0\/t.aG=1000000
   ·rw[aO hq] at hs' ⊢;exact h.rv v hv s hs'
   ·rw[aP hq] at hs' ⊢;have ej:aD (qQ t w ((mF t w).getD 0 ⟨false,[]⟩)) v=zS (aD t) w (gY ((mF t w).getD 0 ⟨false,[]⟩) (t.aG+1)) v:=PG h3 hw rfl hv;rw[ej] at hs';by_cases e:v=w
    ·rw[e,gZ] at hs';cases hs'
    ·rw[qS _ _ e] at hs';exact h.rv v hv s hs'
 ·have add:∀z:mT,(z.Kind=3->∀x∈t.Log,x.Kind=3->x.aG≠z.aG)->∀x∈t.Log++[z],∀y∈t.Log++[z],x.Kind=3->y.Kind=3->x.aG=y.aG->x=y:=λz hz x hx y hy kx ky e=>by
   rcases dD.1 hx with hx|hx<;>rcases dD.1 hy with hy|hy
   ·exact h.tu x hx y hy kx ky e
   ·rw[jJ.1 hy] at ky e;exact absurd e (hz ky x hx kx)
   ·rw[jJ.1 hx] at kx e;exact absurd e.symm (hz kx y hy ky)
   ·rw[jJ.1 hx,jJ.1 hy]
  unfold aY;by_cases hB:(aD t w).bO=true
  ·rw[aO hB];show ∀x∈t.Log++_,∀y∈t.Log++_,_;rcases aU1 t.aA t.aR w (aD t w) with ⟨_,_,e|e⟩|⟨_,e⟩<;>rw[e]
   ·rw[rC];exact h.tu
   ·grind
   ·exact add _ λ_=>(h.lg.job w hw hB).tell
  ·rw[aP hB];split
   ·exact h.tu
   ·exact add _ λz=>by cases z
end Go.Gv
end
