import Derived.Test.YtgijbgopcmohhaaGreatXWG
set_option linter.unusedVariables false
set_option linter.unusedSimpArgs false
set_option linter.unusedSectionVars false
set_option linter.constructorNameAsVariable false
set_option linter.unnecessarySimpa false
noncomputable section
namespace Go.Gv
theorem a28{h:Heap}{s t:Int}(hc:0<=bN h s)(ht:0<=bN h t)(hn:s≠t):(iY s (bN h s)).toNat+4+(jB (bN h s)).toNat<=(iY t (bN h t)).toNat\/(iY t (bN h t)).toNat+4+(jB (bN h t)).toNat<=(iY s (bN h s)).toNat:=by
 obtain⟨p,i,p6,hi,es,ec,eo,ep⟩:=pS hc;obtain⟨q,j,q6,hj,fs,fc,fo,fp⟩:=pS ht;rw[eo,fo,ec,fc];have room:∀{c:Int} {i:Nat},i<(cM c).toNat->(c=0/\i<4/\(bD c).toNat=12/\(jB c).toNat=8)\/(c=1/\i<2/\(bD c).toNat=20/\(jB c).toNat=16)\/(c=2/\i<1/\(bD c).toNat=44/\(jB c).toNat=40):=fun{c i} h=>by
  rcases nQ (jR.1 (show 0<cM c by omega)) with rfl | rfl | rfl
  ·exact .inl ⟨rfl,h,rfl,rfl⟩
  ·exact .inr (.inl ⟨rfl,h,rfl,rfl⟩)
  ·exact .inr (.inr ⟨rfl,h,rfl,rfl⟩)
 by_cases e:p=q
 ·subst e;have hij:i≠j:=fun e=>hn (by omega);have r2:=room hj;rcases room hi with ⟨_,a,b,c⟩ | ⟨_,a,b,c⟩ | ⟨_,a,b,c⟩
  ·rw[b,c];omega
  ·rw[b,c];omega
  ·omega
 ·have:p<q\/q<p:=by omega
  rcases room hi with ⟨_,a,b,c⟩ | ⟨_,a,b,c⟩ | ⟨_,a,b,c⟩<;>rcases room hj with ⟨_,a',b',c'⟩ | ⟨_,a',b',c'⟩ | ⟨_,a',b',c'⟩<;>rw[b,c,b',c']<;>omega
theorem aQ4{b b':List Int}{a:Nat}(h:a+2<=b.length)(hl:b'.length=b.length)(hs:∀j,a<=j->j<a+2->bt b' j=bt b j):ld b' a 2=ld b a 2:=by grind[ld,zK,aI3]
theorem aJT{h h':Heap}{t:Int}(h384:h.Bytes.length=384)(hc:0<=bN h t)(h10:10<=jB (bN h t))(e:bN h' t=bN h t)(hl:h'.Bytes.length=h.Bytes.length)(hs:∀j,zH h t<=j->j<zH h t+10->bt h'.Bytes j=bt h.Bytes j):ZU h' t=ZU h t:=by grind[CG,zH,ZU,aQ4,HO]
def Kn(m m':Mem)(z:Int):Prop:=∀x,lI m x->x % 32≠z->lI m' x/\ZU m'.Heap (x % 32)=ZU m.Heap (x % 32)
theorem Kn.refl(m:Mem)(z:Int):Kn m m z:=fun _ h _=>⟨h,rfl⟩
theorem uG.kn{m m':Mem}{z:Int}(h:uG m m' z)(hn:∀x,lI m x->x % 32≠z->ZU m'.Heap (x % 32)=ZU m.Heap (x % 32)):Kn m m' z:=fun x hx hz=>by obtain⟨a,b,c⟩:=h.2 _ hx.1.2.1 hz;exact⟨⟨⟨hx.1.1,a,by rw[b];exact hx.1.2.2⟩,by rw[c];exact hx.2⟩,hn x hx hz⟩
theorem aWE{m:Mem}(hm:mO m){w h:Int}(hw:0<=w/\w<=2)(hv:m5 m h):Kn m (rW m w h) (h % 32):=by
 obtain⟨m',e1,e2,_,hs⟩:=aGP hm hw hv;rw[aBX hm hw hv] at e1;injection e1 with e1
 rw[<-e1] at hs;refine hs.kn fun x hx hz=>?_;have hcl:=eB hv.2.1;have h384:=hm.1.1.1.1;have hh:(rW m w h).Heap=⟨st4 m.Heap.Bytes (iY (h % 32) (bN m.Heap (h % 32))).toNat (h / 32+1),m.Heap.Class⟩:=by simp[rW,apply_ite]
 rw[hh];have hc:=eB hx.1.2.1;have e:=aQ1 hcl;have a:=a28 hcl hc (fun q=>hz q.symm);have s1:=(CG hc hx.2).2;have s2:8<=(jB (bN m.Heap (h % 32))).toNat:=by have:=tK hcl;have hh:=jR.1 (show 0<cM (cV m.Heap (h % 32 / 4).toNat) by omega);rw[this.2.2];rcases nQ hh with e | e | e<;>rw[e]<;>decide
 refine aJT h384 hc hx.2 rfl (E3 ..) fun j j1 j2=>?_;unfold zH at j1 j2;rw[GN (by omega),if_neg (by omega),if_neg (by omega)]
theorem aWF{m:Mem}(hm:mO m){x:Int}(hx:lI m x){o:Nat}{t:List UInt8}(ho:o+t.length<=10):Kn m ⟨⟨jS m.Heap.Bytes (zH m.Heap (x % 32)+o) t,m.Heap.Class⟩,m.aD⟩ (x % 32):=by have hcl:=eB hx.1.2.1;have r:=CG hcl hx.2;have h384:=hm.1.1.1.1;have h:=mO.jS hm hcl (o:=o) (t:=t) (by omega);refine fun y hy hz=>?_;have hc:=eB hy.1.2.1;obtain⟨a,b,c⟩:=h.2 _ hy.1.2.1 (by omega);have ap:=a28 hcl hc (fun q=>hz q.symm);have s1:=(CG hc hy.2).2;refine⟨⟨⟨hy.1.1,a,b.trans hy.1.2.2⟩,hy.2⟩,aJT h384 hc hy.2 rfl (AK ..) fun j j1 j2=>?_⟩;grind[zH,KW]
theorem lI.jS{m:Mem}(hm:mO m){x:Int}(hx:lI m x){o:Nat}{t:List UInt8}(ho:o+t.length<=10):lI ⟨⟨Gv.jS m.Heap.Bytes (zH m.Heap (x % 32)+o) t,m.Heap.Class⟩,m.aD⟩ x:=by have hcl:=eB hx.1.2.1;have r:=CG hcl hx.2;have h:=mO.jS hm hcl (o:=o) (t:=t) (by omega);obtain⟨a,b,c⟩:=h.2 _ hx.1.2.1 (by omega);exact⟨⟨hx.1.1,a,b.trans hx.1.2.2⟩,hx.2⟩
theorem a29{b:List Int}{a:Nat}{t:List UInt8}(h:a+t.length<=b.length){k:Nat}(j:Nat)(e:k=a+j)(hj:j<t.length):bt (jS b a t) k=(t[j].toNat:Int):=by grind[aJB]
theorem u8v(z:Int):((u8 z).toNat:Int)=z % 256:=by grind[u8,UInt8.toNat_ofNat_of_lt']
theorem aTV{b:List Int}{a k:Nat}{t l r:List UInt8}{n:Int}(ht:t=l++oK n++r)(hk:k=a+l.length)(h:a+t.length<=b.length)(hn:0<=n/\n<=4294967295):ld (jS b a t) k 4=n:=by
 have e:∀j (hj:j<4),bt (jS b a t) (k+j)=(((oK n)[j]'(by grind[oK])).toNat:Int):=fun j hj=>by
  have h4:(oK n).length=4:=rfl;have hl:t.length=l.length+4+r.length:=by grind
  rw[a29 h (l.length+j) (by omega) (by omega)];grind
 have h4:(oK n).length=4:=rfl;have hl:t.length=l.length+4+r.length:=by grind
 have e0:=e 0 (by omega);have e1:=e 1 (by omega);have e2:=e 2 (by omega);have e3:=e 3 (by omega);simp only[oK,List.getElem_cons_zero,List.getElem_cons_succ,u8v,SY] at e0 e1 e2 e3;grind[ld4,AK]
noncomputable section
variable {m:Mem} (hm:mO m) {x:Int} (hx:lI m x)
include hm hx
theorem aWG{o:Nat}{t:List UInt8}(ho:o+t.length<=10)(s:Int):eM ⟨⟨jS m.Heap.Bytes (zH m.Heap (x % 32)+o) t,m.Heap.Class⟩,m.aD⟩ s=eM m s:=by
 have hcl:=eB hx.1.2.1;have r:=CG hcl hx.2;have h:=(YP.jS hm.1.1 hcl (o:=o) (t:=t) (by omega)).2;by_cases q:0<=bN m.Heap s
 ·exact aBW rfl (h s q) Iff.rfl
 ·have c:bN m.Heap s<0:=by omega
  exact(if_pos (show bN _ s<0 from c)).trans (if_pos c).symm
structure Wr1 (m m':Mem) (x:Int) (n:gW):Prop where
 ok:lI m' x
 nod:ZU m'.Heap (x % 32)=n
 kn:Kn m m' (x % 32)
 st:∀s,eM m' s=eM m s
theorem a64{y:Int}(hy:oS y):Wr1 m (Gv.aEC m x y) x {ZU m.Heap (x % 32) with Next:=y}:=by have hcl:=eB hx.1.2.1;have r:=(CG hcl hx.2).1;have h384:=hm.1.1.1.1;have h4:(oK y).length=4:=rfl;have hr:=aBY hy;unfold Gv.aEC;rw[if_pos ⟨hy,hx⟩];refine⟨lI.jS hm hx (by omega),?_,aWF hm hx (by omega),aWG hm hx (by omega)⟩;have ed:zH ⟨jS m.Heap.Bytes (zH m.Heap (x % 32)+6) (oK y),m.Heap.Class⟩ (x % 32)=zH m.Heap (x % 32):=rfl;unfold ZU;simp only[ed];rw[aQ4 (by omega) (AK ..) fun j a b=>KW _ (by omega) (by omega),HO (by omega) (AK ..) fun j a b=>KW _ (by omega) (by omega),aTV (l:=[]) (r:=[]) (n:=y) (by simp) (by simp) (by omega) (by omega)]
theorem bAW{n:gW}(hn:aFZ n):Wr1 m (aBZ m x n) x n:=by
 have hcl:=eB hx.1.2.1;have r:=(CG hcl hx.2).1;have h384:=hm.1.1.1.1;have hl:(aLD n).length=10:=by simp[aLD,RB,oK]
 have hr:=aBY hn.2.2;have hk:=hn.1;have hv:=hn.2.1;unfold aBZ;rw[if_pos ⟨hn,hx⟩];refine⟨lI.jS hm hx (o:=0) (by omega),?_,aWF hm hx (o:=0) (by omega),aWG hm hx (o:=0) (by omega)⟩;have ed:zH ⟨jS m.Heap.Bytes (zH m.Heap (x % 32)) (aLD n),m.Heap.Class⟩ (x % 32)=zH m.Heap (x % 32):=rfl;have hle:zH m.Heap (x % 32)+(aLD n).length<=m.Heap.Bytes.length:=by omega
 have e2:ld (jS m.Heap.Bytes (zH m.Heap (x % 32)) (aLD n)) (zH m.Heap (x % 32)) 2=n.Key:=by
  have e:∀{b:List Int} {a:Nat},a+2<=b.length->ld b a 2=bt b a*256+bt b (a+1):=fun h=>by grind[ld,zK,ldF,aI3]
  rw[e (by grind[AK]),a29 hle 0 (SY _).symm (by omega),a29 hle 1 rfl (by omega)];grind[aLD,RB,u8v]
 unfold ZU;simp only[ed];rw[e2,aTV (l:=RB n.Key) (r:=oK n.Next) (n:=n.dO) (by simp[aLD]) (by simp[RB]) hle (by omega),aTV (l:=RB n.Key++oK n.dO) (r:=[]) (n:=n.Next) (by simp[aLD]) (by simp[RB,oK]) hle (by omega)]
end
theorem aWH{m m':Mem}{x:Int}(e:m'.Heap=m.Heap)(h:aOI m m' x):Kn m m' (-1):=fun y hy _=>by have h1:=(h.rest (y % 32) (fun q=>h.was (q ▸ hy.1.2.1))).2 hy.1.2.1;grind[lI,m5]
theorem aWI{l:List Int}(h:0<=(MJ l).2):(MJ l).2∈l:=by
 rcases Z2 l with rfl | ⟨L,b,rfl⟩
 ·exact absurd h (by simp[MJ])
 ·simp[MJ]
theorem a3A{m:Mem}(hm:mO m){c:Int}(hc:0<=c/\c<=2)(h:aOI m (xE m c).1 (xE m c).2):Kn m (xE m c).1 (-1)/\bN (xE m c).1.Heap (xE m c).2=c:=by
 have hs:=hm.1.1.1;unfold xE at h ⊢;by_cases q:Z0 m.Heap=6
 ·rw[if_pos q] at h;exact absurd h.now h.was
 rw[if_neg q] at h ⊢;obtain⟨hp,hun⟩:=aTD hs q;generalize Z0 m.Heap=p at hp hun h;obtain⟨a,b,d,e⟩:=YP.a2D hm.1.1 hp (by omega) hc;have hpp:0<cM c:=jR.2 hc;have e0:=(e 0 (by omega)).1;rw[show(p:Int)*4+((0:Nat):Int)=(p:Int)*4 by omega] at e0;refine⟨fun y hy _=>?_,e0⟩;have h1:=(h.rest (y % 32) (fun q=>h.was (q ▸ hy.1.2.1))).2 hy.1.2.1;have hcl:=eB hy.1.2.1;obtain⟨z1,z2⟩:=d _ hcl;have ec:=b _ z1;refine⟨⟨⟨hy.1.1,h1,z2.trans hy.1.2.2⟩,by show 10<=jB (bN _ _);rw[ec];exact hy.2⟩,?_⟩;have bts:=fun j=>(aVS hm.1.1.1.1 hp hc (cM c).toNat (by omega) j).1;obtain⟨p',i',p6',hi',es',ec',eo',ep'⟩:=pS hcl;have r:=CG hcl hy.2;refine aJT hm.1.1.1.1 hcl hy.2 ec (JJ ..) fun j j1 j2=>bts j ?_;unfold zH at j1 j2;have room:8+i'*(bD (cV m.Heap p')).toNat+4+10<=64:=by
  have hcl:0<=cV m.Heap p'/\cV m.Heap p'<=2:=jR.1 (by omega);have h10:=hy.2;rw[ec'] at h10;generalize cV m.Heap p'=c' at hi' hcl h10;rcases nQ hcl with rfl | rfl | rfl
  ·exact absurd h10 (by decide)
  ·rw[show(cM 1).toNat=2 from rfl] at hi';rw[show(bD 1).toNat=20 from rfl];omega
  simp_all[cM]
 omega
structure AlT (b:aC) (s:Sub) (r:aC×Sub):Prop where
 clock:r.1.aA=b.aA
 bFI:r.1.aN=b.aN
 haz:r.1.qH=b.qH
 two:r.1.Mem=b.Mem/\(r.2.cJ=true/\r.2.Code=3\/s.Pc<=2/\r.2={s with Pc:=s.Pc+1}) \/
  r.2.cJ=true/\r.2.Code=0/\lI r.1.Mem r.2.Out/\aOI b.Mem r.1.Mem (r.2.Out % 32)/\Kn b.Mem r.1.Mem (-1)
theorem aOK{b:aC}(hm:mO b.Mem){w:Int}(hw:0<=w/\w<=2){s:Sub}(hk:s.Kind=1)(hd:s.cJ=false)(hp:0<=s.Pc/\s.Pc<=3)(ha:s.A=16):AlT b s (i4 b w s):=by
 have e:i4 b w s=WE b w s:=by grind[i4]
 rw[e];have h1:JK s.A=1:=by rw[ha];rfl
 have fin:∀p:Mem×Int,(p=(b.Mem,-1)\/0<=p.2/\aOI b.Mem p.1 p.2)->(aOI b.Mem p.1 p.2->0<=p.2->Kn b.Mem p.1 (-1)/\bN p.1.Heap p.2=1)->AlT b s (MK b s p):=fun p h hk=>by
  unfold MK;rcases h with rfl | ⟨h0,h1⟩
  ·rw[if_neg (by simp)];split
   ·exact⟨rfl,rfl,rfl,.inl ⟨rfl,.inl ⟨rfl,rfl⟩⟩⟩
   ·exact⟨rfl,rfl,rfl,.inl ⟨rfl,.inr ⟨by omega,rfl⟩⟩⟩
  ·obtain⟨k1,k2⟩:=hk h1 h0;rw[if_pos h0];have h23:=(tK (iN.1 h1.now).1).1;have eh:aTE p.1 p.2=kU p.1.Heap p.2*32+p.2:=if_pos h1.gen;have hg:=h1.gen;have e1:aTE p.1 p.2 % 32=p.2:=by omega
   have e2:aTE p.1 p.2 / 32=kU p.1.Heap p.2:=by omega
   have hn:lW (aTE p.1 p.2):=by grind[lW]
   refine⟨rfl,rfl,rfl,.inr ⟨rfl,rfl,⟨⟨hn,?_,?_⟩,?_⟩,?_,k1⟩⟩
   ·simp only[xD];rw[e1];exact h1.now
   ·grind[xD]
   ·simp only[xD];rw[e1,k2];decide
   grind[xD]
 unfold WE;rw[h1,if_neg (by omega)];have hc:(0:Int)<=1/\(1:Int)<=2:=by omega
 split
 ·refine fin _ (aOJ hm hw hc) fun t h=>⟨aWH rfl t,?_⟩;have hf:=hm.2.2 (w*3+1).toNat (by omega) _ (aWI h);rw[show(((w*3+1).toNat % 3:Nat):Int)=1 by omega] at hf;exact hf.1
 split
 ·exact fin _ (aLF hm hc) fun t h=>⟨aWH rfl t,(hm.2.1 1 (by omega) _ (aWI h)).1⟩
 grind[aTU,a3A]
end Go.Gv
end
noncomputable section
namespace Go.Gv
abbrev j9(v:Int):Prop:=0<=v/\v<=2
abbrev XD(v:Int):Prop:=0<=v/\v<=1
def fT(m:Mem)(x:Int):gW:=ZU m.Heap (x % 32)
def ChT(m:Mem):Int->List Int->Prop
 | x,[]=>x=0
 | x,h :: r=>x=h/\lI m h/\aFZ (fT m h)/\ChT m (fT m h).Next r
def csL(l:List Int)(s:Int):Nat:=(l.map (· % 32)).count s
def lA(j:aE):List Int:=if(6<=j.Pc/\j.Pc<=8)\/j.Pc=16\/j.Pc=17 then j.dF else if 9<=j.Pc/\j.Pc<=13 then j.dF.drop (fS j.aB j.K).toNat else []
def aDO(j:aE):List Int:=if 9<=j.Pc/\j.Pc<=14 then j.bA else if j.Pc=15 then j.bA.drop j.K.toNat else []
def own(j:aE):List Int:=lA j++aDO j
def ind(b:aC)(s:Int):Nat:=if eM b.Mem s=3/\¬aQ b.aN s then 1 else 0
def cnO(J:Int->aE)(s:Int):Nat:=csL (own (J 0)) s+csL (own (J 1)) s+csL (own (J 2)) s
def cnC(c:Int->List Int)(s:Int):Nat:=csL (c 0) s+csL (c 1) s
def vS(J:Int->aE)(w:Int)(j:aE):Int->aE:=fun v=>if v=w then j else J v
def upC(c:Int->List Int)(i:Int)(l:List Int):Int->List Int:=fun v=>if v=i then l else c v
theorem RD(J:Int->aE)(w:Int)(j:aE):vS J w j w=j:=if_pos rfl
theorem aDP(J:Int->aE){w v:Int}(j:aE)(h:v≠w):vS J w j v=J v:=if_neg h
theorem IN(c:Int->List Int)(i:Int)(l:List Int):upC c i l i=l:=if_pos rfl
def upQ(q:Int->Nat)(w:Int)(n:Nat):Int->Nat:=fun v=>if v=w then n else q v
theorem a3C(q:Int->Nat)(w:Int):upQ q w (q w)=q:=by grind[upQ]
theorem SQ(c:Int->List Int){i v:Int}(l:List Int)(h:v≠i):upC c i l v=c v:=if_neg h
@[simp] theorem a3D (s : Int) : csL [] s = 0 := rfl
theorem WQ(a b:List Int)(s:Int):csL (a++b) s=csL a s+csL b s:=by simp[csL]
theorem OH(x:Int)(l:List Int)(s:Int):csL (x :: l) s=csL l s+if x % 32=s then 1 else 0:=by grind[csL]
theorem MP{l:List Int}{x:Int}(h:x∈l):1<=csL l (x % 32):=List.count_pos_iff.2 (UI.2 ⟨x,h,rfl⟩)
theorem WR{J:Int->aE}{w:Int}(hw:j9 w)(j:aE)(s:Int):cnO (vS J w j) s+csL (own (J w)) s=cnO J s+csL (own j) s:=by grind[cnO,vS]
theorem aTX(J:Int->aE){v:Int}(hv:j9 v)(s:Int):csL (own (J v)) s<=cnO J s:=by grind[cnO]
theorem a65(J:Int->aE){v w:Int}(hv:j9 v)(hw:j9 w)(hn:v≠w)(s:Int):csL (own (J v)) s+csL (own (J w)) s<=cnO J s:=by grind[cnO]
theorem a3E{c:Int->List Int}{i:Int}(hi:XD i)(l:List Int)(s:Int):cnC (upC c i l) s+csL (c i) s=cnC c s+csL l s:=by grind[cnC,upC]
theorem a3F(c:Int->List Int){i:Int}(hi:XD i)(s:Int):csL (c i) s<=cnC c s:=by grind[cnC]
theorem aOL(c:Int->List Int){i j:Int}(hi:XD i)(hj:XD j)(hn:i≠j)(s:Int):csL (c i) s+csL (c j) s<=cnC c s:=by grind[cnC]
def bi(j:aE):Int:=oJ (rX j).Key
structure TW (Ky:List Int) (m:Mem) (k:List bY) (c:Int->List Int) (q:Nat) (j:aE):Prop where
 pc:0<=j.Pc/\j.Pc<=21
 nO:j.Pc<6\/20<=j.Pc->j.dF=[]
 oO:j.Pc<=8\/j.Pc=16\/j.Pc=17\/20<=j.Pc->j.bA=[]
 hc:2<=j.Pc/\j.Pc<=5->AL j
 wl:(j.aB.length:Int)<=j.At
 n6:j.Pc=6->(j.dF.length:Int)=j.K/\j.K<=fS j.aB j.aB.length
 n7:7<=j.Pc/\j.Pc<=13->(j.dF.length:Int)=fS j.aB j.aB.length/\(9<=j.Pc->(j.bA.length:Int)<=if j.Pc<=11 then j.K else j.K+1)
 l7:j.Pc=7->∀x∈(qI j.aB).take j.K.toNat,x∈j.aQ
 l8:8<=j.Pc/\j.Pc<=13->∀x∈j.aB,oJ x.Key∈j.aQ
 k9:10<=j.Pc/\j.Pc<=13->j.K<j.aB.length
 st:j.Pc=10\/j.Pc=11->∃A B,c (bi j)=A++j.H :: B/\(j.dB=A.getLastD 0/\∀a∈A,(fT m a).Key≠(rX j).Key)/\(j.Pc=10->B.length<=q)
 cu:j.Pc=11->j.Node=fT m j.H/\j.Node.Key=(rX j).Key
 fl:j.Pc=12\/j.Pc=13->(rX j).FR=false/\∀a∈c (bi j),(fT m a).Key≠(rX j).Key
 ln:j.Pc=13->fT m (FJ j)=⟨(rX j).Key,(rX j).dO,(iP k (bi j)).Head⟩
 cd:j.Code=0/\j.Pc≠16/\j.Pc≠17\/(j.Code=3\/j.Code=6\/j.Code=7)/\16<=j.Pc/\j.Pc<=19
 at_:j.Code=0->6<=j.Pc/\j.Pc<=19->j.At=j.Batch.aY.length
 cl:j.Batch.Collect=true->j.Pc=19\/j.Pc=20\/j.Pc=21
 cl2:j.Pc=20\/j.Pc=21->j.Batch.Collect=true
 ky:(∀x∈j.aB,x.Key∈Ky)/\∀x∈j.Batch.aY,x.Key∈Ky
def Rp(m:Mem):List Int->Prop
 | []=>True
 | h :: r=>lI m h/\aFZ (fT m h)/\((fT m h).Next=0\/(fT m h).Next∈r)/\Rp m r
def Sfe(b:aC)(J:Int->aE)(e x:Int):Prop:=(∀r∈dQ b.aN,r.Handle=x->e<=r.aG)/\∀v,j9 v->x∉lA (J v)/\((J v).Pc=15->(J v).K<(J v).bA.length->(J v).Sub.A=x->(J v).Sub.Pc=1->e<=(J v).Sub.E)
def pU(m:Mem)(l:List Int):List Int:=l.map fun x=>(fT m x).Key
def mF(c:aA)(v:Int):Prop:=(cW c v).On=true/\(cW c v).fU=false
structure RdL (Ky:List Int) (b:aC) (J:Int->aE) (e:Int) (l:List Int):Prop where
 rp:Rp b.Mem l
 nd:(pU b.Mem l).Nodup
 ky:∀x∈pU b.Mem l,x∈Ky
 sf:∀x∈l,Sfe b J e x
def RdJ(Ky:List Int)(b:aC)(J:Int->aE)(v:Int)(q:Nat)(j:aE):Prop:=(j.Pc=3\/j.Pc=4)->mF b.aA v->∃r,(RdL Ky b J (cW b.aA v).aG (j.H :: r)/\r.length<=q)/\(j.Pc=4->(j.Node.Key=(fT b.Mem j.H).Key/\j.Node.dO=(fT b.Mem j.H).dO)/\(j.Node.Next=0\/j.Node.Next∈r))
def a66(e:Int)(l:List eE)(s:Sub):Prop:=s.Kind=4/\s.cJ=false/\(s.Pc=0\/s.E<=e/\(s.Pc=1/\0<=s.Row\/s.Pc=2/\(0<=s.B/\s.B<=2)/\OE l s/\IL (KV l s.Row) s.E\/s.Pc=3/\OE l s/\IL (KV l s.Row) s.E))
structure SbJ (b:aC) (v:Int) (j:aE):Prop where
 al:j.Pc=6->j.Sub.Kind=1/\j.Sub.cJ=false/\(0<=j.Sub.Pc/\j.Sub.Pc<=3)/\j.Sub.A=16
 rt:j.Pc=15->j.K<j.bA.length->0<=j.K/\j.Sub.Kind=2/\j.Sub.cJ=false/\j.Sub.A=j.bA.getD j.K.toNat 0/\(j.Sub.Pc=0\/j.Sub.Pc=1/\0<=j.Sub.E/\j.Sub.E<=b.aA.aG)
 col:j.Pc=21->a66 b.aA.aG (dK b.aN v) j.Sub
structure uS (Ky:List Int) (b:aC) (k:List bY) (c:Int->List Int) (q:Int->Nat) (J:Int->aE):Prop where
 hz:b.qH=[0,0,0]
 ch:∀i,XD i->ChT b.Mem (iP k i).Head (c i)
 key:∀i,XD i->(pU b.Mem (c i)).Nodup/\∀x∈pU b.Mem (c i),oJ x=i/\x∈Ky
 cnt:∀s,cnC c s+cnO J s=ind b s
 ok:∀v,j9 v->∀x∈own (J v),lI b.Mem x
 tw:∀v,j9 v->(J v).bX=true->TW Ky b.Mem k c (q v) (J v)
 rd:∀v,j9 v->RdJ Ky b J v (q v) (J v)
 sb:∀v,j9 v->SbJ b v (J v)
theorem ChT.all{m:Mem}:∀{l:List Int} {x:Int},ChT m x l->∀y∈l,lI m y/\aFZ (fT m y)
 | [],_,_,_,h=>by cases h
 | a :: r, x, h, y, hy => by
  rcases jA.1 hy with rfl | hy
  ·exact⟨h.2.1,h.2.2.1⟩
  ·exact h.2.2.2.all y hy
theorem ChT.keep{m m':Mem}:∀{l:List Int} {x:Int},ChT m x l->(∀y∈l,lI m' y/\fT m' y=fT m y)->ChT m' x l
 | [],_,h,_=>h
 | a :: r, x, h, hk => by obtain⟨a1,a2⟩:=hk a (by simp);exact⟨h.1,a1,by rw[a2];exact h.2.2.1,by rw[a2];exact h.2.2.2.keep fun y hy=>hk y (by simp[hy])⟩
theorem ChT.split{m:Mem}{A:List Int}:∀{h:Int} {B:List Int} {x:Int},ChT m x (A++h :: B)->ChT m h (h :: B):=by
 induction A with
 | nil=>exact fun h=>⟨rfl,h.2⟩
 | cons a A ih=>exact fun h=>ih h.2.2.2
theorem ChT.rp{m:Mem}:∀{l:List Int} {x:Int},ChT m x l->Rp m l
 | [],_,_=>trivial
 | [a],x,h=>⟨h.2.1,h.2.2.1,.inl h.2.2.2,trivial⟩
 | a :: b :: r,x,h=>⟨h.2.1,h.2.2.1,.inr (by rw[h.2.2.2.1];simp),h.2.2.2.rp⟩
theorem Rp.from{m:Mem}:∀{l:List Int} {x:Int},Rp m l->x∈l->∃A r,l=A++x :: r/\Rp m (x :: r)
 | a :: l, x, h, hx => by
  by_cases e:x=a
  ·subst e;exact⟨[],l,rfl,h⟩
  ·obtain⟨A,r,e1,h1⟩:=h.2.2.2.from ((jA.1 hx).resolve_left e);grind
theorem Rp.keep{m m':Mem}:∀{l:List Int},Rp m l->(∀y∈l,lI m' y/\fT m' y=fT m y)->Rp m' l
 | [],_,_=>trivial
 | a :: r, h, hk => by obtain⟨a1,a2⟩:=hk a (by simp);exact⟨a1,by rw[a2];exact h.2.1,by rw[a2];exact h.2.2.1,h.2.2.2.keep fun y hy=>hk y (by simp[hy])⟩
theorem Rp.ok{m:Mem}:∀{l:List Int},Rp m l->∀y∈l,lI m y/\aFZ (fT m y)
 | a :: r, h, y, hy => by
  rcases jA.1 hy with rfl | hy
  ·exact⟨h.1,h.2.1⟩
  ·exact h.2.2.2.ok y hy
theorem aDQ{m m':Mem}{l:List Int}(h:∀y∈l,(fT m' y).Key=(fT m y).Key):pU m' l=pU m l:=List.map_congr_left h
end Go.Gv
end
noncomputable section
namespace Go.Gv
theorem lI.ne{m:Mem}{x:Int}(h:lI m x):x≠0:=by have:=h.1.1.1;omega
theorem aDR(b:aC)(s:Int):ind b s<=1:=by grind[ind]
theorem Rp.cut{m m':Mem}{y:Int}(hy:fT m' y={fT m y with Next:=(fT m (fT m y).Next).Next})(h0:(fT m y).Next≠0):∀{l:List Int},Rp m l->(∀x∈l,lI m' x/\(x≠y->fT m' x=fT m x))->Rp m' l
 | [],_,_=>trivial
 | a :: r, h, hk => by
  have ih:=h.2.2.2.cut hy h0 fun x hx=>hk x (by simp[hx]);obtain⟨a1,a2⟩:=hk a (by simp);by_cases e:a=y
  ·subst e;have hm:=h.2.2.1.resolve_left h0;obtain⟨A,q,e1,e2⟩:=h.2.2.2.from hm;rw[Rp,hy];refine⟨a1,⟨h.2.1.1,h.2.1.2.1,e2.2.1.2.2⟩,e2.2.2.1.imp id fun z=>?_,ih⟩;grind
  grind[Rp]
structure Oth (b b':aC) (k k':List bY) (c c':Int->List Int) (J:Int->aE) (w:Int) (j':aE) (y z:Int):Prop where
 nod:∀x,lI b.Mem x->x % 32≠z->lI b'.Mem x/\(x≠y->fT b'.Mem x=fT b.Mem x)
 zo:z = -1\/ind b z=0\/∃x∈own (J w),x % 32=z
 yo:y=0\/y∈lA (J w)\/(∃i,XD i/\(iP k i).gP=w+1/\y∈c i)/\fT b'.Mem y={fT b.Mem y with Next:=(fT b.Mem (fT b.Mem y).Next).Next}/\(fT b.Mem y).Next≠0
 hk:∀i,XD i->(iP k i).gP≠w+1->(iP k' i).Head=(iP k i).Head/\c' i=c i
 zs:z = -1\/∀v,j9 v->v≠w->(J v).Pc=3\/(J v).Pc=4->mF b.aA v->∀x,lI b.Mem x->Sfe b J (cW b.aA v).aG x->x % 32≠z
 lr:∀r∈dQ b'.aN,r∈dQ b.aN\/(J w).Pc=15/\(J w).K<(J w).bA.length/\(J w).Sub.A=r.Handle/\(J w).Sub.Pc=1/\(J w).Sub.E=r.aG
 no:∀x∈lA j',x∈lA (J w)\/eM b.Mem (x % 32)≠3
 sr:j'.Pc=15->j'.K<j'.bA.length->j'.Sub.Pc=1->j'.Sub.E=b.aA.aG\/(J w).Pc=15/\(J w).K<(J w).bA.length/\(J w).Sub.A=j'.Sub.A/\(J w).Sub.Pc=1/\(J w).Sub.E=j'.Sub.E
 pin:∀v,j9 v->v≠w->mF b'.aA v->mF b.aA v/\(cW b'.aA v).aG=(cW b.aA v).aG
 ep:b.aA.aG<=b'.aA.aG
 rows:∀v,j9 v->v≠w->dK b'.aN v=dK b.aN v
noncomputable section
variable {Ky:List Int} {b b':aC} {k k':List bY} {c c':Int->List Int} {J:Int->aE} {q:Int->Nat} {w:Int} {j':aE} {y z:Int}
theorem Oth.sfe(o:Oth b b' k k' c c' J w j' y z)(hw:j9 w){e x:Int}(he:e<=b.aA.aG)(hx:lI b.Mem x)(h:Sfe b J e x):Sfe b' (vS J w j') e x:=by
 refine⟨fun r hr er=>?_,fun v hv=>?_⟩
 ·rcases o.lr r hr with q | ⟨q1,q2,q3,q4,q5⟩
  ·exact h.1 r q er
  ·have:=(h.2 w hw).2 q1 q2 (by rw[q3,er]) q4;omega
 ·by_cases q:v=w
  ·subst q;rw[RD];refine⟨fun m=>(o.no x m).elim (h.2 v hv).1 fun s=>s hx.1.2.1,fun a1 a2 a3 a4=>?_⟩;rcases o.sr a1 a2 a4 with s | ⟨s1,s2,s3,s4,s5⟩
   ·omega
   ·have:=(h.2 v hv).2 s1 s2 (by rw[s3,a3]) s4;omega
  ·rw[aDP _ _ q];exact h.2 v hv
variable (h:uS Ky b k c q J) (hl:∀v,j9 v->YT k v (J v)) (hw:j9 w)
include h hw
theorem uS.name{v x:Int}(hv:j9 v)(hx:x∈own (J v)):1<=csL (own (J v)) (x % 32)/\cnC c (x % 32)+cnO J (x % 32)=ind b (x % 32)/\csL (own (J v)) (x % 32)<=cnO J (x % 32)/\ind b (x % 32)<=1:=
 ⟨MP hx,h.cnt _,aTX J hv _,aDR ..⟩
theorem uS.link{i x:Int}(hi:XD i)(hx:x∈c i):1<=csL (c i) (x % 32)/\cnC c (x % 32)+cnO J (x % 32)=ind b (x % 32)/\csL (c i) (x % 32)<=cnC c (x % 32)/\ind b (x % 32)<=1:=
 ⟨MP hx,h.cnt _,a3F c hi _,aDR ..⟩
theorem MQ{j:aE}{x:Int}(hx:x∈lA j):x∈own j:=aG1 _ hx
theorem Oth.own(o:Oth b b' k k' c c' J w j' y z){v x:Int}(hv:j9 v)(hn:v≠w)(hx:x∈own (J v)):lI b'.Mem x/\fT b'.Mem x=fT b.Mem x:=by
 have a:=h.name hw hv hx;have two:=a65 J hv hw hn (x % 32);have hz:x % 32≠z:=fun e=>by
  rcases o.zo with q | q | ⟨u,hu,eu⟩
  ·omega
  ·grind
  ·have:=h.name hw hw hu;grind
 have hy:x≠y:=fun e=>by
  subst e;rcases o.yo with q | q | ⟨⟨i,hi,_,hc⟩,_⟩
  ·exact(h.ok v hv x hx).ne q
  ·have:=h.name hw hw (MQ h hw q);omega
  ·have:=h.link hw hi hc;omega
 obtain⟨r1,r2⟩:=o.nod x (h.ok v hv x hx) hz;grind
theorem Oth.chz(o:Oth b b' k k' c c' J w j' y z){i:Int}(hi:XD i):∀x∈c i,lI b'.Mem x/\(x≠y->fT b'.Mem x=fT b.Mem x):=fun x hx=>by
 have a:=h.link hw hi hx;refine o.nod x ((h.ch i hi).all x hx).1 fun e=>?_;rcases o.zo with q | q | ⟨u,hu,eu⟩
 ·omega
 ·grind
 ·have:=h.name hw hw hu;grind
theorem Oth.chn(o:Oth b b' k k' c c' J w j' y z){i:Int}(hi:XD i)(hy:y∉c i):(∀x∈c i,lI b'.Mem x/\fT b'.Mem x=fT b.Mem x)/\((iP k' i).Head=(iP k i).Head->c' i=c i->ChT b'.Mem (iP k' i).Head (c' i)/\pU b'.Mem (c' i)=pU b.Mem (c i)):=by
 have all:∀x∈c i,lI b'.Mem x/\fT b'.Mem x=fT b.Mem x:=fun x hx=>by obtain⟨a1,a2⟩:=o.chz h hw hi x hx;grind
 refine⟨all,fun e1 e2=>?_⟩;rw[e1,e2];exact⟨(h.ch i hi).keep all,aDQ fun x hx=>by grind⟩
theorem Oth.yno(o:Oth b b' k k' c c' J w j' y z){i:Int}(hi:XD i)(hn:(iP k i).gP≠w+1):y∉c i:=fun hy=>by
 have a:=h.link hw hi hy;rcases o.yo with q | q | ⟨⟨u,hu,hlk,hc⟩,_⟩
 ·exact((h.ch i hi).all y hy).1.ne q
 ·have:=h.name hw hw (MQ h hw q);omega
 grind[aOL,MP]
theorem aJV{m:Mem}{j:aE}{q1:Nat}(t:TW Ky m k c q1 j)(hj:JB j)(hp:j.Pc=12\/j.Pc=13):FJ j∈lA j/\∃r,lA j=FJ j :: r/\j.dF.drop ((fS j.aB j.K).toNat+1)=r:=by
 have hk:=t.k9 (by omega);have hd:=(t.fl hp).1;have hn:=(t.n7 (by omega)).1;have hk0:=hj.k.1;have hi:j.K.toNat<j.aB.length:=by omega
 have er:rX j=j.aB[j.K.toNat]:=by grind[rX]
 have hlt:fS j.aB j.K+1<=fS j.aB j.aB.length:=by unfold fS;rw[K7,List.take_length];grind[aDY,zK]
 have p0:0<=fS j.aB j.K:=by grind[fS]
 have hlen:(fS j.aB j.K).toNat<j.dF.length:=by omega
 have e1:lA j=j.dF.drop (fS j.aB j.K).toNat:=by unfold lA;grind
 grind[FJ,zK]
include hl
theorem uS.aMK{q':Int->Nat}(hq:∀v,v≠w->q' v=q v)(hc:JG b.aA)(hJ:∀v,j9 v->(J v).bX=true->JB (J v))(o:Oth b b' k k' c c' J w j' y z)(hz:b'.qH=b.qH)(ch':∀i,XD i->ChT b'.Mem (iP k' i).Head (c' i))(key':∀i,XD i->(pU b'.Mem (c' i)).Nodup/\∀x∈pU b'.Mem (c' i),oJ x=i/\x∈Ky)
  (cnt':∀s,cnC c' s+cnO (vS J w j') s=ind b' s) (ok':∀x∈own j',lI b'.Mem x) (tw':j'.bX=true->TW Ky b'.Mem k' c' (q' w) j') (rd':RdJ Ky b' (vS J w j') w (q' w) j') (sb':SbJ b' w j'):uS Ky b' k' c' q' (vS J w j'):=by
 refine⟨hz.trans h.hz,ch',key',cnt',fun v hv x hx=>?_,fun v hv hb=>?_,fun v hv=>?_,fun v hv=>?_⟩
 ·by_cases qv:v=w
  ·grind[RD]
  ·rw[aDP _ _ qv] at hx;exact(o.own h hw hv qv hx).1
 ·by_cases qv:v=w
  ·grind[RD]
  ·rw[aDP _ _ qv] at hb ⊢;rw[hq v qv];have t:=h.tw v hv hb;have hj:=hJ v hv hb;have held:∀i,i∈(J v).aQ->XD i/\(iP k' i).Head=(iP k i).Head/\c' i=c i/\∀x∈c i,fT b'.Mem x=fT b.Mem x:=fun i hi=>by
    have hb2:=hj.held.1 i hi;have hlk:=((hl v hv).iff i hb2).1 hi;have hn:(iP k i).gP≠w+1:=by omega
    obtain⟨a1,a2⟩:=o.hk i hb2 hn;exact⟨hb2,a1,a2,fun x hx=>((o.chn h hw hb2 (o.yno h hw hb2 hn)).1 x hx).2⟩
   have hbi:10<=(J v).Pc/\(J v).Pc<=13->bi (J v)∈(J v).aQ:=fun hp=>by
    have hk:=t.k9 hp;have hk0:=hj.k.1;have hi:(J v).K.toNat<(J v).aB.length:=by omega
    have er:rX (J v)=(J v).aB[(J v).K.toNat]:=by grind[rX]
    exact t.l8 (by omega) _ (by grind)
   refine{t with st:=fun hp=>?_,cu:=fun hp=>?_,fl:=fun hp=>?_,ln:=fun hp=>?_}
   ·obtain⟨_,_,e2,e3⟩:=held _ (hbi (by omega));obtain⟨A,B,x1,⟨x2,x3⟩,x4⟩:=t.st hp;grind
   ·obtain⟨_,_,e2,e3⟩:=held _ (hbi (by omega));obtain⟨A,B,x1,_⟩:=t.st (.inr hp);rw[e3 (J v).H (by grind)];exact t.cu hp
   ·obtain⟨_,_,e2,e3⟩:=held _ (hbi (by omega));obtain⟨x1,x2⟩:=t.fl hp;grind
   ·obtain⟨_,e1,e2,e3⟩:=held _ (hbi (by omega));rw[(o.own h hw hv qv (MQ h hw (aJV h hw t hj (.inr hp)).1)).2,e1];exact t.ln hp
 ·by_cases qv:v=w
  ·grind[RD]
  ·rw[aDP _ _ qv,hq v qv];intro hp hpin;obtain⟨p1,p2⟩:=o.pin v hv qv hpin;obtain⟨r,⟨⟨a1,a2,a3,a4⟩,a6⟩,a5⟩:=h.rd v hv hp p1;have he:(cW b.aA v).aG<=b.aA.aG:=(aI8 hc hv).1.2;have hx:∀x∈(J v).H :: r,lI b'.Mem x/\(x≠y->fT b'.Mem x=fT b.Mem x):=fun x hx=>by
    refine o.nod x (a1.ok x hx).1 fun ez=>?_;rcases o.zs with z1 | z1
    ·omega
    ·exact z1 v hv qv hp p1 x (a1.ok x hx).1 (a4 x hx) ez
   have hsf:∀x∈(J v).H :: r,Sfe b' (vS J w j') (cW b'.aA v).aG x:=fun x hx=>by rw[p2];exact o.sfe hw he (a1.ok x hx).1 (a4 x hx)
   have hkv:∀x∈(J v).H :: r,(fT b'.Mem x).Key=(fT b.Mem x).Key/\(fT b'.Mem x).dO=(fT b.Mem x).dO:=fun x hm=>by
    by_cases e:x=y
    ·rcases o.yo with q0 | q0 | ⟨_,q1,_⟩
     ·exact absurd (e.trans q0) (a1.ok x hm).1.ne
     ·exact absurd (e ▸ q0) ((a4 x hm).2 w hw).1
     grind
    grind
   have hkk:pU b'.Mem ((J v).H :: r)=pU b.Mem ((J v).H :: r):=aDQ fun x hm=>(hkv x hm).1;have hrp:Rp b'.Mem ((J v).H :: r):=by
    by_cases hy:y∈(J v).H :: r
    ·rcases o.yo with q0 | q0 | ⟨_,q1,q2⟩
     ·exact absurd q0 (a1.ok y hy).1.ne
     ·exact absurd q0 ((a4 y hy).2 w hw).1
     ·exact a1.cut q1 q2 hx
    ·exact a1.keep fun x hm=>⟨(hx x hm).1,(hx x hm).2 fun e=>hy (e ▸ hm)⟩
   refine⟨r,⟨⟨hrp,by grind,by grind,hsf⟩,a6⟩,fun e=>?_⟩;grind
 ·by_cases qv:v=w
  ·grind[RD]
  ·rw[aDP _ _ qv];have s:=h.sb v hv;have he:=o.ep;exact⟨s.al,fun p1 p2=>by obtain⟨x0,x1,x2,x3,x4⟩:=s.rt p1 p2;grind,fun p=>by rw[o.rows v hv qv];obtain⟨x1,x2,x3⟩:=s.col p;exact⟨x1,x2,x3.imp id fun a=>⟨aJ6 a.1 he,a.2⟩⟩⟩
theorem uS.make(hc:JG b.aA)(hJ:∀v,j9 v->(J v).bX=true->JB (J v))(o:Oth b b' k k' c c' J w j' y z)(hz:b'.qH=b.qH)(ch':∀i,XD i->ChT b'.Mem (iP k' i).Head (c' i))(key':∀i,XD i->(pU b'.Mem (c' i)).Nodup/\∀x∈pU b'.Mem (c' i),oJ x=i/\x∈Ky)
  (cnt':∀s,cnC c' s+cnO (vS J w j') s=ind b' s) (ok':∀x∈own j',lI b'.Mem x) (tw':j'.bX=true->TW Ky b'.Mem k' c' (q w) j') (rd':RdJ Ky b' (vS J w j') w (q w) j') (sb':SbJ b' w j'):uS Ky b' k' c' q (vS J w j'):=
 h.aMK hl hw (fun _ _=>rfl) hc hJ o hz ch' key' cnt' ok' tw' rd' sb'
end
end Go.Gv
end
noncomputable section
namespace Go.Gv
theorem a3H{b:aC}(hc:JG b.aA){w:Int}(hw:0<=w/\w<=2)(s:Sub):∃cl:aA,(yG b w s).1=⟨b.Mem,cl,b.aN,b.qH⟩/\cl.aG=b.aA.aG/\∀v,0<=v/\v<=2->v≠w->cW cl v=cW b.aA v:=by
 unfold yG PH;split
 ·grind
 split
 ·split
  ·refine⟨⟨b.aA.aG,b.aA.cH.set w.toNat ⟨true,s.E,false,0⟩⟩,rfl,rfl,fun v hv hn=>by rw[yH hc hw hv,if_neg hn]⟩
  ·exact⟨_,rfl,rfl,fun _ _ _=>rfl⟩
 split
 ·split
  ·exact⟨_,rfl,rfl,fun _ _ _=>rfl⟩
  ·exact⟨_,rfl,rfl,fun _ _ _=>rfl⟩
 grind
theorem aQ5{c:aA}(hc:JG c){w:Int}(hw:0<=w/\w<=2):(JL c w).1.aG=c.aG/\∀v,0<=v/\v<=2->v≠w->cW (JL c w).1 v=cW c v:=by
 unfold JL;split
 ·exact⟨rfl,fun v hv hn=>by rw[yH hc hw hv,if_neg hn]⟩
 ·exact⟨rfl,fun _ _ _=>rfl⟩
theorem aML{c c':aA}{v:Int}(h:cW c' v=cW c v)(p:mF c' v):mF c v/\(cW c' v).aG=(cW c v).aG:=by grind[mF]
theorem a3I{b:aC}(hc:JG b.aA)(s:Sub):∃cl:aA,(eZ b s).1=⟨b.Mem,cl,b.aN,b.qH⟩/\b.aA.aG<=cl.aG/\∀v,0<=v/\v<=2->mF cl v->mF b.aA v/\(cW cl v).aG=(cW b.aA v).aG:=by
 unfold eZ;split
 ·grind
 split
 ·split
  ·grind[aJE,mF]
  grind
 split
 ·refine⟨_,rfl,?_,?_⟩
  ·unfold aD9;grind
  ·intro v hv p;unfold aD9 at p ⊢;split
   ·rename_i q;rw[if_pos q] at p;exact⟨p,rfl⟩
   grind
 grind
noncomputable section
variable {Ky:List Int} {b:aC} {k:List bY} {c:Int->List Int} {q:Int->Nat} {J:Int->aE} {w:Int} (h:uS Ky b k c q J) (hl:∀v,j9 v->YT k v (J v)) (hw:j9 w) (hc:JG b.aA) (hJ:∀v,j9 v->(J v).bX=true->JB (J v))
include h hl hw hc hJ
theorem uS.a3J{q':Int->Nat}(hq:∀v,v≠w->q' v=q v){cl:aA}{k':List bY}{j':aE}(hk:∀i,XD i->(iP k' i).Head=(iP k i).Head)(eo:own j'=own (J w))(en:∀x∈lA j',x∈lA (J w))
  (sr:j'.Pc=15->j'.K<j'.bA.length->j'.Sub.Pc=1->j'.Sub.E=b.aA.aG\/(J w).Pc=15/\(J w).K<(J w).bA.length/\(J w).Sub.A=j'.Sub.A/\(J w).Sub.Pc=1/\(J w).Sub.E=j'.Sub.E)
  (pin:∀v,j9 v->v≠w->mF cl v->mF b.aA v/\(cW cl v).aG=(cW b.aA v).aG) (ep:b.aA.aG<=cl.aG)
  (tw':j'.bX=true->TW Ky b.Mem k' c (q' w) j') (rd':RdJ Ky {b with aA:=cl} (vS J w j') w (q' w) j') (sb':SbJ {b with aA:=cl} w j'):uS Ky {b with aA:=cl} k' c q' (vS J w j'):=by
 refine h.aMK hl hw hq hc hJ (y:=0) (z:=-1) ⟨fun x hx _=>⟨hx,fun _=>rfl⟩,.inl rfl,.inl rfl,fun i hi _=>⟨hk i hi,rfl⟩,.inl rfl,fun r hr=>.inl hr,fun x hx=>.inl (en x hx),sr,pin,ep,fun _ _ _=>rfl⟩ rfl (fun i hi=>by rw[hk i hi];exact h.ch i hi) h.key (fun s=>?_) (fun x hx=>h.ok w hw x (eo ▸ hx)) tw' rd' sb';have:=WR (J:=J) hw j' s;rw[eo] at this;have h2:=h.cnt s;grind[ind]
theorem uS.quiet{cl:aA}{k':List bY}{j':aE}(hk:∀i,XD i->(iP k' i).Head=(iP k i).Head)(eo:own j'=own (J w))(en:∀x∈lA j',x∈lA (J w))
  (sr:j'.Pc=15->j'.K<j'.bA.length->j'.Sub.Pc=1->j'.Sub.E=b.aA.aG\/(J w).Pc=15/\(J w).K<(J w).bA.length/\(J w).Sub.A=j'.Sub.A/\(J w).Sub.Pc=1/\(J w).Sub.E=j'.Sub.E)
  (pin:∀v,j9 v->v≠w->mF cl v->mF b.aA v/\(cW cl v).aG=(cW b.aA v).aG) (ep:b.aA.aG<=cl.aG)
  (tw':j'.bX=true->TW Ky b.Mem k' c (q w) j') (rd':RdJ Ky {b with aA:=cl} (vS J w j') w (q w) j') (sb':SbJ {b with aA:=cl} w j'):uS Ky {b with aA:=cl} k' c q (vS J w j'):=
 h.a3J hl hw hc hJ (fun _ _=>rfl) hk eo en sr pin ep tw' rd' sb'
theorem uS.aOM{q':Int->Nat}(hq:∀v,v≠w->q' v=q v){k':List bY}{j':aE}(hk:∀i,XD i->(iP k' i).Head=(iP k i).Head)(eo:own j'=own (J w))(en:∀x∈lA j',x∈lA (J w))(h15:j'.Pc≠15\/j'.Sub.Pc≠1)(tw':j'.bX=true->TW Ky b.Mem k' c (q' w) j')(rd':RdJ Ky b J w (q' w) j')(sb':SbJ b w j'):uS Ky b k' c q' (vS J w j'):=
 h.a3J hl hw hc hJ hq (cl:=b.aA) hk eo en (fun p _ q=>h15.elim (fun a=>absurd p a) fun a=>absurd q a) (fun _ _ _ p=>⟨p,rfl⟩) (K6 _) tw' (fun p q=>by
  obtain⟨r,⟨a,la⟩,e⟩:=rd' p q;exact⟨r,⟨⟨a.rp,a.nd,a.ky,fun x hx=>⟨(a.sf x hx).1,fun v hv=>by
   by_cases z:v=w
   ·subst z;rw[RD];exact⟨fun m=>((a.sf x hx).2 v hv).1 (en x m),fun p1 _ _ p2=>(h15.elim (fun a=>absurd p1 a) fun a=>absurd p2 a)⟩
   ·rw[aDP _ _ z];exact(a.sf x hx).2 v hv⟩⟩,la⟩,e⟩) sb'
theorem uS.still{k':List bY}{j':aE}(hk:∀i,XD i->(iP k' i).Head=(iP k i).Head)(eo:own j'=own (J w))(en:∀x∈lA j',x∈lA (J w))(h15:j'.Pc≠15\/j'.Sub.Pc≠1)(tw':j'.bX=true->TW Ky b.Mem k' c (q w) j')(rd':RdJ Ky b J w (q w) j')(sb':SbJ b w j'):uS Ky b k' c q (vS J w j'):=
 h.aOM hl hw hc hJ (fun _ _=>rfl) hk eo en h15 tw' rd' sb'
end
theorem RdJ.no{Ky:List Int}{b:aC}{J:Int->aE}{v:Int}{q:Nat}{j:aE}(h:j.Pc≠3/\j.Pc≠4):RdJ Ky b J v q j:=fun p=>absurd p (by omega)
theorem SbJ.no{b:aC}{v:Int}{j:aE}(h:j.Pc≠6/\j.Pc≠15/\j.Pc≠21):SbJ b v j:=⟨fun p=>absurd p h.1,fun p=>absurd p h.2.1,fun p=>absurd p h.2.2⟩
theorem FA{j:aE}(h:j.Pc<6\/18<=j.Pc):own j=[]/\lA j=[]:=by unfold own lA aDO;grind
theorem tM{j:aE}(h:(6<=j.Pc/\j.Pc<=8)\/j.Pc=16\/j.Pc=17):own j=j.dF/\lA j=j.dF:=by unfold own lA aDO;grind
theorem aB2(l:List aS)(x:aS):(J0 l x).length<=l.length+1:=by
 have e:(J0 l x).length=(l.filter fun y=>!(y.Key == x.Key)).length+1:=by unfold J0;have:=congrArg List.length (List.takeWhile_append_dropWhile (p:=fun y=>!decide (x.Key<y.Key)) (l:=l.filter fun y=>!(y.Key == x.Key)));grind
 grind
theorem aQ6{l:List aS}{x y:aS}(h:y∈J0 l x):y=x\/y∈l:=((aJI _ _ _).1 (show y∈aOC _ x from h)).imp id fun h=>(List.mem_filter.1 h).1
theorem aWJ{j:aE}(hj:JB j)(hc:AL j):fK j∈j.Batch.aY:=by have:=hj.at_;grind[AL,fK]
theorem aTY{Ky:List Int}{k:List bY}{c:Int->List Int}{m:Mem}{q1:Nat}{j:aE}(t:TW Ky m k c q1 j)(hj:JB j)(hp:1<=j.Pc/\j.Pc<=5)(ha:AL j)(v:Int)(is:Bool):TW Ky m k c q1 (JM j (fK j) v is)/\(JM j (fK j) v is).Pc=1:=by
 have hm:=aWJ hj ha;have h6:=hj.ZX.2.1;have hat:=hj.at_;unfold AL at ha;obtain⟨t1,t2,t3,t4,t5,t6,t7,t8,t9,t10,t11,t12,t13,t14,t15,t16,t17,t18,t19⟩:=t;have w5:=t5;unfold JM;split
 ·generalize (if is then v else 0)=u;unfold aJF zI;have hlen:=aB2 j.aB ⟨(fK j).Key,false,UB u (fK j).dO⟩;have hmem:∀y∈J0 j.aB ⟨(fK j).Key,false,UB u (fK j).dO⟩,y.Key∈Ky:=fun y hy=>by grind[aQ6]
  rw[if_neg (show ¬6<(J0 j.aB ⟨(fK j).Key,false,UB u (fK j).dO⟩).length by omega),if_pos rfl];unfold aB0;refine⟨?_,rfl⟩;constructor<;>grind
 ·unfold aB0;refine⟨?_,rfl⟩;constructor<;>grind
noncomputable section
variable {Ky:List Int} {b:aC} {k:List bY} {c:Int->List Int} {q:Int->Nat} {J:Int->aE} {w:Int} (h:uS Ky b k c q J) (hl:∀v,j9 v->YT k v (J v)) (hw:j9 w) (hc:JG b.aA) (hJ:∀v,j9 v->(J v).bX=true->JB (J v)) (hB:(J w).bX=true)
include h hl hw hc hJ hB
theorem bAY(hp:(J w).Pc=8):uS Ky b k c q (vS J w (X5 k w (J w))):=by
 obtain⟨t1,t2,t3,t4,t5,t6,t7,t8,t9,t10,t11,t12,t13,t14,t15,t16,t17,t18,t19⟩:=h.tw w hw hB;have o:=tM (j:=J w) (by omega);have p0:fS (J w).aB 0=0:=by simp[fS]
 unfold X5;split
 ·refine h.still hl hw hc hJ (fun _ _=>rfl) ?_ ?_ (.inl (by simp)) (fun _=>?_) (.no (by simp)) (.no (by simp))
  ·simp_all[own,lA,aDO]
  ·grind[lA]
  ·constructor<;>grind
 ·split
  ·refine h.still hl hw hc hJ (fun _ _=>rfl) ?_ ?_ (.inl (by simp[FD])) (fun _=>?_) (.no (by simp[FD])) (.no (by simp[FD]))
   ·simp_all[own,lA,aDO,FD]
   ·grind[lA,FD]
   ·constructor<;>grind[FD]
  ·refine h.still hl hw hc hJ (fun _ _=>rfl) ?_ ?_ (.inl (by simp[hp])) (fun _=>?_) (.no (by simp[hp])) (.no (by simp[hp]))
   ·simp_all[own,lA,aDO]
   ·grind[lA]
   ·constructor<;>grind
theorem a67(hp:(J w).Pc=1):uS Ky b k c q (vS J w (WJ (J w))):=by
 have t:=h.tw w hw hB;have hj:=hJ w hw hB;have o:=FA (j:=J w) (by omega);have fin:∀{j':aE},TW Ky b.Mem k c (q w) j'->j'.Pc=1\/j'.Pc=2->uS Ky b k c q (vS J w j'):=fun{j'} t' p'=>by have o':=FA (j:=j') (by omega);exact h.still hl hw hc hJ (fun _ _=>rfl) (by grind) (by grind) (.inl (by omega)) (fun _=>t') (.no (by omega)) (.no (by omega))
 unfold WJ;split
 ·rename_i ha;split
  ·have hm:=aWJ hj ha;have h6:=hj.ZX.2.1;have hat:=hj.at_;unfold AL at ha;obtain⟨t1,t2,t3,t4,t5,t6,t7,t8,t9,t10,t11,t12,t13,t14,t15,t16,t17,t18,t19⟩:=t;have w5:=t5;unfold zI;have hlen:=aB2 (J w).aB ⟨(fK (J w)).Key,(fK (J w)).Kind == 3,(fK (J w)).dO⟩;have hmem:∀y∈J0 (J w).aB ⟨(fK (J w)).Key,(fK (J w)).Kind == 3,(fK (J w)).dO⟩,y.Key∈Ky:=fun y hy=>by grind[aQ6]
   rw[if_neg (show ¬6<(J0 (J w).aB ⟨(fK (J w)).Key,(fK (J w)).Kind == 3,(fK (J w)).dO⟩).length by omega),if_pos rfl];refine fin ?_ (.inl hp);constructor<;>grind
  ·split
   ·grind[aTY]
   ·refine fin ?_ (.inr rfl);obtain⟨t1,t2,t3,t4,t5,t6,t7,t8,t9,t10,t11,t12,t13,t14,t15,t16,t17,t18,t19⟩:=t;constructor<;>grind[AL]
 ·rename_i ha;have hat:=hj.at_;have e:own {J w with Pc:=6,K:=0,Sub:=zG 1 16}=[]:=by rw[(tM (by simp)).1];exact t.nO (by omega)
  refine h.still hl hw hc hJ (fun _ _=>rfl) (by rw[o.1,e]) (by grind[tM]) (.inl (by simp)) (fun _=>?_) (.no (by simp)) ⟨fun _=>by simp[zG],by simp,by simp⟩;obtain⟨t1,t2,t3,t4,t5,t6,t7,t8,t9,t10,t11,t12,t13,t14,t15,t16,t17,t18,t19⟩:=t;have p0:0<=fS (J w).aB (J w).aB.length:=by grind[fS]
  unfold AL at ha;constructor<;>grind
end
end Go.Gv
end
noncomputable section
namespace Go.Gv
theorem aTZ{m:Mem}{x:Int}(h:lI m x):WI m.Heap x=fT m x:=if_pos ⟨h.1.1,eB h.1.2.1,h.2⟩
def qF(L q:Nat)(j:aE):Nat:=if j.Pc=2\/j.Pc=9 then L - 1 else if j.Pc=4\/j.Pc=10 then q - 1 else q
theorem a68{l:List aS}{x:aS}(h:x∈l)(hk:0<=x.Key/\x.Key<=99):oJ x.Key∈qI l:=by
 have:oJ x.Key=0/\(l.any fun x=>x.Key % 2 == 0)=true\/oJ x.Key=1/\(l.any fun x=>x.Key % 2 == 1)=true:=by unfold oJ;grind
 grind[qI]
noncomputable section
variable {Ky:List Int} {b:aC} {k:List bY} {c:Int->List Int} {q:Int->Nat} {J:Int->aE} {w:Int} (h:uS Ky b k c q J)
include h
theorem uS.free{i:Int}(hi:XD i){x:Int}(hx:x∈c i)(e:Int):Sfe b J e x:=by
 have hn:=((h.ch i hi).all x hx).1.1.1;have a:=MP hx;have a2:=h.cnt (x % 32);have a3:=a3F c hi (x % 32);refine⟨fun r hr er=>?_,fun v hv=>⟨fun m=>?_,fun p1 p2 p3 p4=>?_⟩⟩
 ·have:ind b (x % 32)=0:=if_neg fun q=>q.2 ⟨r,hr,er ▸ hn,by rw[er]⟩;omega
 ·have:=MP (MQ h hv m);grind[aTX,aDR]
 ·obtain⟨hk,_,_,hs,_⟩:=(h.sb v hv).rt p1 p2;have hm:x∈own (J v):=aG2 _ (by
   simp_all[aDO,zK])
  have:=MP hm;grind[aTX,aDR]
variable (hl:∀v,j9 v->YT k v (J v)) (hw:j9 w) (hc:JG b.aA) (hJ:∀v,j9 v->(J v).bX=true->JB (J v)) (hB:(J w).bX=true)
include hl hw hc hJ hB
theorem a3K{n:Nat}{j':aE}(hp:2<=(J w).Pc/\(J w).Pc<=5)(e:j'=FD j' j'.Code)(x:j'.Code=6\/j'.Code=7)(sm:j'.dF=(J w).dF/\j'.bA=(J w).bA/\j'.aB=(J w).aB/\j'.Batch=(J w).Batch/\j'.At=(J w).At):uS Ky b k c (upQ q w n) (vS J w j'):=by
 have t:=h.tw w hw hB;have hp':j'.Pc=16:=by rw[e];rfl
 have o:=FA (j:=J w) (by omega);obtain⟨t1,t2,t3,t4,t5,t6,t7,t8,t9,t10,t11,t12,t13,t14,t15,t16,t17,t18,t19⟩:=t;have o':=tM (j:=j') (by omega);refine h.aOM hl hw hc hJ (q':=upQ q w n) (fun v hv=>if_neg hv) (fun _ _=>rfl) (by grind) (by grind) (.inl (by omega)) (fun _=>?_) (.no (by omega)) (.no (by omega));obtain⟨s1,s2,s3,s4,s5⟩:=sm;constructor<;>grind
theorem a69(hp:2<=(J w).Pc/\(J w).Pc<=5):uS Ky b k c (upQ q w (qF Ky.length (q w) (J w))) (vS J w (J1 b k w (J w))):=by
 have t:=h.tw w hw hB;have hj:=hJ w hw hB;have o:=FA (j:=J w) (by omega);have ha:=t.hc hp;generalize hn:qF Ky.length (q w) (J w)=n;have ab:∀(j':aE),j'.dF=(J w).dF/\j'.bA=(J w).bA/\j'.aB=(J w).aB/\j'.Batch=(J w).Batch/\j'.At=(J w).At->∀x,x=6\/x=7->uS Ky b k c (upQ q w n) (vS J w (FD j' x)):=fun j' s x hx=>a3K h hl hw hc hJ hB (j':=FD j' x) hp rfl hx s;have go:∀{j':aE},TW Ky b.Mem k c n j'->j'.Pc<=5->RdJ Ky b J w n j'->uS Ky b k c (upQ q w n) (vS J w j'):=fun{j'} t' p' r'=>by have o':=FA (j:=j') (by omega);exact h.aOM hl hw hc hJ (q':=upQ q w n) (fun v hv=>if_neg hv) (fun _ _=>rfl) (by grind) (by grind) (.inl (by omega)) (fun _=>by simp_all[upQ]) (by simp_all[upQ]) (.no (by omega))
 have tw:∀{j':aE},2<=j'.Pc/\j'.Pc<=5->j'.dF=(J w).dF/\j'.bA=(J w).bA/\j'.aB=(J w).aB/\j'.Batch=(J w).Batch/\j'.At=(J w).At/\j'.Code=(J w).Code->TW Ky b.Mem k c n j':=fun{j'} p' ⟨s1,s2,s3,s4,s5,s6⟩=>by obtain⟨t1,t2,t3,t4,t5,t6,t7,t8,t9,t10,t11,t12,t13,t14,t15,t16,t17,t18,t19⟩:=t;unfold AL at ha;constructor<;>grind[AL]
 have hbk:=hj.bkt;unfold J1;by_cases p2:(J w).Pc=2
 ·rw[if_pos p2];split
  ·grind
  ·have hch:=h.ch _ hbk;by_cases q:(iP k (J w).bY).Head=0
   ·rw[if_pos q];exact go (tw (by simp) ⟨rfl,rfl,rfl,rfl,rfl,rfl⟩) (by simp) (.no (by simp))
   ·rw[if_neg q];refine go (tw (by simp) ⟨rfl,rfl,rfl,rfl,rfl,rfl⟩) (by simp) fun _ hpin=>?_;obtain⟨k1,k2⟩:=h.key _ hbk;have fr:=fun x (hx:x∈c (J w).bY)=>h.free hbk hx (cW b.aA w).aG
    match hl2:c (J w).bY,hch with
    | [],hch=>exact absurd hch q
    | x :: r, hch =>
     rw[hl2] at k1 k2 fr;have e:(iP k (J w).bY).Head=x:=hch.1;simp only[e];refine⟨r,⟨⟨hch.rp,k1,fun y hy=>(k2 y hy).2,fr⟩,?_⟩,fun z=>absurd z (by simp)⟩;have:=MO k1 fun y hy=>(k2 y hy).2;unfold pU at this;rw[List.length_map,JO] at this;rw[<-hn];unfold qF;grind
 rw[if_neg p2];by_cases p3:(J w).Pc=3
 ·rw[if_pos p3];refine go (tw (by simp) ⟨rfl,rfl,rfl,rfl,rfl,rfl⟩) (by simp) fun _ hpin=>?_;obtain⟨r,⟨a,la⟩,_⟩:=h.rd w hw (.inl p3) hpin;refine⟨r,⟨a,by simp_all[qF]⟩,fun _=>?_⟩;simp only;rw[aTZ a.rp.1];exact⟨⟨rfl,rfl⟩,a.rp.2.2.1⟩
 rw[if_neg p3];by_cases p4:(J w).Pc=4
 ·rw[if_pos p4];split
  ·grind
  ·rename_i hpn;have hpin:mF b.aA w:=Classical.byContradiction hpn;obtain⟨r,⟨a,la⟩,a5⟩:=h.rd w hw (.inr p4) hpin;obtain⟨_,a6⟩:=a5 p4;by_cases q:(J w).Node.Key=(fK (J w)).Key\/Q9 (J w).Node=0
   ·rw[if_pos q];exact go (tw (by simp) ⟨rfl,rfl,rfl,rfl,rfl,rfl⟩) (by simp) (.no (by simp))
   ·rw[if_neg q];refine go (tw (by simp) ⟨rfl,rfl,rfl,rfl,rfl,rfl⟩) (by simp) fun _ _=>?_;have hs:Q9 (J w).Node=(J w).Node.Next:=by simp_all[Q9]
    rw[hs] at q ⊢;have hm:=a6.resolve_left fun z=>q (.inr z);obtain⟨A,r',e1,e2⟩:=a.rp.2.2.2.from hm;have hsub:((J w).Node.Next :: r').Sublist ((J w).H :: r):=by grind
    refine⟨r',⟨⟨e2,a.nd.sublist (hsub.map _),fun x hx=>a.ky x ((hsub.map _).subset hx),fun x hx=>a.sf x (hsub.subset hx)⟩,?_⟩,fun z=>absurd z (by simp)⟩;rw[e1,C1,JO] at la;rw[<-hn];unfold qF;grind
 rw[if_neg p4];split
 ·grind
 split
 ·grind
 have tr:TW Ky b.Mem k c n {J w with Reads:=(FU (J w).Reads (J w).bY (J w).fX).1}:=tw hp ⟨rfl,rfl,rfl,rfl,rfl,rfl⟩;obtain⟨a1,a2⟩:=aTY tr (hj.spt _ _ hbk) (by grind) ha (J w).Node.dO (J w).Found;exact go a1 (aJ6 (Int.le_of_eq a2) (by omega)) (.no ⟨fun z=>absurd (a2.symm.trans z) (by omega),fun z=>absurd (a2.symm.trans z) (by omega)⟩)
theorem a7A(h2:k.length=2)(hp:(J w).Pc=7):uS Ky b (PJ k w (J w)).1 c q (vS J w (PJ k w (J w)).2.1):=by
 have t:=h.tw w hw hB;have hj:=hJ w hw hB;have o:=tM (j:=J w) (by omega);have hk:=hj.k;have hwk:=hj.wr.2.1;have all:∀x∈(J w).aB,oJ x.Key∈qI (J w).aB:=fun x hx=>a68 hx (hwk x hx).1;obtain⟨t1,t2,t3,t4,t5,t6,t7,t8,t9,t10,t11,t12,t13,t14,t15,t16,t17,t18,t19⟩:=t;have fin:∀{k':List bY} {j':aE},(∀i,XD i->(iP k' i).Head=(iP k i).Head)->TW Ky b.Mem k' c (q w) j'->j'.dF=(J w).dF->j'.Pc=7\/j'.Pc=8\/j'.Pc=16->uS Ky b k' c q (vS J w j'):=fun{k' j'} e t' en p'=>by have o':=tM (j:=j') (by omega);exact h.still hl hw hc hJ e (by grind) (by grind) (.inl (by omega)) (fun _=>t') (.no (by omega)) (.no (by omega))
 unfold PJ;by_cases c1:(J w).K<(qI (J w).aB).length
 ·rw[if_pos c1];have hi:(J w).K.toNat<(qI (J w).aB).length:=by omega
  have er:gR (J w)=(qI (J w).aB)[(J w).K.toNat]:=by grind[gR]
  have hbk:0<=gR (J w)/\gR (J w)<=1:=by have:=WA (dC hi);omega
  split
  ·exact fin (fun _ _=>rfl) (by unfold FD;constructor<;>grind) rfl (.inr (.inr rfl))
  split
  ·exact fin (fun _ _=>rfl) (by unfold FD;constructor<;>grind) rfl (.inr (.inr rfl))
  have hd:∀i,XD i->(iP (k.set (gR (J w)).toNat {iP k (gR (J w)) with gP:=w+1}) i).Head=(iP k i).Head:=fun i hi=>by grind[OG]
  have hm:∀x∈(qI (J w).aB).take ((J w).K+1).toNat,x∈(PI (J w)).aQ:=fun x hx=>by rw[show((J w).K+1).toNat=(J w).K.toNat+1 by omega,K9 hi,fB,HQ,<-er] at hx;have a:=t8 hp;unfold PI;grind
  split
  ·rename_i c3;refine fin hd ?_ rfl (.inr (.inl rfl));rw[aDZ (by omega)] at hm;have hh:∀x∈(J w).aB,oJ x.Key∈(PI (J w)).aQ:=fun x hx=>hm _ (all x hx);unfold PI at hh ⊢;constructor<;>grind
  ·refine fin hd ?_ rfl (.inl hp);unfold PI at hm ⊢;constructor<;>grind
 ·rw[if_neg c1];refine fin (fun _ _=>rfl) ?_ rfl (.inr (.inl rfl));have a:=t8 hp;rw[aDZ (by omega)] at a;constructor<;>grind
theorem aYB(h2:k.length=2)(hp:(J w).Pc=14\/(J w).Pc=16):uS Ky b (PK k (J w)).1 c q (vS J w (PK k (J w)).2):=by
 have t:=h.tw w hw hB;have hj:=hJ w hw hB;have hk:=hj.k;have tw:∀{k':List bY} {p:Int} {j':aE},(p=(J w).Pc\/p=17/\(J w).Pc=16\/p=15/\(J w).Pc=14)->j'.Pc=p->j'.dF=(J w).dF/\j'.bA=(J w).bA/\j'.aB=(J w).aB/\j'.Batch=(J w).Batch/\j'.At=(J w).At/\j'.Code=(J w).Code->TW Ky b.Mem k' c (q w) j':=fun{k' p j'} hp' ep ⟨s1,s2,s3,s4,s5,s6⟩=>by
  have q:j'.Pc=14\/j'.Pc=15\/j'.Pc=16\/j'.Pc=17:=by omega
  have cd':j'.Code=0/\j'.Pc≠16/\j'.Pc≠17\/(j'.Code=3\/j'.Code=6\/j'.Code=7)/\16<=j'.Pc/\j'.Pc<=19:=by have:=t.cd;omega
  refine⟨by omega,fun x=>by omega,fun x=>by rw[s2];exact t.oO (by omega),fun x=>by omega,by rw[s3,s5];exact t.wl,fun x=>by omega,fun x=>by omega,fun x=>by omega,fun x=>by omega,fun x=>by omega,fun x=>by omega,fun x=>by omega,fun x=>by omega,fun x=>by omega,cd',fun x _=>by rw[s5,s4];exact t.at_ (by omega) (by omega),fun x=>?_,fun x=>by omega,by rw[s3,s4];exact t.ky⟩;have:=t.cl (by rw[<-s4];exact x);omega
 unfold PK;by_cases c1:0<(J w).aQ.length
 ·rw[if_pos c1];have er:AM (J w)=(J w).aQ[0]:=by unfold AM;simp[PR,kG c1]
  have hbk:=hj.held.1 _ (show AM (J w)∈(J w).aQ by rw[er];exact dC c1);refine h.still hl hw hc hJ (fun i hi=>?_) rfl (fun _ x=>x) (.inl ?_) (fun _=>tw (.inl rfl) rfl ⟨rfl,rfl,rfl,rfl,rfl,rfl⟩) (.no (by simp only;omega)) (.no (by simp only;omega))
  ·rw[OG h2 hbk hi];split
   ·rename_i e;subst e;split<;>rfl
   ·rfl
  ·simp only;omega
 ·rw[if_neg c1];split
  ·rename_i e;exact h.still hl hw hc hJ (fun _ _=>rfl) (by grind[tM]) (by simp_all[tM]) (.inl (by simp)) (fun _=>tw (.inr (.inl ⟨rfl,e⟩)) rfl ⟨rfl,rfl,rfl,rfl,rfl,rfl⟩) (.no (by simp)) (.no (by simp))
  ·rename_i e;have p14:(J w).Pc=14:=by omega
   have o14:own (J w)=(J w).bA/\lA (J w)=[]:=by grind[own,lA,aDO]
   have fin:∀s:Sub,TW Ky b.Mem k c (q w) {J w with Pc:=15,K:=0,Sub:=s}:=fun s=>tw (.inr (.inr ⟨rfl,p14⟩)) rfl ⟨rfl,rfl,rfl,rfl,rfl,rfl⟩;unfold SO;by_cases q:(0:Int)<(J w).bA.length
   ·rw[if_pos q];exact h.still hl hw hc hJ (fun _ _=>rfl) (by grind[own,lA,aDO]) (by simp[lA]) (.inr (by simp[zG])) (fun _=>fin _) (.no (by simp)) ⟨fun p=>absurd p (by simp),fun _ _=>⟨K6 _,rfl,rfl,rfl,.inl rfl⟩,fun p=>absurd p (by simp)⟩
   ·rw[if_neg q];exact h.quiet hl hw hc hJ (cl:=b.aA) (fun _ _=>rfl) (by grind[own,lA,aDO]) (by simp[lA]) (fun _ y=>absurd y q) (fun _ _ _ p=>⟨p,rfl⟩) (K6 _) (fun _=>fin _) (.no (by simp)) ⟨fun p=>absurd p (by simp),fun _ y=>absurd y q,fun p=>absurd p (by simp)⟩
theorem XE{cl:aA}{j':aE}(hp:(J w).Pc<6\/18<=(J w).Pc)(hp':(j'.Pc<6\/18<=j'.Pc)/\j'.Pc≠3/\j'.Pc≠4)(pin:∀v,j9 v->v≠w->mF cl v->mF b.aA v/\(cW cl v).aG=(cW b.aA v).aG)(ep:b.aA.aG<=cl.aG)
  (tw':j'.bX=true->TW Ky b.Mem k c (q w) j') (col:j'.Pc=21->a66 cl.aG (dK b.aN w) j'.Sub):uS Ky {b with aA:=cl} k c q (vS J w j'):=by
 have o:=FA hp;have o':=FA hp'.1;exact h.quiet hl hw hc hJ (fun _ _=>rfl) (by grind) (by grind) (fun p=>by omega) pin ep tw' (.no (by omega)) ⟨fun p=>by omega,fun p=>by omega,col⟩
theorem a3L(hp:(J w).Pc=18):uS Ky {b with aA:=(JL b.aA w).1} k c q (vS J w {J w with Pc:=19}):=by obtain⟨e1,e2⟩:=aQ5 hc hw;refine XE h hl hw hc hJ hB (by omega) (by simp) (fun v hv hn p=>aML (e2 v hv hn) p) (by omega) (fun _=>?_) (by simp);obtain⟨t1,t2,t3,t4,t5,t6,t7,t8,t9,t10,t11,t12,t13,t14,t15,t16,t17,t18,t19⟩:=h.tw w hw hB;constructor<;>grind
theorem a7B(hp:(J w).Pc=19):uS Ky b k c q (vS J w dP):=
 XE h hl hw hc hJ hB (cl:=b.aA) (by omega) (by simp[dP]) (fun _ _ _ p=>⟨p,rfl⟩) (K6 _) (fun q=>by cases q) (by simp[dP])
theorem a3M(hp:(J w).Pc=0){j':aE}(hj:j'={J w with Sub:=(yG b w (J w).Sub).2}\/j'={J w with Pc:=1,Sub:=(yG b w (J w).Sub).2}):uS Ky (yG b w (J w).Sub).1 k c q (vS J w j'):=by obtain⟨cl,e,e1,e2⟩:=a3H hc hw (J w).Sub;rw[e];refine XE h hl hw hc hJ hB (by omega) (by grind) (fun v hv hn p=>aML (e2 v hv hn) p) (by omega) (fun _=>?_) (by grind);obtain⟨t1,t2,t3,t4,t5,t6,t7,t8,t9,t10,t11,t12,t13,t14,t15,t16,t17,t18,t19⟩:=h.tw w hw hB;rcases hj with rfl | rfl<;>constructor<;>grind
theorem a3N(hp:(J w).Pc=20){j':aE}(hj:j'={J w with Sub:=(eZ b (J w).Sub).2}\/j'={J w with Pc:=21,Sub:=zG 4 0}):uS Ky (eZ b (J w).Sub).1 k c q (vS J w j'):=by obtain⟨cl,e,e1,e2⟩:=a3I hc (J w).Sub;rw[e];refine XE h hl hw hc hJ hB (by omega) (by grind) (fun v hv hn p=>e2 v hv p) e1 (fun _=>?_) (by grind[a66,zG]);obtain⟨t1,t2,t3,t4,t5,t6,t7,t8,t9,t10,t11,t12,t13,t14,t15,t16,t17,t18,t19⟩:=h.tw w hw hB;rcases hj with rfl | rfl<;>constructor<;>grind
omit hB in
theorem a3O(hn:J w=dP){x:Batch}(hx:∀q∈x.aY,q.Key∈Ky)(s:Int):uS Ky b k c q (vS J w (mE x s)):=by
 have o:own (J w)=[]/\lA (J w)=[]:=FA (by rw[hn];exact .inl (by decide));have p':(mE x s).Pc=0\/(mE x s).Pc=20:=by grind[mE]
 have o':=FA (j:=mE x s) (by omega);refine h.still hl hw hc hJ (fun _ _=>rfl) (by grind) (by grind) (.inl (by omega)) (fun _=>?_) (.no (by omega)) (.no (by omega));unfold mE at p' ⊢;constructor<;>grind
end
end Go.Gv
end
noncomputable section
namespace Go.Gv
theorem XF{m:Mem}{h g:Int}(a:m5 m h)(b:m5 m g)(e:h % 32=g % 32):h=g:=by have h1:=a.2.2;have h2:=b.2.2;grind
theorem aJW{l:List bI}(hl:yP l){w:Int}(hw:j9 w):∃A B,dQ l=A++(dK l w++B)/\∀r,dQ (l.set w.toNat ⟨r⟩)=A++(r++B):=by
 have h3:=hl.1;have kx:w.toNat<l.length:=by omega
 have hrow:l[w.toNat].Rows=dK l w:=by have:=ML hl hw;grind[iC]
 exact⟨_,_,by grind[IK],fun r=>K4 kx _⟩
theorem ZY{l:List bI}(h3:l.length=3){w v:Int}(hw:j9 w)(hv:j9 v)(hn:v≠w)(x:bI):dK (l.set w.toNat x) v=dK l v:=by unfold dK;grind
theorem bAZ{b:aC}{s:Int}(h1:eM b.Mem s=3)(h2:¬aQ b.aN s):ind b s=1:=if_pos ⟨h1,h2⟩
theorem SR{b:aC}{s:Int}(h:eM b.Mem s≠3\/aQ b.aN s):ind b s=0:=if_neg fun q=>h.elim (fun a=>a q.1) q.2
theorem aJX{b b':aC}{s:Int}(h1:eM b'.Mem s=3↔eM b.Mem s=3)(h2:aQ b'.aN s↔aQ b.aN s):ind b' s=ind b s:=by grind[ind]
noncomputable section
variable {Ky:List Int} {b:aC} {k:List bY} {c:Int->List Int} {q:Int->Nat} {J:Int->aE} {w:Int} (h:uS Ky b k c q J) (hl:∀v,j9 v->YT k v (J v)) (hw:j9 w) (hb:nC b) (hJ:∀v,j9 v->(J v).bX=true->JB (J v)) (hB:(J w).bX=true)
include h hl hw hb hJ hB
theorem a3P(hp:(J w).Pc=6):uS Ky (IM b w (J w)).1 k c q (vS J w (IM b w (J w)).2):=by
 have t:=h.tw w hw hB;have hj:=hJ w hw hB;have hc:=hb.1.2.1;have o:=tM (j:=J w) (by omega);obtain⟨s1,s2,s3,s4⟩:=(h.sb w hw).al hp;have hk:=hj.k;have hn6:=t.n6 hp;have pl:=RC (J w).aB (J w).aB.length;have hwl:=hj.wr.1;have tw:∀{j':aE},(j'.Pc=6/\(j'.dF.length:Int)=j'.K/\j'.K<=fS (J w).aB (J w).aB.length/\j'.Code=(J w).Code\/j'.Pc=7/\j'.K=0/\(j'.dF.length:Int)=fS (J w).aB (J w).aB.length/\j'.Code=(J w).Code\/j'.Pc=16/\j'.Code=3)->j'.bA=(J w).bA/\j'.aB=(J w).aB/\j'.Batch=(J w).Batch/\j'.At=(J w).At->TW Ky b.Mem k c (q w) j':=fun{j'} q ⟨e2,e3,e4,e5⟩=>by
  have c6:(J w).Code=0:=by have:=t.cd;omega
  refine⟨by omega,fun x=>by omega,fun x=>by rw[e2];exact t.oO (by omega),fun x=>by omega,by rw[e3,e5];exact t.wl,fun x=>by grind,fun x=>⟨by grind,fun y=>by omega⟩,fun x=>?_,fun x=>by omega,fun x=>by omega,fun x=>by omega,fun x=>by omega,fun x=>by omega,fun x=>by omega,by omega,fun x _=>by rw[e5,e4];exact t.at_ c6 (by omega),fun x=>?_,fun x=>by omega,by rw[e3,e4];exact t.ky⟩
  ·simp_all
  ·have:=t.cl (by grind);omega
 unfold IM;by_cases c1:fS (J w).aB (J w).aB.length<=(J w).K
 ·rw[if_pos c1];refine h.still hl hw hc hJ (fun _ _=>rfl) ?_ ?_ (.inl (by simp)) (fun _=>tw (.inr (.inl ⟨rfl,rfl,by simp only;omega,rfl⟩)) ⟨rfl,rfl,rfl,rfl⟩) (.no (by simp)) (.no (by simp))
  ·rw[o.1,(tM (by simp)).1]
  ·rw[o.2,(tM (by simp)).2];exact fun _ x=>x
 rw[if_neg c1];obtain⟨q1,q2,q3,q4⟩:=aOK hb.1.1 hw s1 s2 s3 s4;have nF:∀{j':aE},(i4 b w (J w).Sub).1.Mem=b.Mem->j'.dF=(J w).dF->j'.Pc=6\/j'.Pc=16->TW Ky b.Mem k c (q w) j'->SbJ b w j'->uS Ky (i4 b w (J w).Sub).1 k c q (vS J w j'):=fun{j'} em en p' t' s'=>by
  have eb:(i4 b w (J w).Sub).1=b:=by
   cases hh:(i4 b w (J w).Sub).1 with
   | mk a1 a2 a3 a4 =>
    simp_all
  rw[eb];have o':=tM (j:=j') (by omega);exact h.still hl hw hc hJ (fun _ _=>rfl) (by grind) (by grind) (.inl (by omega)) (fun _=>t') (.no (by omega)) s'
 rcases q4 with ⟨em,⟨d,e⟩ | ⟨e1,e2⟩⟩ | ⟨d,e,wk,tk,kn⟩
 ·rw[if_neg (by grind),if_pos (.inl (by omega)),e];exact nF em rfl (.inr rfl) (tw (.inr (.inr ⟨rfl,rfl⟩)) ⟨rfl,rfl,rfl,rfl⟩) (.no (by simp[FD]))
 ·rw[if_pos (by grind)];exact nF em rfl (.inl hp) (tw (.inl ⟨hp,hn6.1,hn6.2,rfl⟩) ⟨rfl,rfl,rfl,rfl⟩) ⟨fun _=>by grind,by simp[hp],by simp[hp]⟩
 ·rw[if_neg (by grind),if_neg (by
   rintro(q | q | q)
   ·exact q e
   ·exact q wk.1.1
   ·omega)]
  generalize hx:(i4 b w (J w).Sub).2.Out=x at wk tk;generalize hr:(i4 b w (J w).Sub).1=b' at q1 q2 q3 kn wk tk;show uS Ky b' k c q (vS J w {J w with dF:=(J w).dF ++ [x],K:=(J w).K+1,Sub:=zG 1 16});have hx0:=(tK (eB wk.1.2.1)).1;have t':TW Ky b.Mem k c (q w) {J w with dF:=(J w).dF ++ [x],K:=(J w).K+1,Sub:=zG 1 16}:=tw (.inl ⟨hp,by simp;omega,by grind,rfl⟩) ⟨rfl,rfl,rfl,rfl⟩;have o':=tM (j:={J w with dF:=(J w).dF ++ [x],K:=(J w).K+1,Sub:=zG 1 16}) (.inl (by grind));have oth:Oth b b' k k c c J w {J w with dF:=(J w).dF ++ [x],K:=(J w).K+1,Sub:=zG 1 16} 0 (-1):=by
   refine⟨fun y hy hz=>?_,.inl rfl,.inl rfl,fun _ _ _=>⟨rfl,rfl⟩,.inl rfl,fun r hr=>.inl (by grind),fun y hy=>?_,fun z=>absurd z (by simp[hp]),fun v hv hn p=>by grind,by grind,fun _ _ _=>by rw[q2]⟩
   ·obtain⟨a1,a2⟩:=kn y hy hz;exact⟨a1,fun _=>a2⟩
   ·rw[o'.2] at hy;rcases fB.1 hy with hy | hy
    ·grind
    ·exact .inr (by rw[HQ.1 hy];exact tk.was)
  have chs:=fun i (hi:XD i)=>(oth.chn h hw hi (fun q=>((h.ch i hi).all 0 q).1.ne rfl)).2 rfl rfl;refine h.make hl hw hc hJ oth q3 (fun i hi=>(chs i hi).1) (fun i hi=>by rw[(chs i hi).2];exact h.key i hi) (fun s=>?_) (fun y hy=>?_) (fun _=>?_) (.no (by simp[hp])) ⟨fun _=>by simp[zG],by simp[hp],by simp[hp]⟩
  ·have u:=WR (J:=J) hw {J w with dF:=(J w).dF ++ [x],K:=(J w).K+1,Sub:=zG 1 16} s;rw[o.1,o'.1,WQ,OH,a3D] at u;have u2:=h.cnt s;by_cases q:x % 32=s
   ·rw[if_pos q] at u;have a1:ind b s=0:=SR (.inl (by rw[<-q];exact tk.was));have a2:ind b' s=1:=bAZ (by rw[<-q];exact tk.now) (by
     rw[q2,<-q];rintro⟨r,hr,hh,er⟩;exact tk.was (by rw[<-er];exact(hb.2 r hr).1.2.1))
    omega
   ·rw[if_neg q] at u;have a1:ind b' s=ind b s:=aJX (tk.rest s fun e=>q e.symm) (by rw[q2]);omega
  ·rw[o'.1] at hy;rcases fB.1 hy with hy | hy
   ·have hm:y∈own (J w):=by grind
    have w0:=h.ok w hw y hm;exact(kn y w0 (by omega)).1
   grind
  ·exact{t' with st:=fun q=>absurd q (by simp[hp]),cu:=fun q=>absurd q (by simp[hp]),fl:=fun q=>absurd q (by simp[hp]),ln:=fun q=>absurd q (by simp[hp])}
end
end Go.Gv
end
noncomputable section
namespace Go.Gv
theorem a8Q{z:List Int}(h:z=[0,0,0]){v:Int}(hv:j9 v):aVU z v=0:=by subst h;rcases(by omega:v=0\/v=1\/v=2) with rfl | rfl | rfl<;>rfl
noncomputable section
variable {Ky:List Int} {b:aC} {k:List bY} {c:Int->List Int} {q:Int->Nat} {J:Int->aE} {w:Int} (h:uS Ky b k c q J) (hl:∀v,j9 v->YT k v (J v)) (hw:j9 w) (hb:nC b) (hJ:∀v,j9 v->(J v).bX=true->JB (J v)) (hB:(J w).bX=true)
include h hl hw hb hJ hB
theorem aYC(hp:(J w).Pc=15):uS Ky (MN b w (J w)).1 k c q (vS J w (MN b w (J w)).2):=by
 have t:=h.tw w hw hB;have hj:=hJ w hw hB;have hc:=hb.1.2.1;have hk:=hj.k;have o1:∀{j':aE},j'.Pc=15->own j'=j'.bA.drop j'.K.toNat/\lA j'=[]:=fun{j'} q=>by simp[own,lA,aDO,q]
 have tw:∀{j':aE},j'.Pc=15\/j'.Pc=18->j'.aB=(J w).aB/\j'.Batch=(J w).Batch/\j'.At=(J w).At/\j'.Code=(J w).Code->TW Ky b.Mem k c (q w) j':=fun{j'} q ⟨e3,e4,e5,e6⟩=>by have cd:=t.cd;refine⟨by omega,fun x=>by omega,fun x=>by omega,fun x=>by omega,by rw[e3,e5];exact t.wl,fun x=>by omega,fun x=>by omega,fun x=>by omega,fun x=>by omega,fun x=>by omega,fun x=>by omega,fun x=>by omega,fun x=>by omega,fun x=>by omega,by omega,fun x _=>by rw[e5,e4];exact t.at_ (by omega) (by omega),fun x=>?_,fun x=>by omega,by rw[e3,e4];exact t.ky⟩;have:=t.cl (by grind);omega
 unfold MN;by_cases c1:((J w).bA.length:Int)<=(J w).K
 ·rw[if_pos c1];have o2:own {J w with Pc:=18}=[]/\lA {J w with Pc:=18}=[]:=FA (.inr (by simp));exact h.still hl hw hc hJ (fun _ _=>rfl) (by simp_all) (by grind) (.inl (by simp)) (fun _=>tw (.inr rfl) ⟨rfl,rfl,rfl,rfl⟩) (.no (by simp)) (.no (by simp))
 rw[if_neg c1];obtain⟨s0,s1,s2,s3,s4⟩:=(h.sb w hw).rt hp (by omega);have es:i4 b w (J w).Sub=vQ b w (J w).Sub:=by grind[i4]
 rw[es];have hi:(J w).K.toNat<(J w).bA.length:=by omega
 have eA:(J w).Sub.A=(J w).bA[(J w).K.toNat]:=by grind
 have eo:own (J w)=(J w).Sub.A :: (J w).bA.drop ((J w).K.toNat+1):=by simp_all
 have hm:(J w).Sub.A∈own (J w):=by grind
 have hn:=h.name hw hw hm;have hA:=h.ok w hw _ hm;have hi1:ind b ((J w).Sub.A % 32)=1:=by omega
 have hH:¬aQ b.aN ((J w).Sub.A % 32):=fun q=>by grind[SR]
 unfold vQ;rcases s4 with p0 | ⟨p1,e0,e1⟩
 ·rw[if_pos p0,if_neg (by simp[s2])];refine h.quiet hl hw hc hJ (cl:=b.aA) (fun _ _=>rfl) rfl (fun _ x=>x) (fun _ _ _=>.inl rfl) (fun _ _ _ p=>⟨p,rfl⟩) (K6 _) (fun _=>tw (.inl hp) ⟨rfl,rfl,rfl,rfl⟩) (.no (by simp[hp])) ⟨fun p=>absurd p (by simp[hp]),fun _ _=>⟨s0,s1,s2,s3,.inr ⟨rfl,hc.1.1,K6 _⟩⟩,fun p=>absurd p (by simp[hp])⟩
 ·rw[if_neg (by omega),if_pos p1,if_pos ⟨e0,e1⟩,if_pos ⟨hA.1,hH⟩,if_pos (by rfl)];have hL:=hb.1.2.2.1;obtain⟨A,B,f1,f2⟩:=aJW hL hw;have hf:∀r,r∈dQ (b.aN.set w.toNat ⟨dK b.aN w ++ [⟨(J w).Sub.A,(J w).Sub.E⟩]⟩)↔r∈dQ b.aN\/r=⟨(J w).Sub.A,(J w).Sub.E⟩:=fun r=>by grind
  have fin:∀{j':aE},j'.Pc=15->j'.K=(J w).K+1->j'.bA=(J w).bA->j'.aB=(J w).aB/\j'.Batch=(J w).Batch/\j'.At=(J w).At/\j'.Code=(J w).Code->(j'.K<j'.bA.length->j'.Sub.Pc=0)->SbJ {b with aN:=b.aN.set w.toNat ⟨dK b.aN w ++ [⟨(J w).Sub.A,(J w).Sub.E⟩]⟩} w j' ->
    uS Ky {b with aN:=b.aN.set w.toNat ⟨dK b.aN w ++ [⟨(J w).Sub.A,(J w).Sub.E⟩]⟩} k c q (vS J w j'):=fun{j'} q1 q2 q3 q4 q5 q6=>by
   have o':=o1 q1;have eo':own j'=(J w).bA.drop ((J w).K.toNat+1):=by(simp_all;omega)
   refine h.make hl hw hc hJ (y:=0) (z:=-1) ⟨fun x hx _=>⟨hx,fun _=>rfl⟩,.inl rfl,.inl rfl,fun i hi _=>⟨rfl,rfl⟩,.inl rfl,fun r hr=>?_,by grind,fun _ x z=>by omega,fun _ _ _ p=>⟨p,rfl⟩,K6 _,fun v hv hn=>ZY hL.1 hw hv hn _⟩ rfl h.ch h.key (fun s=>?_) (fun x hx=>h.ok w hw x (by grind)) (fun _=>tw (.inl q1) q4) (.no (by omega)) q6
   ·grind
   ·have u:=WR (J:=J) hw j' s;rw[eo,eo',OH] at u;have u2:=h.cnt s;by_cases q:(J w).Sub.A % 32=s
    ·rw[if_pos q] at u;have a2:ind {b with aN:=b.aN.set w.toNat ⟨dK b.aN w ++ [⟨(J w).Sub.A,(J w).Sub.E⟩]⟩} s=0:=SR (.inr ⟨⟨(J w).Sub.A,(J w).Sub.E⟩,(hf _).2 (.inr rfl),hA.1.1,q⟩);grind
    ·rw[if_neg q] at u;have a2:ind {b with aN:=b.aN.set w.toNat ⟨dK b.aN w ++ [⟨(J w).Sub.A,(J w).Sub.E⟩]⟩} s=ind b s:=aJX Iff.rfl ⟨fun⟨r,hr,x1,x2⟩=>by
      rcases(hf r).1 hr with a | rfl
      ·exact⟨r,a,x1,x2⟩
      grind,fun⟨r,hr,x⟩=>⟨r,(hf r).2 (.inl hr),x⟩⟩
     omega
  unfold SO;by_cases q:(J w).K+1<(J w).bA.length
  ·rw[if_pos q];exact fin hp rfl rfl ⟨rfl,rfl,rfl,rfl⟩ (fun _=>rfl) ⟨fun p=>absurd p (by simp[hp]),fun _ _=>⟨by grind,rfl,rfl,rfl,.inl rfl⟩,fun p=>absurd p (by simp[hp])⟩
  ·rw[if_neg q];exact fin hp rfl rfl ⟨rfl,rfl,rfl,rfl⟩ (fun x=>absurd x q) ⟨fun p=>absurd p (by simp[hp]),fun _ x=>absurd x q,fun p=>absurd p (by simp[hp])⟩
theorem a7C(hp:(J w).Pc=17):uS Ky (KX b w (J w)).1 k c q (vS J w (KX b w (J w)).2):=by
 have t:=h.tw w hw hB;have hj:=hJ w hw hB;have hc:=hb.1.2.1;have o:=tM (j:=J w) (.inr (.inr hp));have tw:∀{m':Mem} {j':aE},j'.Pc=17\/j'.Pc=18->j'.bA=(J w).bA/\j'.aB=(J w).aB/\j'.Batch=(J w).Batch/\j'.At=(J w).At/\j'.Code=(J w).Code->TW Ky m' k c (q w) j':=fun{m' j'} q ⟨e2,e3,e4,e5,e6⟩=>by have cd:=t.cd;refine⟨by omega,fun x=>by omega,fun x=>by rw[e2];exact t.oO (by omega),fun x=>by omega,by rw[e3,e5];exact t.wl,fun x=>by omega,fun x=>by omega,fun x=>by omega,fun x=>by omega,fun x=>by omega,fun x=>by omega,fun x=>by omega,fun x=>by omega,fun x=>by omega,by omega,fun x _=>by omega,fun x=>?_,fun x=>by omega,by rw[e3,e4];exact t.ky⟩;have:=t.cl (by grind);omega
 unfold KX;by_cases c1:(J w).dF.length=0
 ·rw[if_pos c1];have e0:=rY c1;have o2:own {J w with Pc:=18}=[]/\lA {J w with Pc:=18}=[]:=FA (.inr (by simp));exact h.still hl hw hc hJ (fun _ _=>rfl) (by grind) (by grind) (.inl (by simp)) (fun _=>tw (.inr rfl) ⟨rfl,rfl,rfl,rfl,rfl⟩) (.no (by simp)) (.no (by simp))
 rw[if_neg c1]
 match hN:(J w).dF,c1 with
 | x :: r,_=>
 have hm:x∈own (J w):=by grind
 have hA:=h.ok w hw x hm;have hn:=h.name hw hw hm;have hi1:ind b (x % 32)=1:=by omega
 have hH:¬aQ b.aN (x % 32):=fun q=>by grind[SR]
 show uS Ky (if aQ b.aN (x % 32) then b else {b with Mem:=aTJ b.Mem w x}) k c q (vS J w {J w with dF:=r});rw[if_neg hH];unfold aTJ;rw[if_pos hA.1];have kn:=aWE hb.1.1 hw hA.1;have o':own {J w with dF:=r}=r/\lA {J w with dF:=r}=r:=tM (j:={J w with dF:=r}) (.inr (.inr hp));have oth:Oth b {b with Mem:=rW b.Mem w x} k k c c J w {J w with dF:=r} 0 (x % 32):=⟨fun y hy hz=>⟨(kn y hy hz).1,fun _=>(kn y hy hz).2⟩,.inr (.inr ⟨x,hm,rfl⟩),.inl rfl,fun _ _ _=>⟨rfl,rfl⟩,.inr fun v hv hn hp' hpin y hy hs e=>by
   have:=XF hy.1 hA.1 e;subst this;exact(hs.2 w hw).1 (by grind),fun r hr=>.inl hr,fun y hy=>.inl (by grind),fun z=>absurd z (by simp[hp]),fun _ _ _ p=>⟨p,rfl⟩,K6 _,fun _ _ _=>rfl⟩
 have chs:=fun i (hi:XD i)=>(oth.chn h hw hi (fun q=>((h.ch i hi).all 0 q).1.ne rfl)).2 rfl rfl;have fst:∀s,s≠x % 32->eM (rW b.Mem w x) s=eM b.Mem s:=fun s hs=>aJS hb.1.1 hw hA.1 hs;have fz:=(ZW hb.1.1 hw hA.1).2.2.2;refine h.make hl hw hc hJ oth rfl (fun i hi=>(chs i hi).1) (fun i hi=>by rw[(chs i hi).2];exact h.key i hi) (fun s=>?_) (fun y hy=>?_) (fun _=>tw (.inl hp) ⟨rfl,rfl,rfl,rfl,rfl⟩) (.no (by simp[hp])) (.no (by simp[hp]))
 ·have u:=WR (J:=J) hw {J w with dF:=r} s;rw[o.1,o'.1,hN,OH] at u;have u2:=h.cnt s;by_cases q:x % 32=s
  ·rw[if_pos q] at u;grind[SR]
  ·rw[if_neg q] at u;have a2:ind {b with Mem:=rW b.Mem w x} s=ind b s:=aJX (by grind) Iff.rfl;omega
 ·rw[o'.1] at hy;have hm':y∈own (J w):=by grind
  refine(kn y (h.ok w hw y hm') fun e=>?_).1;have u:=hn.1;have:2<=csL (own (J w)) (x % 32):=by rw[o.1,hN,OH,if_pos rfl];grind[MP]
  omega
theorem aJY(hE:∀v,j9 v->(J v).Pc=3\/(J v).Pc=4->mF b.aA v->b.aA.aG<=(cW b.aA v).aG+1)(hp:(J w).Pc=21){j':aE}(hj':(dD b w (J w).Sub).2.cJ=true/\j'={J w with Pc:=19,Sub:=(dD b w (J w).Sub).2}\/(dD b w (J w).Sub).2.cJ=false/\j'={J w with Sub:=(dD b w (J w).Sub).2}) :
  uS Ky (dD b w (J w).Sub).1 k c q (vS J w j')/\((dD b w (J w).Sub).2.cJ=true->(dD b w (J w).Sub).2.Code=0):=by
 have t:=h.tw w hw hB;have hc:=hb.1.2.1;have hL:=hb.1.2.2.1;obtain⟨s1,s2,s3⟩:=(h.sb w hw).col hp;have p':j'.Pc=19\/j'.Pc=21:=by grind
 have tw:∀{m':Mem},TW Ky m' k c (q w) j':=fun{m'}=>by
  obtain⟨e1,e2,e3,e4,e5,e6⟩:j'.dF=(J w).dF/\j'.bA=(J w).bA/\j'.aB=(J w).aB/\j'.Batch=(J w).Batch/\j'.At=(J w).At/\j'.Code=(J w).Code:=by grind
  have cd:=t.cd;have at0:=t.at_;have hcol:=t.cl2 (.inr hp);have hbat:=(hJ w hw hB).ZX;have hat:=(hJ w hw hB).at_;have hcm:=hbat.1 hcol;rw[hcm] at hat;simp only[List.length_nil] at hat;refine⟨by omega,fun x=>by rw[e1];exact t.nO (by omega),fun x=>by rw[e2];exact t.oO (by omega),fun x=>by omega,by rw[e3,e5];exact t.wl,fun x=>by omega,fun x=>by omega,fun x=>by omega,fun x=>by omega,fun x=>by omega,fun x=>by omega,fun x=>by omega,fun x=>by omega,fun x=>by omega,by omega,fun x _=>by grind,fun x=>by omega,fun x=>by grind,by rw[e3,e4];exact t.ky⟩
 have o:=FA (j:=J w) (.inr (by omega));have o':=FA (j:=j') (.inr (by omega));have still:(dD b w (J w).Sub).1=b->(j'.Pc=21->a66 b.aA.aG (dK b.aN w) j'.Sub)->uS Ky (dD b w (J w).Sub).1 k c q (vS J w j'):=fun e q=>by rw[e];exact h.still hl hw hc hJ (fun _ _=>rfl) (by grind) (by grind) (.inl (by omega)) (fun _=>tw) (.no (by omega)) ⟨fun p=>by omega,fun p=>by omega,q⟩
 have sub':j'.Sub=(dD b w (J w).Sub).2:=by grind
 have nd:j'.Pc=21->(dD b w (J w).Sub).2.cJ=false:=fun q=>by grind
 have hrow:∀{i:Int},0<=i/\i<(dK b.aN w).length->KV (dK b.aN w) i∈dQ b.aN:=fun hi=>WH hL hw (aJA hi);rcases s3 with p0 | ⟨el,⟨p1,r0⟩ | ⟨p2,hB2,ha,hr⟩ | ⟨p3,ha,hr⟩⟩
 ·have e:dD b w (J w).Sub=(b,{(J w).Sub with Pc:=1,E:=b.aA.aG,Row:=0}):=by simp_all[dD]
  refine⟨still (by rw[e]) fun q=>?_,fun q=>by grind⟩;rw[sub',e];exact⟨s1,s2,.inr ⟨K6 _,.inl ⟨rfl,K6 _⟩⟩⟩
 ·by_cases q:rV (dK b.aN w) (J w).Sub.E (J w).Sub.Row.toNat<(dK b.aN w).length
  ·have e:dD b w (J w).Sub=(b,{(J w).Sub with Pc:=2,Row:=(rV (dK b.aN w) (J w).Sub.E (J w).Sub.Row.toNat:Int),B:=0,H:=(KV (dK b.aN w) (rV (dK b.aN w) (J w).Sub.E (J w).Sub.Row.toNat:Int)).Handle}):=by simp_all[dD]
   obtain⟨g1,g2⟩:=aTG q;refine⟨still (by rw[e]) fun _=>?_,fun z=>by grind⟩;rw[sub',e];refine⟨s1,s2,.inr ⟨el,.inr (.inl ⟨rfl,⟨K6 _,by simp⟩,⟨by simp,by grind,rfl⟩,?_⟩)⟩⟩;grind[aQ0]
  simp_all[dD,xD,if_neg]
 ·have hH:(J w).Sub.H≠0:=by have:=(hb.2 _ (hrow ⟨ha.1,ha.2.1⟩)).1.1;rw[ha.2.2] at this;grind[lW]
  have e:dD b w (J w).Sub=(b,{(J w).Sub with Pc:=if(J w).Sub.B=2 then 3 else 2,B:=(J w).Sub.B+1}):=by unfold dD;rw[if_neg (by omega),if_neg (by omega),if_pos p2,if_pos ⟨hB2,ha⟩,if_neg (by rw[a8Q h.hz hB2];omega)]
  refine⟨still (by rw[e]) fun _=>?_,fun z=>by grind⟩;rw[sub',e];refine⟨s1,s2,.inr ⟨el,.inr ?_⟩⟩;by_cases z:(J w).Sub.B=2
  ·exact .inr ⟨if_pos z,ha,hr⟩
  ·exact .inl ⟨if_neg z,by grind,ha,hr⟩
 ·have e:dD b w (J w).Sub=({b with Mem:=rW b.Mem w (J w).Sub.H,aN:=b.aN.set w.toNat ⟨(dK b.aN w).eraseIdx (J w).Sub.Row.toNat⟩},{(J w).Sub with Pc:=1,Out:=bE ((J w).Sub.Out+1)}):=by simp_all[dD]
  refine⟨?_,fun z=>by grind⟩;have hi:0<=(J w).Sub.Row/\(J w).Sub.Row<(dK b.aN w).length:=⟨ha.1,ha.2.1⟩;have hrm:=hrow hi;generalize hrr:KV (dK b.aN w) (J w).Sub.Row=r at hrm hr;have eH:r.Handle=(J w).Sub.H:=by rw[<-hrr];exact ha.2.2
  have hv:=(hb.2 r hrm).1;rw[<-eH] at e;have hHd:aQ b.aN (r.Handle % 32):=⟨r,hrm,hv.1,rfl⟩;have hil:(J w).Sub.Row.toNat<(dK b.aN w).length:=by omega
  have er:(dK b.aN w)[(J w).Sub.Row.toNat]=r:=by grind[aQ0]
  obtain⟨A,B,f1,f2⟩:=aJW hL hw;have hperm:=aI7 hil;rw[er] at hperm;have hpf:(dQ b.aN).Perm (r :: dQ (b.aN.set w.toNat ⟨(dK b.aN w).eraseIdx (J w).Sub.Row.toNat⟩)):=by grind
  have hnd:=(hpf.map FT).nodup_iff.1 hL.2.2.2;rw[K8,aDX] at hnd;have hheld:∀s,s≠r.Handle % 32->(aQ (b.aN.set w.toNat ⟨(dK b.aN w).eraseIdx (J w).Sub.Row.toNat⟩) s↔aQ b.aN s):=fun s hs=>⟨fun⟨x,hx,y⟩=>⟨x,hpf.mem_iff.2 (o7 _ hx),y⟩,fun⟨x,hx,y⟩=>⟨x,(jA.1 (hpf.mem_iff.1 hx)).resolve_left fun q=>hs (by grind),y⟩⟩;have kn:=aWE hb.1.1 hw hv;have fst:∀s,s≠r.Handle % 32->eM (rW b.Mem w r.Handle) s=eM b.Mem s:=fun s hs=>aJS hb.1.1 hw hv hs;have fz:=(ZW hb.1.1 hw hv).2.2.2;have hrip:r.aG<=(J w).Sub.E - 2:=by have:=hr.2;rw[aP (by have:=hr.1;omega) (by have:=hc.1.2;omega)] at this;exact this
  rw[e];show uS Ky {b with Mem:=rW b.Mem w r.Handle,aN:=b.aN.set w.toNat ⟨(dK b.aN w).eraseIdx (J w).Sub.Row.toNat⟩} k c q (vS J w j');generalize hb':({b with Mem:=rW b.Mem w r.Handle,aN:=b.aN.set w.toNat ⟨(dK b.aN w).eraseIdx (J w).Sub.Row.toNat⟩}:aC)=b';have m1:b'.Mem=rW b.Mem w r.Handle:=by rw[<-hb']
  have m2:b'.aN=b.aN.set w.toNat ⟨(dK b.aN w).eraseIdx (J w).Sub.Row.toNat⟩:=by rw[<-hb']
  have m3:b'.aA=b.aA:=by rw[<-hb']
  have m4:b'.qH=b.qH:=by rw[<-hb']
  have oth:Oth b b' k k c c J w j' 0 (r.Handle % 32):=⟨fun y hy hz=>by rw[m1];exact⟨(kn y hy hz).1,fun _=>(kn y hy hz).2⟩,.inr (.inl (SR (.inr hHd))),.inl rfl,fun _ _ _=>⟨rfl,rfl⟩,.inr fun v hv' hn hp' hpin y hy hs ez=>by
    have:=XF hy.1 hv ez;have:=hs.1 r hrm this.symm;have:=hE v hv' hp' hpin;omega,fun x hx=>.inl (by rw[m2] at hx;exact hpf.mem_iff.2 (o7 _ hx)),by rw[o'.2];simp,fun z=>by omega,fun _ _ _ p=>by rw[m3] at p ⊢;exact⟨p,rfl⟩,by rw[m3];exact K6 _,fun v hv' hn=>by rw[m2];exact ZY hL.1 hw hv' hn _⟩
  have chs:=fun i (hi:XD i)=>(oth.chn h hw hi (fun q=>((h.ch i hi).all 0 q).1.ne rfl)).2 rfl rfl;refine h.make hl hw hc hJ oth m4 (fun i hi=>(chs i hi).1) (fun i hi=>by rw[(chs i hi).2];exact h.key i hi) (fun s=>?_) (fun y hy=>by rw[o'.1] at hy;cases hy) (fun _=>tw) (.no (by omega)) ⟨fun p=>by omega,fun p=>by omega,fun q=>?_⟩
  ·have u:=WR (J:=J) hw j' s;rw[o.1,o'.1] at u;have u2:=h.cnt s;by_cases q:s=r.Handle % 32
   ·have a1:ind b s=0:=SR (.inr (q ▸ hHd));have a2:ind b' s=0:=SR (.inl (by rw[m1,q];exact fz));omega
   ·have a2:ind b' s=ind b s:=aJX (by rw[m1,fst s q]) (by rw[m2];exact hheld s q);omega
  ·rw[sub',e,m3];exact⟨s1,s2,.inr ⟨el,.inl ⟨rfl,ha.1⟩⟩⟩
end
end Go.Gv
end
noncomputable section
namespace Go.Gv
theorem a7D{l:List aS}{K:Int}(hK:0<=K)(h:K<l.length):fS l (K+1)=fS l K+if(l.getD K.toNat ⟨0,false,0⟩).FR then 0 else 1:=by
 have hi:K.toNat<l.length:=by omega
 unfold fS;rw[show(K+1).toNat=K.toNat+1 by omega,K9 hi,List.filter_append,C1,PR,kG hi,Option.getD_some];grind
theorem a3Q{l:List aS}{K:Int}(h:l.length<=K):fS l K=fS l l.length:=by grind[fS]
theorem a3R{n:gW}(h:aFZ n):Q9 n=n.Next:=by
 unfold Q9;rcases h.2.2 with e | e
 ·rw[e];split<;>rfl
 ·rw[if_pos e]
theorem aB3{j:aE}(h:9<=j.Pc/\j.Pc<=13):own j=j.dF.drop (fS j.aB j.K).toNat++j.bA/\lA j=j.dF.drop (fS j.aB j.K).toNat:=by unfold own lA aDO;grind
theorem ChT.last{m:Mem}{A:List Int}:∀{h:Int} {B:List Int} {x:Int},ChT m x (A++h :: B)->(∀a,A.getLast?=some a->(fT m a).Next=h)/\(A=[]->x=h):=by
 induction A with
 | nil=>exact fun h=>⟨fun a e=>by simp at e,fun _=>h.1⟩
 | cons a A ih =>
  intro h B x hc;refine⟨fun z e=>?_,fun e=>by cases e⟩;obtain⟨i1,i2⟩:=ih hc.2.2.2;grind
theorem ChT.cut{m m':Mem}{p:Int}(hp:fT m' p={fT m p with Next:=(fT m (fT m p).Next).Next})(ok:lI m' p):∀{A:List Int} {h:Int} {B:List Int} {x:Int},ChT m x (A++p :: h :: B)->(∀y∈A++B,lI m' y/\fT m' y=fT m y)->ChT m' x (A++p :: B)
 | [], h, B, x, hc, hk => by
  obtain⟨e1,a1,a2,e2,b1,b2,b3⟩:=hc;refine⟨e1,ok,?_,?_⟩
  ·rw[hp];exact⟨a2.1,a2.2.1,by rw[e2];exact b2.2.2⟩
  ·rw[hp,e2];exact b3.keep fun y hy=>hk y (by simp[hy])
 | a :: A, h, B, x, hc, hk => by obtain⟨a1,a2⟩:=hk a (by simp);exact⟨hc.1,a1,by rw[a2];exact hc.2.2.1,by rw[a2];exact hc.2.2.2.cut hp ok fun y hy=>hk y (by grind)⟩
noncomputable section
variable {Ky:List Int} {b:aC} {k:List bY} {c:Int->List Int} {q:Int->Nat} {J:Int->aE} {w:Int} (h:uS Ky b k c q J) (hl:∀v,j9 v->YT k v (J v)) (hw:j9 w) (hb:nC b) (hJ:∀v,j9 v->(J v).bX=true->JB (J v)) (hB:(J w).bX=true)
include h hl hw hb hJ hB
set_option maxHeartbeats 1000000 in
theorem a3S(hk2:k.length=2/\∀x∈k,BkV x)(hp:9<=(J w).Pc/\(J w).Pc<=13):∃c',uS Ky (E9 b k (J w)).1 (E9 b k (J w)).2.1 c' (upQ q w (qF Ky.length (q w) (J w))) (vS J w (E9 b k (J w)).2.2):=by
 have t:=h.tw w hw hB;have hj:=hJ w hw hB;have hc:=hb.1.2.1;have hk:=hj.k;have o:=aB3 hp;have hn7:=t.n7 (by omega);generalize hn:qF Ky.length (q w) (J w)=n;have eqw:upQ q w n w=n:=if_pos rfl;have hqv:∀v,v≠w->upQ q w n v=q v:=fun v hv=>if_neg hv;generalize upQ q w n=qn at eqw hqv ⊢;subst eqw;have hcd:(J w).Code=0:=by have:=t.cd;omega
 have tw:∀{m':Mem} {k':List bY} {c':Int->List Int} {j':aE},9<=j'.Pc/\j'.Pc<=14->j'.dF=(J w).dF/\j'.aB=(J w).aB/\j'.Batch=(J w).Batch/\j'.At=(J w).At/\j'.Code=(J w).Code/\j'.aQ=(J w).aQ->(j'.Pc<=13->(j'.bA.length:Int)<=if j'.Pc<=11 then j'.K else j'.K+1)->(10<=j'.Pc/\j'.Pc<=13->j'.K<j'.aB.length) ->
   (j'.Pc=10\/j'.Pc=11->∃A B,c' (bi j')=A++j'.H :: B/\(j'.dB=A.getLastD 0/\∀a∈A,(fT m' a).Key≠(rX j').Key)/\(j'.Pc=10->B.length<=qn w))->(j'.Pc=11->j'.Node=fT m' j'.H/\j'.Node.Key=(rX j').Key)->(j'.Pc=12\/j'.Pc=13->(rX j').FR=false/\∀a∈c' (bi j'),(fT m' a).Key≠(rX j').Key)->(j'.Pc=13->fT m' (FJ j')=⟨(rX j').Key,(rX j').dO,(iP k' (bi j')).Head⟩)->TW Ky m' k' c' (qn w) j':=
  fun{m' k' c' j'} q ⟨e1,e3,e4,e5,e6,e7⟩ q1 q2 q3 q4 q5 q6=>by
  refine⟨by omega,fun x=>by omega,fun x=>by omega,fun x=>by omega,by rw[e3,e5];exact t.wl,fun x=>by omega,fun x=>⟨by grind,fun _=>q1 x.2⟩,fun x=>by omega,fun x=>by rw[e3,e7];exact t.l8 (by omega),q2,q3,q4,q5,q6,by omega,fun x _=>by rw[e5,e4];exact t.at_ hcd (by omega),fun x=>?_,fun x=>by omega,by rw[e3,e4];exact t.ky⟩;have:=t.cl (by grind);omega
 have still:∀{j':aE},own j'=own (J w)->lA j'=lA (J w)\/lA j'=[]->9<=j'.Pc/\j'.Pc<=14->TW Ky b.Mem k c (qn w) j'->uS Ky b k c qn (vS J w j'):=fun{j'} e1 e2 q t'=>
  h.aOM hl hw hc hJ hqv (fun _ _=>rfl) e1 (by grind) (.inl (by omega)) (fun _=>t') (.no (by omega)) (.no (by omega))
 unfold E9;by_cases c1:((J w).aB.length:Int)<=(J w).K
 ·rw[if_pos c1];grind[aGZ,a3Q,own,lA,aDO]
 rw[if_neg c1];have hi:(J w).K.toNat<(J w).aB.length:=by omega
 have er:rX (J w)=(J w).aB[(J w).K.toNat]:=by grind[rX]
 have hxm:rX (J w)∈(J w).aB:=by grind
 have hx:=hj.wr.2.1 _ hxm;have hbk:XD (oJ (rX (J w)).Key):=by unfold oJ;omega
 have hheld:=t.l8 (by omega) _ hxm;have hlk:(iP k (oJ (rX (J w)).Key)).gP=w+1:=((hl w hw).iff _ hbk).1 hheld;have hch:=h.ch _ hbk;have hkey:=h.key _ hbk;have hol:=hn7.2 (by omega);have hpl:fS (J w).aB ((J w).K+1)=fS (J w).aB (J w).K+if(rX (J w)).FR then 0 else 1:=a7D hk.1 (by omega);have p0:0<=fS (J w).aB (J w).K:=by grind[fS]
 generalize hi':oJ (rX (J w)).Key=i at hbk hheld hlk hch hkey;have ebi:bi (J w)=i:=hi';have place:∀{b':aC} {k':List bY} {c':Int->List Int} {j1:aE},j1.dF=(J w).dF/\j1.aB=(J w).aB/\j1.Batch=(J w).Batch/\j1.At=(J w).At/\j1.Code=(J w).Code/\j1.aQ=(J w).aQ/\j1.K=(J w).K->(j1.bA.length:Int)<=(J w).K+1->(∀a∈c' i,(fT b'.Mem a).Key≠(rX (J w)).Key)->TW Ky b'.Mem k' c' (qn w) (PO j1 (rX (J w)))/\lA (PO j1 (rX (J w)))=lA (J w)/\own (PO j1 (rX (J w)))=lA (J w)++j1.bA/\(9<=(PO j1 (rX (J w))).Pc/\(PO j1 (rX (J w))).Pc<=14):=
  fun{b' k' c' j1} ⟨e1,e3,e4,e5,e6,e7,e8⟩ q1 q2=>by
  have ew:∀{j2:aE},j2.aB=j1.aB->j2.K=j1.K->rX j2=rX (J w):=fun a a'=>by grind[rX]
  unfold PO;cases hd:(rX (J w)).FR
  ·rw[if_neg (by simp)];have o':=aB3 (j:={j1 with Pc:=12}) (by simp);simp only at o';refine⟨tw (by simp) ⟨e1,e3,e4,e5,e6,e7⟩ (fun _=>by simp;omega) (fun _=>by simp only;rw[e8,e3];omega) (by simp) (by simp) (fun _=>by
    have e2:rX {j1 with Pc:=12}=rX (J w):=ew rfl rfl;have e9:bi {j1 with Pc:=12}=i:=by unfold bi;rw[e2];exact hi'
    rw[e2,e9];exact⟨hd,q2⟩) (by simp),?_,?_,by simp⟩
   ·rw[o'.2,o.2,e1,e3,e8]
   ·rw[o'.1,o.2,e1,e3,e8]
  ·rw[if_pos rfl];have o':=aB3 (j:={j1 with Pc:=9,K:=j1.K+1}) (by simp);simp only at o';rw[hd,if_pos rfl,Int.add_zero] at hpl;refine⟨tw (by simp) ⟨e1,e3,e4,e5,e6,e7⟩ (fun _=>by simp;omega) (by simp) (by simp) (by simp) (by simp) (by simp),?_,?_,by simp⟩
   ·rw[o'.2,o.2,e1,e3,e8,hpl]
   ·rw[o'.1,o.2,e1,e3,e8,hpl]
 have vX:own (J w)=lA (J w)++(J w).bA:=by rw[o.1,o.2]
 by_cases p9:(J w).Pc=9
 ·rw[if_pos p9];rw[if_pos (by omega)] at hol;refine⟨c,?_⟩;by_cases q:(iP k i).Head=0
  ·rw[if_pos q];have hnil:c i=[]:=by
    match hci:c i,hch with
    | [],_=>rfl
    | x :: r,hch=>exact absurd (hch.1.symm.trans q) hch.2.1.ne
   obtain⟨a1,a2,a3,a4⟩:=place (b':=b) (k':=k) (c':=c) (j1:={J w with Pc:=10,H:=(iP k i).Head,dB:=0}) ⟨rfl,rfl,rfl,rfl,rfl,rfl,rfl⟩ (by simp only;omega) (by rw[hnil];simp);exact still (by rw[a3,vX]) (.inl a2) a4 a1
  ·rw[if_neg q];have o':=aB3 (j:={J w with Pc:=10,H:=(iP k i).Head,dB:=0}) (by simp);refine still (by rw[o'.1,o.1]) (.inl (by rw[o'.2,o.2])) (by simp) (tw (by simp) ⟨rfl,rfl,rfl,rfl,rfl,rfl⟩ (by simp;omega) (fun _=>by simp only;omega) (fun _=>?_) (by simp) (by simp) (by simp))
   match hci:c i,hch with
   | [],hch=>exact absurd hch q
   | x :: r, hch =>
    refine⟨[],r,?_,⟨rfl,by simp⟩,fun _=>?_⟩
    rotate_left
    ·have:=MO hkey.1 fun y hy=>(hkey.2 y hy).2;unfold pU at this;rw[hci,List.length_map,JO] at this;rw[<-hn];unfold qF;rw[if_pos (.inr p9)];omega
    show c (oJ (rX (J w)).Key)=_;rw[hi',hci,aG3];simp only;rw[hch.1]
 rw[if_neg p9];by_cases p10:(J w).Pc=10
 ·rw[if_pos p10];rw[if_pos (by omega)] at hol;refine⟨c,?_⟩;obtain⟨A,B,e1,⟨e2,e3⟩,e4⟩:=t.st (.inl p10);rw[ebi] at e1;rw[e1] at hch;have hH:=hch.split;have hok:=hH.2.1;rw[aTZ hok];by_cases q:(fT b.Mem (J w).H).Key=(rX (J w)).Key
  ·rw[if_pos q];have o':=aB3 (j:={J w with Pc:=11,Node:=fT b.Mem (J w).H}) (by simp);exact still (by rw[o'.1,o.1]) (.inl (by rw[o'.2,o.2])) (by simp) (tw (by simp) ⟨rfl,rfl,rfl,rfl,rfl,rfl⟩ (by simp;omega) (fun _=>by simp only;omega) (fun _=>⟨A,B,(show c (oJ (rX (J w)).Key)=_ by rw[hi'];exact e1),⟨e2,e3⟩,fun z=>absurd z (by simp)⟩) (fun _=>⟨rfl,q⟩) (by simp) (by simp))
  ·rw[if_neg q,a3R hH.2.2.1];by_cases q2:(fT b.Mem (J w).H).Next=0
   ·rw[if_pos q2];have hBn:B=[]:=by
     match B,hH.2.2.2 with
     | [],_=>rfl
     | x :: r,hq=>exact absurd (hq.1.symm.trans q2) hq.2.1.ne
    obtain⟨a1,a2,a3,a4⟩:=place (b':=b) (k':=k) (c':=c) (j1:={J w with Node:=fT b.Mem (J w).H}) ⟨rfl,rfl,rfl,rfl,rfl,rfl,rfl⟩ (by simp only;omega) (by
     rw[e1,hBn];intro a ha;rcases fB.1 ha with ha | ha
     ·exact e3 a ha
     ·rw[HQ.1 ha];exact q)
    exact still (by rw[a3,vX]) (.inl a2) a4 a1
   ·rw[if_neg q2];have o':=aB3 (j:={J w with H:=(fT b.Mem (J w).H).Next,dB:=(J w).H,Node:=fT b.Mem (J w).H}) hp;refine still (by rw[o'.1,o.1]) (.inl (by rw[o'.2,o.2])) (by simp only;omega) (tw (by simp only;omega) ⟨rfl,rfl,rfl,rfl,rfl,rfl⟩ (fun _=>by simp only;rw[if_pos (by omega)];exact hol) (fun _=>by simp only;omega) (fun _=>?_) (by simp[p10]) (by simp[p10]) (by simp[p10]))
    match B,hH.2.2.2,e1 with
    | [],hq,_=>exact absurd hq q2
    | x :: r, hq, e1 =>
     refine⟨A ++ [(J w).H],r,?_,⟨by simp,fun a ha=>?_⟩,fun _=>?_⟩
     rotate_left 2
     ·have:=e4 p10;rw[JO] at this;rw[<-hn];unfold qF;rw[if_neg (by omega),if_pos (.inr p10)];omega
     ·show c (oJ (rX (J w)).Key)=_;rw[hi',e1];simp only;rw[hq.1];simp
     ·rcases fB.1 ha with ha | ha
      ·exact e3 a ha
      ·rw[HQ.1 ha];exact q
 rw[if_neg p10];have heads:∀(x:Int) (i':Int),XD i'->(iP (k.set i.toNat {iP k i with Head:=x}) i').Head=if i'=i then x else(iP k i').Head:=fun x i' hi''=>by rw[OG hk2.1 hbk hi''];split<;>rfl
 have hno:∀{i':Int},XD i'->(iP k i').gP≠w+1->i'≠i:=fun _ q e=>q (e ▸ hlk);have ind0:∀{b':aC},(∀s,eM b'.Mem s=eM b.Mem s)->b'.aN=b.aN->∀s,ind b' s=ind b s:=fun e1 e2 s=>aJX (by rw[e1]) (by rw[e2]);by_cases p11:(J w).Pc=11
 ·rw[if_pos p11];rw[if_pos (by omega)] at hol;obtain⟨A,B,e1,⟨e2,e3⟩,_⟩:=t.st (.inr p11);rw[ebi] at e1;rw[e1] at hch hkey;have hH:=hch.split;have hok:=hH.2.1;obtain⟨n1,n2⟩:=t.cu p11;rw[n1,a3R hH.2.2.1];have hnd:=hkey.1;unfold pU at hnd;rw[uX,K8,List.nodup_append,aDX] at hnd;have hAB:∀a∈A++B,(fT b.Mem a).Key≠(rX (J w)).Key:=fun a ha q=>by
   rcases fB.1 ha with ha | ha
   ·exact e3 a ha q
   ·rw[<-n2,n1] at q;exact hnd.2.1.1 (UI.2 ⟨a,ha,q⟩)
  have hold:SN (J w)={J w with bA:=(J w).bA ++ [(J w).H]}:=by unfold SN;rw[if_pos ⟨hok.1.1,by have:=hj.wr.1;omega⟩]
  rw[hold];have hcl:csL (c i)=fun s=>csL (A++B) s+if(J w).H % 32=s then 1 else 0:=by funext s;rw[e1,WQ,OH,WQ];omega
  have cntx:∀{j':aE},own j'=lA (J w)++((J w).bA ++ [(J w).H])->∀s,cnC (upC c i (A++B)) s+cnO (vS J w j') s=ind b s:=fun{j'} e s=>by have u1:=a3E (c:=c) hbk (A++B) s;have u2:=WR (J:=J) hw j' s;rw[e,vX,WQ,WQ,WQ,OH,a3D] at u2;rw[hcl] at u1;have:=h.cnt s;simp only at u1;omega
  have okx:∀{j':aE} {b':aC},own j'=lA (J w)++((J w).bA ++ [(J w).H])->(∀x,lI b.Mem x->lI b'.Mem x)->∀x∈own j',lI b'.Mem x:=fun{j' b'} e q x hx=>by
   rw[e] at hx;refine q x ?_;rcases fB.1 hx with hx | hx
   ·exact h.ok w hw x (MQ h hw hx)
   ·rcases fB.1 hx with hx | hx
    ·exact h.ok w hw x (by rw[vX];exact aG2 _ hx)
    ·rw[HQ.1 hx];exact hok
  by_cases q:(J w).dB=0
  ·rw[if_pos q];have hA:A=[]:=by
    rcases Z2 A with rfl | ⟨L,z,rfl⟩
    ·rfl
    ·rw[aGY] at e1 e2 hch;rw[q] at e2;simp at e2;exact absurd e2.symm ((hch.all z (by simp)).1.ne)
   subst hA;simp only[aG3] at *;obtain⟨a1,a2,a3,a4⟩:=place (b':=b) (k':=k.set i.toNat {iP k i with Head:=(fT b.Mem (J w).H).Next}) (c':=upC c i B) (j1:={J w with bA:=(J w).bA ++ [(J w).H]}) ⟨rfl,rfl,rfl,rfl,rfl,rfl,rfl⟩ (by simp;omega) (by rw[IN];exact hAB);refine⟨upC c i B,h.aMK hl hw hqv hc hJ (y:=0) (z:=-1) ⟨fun x hx _=>⟨hx,fun _=>rfl⟩,.inl rfl,.inl rfl,fun i' hi'' hq=>⟨by rw[heads _ _ hi'',if_neg (hno hi'' hq)],SQ _ _ (hno hi'' hq)⟩,.inl rfl,fun r hr=>.inl hr,fun x hx=>.inl (by rw[a2] at hx;exact hx),fun z=>absurd a4.2 (by rw[show(PO _ _).Pc=15 from z];decide),fun _ _ _ p=>⟨p,rfl⟩,K6 _,fun _ _ _=>rfl⟩ rfl (fun i' hi''=>?_) (fun i' hi''=>?_) (cntx a3) (okx a3 fun _ x=>x) (fun _=>a1) (.no ⟨fun z=>absurd a4.1 (by rw[show(PO _ _).Pc=3 from z];decide),fun z=>absurd a4.1 (by rw[show(PO _ _).Pc=4 from z];decide)⟩) (.no ⟨fun z=>absurd a4.1 (by rw[show(PO _ _).Pc=6 from z];decide),fun z=>absurd a4.2 (by rw[show(PO _ _).Pc=15 from z];decide),fun z=>absurd a4.2 (by rw[show(PO _ _).Pc=21 from z];decide)⟩)⟩
   ·rw[heads _ _ hi''];by_cases z:i'=i
    ·rw[if_pos z,z,IN];exact hH.2.2.2
    ·rw[if_neg z,SQ _ _ z];exact h.ch i' hi''
   ·by_cases z:i'=i
    ·rw[z,IN];exact⟨hnd.2.1.2,fun x hx=>hkey.2 x (by unfold pU at hx ⊢;rw[K8];exact o7 _ hx)⟩
    ·rw[SQ _ _ z];exact h.key i' hi''
  ·rw[if_neg q];obtain⟨A',rfl⟩:∃A',A=A' ++ [(J w).dB]:=by
    rcases Z2 A with rfl | ⟨L,z,rfl⟩
    ·exact absurd e2 q
    ·rw[aGY] at e2 ⊢;exact⟨L,by rw[e2];simp⟩
   rw[qE,List.singleton_append] at e1 hch;have hpm:(J w).dB∈c i:=by rw[e1];simp
   have hpo:=hch.all (J w).dB (by simp);have hnx:(fT b.Mem (J w).dB).Next=(J w).H:=by have:=(ChT.last (A:=A' ++ [(J w).dB]) (h:=(J w).H) (B:=B) (by rw[qE,List.singleton_append];exact hch)).1 (J w).dB (by simp);exact this
   obtain⟨g1,g2,g3,g4⟩:=a64 hb.1.1 hpo.1 hH.2.2.1.2.2;generalize hm':Gv.aEC b.Mem (J w).dB (fT b.Mem (J w).H).Next=m' at g1 g2 g3 g4;have g2':fT m' (J w).dB={fT b.Mem (J w).dB with Next:=(fT b.Mem (fT b.Mem (J w).dB).Next).Next}:=by rw[hnx];exact g2
   have gk:∀x,lI b.Mem x->lI m' x/\(x≠(J w).dB->fT m' x=fT b.Mem x):=fun x hx=>by
    by_cases z:x % 32=(J w).dB % 32
    ·have:=XF hx.1 hpo.1.1 z;subst this;exact⟨g1,fun z=>absurd rfl z⟩
    ·exact⟨(g3 x hx z).1,fun _=>(g3 x hx z).2⟩
   have gkey:∀x,lI b.Mem x->(fT m' x).Key=(fT b.Mem x).Key:=fun x hx=>by
    by_cases z:x=(J w).dB
    ·rw[z,g2']
    ·rw[(gk x hx).2 z]
   have hall:∀a∈A' ++ [(J w).dB]++B,lI b.Mem a:=fun a ha=>(hch.all a (by simp only[fB,jA,HQ,PT,or_false] at ha ⊢;grind)).1;obtain⟨a1,a2,a3,a4⟩:=place (b':={b with Mem:=m'}) (k':=k) (c':=upC c i (A' ++ [(J w).dB]++B)) (j1:={J w with bA:=(J w).bA ++ [(J w).H]}) ⟨rfl,rfl,rfl,rfl,rfl,rfl,rfl⟩ (by simp;omega) (by
    rw[IN];exact fun a ha=>by rw[gkey a (hall a ha)];exact hAB a ha)
   have oth:Oth b {b with Mem:=m'} k k c (upC c i (A' ++ [(J w).dB]++B)) J w (PO {J w with bA:=(J w).bA ++ [(J w).H]} (rX (J w))) (J w).dB (-1):=
    ⟨fun x hx _=>gk x hx,.inl rfl,.inr (.inr ⟨⟨i,hbk,hlk,hpm⟩,g2',by rw[hnx];exact hok.ne⟩),fun i' hi'' hq=>⟨rfl,SQ _ _ (hno hi'' hq)⟩,.inl rfl,fun r hr=>.inl hr,fun x hx=>.inl (by rw[a2] at hx;exact hx),fun z=>absurd a4.2 (by rw[show(PO _ _).Pc=15 from z];decide),fun _ _ _ p=>⟨p,rfl⟩,K6 _,fun _ _ _=>rfl⟩
   have hnd2:=hkey.1;refine⟨_,h.aMK hl hw hqv hc hJ oth rfl (fun i' hi''=>?_) (fun i' hi''=>?_) (fun s=>by rw[cntx a3 s];exact(ind0 (b':={b with Mem:=m'}) g4 rfl s).symm) (okx a3 fun x hx=>(gk x hx).1) (fun _=>a1) (.no ⟨fun z=>absurd a4.1 (by rw[show(PO _ _).Pc=3 from z];decide),fun z=>absurd a4.1 (by rw[show(PO _ _).Pc=4 from z];decide)⟩) (.no ⟨fun z=>absurd a4.1 (by rw[show(PO _ _).Pc=6 from z];decide),fun z=>absurd a4.2 (by rw[show(PO _ _).Pc=15 from z];decide),fun z=>absurd a4.2 (by rw[show(PO _ _).Pc=21 from z];decide)⟩)⟩
   ·by_cases z:i'=i
    ·rw[z,IN,qE,List.singleton_append];have hdis:∀y∈A'++B,y≠(J w).dB:=fun y hy e=>by
      have hn:=hnd2;unfold pU at hn;rw[qE,uX,uX,K8,K8,List.nodup_append] at hn;rcases fB.1 hy with hy | hy
      ·exact hn.2.2 _ (UI.2 ⟨y,hy,rfl⟩) _ (by rw[e];simp) rfl
      ·exact(aDX.1 hn.2.1).1 (by rw[<-e];exact o7 _ (UI.2 ⟨y,hy,rfl⟩))
     exact hch.cut g2' g1 fun y hy=>by obtain⟨x1,x2⟩:=gk y (hall y (by simp only[fB,HQ] at hy ⊢;grind));exact⟨x1,x2 (hdis y hy)⟩
    ·have hy:(J w).dB∉c i':=fun hy=>by have u1:=aOL c hi'' hbk z ((J w).dB % 32);have u2:=MP hy;have u3:=MP hpm;have u4:=h.cnt ((J w).dB % 32);have u5:=aDR b ((J w).dB % 32);omega
     exact((oth.chn h hw hi'' hy).2 rfl (SQ _ _ z)).1
   ·by_cases z:i'=i
    ·rw[z,IN];have ek:pU m' (A' ++ [(J w).dB]++B)=pU b.Mem (A' ++ [(J w).dB]++B):=aDQ fun a ha=>gkey a (hall a ha);show(pU m' _).Nodup/\∀x∈pU m' _,_;rw[ek];have hsub:(pU b.Mem (A' ++ [(J w).dB]++B)).Sublist (pU b.Mem (A' ++ [(J w).dB]++(J w).H :: B)):=by unfold pU;exact List.Sublist.map _ (List.Sublist.append_left (List.sublist_cons_self ..) _)
     exact⟨hnd2.sublist hsub,fun x hx=>hkey.2 x (hsub.subset hx)⟩
    ·have hy:(J w).dB∉c i':=fun hy=>by have u1:=aOL c hi'' hbk z ((J w).dB % 32);have u2:=MP hy;have u3:=MP hpm;have u4:=h.cnt ((J w).dB % 32);have u5:=aDR b ((J w).dB % 32);omega
     rw[((oth.chn h hw hi'' hy).2 rfl (SQ _ _ z)).2];exact h.key i' hi''
 rw[if_neg p11];have hp2:(J w).Pc=12\/(J w).Pc=13:=by omega
 obtain⟨fd,fk⟩:=t.fl hp2;rw[ebi] at fk;obtain⟨nm,r,en,enr⟩:=aJV h hw t hj hp2;have hnw:=h.ok w hw _ (MQ h hw nm);have hname:=h.name hw hw (MQ h hw nm);have hnc:∀i',XD i'->FJ (J w)∉c i':=fun i' hi'' hm=>by have u1:=h.link hw hi'' hm;omega
 have hlen:¬((J w).dF.length:Int)<=fS (J w).aB (J w).K:=fun z=>by have:(J w).dF.drop (fS (J w).aB (J w).K).toNat=[]:=aGZ (by omega);rw[o.2,this] at nm;cases nm
 rw[if_neg hlen];have hbv:=hk2.2 _ (aV0 hk2.1 hbk);by_cases p12:(J w).Pc=12
 ·rw[if_pos p12];rw[if_neg (by omega)] at hol;obtain⟨g1,g2,g3,g4⟩:=bAW hb.1.1 hnw (n:=⟨(rX (J w)).Key,(rX (J w)).dO,(iP k i).Head⟩) ⟨hx.1,hx.2,hbv.1⟩;show ∃c',uS Ky {b with Mem:=aBZ b.Mem (FJ (J w)) ⟨(rX (J w)).Key,(rX (J w)).dO,(iP k i).Head⟩} k c' qn (vS J w {J w with Pc:=13});generalize aBZ b.Mem (FJ (J w)) ⟨(rX (J w)).Key,(rX (J w)).dO,(iP k i).Head⟩=m' at g1 g2 g3 g4;have gk:∀x,lI b.Mem x->lI m' x/\(x≠FJ (J w)->fT m' x=fT b.Mem x):=fun x hx=>by
   by_cases z:x % 32=FJ (J w) % 32
   ·have:=XF hx.1 hnw.1 z;subst this;exact⟨g1,fun z=>absurd rfl z⟩
   ·exact⟨(g3 x hx z).1,fun _=>(g3 x hx z).2⟩
  have o':own {J w with Pc:=13}=own (J w)/\lA {J w with Pc:=13}=lA (J w):=by rw[o.1,o.2];exact aB3 (j:={J w with Pc:=13}) (by simp)
  have oth:Oth b {b with Mem:=m'} k k c c J w {J w with Pc:=13} (FJ (J w)) (-1):=
   ⟨fun x hx _=>gk x hx,.inl rfl,.inr (.inl nm),fun _ _ _=>⟨rfl,rfl⟩,.inl rfl,fun r hr=>.inl hr,fun x hx=>.inl (by rw[o'.2] at hx;exact hx),fun z=>absurd z (by simp),fun _ _ _ p=>⟨p,rfl⟩,K6 _,fun _ _ _=>rfl⟩
  have chs:=fun i' (hi'':XD i')=>oth.chn h hw hi'' (hnc i' hi'');refine⟨c,h.aMK hl hw hqv hc hJ oth rfl (fun i' hi''=>((chs i' hi'').2 rfl rfl).1) (fun i' hi''=>by rw[((chs i' hi'').2 rfl rfl).2];exact h.key i' hi'') (fun s=>?_) (fun x hx=>(gk x (h.ok w hw x (by rw[o'.1] at hx;exact hx))).1) (fun _=>tw (by simp) ⟨rfl,rfl,rfl,rfl,rfl,rfl⟩ (fun _=>by simp;omega) (fun _=>by simp only;omega) (by simp) (by simp) (fun _=>⟨fd,fun a ha=>?_⟩) (fun _=>?_)) (.no (by simp)) (.no (by simp))⟩
  ·have u:=WR (J:=J) hw {J w with Pc:=13} s;rw[o'.1] at u;have u2:=h.cnt s;rw[ind0 (b':={b with Mem:=m'}) g4 rfl s];omega
  ·have ha':a∈c i:=by rw[show bi {J w with Pc:=13}=i from hi'] at ha;exact ha
   show(fT m' a).Key≠_;rw[((chs i hbk).1 a ha').2];exact fk a ha'
  ·show fT m' (FJ (J w))=⟨_,_,(iP k (oJ (rX (J w)).Key)).Head⟩;rw[hi'];exact g2
 ·rw[if_neg p12];have p13:(J w).Pc=13:=by omega
  rw[if_neg (by omega)] at hol;have ln:=t.ln p13;rw[ebi] at ln;rw[fd] at hpl;simp only[bT,if_false] at hpl;show ∃c',uS Ky b (k.set i.toNat {iP k i with Head:=FJ (J w)}) c' qn (vS J w {J w with Pc:=9,K:=(J w).K+1});have o':=aB3 (j:={J w with Pc:=9,K:=(J w).K+1}) (by simp);have er':(J w).dF.drop (fS (J w).aB ((J w).K+1)).toNat=r:=by rw[<-enr,hpl];congr 1
  simp only[er'] at o';have e0:lA (J w)=FJ (J w) :: r:=en;have oth:Oth b b k (k.set i.toNat {iP k i with Head:=FJ (J w)}) c (upC c i (FJ (J w) :: c i)) J w {J w with Pc:=9,K:=(J w).K+1} 0 (-1):=
   ⟨fun x hx _=>⟨hx,fun _=>rfl⟩,.inl rfl,.inl rfl,fun i' hi'' hq=>⟨by rw[heads _ _ hi'',if_neg (hno hi'' hq)],SQ _ _ (hno hi'' hq)⟩,.inl rfl,fun r hr=>.inl hr,fun x hx=>.inl (by rw[o'.2] at hx;rw[e0];exact o7 _ hx),fun z=>absurd z (by simp),fun _ _ _ p=>⟨p,rfl⟩,K6 _,fun _ _ _=>rfl⟩
  refine⟨upC c i (FJ (J w) :: c i),h.aMK hl hw hqv hc hJ oth rfl (fun i' hi''=>?_) (fun i' hi''=>?_) (fun s=>?_) (fun x hx=>h.ok w hw x ?_) (fun _=>tw (by simp) ⟨rfl,rfl,rfl,rfl,rfl,rfl⟩ (fun _=>by simp;omega) (by simp) (by simp) (by simp) (by simp) (by simp)) (.no (by simp)) (.no (by simp))⟩
  ·rw[heads _ _ hi''];by_cases z:i'=i
   ·rw[if_pos z,z,IN];exact⟨rfl,hnw,by rw[ln];exact⟨hx.1,hx.2,hbv.1⟩,by rw[ln];exact hch⟩
   ·rw[if_neg z,SQ _ _ z];exact h.ch i' hi''
  ·by_cases z:i'=i
   ·rw[z,IN];have ek:pU b.Mem (FJ (J w) :: c i)=(rX (J w)).Key :: pU b.Mem (c i):=by show(fT b.Mem (FJ (J w))).Key :: _=_;rw[ln];rfl
    rw[ek];refine⟨aDX.2 ⟨fun hm=>?_,hkey.1⟩,fun x hx=>?_⟩
    ·obtain⟨a,ha,e⟩:=UI.1 hm;exact fk a ha e
    ·rcases jA.1 hx with rfl | hx
     ·exact⟨hi',t.ky.1 _ hxm⟩
     ·exact hkey.2 x hx
   ·rw[SQ _ _ z];exact h.key i' hi''
  ·have u1:=a3E (c:=c) hbk (FJ (J w) :: c i) s;have u2:=WR (J:=J) hw {J w with Pc:=9,K:=(J w).K+1} s;rw[o'.1,vX,e0,WQ,WQ,OH] at u2;rw[OH] at u1;have:=h.cnt s;omega
  ·rw[vX,e0];rw[o'.1] at hx;simp only[fB,jA] at hx ⊢;exact hx.imp .inr id
end
end Go.Gv
end
noncomputable section
namespace Go.Gv
def sjT(j:aE):Job:=⟨j.bX,⟨if j.Pc=0 then 5 else if j.Pc=20\/j.Pc=21 then 4 else 3,0,0,0⟩,0,if j.Pc=21 then 1 else 0,j.Sub,0,0,0,0⟩
def EpT(c:aA)(J:Int->aE):Prop:=Ep c fun v=>sjT (J v)
theorem aQ8(J:Int->aE)(w:Int)(j:aE):(fun v=>sjT (vS J w j v))=upJ (fun v=>sjT (J v)) w (sjT j):=by grind[vS,upJ]
theorem aWK{j:aE}(h:j=dP\/j.Pc≠0/\j.Pc≠20/\(j.Pc=21->j.Sub.Kind=4)):Calm (sjT j):=by
 rcases h with rfl | ⟨h1,h2,h3⟩
 ·exact⟨fun q=>(by cases q.1),fun q=>(by cases q.1),fun q=>absurd q (by decide),fun q=>absurd q (by decide)⟩
 ·unfold Calm pT Adv sjT;grind
theorem aJZ{j:aE}(hb:j.bX=true)(h:j.Pc=0):pT (sjT j):=⟨hb,by simp[sjT,h],by simp[sjT,h]⟩
theorem a3T{j:aE}(hb:j.bX=true)(h:j.Pc=20):Adv (sjT j):=⟨hb,by simp[sjT,h],by simp[sjT,h]⟩
theorem aB4{j:aE}(h:j=dP\/j.Pc≠0):¬pT (sjT j):=fun q=>by
 rcases h with rfl | h
 ·cases q.1
 ·have:=q.2.1;unfold sjT at this;grind
theorem a3U{b:aC}{k:List bY}{w:Int}{j:aE}(h:1<=j.Pc/\j.Pc<=19):(JN b k w j).j=dP\/1<=(JN b k w j).j.Pc/\(JN b k w j).j.Pc<=19:=by
 have keep:∀{j':aE},(j'.Pc=j.Pc\/1<=j'.Pc/\j'.Pc<=19)->j'=dP\/1<=j'.Pc/\j'.Pc<=19:=fun q=>.inr (by omega);unfold JN;rw[if_neg (by omega)];refine dX (P:=fun r=>r.j=dP\/1<=r.j.Pc/\r.j.Pc<=19) (fun p=>keep (by grind[WJ,zI,FD,JM,aJF,aB0])) fun _=>dX (P:=fun r=>r.j=dP\/1<=r.j.Pc/\r.j.Pc<=19) (fun p=>keep (by grind[J1,zI,FD,JM,aJF,aB0])) fun _=>
  dX (P:=fun r=>r.j=dP\/1<=r.j.Pc/\r.j.Pc<=19) (fun p=>keep (by grind[IM,FD])) fun _=>dX (P:=fun r=>r.j=dP\/1<=r.j.Pc/\r.j.Pc<=19) (fun p=>keep (by grind[PJ,PI,FD])) fun _=>
  dX (P:=fun r=>r.j=dP\/1<=r.j.Pc/\r.j.Pc<=19) (fun p=>keep (by grind[X5,FD])) fun _=>dX (P:=fun r=>r.j=dP\/1<=r.j.Pc/\r.j.Pc<=19) (fun p=>keep (by grind[E9,PO,FD])) fun _=>
  dX (P:=fun r=>r.j=dP\/1<=r.j.Pc/\r.j.Pc<=19) (fun p=>keep (by grind[PK,SO])) fun _=>dX (P:=fun r=>r.j=dP\/1<=r.j.Pc/\r.j.Pc<=19) (fun p=>keep (by grind[MN,SO])) fun _=>
  dX (P:=fun r=>r.j=dP\/1<=r.j.Pc/\r.j.Pc<=19) (fun p=>keep (by grind[KX])) fun _=>dX (P:=fun r=>r.j=dP\/1<=r.j.Pc/\r.j.Pc<=19) (fun p=>.inr (by simp)) fun _=>dX (P:=fun r=>r.j=dP\/1<=r.j.Pc/\r.j.Pc<=19) (fun p=>.inl rfl) fun _=>.inr (by simp[FD])
noncomputable section
variable {b:aC} {k:List bY} {J:Int->aE} {w:Int} (hw:j9 w) (hc:JG b.aA) (h:EpT b.aA J) (hB:(J w).bX=true)
include hw hc h hB
theorem aQ9{cl:aA}(e:cl=b.aA)(hp:(J w).Pc≠0){j':aE}(hj:j'=dP\/j'.Pc≠0/\j'.Pc≠20/\(j'.Pc=21->j'.Sub.Kind=4)):EpT cl (vS J w j'):=by unfold EpT;rw[aQ8,e];exact h.still hw (aB4 (.inr hp)) (aWK hj)
theorem aON:((J w).Pc=0->(J w).Sub.Kind=5/\(J w).Sub.cJ=false/\((J w).Sub.Pc=0\/(J w).Sub.Pc=1/\(0<=(J w).Sub.E/\(J w).Sub.E<=b.aA.aG)\/(J w).Sub.Pc=2/\(cW b.aA w).aG=(J w).Sub.E)) /\
  ((J w).Pc=20->(J w).Sub.Kind=3/\(J w).Sub.cJ=false/\((J w).Sub.Pc=0\/(J w).Sub.E<=b.aA.aG/\((J w).Sub.Pc=1/\(0<=(J w).Sub.B/\(J w).Sub.B<=2)\/(J w).Sub.Pc=2/\(J w).Sub.B=3))):=by
 obtain⟨_,_,a,p⟩:=h.1 w hw hB;exact⟨fun q=>p (aJZ hB q),fun q=>a (a3T hB q)⟩
theorem bCY(hk6:(J w).Pc=6\/(J w).Pc=15/\(J w).K<(J w).bA.length->(J w).Sub.Kind=1\/(J w).Sub.Kind=2)(hk21:(J w).Pc=21->(J w).Sub.Kind=4)(hpc:0<=(J w).Pc/\(J w).Pc<=21):EpT (JN b k w (J w)).b.aA (vS J w (JN b k w (J w)).j):=by
 obtain⟨s0,s20⟩:=aON hw hc h hB;by_cases p0:(J w).Pc=0
 ·obtain⟨k5,d,_⟩:=s0 p0;have es:i4 b w (J w).Sub=yG b w (J w).Sub:=by grind[i4]
  have e:JN b k w (J w)=⟨(yG b w (J w).Sub).1,k,if(yG b w (J w).Sub).2.cJ then {J w with Pc:=1,Sub:=(yG b w (J w).Sub).2} else {J w with Sub:=(yG b w (J w).Sub).2},[]⟩:=by unfold JN;rw[if_pos (.inl p0)];grind[zJ]
  rw[e];unfold EpT;rw[aQ8];have:=h.pin hw (b:=b) rfl hc rfl (aJZ hB p0) (fin:=sjT {J w with Pc:=1,Sub:=(yG b w (J w).Sub).2}) (aWK (.inr (by simp)));rw[show(sjT (J w)).Sub=(J w).Sub from rfl] at this;cases hd:(yG b w (J w).Sub).2.cJ
  ·rw[hd,if_neg (by simp)] at this;rw[if_neg (by simp)];exact this
  grind
 by_cases p20:(J w).Pc=20
 ·obtain⟨k3,d,_⟩:=s20 p20;have es:i4 b w (J w).Sub=eZ b (J w).Sub:=by grind[i4]
  have e:JN b k w (J w)=⟨(eZ b (J w).Sub).1,k,if(eZ b (J w).Sub).2.cJ then {J w with Pc:=21,Sub:=zG 4 0} else {J w with Sub:=(eZ b (J w).Sub).2},[]⟩:=by unfold JN;rw[if_pos (.inr (.inl p20))];grind[zJ]
  rw[e];unfold EpT;rw[aQ8];have:=h.advance hw (b:=b) rfl hc rfl (a3T hB p20) (fin:=sjT {J w with Pc:=21,Sub:=zG 4 0}) (aWK (.inr (by simp[zG])));rw[show(sjT (J w)).Sub=(J w).Sub from rfl] at this;cases hd:(eZ b (J w).Sub).2.cJ
  ·rw[hd,if_neg (by simp)] at this;rw[if_neg (by simp)];exact this
  grind
 by_cases p21:(J w).Pc=21
 ·have hcl:=MM (b:=b) (w:=w) (s:=(J w).Sub) (by omega);have e:JN b k w (J w)=⟨(zJ b w (J w)).1,k,(zJ b w (J w)).2,[]⟩:=by simp_all[JN]
  grind[aQ9,aX2,zJ]
 by_cases p18:(J w).Pc=18
 ·have e:JN b k w (J w)=⟨{b with aA:=(JL b.aA w).1},k,{J w with Pc:=19},[]⟩:=by unfold JN;simp[p18]
  rw[e];unfold EpT;rw[aQ8];exact h.bCW hw hc (aB4 (.inr p0)) (aWK (.inr (by simp)))
 have hcl:(JN b k w (J w)).b.aA=b.aA:=by
  unfold JN;rw[if_neg (by omega)];refine dX (P:=fun r=>r.b.aA=b.aA) (fun p=>rfl) fun _=>dX (P:=fun r=>r.b.aA=b.aA) (fun p=>rfl) fun _=>dX (P:=fun r=>r.b.aA=b.aA) (fun p=>?_) fun _=>dX (P:=fun r=>r.b.aA=b.aA) (fun p=>rfl) fun _=>dX (P:=fun r=>r.b.aA=b.aA) (fun p=>rfl) fun _=>
   dX (P:=fun r=>r.b.aA=b.aA) (fun p=>by grind[E9]) fun _=>dX (P:=fun r=>r.b.aA=b.aA) (fun p=>rfl) fun _=>dX (P:=fun r=>r.b.aA=b.aA) (fun p=>?_) fun _=>dX (P:=fun r=>r.b.aA=b.aA) (fun p=>by grind[KX]) fun _=>dX (P:=fun r=>r.b.aA=b.aA) (fun p=>absurd p p18) fun _=>dX (P:=fun r=>r.b.aA=b.aA) (fun p=>rfl) fun _=>rfl
  ·have:=MM (b:=b) (w:=w) (s:=(J w).Sub) (by have:=hk6 (.inl p);omega);unfold IM;grind
  ·unfold MN;split
   ·rfl
   ·exact MM (by have:=hk6 (.inr ⟨p,by omega⟩);omega)
 grind[aQ9,a3U]
end
theorem a3V{c:aA}{J:Int->aE}{w:Int}(hw:j9 w)(h:EpT c J)(hn:J w=dP)(x:Batch)(s:Int):EpT c (vS J w (mE x s)):=by
 unfold EpT;rw[aQ8];have e:sjT (mE x s)=⟨true,⟨if x.Collect then 4 else 5,0,0,0⟩,0,0,if x.Collect then zG 3 0 else zG 5 0,0,0,0,0⟩:=by grind[sjT,mE]
 refine h.step hw rfl (fun _ _ _=>rfl) ?_ (fun _ o1 o2=>?_) (fun _=>.inl ?_)
 ·rw[e];intro _;grind[Adv,pT,zG]
 ·obtain⟨a1,a2⟩:=h.2 w hw (aB4 (.inl hn)) o1 o2;grind
 ·rw[e];cases x.Collect<;>rfl
end Go.Gv
end
noncomputable section
namespace Go.Gv
theorem uS.congr{Ky:List Int}{b:aC}{k:List bY}{c:Int->List Int}{q:Int->Nat}{J J':Int->aE}(h:uS Ky b k c q J)(e:∀v,j9 v->J' v=J v):uS Ky b k c q J':=by have e0:=e 0 (by simp[j9]);have e1:=e 1 (by simp[j9]);have e2:=e 2 (by simp[j9]);refine⟨h.hz,h.ch,h.key,fun s=>by unfold cnO;rw[e0,e1,e2];exact h.cnt s,fun v hv=>by rw[e v hv];exact h.ok v hv,fun v hv=>by rw[e v hv];exact h.tw v hv,fun v hv=>?_,fun v hv=>by rw[e v hv];exact h.sb v hv⟩;rw[e v hv];intro p q;obtain⟨r,⟨a,la⟩,z⟩:=h.rd v hv p q;exact⟨r,⟨⟨a.rp,a.nd,a.ky,fun x hx=>⟨(a.sf x hx).1,fun u hu=>by rw[e u hu];exact(a.sf x hx).2 u hu⟩⟩,la⟩,z⟩
noncomputable section
variable {Ky:List Int} {b:aC} {k:List bY} {c:Int->List Int} {q:Int->Nat} {J:Int->aE} {w:Int} (h:uS Ky b k c q J) (hl:∀v,j9 v->YT k v (J v)) (hw:j9 w) (hb:nC b) (hk:k.length=2/\∀x∈k,BkV x) (hJ:∀v,j9 v->(J v).bX=true->JB (J v)) (hB:(J w).bX=true) (hep:EpT b.aA J)
include h hl hw hb hk hJ hB hep
theorem bA0(hp:(J w).Pc=0\/(J w).Pc=20\/(J w).Pc=21):uS Ky (zJ b w (J w)).1 k c q (vS J w (zJ b w (J w)).2):=by
 have hc:=hb.1.2.1;obtain⟨s0,s20⟩:=aON hw hc hep hB;rcases hp with p | p | p
 ·obtain⟨k5,d,_⟩:=s0 p;have es:i4 b w (J w).Sub=yG b w (J w).Sub:=by grind[i4]
  unfold zJ;rw[es,if_pos p];by_cases z:(yG b w (J w).Sub).2.cJ=false
  ·rw[if_pos z];grind[a3M]
  ·rw[if_neg z];grind[a3M]
 ·obtain⟨k3,d,_⟩:=s20 p;have es:i4 b w (J w).Sub=eZ b (J w).Sub:=by grind[i4]
  unfold zJ;rw[es,if_neg (show ¬(J w).Pc=0 by omega),if_pos p];by_cases z:(eZ b (J w).Sub).2.cJ=false
  ·rw[if_pos z];grind[a3N]
  ·rw[if_neg z];grind[a3N]
 ·obtain⟨k4,d,_⟩:=(h.sb w hw).col p;have es:i4 b w (J w).Sub=dD b w (J w).Sub:=by simp_all[i4]
  have hE:∀v,j9 v->(J v).Pc=3\/(J v).Pc=4->mF b.aA v->b.aA.aG<=(cW b.aA v).aG+1:=fun v hv q hp=>(hep.2 v hv (aB4 (.inr (by omega))) hp.1 hp.2).1;unfold zJ;rw[es,if_neg (show ¬(J w).Pc=0 by omega),if_neg (show ¬(J w).Pc=20 by omega)];by_cases z:(dD b w (J w).Sub).2.cJ=false
  ·rw[if_pos z];exact(aJY h hl hw hb hJ hB hE p (.inr ⟨z,rfl⟩)).1
  ·rw[if_neg z];exact(aJY h hl hw hb hJ hB hE p (.inl ⟨by grind,rfl⟩)).1
theorem bCZ:∃c',uS Ky (JN b k w (J w)).b (JN b k w (J w)).k c' (upQ q w (qF Ky.length (q w) (J w))) (vS J w (JN b k w (J w)).j):=by
 have hc:=hb.1.2.1;have hpc:=(h.tw w hw hB).pc;have sm:((J w).Pc≠2/\(J w).Pc≠4/\(J w).Pc≠9/\(J w).Pc≠10)->∀{b':aC} {k':List bY} {j':aE},uS Ky b' k' c q (vS J w j')->∃c',uS Ky b' k' c' (upQ q w (qF Ky.length (q w) (J w))) (vS J w j'):=fun z {b' k' j'} s=>⟨c,by
  simp_all[qF,a3C]⟩
 unfold JN;generalize hq:upQ q w (qF Ky.length (q w) (J w))=q' at sm ⊢;refine dX (P:=fun r=>∃c',uS Ky r.b r.k c' q' (vS J w r.j)) (fun p=>sm (by omega) (bA0 h hl hw hb hk hJ hB hep p)) fun _=>dX (P:=fun r=>∃c',uS Ky r.b r.k c' q' (vS J w r.j)) (fun p=>sm (by omega) (a67 h hl hw hc hJ hB p)) fun _=>dX (P:=fun r=>∃c',uS Ky r.b r.k c' q' (vS J w r.j)) (fun p=>⟨c,hq ▸ a69 h hl hw hc hJ hB p⟩) fun _=>
  dX (P:=fun r=>∃c',uS Ky r.b r.k c' q' (vS J w r.j)) (fun p=>sm (by omega) (a3P h hl hw hb hJ hB p)) fun _=>dX (P:=fun r=>∃c',uS Ky r.b r.k c' q' (vS J w r.j)) (fun p=>sm (by omega) (a7A h hl hw hc hJ hB hk.1 p)) fun _=>dX (P:=fun r=>∃c',uS Ky r.b r.k c' q' (vS J w r.j)) (fun p=>sm (by omega) (bAY h hl hw hc hJ hB p)) fun _=>
  dX (P:=fun r=>∃c',uS Ky r.b r.k c' q' (vS J w r.j)) (fun p=>hq ▸ a3S h hl hw hb hJ hB hk p) fun _=>dX (P:=fun r=>∃c',uS Ky r.b r.k c' q' (vS J w r.j)) (fun p=>sm (by omega) (aYB h hl hw hc hJ hB hk.1 p)) fun _=>dX (P:=fun r=>∃c',uS Ky r.b r.k c' q' (vS J w r.j)) (fun p=>sm (by omega) (aYC h hl hw hb hJ hB p)) fun _=>
  dX (P:=fun r=>∃c',uS Ky r.b r.k c' q' (vS J w r.j)) (fun p=>sm (by omega) (a7C h hl hw hb hJ hB p)) fun _=>dX (P:=fun r=>∃c',uS Ky r.b r.k c' q' (vS J w r.j)) (fun p=>sm (by omega) (a3L h hl hw hc hJ hB p)) fun _=>dX (P:=fun r=>∃c',uS Ky r.b r.k c' q' (vS J w r.j)) (fun p=>sm (by omega) (a7B h hl hw hc hJ hB p)) fun _=>by omega
end
structure Sft (Ky:List Int) (q:Int->Nat) (t:Table):Prop where
 sv:∃c,uS Ky t.aC t.b8 c q (bK t)
 lk:aJP t
 ep:EpT t.aC.aA (bK t)
 qk:∀w,j9 w->∀b∈vU t w,∀x∈b.aY,x.Key∈Ky
theorem Ep.a3W{c:aA}{J J':Int->aE}(h:EpT c J)(e:∀v,j9 v->J' v=J v):EpT c J':=Ep.congr (J:=fun v=>sjT (J v)) h fun v hv=>by rw[e v hv]
theorem aGT{t:Table}(h3:t.aO.length=3){w:Int}(hw:j9 w){l:List aE}{x:aE}(hl:l=t.aO.set w.toNat x){v:Int}(hv:j9 v):l.getD v.toNat dP=vS (bK t) w x v:=aJQ h3 hl hw hv
theorem bA1{t:Table}(h3:t.dU.length=3){w v:Int}(hw:j9 w)(hv:j9 v)(l:List Batch):((t.dU.set w.toNat ⟨l⟩).getD v.toNat ⟨[]⟩).List=if v=w then l else vU t v:=by unfold vU;grind
def nxQ(Ky:List Int)(q:Int->Nat)(t:Table)(w:Int):Int->Nat:=if(bK t w).bX then upQ q w (qF Ky.length (q w) (bK t w)) else q
theorem Sft.step{Ky:List Int}{q:Int->Nat}{t:Table}(hv:TV t){w:Int}(hw:j9 w)(h:Sft Ky q t):Sft Ky (nxQ Ky q t w) (kP t w):=by
 have h3:=hv.K0.1;have hJ:∀v,j9 v->(bK t v).bX=true->JB (bK t v):=fun v hv' hB=>(hv.K0.2 _ (KZ h3 hv')).resolve_left fun e=>by rw[e] at hB;cases hB
 obtain⟨c,hs⟩:=h.sv;have hlk:=h.lk.step hv hw;have hc:=hv.base.1.2.1;unfold nxQ;unfold kP at hlk ⊢;by_cases hB:(bK t w).bX=true
 ·rw[if_pos hB] at hlk ⊢;rw[if_pos hB];obtain⟨c',q⟩:=bCZ hs h.lk hw hv.base hv.bk hJ hB h.ep;have e:∀v,j9 v->bK (KY t w (JN t.aC t.b8 w (bK t w))) v=vS (bK t) w (JN t.aC t.b8 w (bK t w)).j v:=fun v hv'=>aGT h3 hw rfl hv';have sb:=hs.sb w hw;refine⟨⟨c',q.congr e⟩,hlk,Ep.a3W (bCY hw hc h.ep hB (fun p=>?_) (fun p=>(sb.col p).1) (hs.tw w hw hB).pc) e,h.qk⟩;rcases p with p | ⟨p,p'⟩
  ·exact .inl (sb.al p).1
  ·exact .inr (sb.rt p p').2.1
 ·rw[if_neg hB] at hlk ⊢;rw[if_neg hB];by_cases hq:(vU t w).length=0\/t.aI=1000000
  ·grind
  ·rw[if_neg hq] at hlk ⊢;have hp0:0<(vU t w).length:=by omega
   have er:(vU t w).getD 0 ⟨false,[]⟩=(vU t w)[0]:=by grind
   have hm:(vU t w).getD 0 ⟨false,[]⟩∈vU t w:=by grind
   have hn:bK t w=dP:=(hv.K0.2 _ (KZ h3 hw)).resolve_right fun j=>hB j.busy;generalize (vU t w).getD 0 ⟨false,[]⟩=x at hm hlk;have e:∀v,j9 v->bK (M5 t w x) v=vS (bK t) w (mE x (t.aI+1)) v:=fun v hv'=>aGT h3 hw rfl hv';refine⟨⟨c,(a3O hs h.lk hw hc hJ hn (h.qk w hw x hm) _).congr e⟩,hlk,Ep.a3W (a3V hw h.ep hn x _) e,fun v hv' y hy z hz=>?_⟩;have ev:vU (M5 t w x) v=if v=w then(vU t w).drop 1 else vU t v:=bA1 hv.todo.1 hw hv' _;rw[ev] at hy;split at hy
   ·exact h.qk w hw y (Z6 hy) z hz
   ·exact h.qk v hv' y hy z hz
theorem Sft.zero{Ky:List Int}{l:List aL}(hk:∀q∈l,∀b∈q.List,∀x∈b.aY,x.Key∈Ky):Sft Ky (fun _=>0) (eO l):=by
 have ej:∀w,j9 w->bK (eO l) w=dP:=fun w hw=>by rcases(by omega:w=0\/w=1\/w=2) with rfl | rfl | rfl<;>rfl
 have eb:∀i,XD i->iP (eO l).b8 i=⟨0,0,0⟩:=fun i hi=>by rcases(by omega:i=0\/i=1) with rfl | rfl<;>rfl
 have o:own dP=[]:=(FA (.inl (by decide))).1;have e0:=ej 0 (by simp[j9]);have e1:=ej 1 (by simp[j9]);have e2:=ej 2 (by simp[j9]);refine⟨⟨fun _=>[],rfl,fun i hi=>by rw[eb i hi];rfl,fun i _=>by simp[pU],fun s=>?_,fun v hv x hx=>?_,fun v hv hB=>?_,fun v hv=>by rw[ej v hv];exact .no (by decide),fun v hv=>by rw[ej v hv];exact .no (by decide)⟩,aJP.zero l,?_,fun w hw b hb x hx=>?_⟩
 ·have:ind (eO l).aC s=0:=SR (.inl fun q=>by
   have hc:=eB q;obtain⟨h1,h2,_⟩:=tK hc;have h3:=jR.1 (show 0<cM (cV aVW (s / 4).toNat) from Int.lt_of_le_of_lt (by omega) h2);rcases(by omega:(s / 4).toNat=0\/(s / 4).toNat=1\/(s / 4).toNat=2\/(s / 4).toNat=3\/(s / 4).toNat=4\/(s / 4).toNat=5) with e | e | e | e | e | e<;>rw[e] at h3<;>exact absurd h3.1 (by decide))
  simp_all[cnC,cnO]
 ·grind
 ·rw[ej v hv] at hB;cases hB
 ·refine⟨fun w hw hB=>?_,fun w hw _ o1=>?_⟩
  ·have hB':(sjT (bK (eO l) w)).bX=true:=hB;rw[ej w hw] at hB';cases hB'
  ·rcases(by omega:w=0\/w=1\/w=2) with rfl | rfl | rfl<;>cases o1
 grind[vU,eO]
end Go.Gv
end
noncomputable section
namespace Go.Gv
def SS(e:Int)(s:Sub):Int:=if s.Pc=0 then 3 else if s.Pc=1 then(if s.E=e then 2 else 5) else if s.E=e then 1 else 4
def PL(s:Sub):Int:=if s.Pc=0 then 5 else if s.Pc=1 then 4 - s.B else 1
def SU(s:Sub):Int:=if s.Pc=0 then 8 else if s.Pc=1 then 7 else if s.Pc=2 then 6 - s.B else 3
def cB(e:Int)(q:Nat)(j:aE):Int:=
 if j.bX=false then 0
 else if j.Pc=0 then SS e j.Sub+j.Batch.aY.length*42+15
 else if j.Pc=1 then(j.Batch.aY.length - j.At)*19+j.Batch.aY.length*23+15
 else if j.Pc=2 then(j.Batch.aY.length - j.At)*19 - 1+j.Batch.aY.length*23+15
 else if j.Pc=3 then(j.Batch.aY.length - j.At - 1)*19+2*q+3+j.Batch.aY.length*23+15
 else if j.Pc=4 then(j.Batch.aY.length - j.At - 1)*19+2*q+2+j.Batch.aY.length*23+15
 else if j.Pc=5 then(j.Batch.aY.length - j.At - 1)*19+1+j.Batch.aY.length*23+15
 else if j.Pc=6 then(if j.K<fS j.aB j.aB.length then 4*(fS j.aB j.aB.length - j.K) - j.Sub.Pc else 0)+j.aB.length*19+14
 else if j.Pc=7 then(if j.K<(qI j.aB).length then 13 - j.K else 11)+j.aB.length*19
 else if j.Pc=8 then(if j.K<j.Reads.length then(j.Reads.length:Int) - j.K else 0)+6+j.aQ.length+j.aB.length*19
 else if j.Pc=9 then(if j.K<j.aB.length then((j.aB.length:Int) - j.K)*19 else 0)+5+7*j.bA.length+j.aQ.length
 else if j.Pc=10 then(j.aB.length - j.K)*19 - 3+q+7*j.bA.length+j.aQ.length
 else if j.Pc=11 then(j.aB.length - j.K)*19 - 4+7*j.bA.length+j.aQ.length
 else if j.Pc=12 then(j.aB.length - j.K)*19 - 12+7*j.bA.length+j.aQ.length
 else if j.Pc=13 then(j.aB.length - j.K)*19 - 13+7*j.bA.length+j.aQ.length
 else if j.Pc=14 then 4+7*j.bA.length+j.aQ.length
 else if j.Pc=15 then(if j.K<j.bA.length then 3+7*(j.bA.length - j.K) - j.Sub.Pc else 3)
 else if j.Pc=16 then 4+j.dF.length+j.aQ.length
 else if j.Pc=17 then 3+j.dF.length
 else if j.Pc=18 then 2
 else if j.Pc=19 then 1
 else if j.Pc=20 then PL j.Sub+8
 else SU j.Sub
noncomputable section
variable {e:Int} {q:Nat} {j:aE} (hB:j.bX=true)
include hB
theorem jc0(hp:j.Pc=0):cB e q j=SS e j.Sub+j.Batch.aY.length*42+15:=by simp_all[cB]
theorem jc1(hp:j.Pc=1):cB e q j=(j.Batch.aY.length - j.At)*19+j.Batch.aY.length*23+15:=by simp_all[cB]
theorem jc2(hp:j.Pc=2):cB e q j=(j.Batch.aY.length - j.At)*19 - 1+j.Batch.aY.length*23+15:=by simp_all[cB]
theorem jc3(hp:j.Pc=3):cB e q j=(j.Batch.aY.length - j.At - 1)*19+2*q+3+j.Batch.aY.length*23+15:=by simp_all[cB]
theorem jc4(hp:j.Pc=4):cB e q j=(j.Batch.aY.length - j.At - 1)*19+2*q+2+j.Batch.aY.length*23+15:=by simp_all[cB]
theorem jc5(hp:j.Pc=5):cB e q j=(j.Batch.aY.length - j.At - 1)*19+1+j.Batch.aY.length*23+15:=by simp_all[cB]
theorem jc6(hp:j.Pc=6):cB e q j=(if j.K<fS j.aB j.aB.length then 4*(fS j.aB j.aB.length - j.K) - j.Sub.Pc else 0)+j.aB.length*19+14:=by simp_all[cB]
theorem jc7(hp:j.Pc=7):cB e q j=(if j.K<(qI j.aB).length then 13 - j.K else 11)+j.aB.length*19:=by simp_all[cB]
theorem jc8(hp:j.Pc=8):cB e q j=(if j.K<j.Reads.length then(j.Reads.length:Int) - j.K else 0)+6+j.aQ.length+j.aB.length*19:=by simp_all[cB]
theorem jc9(hp:j.Pc=9):cB e q j=(if j.K<j.aB.length then((j.aB.length:Int) - j.K)*19 else 0)+5+7*j.bA.length+j.aQ.length:=by simp_all[cB]
theorem a7F(hp:j.Pc=10):cB e q j=(j.aB.length - j.K)*19 - 3+q+7*j.bA.length+j.aQ.length:=by simp_all[cB]
theorem bA2(hp:j.Pc=11):cB e q j=(j.aB.length - j.K)*19 - 4+7*j.bA.length+j.aQ.length:=by simp_all[cB]
theorem bA3(hp:j.Pc=12):cB e q j=(j.aB.length - j.K)*19 - 12+7*j.bA.length+j.aQ.length:=by simp_all[cB]
theorem bA4(hp:j.Pc=13):cB e q j=(j.aB.length - j.K)*19 - 13+7*j.bA.length+j.aQ.length:=by simp_all[cB]
theorem a7G(hp:j.Pc=14):cB e q j=4+7*j.bA.length+j.aQ.length:=by simp_all[cB]
theorem aT0(hp:j.Pc=15):cB e q j=(if j.K<j.bA.length then 3+7*(j.bA.length - j.K) - j.Sub.Pc else 3):=by simp_all[cB]
theorem a3X(hp:j.Pc=16):cB e q j=4+j.dF.length+j.aQ.length:=by simp_all[cB]
theorem bA5(hp:j.Pc=17):cB e q j=3+j.dF.length:=by simp_all[cB]
theorem a7H(hp:j.Pc=18):cB e q j=2:=by simp_all[cB]
theorem a7I(hp:j.Pc=19):cB e q j=1:=by simp_all[cB]
theorem a3Y(hp:j.Pc=20):cB e q j=PL j.Sub+8:=by simp_all[cB]
theorem aT1(hp:j.Pc=21):cB e q j=SU j.Sub:=by simp_all[cB]
end
def kC(b:aC)(w:Int):Int:=(dK b.aN w).length
theorem aB5{x:Sub}{A B:aE}(h:x.cJ=false):(if x.cJ=false then A else B)=A:=if_pos h
theorem aMM{j:aE}(hj:JB j):j.aQ.length<=2:=by
 have:=MO (l:=j.aQ) (m:=[0,1]) hj.held.2 fun x hx=>by have:=hj.held.1 x hx;simp;omega
 omega
noncomputable section
variable {Ky:List Int} {b:aC} {k:List bY} {c:Int->List Int} {q:Int->Nat} {J:Int->aE} {w:Int} (hK:Ky.length<=8) (h:uS Ky b k c q J) (hl:∀v,j9 v->YT k v (J v)) (hw:j9 w) (hb:nC b) (hk:k.length=2/\∀x∈k,BkV x) (hJ:∀v,j9 v->(J v).bX=true->JB (J v)) (hB:(J w).bX=true) (hep:EpT b.aA J)
include hK h hl hw hb hk hJ hB hep
theorem aOO{e:Int}{n:Nat}{j':aE}{x:Int}(hn:j'.dF.length<=(J w).aB.length/\j'.aQ.length<=2):cB e n (FD j' x)<=6+(J w).aB.length:=by
 cases hb':j'.bX
 ·unfold cB;rw[if_pos (show(FD j' x).bX=false from hb')];omega
 grind[a3X,FD]
theorem aRA{e:Int}{n:Nat}{j:aE}{v:Int}{is:Bool}(h1:1<=j.Pc/\j.Pc<=5)(t:TW Ky b.Mem k c n j)(hj:JB j)(ha:AL j):cB e n (JM j (fK j) v is)<=(j.Batch.aY.length - j.At - 1)*19+j.Batch.aY.length*23+15:=by
 obtain⟨t1,t2⟩:=aTY t hj h1 ha v is;have hat:(JM j (fK j) v is).At=j.At+1/\(JM j (fK j) v is).Batch=j.Batch/\(JM j (fK j) v is).bX=j.bX:=by
  have hm:=aB2 j.aB ⟨(fK j).Key,false,UB (if is then v else 0) (fK j).dO⟩;have:=t.wl;have:=hj.ZX.2.1;unfold AL at ha;unfold JM;split
  ·unfold aJF zI aB0;grind
  ·exact⟨rfl,rfl,rfl⟩
 rw[jc1 (hat.2.2.trans hj.busy) t2,hat.1,hat.2.1];omega
theorem a3Z(hp:(J w).Pc=0\/(J w).Pc=20\/(J w).Pc=21):cB (zJ b w (J w)).1.aA.aG (q w) (zJ b w (J w)).2+5*kC (zJ b w (J w)).1 w+1<=cB b.aA.aG (q w) (J w)+5*kC b w/\((zJ b w (J w)).1.aA.aG=b.aA.aG\/(J w).Pc=20/\(zJ b w (J w)).2.Pc=21):=by
 have hc:=hb.1.2.1;have hj:=hJ w hw hB;have hat:=hj.at_;obtain⟨s0,s20⟩:=aON hw hc hep hB;rcases hp with p | p | p
 ·obtain⟨k5,d,s⟩:=s0 p;have es:i4 b w (J w).Sub=yG b w (J w).Sub:=by simp_all[i4]
  obtain⟨cl,e,e1,e2⟩:=a3H hc hw (J w).Sub;unfold zJ;rw[es,if_pos p,jc0 hB p];have hr:kC (yG b w (J w).Sub).1 w=kC b w:=by rw[e];rfl
  have he:(yG b w (J w).Sub).1.aA.aG=b.aA.aG:=by grind
  simp only[hr,he];refine⟨?_,.inl trivial⟩;rcases s with z | ⟨z,z1,z2⟩ | ⟨z,z1⟩
  ·have e3:(yG b w (J w).Sub).2={(J w).Sub with Pc:=1,E:=b.aA.aG}:=by unfold yG;grind
   rw[e3,aB5 (by exact d),jc0 (by exact hB) (by exact p)];grind[SS]
  ·have e3:(yG b w (J w).Sub).2={(J w).Sub with Pc:=2}:=by simp_all[PH,yG]
   rw[e3,aB5 (by exact d),jc0 (by exact hB) (by exact p)];grind[SS]
  ·by_cases y:b.aA.aG=(J w).Sub.E
   ·have e3:(yG b w (J w).Sub).2=xD (J w).Sub 0:=by unfold yG;grind
    rw[e3,if_neg (by simp[xD]),jc1 (by exact hB) rfl];grind[SS]
   ·have e3:(yG b w (J w).Sub).2={(J w).Sub with Pc:=0}:=by unfold yG;grind
    rw[e3,aB5 (by exact d),jc0 (by exact hB) (by exact p)];unfold SS;grind
 ·obtain⟨k3,d,s⟩:=s20 p;have es:i4 b w (J w).Sub=eZ b (J w).Sub:=by grind[i4]
  have hr:kC (eZ b (J w).Sub).1 w=kC b w:=by obtain⟨cl,e,_⟩:=a3I hc (J w).Sub;rw[e];rfl
  unfold zJ;rw[es,if_neg (show ¬(J w).Pc=0 by omega),if_pos p,a3Y hB p];simp only[hr];have dn:∀{x:Sub} {b':aC},x.cJ=true->1<=PL (J w).Sub->cB b'.aA.aG (q w) (if x.cJ=false then {J w with Sub:=x} else {J w with Pc:=21,Sub:=zG 4 0})+5*kC b w+1<=PL (J w).Sub+8+5*kC b w/\(b'.aA.aG=b.aA.aG\/(J w).Pc=20/\(if x.cJ=false then {J w with Sub:=x} else {J w with Pc:=21,Sub:=zG 4 0}).Pc=21):=fun{x b'} hx h1=>by rw[if_neg (by simp[hx]),aT1 (by exact hB) rfl];grind[SU,zG]
  rcases s with z | ⟨_,⟨z,z1⟩ | ⟨z,z1⟩⟩
  ·have e3:eZ b (J w).Sub=(b,{(J w).Sub with Pc:=1,E:=b.aA.aG,B:=0}):=by simp_all[eZ]
   rw[e3,aB5 (by exact d),a3Y (by exact hB) (by exact p)];grind[PL]
  ·by_cases y:(FV b.aA (J w).Sub.B (J w).Sub.E).2=true
   ·have e3:eZ b (J w).Sub=({b with aA:=(FV b.aA (J w).Sub.B (J w).Sub.E).1},{(J w).Sub with Pc:=if(J w).Sub.B=2 then 2 else 1,B:=(J w).Sub.B+1}):=by simp_all[eZ]
    rw[e3,aB5 (by exact d),a3Y (by exact hB) (by exact p)];grind[aJE,PL]
   ·have e3:(eZ b (J w).Sub).2=xD (J w).Sub 8:=by simp_all[eZ]
    rw[e3];exact dn rfl (by unfold PL;omega)
  ·have e3:(eZ b (J w).Sub).2.cJ=true:=by unfold eZ;rw[if_neg (by omega),if_neg (by omega),if_pos z];rfl
   exact dn e3 (by simp_all[PL])
 ·obtain⟨k4,d,s⟩:=(h.sb w hw).col p;have es:i4 b w (J w).Sub=dD b w (J w).Sub:=by simp_all[i4]
  have hcl:(dD b w (J w).Sub).1.aA=b.aA:=by grind[MM]
  unfold zJ;rw[es,if_neg (show ¬(J w).Pc=0 by omega),if_neg (show ¬(J w).Pc=20 by omega),aT1 hB p];simp only[hcl];refine⟨?_,.inl trivial⟩;rcases s with z | ⟨_,⟨z,r0⟩ | ⟨z,hB2,ha,hr⟩ | ⟨z,ha,hr⟩⟩
  ·have e:dD b w (J w).Sub=(b,{(J w).Sub with Pc:=1,E:=b.aA.aG,Row:=0}):=by simp_all[dD]
   rw[e,aB5 (by exact d),aT1 (by exact hB) (by exact p)];grind[SU]
  ·by_cases y:rV (dK b.aN w) (J w).Sub.E (J w).Sub.Row.toNat<(dK b.aN w).length
   ·have e:dD b w (J w).Sub=(b,{(J w).Sub with Pc:=2,Row:=(rV (dK b.aN w) (J w).Sub.E (J w).Sub.Row.toNat:Int),B:=0,H:=(KV (dK b.aN w) (rV (dK b.aN w) (J w).Sub.E (J w).Sub.Row.toNat:Int)).Handle}):=by simp_all[dD]
    rw[e,aB5 (by exact d),aT1 (by exact hB) (by exact p)];grind[SU]
   ·have e:dD b w (J w).Sub=(b,xD (J w).Sub 0):=by simp_all[dD,if_neg]
    rw[e,if_neg (by simp[xD]),a7I (by exact hB) rfl];grind[SU]
  ·have hH:(J w).Sub.H≠0:=by have:=(hb.2 _ (WH hb.1.2.2.1 hw (aJA ⟨ha.1,ha.2.1⟩))).1.1;rw[ha.2.2] at this;grind[lW]
   have e:dD b w (J w).Sub=(b,{(J w).Sub with Pc:=if(J w).Sub.B=2 then 3 else 2,B:=(J w).Sub.B+1}):=by unfold dD;rw[if_neg (by omega),if_neg (by omega),if_pos z,if_pos ⟨hB2,ha⟩,if_neg (by rw[a8Q h.hz hB2];omega)]
   rw[e,aB5 (by exact d),aT1 (by exact hB) (by exact p)];unfold SU;grind
  ·have e:dD b w (J w).Sub=({b with Mem:=rW b.Mem w (J w).Sub.H,aN:=b.aN.set w.toNat ⟨(dK b.aN w).eraseIdx (J w).Sub.Row.toNat⟩},{(J w).Sub with Pc:=1,Out:=bE ((J w).Sub.Out+1)}):=by simp_all[dD]
   rw[e,aB5 (by exact d),aT1 (by exact hB) (by exact p)];have h3:=hb.1.2.2.1.1;have er:kC ({b with Mem:=rW b.Mem w (J w).Sub.H,aN:=b.aN.set w.toNat ⟨(dK b.aN w).eraseIdx (J w).Sub.Row.toNat⟩}:aC) w=kC b w - 1:=by have h1:=ha.1;have h2:=ha.2.1;unfold kC dK at *;grind
   simp only[er];unfold SU;grind
end
end Go.Gv
end
noncomputable section
namespace Go.Gv
noncomputable section
variable {Ky:List Int} {b:aC} {k:List bY} {c:Int->List Int} {q:Int->Nat} {J:Int->aE} {w:Int} (hK:Ky.length<=8) (h:uS Ky b k c q J) (hl:∀v,j9 v->YT k v (J v)) (hw:j9 w) (hb:nC b) (hk:k.length=2/\∀x∈k,BkV x) (hJ:∀v,j9 v->(J v).bX=true->JB (J v)) (hB:(J w).bX=true) (hep:EpT b.aA J)
include hK h hl hw hb hk hJ hB hep
theorem aYE{e:Int}{n:Nat}(hp:(J w).Pc=1):cB e n (WJ (J w))+1<=cB e n (J w):=by
 have t:=h.tw w hw hB;have hj:=hJ w hw hB;have hat:=hj.at_;have t1:TW Ky b.Mem k c n (J w):={t with st:=fun z=>absurd z (by omega)};rw[jc1 hB hp];unfold WJ;split
 ·rename_i ha;split
  ·have h6:=hj.ZX.2.1;have wl:=t.wl;have hlen:=aB2 (J w).aB ⟨(fK (J w)).Key,(fK (J w)).Kind == 3,(fK (J w)).dO⟩;unfold AL at ha;unfold zI;rw[if_neg (show ¬6<(J0 (J w).aB ⟨(fK (J w)).Key,(fK (J w)).Kind == 3,(fK (J w)).dO⟩).length by omega),if_pos rfl,jc1 (by exact hB) (by exact hp)];grind
  ·split
   ·have:=aRA hK h hl hw hb hk hJ hB hep (e:=e) (n:=n) (v:=(aFU (J w).aB (fK (J w)).Key).1.dO) (is:=!(aFU (J w).aB (fK (J w)).Key).1.FR) (by omega) t1 hj ha;omega
   ·rw[jc2 (by exact hB) rfl];grind
 ·rename_i ha;have wl:=t.wl;have pl:=RC (J w).aB (J w).aB.length;grind[jc6,zG]
theorem aYF{e:Int}(hp:2<=(J w).Pc/\(J w).Pc<=5):cB e (qF Ky.length (q w) (J w)) (J1 b k w (J w))+1<=cB e (q w) (J w):=by
 have t:=h.tw w hw hB;have hj:=hJ w hw hB;have hat:=hj.at_;have ha:=t.hc hp;have wl:=t.wl;have h2:=aMM hj;have hN:=t.nO (by omega);have ab:∀{j':aE} {x:Int},j'.dF=(J w).dF/\j'.aQ=(J w).aQ->∀n,cB e n (FD j' x)<=6+(J w).aB.length:=fun{j' x} z n=>aOO hK h hl hw hb hk hJ hB hep (by grind);have ha':(J w).At<(J w).Batch.aY.length:=ha;unfold J1;by_cases p2:(J w).Pc=2
 ·rw[if_pos p2,jc2 hB p2];split
  ·grind
  ·have hq:qF Ky.length (q w) (J w)<=7:=by simp_all[qF]
   split
   ·rw[jc5 (by exact hB) rfl];grind
   ·rw[jc3 (by exact hB) rfl];grind
 rw[if_neg p2];by_cases p3:(J w).Pc=3
 ·rw[if_pos p3,jc3 hB p3,jc4 (by exact hB) rfl,show qF Ky.length (q w) (J w)=q w by simp_all[qF]];grind
 rw[if_neg p3];by_cases p4:(J w).Pc=4
 ·rw[if_pos p4,jc4 hB p4];split
  ·grind
  ·rename_i hpn;have hpin:mF b.aA w:=Classical.byContradiction hpn;obtain⟨r,⟨a,la⟩,a5⟩:=h.rd w hw (.inr p4) hpin;obtain⟨_,a6⟩:=a5 p4;by_cases z:(J w).Node.Key=(fK (J w)).Key\/Q9 (J w).Node=0
   ·rw[if_pos z,jc5 (by exact hB) rfl];grind
   ·rw[if_neg z,jc3 (by exact hB) rfl];have hq:qF Ky.length (q w) (J w)=q w - 1:=by simp_all[qF]
    grind[Q9]
 rw[if_neg p4,jc5 hB (by omega)];split
 ·grind
 split
 ·grind
 have tr:TW Ky b.Mem k c (qF Ky.length (q w) (J w)) {J w with Reads:=(FU (J w).Reads (J w).bY (J w).fX).1}:={t with st:=fun z=>absurd z (by grind)};have:=aRA hK h hl hw hb hk hJ hB hep (e:=e) (v:=(J w).Node.dO) (is:=(J w).Found) (by grind) tr (hj.spt _ _ hj.bkt) ha;exact aJ6 (Int.add_le_add_right this 1) (by grind)
theorem aT2(hp:(J w).Pc=6):cB b.aA.aG (q w) (IM b w (J w)).2+1<=cB b.aA.aG (q w) (J w):=by
 have t:=h.tw w hw hB;have hj:=hJ w hw hB;have h2:=aMM hj;have hn6:=t.n6 hp;have pl:=RC (J w).aB (J w).aB.length;obtain⟨s1,s2,s3,s4⟩:=(h.sb w hw).al hp;rw[jc6 hB hp];unfold IM;by_cases c1:fS (J w).aB (J w).aB.length<=(J w).K
 ·rw[if_pos c1,jc7 (by exact hB) rfl];grind
 rw[if_neg c1,if_pos (show(J w).K<_ by omega)];obtain⟨q1,q2,q3,q4⟩:=aOK hb.1.1 hw s1 s2 s3 s4;have hwl:=hj.wr.1;simp only;rcases q4 with ⟨em,⟨d,e⟩ | ⟨e1,e2⟩⟩ | ⟨d,e,wk,tk,kn⟩
 ·rw[if_neg (by grind),if_pos (.inl (by omega))];exact aJ6 (Int.add_le_add_right (aOO hK h hl hw hb hk hJ hB hep (e:=b.aA.aG) (n:=q w) (j':={J w with Sub:=(i4 b w (J w).Sub).2}) (x:=(i4 b w (J w).Sub).2.Code) ⟨by grind,h2⟩) 1) (by omega)
 ·rw[if_pos (by grind),jc6 (by exact hB) (by exact hp),e2];grind
 ·rw[if_neg (by grind),if_neg (by
   rintro(q | q | q)
   ·exact q e
   ·exact q wk.1.1
   ·omega),jc6 (by exact hB) (by exact hp)]
  grind[zG]
theorem aYG{e:Int}{n:Nat}(hp:(J w).Pc=7):cB e n (PJ k w (J w)).2.1+1<=cB e n (J w):=by
 have t:=h.tw w hw hB;have hj:=hJ w hw hB;have h2:=aMM hj;have hr2:=hj.rd2;have hn7:=(t.n7 (by omega)).1;have pl:=RC (J w).aB (J w).aB.length;have tl:=aN4 (J w).aB;have ab:∀x,cB e n (FD (J w) x)<=6+(J w).aB.length:=fun x=>aOO hK h hl hw hb hk hJ hB hep ⟨by omega,h2⟩;rw[jc7 hB hp];unfold PJ;by_cases c1:(J w).K<(qI (J w).aB).length
 ·rw[if_pos c1,if_pos c1];have hk0:=hj.k;split
  ·grind
  split
  ·grind
  have h1:(PI (J w)).aQ.length<=2:=by
   have hi:(J w).K.toNat<(qI (J w).aB).length:=by omega
   have er:gR (J w)=(qI (J w).aB)[(J w).K.toNat]:=by grind[gR]
   have hbk:0<=gR (J w)/\gR (J w)<=1:=by grind[WA,dC]
   unfold PI;simp only;split
   ·exact h2
   ·rename_i hm;have:=MO (l:=(J w).aQ ++ [gR (J w)]) (m:=[0,1]) (List.nodup_append.2 ⟨hj.held.2,by simp,fun a ha y hy=>by grind⟩) fun x hx=>by
     rcases fB.1 hx with hx | hx
     ·have:=hj.held.1 x hx;simp;omega
     grind
    omega
  split
  ·grind[jc8,PI]
  ·rw[jc7 (by exact hB) (by exact hp)];unfold PI;grind
 ·rw[if_neg c1,if_neg c1,jc8 (by exact hB) rfl];grind
theorem a30{e:Int}{n:Nat}(hp:(J w).Pc=8):cB e n (X5 k w (J w))+1<=cB e n (J w):=by
 have t:=h.tw w hw hB;have hj:=hJ w hw hB;have h2:=aMM hj;have hO:=t.oO (by omega);have hn7:=(t.n7 (by omega)).1;have pl:=RC (J w).aB (J w).aB.length;rw[jc8 hB hp];unfold X5;by_cases c1:((J w).Reads.length:Int)<=(J w).K
 ·rw[if_pos c1,jc9 (by exact hB) rfl];grind
 rw[if_neg c1,if_pos (show(J w).K<_ by omega)];grind[a3X,FD,jc8]
theorem a31{e:Int}{n:Nat}(hp:(J w).Pc=14\/(J w).Pc=16):cB e n (PK k (J w)).2+1<=cB e n (J w):=by
 unfold PK;by_cases c1:0<(J w).aQ.length
 ·rw[if_pos c1];grind[a7G,a3X]
 ·rw[if_neg c1];rcases hp with p | p
  ·rw[if_neg (by omega),a7G hB p];unfold SO;by_cases z:(0:Int)<(J w).bA.length
   ·rw[if_pos z,aT0 (by exact hB) rfl];simp only[zG];omega
   simp_all[aT0]
  ·rw[if_pos p,a3X hB p,bA5 (by exact hB) rfl];grind
theorem a32{e:Int}{n:Nat}(hp:(J w).Pc=15):cB e n (MN b w (J w)).2+5*kC (MN b w (J w)).1 w+1<=cB e n (J w)+5*kC b w:=by
 have hj:=hJ w hw hB;unfold MN;rw[aT0 hB hp];by_cases c1:((J w).bA.length:Int)<=(J w).K
 ·rw[if_pos c1,a7H (by exact hB) rfl,if_neg (show ¬(J w).K<_ by omega)];grind
 rw[if_neg c1,if_pos (show(J w).K<_ by omega)];obtain⟨s0,s1,s2,s3,s4⟩:=(h.sb w hw).rt hp (by omega);have es:i4 b w (J w).Sub=vQ b w (J w).Sub:=by grind[i4]
 rw[es];rcases s4 with p0 | ⟨p1,e0,e1⟩
 ·have er:vQ b w (J w).Sub=(b,{(J w).Sub with Pc:=1,E:=b.aA.aG}):=by simp_all[vQ]
  rw[er,if_neg (by simp[s2]),aT0 (by exact hB) (by exact hp)];grind
 ·have hr:kC (vQ b w (J w).Sub).1 w<=kC b w+1/\(vQ b w (J w).Sub).2.cJ=true:=by
   have h3:=hb.1.2.2.1.1;unfold vQ;rw[if_neg (by omega),if_pos p1,if_pos ⟨e0,e1⟩];split
   ·refine⟨?_,rfl⟩;unfold kC dK;grind
   ·exact⟨by grind,rfl⟩
  rw[if_pos hr.2];unfold SO;by_cases z:(J w).K+1<(J w).bA.length
  ·rw[if_pos z,aT0 (by exact hB) (by exact hp)];simp only[zG];omega
  ·rw[if_neg z,aT0 (by exact hB) (by exact hp)];grind
end
end Go.Gv
end
noncomputable section
namespace Go.Gv
noncomputable section
variable {Ky:List Int} {b:aC} {k:List bY} {c:Int->List Int} {q:Int->Nat} {J:Int->aE} {w:Int} (hK:Ky.length<=8) (h:uS Ky b k c q J) (hl:∀v,j9 v->YT k v (J v)) (hw:j9 w) (hb:nC b) (hk:k.length=2/\∀x∈k,BkV x) (hJ:∀v,j9 v->(J v).bX=true->JB (J v)) (hB:(J w).bX=true) (hep:EpT b.aA J)
include hK h hl hw hb hk hJ hB hep
theorem a33{e:Int}(hp:9<=(J w).Pc/\(J w).Pc<=13):cB e (qF Ky.length (q w) (J w)) (E9 b k (J w)).2.2+1<=cB e (q w) (J w):=by
 have t:=h.tw w hw hB;have hj:=hJ w hw hB;have hk0:=hj.k;generalize hn:qF Ky.length (q w) (J w)=n;have place:∀{j1:aE},j1.bX=true->(J w).K<(J w).aB.length->j1.aB=(J w).aB/\j1.K=(J w).K/\j1.aQ=(J w).aQ->cB e n (PO j1 (rX (J w)))<=((J w).aB.length - (J w).K)*19 - 12+7*j1.bA.length+(J w).aQ.length:=fun{j1} hb1 hlt ⟨e1,e2,e3⟩=>by grind[PO,jc9,bA3]
 unfold E9;by_cases c1:((J w).aB.length:Int)<=(J w).K
 ·have p9:(J w).Pc=9:=by have:=t.k9;omega
  rw[if_pos c1,jc9 hB p9,a7G (by exact hB) rfl,if_neg (show ¬(J w).K<_ by omega)];grind
 rw[if_neg c1];have hlt:(J w).K<(J w).aB.length:=by omega
 by_cases p9:(J w).Pc=9
 ·rw[if_pos p9,jc9 hB p9,if_pos hlt];have hq:n<=7:=by rw[<-hn];unfold qF;grind
  simp only;split
  ·grind
  ·rw[a7F (by exact hB) rfl];grind
 rw[if_neg p9];by_cases p10:(J w).Pc=10
 ·rw[if_pos p10,a7F hB p10];simp only;obtain⟨A,B,e1,⟨e2,e3⟩,e4⟩:=t.st (.inl p10);have hq:n=q w - 1:=by simp_all[qF]
  split
  ·rw[bA2 (by exact hB) rfl];grind
  split
  ·grind
  ·rename_i z1 z2;rw[a7F (by exact hB) (by exact p10),hq];have hi:(J w).K.toNat<(J w).aB.length:=by omega
   have er:rX (J w)=(J w).aB[(J w).K.toNat]:=by grind[rX]
   have hx:=hj.wr.2.1 _ (show rX (J w)∈(J w).aB by grind);have hbk:XD (bi (J w)):=by unfold bi oJ;omega
   have hch:=h.ch _ hbk;rw[e1] at hch;have hH:=hch.split;rw[aTZ hH.2.1,a3R hH.2.2.1] at z2;have:1<=B.length:=by
    match B,hH.2.2.2 with
    | [],y=>exact absurd y z2
    | _ :: _,_=>simp
   grind
 rw[if_neg p10];by_cases p11:(J w).Pc=11
 ·rw[if_pos p11,bA2 hB p11];grind[SN]
 rw[if_neg p11];obtain⟨nm,_⟩:=aJV h hw t hj (by omega);have hlen:¬((J w).dF.length:Int)<=fS (J w).aB (J w).K:=fun z=>by simp_all[fS,aGZ,aB3]
 rw[if_neg hlen];by_cases p12:(J w).Pc=12
 ·rw[if_pos p12,bA3 hB p12,bA4 (by exact hB) rfl];grind
 ·rw[if_neg p12,bA4 hB (by omega),jc9 (by exact hB) rfl];grind
theorem a7J:cB (JN b k w (J w)).b.aA.aG (qF Ky.length (q w) (J w)) (JN b k w (J w)).j+5*kC (JN b k w (J w)).b w+1<=cB b.aA.aG (q w) (J w)+5*kC b w/\((JN b k w (J w)).b.aA.aG=b.aA.aG\/(J w).Pc=20/\(JN b k w (J w)).j.Pc=21):=by
 have hc:=hb.1.2.1;have t:=h.tw w hw hB;have hpc:=t.pc;have sm:((J w).Pc≠2/\(J w).Pc≠4/\(J w).Pc≠9/\(J w).Pc≠10)->qF Ky.length (q w) (J w)=q w:=fun z=>by simp_all[qF]
 generalize hn:qF Ky.length (q w) (J w)=n at sm;have fl:∀{b':aC} {k':List bY} {j':aE} {l:List lV},b'.aA.aG=b.aA.aG->kC b' w=kC b w->cB b.aA.aG n j'+1<=cB b.aA.aG (q w) (J w)->cB (⟨b',k',j',l⟩:TR).b.aA.aG n (⟨b',k',j',l⟩:TR).j+5*kC (⟨b',k',j',l⟩:TR).b w+1<=cB b.aA.aG (q w) (J w)+5*kC b w/\((⟨b',k',j',l⟩:TR).b.aA.aG=b.aA.aG\/(J w).Pc=20/\(⟨b',k',j',l⟩:TR).j.Pc=21):=fun{b' k' j' l} e1 e2 e3=>⟨by grind,.inl e1⟩;unfold JN;have P:∀{c:Prop} [Decidable c] {x y:TR},(c->cB x.b.aA.aG n x.j+5*kC x.b w+1<=cB b.aA.aG (q w) (J w)+5*kC b w/\(x.b.aA.aG=b.aA.aG\/(J w).Pc=20/\x.j.Pc=21))->(¬c->cB y.b.aA.aG n y.j+5*kC y.b w+1<=cB b.aA.aG (q w) (J w)+5*kC b w/\(y.b.aA.aG=b.aA.aG\/(J w).Pc=20/\y.j.Pc=21))->_:=
  dX (P:=fun r=>cB r.b.aA.aG n r.j+5*kC r.b w+1<=cB b.aA.aG (q w) (J w)+5*kC b w/\(r.b.aA.aG=b.aA.aG\/(J w).Pc=20/\r.j.Pc=21))
 refine P (fun p=>?_) fun _=>P (fun p=>fl rfl rfl (by rw[sm (by omega)];exact aYE hK h hl hw hb hk hJ hB hep p)) fun _=>P (fun p=>fl rfl rfl (hn ▸ aYF hK h hl hw hb hk hJ hB hep p)) fun _=>P (fun p=>?_) fun _=>P (fun p=>fl rfl rfl (by rw[sm (by omega)];exact aYG hK h hl hw hb hk hJ hB hep p)) fun _=>P (fun p=>fl rfl rfl (by rw[sm (by omega)];exact a30 hK h hl hw hb hk hJ hB hep p)) fun _=>
  P (fun p=>fl (b':=(E9 b k (J w)).1) (k':=(E9 b k (J w)).2.1) (j':=(E9 b k (J w)).2.2) (l:=[]) (by grind[E9]) (by grind[E9,kC]) (hn ▸ a33 hK h hl hw hb hk hJ hB hep p)) fun _=>P (fun p=>fl rfl rfl ?_) fun _=>P (fun p=>?_) fun _=>P (fun p=>?_) fun _=>P (fun p=>?_) fun _=>P (fun p=>fl rfl rfl ?_) fun _=>by omega
 ·rw[sm (by omega)];obtain⟨a1,a2⟩:=a3Z hK h hl hw hb hk hJ hB hep p;grind
 ·obtain⟨s1,s2,s3,s4⟩:=(h.sb w hw).al p;obtain⟨q1,q2,q3,_⟩:=aOK hb.1.1 hw s1 s2 s3 s4;have e1:(IM b w (J w)).1.aA=b.aA:=by grind[IM]
  have e2:(IM b w (J w)).1.aN=b.aN:=by grind[IM]
  exact fl (b':=(IM b w (J w)).1) (k':=k) (j':=(IM b w (J w)).2) (l:=[]) (congrArg aA.aG e1) (congrArg (fun l=>((dK l w).length:Int)) e2) (by rw[sm (by omega)];exact aT2 hK h hl hw hb hk hJ hB hep p)
 ·rw[sm (by omega)];exact a31 hK h hl hw hb hk hJ hB hep p
 ·have hcl:(MN b w (J w)).1.aA=b.aA:=by
   unfold MN;split
   ·rfl
   ·exact MM (by have:=(h.sb w hw).rt p (by omega);omega)
  refine⟨?_,.inl (by rw[hcl])⟩;simp only;rw[hcl,sm (by omega)];exact a32 hK h hl hw hb hk hJ hB hep p
 ·have e:(KX b w (J w)).1.aA=b.aA/\(KX b w (J w)).1.aN=b.aN:=by grind[KX]
  refine fl (b':=(KX b w (J w)).1) (k':=k) (j':=(KX b w (J w)).2) (l:=[]) (congrArg aA.aG e.1) (congrArg (fun l=>((dK l w).length:Int)) e.2) ?_;grind[bA5,KX,a7H]
 ·refine fl (b':={b with aA:=(JL b.aA w).1}) (k':=k) (j':={J w with Pc:=19}) (l:=[]) (aQ5 hc hw).1 rfl ?_;grind[a7H,a7I]
 ·rw[a7I hB p];unfold cB;rw[if_pos (show dP.bX=false from rfl)];omega
end
theorem aYH(e e':Int)(q:Nat)(j:aE):cB e' q j<=cB e q j+3:=by
 cases hb:j.bX
 ·simp_all[cB]
 ·by_cases p:j.Pc=0
  ·rw[jc0 hb p,jc0 hb p];grind[SS]
  ·have:cB e' q j=cB e q j:=by unfold cB;grind
   omega
def bC(x:Batch):Int:=if x.Collect then 14 else x.aY.length*42+19
def isC(x:Batch):Int:=if x.Collect then 1 else 0
def WS(f:Batch->Int):List Batch->Int
 | []=>0
 | x :: r=>f x+WS f r
def yQ(t:Table)(w:Int):Int:=WS isC (vU t w)+if(bK t w).bX=true/\(bK t w).Pc=20 then 1 else 0
def aRB(q:Int->Nat)(t:Table)(w:Int):Int:=cB t.aC.aA.aG (q w) (bK t w)+5*kC t.aC w+WS bC (vU t w)
def GO(f:Int->Int):Int:=f 0+f 1+f 2
def aB6(q:Int->Nat)(t:Table)(w:Int):Int:=aRB q t w+3*(GO (yQ t) - yQ t w)
def YU(t:Table)(w:Int):Prop:=(bK t w).bX=false/\vU t w=[]
end Go.Gv
end
noncomputable section
namespace Go.Gv
theorem aYI(b:aC)(w:Int)(s:Sub):(i4 b w s).1.aN=b.aN\/∃x,(i4 b w s).1.aN=b.aN.set w.toNat x:=by grind[MK,WE,eZ,yG,vQ,dD,i4]
theorem a34(b:aC)(k:List bY)(w:Int)(j:aE):(JN b k w j).b.aN=b.aN\/∃x,(JN b k w j).b.aN=b.aN.set w.toNat x:=by
 have hs:=aYI b w j.Sub;unfold JN;have P:∀{c:Prop} [Decidable c] {x y:TR},(c->(x.b.aN=b.aN\/∃z,x.b.aN=b.aN.set w.toNat z))->(¬c->(y.b.aN=b.aN\/∃z,y.b.aN=b.aN.set w.toNat z))->_:=dX (P:=fun r=>r.b.aN=b.aN\/∃z,r.b.aN=b.aN.set w.toNat z);refine P (fun _=>hs) fun _=>P (fun _=>.inl rfl) fun _=>P (fun _=>.inl rfl) fun _=>P (fun _=>?_) fun _=>P (fun _=>.inl rfl) fun _=>P (fun _=>.inl rfl) fun _=>P (fun _=>.inl (by grind[E9])) fun _=>P (fun _=>.inl rfl) fun _=>P (fun _=>?_) fun _=>P (fun _=>.inl (by grind[KX])) fun _=>P (fun _=>.inl rfl) fun _=>P (fun _=>.inl rfl) fun _=>.inl rfl
 ·unfold IM;split;exact .inl rfl;exact hs
 ·unfold MN;split;exact .inl rfl;exact hs
theorem aB7{f:Batch->Int}(h:∀x,0<=f x):∀l,0<=WS f l
 | []=>K6 _
 | x :: r=>Int.add_nonneg (h x) (aB7 h r)
theorem bA6(x:Batch):0<=bC x:=by grind[bC]
theorem aWL(x:Batch):0<=isC x:=by grind[isC]
theorem aYJ(t:Table)(w:Int):0<=yQ t w:=by have:=aB7 aWL (vU t w);grind[yQ]
theorem a7K(f:Int->Int)(h:∀v,0<=f v){w:Int}(hw:j9 w):f w<=GO f:=by grind[GO]
theorem aRC{f g:Int->Int}{w:Int}(hw:j9 w)(h:∀v,j9 v->v≠w->g v=f v):GO g - g w=GO f - f w:=by grind[GO]
noncomputable section
variable {Ky:List Int} {q:Int->Nat} {t:Table} (hK:Ky.length<=8) (hv:TV t) (hs:Sft Ky q t) {w:Int} (hw:j9 w) (hser:t.aI≠1000000)
include hK hv hs hw
theorem aYK(hB:(bK t w).bX=true):1<=cB t.aC.aA.aG (q w) (bK t w):=by
 have hj:JB (bK t w):=(hv.K0.2 _ (KZ hv.K0.1 hw)).resolve_left fun e=>by rw[e] at hB;cases hB
 obtain⟨c,h⟩:=hs.sv;have T:=h.tw w hw hB;have hpc:=T.pc;have hat:=hj.at_;have sb:=h.sb w hw;have hc:=hv.base.1.2.1;obtain⟨s0,s20⟩:=aON hw hc hs.ep hB;have tl:=aN4 (bK t w).aB;have hk:=hj.k;rcases(by omega:(bK t w).Pc=0\/(bK t w).Pc=1\/(2<=(bK t w).Pc/\(bK t w).Pc<=5)\/(bK t w).Pc=6\/(bK t w).Pc=7\/(bK t w).Pc=8\/(bK t w).Pc=9\/(10<=(bK t w).Pc/\(bK t w).Pc<=13)\/(bK t w).Pc=14\/(bK t w).Pc=15\/(bK t w).Pc=16\/(bK t w).Pc=17\/(bK t w).Pc=18\/(bK t w).Pc=19\/(bK t w).Pc=20\/(bK t w).Pc=21) with p | p | p | p | p | p | p | p | p | p | p | p | p | p | p | p
 ·rw[jc0 hB p];grind[SS]
 ·grind[jc1]
 ·have ha:(bK t w).At<(bK t w).Batch.aY.length:=T.hc p;grind[jc2,jc3,jc4,jc5]
 ·rw[jc6 hB p];have:=(sb.al p).2.2.1;omega
 ·grind[jc7]
 ·grind[jc8]
 ·grind[jc9]
 ·have:=T.k9 p;grind[a7F,bA2,bA3,bA4]
 ·grind[a7G]
 ·rw[aT0 hB p];split
  ·have:=sb.rt p (by omega);omega
  ·omega
 ·grind[a3X]
 ·grind[bA5]
 ·grind[a7H]
 ·grind[a7I]
 ·grind[a3Y,PL]
 ·rw[aT1 hB p];obtain⟨_,_,z⟩:=sb.col p;grind[SU]
theorem a7L(h:¬YU t w):0<=aB6 q t w:=by
 have a:=aB7 bA6 (vU t w);have b:=a7K (yQ t) (aYJ t) hw;have r:0<=kC t.aC w:=Int.natCast_nonneg _;unfold aB6 aRB;by_cases hB:(bK t w).bX=true
 ·have:=aYK hK hv hs hw hB;omega
 ·have:cB t.aC.aA.aG (q w) (bK t w)=0:=by simp_all[cB]
  omega
theorem aMN(h:YU t w):kP t w=t/\nxQ Ky q t w=q:=by unfold kP nxQ;rw[if_neg (by rw[h.1];decide),if_pos (.inl (by rw[h.2];rfl)),if_neg (by rw[h.1];decide)];simp
include hser
theorem aRD(h:¬YU t w):aB6 (nxQ Ky q t w) (kP t w) w+1<=aB6 q t w/\∀v,j9 v->v≠w->aB6 (nxQ Ky q t w) (kP t w) v<=aB6 q t v/\(YU t v->YU (kP t w) v):=by
 have h3:=hv.K0.1;have hJ:∀v,j9 v->(bK t v).bX=true->JB (bK t v):=fun v hv' hB=>(hv.K0.2 _ (KZ h3 hv')).resolve_left fun e=>by rw[e] at hB;cases hB
 obtain⟨c,sv⟩:=hs.sv;by_cases hB:(bK t w).bX=true
 ·have est:kP t w=KY t w (JN t.aC t.b8 w (bK t w)):=by simp_all[kP]
  have enq:nxQ Ky q t w=upQ q w (qF Ky.length (q w) (bK t w)):=if_pos hB;obtain⟨a1,a2⟩:=a7J hK sv hs.lk hw hv.base hv.bk hJ hB hs.ep;have hpc:=(sv.tw w hw hB).pc;have hdp:(JN t.aC t.b8 w (bK t w)).j.bX=true/\(JN t.aC t.b8 w (bK t w)).j.Pc=20->(bK t w).Pc=20:=fun z=>by
   by_cases p:1<=(bK t w).Pc/\(bK t w).Pc<=19
   ·rcases a3U (b:=t.aC) (k:=t.b8) (w:=w) p with e | e
    ·rw[e] at z;cases z.1
    ·omega
   ·by_cases p0:(bK t w).Pc=20
    ·exact p0
    ·exfalso;have e:(JN t.aC t.b8 w (bK t w)).j=(zJ t.aC w (bK t w)).2:=by unfold JN;rw[if_pos (by omega)]
     grind[zJ]
  have hrow:=a34 t.aC t.b8 w (bK t w);rw[est,enq];generalize JN t.aC t.b8 w (bK t w)=r at a1 a2 hdp hrow;have ej:∀v,j9 v->bK (KY t w r) v=if v=w then r.j else bK t v:=fun v hv'=>aGT h3 hw rfl hv';have eq:∀v,vU (KY t w r) v=vU t v:=fun _=>rfl;have er:∀v,j9 v->v≠w->kC r.b v=kC t.aC v:=fun v hv' hn=>by
   unfold kC;rcases hrow with e | ⟨x,e⟩
   ·rw[e]
   ·rw[e,ZY hv.base.1.2.2.1.1 hw hv' hn]
  have bo:∀v,j9 v->v≠w->yQ (KY t w r) v=yQ t v:=fun v hv' hn=>by simp_all[yQ]
  have bw:yQ (KY t w r) w<=yQ t w/\(r.b.aA.aG≠t.aC.aA.aG->yQ (KY t w r) w+1<=yQ t w):=by unfold yQ;grind
  have s1:=aRC hw bo;refine⟨?_,fun v hv' hn=>⟨?_,fun i=>?_⟩⟩
  ·unfold aB6 aRB;rw[s1,eq,ej w hw,if_pos rfl];show cB r.b.aA.aG (upQ q w _ w) r.j+5*kC r.b w+_+_+1<=_;rw[show upQ q w (qF Ky.length (q w) (bK t w)) w=qF Ky.length (q w) (bK t w) from if_pos rfl];omega
  ·unfold aB6 aRB;rw[eq,ej v hv',if_neg hn,bo v hv' hn];show cB r.b.aA.aG (upQ q w _ v) (bK t v)+5*kC r.b v+_+_<=_;rw[show upQ q w (qF Ky.length (q w) (bK t w)) v=q v from if_neg hn,er v hv' hn];have:=aYH t.aC.aA.aG r.b.aA.aG (q v) (bK t v);grind
  ·exact⟨by rw[ej v hv',if_neg hn];exact i.1,i.2⟩
 ·have hq:¬((vU t w).length=0\/t.aI=1000000):=fun z=>z.elim (fun z=>h ⟨by grind,rY z⟩) hser;have est:kP t w=M5 t w ((vU t w).getD 0 ⟨false,[]⟩):=by simp_all[kP]
  have enq:nxQ Ky q t w=q:=if_neg hB;rw[est,enq]
  match hQ:vU t w,hq with
  | [],hq=>grind
  | x :: l,_=>
  simp only[List.getD_cons_zero];have ej:∀v,j9 v->bK (M5 t w x) v=if v=w then mE x (t.aI+1) else bK t v:=fun v hv'=>aGT h3 hw rfl hv';have eq:∀v,j9 v->vU (M5 t w x) v=if v=w then l else vU t v:=fun v hv'=>by grind[vU,M5]
  have j0:cB t.aC.aA.aG (q w) (bK t w)=0:=by simp_all[cB]
  have jn:cB t.aC.aA.aG (q w) (mE x (t.aI+1))+1<=bC x:=by
   cases hx:x.Collect
   ·rw[jc0 (show(mE x (t.aI+1)).bX=true from rfl) (by grind[mE])];grind[mE,bC,SS,zG]
   simp_all[a3Y,mE,bC,PL,zG]
  have bo:∀v,j9 v->v≠w->yQ (M5 t w x) v=yQ t v:=fun v hv' hn=>by simp_all[yQ]
  have bw:yQ (M5 t w x) w<=yQ t w:=by unfold yQ;rw[eq w hw,ej w hw,if_pos rfl,if_pos rfl,hQ,if_neg (show ¬((bK t w).bX=true/\_) from fun z=>hB z.1)];grind[WS,mE,isC]
  have s1:=aRC hw bo;refine⟨?_,fun v hv' hn=>⟨?_,fun i=>?_⟩⟩
  ·unfold aB6 aRB;rw[s1,eq w hw,ej w hw,if_pos rfl,if_pos rfl,hQ,j0];show cB t.aC.aA.aG (q w) (mE x (t.aI+1))+5*kC t.aC w+_+_+1<=_;grind[WS]
  ·unfold aB6 aRB;rw[eq v hv',ej v hv',if_neg hn,if_neg hn,bo v hv' hn];show cB t.aC.aA.aG (q v) (bK t v)+5*kC t.aC v+_+_<=_;omega
  ·exact⟨by rw[ej v hv',if_neg hn];exact i.1,by rw[eq v hv',if_neg hn];exact i.2⟩
end
end Go.Gv
end
noncomputable section
namespace Go.Gv
theorem PM{l:List aE}(hl:l.length<=1000){f:aE->Bool}{g:aE->Option Bool}(hg:∀x∈l,g x=some (f x)):g7 l g=some (l.any f):=
 K5 (f:=pY l g) (m:=zS) (by omega) (fun k=>by
  simp only[pY];by_cases h:k<l.length
  ·rw[dif_pos h,if_pos (by simp;omega),aV h,aK,hg _ (dC h),aK,aP (by omega) (by omega)];rfl
  grind) (fun _=>rfl) rfl
theorem aOP{l:List bY}(hl:l.length<=1000){f:bY->Bool}{g:bY->Option Bool}(hg:∀x∈l,g x=some (f x)):rF l g=some (l.any f):=
 K5 (f:=rE l g) (m:=CR) (by omega) (fun k=>by
  simp only[rE];by_cases h:k<l.length
  ·rw[dif_pos h,if_pos (by simp;omega),aV h,aK,hg _ (dC h),aK,aP (by omega) (by omega)];rfl
  grind) (fun _=>rfl) rfl
theorem aJ0{l:List Seen}(hl:l.length<=1000){f:Seen->Bool}{g:Seen->Option Bool}(hg:∀x∈l,g x=some (f x)):fM l g=some (l.any f):=
 K5 (f:=i7 l g) (m:=zT) (by omega) (fun k=>by
  simp only[i7];by_cases h:k<l.length
  ·rw[dif_pos h,if_pos (by simp;omega),aV h,aK,hg _ (dC h),aK,aP (by omega) (by omega)];rfl
  grind) (fun _=>rfl) rfl
theorem aJ1(b:Int):F9 b=some (decide (0<=b/\b<=1)):=by grind[F9,dL]
theorem aJ2{α:Type}{l:List α}{f:α->Bool}(h:∀x∈l,f x=false):l.any f=false:=aGX.2 fun x hx=>by grind
theorem aRE{l:List Int}(hl:l.length<=6)(h:∀x∈l,lW x):tU l=some true:=by unfold tU;rw[if_pos (by simp;omega),show(fun y0=>vG y0)=fun y0=>some (!decide (lW y0)) from funext fun y=>by grind[vG,g9],E0 (by grind[maxLen]),aJ2 fun x hx=>by grind];rfl
theorem aRF{l:List aS}(h:WrV l):G9 l=some true:=by
 have h6:=h.1;unfold G9;have key:loop (rI l) 0=some (Out.brk ()):=iH (f:=rI l) l.length (fun k=>(k:Int)) _ (fun k hk=>by
  have hx:=h.2.1 _ (dC hk);simp only[rI];rw[if_pos (by simp;omega),aV hk,aK,dL,cZ hx.1,aK,if_neg (by simp),dL,cZ hx.2,aK,if_neg (by simp)];by_cases k0:(0:Int)<k
  ·have hk1:k - 1<l.length:=by omega
   have hlt:=List.pairwise_iff_getElem.1 h.2.2 (k - 1) k hk1 hk (by omega);rw[if_pos (by grind),aP (x:=(k:Int) - 1) (by omega) (by omega),show(k:Int) - 1=((k - 1:Nat):Int) by omega,aV hk1,aK,gZ (by omega)];unfold kY;rw[if_neg (by simp),aP (by omega) (by omega)];rfl
  simp_all[kY,aP]) (by simp[rI])
 grind[QP,QO]
theorem a35{j:aE}(h:JB j):sB j=some true:=by
 have hb:=h.ZX.2.1;have hk:=h.k;have hh:=h.held;have hheld:=aMM h;have key:loop (wI j) 0=some (Out.brk ()):=iH (f:=wI j) j.aQ.length (fun k=>(k:Int)) _ (fun k hk=>by
  simp only[wI,DY];rw[if_pos (by simp;omega),aV hk,aK,aJ1,cZ (hh.1 _ (dC hk)),aK,if_neg (by simp),aM (by omega),K7,UH,contains_eq (by grind[maxLen]),gZ ((aS1 _).1 hh.2 k hk),aK,if_neg (by simp),aP (by omega) (by omega)];rfl) (by simp[wI])
 unfold sB;rw[if_neg (by simp[h.busy]),key];simp only[aK,U1];unfold U0;rw[aJL (by omega),cZ h.ZX,E7,cZ h.h,E7,cZ h.prev,aJ1,cZ h.bkt,dL,cZ h.at_,dL,cZ (show 0<=j.K/\j.K<=100 by omega),aRE h.new.1 h.new.2,aRE h.old.1 h.old.2,
  aJ0 (f:=fun _=>false) (by have:=h.rd2;omega) (fun s hs=>by unfold OR;rw[aJ1,cZ (h.reads.1 s hs)];rfl),aJ2 fun _ _=>rfl,aRF h.wr]
 rfl
theorem aT3:sB dP=some true:=by
 have c1:DW dP.Batch dP.Batch=some true:=by unfold DW;rw[if_pos (by rfl)];unfold F8;rw[if_neg (by simp),bM (r:=Out.brk ()) (by simp[JT,dP])];rfl
 have c2:vF [] []=some true:=by unfold vF;rw[if_neg (by simp),bM (r:=Out.brk ()) (by simp[H3])];rfl
 have c3:sM [] []=some true:=by unfold sM;rw[if_neg (by simp),bM (r:=Out.brk ()) (by simp[FO])];rfl
 have c4:xM [] []=some true:=by unfold xM;rw[if_neg (by simp),bM (r:=Out.brk ()) (by simp[JU])];rfl
 have c5:nP [] []=some true:=by unfold nP;rw[if_neg (by simp),bM (r:=Out.brk ()) (by simp[JV])];rfl
 unfold sB;rw[if_pos (by rfl)];show(G8 dP dP).bind _=_;unfold G8;rw[c1,show dP.Reads=[] from rfl,show dP.aB=[] from rfl,show dP.dJ=[] from rfl,show dP.dF=[] from rfl,show dP.aQ=[] from rfl,show dP.bA=[] from rfl,c2,c3,c4,c5];simp[b7]
theorem aMO{t:Table}(hv:TV t):∀j∈t.aO,sB j=some true:=fun j hj=>by
 rcases hv.K0.2 j hj with rfl | h
 ·exact aT3
 ·exact a35 h
theorem aOQ{t:Table}(hv:TV t):D2 t=some true:=by
 have h2:=hv.bk.1;have h3:=hv.K0.1;have ht:=hv.todo;unfold D2;rw[V9 hv.base.small.fits,cZ hv.base,aK,if_pos rfl,if_pos (by simp;omega),
  aOP (f:=fun _=>false) (by omega) (fun x hx=>by
   have hx:=hv.bk.2 x hx;unfold LI Y8;rw[E7,cZ hx.1,aK,if_pos rfl,dL,cZ hx.2.1,aK,if_pos rfl,dL,cZ hx.2.2];rfl),aJ2 fun _ _=>rfl,aK,if_pos (by rfl),if_pos (by simp;omega),
  PM (f:=fun _=>false) (by omega) (fun j hj=>by grind[LK,aMO]),aJ2 fun _ _=>rfl,aK,if_pos (by rfl),
  aJM (by have:=ht.1;omega) (fun q hq=>by have:=(ht.2 q hq).1;omega) (fun q hq b hb=>by have:=((ht.2 q hq).2 b hb).2.1;omega),cZ ht,aK,if_pos rfl,dL,cZ hv.ser]
 rfl
def EvS(e:lV):Prop:=e.aY.length<=1000/\e.dJ.length<=1000
theorem a36{e:lV}(h:EvS e):DD e=some e:=by obtain⟨h1,h2⟩:=h;unfold DD kX qX;rw[aM (by simp;omega),aK,aM (by simp;omega)];simp[IZ]
theorem a7M{j:aE}(h:j=dP\/JB j):GZ j=some j:=by
 have hl:j.Batch.aY.length<=1000/\j.Reads.length<=1000/\j.aB.length<=1000/\j.dJ.length<=1000/\j.dF.length<=1000/\j.aQ.length<=1000/\j.bA.length<=1000:=by
  rcases h with rfl | h
  ·simp[dP]
  ·have a1:=h.ZX.2.1;have a2:=h.rd2;have a3:=h.wr.1;have a4:=h.res;have a5:=h.at_;have a6:=h.new.1;have a7:=aMM h;have a8:=h.old.1;omega
 obtain⟨h1,h2,h3,h4,h5,h6,h7⟩:=hl;unfold GZ pC nT qX F7;rw[(aOF h1).2,aK,aM (by simp;omega),aK,aM (by simp;omega),aK,aM (by simp;omega),aK,pR (by omega),pR (by omega),pR (by omega)];rfl
theorem aMP{t:Table}(hb:MH t.aC)(hk:t.b8.length<=1000)(hj:t.aO.length<=1000/\∀j∈t.aO,j=dP\/JB j)(ht:t.dU.length<=1000/\(∀q∈t.dU,q.List.length<=1000)/\∀q∈t.dU,∀b∈q.List,b.aY.length<=1000)(hl:t.Log.length<=1000000/\∀e∈t.Log,EvS e):DP t=some t:=by
 unfold DP F6;rw[aN6 hb,aK,aM (by simp;omega),aK,(aJN ht.1 ht.2.1 ht.2.2).2,aK];unfold DO;have k2:loop (l5 t) (0,(⟨t.aC,[]++t.b8,[],t.dU,[],t.aI⟩:Table))=some (⟨t.aC,t.b8,t.aO,t.dU,[],t.aI⟩:Table):=by
  have:=iH (f:=l5 t) t.aO.length (fun k=>((k:Int),(⟨t.aC,t.b8,t.aO.take k,t.dU,[],t.aI⟩:Table))) (⟨t.aC,t.b8,t.aO,t.dU,[],t.aI⟩:Table) (fun k hk=>by
   simp only[l5];rw[if_pos (by simp;omega),aV hk,aK,a7M (hj.2 _ (dC hk)),aK,aM (by simp;omega)];grind[DN,aP,K9]) (by simp[l5])
  grind
 have k3:loop (l4 t) (0,(⟨t.aC,t.b8,t.aO,t.dU,[],t.aI⟩:Table))=some t:=by
  have:=iH (f:=l4 t) t.Log.length (fun k=>((k:Int),(⟨t.aC,t.b8,t.aO,t.dU,t.Log.take k,t.aI⟩:Table))) t (fun k hk=>by
   simp only[l4];rw[if_pos (by simp;omega),aV hk,aK,a36 (hl.2 _ (dC hk)),aK,aM (by simp;omega)];grind[DM,aP,K9]) (by simp[l4])
  grind
 show(loop (l5 t) (0,(⟨t.aC,[]++t.b8,[],t.dU,[],t.aI⟩:Table))).bind _=_;rw[k2,aK];show(loop (l4 t) (0,(⟨t.aC,t.b8,t.aO,t.dU,[],t.aI⟩:Table))).bind _=_;rw[k3];rfl
end Go.Gv
end
noncomputable section
namespace Go.Gv
def FB(t:Table):Bool:=!(t.aO.any fun j=>j.bX) && !(t.dU.any fun q=>decide (0<(q.List.length:Int)))
theorem aMQ{t:Table}(hj:t.aO.length<=1000)(ht:t.dU.length<=1000):EJ t=some (FB t):=by
 unfold EJ FB;rw[PM (f:=fun j=>j.bX) (g:=fun y0=>GD y0) hj fun _ _=>rfl,aK];cases (t.aO.any fun j=>j.bX)
 ·rw[if_pos (by rfl),T2 (f:=fun q=>decide (0<(q.List.length:Int))) (g:=fun y0=>GF y0) ht fun _ _=>rfl];rfl
 ·rfl
theorem aRG{t:Table}(hv:TV t):FB t=true↔∀w,j9 w->YU t w:=by
 have h3:=hv.K0.1;have h4:=hv.todo.1;unfold FB;rw[BN,aOU,aOU,aGX,aGX];constructor
 ·rintro⟨a,b⟩ w hw;refine⟨by grind[KZ],?_⟩;have hi:w.toNat<t.dU.length:=by omega
  simp_all[vU]
 ·intro h;refine⟨fun j hj=>?_,fun q hq=>?_⟩
  ·obtain⟨i,hi,rfl⟩:=Z4 hj;have:=(h i (by omega)).1;grind[bK]
  ·obtain⟨i,hi,rfl⟩:=Z4 hq;have:=(h i (by omega)).2;grind[vU]
def WT:Nat->Nat->Table->Table
 | 0,_,t=>t
 | n+1,k,t=>if FB t then t else WT n (k+1) (kP t ((k % 3:Nat):Int))
theorem aOR(k:Nat):j9 ((k % 3:Nat):Int):=by omega
theorem aRH:∀(n k:Nat) (t:Table),k+n=3000->TV t->t.Log.length+n<=1000000->(loop (mZ 3000 true) ((k:Int),t)).bind JX=some (WT n k t)
 | 0, k, t, hk, _, _ => by rw[bM (r:=Out.brk t) (by simp_all[mZ])];rfl
 | n + 1, k, t, hk, hv, hl => by
  have h3:=hv.K0.1;have h4:=hv.todo.1;unfold WT;cases hi:FB t
  ·have hs:=aQS hv (by omega) (aOR k);rw[bU (s':=(((k+1:Nat):Int),kP t ((k % 3:Nat):Int))) (by
    simp only[mZ];rw[if_pos (by simp;omega),if_pos trivial,aMQ (by omega) (by omega),aK,hi,if_neg (by simp),PM (f:=fun _=>false) (by omega) (fun j hj=>by grind[sZ,aMO]),aJ2 fun _ _=>rfl,aK];unfold mY;rw[if_neg (by simp),MD (by omega),show((k:Int) % 3)=((k % 3:Nat):Int) by omega,hs,aK,aP (by omega) (by omega)];rfl)]
   rw[if_neg (by simp)];refine aRH n (k+1) _ (by omega) (hv.step (aOR k)) ?_;have:=XC t ((k % 3:Nat):Int);unfold WO at this;grind
  ·rw[bM (r:=Out.ret t) (by
    simp only[mZ];rw[if_pos (by simp;omega),if_pos trivial,aMQ (by omega) (by omega),aK,hi,if_pos rfl];rfl),if_pos rfl];rfl
theorem aYL{t:Table}(hv:TV t)(hl:t.Log.length+3000<=1000000)(he:∀e∈t.Log,EvS e):jN t=some (WT 3000 0 t):=by have h2:=hv.bk.1;have h3:=hv.K0.1;have h4:=hv.todo;unfold jN;rw[aMP hv.base.small (by omega) ⟨by omega,hv.K0.2⟩ ⟨by have:=h4.1;omega,fun q hq=>by have:=(h4.2 q hq).1;omega,fun q hq b hb=>by have:=((h4.2 q hq).2 b hb).2.1;omega⟩ ⟨by omega,he⟩,aK,aOQ hv,aK,if_pos rfl];have:=aRH 3000 0 t rfl hv hl;unfold GG;rw[show((0:Nat):Int)=0 from rfl] at this;rw[this];rfl
theorem aMR{Ky:List Int}(hK:Ky.length<=8)(P:Table->Prop)(hP:∀t w,TV t->j9 w->P t->P (kP t w))(hser:∀t,P t->t.aI≠1000000):∀(n k:Nat) (q:Int->Nat) (t:Table),TV t->Sft Ky q t->P t->(∀w,j9 w->¬YU t w->3*aB6 q t w+(w - k) % 3<n)->FB (WT n k t)=true/\TV (WT n k t)/\P (WT n k t)/\∃q',Sft Ky q' (WT n k t)
 | 0,k,q,t,hv,hs,hp,hn=>⟨(aRG hv).2 fun w hw=>Classical.byContradiction fun hi=>by
   have:=hn w hw hi;have:=a7L hK hv hs hw hi;omega,hv,hp,q,hs⟩
 | n + 1, k, q, t, hv, hs, hp, hn => by
  unfold WT;by_cases hi:FB t=true
  ·grind
  ·rw[if_neg hi];have hw:=aOR k;refine aMR hK P hP hser n (k+1) (nxQ Ky q t ((k % 3:Nat):Int)) _ (hv.step hw) (hs.step hv hw) (hP t _ hv hw hp) fun v hv' hni=>?_;by_cases hid:YU t ((k % 3:Nat):Int)
   ·obtain⟨e1,e2⟩:=aMN hK hv hs hw hid;rw[e1] at hni;rw[e1,e2];have:=hn v hv' hni;have hne:v≠((k % 3:Nat):Int):=fun e=>hni (e ▸ hid);unfold j9 at hv';omega
   ·obtain⟨a1,a2⟩:=aRD hK hv hs hw (hser t hp) hid;have h0:=hn _ hw hid;by_cases e:v=((k % 3:Nat):Int)
    ·rw[e];omega
    ·obtain⟨b1,b2⟩:=a2 v hv' e;have:=hn v hv' fun z=>hni (b2 z);unfold j9 at hv';omega
end Go.Gv
end
noncomputable section
namespace Go.Gv
theorem aJ3(f:Batch->Int)(x:Batch):∀l:List Batch,WS f (l ++ [x])=WS f l+f x
 | []=>by simp[WS]
 | y :: r=>by simp only[UG,WS,aJ3 f x r];omega
theorem a37(x:Batch):isC x<=1:=by grind[isC]
theorem aRI:∀l:List Batch,WS isC l<=l.length
 | []=>by simp[WS]
 | x :: r=>by have:=aRI r;have:=a37 x;grind[WS]
def KyD(k:Int):Prop:=(0<=k/\k<=5)\/k=99\/k<0\/99<k
def BaD(x:Batch):Prop:=bC x<=145/\∀y∈x.aY,KyD y.Key
def QuD(m c:Int)(q:aL):Prop:=WS bC q.List<=c/\WS isC q.List<=m/\(q.List.length:Int)<=m/\∀x∈q.List,x.aY.length<=1000/\∀y∈x.aY,KyD y.Key
theorem aGU{l:List Batch}{m c m' c':Int}(h:QuD m c ⟨l⟩)(hm:m+1<=m'){x:Batch}(hc:c+bC x<=c')(hx:x.aY.length<=1000/\∀y∈x.aY,KyD y.Key):QuD m' c' ⟨l ++ [x]⟩:=by obtain⟨h1,h2,h3,h4⟩:=h;simp only at h1 h2 h3 h4;have:=a37 x;refine⟨by grind[aJ3],by grind[aJ3],by grind,fun y hy=>?_⟩;grind
theorem WU{m c m' c':Int}{q:aL}(h:QuD m c q)(hm:m<=m')(hc:c<=c'):QuD m' c' q:=⟨aJ6 h.1 hc,aJ6 h.2.1 hm,aJ6 h.2.2.1 hm,h.2.2.2⟩
noncomputable section
variable {b:List UInt8} {i h:Int} (hc:Cu b i)
include hc
theorem a8T:CH (HV ⟨b,i,h⟩) (fun x=>KyD x.1.Key/\Cu b x.2.1):=by
 unfold HV C7 C6;refine .bind (aMC hc (by decide) (by decide)) fun x1 ⟨_,h1⟩=>.bind (below h1 (by omega)) fun x2 ⟨k2,h2⟩=>?_;have hk:KyD x2.1:=.inl (by omega);refine .ite (fun _=>.ite (fun _=>?_) fun _=>.ret ⟨hk,h2⟩) fun _=>.ite (fun _=>?_) fun _=>.ret ⟨hk,h2⟩
 ·exact .bind (below h2 (by omega)) fun x7 ⟨_,h7⟩=>.bind (aMC h7 (by simp) (by simp)) fun x8 ⟨_,h8⟩=>.ret ⟨hk,h8⟩
 ·exact .bind (below h2 (by omega)) fun x7 ⟨_,h7⟩=>.bind (aMC h7 (by simp) (by simp)) fun x8 ⟨_,h8⟩=>.ret ⟨hk,h8⟩
theorem a39:CH (NM ⟨b,i,h⟩) (fun x=>KyD x.1.Key/\Cu b x.2.1):=by
 unfold NM qW;refine .bind (a8T hc) fun x1 ⟨k1,h1⟩=>.bind (below h1 (by omega)) fun x7 ⟨_,h7⟩=>.ite (fun _=>?_) fun _=>.ite (fun _=>?_) fun _=>.ite (fun _=>?_) fun _=>.ret ⟨k1,h7⟩
 ·exact .bind (aMC h7 (by decide) (by decide)) fun x8 ⟨_,h8⟩=>.ret ⟨k1,h8⟩
 ·exact .bind (aMC h7 (by decide) (by decide)) fun x8 ⟨k8,h8⟩=>.ret ⟨by grind[KyD],h8⟩
 ·exact .bind (aMC h7 (by decide) (by decide)) fun x8 ⟨_,h8⟩=>.ret ⟨k1,h8⟩
theorem a7N:CH (J2 ⟨b,i,h⟩) (fun x=>BaD x.1/\x.1.aY.length<=1000/\Cu b x.2.1):=by unfold J2;refine .bind (bCV hc (by omega)) fun x1 h1=>.ite (fun _=>.ret ⟨⟨by show(14:Int)<=145;decide,by simp⟩,by simp,h1⟩) fun _=>.bind (below h1 (by omega)) fun x2 ⟨hx,h2⟩=>?_;rw[aP (by omega) (by omega)];refine .bind (P:=fun x=>(x.2.2.length<=3/\∀y∈x.2.2,KyD y.Key)/\Cu b x.1) (.loop (fun s=>s.1.toNat) (fun s=>(0<=s.1/\s.1+s.2.2.2.length<=3/\∀y∈s.2.2.2,KyD y.Key)/\Cu b s.2.1) ⟨⟨by omega,by simp;omega,by simp⟩,h2⟩ ?_) fun⟨a1,a2,a3⟩ ⟨⟨hx,hy⟩,h3⟩=>.ret ⟨⟨by simp only at hx;unfold bC;grind,hy⟩,by grind,h3⟩;rintro⟨n,i1,h1,l⟩ ⟨⟨n0,n1,n2⟩,hi1⟩;simp only at n0 n1 n2 hi1;simp only[S2,IY];refine .ite (fun q=>?_) (fun q=>.ret ⟨⟨by grind,n2⟩,hi1⟩);have q1:=of_decide_eq_true q;refine .bind (a8T hi1) fun o ⟨ho,h3⟩=>.need (by simp;omega) (.ret ?_);grind[aP]
theorem aMS{m:Int}(hm:0<=m/\m<=12):CH (vY ⟨b,i,h⟩ m) (fun x=>(x.1.length=3/\∀q∈x.1,QuD m (m*145) q)/\Cu b x.2.1):=by
 unfold vY;refine .bind (P:=fun x=>(x.1.length=3/\∀q∈x.1,QuD m (m*145) q)/\Cu b x.2.1) (.loop (fun s=>3 - s.2.1.toNat) (fun s=>((s.1.length:Int)=s.2.1/\s.2.1<=3/\∀q∈s.1,QuD m (m*145) q)/\Cu b s.2.2.1) ⟨⟨rfl,by simp,by simp⟩,hc⟩ ?_) fun x hx=>.ret hx;rintro⟨l,k,i',h'⟩ ⟨⟨e,k3,hq⟩,hi⟩;simp only at e k3 hq hi;simp only[NL];refine .ite (fun q=>?_) (fun q=>?_)
 ·have q':=of_decide_eq_true q;rw[aP (x:=m+1) (by omega) (by omega)];refine .bind (below hi (by omega)) fun n ⟨hn,h1⟩=>?_;refine .bind (P:=fun x=>QuD m (m*145) ⟨x.2.2⟩/\Cu b x.1) (.loop (fun s=>s.1.toNat) (fun s=>(0<=s.1/\QuD (m - s.1) ((m - s.1)*145) ⟨s.2.2.2⟩)/\Cu b s.2.1) ⟨⟨hn.1,by grind[QuD,WS]⟩,h1⟩ ?_) ?_
  ·rintro⟨n,i1,h1,ops⟩ ⟨⟨n0,ho⟩,hi1⟩;simp only at n0 ho hi1;have hol:=ho.2.2.1;simp only at hol;simp only[NI,C8];refine .ite (fun q=>?_) (fun q=>?_)
   ·have q1:=of_decide_eq_true q;refine .bind (a7N hi1) fun o ⟨h0,h2,h3⟩=>.need (by simp;omega) (.ret ?_);have hq:=aGU (m':=m - (n - 1)) (c':=(m - (n - 1))*145) ho (by omega) (x:=o.1) (by have:=h0.1;omega) ⟨h2,h0.2⟩;grind[aP]
   ·have q1:¬0<n:=by grind
    exact .ret ⟨WU ho (by omega) (by omega),hi1⟩
  ·rintro⟨i1,h1,ops⟩ ⟨ho,hi1⟩;simp only[NJ,NH];refine .need (by simp;omega) (.ret ?_);grind[aP]
 ·have q':¬k<3:=by grind
  exact .ret ⟨⟨by grind,hq⟩,hi⟩
def aF4(l:List aL):Prop:=l.length<=3/\∀q∈l,QuD 13 910 q
omit hc in
theorem aRJ{l:List aL}(hl:aF4 l)(k:Nat){q:aL}(hq:QuD 13 910 q):aF4 (l.set k q):=⟨by simpa using hl.1,fun x hx=>(uY hx).elim (hl.2 x) (fun e=>e ▸ hq)⟩
theorem aT4:CH (AO ⟨b,i,h⟩) (fun x=>aF4 x.1/\Cu b x.2.1):=by
 unfold AO;refine .bind (aMS hc (by omega)) fun x1 ⟨⟨l3,hq⟩,h1⟩=>.bind (below h1 (by omega)) fun x5 ⟨_,h5⟩=>?_;have hT:aF4 x1.1:=⟨by omega,fun q hq'=>WU (hq q hq') (by omega) (by omega)⟩;simp only[kW,LG,BT];refine .ite (fun _=>?_) fun _=>.ite (fun _=>?_) fun _=>.ite (fun _=>?_) fun _=>.ite (fun _=>?_) fun _=>?_
 ·exact .need (by omega) (.ret ⟨⟨by simp;omega,fun q hq'=>hT.2 q (aYU (by simpa using hq'))⟩,h5⟩)
 ·refine .bind (.idx (by omega)) fun x6 h6=>?_;have h7:=hq _ h6;have:=h7.2.2.1;exact .need (by simp;omega) (.ret ⟨aRJ hT _ (aGU (m:=5) (c:=5*145) (l:=x6.List) h7 (by omega) (x:=⟨false,[]⟩) (by show _+(19:Int)<=910;omega) ⟨by simp,by simp⟩),h5⟩)
 ·refine .bind (P:=fun x=>aF4 x.1/\Cu b x.2.1) (.loop (fun s=>20 - ((s.1.getD 1 ⟨[]⟩).List.length)) (fun s=>(s.1.length=3/\∀q∈s.1,QuD 13 (725+14*q.List.length) q)/\Cu b s.2.1) ⟨⟨l3,fun q hq'=>WU (hq q hq') (by omega) (by omega)⟩,h5⟩ ?_) ?_
  ·rintro⟨l,i1,h1⟩ ⟨⟨l3,hq⟩,hi1⟩;simp only at l3 hq hi1;simp only[LH,BS];have hx:idx l 1=some l[1]:=aV (k:=1) (by omega);have hm:=hq _ (dC (show 1<l.length by omega));have hm1:=hm.2.2.1;rw[hx];simp only[aK];refine .bind (below hi1 (by omega)) fun x ⟨hx2,hi2⟩=>.ite (fun q=>?_) (fun q=>?_)
   ·have q':=of_decide_eq_true q;rw[aP (by omega) (by omega)] at q';refine .need (by simp;omega) (.ret ?_);refine⟨⟨⟨by simp[l3],fun x hx=>?_⟩,hi2⟩,?_⟩
    ·rcases uY hx with hx | hx
     ·grind
     ·have:=aGU (m':=14) (c':=725+14*(l[1].List ++ [(⟨true,[]⟩:Batch)]).length) (l:=l[1].List) hm (by omega) (x:=⟨true,[]⟩) (by show _+(14:Int)<=_;simp;omega) ⟨by simp,by simp⟩;rw[hx];refine⟨this.1,?_,by simp;omega,this.2.2.2⟩;have h13:=aRI (l[1].List ++ [(⟨true,[]⟩:Batch)]);grind
    grind
   ·exact .ret ⟨⟨by grind,fun q hq'=>WU (hq q hq') (by omega) (by have:=(hq q hq').2.2.1;omega)⟩,hi2⟩
  ·rintro⟨l,i1,h1⟩ hx;exact .ret hx
 ·refine .bind (.idx (by omega)) fun x25 h25=>.bind (a39 h5) fun x26 ⟨k26,h26⟩=>?_;have h7:=hq _ h25;have:=h7.2.2.1;exact .need (by simp;omega) (.ret ⟨aRJ hT _ (aGU (m:=5) (c:=5*145) (l:=x25.List) h7 (by omega) (x:=⟨false,[x26.1]⟩) (by show _+(1*42+19:Int)<=910;omega) ⟨by simp,by grind⟩),h26⟩)
 ·exact .ret ⟨hT,h5⟩
end
theorem aRK{code:List UInt8}(hl:code.length<=1048576):CH (sH code) (fun x=>aF4 x.dU/\x.j7.length<=5000):=by unfold sH;refine .bind (bEU hl) fun x1 h1=>.bind (aMS h1 (by omega)) fun x2 ⟨⟨l3,hq⟩,h2⟩=>.bind (a6V h2 (by omega)) fun x3 ⟨p,h3⟩=>.bind (below h3 (by omega)) fun x6 ⟨_,h6⟩=>?_;have hT:aF4 x2.1:=⟨by omega,fun q hq'=>WU (hq q hq') (by omega) (by omega)⟩;simp only[kS];refine .ite (fun _=>.bind (aT4 h6) fun x7 ⟨h7,_⟩=>.ret ⟨h7,by grind⟩) fun _=>.ite (fun _=>.need (by simp;omega) (.ret ⟨hT,by simp;omega⟩)) fun _=>.ret ⟨hT,by grind⟩
theorem aF4.bC4{l:List aL}(h:aF4 l):a6U l:=⟨h.1,fun q hq=>⟨by have:=(h.2 q hq).2.2.1;omega,fun x hx=>((h.2 q hq).2.2.2 x hx).1⟩⟩
end Go.Gv
end
noncomputable section
namespace Go.Gv
theorem aWM(j:aE)(x:aS):(zI j x).2.Batch=j.Batch:=by grind[zI,FD]
theorem aWN(j:aE)(c:iT)(v:Int)(is:Bool):(JM j c v is).Batch=j.Batch:=by
 unfold JM;split
 ·generalize (if is then v else 0)=u;unfold aJF;have h:=aWM j ⟨c.Key,false,UB u c.dO⟩;split
  ·exact h
  ·exact h
 ·rfl
theorem a7O(j:aE):(WJ j).Batch=j.Batch:=by grind[WJ,aWM,aWN]
theorem a4A(b:aC)(k:List bY)(w:Int)(j:aE):(J1 b k w j).Batch=j.Batch:=by
 unfold J1;split
 ·split<;>rfl
 ·split
  ·simp
  ·split
   ·split
    ·rfl
    ·split<;>rfl
   ·split
    ·rfl
    ·split
     ·rfl
     ·split
      ·grind[aWN]
      ·rfl
theorem a7P(b:aC)(w:Int)(j:aE):(IM b w j).2.Batch=j.Batch:=by
 unfold IM;split
 ·simp
 ·simp only;split
  ·simp
  ·split<;>rfl
theorem a7Q(k:List bY)(w:Int)(j:aE):(PJ k w j).2.1.Batch=j.Batch:=by
 unfold PJ;split
 ·split
  ·rfl
  ·split
   ·rfl
   ·split<;>rfl
 simp
theorem a7R(k:List bY)(w:Int)(j:aE):(X5 k w j).Batch=j.Batch:=by
 unfold X5;split
 ·simp
 ·split<;>rfl
theorem aT5(j:aE)(x:aS):(PO j x).Batch=j.Batch:=by grind[PO]
theorem a7S(j:aE):(SN j).Batch=j.Batch:=by grind[SN]
theorem a7T(b:aC)(k:List bY)(j:aE):(E9 b k j).2.2.Batch=j.Batch:=by
 unfold E9;split
 ·simp
 ·split
  ·grind[aT5]
  ·split
   ·grind[aT5]
   ·split
    ·grind[aT5,a7S]
    ·split
     ·rfl
     grind
theorem aWO(j:aE):(SO j).Batch=j.Batch:=by grind[SO]
theorem a7U(k:List bY)(j:aE):(PK k j).2.Batch=j.Batch:=by grind[PK,aWO]
theorem a7V(b:aC)(w:Int)(j:aE):(MN b w j).2.Batch=j.Batch:=by grind[MN,aWO]
theorem a7W(b:aC)(w:Int)(j:aE):(KX b w j).2.Batch=j.Batch:=by grind[KX]
theorem a7X(b:aC)(w:Int)(j:aE):(zJ b w j).2.Batch=j.Batch:=by grind[zJ]
def RE(w:Int)(j:aE)(r:TR):Prop:=
 (r.j.aI=j.aI/\r.j.bX=j.bX/\r.j.Batch=j.Batch/\(r.l=[]\/r.l=[⟨2,w,j.aI,0,[],[]⟩]))\/(¬(j.Pc<19\/19<j.Pc)/\r.j=dP/\r.l=[tlE w j])
theorem a7Y(b:aC)(k:List bY)(w:Int)(j:aE)(hp:0<=j.Pc/\j.Pc<=21):RE w j (JN b k w j):=by
 unfold JN;refine dX (P:=RE w j) (fun _=>.inl ⟨(aWC b w j).1,(aWC b w j).2,a7X b w j,.inl rfl⟩) fun _=>dX (P:=RE w j) (fun _=>.inl ⟨(aV3 j).1,(aV3 j).2,a7O j,.inl rfl⟩) fun _=>
  dX (P:=RE w j) (fun _=>.inl ⟨(aQZ b k w j).1,(aQZ b k w j).2,a4A b k w j,.inl rfl⟩) fun _=>dX (P:=RE w j) (fun _=>.inl ⟨(aV4 b w j).1,(aV4 b w j).2,a7P b w j,.inl rfl⟩) fun _=>
  dX (P:=RE w j) (fun _=>.inl ⟨(aV5 k w j).1,(aV5 k w j).2,a7Q k w j,?_⟩) fun _=>dX (P:=RE w j) (fun _=>.inl ⟨(aV6 k w j).1,(aV6 k w j).2,a7R k w j,.inl rfl⟩) fun _=>
  dX (P:=RE w j) (fun _=>.inl ⟨(aV7 b k j).1,(aV7 b k j).2,a7T b k j,.inl rfl⟩) fun _=>dX (P:=RE w j) (fun _=>.inl ⟨(aV9 k j).1,(aV9 k j).2,a7U k j,.inl rfl⟩) fun _=>
  dX (P:=RE w j) (fun _=>.inl ⟨(aWA b w j).1,(aWA b w j).2,a7V b w j,.inl rfl⟩) fun _=>dX (P:=RE w j) (fun _=>.inl ⟨(aWB b w j).1,(aWB b w j).2,a7W b w j,.inl rfl⟩) fun _=>
  dX (P:=RE w j) (fun _=>.inl ⟨rfl,rfl,rfl,.inl rfl⟩) fun _=>dX (P:=RE w j) (fun p=>.inr ⟨by omega,rfl,rfl⟩) fun _=>.inl ⟨rfl,rfl,rfl,.inl rfl⟩
 simp
structure TlJ (l:List lV) (s:Int) (P:List iT->Prop):Prop where
 call:∃c∈l,c.Kind=1/\c.aI=s
 all:∀c∈l,c.Kind=1->c.aI=s->P c.aY
theorem TlJ.app{l:List lV}{s:Int}{P:List iT->Prop}(h:TlJ l s P){m:List lV}(hm:∀x∈m,x.Kind=1->x.aI≠s):TlJ (l++m) s P:=by obtain⟨⟨c,hc,h1⟩,h2⟩:=h;refine⟨⟨c,aG1 _ hc,h1⟩,fun x hx k e=>?_⟩;grind
def kT(l:List lV):Int:=(l.countP fun e=>e.Kind == 3:Nat)
def SW(t:Table)(v:Int):Int:=if(bK t v).bX then 1 else 0
def IP(t:Table)(v:Int):Int:=(vU t v).length
def bA7(e:lV)(c:List iT):Prop:=if e.Code=0 then e.dJ.length=c.length else e.dJ=[]
structure TlT (n:Int) (t:Table):Prop where
 ev:∀e∈t.Log,EvS e/\e.aI<=t.aI
 job:∀w,j9 w->(bK t w).bX=true->(bK t w).aI<=t.aI/\TlJ t.Log (bK t w).aI (·=(bK t w).Batch.aY)
 tell:∀e∈t.Log,e.Kind=3->(e.Code=0\/e.Code=3\/e.Code=6\/e.Code=7)/\TlJ t.Log e.aI (bA7 e)
 sum:kT t.Log+GO (SW t)+GO (IP t)=n
 ser:t.aI+GO (IP t)=n
theorem aGV{f g:Int->Int}{w:Int}(hw:j9 w)(hg:∀v,j9 v->v≠w->g v=f v):GO g+f w=GO f+g w:=by grind[GO]
theorem a4B(l m:List lV):kT (l++m)=kT l+kT m:=by grind[kT]
theorem TlT.zero{l:List aL}{n:Int}(hn:GO (IP (eO l))=n):TlT n (eO l):=by
 have hj:∀w,j9 w->(bK (eO l) w).bX=false:=fun w hw=>by rcases(by omega:w=0\/w=1\/w=2) with rfl | rfl | rfl<;>rfl
 have h0:GO (SW (eO l))=0:=rfl;have e0:(eO l).Log=[]:=rfl;refine⟨fun e he=>?_,fun w hw h=>?_,fun e he=>?_,?_,?_⟩
 ·grind
 ·grind
 ·grind
 ·grind[kT]
 ·rw[hn];show(0:Int)+n=n;omega
theorem TlT.step{Ky:List Int}{q:Int->Nat}{t:Table}{n:Int}(hv:TV t){w:Int}(hw:j9 w)(hs:Sft Ky q t)(h:TlT n t):TlT n (kP t w):=by
 have h3:=hv.K0.1;have h4:=hv.todo.1;have hJ:(bK t w).bX=true->JB (bK t w):=fun hB=>(hv.K0.2 _ (KZ h3 hw)).resolve_left fun e=>by rw[e] at hB;cases hB
 obtain⟨c,sv⟩:=hs.sv;unfold kP;by_cases hB:(bK t w).bX=true
 ·rw[if_pos hB];have tw:=sv.tw w hw hB;have jb:=hJ hB;obtain⟨js,jt⟩:=h.job w hw hB;have hd:=a7Y t.aC t.b8 w (bK t w) tw.pc;generalize JN t.aC t.b8 w (bK t w)=r at hd;have ej:∀v,j9 v->bK (KY t w r) v=if v=w then r.j else bK t v:=fun v hv'=>aWD h3 rfl hw hv';have eq:IP (KY t w r)=IP t:=rfl;have el:(KY t w r).Log=t.Log++r.l:=rfl;have es:(KY t w r).aI=t.aI:=rfl;have hne:∀x∈r.l,x.Kind≠1:=fun x hx=>by
   rcases hd with ⟨_,_,_,e | e⟩ | ⟨_,_,e⟩<;>rw[e] at hx
   ·cases hx
   ·grind
   ·rw[HQ.1 hx];exact(by decide:(3:Int)≠1)
  have keep:∀{s:Int} {P:List iT->Prop},TlJ t.Log s P->TlJ (t.Log++r.l) s P:=fun a=>a.app fun x hx k=>absurd k (hne x hx);have hlen:(tlE w (bK t w)).Code=0->((tlE w (bK t w)).dJ.length:Int)=(bK t w).At/\(tlE w (bK t w)).dJ=(bK t w).dJ:=fun e=>by have e':(bK t w).Code=0:=e;simp only[tlE,if_pos e'];exact⟨jb.res,trivial⟩
  have hbl:=jb.at_;have hb6:=jb.ZX.2.1;have hres:=jb.res;refine⟨fun e he=>?_,fun v hv' hb'=>?_,fun e he k=>?_,?_,?_⟩
  ·rw[el] at he;rw[es];rcases fB.1 he with he | he
   ·exact h.ev e he
   ·rcases hd with ⟨_,_,_,e1 | e1⟩ | ⟨_,_,e1⟩<;>rw[e1] at he
    ·cases he
    ·rw[HQ.1 he];exact⟨⟨by simp,by simp⟩,js⟩
    ·rw[HQ.1 he];refine⟨⟨by simp[tlE],?_⟩,js⟩;show(if(bK t w).Code=0 then(bK t w).dJ else []).length<=1000;grind
  ·rw[el,es];rw[ej v hv'] at hb' ⊢;by_cases e:v=w
   ·rw[if_pos e] at hb' ⊢;rcases hd with ⟨s1,s2,s3,_⟩ | ⟨_,s1,_⟩
    ·grind
    ·rw[s1] at hb';cases hb'
   ·rw[if_neg e] at hb' ⊢;exact⟨(h.job v hv' hb').1,keep (h.job v hv' hb').2⟩
  ·rw[el] at he ⊢;rcases fB.1 he with he | he
   ·exact⟨(h.tell e he k).1,keep (h.tell e he k).2⟩
   ·rcases hd with ⟨_,_,_,e1 | e1⟩ | ⟨p19,_,e1⟩<;>rw[e1] at he
    ·cases he
    ·grind
    ·rw[HQ.1 he];have cd:=tw.cd;have at1:=tw.at_;refine⟨?_,keep ⟨jt.call,fun c hc kc ec=>?_⟩⟩
     ·show(bK t w).Code=0\/(bK t w).Code=3\/(bK t w).Code=6\/(bK t w).Code=7;omega
     ·rw[jt.all c hc kc ec];unfold bA7;by_cases z:(bK t w).Code=0
      ·rw[if_pos (show(tlE w (bK t w)).Code=0 from z),(hlen z).2];omega
      ·rw[if_neg (show ¬(tlE w (bK t w)).Code=0 from z)];show(if(bK t w).Code=0 then(bK t w).dJ else [])=[];grind
  ·rw[el,eq,a4B];have a:=aGV (f:=SW t) (g:=SW (KY t w r)) hw fun v hv' hn=>by simp_all[SW]
   have b:SW (KY t w r) w=if r.j.bX then 1 else 0:=by simp_all[SW]
   have b':SW t w=1:=by simp_all[SW]
   have s:=h.sum;rcases hd with ⟨_,s2,_,e1 | e1⟩ | ⟨_,s1,e1⟩
   ·simp_all[kT]
   ·simp_all[kT]
   ·rw[s1,if_neg (by decide)] at b;grind[kT,tlE]
  ·rw[eq,es];exact h.ser
 ·rw[if_neg hB];by_cases hq:(vU t w).length=0\/t.aI=1000000
  ·grind
  ·rw[if_neg hq];have hmem:(vU t w).getD 0 ⟨false,[]⟩∈vU t w:=by grind
   have hb6:((vU t w).getD 0 ⟨false,[]⟩).aY.length<=6:=by
    have hi:w.toNat<t.dU.length:=by omega
    have hq:=hv.todo.2 _ (dC hi);have e:vU t w=t.dU[w.toNat].List:=by grind[vU]
    exact(hq.2 _ (e ▸ hmem)).2.1
   generalize (vU t w).getD 0 ⟨false,[]⟩=b at hb6;have ej:∀v,j9 v->bK (M5 t w b) v=if v=w then mE b (t.aI+1) else bK t v:=fun v hv'=>aWD h3 rfl hw hv';have eqq:∀v,j9 v->IP (M5 t w b) v=if v=w then(((vU t w).drop 1).length:Int) else IP t v:=fun v hv'=>by grind[IP,vU,M5]
   have el:(M5 t w b).Log=t.Log ++ [⟨1,w,t.aI+1,0,b.aY,[]⟩]:=rfl;have es:(M5 t w b).aI=t.aI+1:=rfl;have keep:∀{s:Int} {P:List iT->Prop},s<=t.aI->TlJ t.Log s P->TlJ (t.Log ++ [⟨1,w,t.aI+1,0,b.aY,[]⟩]) s P:=fun hs a=>a.app fun x hx k=>by grind
   refine⟨fun e he=>?_,fun v hv' hb'=>?_,fun e he k=>?_,?_,?_⟩
   ·rw[el] at he;rw[es];rcases fB.1 he with he | he
    ·have:=h.ev e he;grind
    ·rw[HQ.1 he];exact⟨⟨by grind,by simp⟩,K6 _⟩
   ·rw[el,es];rw[ej v hv'] at hb' ⊢;by_cases e:v=w
    ·rw[if_pos e];refine⟨K6 _,⟨⟨_,aG2 _ (HQ.2 rfl),rfl,rfl⟩,fun c hc kc ec=>?_⟩⟩;rcases fB.1 hc with hc | hc
     ·have:=(h.ev c hc).2;have ec':c.aI=t.aI+1:=ec;omega
     ·rw[HQ.1 hc];rfl
    ·rw[if_neg e] at hb' ⊢;obtain⟨a,b⟩:=h.job v hv' hb';grind
   ·rw[el] at he ⊢;rcases fB.1 he with he | he
    ·exact⟨(h.tell e he k).1,keep (h.ev e he).2 (h.tell e he k).2⟩
    grind
   ·rw[el,a4B];have a:=aGV (f:=SW t) (g:=SW (M5 t w b)) hw fun v hv' hn=>by simp_all[SW]
    have a':=aGV (f:=IP t) (g:=IP (M5 t w b)) hw fun v hv' hn=>by grind
    have b1:SW (M5 t w b) w=1:=by unfold SW;rw[ej w hw,if_pos rfl];rfl
    have b':SW t w=0:=by simp_all[SW]
    have c1:=eqq w hw;rw[if_pos rfl,X8] at c1;have c2:IP t w=(vU t w).length:=rfl;have s:=h.sum;grind[kT]
   ·rw[es];have a':=aGV (f:=IP t) (g:=IP (M5 t w b)) hw fun v hv' hn=>by grind
    have c1:=eqq w hw;rw[if_pos rfl,X8] at c1;have c2:IP t w=(vU t w).length:=rfl;have s:=h.ser;omega
end Go.Gv
end
noncomputable section
namespace Go.Gv
def cN(c:Int)(l:List lV):Nat:=l.countP fun e=>e.Kind == 3 && e.Code == c
theorem aGW{l:List lV}(hl:l.length<=1000000)(c:Int):CB l c=some (cN c l:Int):=by
 unfold CB;have key:loop (zZ l c) (0,0)=some (cN c l:Int):=by
  have:=iH (f:=zZ l c) l.length (fun i=>((cN c (l.take i):Int),(i:Int))) (cN c l:Int) (fun i hi=>by
   have hle:cN c (l.take i)<=i:=tN (List.countP_le_length) (by grind);have e:cN c (l.take (i+1))=cN c (l.take i)+if l[i].Kind == 3 && l[i].Code == c then 1 else 0:=by grind[K9,cN]
   simp only[zZ,HH,HI];rw[if_pos (by simp;omega),aV hi,aK,e];grind[aP]) (by simp[zZ])
  grind[cN]
 rw[key];rfl
theorem aMT:∀{l:List lV},(∀e∈l,e.Kind=3->e.Code=0\/e.Code=3\/e.Code=6\/e.Code=7)->((cN 0 l+cN 7 l+cN 6 l+cN 3 l:Nat):Int)=kT l
 | [],_=>rfl
 | e :: l, h => by have ih:=aMT (l:=l) fun x hx=>h x (o7 _ hx);have he:=h e (by simp);unfold kT at ih ⊢;unfold cN at ih ⊢;simp only[List.countP_cons];grind
def aF5(l:List lV):List lV:=l.filter fun e=>e.Kind == 3
theorem aYM{t:Table}(hl:t.Log.length<=1000000)(he:∀e∈t.Log,EvS e):A9 t=some (aF5 t.Log):=by
 unfold A9;have key:loop (oA t) ([],0)=some (aF5 t.Log):=by
  have:=iH (f:=oA t) t.Log.length (fun i=>(aF5 (t.Log.take i),(i:Int))) (aF5 t.Log) (fun i hi=>by
   have hle:(aF5 (t.Log.take i)).length<=i:=tN (List.length_filter_le _ _) (by grind);simp only[oA,tC];rw[if_pos (by simp;omega),aV hi,aK,a36 (he _ (dC hi)),aK,aM (by simp;omega),aP (by omega) (by omega),K9 hi];grind[aF5]) (by simp[oA])
  grind[aF5]
 rw[key];rfl
theorem aT6{t:Table}(hj:t.aO.length<=1000)(ht:t.dU.length<=1000)(h:FB t=true):EK t=some true:=by
 unfold FB at h;rw[BN,aOU,aOU,aGX,aGX] at h;have k1:loop (pP t) 0=some (Out.brk ()):=iH (f:=pP t) t.aO.length (fun k=>(k:Int)) _ (fun k hk=>by
  simp only[pP];rw[if_pos (by simp;omega),aV hk,aK,if_neg (h.1 _ (dC hk)),aP (by omega) (by omega)];rfl) (by simp[pP])
 have k2:loop (mC t) 0=some (Out.brk ()):=iH (f:=mC t) t.dU.length (fun k=>(k:Int)) _ (fun k hk=>by
  simp only[mC];rw[if_pos (by simp;omega),aV hk,aK,if_neg (h.2 _ (dC hk)),aP (by omega) (by omega)];rfl) (by simp[mC])
 unfold EK;rw[k1];show(loop (mC t) 0).bind N2=_;rw[k2];rfl
theorem aT7:jN BM=some BM:=by
 have hsm:MH BM.aC:=by simp[MH,zF,BM,iE,eY,dQ]
 unfold jN D2;rw[aMP hsm (by simp[BM]) (by simp[BM]) (by simp[BM]) (by simp[BM]),aK,V9 hsm.fits,gZ (fun h=>by have:=h.1.2.2.2;grind[BM,aDH])];rfl
theorem aRL:∀(n k:Nat) (t:Table),(WT n k t).Log.length<=t.Log.length+n
 | 0,_,t=>lB _
 | n + 1, k, t => by
  unfold WT;split
  ·omega
  ·have:=aRL n (k+1) (kP t ((k % 3:Nat):Int));have h:=XC t ((k % 3:Nat):Int);unfold WO at h;grind
def Ky7:List Int:=[0,1,2,3,4,5,99]
theorem bC6{k:Int}(h:KyD k)(v:0<=k/\k<=99):k∈Ky7:=by grind[KyD,Ky7]
theorem bEZ{l:List aL}(hd:aF4 l)(ht:WK l):Sft Ky7 (fun _=>0) (eO l):=Sft.zero fun q hq b hb x hx=>bC6 ((hd.2 q hq).2.2.2 b hb |>.2 x hx) ((((ht.2 q hq).2 b hb).2.2.1 x hx).2.1)
theorem bC7{l:List aL}(hd:aF4 l){w:Int}(hw:j9 w):aB6 (fun _=>0) (eO l) w<=999:=by
 have ej:∀v,j9 v->bK (eO l) v=dP:=fun v hv=>by rcases(by omega:v=0\/v=1\/v=2) with rfl | rfl | rfl<;>rfl
 have eq:∀v:Int,QuD 13 910 ⟨vU (eO l) v⟩:=fun v=>by
  show QuD 13 910 ⟨(l.getD v.toNat ⟨[]⟩).List⟩;rw[PR];cases e:l[v.toNat]? with
  | none=>simp[QuD,WS]
  | some q=>exact hd.2 q (yI e)
 have eb:∀v,j9 v->0<=yQ (eO l) v/\yQ (eO l) v<=13:=fun v hv=>by have h1:=aB7 aWL (vU (eO l) v);have h2:=(eq v).2.1;unfold yQ;rw[ej v hv,if_neg (fun q=>by cases q.1)];grind
 have er:kC (eO l).aC w=0:=by rcases(by omega:w=0\/w=1\/w=2) with rfl | rfl | rfl<;>rfl
 have eo:aRB (fun _=>0) (eO l) w<=910:=by unfold aRB;rw[ej w hw,er];have h1:=(eq w).1;grind[cB,dP]
 have b0:=eb 0 (by simp[j9]);have b1:=eb 1 (by simp[j9]);have b2:=eb 2 (by simp[j9]);unfold aB6 GO;rcases(by omega:w=0\/w=1\/w=2) with rfl | rfl | rfl<;>omega
def PlT(n:Int)(t:Table):Prop:=TlT n t/\∃q,Sft Ky7 q t
def PhT(n:Int)(t:Table):Prop:=TlT n t/\∃q,Sft Ky7 q t/\∀w,j9 w->¬YU t w->aB6 q t w<=999
theorem aRM(t:Table):0<=GO (IP t):=by grind[GO,IP]
theorem PlT.step{n:Int}{t:Table}{w:Int}(hv:TV t)(hw:j9 w)(h:PlT n t):PlT n (kP t w):=by obtain⟨a,q,b⟩:=h;exact⟨a.step hv hw b,_,b.step hv hw⟩
theorem PhT.step{n:Int}(hn:n<=100){t:Table}{w:Int}(hv:TV t)(hw:j9 w)(h:PhT n t):PhT n (kP t w):=by
 obtain⟨a,q,b,c⟩:=h;refine⟨a.step hv hw b,_,b.step hv hw,fun v hv' hi=>?_⟩;have hser:t.aI≠1000000:=by have:=a.ser;have:=aRM t;omega
 by_cases hid:YU t w
 ·obtain⟨e1,e2⟩:=aMN (by decide) hv b hw hid;grind
 ·obtain⟨a1,a2⟩:=aRD (by decide) hv b hw hser hid;grind
theorem bE0{l:List aL}(hd:aF4 l)(ht:WK l)(p:List Int)(hp:p.length<=400):jN (OF (eO l) p)=some (WT 3000 0 (OF (eO l) p))/\FB (WT 3000 0 (OF (eO l) p))=true/\TV (WT 3000 0 (OF (eO l) p))/\PlT (GO (IP (eO l))) (WT 3000 0 (OF (eO l) p))/\(WT 3000 0 (OF (eO l) p)).Log.length<=3400:=by
 have hn:GO (IP (eO l))<=100:=by
  have:∀v:Int,IP (eO l) v<=13:=fun v=>by
   show(((l.getD v.toNat ⟨[]⟩).List.length:Nat):Int)<=13;rw[PR];cases e:l[v.toNat]? with
   | none=>simp
   | some q=>exact(hd.2 q (yI e)).2.2.1
  grind[GO]
 obtain⟨v,a,q,b,c⟩:=aJO (P:=PhT (GO (IP (eO l)))) (fun t w hv hw h=>h.step hn hv hw) p (aMG ht) ⟨.zero rfl,_,bEZ hd ht,fun w hw _=>bC7 hd hw⟩;have hl:=aMI p (eO l);rw[show(eO l).Log.length=0 from rfl] at hl;generalize OF (eO l) p=t at v a b c hl;obtain⟨g1,g2,g3,_⟩:=aMR (by decide) (PlT (GO (IP (eO l)))) (fun t w hv hw h=>h.step hv hw) (fun t h=>by have:=h.1.ser;have:=aRM t;omega) 3000 0 q t v b ⟨a,q,b⟩ fun w hw hi=>by grind
 have:=aRL 3000 0 t;exact⟨aYL v (by omega) fun e he=>(a.ev e he).1,g1,g2,g3,by omega⟩
theorem a4C{l:List lV}{s:Int}{P:List iT->Prop}(h:TlJ l s P):0<=aJR l 1 s/\P (l.getD (aJR l 1 s).toNat ⟨0,0,0,0,[],[]⟩).aY:=by obtain⟨c,hc,k,e⟩:=h.call;have hlt:l.findIdx (isE 1 s)<l.length:=List.findIdx_lt_length_of_exists ⟨c,hc,by grind[isE]⟩;have hp:=List.findIdx_getElem (w:=hlt);have e1:aJR l 1 s=(l.findIdx (isE 1 s):Int):=if_pos hlt;rw[e1];refine⟨by omega,?_⟩;rw[K7,PR,kG hlt];unfold isE at hp;rw[BN,beq_iff_eq,beq_iff_eq] at hp;exact h.all _ (dC hlt) hp.1 hp.2
theorem aDS{code:List UInt8}(_:fit code):EL code=some true:=by
 unfold EL aHV;rw[aK];by_cases hcl:1048576<(code.length:Int)
 ·grind
 rw[if_neg (by grind)];obtain⟨x,ex,hd,hp⟩:=aRK (code:=code) (by omega);rw[ex,aK,aX7 hd.bC4,aK];obtain⟨f1,f2,f3⟩:=hd.bC4.fit;by_cases ht:WK x.dU
 ·rw[cZ ht,if_neg (by simp),aOG f1 f2 f3 ht,aK];obtain⟨e1,hi,v,⟨tl,_⟩,hl⟩:=bE0 hd ht (x.j7.take 400) (by simp;omega);generalize WT 3000 0 (OF (eO x.dU) (x.j7.take 400))=z at e1 hi v tl hl;generalize hN:GO (IP (eO x.dU))=N at tl;rw[e1,aK,aYM (by omega) fun e he=>(tl.ev e he).1,aK];have t3:=ht.1;have il:∀w:Int,j9 w->∃q,idx x.dU w=some q/\(q.List.length:Int)=IP (eO x.dU) w/\q.List.length<=12:=fun w hw=>by
   unfold j9 at hw;have hlt:w.toNat<x.dU.length:=by omega
   refine⟨x.dU[w.toNat],iC hw.1 (by omega),?_,(ht.2 _ (dC hlt)).1⟩;show _=(((x.dU.getD w.toNat ⟨[]⟩).List.length:Nat):Int);grind
  obtain⟨q0,i0,l0,m0⟩:=il 0 (by simp[j9]);obtain⟨q1,i1,l1,m1⟩:=il 1 (by simp[j9]);obtain⟨q2,i2,l2,m2⟩:=il 2 (by simp[j9]);have hM:N=q0.List.length+q1.List.length+q2.List.length:=by grind[GO]
  have lp:loop (jO x z) (0,0)=some (N,z):=by
   rw[bU (s':=((q0.List.length:Int),1)) (by
    simp only[jO];rw[if_pos (by simp),i0,aK];grind[aP])]
   rw[bU (s':=((q0.List.length+q1.List.length:Int),2)) (by
    simp only[jO];rw[if_pos (by simp),i1,aK];grind[aP])]
   rw[bU (s':=((q0.List.length+q1.List.length+q2.List.length:Int),3)) (by
    simp only[jO];rw[if_pos (by simp),i2,aK];grind[aP])]
   simp_all[bM,jO]
  rw[lp,aK];simp only[IB,IA];have hid:=(aRG v).1 hi;have z0:GO (SW z)=0/\GO (IP z)=0:=by
   have:∀w,j9 w->SW z w=0/\IP z w=0:=fun w hw=>by obtain⟨a,b⟩:=hid w hw;grind[SW,IP]
   grind[GO]
  have hk:kT z.Log=N:=by have:=tl.sum;omega
  have lt:((aF5 z.Log).length:Int)=N:=by grind[kT,aF5]
  have lp2:loop (lU (aF5 z.Log)) (0,z)=some (Out.brk z):=
   iH (f:=lU (aF5 z.Log)) (aF5 z.Log).length (fun k=>((k:Int),z)) (Out.brk z) (fun k hk=>by
    have hm:=List.mem_filter.1 (dC hk);obtain⟨hc,hj⟩:=tl.tell _ hm.1 (by grind);obtain⟨p0,p1⟩:=a4C hj;have hx:=a61 p0;simp only[lU,wP,gQ];rw[if_pos (by simp;omega),aV hk,aK,aOH (by omega),aK,if_neg (by grind),hx,aK,aP (by omega) (by omega)];unfold bA7 at p1;grind) (by simp[lU])
  rw[lp2,aK];simp only[H9,H8,lT];have h3:=v.K0.1;have h4:=v.todo.1;have hs:=aMT (l:=z.Log) fun e he k=>(tl.tell e he k).1;have hle:=List.countP_le_length (p:=fun e:lV=>e.Kind == 3) (l:=z.Log);rw[aT6 (by omega) (by omega) hi,aK,if_pos rfl,if_pos (by grind),aGW (by omega),aK,aGW (by omega),aK,aGW (by omega),aK,aGW (by omega),aK,
   aP (x:=(cN 0 z.Log:Int)+cN 7 z.Log) (by omega) (by omega),aP (x:=(cN 0 z.Log:Int)+cN 7 z.Log+cN 6 z.Log) (by omega) (by omega),aP (x:=(cN 0 z.Log:Int)+cN 7 z.Log+cN 6 z.Log+cN 3 z.Log) (by omega) (by omega)]
  grind
 ·rw[gZ ht,PQ,if_pos rfl];have e1:nZ x=some BM:=by unfold nZ;rw[(WN f1 f2 f3).2,aK,if_neg ht];rfl
  rw[e1,aK,aT7];rfl
end Go.Gv
end
