import Derived.Test.YtfaippimkklgfaaGreatXZH
set_option linter.unusedVariables false
set_option linter.unusedSimpArgs false
set_option linter.unusedSectionVars false
set_option linter.constructorNameAsVariable false
set_option linter.unnecessarySimpa false
noncomputable section
namespace Go.Gv
noncomputable section
variable {b:List UInt8} {i h:Int} (hc:Cu b i)
include hc
theorem opD:tF (UD ⟨b,i,h⟩) (fun x=>tD x.1/\Cu b x.2.1):=by
 unfold UD;refine .bind (aAV hc (by decide) (by decide)) fun x1 ⟨hk,h1⟩=>?_;have hk7:1<=x1.1/\x1.1<=7:=by simp at hk;omega
 rw[aPD,aD];have key:∀(i' h' cell:Int),Cu b i'->(HH x1.1\/cell=0)->(0<=cell/\cell<=1)->tF (A9 ⟨b,i,h⟩ x1 i' h' cell) (fun x=>tD x.1/\Cu b x.2.1):=by
  intro i' h' cell hc' h2 h3;unfold A9 IM IL;refine .ite (fun q=>?_) (fun q=>?_)
  ·have q1:x1.1=1:=by grind
   have fin:∀(i h size:Int),Cu b i->(0<=size/\size<=100)->tF ((dI ⟨b,i,h⟩ 60000).bind fun x13=>some ((⟨x1.1,cell,size,x13.1⟩:kE),(x13.2.1,x13.2.2))) (fun x=>tD x.1/\Cu b x.2.1):=fun i h size hi hs=>
    .bind (below hi (by omega)) fun v ⟨hv,h4⟩=>.ret ⟨⟨hk7,h2,h3,by grind⟩,h4⟩
   refine .bind (below hc' (by omega)) fun s ⟨hs,h4⟩=>.bind (a91 h4 (by omega)) fun o h5=>.ite (fun _=>.bind (aAV h5 (by decide) (by decide)) fun p ⟨hp,h6⟩=>fin _ _ _ h6 (by grind)) (fun _=>fin _ _ _ h5 (by grind[aM]))
  ·have q1:¬x1.1=1:=by grind
   exact .ret ⟨⟨hk7,h2,h3,by simp⟩,hc'⟩
 refine .ite (fun q=>?_) (fun q=>?_)
 ·refine .bind (aAV h1 (by decide) (by decide)) fun x ⟨hx,h2⟩=>key _ _ _ h2 (.inl (of_decide_eq_true q)) (by grind)
 grind
theorem aY4{m:Int}(hm:0<=m/\m<=12):tF (xC ⟨b,i,h⟩ m) (fun x=>(x.1.length=3/\∀q∈x.1,q.lX.length<=m/\∀o∈q.lX,tD o)/\Cu b x.2.1):=by
 unfold xC;refine .bind (P:=fun x=>(x.1.length=3/\∀q∈x.1,q.lX.length<=m/\∀o∈q.lX,tD o)/\Cu b x.2.1) (.loop (fun s=>3 - s.2.1.toNat) (fun s=>((s.1.length:Int)=s.2.1/\s.2.1<=3/\∀q∈s.1,q.lX.length<=m/\∀o∈q.lX,tD o)/\Cu b s.2.2.1) ⟨⟨rfl,by simp,by simp⟩,hc⟩ ?_) fun x hx=>.ret hx;rintro⟨l,k,i',h'⟩ ⟨⟨e,k3,hq⟩,hi⟩;simp only at e k3 hq hi;simp only[PI];refine .ite (fun q=>?_) (fun q=>?_)
 ·have q':=of_decide_eq_true q;rw[aM (x:=m+1) (by omega) (by omega)];refine .bind (below hi (by omega)) fun n ⟨hn,h1⟩=>?_;refine .bind (P:=fun x=>((x.2.2.length:Int)<=m/\∀o∈x.2.2,tD o)/\Cu b x.1) (.loop (fun s=>s.1.toNat) (fun s=>(0<=s.1/\s.1+s.2.2.2.length<=m/\∀o∈s.2.2.2,tD o)/\Cu b s.2.1) ⟨⟨hn.1,by simp;omega,by simp⟩,h1⟩ ?_) ?_
  ·rintro⟨n,i1,h1,ops⟩ ⟨⟨n0,n1,ho⟩,hi1⟩;simp only at n0 n1 ho hi1;simp only[PG,EO];refine .ite (fun q=>?_) (fun q=>?_)
   ·have q1:=of_decide_eq_true q;refine .bind (opD hi1) fun o ⟨h2,h3⟩=>.need (by simp;omega) (.ret ?_);grind[aM]
   ·have q1:¬0<n:=by grind
    exact .ret ⟨⟨by grind,ho⟩,hi1⟩
  ·rintro⟨i1,h1,ops⟩ ⟨⟨o1,o2⟩,hi1⟩;simp only[PH,PF];refine .need (by simp;omega) (.ret ?_);grind[aM]
 ·have q':¬k<3:=by grind
  exact .ret ⟨⟨by grind,hq⟩,hi⟩
def aD7(l:List Queue):Prop:=l.length<=3/\∀q∈l,q.lX.length<=1000
omit hc in
theorem aPI{l:List Queue}(hl:aD7 l)(k:Nat){q:Queue}(hq:q.lX.length<=1000):aD7 (l.set k q):=⟨by simpa using hl.1,fun x hx=>(oC hx).elim (hl.2 x) (fun e=>e ▸ hq)⟩
theorem a5L:tF (CA ⟨b,i,h⟩) (fun x=>aD7 x.1/\Cu b x.2.1):=by
 unfold CA;refine .bind (aY4 hc (by omega)) fun x1 ⟨⟨l3,hq⟩,h1⟩=>.bind (below h1 (by omega)) fun x5 ⟨_,h5⟩=>?_;have hT:aD7 x1.1:=⟨by omega,fun q hq'=>by grind⟩;simp only[lQ,DD];refine .ite (fun _=>?_) fun _=>.ite (fun _=>?_) fun _=>.ite (fun _=>?_) fun _=>.ite (fun _=>?_) fun _=>?_
 ·exact .need (by omega) (.ret ⟨⟨by simp;omega,fun q hq'=>hT.2 q (List.mem_of_mem_take (by simpa using hq'))⟩,h5⟩)
 ·refine .bind (.idx (by omega)) fun x9 h9=>.bind (aAV h5 (by decide) (by decide)) fun x10 ⟨_,h10⟩=>?_;have:=hT.2 _ h9;have:=(hq _ h9).1;exact .need (by simp;omega) (.ret ⟨aPI hT _ (by simp;omega),h10⟩)
 ·refine .bind (P:=fun x=>aD7 x.1/\Cu b x.2.1) (.loop (fun s=>20 - ((s.1.getD 1 ⟨[]⟩).lX.length)) (fun s=>(s.1.length=3/\∀q∈s.1,q.lX.length<=13)/\Cu b s.2.1) ⟨⟨l3,fun q hq'=>by grind⟩,h5⟩ ?_) ?_
  ·rintro⟨l,i1,h1⟩ ⟨⟨l3,hq⟩,hi1⟩;simp only at l3 hq hi1;simp only[NG,DE];have hx:idx l 1=some l[1]:=aV (k:=1) (by omega);have hm:=hq _ (dW (show 1<l.length by omega));rw[hx];simp only[aD];refine .bind (below hi1 (by omega)) fun x ⟨hx2,hi2⟩=>.ite (fun q=>?_) (fun q=>?_)
   ·have q':=of_decide_eq_true q;rw[aM (by omega) (by omega)] at q';refine .need (by simp;omega) (.ret ?_);grind
   ·exact .ret ⟨⟨by grind,fun q hq'=>by grind⟩,hi2⟩
  ·rintro⟨l,i1,h1⟩ hx;exact .ret hx
 ·refine .bind (.idx (by omega)) fun x9 h9=>?_;have:=(hq _ h9).1;exact .need (by simp;omega) (.ret ⟨aPI hT _ (by simp;omega),h5⟩)
 ·exact .ret ⟨hT,h5⟩
theorem bB6{m:Int}(hm:m<=1000):tF (IN ⟨b,i,h⟩ m) (fun x=>x.1.length<=4000/\Cu b x.2.1):=by
 unfold IN;refine .bind (below hc (by omega)) fun x1 ⟨hx1,h1⟩=>?_;refine .bind (P:=fun x=>x.1.length<=4000/\Cu b x.2.1) (.loop (fun s=>s.2.1.toNat) (fun s=>(0<=s.2.1/\s.1.length+4*s.2.1<=4000)/\Cu b s.2.2.1) ⟨⟨hx1.1,by simp;omega⟩,h1⟩ ?_) fun x hx=>.ret hx;rintro⟨l,n,i1,h1⟩ ⟨⟨n0,n1⟩,hi1⟩;simp only at n0 n1 hi1;simp only[SN];refine .ite (fun q=>?_) (fun q=>?_)
 ·have q':=of_decide_eq_true q;refine .bind (below hi1 (by omega)) fun x13 ⟨_,h13⟩=>.bind (below h13 (by omega)) fun x14 ⟨hx14,h14⟩=>?_;rw[aM (by omega) (by omega)];refine .bind (P:=fun x=>(x.length:Int)<=l.length+4) (.loop (fun s=>s.2.toNat) (fun s=>0<=s.2/\(s.1.length:Int)+s.2<=l.length+4) ⟨by omega,by grind⟩ ?_) ?_
  ·rintro⟨r,k⟩ ⟨k0,k1⟩;simp only at k0 k1;simp only[SL];refine .ite (fun q=>?_) (fun q=>?_)
   ·have q2:=of_decide_eq_true q;refine .need (by simp;omega) (.ret ?_);grind[aM]
   ·exact .ret (by omega)
  ·intro r hr;simp only[SM,SK];refine .ret ?_;grind[aM]
 ·exact .ret ⟨by grind,hi1⟩
end
theorem aWU{code:List UInt8}(hl:code.length<=1048576):tF (tO code) (fun x=>aD7 x.cC/\x.a8.length<=5000):=by unfold tO;refine .bind (bD2 hl) fun x1 h1=>.bind (aY4 h1 (by omega)) fun x2 ⟨⟨l3,hq⟩,h2⟩=>.bind (bB6 h2 (by omega)) fun x3 ⟨p,h3⟩=>.bind (below h3 (by omega)) fun x6 ⟨_,h6⟩=>?_;have hT:aD7 x2.1:=⟨by omega,fun q hq'=>by grind⟩;simp only[lM];refine .ite (fun _=>.bind (a5L h6) fun x7 ⟨h7,_⟩=>.ret ⟨h7,by grind⟩) fun _=>.ite (fun _=>.need (by simp;omega) (.ret ⟨hT,by simp;omega⟩)) fun _=>.ret ⟨hT,by grind⟩
theorem a5M{x:nQ}(hx:aD7 x.cC):UE x=some (decide (YX x.cC)):=by
 unfold UE;rw[(aGI (t:=x.cC) (by have:=hx.1;omega) (fun q hq=>by have:=hx.2 q hq;omega)).1,aD];by_cases h:YX x.cC
 ·rw[aL h,b9 h];rfl
 ·rw[aO h,eE h];rfl
end Go.Gv
end
noncomputable section
namespace Go.Gv
def DZ(b:aA)(s:Int):Int:=if hQ b.Mem s=3 then(if cD b.bH s then 3 else 4) else hQ b.Mem s
theorem aWV(m:Mem)(s:Int):0<=hQ m s/\hQ m s<=3:=by grind[hQ]
theorem aMK(b:aA)(s:Int):0<=DZ b s/\DZ b s<=4:=by have:=aWV b.Mem s;grind[DZ]
def qX(b:aA):Nat->List Int
 | 0=>List.replicate 5 0
 | k+1=>(qX b k).set (DZ b k).toNat ((qX b k).getD (DZ b k).toNat 0+1)
theorem aBV(b:aA)(k:Nat):(qX b k).length=5:=by induction k with | zero=>rfl | succ k ih=>grind[qX]
theorem aWW(b:aA)(k:Nat):∀j,0<=(qX b k).getD j 0/\(qX b k).getD j 0<=k:=by
 induction k with
 | zero=>grind[qX]
 | succ k ih =>
  intro j;have h1:=ih j;grind[qX]
noncomputable section
variable {b:aA} (hb:nB b)
include hb
theorem aUM(s:Int):JD b s=some (DZ b s):=by have hm:=hb.1.1;obtain⟨h1,h2,h3,_⟩:=oA.facts hm;unfold JD DZ;rw[WO hm.1.1.1 (by omega) (by grind[maxLen]) (by grind[maxLen]),aD,K5 hb.1.2.2.1];grind[zQ]
theorem a0P(k:Nat):idx (qX b k) (DZ b k)=some ((qX b k).getD (DZ b k).toNat 0):=by grind[aMK,aBV,eW]
theorem nB.fits:b.Mem.Heap.Bytes.length<=maxLen/\(eU b.Mem.aB).length<=1073741824/\b.aG.cW.length<=maxLen/\b.bH.length<=maxLen/\(cS b.bH).length<=1073741824/\b.qZ.length<=maxLen:=by obtain⟨h1,h2,h3,h4,_⟩:=oA.facts hb.1.1;have a:=hb.1.2.1.2.1;have c:=hb.1.2.2.1.1;have d:=hb.1.2.2.1.2.1;have e:=hb.1.2.2.2.1;grind[maxLen]
theorem aWX:IA b=some (qX b 24):=by
 unfold IA;rw[aK (by omega),aLX (nB.fits hb),b9 hb,aD];have:=kT (f:=BU b true) 24 (fun k=>(qX b k,(k:Int))) (qX b 24) (fun k hk=>by
  have hr:=aWW b k (DZ b k).toNat;simp only[BU,BT];rw[aL (by simp;omega),aL trivial,aUM hb,aD,a0P hb,aD,aM (x:=(k:Int)+1) (by omega) (by omega),aM (by omega) (by omega)];rfl) (by simp[BU,BT])
 rw[show(List.replicate ((5:Int).toNat) (0:Int))=qX b 0 from rfl];have this':loop (BU b true) (qX b 0,0)=_:=this;rw[this'];rfl
end
end Go.Gv
end
noncomputable section
namespace Go.Gv
def aWY(p:Nat->Bool)(n:Nat):Nat:=((List.range n).filter p).length
theorem aFT(p:Nat->Bool)(n:Nat):aWY p (n+1)=aWY p n+if p n then 1 else 0:=by grind[aWY,List.range_succ]
theorem aPJ(b:aA)(k:Nat):∀j:Nat,j<5->(qX b k).getD j 0=(aWY (fun i=>decide (DZ b i=(j:Int))) k:Int):=by
 induction k with
 | zero=>intro j hj;simp only[qX,aWY,List.range_zero,List.filter_nil,List.length_nil,M6,List.getElem?_replicate,aL hj];rfl
 | succ k ih =>
  intro j hj;have hr:=aMK b k;have hl:=aBV b k;rw[aFT];simp only[qX,M6,List.getElem?_set];grind
end Go.Gv
end
noncomputable section
namespace Go.Gv
theorem aML{m:Mem}(hm:oA m){w h:Int}(hw:0<=w/\w<=2)(hv:mN m h):(∀t,bD (KF m w h).Heap t=bD m.Heap t)/\(∀t,0<=bD m.Heap t->mM (KF m w h).Heap t=if t=h % 32 then h / 32+1 else mM m.Heap t) /\
  (∀t,t≠h % 32->(t∈eU (KF m w h).aB↔t∈eU m.aB))/\hQ (KF m w h) (h % 32)≠3:=by
 obtain⟨hcnt,h3,h9,h1,h2,hsm,hcp,hlo,hsG,hsO⟩:=oA.facts hm;have hcl:=jF hv.2.1;have hc2:0<=bD m.Heap (h % 32)/\bD m.Heap (h % 32)<=2:=by obtain⟨_,q,e⟩:=AA hcl;rw[e];exact nN.1 (by omega)
 have hg6:1<=h / 32/\h / 32<=6:=by have:=hv.1;grind[kW]
 obtain⟨_,hg⟩:=YN.a4Z hm.1.1 hcl (g:=h / 32+1) (by omega);have hh:(KF m w h).Heap=⟨st4 m.Heap.Bytes (gA (h % 32) (bD m.Heap (h % 32))).toNat (h / 32+1),m.Heap.Class⟩:=by simp[KF,apply_ite]
 have kx:(w*3+bD m.Heap (h % 32)).toNat<m.aB.Own.length:=by omega
 have ky:(bD m.Heap (h % 32)).toNat<m.aB.Global.length:=by omega
 have hl:∀t,t∈eU (KF m w h).aB↔t∈eU m.aB\/(h / 32+1<=6/\t=h % 32):=fun t=>by
  unfold KF eU;by_cases q:h / 32+1<=6
  ·rw[aL q];split
   ·rw[<-eP kx];simp only[jB,MX kx,a88,q,true_and];grind
   ·rw[<-eP ky];simp only[jB,MX ky,a88,q,true_and];grind
  grind
 refine⟨fun t=>by rw[hh];rfl,fun t ht=>by grind,fun t ht=>by grind,fun hu=>?_⟩;have hu':=qO.1 hu;grind
theorem aWZ{m:Mem}(hm:oA m){w h:Int}(hw:0<=w/\w<=2)(hv:mN m h){t:Int}(ht:t≠h % 32):hQ (KF m w h) t=hQ m t:=by
 obtain⟨a,b,c,_⟩:=aML hm hw hv;by_cases q:0<=bD m.Heap t
 ·exact aRJ (a t) (by grind) (c t ht)
 ·have e:bD (KF m w h).Heap t=bD m.Heap t:=a t;simp_all[hQ]
end Go.Gv
end
noncomputable section
namespace Go.Gv
theorem Y0{m:Mem}{s:Int}:hQ m s=2↔0<=bD m.Heap s/\s∉eU m.aB/\6<mM m.Heap s:=by grind[hQ]
structure TZ (m m':Mem):Prop where
 gone:∀s,hQ m s=2->hQ m' s=2
 cls:∀p:Nat,p<6->cG m.Heap p≠-1->cG m'.Heap p≠-1
theorem TZ.refl(m:Mem):TZ m m:=⟨fun _ h=>h,fun _ _ h=>h⟩
theorem TZ.trans{a b c:Mem}(h:TZ a b)(k:TZ b c):TZ a c:=⟨fun s q=>k.gone s (h.gone s q),fun p hp q=>k.cls p hp (h.cls p hp q)⟩
theorem aMM{m:Mem}{ls:aB}(h:∀x∈eU ls,x∈eU m.aB):TZ m ⟨m.Heap,ls⟩:=
 ⟨fun s q=>by
  grind[Y0],fun _ _ h=>h⟩
theorem aY5{l:List aY}(k:Nat){x:Int}(h:x∈fJ (l.set k ⟨(aL8 (gZ l k)).1⟩)):x∈fJ l:=by
 rw[M1] at h ⊢;obtain⟨s,hs,hx⟩:=h;rcases oC hs with hs | rfl
 ·grind
 ·have hx:x∈(gZ l k).dropLast:=hx;grind[List.dropLast_sublist,gZ]
theorem a5N(m:Mem)(w c:Int):TZ m (YS m w c).1:=aMM fun x hx=>by grind[eU,aY5]
theorem a0Q(m:Mem)(c:Int):TZ m (TX m c).1:=aMM fun x hx=>by grind[eU,aY5]
theorem aW0{m:Mem}(hm:oA m){c:Int}(hc:0<=c/\c<=2):TZ m (YT m c).1:=by
 unfold YT;split
 ·exact TZ.refl m
 ·rename_i q;have hs:=hm.1.1.1;obtain⟨p6,pc⟩:=a45 hs q;obtain⟨a,b,d,e⟩:=YN.a9Y hm.1.1 p6 (by omega) hc;obtain⟨_,h3,_⟩:=oA.facts hm;refine⟨fun s hg=>?_,fun p hp h=>?_⟩
  ·obtain⟨g1,g2,g3⟩:=Y0.1 hg;obtain⟨q1,q2⟩:=d s g1;refine Y0.2 ⟨by grind,fun hx=>g2 ?_,by grind⟩;unfold eU at hx ⊢;rcases jB.1 hx with h | h
   ·refine aOL _ ?_;rw[M1] at h ⊢;obtain⟨t,ht,hxt⟩:=h;rcases oC ht with ht | rfl
    ·grind
    ·simp only at hxt;rcases jB.1 hxt with h | h
     ·unfold gZ at h;have hk:c.toNat<m.aB.Global.length:=by omega
      grind
     ·exfalso;have h:=aB0 h;unfold gS at h;obtain⟨i,hi,hi2⟩:=List.mem_map.1 h;have h4:=nZ c;have hi:=List.mem_range.1 hi;exact q1 (by omega)
   ·exact aSD _ h
  ·unfold cG at h ⊢;simp only;rw[M6,List.getElem?_set];split
   ·split
    ·simp only[Option.getD_some];omega
    ·simp
   ·rw[<-M6];exact h
theorem a0R{m:Mem}(hm:oA m){w h:Int}(hw:0<=w/\w<=2)(hv:mN m h):TZ m (KF m w h):=by
 obtain⟨f1,f2,f3,f4⟩:=aML hm hw hv;refine⟨fun s hg=>?_,fun p hp q=>?_⟩
 ·have hne:s≠h % 32:=fun e=>by rw[e] at hg;have:=hv.2.1;omega
  grind[aWZ]
 ·have hh:(KF m w h).Heap.Class=m.Heap.Class:=by simp[KF,apply_ite]
  grind[cG]
theorem aW1{m:Mem}(hm:oA m){h n:Int}(hn:0<=n/\n<=65535):TZ m (RV m h n).1:=by
 unfold RV;split
 ·rename_i hv;obtain⟨_,hg⟩:=YN.put hm.1.1 (jF hv.2.1) (n:=n) ⟨hn.1,by omega⟩;refine⟨fun s q=>?_,fun _ _ h=>h⟩;obtain⟨a,b,c⟩:=Y0.1 q;exact Y0.2 ⟨a,b,by grind⟩
 grind[TZ.refl]
structure tK (b b':aA):Prop where
 ep:b.aG.aQ<=b'.aG.aQ
 mem:TZ b.Mem b'.Mem
theorem tK.refl(b:aA):tK b b:=⟨aM4 _,TZ.refl _⟩
theorem tK.trans{a b c:aA}(h:tK a b)(k:tK b c):tK a c:=⟨Int.le_trans h.ep k.ep,h.mem.trans k.mem⟩
theorem tK.aUN{b b':aA}(h:TZ b.Mem b'.Mem)(e:b'.aG=b.aG):tK b b':=⟨by grind,h⟩
theorem tK.bD3{b b':aA}(h:b.aG.aQ<=b'.aG.aQ)(e:b'.Mem=b.Mem):tK b b':=⟨h,by grind[TZ.refl]⟩
theorem tK.same{b b':aA}(e1:b'.Mem=b.Mem)(e2:b'.aG.aQ=b.aG.aQ):tK b b':=.bD3 (by omega) e1
theorem mW{c:Prop}[Decidable c]{b0:aA}{p q:aA×Sub}(h1:c->tK b0 p.1)(h2:¬c->tK b0 q.1):tK b0 (if c then p else q).1:=by grind
theorem a8S(c:aG)(w e:Int):(aL9 c w e).1.aQ=c.aQ:=by grind[aL9]
theorem a0S{b:aA}(hb:nB b){w:Int}(hw:0<=w/\w<=2)(s:Sub):tK b (iC b w s).1:=by
 have r:tK b b:=tK.refl b;have al:∀p:Mem×Int,TZ b.Mem p.1->tK b (YU b s p).1:=fun p h=>by unfold YU;refine mW (fun _=>.aUN h rfl) fun _=>mW (fun _=>.aUN h rfl) fun _=>.aUN h rfl
 unfold iC;refine mW (fun _=>r) fun _=>mW (fun _=>?_) fun _=>mW (fun _=>?_) fun _=>mW (fun _=>?_) fun _=>mW (fun _=>?_) fun _=>mW (fun _=>?_) fun _=>r
 ·unfold aRL;have hc:=aL7 s.A;refine mW (fun _=>r) fun q=>mW (fun _=>al _ (a5N _ _ _)) fun _=>mW (fun _=>al _ (a0Q _ _)) fun _=>mW (fun _=>al _ (aW0 hb.1.1 (by omega))) fun _=>r
 ·unfold aI5;exact mW (fun _=>r) fun _=>mW (fun _=>mW (fun _=>mW (fun _=>.same rfl rfl) fun _=>r) fun _=>r) fun _=>r
 ·unfold aDZ;have lk:=a8S b.aG s.B s.E;refine mW (fun _=>r) fun _=>mW (fun _=>mW (fun _=>mW (fun _=>.same rfl lk) fun _=>.same rfl lk) fun _=>r) fun _=>mW (fun _=>.bD3 ?_ rfl) fun _=>r;show b.aG.aQ<=(aMA b.aG s.E).1.aQ;unfold aMA;grind
 ·unfold aD1;refine mW (fun _=>r) fun _=>mW (fun _=>mW (fun _=>r) fun _=>r) fun _=>mW (fun _=>mW (fun _=>mW (fun _=>r) fun _=>r) fun _=>r) fun _=>mW (fun _=>mW (fun q=>?_) fun _=>r) fun _=>r;have hlive:mN b.Mem s.H:=by have h1:=(hb.2 _ (aGD hb.1.2.2.1 hw (aT4 ⟨q.1.1,q.1.2.1⟩))).1;rw[q.1.2.2] at h1;exact h1
  exact .aUN (a0R hb.1.1 hw hlive) rfl
 ·have pt:(YV b.aG w s.E).1.aQ=b.aG.aQ:=by grind[YV]
  unfold a8H;exact mW (fun _=>r) fun _=>mW (fun _=>mW (fun _=>.same rfl pt) fun _=>.same rfl pt) fun _=>mW (fun _=>mW (fun _=>r) fun _=>r) fun _=>r
end Go.Gv
end
noncomputable section
namespace Go.Gv
theorem aFU{b:aA}(hb:nB b){w:Int}(hw:0<=w/\w<=2)(s:Sub):hU s b w=some ((iC b w s).2,(iC b w s).1):=by obtain⟨x,y,e1,e2,h⟩:=step_eq hb hb.small hw s;grind[aD2]
theorem at_eq{code:List UInt8}(hl:code.length<=1048576){i:Int}(hi:0<=i/\i<=1000):tF (aIX code i) (fun x=>0<=x/\x<=255):=by
 unfold aIX;refine .ite (fun q=>?_) fun q=>?_
 ·have q':=of_decide_eq_true q;exact .bind (.idx ⟨hi.1,q'⟩) fun x _=>.ret (by have:=x.toNat_lt;omega)
 ·rw[aM (x:=i*37) (by omega) (by omega),aM (x:=(code.length:Int)*11) (by omega) (by omega),aM (by omega) (by omega)];refine .ret ?_;grind
end Go.Gv
end
noncomputable section
namespace Go.Gv
def Y1:aR:=⟨false,⟨false,[]⟩,0,0,0,0,0,0,0,0,aUE,false,0,⟨0,0,0,0,0,0,0,0,0,false⟩,[],[],[],[],[],[]⟩
def wX(k:List dZ)(i:Int):dZ:=k.getD i.toNat ⟨0,0,0⟩
def abF(j:aR)(c:Int):aR:={j with Pc:=16,Code:=c}
def aMN(a b:Int):Int:=Int.tmod (bB (a+b)) 65536
def T0(j:aR)(x:bC):Bool×aR:=if 6<(aLY j.aU x).length then(false,abF j 1) else(true,{j with aU:=aLY j.aU x})
def aRW(j:aR)(is:Bool)(v:Int):aR:={j with gN:=j.gN ++ [⟨is,v⟩],Pc:=1,At:=j.At+1}
def a8T(j:aR)(c:kJ)(v:Int):aR:=if(T0 j ⟨c.Key,false,aMN v c.cK⟩).1 then aRW (T0 j ⟨c.Key,false,aMN v c.cK⟩).2 true (aMN v c.cK) else(T0 j ⟨c.Key,false,aMN v c.cK⟩).2
def aUO(j:aR)(c:kJ)(v:Int)(is:Bool):aR:=if c.Kind=4 then a8T j c (if is then v else 0) else aRW j is (if is then v else 0)
def l7(j:aR):kJ:=j.Batch.cB.getD j.At.toNat ⟨0,0,0⟩
def VG(j:aR):Prop:=j.At<j.Batch.cB.length
instance (j:aR):Decidable (VG j):=by unfold VG;infer_instance
def a5O(j:aR):aR:=
 if VG j then
  if(l7 j).Kind=2\/(l7 j).Kind=3 then
   if(T0 j ⟨(l7 j).Key,(l7 j).Kind == 3,(l7 j).cK⟩).1 then {(T0 j ⟨(l7 j).Key,(l7 j).Kind == 3,(l7 j).cK⟩).2 with At:=j.At+1,gN:=j.gN ++ [⟨false,0⟩]}
   else(T0 j ⟨(l7 j).Key,(l7 j).Kind == 3,(l7 j).cK⟩).2
  else if(aOE j.aU (l7 j).Key).2 then aUO j (l7 j) (aOE j.aU (l7 j).Key).1.cK (!(aOE j.aU (l7 j).Key).1.OQ)
  else {j with Pc:=2,dZ:=OK (l7 j).Key}
 else {j with Pc:=6,K:=0,Sub:=W4 1 16}
def aY6(b:aA)(k:List dZ)(w:Int)(j:aR):aR:=
 if j.Pc=2 then
  if(wX k j.dZ).lP≠0 then abF j 7
  else {j with hJ:=(wX k j.dZ).hJ,H:=(wX k j.dZ).Head,Found:=false,Node:=aUE,Pc:=if(wX k j.dZ).Head=0 then 5 else 3}
 else if j.Pc=3 then {j with Node:=ZV b.Mem.Heap j.H,Pc:=4}
 else if j.Pc=4 then
  if ¬((mO b.aG w).On=true/\(mO b.aG w).fB=false) then abF j 6
  else if VG j then {j with Found:=j.Node.Key == (l7 j).Key,H:=aFQ j.Node,Pc:=if j.Node.Key=(l7 j).Key\/aFQ j.Node=0 then 5 else 3}
  else abF j 1
 else
  if(wX k j.dZ).lP≠0\/(wX k j.dZ).hJ≠j.hJ then abF j 7
  else if(LG j.Reads j.dZ j.hJ).2=false then abF {j with Reads:=(LG j.Reads j.dZ j.hJ).1} 7
  else if VG j then aUO {j with Reads:=(LG j.Reads j.dZ j.hJ).1} (l7 j) j.Node.cK j.Found
  else abF {j with Reads:=(LG j.Reads j.dZ j.hJ).1} 1
def a5P(b:aA)(w:Int)(j:aR):aA×aR:=
 if KB j.aU j.aU.length<=j.K then(b,{j with Pc:=7,K:=0})
 else((iC b w j.Sub).1,
  if(iC b w j.Sub).2.dB=false then {j with Sub:=(iC b w j.Sub).2}
  else if(iC b w j.Sub).2.Code≠0\/¬kW (iC b w j.Sub).2.Out\/6<=j.iM.length then abF {j with Sub:=(iC b w j.Sub).2} (iC b w j.Sub).2.Code
  else {j with iM:=j.iM ++ [(iC b w j.Sub).2.Out],K:=j.K+1,Sub:=W4 1 16})
def l8(j:aR):Int:=(KC j.aU).getD j.K.toNat 0
def aRX(j:aR):aR:={j with cD:=if l8 j∈j.cD then j.cD else j.cD ++ [l8 j],K:=j.K+1}
def aUP(k:List dZ)(w:Int)(j:aR):List dZ×aR×Bool:=
 if j.K<(KC j.aU).length then
  if(wX k (l8 j)).lP≠0\/(j.Reads.any fun s=>s.dZ == l8 j && s.hJ != (wX k (l8 j)).hJ)=true then(k,abF j 7,false)
  else if(wX k (l8 j)).hJ=1000000 then(k,abF j 3,false)
  else if(KC j.aU).length<=j.K+1 then(k.set (l8 j).toNat {wX k (l8 j) with lP:=w+1},{aRX j with Pc:=8,K:=0},true)
  else(k.set (l8 j).toNat {wX k (l8 j) with lP:=w+1},aRX j,false)
 else(k,{j with Pc:=8,K:=0},true)
def rdN(j:aR):Seen:=j.Reads.getD j.K.toNat ⟨0,0⟩
def a8U(k:List dZ)(w:Int)(j:aR):aR:=
 if j.Reads.length<=j.K then {j with Pc:=9,K:=0}
 else if((wX k (rdN j).dZ).lP≠0/\(wX k (rdN j).dZ).lP≠w+1)\/(wX k (rdN j).dZ).hJ≠(rdN j).hJ then abF j 7
 else {j with K:=j.K+1}
def plF(j:aR)(x:bC):aR:=if x.OQ then {j with Pc:=9,K:=j.K+1} else {j with Pc:=12}
def wrN(j:aR):bC:=j.aU.getD j.K.toNat ⟨0,false,0⟩
def aUQ(j:aR):Int:=j.iM.getD (KB j.aU j.K).toNat 0
def aRY(j:aR):aR:=if kW j.H/\j.dR.length<6 then {j with dR:=j.dR ++ [j.H]} else j
def aUR(b:aA)(k:List dZ)(j:aR):aA×List dZ×aR:=
 if j.aU.length<=j.K then(b,k,{j with Pc:=14})
 else if j.Pc=9 then(b,k,if(wX k (OK (wrN j).Key)).Head=0 then plF {j with Pc:=10,H:=(wX k (OK (wrN j).Key)).Head,iJ:=0} (wrN j) else {j with Pc:=10,H:=(wX k (OK (wrN j).Key)).Head,iJ:=0})
 else if j.Pc=10 then
  (b,k,if(ZV b.Mem.Heap j.H).Key=(wrN j).Key then {j with Pc:=11,Node:=ZV b.Mem.Heap j.H}
   else if aFQ (ZV b.Mem.Heap j.H)=0 then plF {j with Node:=ZV b.Mem.Heap j.H} (wrN j)
   else {j with H:=aFQ (ZV b.Mem.Heap j.H),iJ:=j.H,Node:=ZV b.Mem.Heap j.H})
 else if j.Pc=11 then
  if j.iJ=0 then(b,k.set (OK (wrN j).Key).toNat {wX k (OK (wrN j).Key) with Head:=aFQ j.Node},plF (aRY j) (wrN j))
  else({b with Mem:=Gv.aUI b.Mem j.iJ (aFQ j.Node)},k,plF (aRY j) (wrN j))
 else if j.iM.length<=KB j.aU j.K then(b,k,abF j 1)
 else if j.Pc=12 then({b with Mem:=aUH b.Mem (aUQ j) ⟨(wrN j).Key,(wrN j).cK,(wX k (OK (wrN j).Key)).Head⟩},k,{j with Pc:=13})
 else(b,k.set (OK (wrN j).Key).toNat {wX k (OK (wrN j).Key) with Head:=aUQ j},{j with Pc:=9,K:=j.K+1})
def a0T(j:aR):aR:=if j.K<j.dR.length then {j with Sub:=W4 2 (j.dR.getD j.K.toNat 0)} else j
def Y2(j:aR):Int:=j.cD.getD 0 0
def aUS(k:List dZ)(j:aR):List dZ×aR:=
 if 0<j.cD.length then
  (k.set (Y2 j).toNat (if j.Pc=14 then⟨(wX k (Y2 j)).Head,if 1000000<(wX k (Y2 j)).hJ+1 then 1000000 else(wX k (Y2 j)).hJ+1,0⟩ else {wX k (Y2 j) with lP:=0}),{j with cD:=j.cD.drop 1})
 else if j.Pc=16 then(k,{j with Pc:=17})
 else(k,a0T {j with Pc:=15,K:=0})
def a5Q(b:aA)(w:Int)(j:aR):aA×aR:=
 if j.dR.length<=j.K then(b,{j with Pc:=18})
 else((iC b w j.Sub).1,if(iC b w j.Sub).2.dB then a0T {j with K:=j.K+1,Sub:=(iC b w j.Sub).2} else {j with Sub:=(iC b w j.Sub).2})
def a5R(m:Mem)(w x:Int):Mem:=if mN m x then KF m w x else m
def a5S(b:aA)(w:Int)(j:aR):aA×aR:=
 if j.iM.length=0 then(b,{j with Pc:=18})
 else(if cD b.bH (j.iM.getD 0 0 % 32) then b else {b with Mem:=a5R b.Mem w (j.iM.getD 0 0)},{j with iM:=j.iM.drop 1})
def a0U(b:aA)(w:Int)(j:aR):aA×aR:=
 ((iC b w j.Sub).1, if(iC b w j.Sub).2.dB = false then {j with Sub := (iC b w j.Sub).2}
  else if j.Pc=0 then {j with Pc:=1,Sub:=(iC b w j.Sub).2}
  else if j.Pc=20 then {j with Pc:=21,Sub:=W4 4 0}
  else {j with Pc:=19,Sub:=(iC b w j.Sub).2})
def tlE(w:Int)(j:aR):QO:=⟨3,w,j.aI,j.Code,[],if j.Code=0 then j.gN else []⟩
structure TR where
 b:aA
 k:List dZ
 j:aR
 l:List QO
def doF(b:aA)(k:List dZ)(w:Int)(j:aR):TR:=
 if j.Pc=0\/j.Pc=20\/j.Pc=21 then⟨(a0U b w j).1,k,(a0U b w j).2,[]⟩
 else if j.Pc=1 then⟨b,k,a5O j,[]⟩
 else if 2<=j.Pc/\j.Pc<=5 then⟨b,k,aY6 b k w j,[]⟩
 else if j.Pc=6 then⟨(a5P b w j).1,k,(a5P b w j).2,[]⟩
 else if j.Pc=7 then⟨b,(aUP k w j).1,(aUP k w j).2.1,if(aUP k w j).2.2 then [⟨2,w,j.aI,0,[],[]⟩] else []⟩
 else if j.Pc=8 then⟨b,k,a8U k w j,[]⟩
 else if 9<=j.Pc/\j.Pc<=13 then⟨(aUR b k j).1,(aUR b k j).2.1,(aUR b k j).2.2,[]⟩
 else if j.Pc=14\/j.Pc=16 then⟨b,(aUS k j).1,(aUS k j).2,[]⟩
 else if j.Pc=15 then⟨(a5Q b w j).1,k,(a5Q b w j).2,[]⟩
 else if j.Pc=17 then⟨(a5S b w j).1,k,(a5S b w j).2,[]⟩
 else if j.Pc=18 then⟨{b with aG:=(RU b.aG w).1},k,{j with Pc:=19},[]⟩
 else if j.Pc=19 then⟨b,k,Y1,[tlE w j]⟩
 else⟨b,k,abF j 1,[]⟩
def g7(t:Table)(w:Int):aR:=t.aH.getD w.toNat Y1
def quT(t:Table)(w:Int):List Batch:=(t.cC.getD w.toNat ⟨[]⟩).List
def QI(b:Batch)(s:Int):aR:=⟨true,b,s,if b.Collect then 20 else 0,0,0,0,0,0,0,aUE,false,0,if b.Collect then W4 3 0 else W4 5 0,[],[],[],[],[],[]⟩
def a8V(t:Table)(w:Int)(b:Batch):Table:=⟨t.aA,t.dP,t.aH.set w.toNat (QI b (t.aI+1)),t.cC.set w.toNat ⟨(quT t w).drop 1⟩,t.Log ++ [⟨1,w,t.aI+1,0,b.cB,[]⟩],t.aI+1⟩
def aOH(t:Table)(w:Int)(r:TR):Table:=⟨r.b,r.k,t.aH.set w.toNat r.j,t.cC,t.Log++r.l,t.aI⟩
def Y3(t:Table)(w:Int):Table:=
 if(g7 t w).iI then aOH t w (doF t.aA t.dP w (g7 t w))
 else if(quT t w).length=0\/t.aI=1000000 then t else a8V t w ((quT t w).getD 0 ⟨false,[]⟩)
def ZW(c:kJ):Prop:=(1<=c.Kind/\c.Kind<=4)/\(0<=c.Key/\c.Key<=99)/\(0<=c.cK/\c.cK<=65535)/\(c.Kind=2\/c.Kind=4\/c.cK=0)
instance (c:kJ):Decidable (ZW c):=by unfold ZW;infer_instance
def ZX(b:Batch):Prop:=(b.Collect=true->b.cB=[])/\b.cB.length<=6/\(∀c∈b.cB,ZW c)/\(b.Collect=false->1<=b.cB.length)
instance (b:Batch):Decidable (ZX b):=by unfold ZX;infer_instance
def QuV(q:aN):Prop:=q.List.length<=12/\∀b∈q.List,ZX b
instance (q:aN):Decidable (QuV q):=by unfold QuV;infer_instance
def aBW(l:List aN):Prop:=l.length=3/\∀q∈l,QuV q
instance (l:List aN):Decidable (aBW l):=by unfold aBW;infer_instance
def BkV(b:dZ):Prop:=eV b.Head/\(0<=b.hJ/\b.hJ<=1000000)/\(0<=b.lP/\b.lP<=3)
def WrV(l:List bC):Prop:=l.length<=6/\(∀x∈l,(0<=x.Key/\x.Key<=99)/\(0<=x.cK/\x.cK<=65535))/\l.Pairwise (fun x y=>x.Key<y.Key)
structure JB (j:aR):Prop where
 busy:j.iI=true
 bat:ZX j.Batch
 h:eV j.H
 prev:eV j.iJ
 bkt:0<=j.dZ/\j.dZ<=1
 at_:0<=j.At/\j.At<=j.Batch.cB.length
 k:0<=j.K/\j.K<=6
 new:j.iM.length<=6/\∀x∈j.iM,kW x
 old:j.dR.length<=6/\∀x∈j.dR,kW x
 reads:(∀s∈j.Reads,0<=s.dZ/\s.dZ<=1)/\(j.Reads.map Seen.dZ).Nodup
 wr:WrV j.aU
 held:(∀x∈j.cD,0<=x/\x<=1)/\j.cD.Nodup
 res:(j.gN.length:Int)=j.At
 node:0<=j.Node.cK/\j.Node.cK<=4294967295
structure TV (t:Table):Prop where
 base:nB t.aA
 bk:t.dP.length=2/\∀x∈t.dP,BkV x
 a00:t.aH.length=3/\∀j∈t.aH,j=Y1\/JB j
 todo:aBW t.cC
 ser:0<=t.aI/\t.aI<=1000000
end Go.Gv
end
noncomputable section
namespace Go.Gv
theorem aPK{j:aR}(hw:j.aU.length<=1000)(x:bC):sG j x=some (T0 j x):=by
 unfold sG T0;rw[aFM hw,aD];by_cases h:6<(aLY j.aU x).length
 ·rw[aL (by simp;omega),aL h];rfl
 grind
theorem aFV(j:aR)(x:bC):(T0 j x).2.gN=j.gN/\(T0 j x).2.At=j.At:=by grind[T0,abF]
theorem aPL{j:aR}(hw:j.aU.length<=1000)(hr:j.gN.length<=1000)(ha:0<=j.At/\j.At<=1000)(c:kJ)(v:Int)(is:Bool):sH j c v is=some (aUO j c v is):=by
 have key:∀u,nJ j c is u=some (if c.Kind=4 then a8T j c u else aRW j is u):=fun u=>by
  unfold nJ;by_cases hk:c.Kind=4
  ·rw[aL (by grind),aL hk];unfold aBD a8T;rw[aD,show Int.tmod (bB (u+c.cK)) 65536=aMN u c.cK from rfl,aPK hw,aD];obtain⟨e1,e2⟩:=aFV j ⟨c.Key,false,aMN u c.cK⟩;cases h:(T0 j ⟨c.Key,false,aMN u c.cK⟩).1
   ·simp
   ·rw[aO (by simp),aL rfl];grind[nI,rM,aRW,aK,aM]
  ·rw[aO (by grind),aO hk];grind[nI,rM,aRW,aK,aM]
 unfold sH aUO;grind
theorem aMO{j:aR}(hl:j.Batch.cB.length<=1000)(ha:0<=j.At):qG j=some (if VG j then(l7 j,true,j) else(⟨0,0,0⟩,false,j)):=by
 unfold qG l7;rw[eC,aD,aM (by omega) (by omega)];by_cases hc:VG j
 ·have h:j.At<j.Batch.cB.length:=hc;rw[b9 (by omega),aO (by simp),aL hc,eW ha h,aD];grind
 ·have h:¬j.At<j.Batch.cB.length:=hc;grind
theorem a5U{j:aR}(hl:j.Batch.cB.length<=1000)(hw:j.aU.length<=1000)(hr:j.gN.length<=1000)(ha:0<=j.At/\j.At<=1000):GB j=some (a5O j):=by
 unfold GB a5O;rw[aMO hl ha.1,aD];by_cases h:VG j
 ·rw[aL h,aL h];have put:kR (l7 j,true,j) true j=some (if(T0 j ⟨(l7 j).Key,(l7 j).Kind == 3,(l7 j).cK⟩).1 then {(T0 j ⟨(l7 j).Key,(l7 j).Kind == 3,(l7 j).cK⟩).2 with At:=j.At+1,gN:=j.gN ++ [⟨false,0⟩]} else(T0 j ⟨(l7 j).Key,(l7 j).Kind == 3,(l7 j).cK⟩).2):=by
   unfold kR;rw[aL rfl,aPK hw,aD];obtain⟨e1,e2⟩:=aFV j ⟨(l7 j).Key,(l7 j).Kind == 3,(l7 j).cK⟩;cases (T0 j ⟨(l7 j).Key,(l7 j).Kind == 3,(l7 j).cK⟩).1
   ·rw[aO (by simp),aO (by simp)]
   ·rw[aL rfl,aL rfl,aK (by rw[e1];simp;omega)];simp only[e1,e2];rw[aM (by omega) (by omega)]
  have get:kR (l7 j,true,j) false j=some (if(aOE j.aU (l7 j).Key).2 then aUO j (l7 j) (aOE j.aU (l7 j).Key).1.cK (!(aOE j.aU (l7 j).Key).1.OQ) else {j with Pc:=2,dZ:=OK (l7 j).Key}):=by
   unfold kR GA;rw[aO (by simp),aIA hw,aD];cases (aOE j.aU (l7 j).Key).2
   ·rw[aO (by simp),aO (by simp),RP];rfl
   ·rw[aL rfl,aL rfl,aPL hw hr ha];rfl
  grind
 ·rw[aO h,aO h];rfl
theorem C7{t:Table}{w:Int}(h3:t.aH.length=3)(hw:0<=w/\w<=2):idx t.aH w=some (g7 t w):=by grind[eW,g7]
theorem aFW{k:List dZ}{i:Int}(h2:k.length=2)(hi:0<=i/\i<=1):idx k i=some (wX k i):=by grind[eW,wX]
theorem aD8{α:Type}{l:List α}{i:Int}{x:α}(h:0<=i/\i<l.length):idx (l.set i.toNat x) i=some x:=by grind[eW]
theorem aY7{t:Table}{w:Int}(h3:t.aH.length=3)(hw:0<=w/\w<=2):g7 t w∈t.aH:=by grind[g7]
def aUT(t:Table)(w:Int)(j:aR):Table:={t with aH:=t.aH.set w.toNat j}
noncomputable section
variable {t:Table} {w:Int} (h3:t.aH.length=3) (h2:t.dP.length=2) (hb:nB t.aA) (hw:0<=w/\w<=2) (hj:JB (g7 t w))
include h3 h2 hb hw hj
theorem Y4:(g7 t w).Batch.cB.length<=1000/\(g7 t w).aU.length<=1000/\(g7 t w).gN.length<=1000/\(0<=(g7 t w).At/\(g7 t w).At<=1000)/\(g7 t w).Reads.length<=2:=by
 have h1:=hj.bat.2.1;have h4:=hj.at_;have h5:=hj.res;have h6:=hj.wr.1;refine⟨by omega,by omega,by omega,by omega,?_⟩;have hn:=hj.reads.2;have hm:∀x∈(g7 t w).Reads.map Seen.dZ,x=0\/x=1:=fun x hx=>by obtain⟨s,hs,rfl⟩:=List.mem_map.1 hx;have:=hj.reads.1 s hs;omega
 have hl:((g7 t w).Reads.map Seen.dZ).length<=2:=by
  match h:(g7 t w).Reads.map Seen.dZ,hn,hm with
  | [],_,_=>simp
  | [_],_,_=>simp
  | [_,_],_,_=>simp
  | x :: y :: z :: r, hn, hm =>
   (simp_all;omega)
 grind
theorem a8W:CQ t w=some (aUT t w (aY6 t.aA t.dP w (g7 t w))):=by
 obtain⟨s1,s2,s3,s4,s5⟩:=Y4 h3 h2 hb hw hj;have hjob:=C7 h3 hw;unfold CQ DO aY6 aUT;rw[hjob,aD,aFW h2 hj.bkt,aD,aD,aMO s1 s4.1,aD];generalize hjj:g7 t w=j at *;have e62:(if VG j then(l7 j,true,j) else((⟨0,0,0⟩:kJ),false,j)).2.2=j:=by grind
 have set2:∀x y:aR,(t.aH.set w.toNat x).set w.toNat y=t.aH.set w.toNat y:=fun x y=>K8 ..;have iset:∀x:aR,idx (t.aH.set w.toNat x) w=some x:=fun x=>aD8 ⟨hw.1,by omega⟩;simp only[e62];by_cases p2:j.Pc=2
 ·have p2':(j.Pc == 2)=true:=by grind
  simp only[p2',aP,aL p2];by_cases hl:(wX t.dP j.dZ).lP=0
  ·have e:((wX t.dP j.dZ).lP != 0)=false:=by grind
   simp only[e,aT,aS,aO (not_not_intro hl)];by_cases hh:(wX t.dP j.dZ).Head=0
   ·have e:((wX t.dP j.dZ).Head == 0)=true:=by grind
    simp only[e,aP,aL hh];rfl
   ·have e:((wX t.dP j.dZ).Head == 0)=false:=by grind
    simp only[e,aT,aS,aO hh];rfl
  ·have e:((wX t.dP j.dZ).lP != 0)=true:=by grind
   simp only[e,aP,aL hl];rfl
 ·have p2':(j.Pc == 2)=false:=by grind
  simp only[p2',aT,aS,aO p2];by_cases p3:j.Pc=3
  ·have p3':(j.Pc == 3)=true:=by grind
   simp only[p3',aP,aL p3];obtain⟨c,e⟩:=aPG hb.1.1 j.H;rw[e];rfl
  ·have p3':(j.Pc == 3)=false:=by grind
   simp only[p3',aT,aS,aO p3];by_cases p4:j.Pc=4
   ·have p4':(j.Pc == 4)=true:=by grind
    simp only[p4',aP,aL p4];rw[EF hb.1.2.1 hw,aD];simp only[lT,jH];have hp:(if(mO t.aA.aG w).On=true then some (!(mO t.aA.aG w).fB) else some false)=some (decide ((mO t.aA.aG w).On=true/\(mO t.aA.aG w).fB=false)):=by cases (mO t.aA.aG w).On<;>cases (mO t.aA.aG w).fB<;>rfl
    rw[hp,aD];by_cases hpin:(mO t.aA.aG w).On=true/\(mO t.aA.aG w).fB=false
    ·simp only[b9 hpin,eF,aT,aS,aO (not_not_intro hpin)];by_cases hc:VG j
     ·simp only[aL hc,eF,aT,aS,aRV,aD,DM,uB,iset,set2];grind
     ·simp only[aO hc,o7,aP];rfl
    ·simp only[eE hpin,o7,aP,aL hpin];rfl
   ·have p4':(j.Pc == 4)=false:=by grind
    simp only[p4',aT,aS,aO p4];have tail:jW t w (if VG j then(l7 j,true,j) else((⟨0,0,0⟩:kJ),false,j)) false=some (aUT t w (if(LG j.Reads j.dZ j.hJ).2=false then abF {j with Reads:=(LG j.Reads j.dZ j.hJ).1} 7
      else if VG j then aUO {j with Reads:=(LG j.Reads j.dZ j.hJ).1} (l7 j) j.Node.cK j.Found
      else abF {j with Reads:=(LG j.Reads j.dZ j.hJ).1} 1)):=by
     simp only[jW,DN,e62,iset,aD,set2,aT,aS];rw[aIB (by omega),aD];cases hs:(LG j.Reads j.dZ j.hJ).2
     ·rfl
     ·simp only[eF,aT,aS,reduceCtorEq];by_cases hc:VG j
      ·simp only[aL hc,eF,aT,aS];rw[aPL (j:={j with Reads:=(LG j.Reads j.dZ j.hJ).1}) s2 s3 s4];rfl
      ·simp only[aO hc,o7,aP];rfl
    have ab:jW t w (if VG j then(l7 j,true,j) else((⟨0,0,0⟩:kJ),false,j)) true=some (aUT t w (abF j 7)):=by simp only[jW,e62,iset,aD,set2,aP];rfl
    by_cases hl:(wX t.dP j.dZ).lP=0
    ·have e:((wX t.dP j.dZ).lP != 0)=false:=by grind
     simp only[e,aT,aS];by_cases hv:(wX t.dP j.dZ).hJ=j.hJ
     ·have e:((wX t.dP j.dZ).hJ != j.hJ)=false:=by grind
      rw[e,tail,aO (show ¬((wX t.dP j.dZ).lP≠0\/(wX t.dP j.dZ).hJ≠j.hJ) from fun q=>q.elim (fun h=>h hl) fun h=>h hv)];rfl
     ·have e:((wX t.dP j.dZ).hJ != j.hJ)=true:=by grind
      rw[e,ab,aL (.inr hv)];rfl
    ·have e:((wX t.dP j.dZ).lP != 0)=true:=by grind
     simp only[e,aP];rw[ab,aL (.inl hl)];rfl
end
end Go.Gv
end
noncomputable section
namespace Go.Gv
def Y5(t:Table)(w:Int)(p:aA×aR):Table:={t with aA:=p.1,aH:=t.aH.set w.toNat p.2}
noncomputable section
variable {t:Table} {w:Int} (h3:t.aH.length=3) (h2:t.dP.length=2) (hb:nB t.aA) (hw:0<=w/\w<=2) (hj:JB (g7 t w))
include h3 h2 hb hw hj
theorem a5V:uA t w=some (Y5 t w (a0U t.aA w (g7 t w))):=by
 unfold uA a0U Y5;rw[C7 h3 hw,aD,aFU hb hw,aD];generalize g7 t w=j at *;generalize iC t.aA w j.Sub=r;cases hd:r.2.dB
 ·rfl
 ·simp only[hd,eF,aT,aS,reduceCtorEq];by_cases p0:j.Pc=0
  ·grind
  ·have e:(j.Pc == 0)=false:=by grind
   simp only[e,aT,aS,aO p0];by_cases p20:j.Pc=20
   ·have e:(j.Pc == 20)=true:=by grind
    simp only[e,aP,aL p20];rfl
   grind
theorem a0V:zJ t w=some (Y5 t w (a5P t.aA w (g7 t w))):=by
 obtain⟨s1,s2,s3,s4,s5⟩:=Y4 h3 h2 hb hw hj;have hjob:=C7 h3 hw;have hk:=hj.k;have hn:=hj.new.1;unfold zJ a5P Y5;rw[hjob,aD,aDU s2,aD];generalize hjj:g7 t w=j at *;have set2:∀x y:aR,(t.aH.set w.toNat x).set w.toNat y=t.aH.set w.toNat y:=fun x y=>K8 ..;have iset:∀x:aR,idx (t.aH.set w.toNat x) w=some x:=fun x=>aD8 ⟨hw.1,by omega⟩;unfold AV;by_cases hp:KB j.aU j.aU.length<=j.K
 ·grind
 ·rw[eE hp,aO (by simp),aO hp,hjob,aD,aFU hb hw,aD];generalize iC t.aA w j.Sub=r;cases hd:r.2.dB
  ·rfl
  ·have ab:iB w true {t with aA:=r.1,aH:=t.aH.set w.toNat {j with Sub:=r.2}}=some {t with aA:=r.1,aH:=t.aH.set w.toNat (abF {j with Sub:=r.2} r.2.Code)}:=by simp_all[iB,dE,abF]
   have go:j.iM.length<6->iB w false {t with aA:=r.1,aH:=t.aH.set w.toNat {j with Sub:=r.2}}=some {t with aA:=r.1,aH:=t.aH.set w.toNat {j with iM:=j.iM ++ [r.2.Out],K:=j.K+1,Sub:=W4 1 16}}:=fun h6=>by simp only[iB,aT,aS,iset,aD,set2,AU,eO,AT];rw[aK (by simp;omega),aM (by omega) (by omega)];rfl
   simp only[hd,eF,aT,aS,reduceCtorEq];by_cases hc:r.2.Code=0
   ·have e:(r.2.Code != 0)=false:=by grind
    simp only[e,aT,aS,fQ,aD];grind
   grind
theorem a5W:rN t w=some (aUT t w (a8U t.dP w (g7 t w))):=by
 have hjob:=C7 h3 hw;have hk:=hj.k;have hr:=hj.reads.1;unfold rN uF a8U aUT;rw[hjob,aD,aD];generalize hjj:g7 t w=j at *;by_cases hp:(j.Reads.length:Int)<=j.K
 ·grind
 ·have hi:j.K.toNat<j.Reads.length:=by omega
  have er:rdN j=j.Reads[j.K.toNat]:=by grind[rdN]
  have hbk:=hr j.Reads[j.K.toNat] (dW hi);rw[aO (by grind),aO hp,aD,eW hk.1 (by omega),aD,<-er];rw[<-er] at hbk;unfold uE uD;rw[aFW h2 hbk,aD,aM (by omega) (by omega)];have ab:fW t w true=some {t with aH:=t.aH.set w.toNat (abF j 7)}:=by simp_all[fW,dE,abF]
  have go:fW t w false=some {t with aH:=t.aH.set w.toNat {j with K:=j.K+1}}:=by simp only[fW,aT,aS,hjob,aD];grind[aM]
  grind
theorem aOI{l:List Seen}(hl:l.length<=1000)(f:Seen->Bool)(g:Seen->Option Bool)(hg:∀x,g x=some (f x)):jL l g=some (l.any f):=by
 have e:g=fun x=>some (f x):=funext hg;rw[e];unfold jL;rcases aGA (s:=l) (p:=f) (by omega) with ⟨j,h,h1,h2,h3⟩ | ⟨h1,h3⟩
 ·rw[h3,aD,b9 (by omega)];congr 1;exact(List.any_eq_true.2 ⟨l[j],dW h,h2⟩).symm
 ·rw[h3,aD,eE (by omega)];congr 1;refine(List.any_eq_false.2 fun x hx=>?_).symm;obtain⟨i,hi,rfl⟩:=aJA hx;simp[h1 i hi]
def bD4(t:Table)(w:Int)(p:List dZ×aR×Bool):Table:={t with dP:=p.1,aH:=t.aH.set w.toNat p.2.1,Log:=t.Log++if p.2.2 then [⟨2,w,(g7 t w).aI,0,[],[]⟩] else []}
theorem a8X(hl:t.Log.length<=1000000):CT t w=some (bD4 t w (aUP t.dP w (g7 t w))):=by
 obtain⟨s1,s2,s3,s4,s5⟩:=Y4 h3 h2 hb hw hj;have hjob:=C7 h3 hw;have hk:=hj.k;have hd:=hj.held;have hwr:=hj.wr;unfold CT aUP bD4;rw[hjob,aD,aIC (by have:=hwr.1;omega) (fun x hx=>(hwr.2.1 x hx).1),aD];generalize hjj:g7 t w=j at *;have set2:∀x y:aR,(t.aH.set w.toNat x).set w.toNat y=t.aH.set w.toNat y:=fun x y=>K8 ..;have iset:∀x:aR,idx (t.aH.set w.toNat x) w=some x:=fun x=>aD8 ⟨hw.1,by omega⟩;have hheld:j.cD.length<=2:=by
  match h:j.cD,hd with
  | [],_=>simp
  | [_],_=>simp
  | [_,_],_=>simp
  | x :: y :: z :: r, ⟨hm, hn⟩ =>
   (simp_all;omega)
 by_cases hp:j.K<(KC j.aU).length
 ·have hi:j.K.toNat<(KC j.aU).length:=by omega
  have er:l8 j=(KC j.aU)[j.K.toNat]:=by grind[l8]
  have hbk:0<=l8 j/\l8 j<=1:=by grind[aTZ,dW]
  rw[aL (by grind),aL hp,eW hk.1 hp,aD,<-er,aFW h2 hbk,aD];have ab:iT t w (KC j.aU) (l8 j) true=some {t with aH:=t.aH.set w.toNat (abF j 7)}:=by simp_all[iT,dE,abF]
  have en:∀x:aR,x.K=j.K->x.aI=j.aI->oW t w (KC j.aU) (l8 j) (wX t.dP (l8 j)) (t.aH.set w.toNat x) =
    some {t with dP:=t.dP.set (l8 j).toNat {wX t.dP (l8 j) with lP:=w+1},aH:=t.aH.set w.toNat (if(KC j.aU).length<=j.K+1 then {x with K:=0,Pc:=8} else {x with K:=j.K+1}),Log:=t.Log++if(KC j.aU).length<=j.K+1 then [⟨2,w,j.aI,0,[],[]⟩] else []}:=fun x hx hs=>by
   simp only[oW,oV,uC,iset,set2,aD,hx,hs];rw[aM (by omega) (by omega),aM (by omega) (by omega)];by_cases hq:((KC j.aU).length:Int)<=j.K+1
   ·rw[aL (by grind),aK (by simp;omega),aL hq,aL hq]
   grind
  have go:iT t w (KC j.aU) (l8 j) false=some (if(wX t.dP (l8 j)).hJ=1000000 then {t with aH:=t.aH.set w.toNat (abF j 3)} else
    {t with dP:=t.dP.set (l8 j).toNat {wX t.dP (l8 j) with lP:=w+1},aH:=t.aH.set w.toNat (if(KC j.aU).length<=j.K+1 then {aRX j with K:=0,Pc:=8} else aRX j),Log:=t.Log++if(KC j.aU).length<=j.K+1 then [⟨2,w,j.aI,0,[],[]⟩] else []}):=by
   unfold iT;rw[aO (by simp),aFW h2 hbk,aD];by_cases hv:(wX t.dP (l8 j)).hJ=1000000
   ·simp_all[dE,abF]
   ·have e:((wX t.dP (l8 j)).hJ == 1000000)=false:=by grind
    simp only[e,aT,aS,aO hv,hjob,aD];rw[contains_eq (by grind[maxLen]),aD];by_cases hm:l8 j∈j.cD
    ·rw[b9 hm,aO (by simp)];have:=en j rfl rfl;rw[show t.aH.set w.toNat j=t.aH by
      rw[<-hjj];unfold g7;rw[M6,l9 (show w.toNat<t.aH.length by omega)];simp] at this
     simp_all[aRX]
    ·rw[eE hm,aL (by rfl),aK (by simp;omega)];unfold DS;rw[en {j with cD:=j.cD ++ [l8 j]} rfl rfl];unfold aRX;rw[aO hm]
  have fin:∀B:Bool,iT t w (KC j.aU) (l8 j) B=some (if B=true then {t with aH:=t.aH.set w.toNat (abF j 7)} else if(wX t.dP (l8 j)).hJ=1000000 then {t with aH:=t.aH.set w.toNat (abF j 3)} else
    {t with dP:=t.dP.set (l8 j).toNat {wX t.dP (l8 j) with lP:=w+1},aH:=t.aH.set w.toNat (if(KC j.aU).length<=j.K+1 then {aRX j with K:=0,Pc:=8} else aRX j),Log:=t.Log++if(KC j.aU).length<=j.K+1 then [⟨2,w,j.aI,0,[],[]⟩] else []}):=fun B=>by
   cases B
   ·simp only[aT,aS];exact go
   ·simp only[aP];exact ab
  have cf:jL j.Reads (fun y0=>wN y0 (l8 j) (wX t.dP (l8 j)))=some (j.Reads.any fun s=>s.dZ == l8 j && s.hJ != (wX t.dP (l8 j)).hJ):=
   aOI h3 h2 hb hw (by grind) (by omega) _ _ fun x=>by unfold wN qH;cases x.dZ == l8 j<;>rfl
  by_cases hl0:(wX t.dP (l8 j)).lP=0
  ·have e:((wX t.dP (l8 j)).lP != 0)=false:=by grind
   simp only[e,aT,aS];rw[cf,aD,fin];by_cases hany:(j.Reads.any fun s=>s.dZ == l8 j && s.hJ != (wX t.dP (l8 j)).hJ)=true
   ·grind
   ·rw[aO hany,aO (show ¬((wX t.dP (l8 j)).lP≠0\/(j.Reads.any fun s=>s.dZ == l8 j && s.hJ != (wX t.dP (l8 j)).hJ)=true) from fun q=>q.elim (fun a=>a hl0) hany)];by_cases hv:(wX t.dP (l8 j)).hJ=1000000
    ·rw[aL hv,aL hv];simp
    ·rw[aO hv,aO hv];by_cases hq:((KC j.aU).length:Int)<=j.K+1
     ·simp only[aL hq];rfl
     ·simp only[aO hq];rfl
  grind
 ·rw[aO (by grind),aO hp];unfold oV uC;rw[hjob,aD,aL (by simp;omega),aK (by simp;omega),aD];rfl
end
end Go.Gv
end
noncomputable section
namespace Go.Gv
def aW2(t:Table)(w:Int)(p:aA×List dZ×aR):Table:={t with aA:=p.1,dP:=p.2.1,aH:=t.aH.set w.toNat p.2.2}
theorem aMP{j:aR}(hk:0<=j.K/\j.K<=100)(x:bC):pN j x=some (plF j x):=by
 unfold pN plF;cases x.OQ
 ·rfl
 ·simp only[aP];grind[aM]
theorem a5X{j:aR}(hk:0<=j.K):mH j=some (a0T j):=by
 unfold mH a0T;by_cases h:j.K<j.dR.length
 ·have hi:j.K.toNat<j.dR.length:=by omega
  rw[aL (by grind),aL h,eW hk h,aD];simp only[eO,aD,sI,M6,l9 hi,Option.getD_some];rfl
 grind
theorem aW3{m:Mem}(hm:oA m){w:Int}(hw:0<=w/\w<=2)(x:Int):∃c,MH m w x=some (a5R m w x,c):=by
 obtain⟨hcnt,h3,h9,h1,h2,hsm,hcp,hlo,hsG,hsO⟩:=oA.facts hm;have hbl:m.Heap.Bytes.length<=maxLen:=by grind[maxLen]
 unfold MH a5R;rw[JK hbl (by omega),b9 hm,aD,aO (by simp),kD,b9 hw,aD];unfold CV;rw[aO (by simp),HE hm.1.1.1 (by omega) (by omega) (by omega),aD];by_cases hl:mN m x
 ·obtain⟨m',e1,e2,_,_⟩:=aRK hm hw hl;simp_all[aMC]
 simp_all[QF]
theorem a8Y{α:Type}{l:List α}{a b:Nat}(hab:a<=b)(hb:b<=l.length):((dC l a (l.drop b)).take (a+(l.length - b))).drop 0=l.take a++l.drop b:=by
 have h1:(l.take a).length=a:=by grind
 have h2:(l.drop b).length=l.length - b:=by simp
 unfold dC;rw[RX,aON (l:=l.drop b) (by omega),<-M4,show a+(l.length - b)=(l.take a++l.drop b).length by grind];grind
theorem aUU{l:List Int}(h:0<l.length)(hl:l.length<=1000):qI l 0 1=some (l.drop 1):=by
 unfold qI;rw[aK (by omega),aO (by simp),aK (by omega),aK (by omega),aK (by decide),a8Y (by decide) (show Int.toNat 1<=l.length from h),aK]
 ·rfl
 ·rw[eY (by simp)];simp only[JO,ZZ,aBZ,Int.toNat_zero];omega
noncomputable section
variable {t:Table} {w:Int} (h3:t.aH.length=3) (h2:t.dP.length=2) (hb:nB t.aA) (hw:0<=w/\w<=2) (hj:JB (g7 t w))
include h3 h2 hb hw hj
theorem a5Y:zK t w=some (aW2 t w (aUR t.aA t.dP (g7 t w))):=by
 obtain⟨s1,s2,s3,s4,s5⟩:=Y4 h3 h2 hb hw hj;have hjob:=C7 h3 hw;have hk:=hj.k;have hwr:=hj.wr;have hol:=hj.old.1;unfold zK A0 aUR aW2;rw[hjob,aD,aD];generalize hjj:g7 t w=j at *;have set2:∀x y:aR,(t.aH.set w.toNat x).set w.toNat y=t.aH.set w.toNat y:=fun x y=>K8 ..;have iset:∀x:aR,idx (t.aH.set w.toNat x) w=some x:=fun x=>aD8 ⟨hw.1,by omega⟩;by_cases hp:(j.aU.length:Int)<=j.K
 ·grind
 ·have hi:j.K.toNat<j.aU.length:=by omega
  have er:wrN j=j.aU[j.K.toNat]:=by grind[wrN]
  have hx:=hwr.2.1 j.aU[j.K.toNat] (dW hi);rw[<-er] at hx;have hbk:0<=OK (wrN j).Key/\OK (wrN j).Key<=1:=by unfold OK;omega
  rw[aO (by grind),aO hp,aD,eW hk.1 (by omega),aD,<-er];unfold AZ;rw[RP,aD,aFW h2 hbk,aD,hjob,aD];generalize wrN j=x at *;generalize hbb:OK x.Key=bi at *;have ex:(⟨x.Key,x.OQ,x.cK⟩:bC)=x:=rfl;rw[ex];by_cases p9:j.Pc=9
  ·have e:(j.Pc == 9)=true:=by grind
   simp only[e,aP,aL p9];by_cases hh:(wX t.dP bi).Head=0
   ·have e:((wX t.dP bi).Head == 0)=true:=by grind
    simp only[e,aP,aL hh];grind[aMP]
   grind
  ·have e : (j.Pc == 9) = false := by grind
   simp only[e,aT,aS,aO p9];by_cases p10:j.Pc=10
   ·have e:(j.Pc == 10)=true:=by grind
    simp only[e,aP,aL p10];obtain⟨c,e⟩:=aPG hb.1.1 j.H;rw[e,aD];simp only;by_cases hkey:(ZV t.aA.Mem.Heap j.H).Key=x.Key
    ·grind
    ·have e:((ZV t.aA.Mem.Heap j.H).Key == x.Key)=false:=by grind
     simp only[e,aT,aS,aO hkey,aRV,aD];by_cases hs:aFQ (ZV t.aA.Mem.Heap j.H)=0
     ·have e:(aFQ (ZV t.aA.Mem.Heap j.H) == 0)=true:=by grind
      simp only[e,aP,aL hs];grind[aMP]
     simp_all[AW]
   ·have e:(j.Pc == 10)=false:=by grind
    simp only[e,aT,aS,aO p10];by_cases p11:j.Pc=11
    ·have e:(j.Pc == 11)=true:=by grind
     simp only[e,aP,aL p11];have cut:∀u:Table,u.aH=t.aH->nL w x.Key x.OQ x.cK u=some {u with aH:=t.aH.set w.toNat (plF (aRY j) x)}:=fun u hu=>by
      have hju:idx u.aH w=some j:=by grind
      have last:∀v:Table,∀y:aR,idx v.aH w=some y->(0<=y.K/\y.K<=100)->nK w x.Key x.OQ x.cK v=some {v with aH:=v.aH.set w.toNat (plF y x)}:=fun v y hy hyk=>by simp_all[nK,aMP]
      unfold nL rO AX aRY;rw[hju,aD,fQ,aD];by_cases hh:kW j.H
      ·rw[b9 hh,aL rfl];by_cases h6:j.dR.length<6
       ·rw[b9 (by omega),aL rfl,aD,aK (by simp;omega),last _ {j with dR:=j.dR ++ [j.H]} (by grind) (by grind),aL ⟨hh,h6⟩];grind
       grind
      grind
     by_cases hpv:j.iJ=0
     ·simp_all[aRV]
     ·have e:(j.iJ == 0)=false:=by grind
      simp only[e,aT,aS,aO hpv,aRV,aD];obtain⟨c,e⟩:=a0O hb.1.1 j.iJ (aFQ j.Node);grind[AY]
    ·have e:(j.Pc == 11)=false:=by grind
     simp only[e,aT,aS,aO p11];have hpn:0<=KB j.aU j.K:=by grind[KB]
     have hbs:t.dP.set bi.toNat (wX t.dP bi)=t.dP:=by grind[wX,aJB]
     unfold KW;rw[aDU s2,aD];by_cases hn:(j.iM.length:Int)<=KB j.aU j.K
     ·rw[aL (by grind),aL hn];simp only[dE,aD,hbs];rfl
     ·have hi2:(KB j.aU j.K).toNat<j.iM.length:=by omega
      have en:aUQ j=j.iM[(KB j.aU j.K).toNat]:=by grind[aUQ]
      rw[aO (by grind),aO hn,eW hpn (by omega),<-en];by_cases p12:j.Pc=12
      ·have e:(j.Pc == 12)=true:=by grind
       simp only[e,aP,aL p12,aD];obtain⟨c,e⟩:=aWT hb.1.1 (aUQ j) ⟨x.Key,x.cK,(wX t.dP bi).Head⟩;grind[DT]
      ·have e:(j.Pc == 12)=false:=by grind
       simp only[e,aT,aS,aO p12,aD];grind[aM]
def aY8(t:Table)(w:Int)(p:List dZ×aR):Table:={t with dP:=p.1,aH:=t.aH.set w.toNat p.2}
theorem a0W(hk1:∀x∈t.dP,BkV x):wO t w=some (aY8 t w (aUS t.dP (g7 t w))):=by
 have hjob:=C7 h3 hw;have hd:=hj.held;unfold wO aUS aY8;rw[hjob,aD];generalize hjj:g7 t w=j at *;have hheld:j.cD.length<=2:=by
  match h:j.cD,hd with
  | [],_=>simp
  | [_],_=>simp
  | [_,_],_=>simp
  | x :: y :: z :: r, ⟨hm, hn⟩ =>
   (simp_all;omega)
 by_cases hp:0<j.cD.length
 ·have er:Y2 j=j.cD[0]:=by grind[Y2]
  have hbk:=hd.1 j.cD[0] (dW hp);rw[<-er] at hbk;have hbv:BkV (wX t.dP (Y2 j)):=by grind[wX]
  have hver:=hbv.2.1;rw[aL (by grind),aL hp,show(0:Int)=((0:Nat):Int) from rfl,aV hp,aD,<-er,aFW h2 hbk,aD];have un:∀k,mI t w k=some {t with dP:=k,aH:=t.aH.set w.toNat {j with cD:=j.cD.drop 1}}:=fun k=>by grind[mI,aUU]
  by_cases p14:j.Pc=14
  ·have e:(j.Pc == 14)=true:=by grind
   simp only[e,aP,aL p14];grind[aM]
  ·have e:(j.Pc == 14)=false:=by simpa using p14
   simp only[e,aT,aS,aO p14];rw[un]
 ·rw[aO (by simpa using hp),aO hp];by_cases p16:j.Pc=16
  ·have e:(j.Pc == 16)=true:=by simpa using p16
   simp only[e,aP,aL p16]
  ·have e:(j.Pc == 16)=false:=by simpa using p16
   simp only[e,aT,aS,aO p16];rw[a5X (j:={j with Pc:=15,K:=0}) (aM4 _)];rfl
theorem aW4:wP t w=some (Y5 t w (a5Q t.aA w (g7 t w))):=by
 have hjob:=C7 h3 hw;have hk:=hj.k;unfold wP xW a5Q Y5;rw[hjob,aD,aD];generalize hjj:g7 t w=j at *;by_cases hp:(j.dR.length:Int)<=j.K
 ·grind
 ·rw[aO (by grind),aO hp,aD,aFU hb hw,aD];generalize iC t.aA w j.Sub=r;cases hd:r.2.dB
  ·simp
  ·simp only[hd,aP];grind[aM,a5X]
theorem drop_eq:CX t w=some (Y5 t w (a5S t.aA w (g7 t w))):=by
 have hjob:=C7 h3 hw;have hn:=hj.new;unfold CX a5S Y5;rw[hjob,aD];generalize hjj:g7 t w=j at *;by_cases hp:j.iM.length=0
 ·grind
 ·have hp0:0<j.iM.length:=by omega
  have er:j.iM.getD 0 0=j.iM[0]:=by grind
  have hh:=hn.2 j.iM[0] (dW hp0);rw[<-er] at hh;rw[aO (by grind),aO hp,show(0:Int)=((0:Nat):Int) from rfl,aV hp0,aD,<-er,show((0:Nat):Int)=0 from rfl,aUU hp0 (by omega),aD,(kW.mod hh).1,WQ hb.1.2.2.1,aD];by_cases hl:cD t.aA.bH (j.iM.getD 0 0 % 32)
  ·grind
  ·rw[eE hl,aL (by rfl),aO hl];obtain⟨c,e⟩:=aW3 hb.1.1 hw (j.iM.getD 0 0);rw[e];rfl
theorem aW5(hl:t.Log.length<=1000000):uG t w=some {t with aH:=t.aH.set w.toNat Y1,Log:=t.Log ++ [tlE w (g7 t w)]}:=by
 have hjob:=C7 h3 hw;unfold uG tlE;rw[hjob,aD];generalize hjj:g7 t w=j at *;by_cases hc:j.Code=0
 ·have e:(j.Code == 0)=true:=by grind
  simp only[e,aP,aL hc];rw[aK (by simp;omega)];rfl
 ·have e:(j.Code == 0)=false:=by grind
  simp only[e,aT,aS,aO hc];rw[aK (by simp;omega)];rfl
end
end Go.Gv
end
noncomputable section
namespace Go.Gv
theorem a0X{b:aA}(hb:nB b){w:Int}(hw:0<=w/\w<=2):∃c,k9 b w=some (c,{b with aG:=(RU b.aG w).1}):=by obtain⟨r,e1,e2,_,_⟩:=aD5 hb.1.2.1 hw;rw[ZL hb.1.2.1 hw] at e1;simp_all[k9]
noncomputable section
variable {t:Table} {w:Int} (h3:t.aH.length=3) (h2:t.dP.length=2) (hb:nB t.aA) (hw:0<=w/\w<=2)
include h3 h2 hb hw
theorem a8Z(hq3:t.cC.length=3)(hqv:∀q∈t.cC,q.List.length<=12/\∀b∈q.List,ZX b)(hs:0<=t.aI/\t.aI<=1000000)(hl:t.Log.length<=1000000) :
  zH t w=some (if(quT t w).length=0\/t.aI=1000000 then t else a8V t w ((quT t w).getD 0 ⟨false,[]⟩)):=by
 have hqi:w.toNat<t.cC.length:=by omega
 have hq:idx t.cC w=some ⟨quT t w⟩:=by simp_all[eW,quT]
 have hqm:(⟨quT t w⟩:aN)∈t.cC:=by unfold quT;rw[M6,l9 hqi];exact dW _
 have hqq:=hqv _ hqm;simp only at hqq;unfold zH;rw[hq,aD];simp only;by_cases h0:(quT t w).length=0
 ·simp_all[nH]
 ·have e:(((quT t w).length:Int) == 0)=false:=by grind
  rw[aO (by rw[e];simp)];unfold nH;by_cases hm:t.aI=1000000
  ·grind
  ·have e:(t.aI == 1000000)=false:=by grind
   have hp0:0<(quT t w).length:=by omega
   have er:(quT t w).getD 0 ⟨false,[]⟩=(quT t w)[0]:=by grind
   have hbv:=hqq.2 (quT t w)[0] (dW hp0);rw[<-er] at hbv;rw[aO (by rw[e];simp),hq,aD];simp only;have i0:idx (quT t w) 0=some ((quT t w)[0]):=aV hp0;rw[i0,aD,<-er,aO (fun q=>q.elim h0 hm)];unfold LC;rw[aK (by omega),aD];generalize hbb:(quT t w).getD 0 ⟨false,[]⟩=b at *;simp only[eO,aD];unfold AS;have fin:∀x:aR,x.aI=t.aI+1->x.Batch.Collect=b.Collect->nG t w ⟨quT t w⟩ b x=some ⟨t.aA,t.dP,t.aH.set w.toNat {x with Batch:=⟨x.Batch.Collect,b.cB⟩,Reads:=[],aU:=[],gN:=[],iM:=[],cD:=[],dR:=[]},t.cC.set w.toNat ⟨(quT t w).drop 1⟩,t.Log ++ [⟨1,w,t.aI+1,0,b.cB,[]⟩],t.aI+1⟩:=fun x hx _=>by unfold nG sD AR;rw[C7 h3 hw,aD,aK (by have:=hbv.2.1;simp;omega),aD,aK (by simp;omega),hx,aM (by omega) (by omega)];rfl
   have e1:bB (t.aI+1)=t.aI+1:=aM (by omega) (by omega);unfold a8V QI;cases hc:b.Collect
   ·rw[aO (by simp),fin _ (by omega) (by grind)];simp only[e1,hc,aT,aS];have eb:(⟨false,b.cB⟩:Batch)=b:=by cases b;grind
    rw[eb];rfl
   ·rw[aL rfl];simp only[eO,aD];rw[fin _ (by omega) (by grind)];simp only[e1,hc,aP];have eb:(⟨true,b.cB⟩:Batch)=b:=by cases b;grind
    rw[eb];rfl
end
theorem VH(t:Table)(w:Int)(p:aA×aR):aOH t w ⟨p.1,t.dP,p.2,[]⟩=Y5 t w p:=by grind[aOH,Y5]
theorem a5Z{t:Table}(hv:TV t)(hl:t.Log.length<=1000000){w:Int}(hw:0<=w/\w<=2):CY t w=some (Y3 t w):=by
 have h3:=hv.a00.1;have h2:=hv.bk.1;have hb:=hv.base;have hjob:=C7 h3 hw;have hjv:=hv.a00.2 _ (aY7 h3 hw);unfold CY Y3;rw[hjob,aD];cases hbusy:(g7 t w).iI
 ·simp only[o7,aP,aT,aS];rw[a8Z h3 h2 hb hw hv.todo.1 hv.todo.2 hv.ser hl];rfl
 ·have hj : JB (g7 t w) := hjv.resolve_left fun e => by rw[e] at hbusy; cases hbusy
  simp only[eF,aT,aS,aP];unfold doF;by_cases p0:(g7 t w).Pc=0\/(g7 t w).Pc=20\/(g7 t w).Pc=21
  ·rw[aL p0,VH];have go:j3 t w (g7 t w) true=some (Y5 t w (a0U t.aA w (g7 t w))):=by simp_all[j3,a5V]
   grind
  ·rw[aO p0];have e0:((g7 t w).Pc == 0)=false:=by simp;omega
   have e20:((g7 t w).Pc == 20)=false:=by simp;omega
   have e21:((g7 t w).Pc == 21)=false:=by simp;omega
   simp only[e0,e20,e21,aT,aS];unfold j3;simp only[aT,aS,eC,aD];by_cases p1:(g7 t w).Pc=1
   ·have e:((g7 t w).Pc == 1)=true:=by grind
    simp_all[Y4,a5U,aOH]
   ·have e : ((g7 t w).Pc == 1) = false := by grind
    simp only[e,aT,aS,aO p1];by_cases p2:2<=(g7 t w).Pc/\(g7 t w).Pc<=5
    ·simp_all[a8W,aOH,aUT]
    ·simp only[eE p2,aT,aS,aO p2];by_cases p6:(g7 t w).Pc=6
     ·simp_all[a0V,VH]
     ·have e : ((g7 t w).Pc == 6) = false := by grind
      simp only[e,aT,aS,aO p6];by_cases p7:(g7 t w).Pc=7
      ·have e:((g7 t w).Pc == 7)=true:=by grind
       simp only[e,aP,aL p7];rw[a8X h3 h2 hb hw hj hl];rfl
      ·have e : ((g7 t w).Pc == 7) = false := by grind
       simp only[e,aT,aS,aO p7];by_cases p8:(g7 t w).Pc=8
       ·simp_all[a5W,aOH,aUT]
       ·have e : ((g7 t w).Pc == 8) = false := by grind
        simp only[e,aT,aS,aO p8];by_cases p9:9<=(g7 t w).Pc/\(g7 t w).Pc<=13
        ·simp_all[a5Y,aOH,aW2]
        ·simp only[eE p9,aT,aS,aO p9];by_cases p14:(g7 t w).Pc=14\/(g7 t w).Pc=16
         ·rw[aL p14];have go:lU t w (g7 t w) true=some (aY8 t w (aUS t.dP (g7 t w))):=by unfold lU;rw[aL rfl,a0W h3 h2 hb hw hj hv.bk.2];rfl
          grind[aY8,aOH]
         ·have e14:((g7 t w).Pc == 14)=false:=by simp;omega
          have e16:((g7 t w).Pc == 16)=false:=by simp;omega
          simp only[e14,e16,aT,aS,aO p14];unfold lU;simp only[aT,aS];by_cases p15:(g7 t w).Pc=15
          ·simp_all[aW4,VH]
          ·have e:((g7 t w).Pc == 15)=false:=by grind
           simp only[e,aT,aS,aO p15];by_cases p17:(g7 t w).Pc=17
           ·simp_all[drop_eq,VH]
           ·have e:((g7 t w).Pc == 17)=false:=by grind
            simp only[e,aT,aS,aO p17];by_cases p18:(g7 t w).Pc=18
            ·have e:((g7 t w).Pc == 18)=true:=by grind
             simp only[e,aP,aL p18];grind[a0X,aOH]
            ·have e:((g7 t w).Pc == 18)=false:=by grind
             simp only[e,aT,aS,aO p18];by_cases p19:(g7 t w).Pc=19
             ·have e:((g7 t w).Pc == 19)=true:=by grind
              simp only[e,aP,aL p19];rw[aW5 h3 h2 hb hw hj hl];rfl
             simp_all[aOH,dE,abF]
end Go.Gv
end
noncomputable section
namespace Go.Gv
def aUV(o:List bC)(x:bC):List bC:=o.takeWhile (fun y=>!decide (x.Key<y.Key)) ++ [x]++o.dropWhile (fun y=>!decide (x.Key<y.Key))
theorem aPM(y:bC)(r:List bC)(x:bC):aUV (y :: r) x=if x.Key<y.Key then x :: y :: r else y :: aUV r x:=by grind[aUV,List.takeWhile_cons,List.dropWhile_cons]
theorem aUW(o:List bC)(x z:bC):z∈aUV o x↔z=x\/z∈o:=by
 induction o with
 | nil=>simp[aUV]
 | cons y r ih =>
  grind[aPM]
theorem aUX{o:List bC}{x:bC}(hs:o.Pairwise (fun a b=>a.Key<b.Key))(hx:∀y∈o,y.Key≠x.Key):(aUV o x).Pairwise (fun a b=>a.Key<b.Key):=by
 induction o with
 | nil=>simp[aUV]
 | cons y r ih =>
  grind[aPM,List.pairwise_cons,aUW]
theorem a50{l:List bC}(h:WrV l){x:bC}(hx:(0<=x.Key/\x.Key<=99)/\(0<=x.cK/\x.cK<=65535))(hl:(aLY l x).length<=6):WrV (aLY l x):=by
 refine⟨hl,fun y hy=>?_,?_⟩
 ·rcases(aUW _ _ _).1 (show y∈aUV _ x from hy) with rfl | hy
  ·exact hx
  ·exact h.2.1 y (List.mem_filter.1 hy).1
 ·exact aUX (h.2.2.sublist List.filter_sublist) fun y hy=>by grind
theorem a51{a b:Int}(ha:0<=a/\a<=4294967295)(hb:0<=b/\b<=65535):0<=aMN a b/\aMN a b<=65535:=by grind[aMN,aM]
noncomputable section
variable {j:aR} (hj:JB j)
include hj
theorem JB.ab(c:Int):JB (abF j c):=⟨hj.busy,hj.bat,hj.h,hj.prev,hj.bkt,hj.at_,hj.k,hj.new,hj.old,hj.reads,hj.wr,hj.held,hj.res,hj.node⟩
theorem JB.pc(p:Int):JB {j with Pc:=p}:=⟨hj.busy,hj.bat,hj.h,hj.prev,hj.bkt,hj.at_,hj.k,hj.new,hj.old,hj.reads,hj.wr,hj.held,hj.res,hj.node⟩
theorem JB.sub(s:Sub):JB {j with Sub:=s}:=⟨hj.busy,hj.bat,hj.h,hj.prev,hj.bkt,hj.at_,hj.k,hj.new,hj.old,hj.reads,hj.wr,hj.held,hj.res,hj.node⟩
theorem JB.kk{k:Int}(h:0<=k/\k<=6):JB {j with K:=k}:=⟨hj.busy,hj.bat,hj.h,hj.prev,hj.bkt,hj.at_,h,hj.new,hj.old,hj.reads,hj.wr,hj.held,hj.res,hj.node⟩
theorem JB.nd{n:iZ}(h:0<=n.cK/\n.cK<=4294967295):JB {j with Node:=n}:=⟨hj.busy,hj.bat,hj.h,hj.prev,hj.bkt,hj.at_,hj.k,hj.new,hj.old,hj.reads,hj.wr,hj.held,hj.res,h⟩
theorem JB.hh{x:Int}(h:eV x):JB {j with H:=x}:=⟨hj.busy,hj.bat,h,hj.prev,hj.bkt,hj.at_,hj.k,hj.new,hj.old,hj.reads,hj.wr,hj.held,hj.res,hj.node⟩
theorem JB.pv{x:Int}(h:eV x):JB {j with iJ:=x}:=⟨hj.busy,hj.bat,hj.h,h,hj.bkt,hj.at_,hj.k,hj.new,hj.old,hj.reads,hj.wr,hj.held,hj.res,hj.node⟩
theorem JB.rd2:j.Reads.length<=2:=by
 have hn:=hj.reads.2;have hm:∀x∈j.Reads.map Seen.dZ,x=0\/x=1:=fun x hx=>by obtain⟨s,hs,rfl⟩:=List.mem_map.1 hx;have:=hj.reads.1 s hs;omega
 have hl:(j.Reads.map Seen.dZ).length<=2:=by
  match h:j.Reads.map Seen.dZ,hn,hm with
  | [],_,_=>simp
  | [_],_,_=>simp
  | [_,_],_,_=>simp
  | x :: y :: z :: r, hn, hm =>
   (simp_all;omega)
 grind
theorem JB.cmd(h:VG j):ZW (l7 j):=by
 have ha:=hj.at_;have hi:j.At.toNat<j.Batch.cB.length:=by grind[VG]
 unfold l7;rw[M6,l9 hi];exact hj.bat.2.2.1 _ (dW hi)
theorem JB.aRW(h:VG j)(is:Bool)(v:Int):JB (Gv.aRW j is v):=by have h':j.At<j.Batch.cB.length:=h;have ha:=hj.at_;have hr:=hj.res;exact⟨hj.busy,hj.bat,hj.h,hj.prev,hj.bkt,⟨by show 0<=j.At+1;omega,by show j.At+1<=(j.Batch.cB.length:Int);omega⟩,hj.k,hj.new,hj.old,hj.reads,hj.wr,hj.held,by show(((j.gN ++ [_]).length:Nat):Int)=j.At+1;simp;omega,hj.node⟩
theorem JB.rcw{x:bC}(hx:(0<=x.Key/\x.Key<=99)/\(0<=x.cK/\x.cK<=65535)):JB (T0 j x).2:=by
 unfold T0;split
 ·exact hj.ab 1
 ·exact⟨hj.busy,hj.bat,hj.h,hj.prev,hj.bkt,hj.at_,hj.k,hj.new,hj.old,hj.reads,a50 hj.wr hx (by omega),hj.held,hj.res,hj.node⟩
theorem aMQ(x:bC):(T0 j x).2.Batch=j.Batch:=by grind[T0,abF]
theorem JB.ans(h:VG j){c:kJ}(hc:ZW c){v:Int}(hv:0<=v/\v<=4294967295)(is:Bool):JB (aUO j c v is):=by
 unfold aUO;split
 ·have hv':0<=(if is then v else 0)/\(if is then v else 0)<=4294967295:=by omega
  generalize (if is then v else 0)=u at hv';unfold a8T;have hr:=hj.rcw (x:=⟨c.Key,false,aMN u c.cK⟩) ⟨hc.2.1,a51 hv' hc.2.2.1⟩;split
  ·refine hr.aRW ?_ _ _;grind[VG,aMQ,aFV]
  ·exact hr
 ·exact hj.aRW h _ _
theorem JB.jnx:JB (a5O j):=by
 unfold a5O;split
 ·rename_i h;have hc:=hj.cmd h;have h':j.At<j.Batch.cB.length:=h;have ha:=hj.at_;have hr:=hj.res;split
  ·have hr':=hj.rcw (x:=⟨(l7 j).Key,(l7 j).Kind == 3,(l7 j).cK⟩) ⟨hc.2.1,hc.2.2.1⟩;split
   ·refine⟨hr'.busy,hr'.bat,hr'.h,hr'.prev,hr'.bkt,⟨by grind,?_⟩,hr'.k,hr'.new,hr'.old,hr'.reads,hr'.wr,hr'.held,by grind,hr'.node⟩;grind[aMQ]
   ·exact hr'
  ·split
   ·refine hj.ans h hc ?_ _;unfold aOE;split
    ·rename_i x hf;have:=hj.wr.2.1 x (List.mem_of_find?_eq_some hf);grind
    simp
   ·exact⟨hj.busy,hj.bat,hj.h,hj.prev,by show 0<=OK _/\OK _<=1;unfold OK;rw[aL hc.2.1];omega,hj.at_,hj.k,hj.new,hj.old,hj.reads,hj.wr,hj.held,hj.res,hj.node⟩
 ·exact((hj.pc 6).kk (k:=0) (by omega)).sub _
theorem JB.spt(b v:Int)(hb:0<=b/\b<=1):JB {j with Reads:=(LG j.Reads b v).1}:=by
 refine⟨hj.busy,hj.bat,hj.h,hj.prev,hj.bkt,hj.at_,hj.k,hj.new,hj.old,?_,hj.wr,hj.held,hj.res,hj.node⟩;show(∀s∈(LG j.Reads b v).1,0<=s.dZ/\s.dZ<=1)/\((LG j.Reads b v).1.map Seen.dZ).Nodup;unfold LG;split
 ·exact hj.reads
 ·rename_i hf;refine⟨fun s hs=>?_,?_⟩
  ·rcases jB.1 hs with hs | hs
   ·exact hj.reads.1 s hs
   grind
  ·rw[A5,List.nodup_append];refine⟨hj.reads.2,by simp,fun a ha c hc=>?_⟩;grind
theorem JB.pl(h:j.K<j.aU.length)(x:bC):JB (plF j x):=by
 have hk:=hj.k;have hw:=hj.wr.1;unfold plF;split
 ·exact(hj.pc 9).kk (k:=j.K+1) (by omega)
 ·exact hj.pc 12
theorem JB.bFQ:JB (aRY j):=by
 unfold aRY;split
 ·rename_i h;refine⟨hj.busy,hj.bat,hj.h,hj.prev,hj.bkt,hj.at_,hj.k,hj.new,⟨by grind,fun x hx=>?_⟩,hj.reads,hj.wr,hj.held,hj.res,hj.node⟩;rcases jB.1 hx with hx | hx
  ·exact hj.old.2 x hx
  grind
 ·exact hj
theorem JB.rtn:JB (a0T j):=by
 unfold a0T;split
 ·exact hj.sub _
 ·exact hj
end
theorem a80{l:List Int}(h:sZ l){a:Nat}(ha:a+4<=l.length):0<=ld l a 4/\ld l a 4<=4294967295:=by
 rw[ld4 ha];have b:∀k,k<l.length->0<=bt l k/\bt l k<=255:=fun k hk=>by rw[<-aWH hk];exact h _ (dW hk)
 grind
theorem aUY{m:Mem}(hm:oA m)(x:Int):0<=(ZV m.Heap x).cK/\(ZV m.Heap x).cK<=4294967295:=by
 unfold ZV;split
 ·rename_i h;have hr:=(aFP h.2.1 h.2.2).1;have h1:=hm.1.1.1.1;exact a80 hm.1.1.1.2.2.1 (by omega)
 ·show(0:Int)<=0/\(0:Int)<=4294967295;omega
theorem a52(l:List bC)(n:Int):KB l n<=l.length:=by grind[KB]
theorem a81{k:List dZ}{i:Int}(h2:k.length=2)(hi:0<=i/\i<=1):wX k i∈k:=by grind[wX]
theorem aI8{k:List dZ}(h:k.length=2/\∀x∈k,BkV x)(i:Nat){y:dZ}(hy:BkV y):(k.set i y).length=2/\∀x∈k.set i y,BkV x:=
 ⟨by grind,fun x hx=>(oC hx).elim (h.2 x) fun e=>e ▸ hy⟩
theorem bB7{b:aA}(hb:nB b){w x:Int}(hw:0<=w/\w<=2)(hx:kW x)(hn:¬cD b.bH (x % 32)):nB {b with Mem:=a5R b.Mem w x}:=by
 unfold a5R;by_cases hl:mN b.Mem x
 ·obtain⟨m',e1,e2,_,h⟩:=aRK hb.1.1 hw hl;rw[aMC hb.1.1 hw hl] at e1;injection e1 with e1
  rw[aL hl,e1];refine⟨⟨h.1,hb.1.2⟩,fun r hr=>⟨h.live (hb.2 r hr).1 ?_,(hb.2 r hr).2⟩⟩;intro e;exact hn ⟨r,hr,(hb.2 r hr).1.1,e⟩
 simp_all
structure TRV (r:TR):Prop where
 b:nB r.b
 k:r.k.length=2/\∀x∈r.k,BkV x
 j:r.j=Y1\/JB r.j
theorem aIF{c:Prop}[Decidable c]{a b:TR}(h1:c->TRV a)(h2:¬c->TRV b):TRV (if c then a else b):=by grind
theorem bB8{b:aA}{k:List dZ}{w:Int}{j:aR}(hb:nB b)(hk:k.length=2/\∀x∈k,BkV x)(hw:0<=w/\w<=2)(hj:JB j):TRV (doF b k w j):=by
 have hkk:=hj.k;have hwr:=hj.wr;have hrd:=hj.rd2;have hbs:=a8J hb hw j.Sub;have bkv:∀{i},0<=i/\i<=1->BkV (wX k i):=fun hi=>hk.2 _ (a81 hk.1 hi);unfold doF;refine aIF (fun _=>?_) fun _=>?_
 ·refine⟨hbs,hk,.inr ?_⟩;unfold a0U;split
  ·exact hj.sub _
  ·split
   ·exact(hj.pc 1).sub _
   ·split
    ·exact(hj.pc 21).sub _
    ·exact(hj.pc 19).sub _
 refine aIF (fun _=>?_) fun _=>?_
 ·exact⟨hb,hk,.inr hj.jnx⟩
 refine aIF (fun _=>?_) fun _=>?_
 ·refine⟨hb, hk, .inr ?_⟩;unfold aY6;have hbk:=bkv hj.bkt;split
  ·split
   ·exact hj.ab _
   ·have h1:JB {j with hJ:=(wX k j.dZ).hJ}:=⟨hj.busy,hj.bat,hj.h,hj.prev,hj.bkt,hj.at_,hj.k,hj.new,hj.old,hj.reads,hj.wr,hj.held,hj.res,hj.node⟩;have h2:JB {j with hJ:=(wX k j.dZ).hJ,Found:=false}:=⟨hj.busy,hj.bat,hj.h,hj.prev,hj.bkt,hj.at_,hj.k,hj.new,hj.old,hj.reads,hj.wr,hj.held,hj.res,hj.node⟩;exact((h2.hh hbk.1).nd (n:=aUE) (by show(0:Int)<=0/\(0:Int)<=4294967295;omega)).pc _
  ·split
   ·exact(hj.nd (aUY hb.1.1 _)).pc _
   ·split
    ·split
     ·exact hj.ab _
     ·split
      ·have h1:JB {j with Found:=j.Node.Key == (l7 j).Key}:=⟨hj.busy,hj.bat,hj.h,hj.prev,hj.bkt,hj.at_,hj.k,hj.new,hj.old,hj.reads,hj.wr,hj.held,hj.res,hj.node⟩;exact(h1.hh (aFR _)).pc _
      ·exact hj.ab _
    ·split
     ·exact hj.ab _
     ·have hs:=hj.spt j.dZ j.hJ hj.bkt;split
      ·exact hs.ab _
      ·split
       ·rename_i h;exact hs.ans h (hj.cmd h) hj.node _
       ·exact hs.ab _
 refine aIF (fun _=>?_) fun _=>?_
 ·unfold a5P;split
  ·exact⟨hb,hk,.inr ((hj.pc 7).kk (k:=0) (by omega))⟩
  ·rename_i hp;have:=a52 j.aU j.aU.length;have:=hwr.1;refine⟨hbs,hk,.inr ?_⟩;simp only;split
   ·exact hj.sub _
   ·split
    ·exact(hj.sub _).ab _
    ·rename_i hq;have q1:kW (iC b w j.Sub).2.Out:=Classical.byContradiction fun q=>hq (.inr (.inl q));have q2:j.iM.length<6:=by omega
     refine⟨hj.busy,hj.bat,hj.h,hj.prev,hj.bkt,hj.at_,⟨by grind,by grind⟩,⟨by grind,fun x hx=>?_⟩,hj.old,hj.reads,hj.wr,hj.held,hj.res,hj.node⟩;rcases jB.1 hx with hx | hx
     ·exact hj.new.2 x hx
     grind
 refine aIF (fun _=>?_) fun _=>?_
 ·have ht:=a8B j.aU;unfold aUP;split
  ·rename_i hp;have hi:j.K.toNat<(KC j.aU).length:=by omega
   have er:l8 j=(KC j.aU)[j.K.toNat]:=by grind[l8]
   have hbk:0<=l8 j/\l8 j<=1:=by grind[aTZ,dW]
   have hbv:=bkv hbk;have hset:=aI8 hk (l8 j).toNat (y:={wX k (l8 j) with lP:=w+1}) ⟨hbv.1,hbv.2.1,by grind⟩;have hlh:JB (aRX j):=by
    refine⟨hj.busy,hj.bat,hj.h,hj.prev,hj.bkt,hj.at_,⟨by show 0<=j.K+1;omega,by show j.K+1<=6;omega⟩,hj.new,hj.old,hj.reads,hj.wr,?_,hj.res,hj.node⟩;show(∀x∈(if l8 j∈j.cD then j.cD else j.cD ++ [l8 j]),0<=x/\x<=1)/\(if l8 j∈j.cD then j.cD else j.cD ++ [l8 j]).Nodup;split
    ·exact hj.held
    ·rename_i hm;refine⟨fun x hx=>?_,?_⟩
     ·rcases jB.1 hx with hx | hx
      ·exact hj.held.1 x hx
      grind
     ·rw[List.nodup_append];exact⟨hj.held.2,by simp,fun a ha c hc e=>by grind⟩
   split
   ·exact⟨hb,hk,.inr (hj.ab _)⟩
   ·split
    ·exact⟨hb,hk,.inr (hj.ab _)⟩
    ·split
     ·exact⟨hb,hset,.inr ((hlh.pc 8).kk (k:=0) (by omega))⟩
     ·exact⟨hb,hset,.inr hlh⟩
  ·exact⟨hb,hk,.inr ((hj.pc 8).kk (k:=0) (by omega))⟩
 refine aIF (fun _=>?_) fun _=>?_
 ·refine⟨hb,hk,.inr ?_⟩;unfold a8U;split
  ·exact(hj.pc 9).kk (k:=0) (by omega)
  ·split
   ·exact hj.ab _
   ·exact hj.kk (k:=j.K+1) (by omega)
 refine aIF (fun _=>?_) fun _=>?_
 ·have hwl:=hwr.1;unfold aUR;split
  ·exact⟨hb,hk,.inr (hj.pc 14)⟩
  ·rename_i hp;have hi:j.K.toNat<j.aU.length:=by omega
   have er:wrN j=j.aU[j.K.toNat]:=by grind[wrN]
   have hx:=hwr.2.1 j.aU[j.K.toNat] (dW hi);rw[<-er] at hx;have hbk:0<=OK (wrN j).Key/\OK (wrN j).Key<=1:=by unfold OK;omega
   have hbv:=bkv hbk;have l0:eV 0:=.inl rfl;split
   ·have h1:=((hj.pc 10).hh hbv.1).pv l0;refine⟨hb,hk,.inr ?_⟩;simp only;split
    ·exact h1.pl (by grind) _
    ·exact h1
   ·split
    ·have h1:=hj.nd (aUY hb.1.1 j.H);refine⟨hb,hk,.inr ?_⟩;simp only;split
     ·exact h1.pc 11
     ·split
      ·exact h1.pl (by grind) _
      ·exact(h1.hh (aFR _)).pv hj.h
    ·split
     ·have h1:=hj.bFQ;have hkl:(aRY j).K<(aRY j).aU.length:=by grind[aRY]
      split
      ·exact⟨hb,aI8 hk _ ⟨aFR _,hbv.2⟩,.inr (h1.pl hkl _)⟩
      ·exact⟨hb.mem (a5I hb.1.1 _ _),hk,.inr (h1.pl hkl _)⟩
     ·split
      ·exact⟨hb,hk,.inr (hj.ab _)⟩
      ·rename_i hn;have hpn:0<=KB j.aU j.K:=by grind[KB]
       have hi2:(KB j.aU j.K).toNat<j.iM.length:=by omega
       have en:aUQ j=j.iM[(KB j.aU j.K).toNat]:=by grind[aUQ]
       have hnew:kW (aUQ j):=by rw[en];exact hj.new.2 _ (dW hi2)
       split
       ·exact⟨hb.mem (a5H hb.1.1 _ _),hk,.inr (hj.pc 13)⟩
       ·exact⟨hb,aI8 hk _ ⟨.inr hnew,hbv.2⟩,.inr ((hj.pc 9).kk (k:=j.K+1) (by omega))⟩
 refine aIF (fun _=>?_) fun _=>?_
 ·unfold aUS;split
  ·rename_i hp;have er:Y2 j=j.cD[0]:=by grind[Y2]
   have hbk:=hj.held.1 j.cD[0] (dW hp);rw[<-er] at hbk;have hbv:=bkv hbk;have hver:=hbv.2.1;refine⟨hb,aI8 hk _ ?_,.inr ⟨hj.busy,hj.bat,hj.h,hj.prev,hj.bkt,hj.at_,hj.k,hj.new,hj.old,hj.reads,hj.wr,⟨fun x hx=>hj.held.1 x (aB0 hx),hj.held.2.sublist (List.drop_sublist _ _)⟩,hj.res,hj.node⟩⟩;split
   ·refine⟨hbv.1,?_,by simp⟩;grind
   ·exact⟨hbv.1,hbv.2.1,by simp⟩
  ·split
   ·exact⟨hb,hk,.inr (hj.pc 17)⟩
   ·exact⟨hb,hk,.inr (((hj.pc 15).kk (k:=0) (by omega)).rtn)⟩
 refine aIF (fun _=>?_) fun _=>?_
 ·have hol:=hj.old.1;unfold a5Q;split
  ·exact⟨hb,hk,.inr (hj.pc 18)⟩
  ·refine⟨hbs,hk,.inr ?_⟩;simp only;split
   ·exact((hj.kk (k:=j.K+1) (by omega)).sub _).rtn
   ·exact hj.sub _
 refine aIF (fun _=>?_) fun _=>?_
 ·unfold a5S;split
  ·exact⟨hb,hk,.inr (hj.pc 18)⟩
  ·rename_i hp;have hp0:0<j.iM.length:=by omega
   have er:j.iM.getD 0 0=j.iM[0]:=by grind
   have hh:=hj.new.2 j.iM[0] (dW hp0);rw[<-er] at hh;refine⟨?_,hk,.inr ⟨hj.busy,hj.bat,hj.h,hj.prev,hj.bkt,hj.at_,hj.k,⟨by show(j.iM.drop 1).length<=6;have:=hj.new.1;simp;omega,fun x hx=>hj.new.2 x (aB0 hx)⟩,hj.old,hj.reads,hj.wr,hj.held,hj.res,hj.node⟩⟩;grind[bB7]
 refine aIF (fun _=>?_) fun _=>?_
 ·obtain⟨r,e1,e2,h1,h2⟩:=aD5 hb.1.2.1 hw;rw[ZL hb.1.2.1 hw] at e1;injection e1 with e1
  refine⟨hb.clock (by grind) (by grind),hk,.inr (hj.pc 19)⟩
 refine aIF (fun _=>?_) fun _=>?_
 ·exact⟨hb,hk,.inl rfl⟩
 ·exact⟨hb,hk,.inr (hj.ab 1)⟩
theorem a53{b:Batch}(hb:ZX b)(s:Int):JB (QI b s):=
 ⟨rfl,hb,.inl rfl,.inl rfl,by simp[QI],by simp[QI],by simp[QI],by simp[QI],by simp[QI],by simp[QI],⟨by simp[QI],by simp[QI],by simp[QI]⟩,by simp[QI],by simp[QI],by show(0:Int)<=0/\(0:Int)<=4294967295;omega⟩
theorem TV.step{t:Table}(hv:TV t){w:Int}(hw:0<=w/\w<=2):TV (Y3 t w):=by
 have hjv:=hv.a00.2 _ (aY7 hv.a00.1 hw);have setj:∀{x:aR},(x=Y1\/JB x)->(t.aH.set w.toNat x).length=3/\∀j∈t.aH.set w.toNat x,j=Y1\/JB j:=fun hx=>
  ⟨by simpa using hv.a00.1,fun j hj=>(oC hj).elim (hv.a00.2 j) fun e=>e ▸ hx⟩
 unfold Y3;split
 ·rename_i hbusy;have hj:JB (g7 t w):=hjv.resolve_left fun e=>by rw[e] at hbusy;cases hbusy
  have h:=bB8 hv.base hv.bk hw hj;exact⟨h.b,h.k,setj h.j,hv.todo,hv.ser⟩
 ·split
  ·exact hv
  ·rename_i hq;have hqi:w.toNat<t.cC.length:=by have:=hv.todo.1;omega
   have hqm:(⟨quT t w⟩:aN)∈t.cC:=by unfold quT;rw[M6,l9 hqi];exact dW _
   have hqq:(quT t w).length<=12/\∀b∈quT t w,ZX b:=hv.todo.2 _ hqm;have hp0:0<(quT t w).length:=by omega
   have er:(quT t w).getD 0 ⟨false,[]⟩=(quT t w)[0]:=by grind
   have hbv:=hqq.2 (quT t w)[0] (dW hp0);rw[<-er] at hbv;have hs:=hv.ser;have hsn:t.aI≠1000000:=fun e=>hq (.inr e);unfold a8V;refine⟨hv.base,hv.bk,setj (.inr (a53 hbv _)),⟨by simpa using hv.todo.1,fun q hq'=>?_⟩,⟨by grind,by grind⟩⟩;rcases oC hq' with h | h
   ·exact hv.todo.2 q h
   ·subst h;exact⟨by grind,fun b hb=>hqq.2 b (aB0 hb)⟩
end Go.Gv
end
noncomputable section
namespace Go.Gv
theorem aW6(c:kJ):UF c=some (decide (ZW c)):=by
 unfold UF IT IS;simp only[cE,aD];by_cases h1:1<=c.Kind/\c.Kind<=4
 ·by_cases h2:0<=c.Key/\c.Key<=99
  ·simp only[b9 h1,b9 h2,eF,aT,aS];have dv:(c.Kind=2\/c.Kind=4)->decide (0<=c.cK/\c.cK<=65535)=decide (ZW c):=fun k=>by rw[QJ,decide_eq_true_eq,decide_eq_true_eq];exact⟨fun h=>⟨h1,h2,h,by omega⟩,fun h=>h.2.2.1⟩
   by_cases k2:c.Kind=2
   ·grind
   ·have e:(c.Kind == 2)=false:=by grind
    by_cases k4:c.Kind=4
    ·grind
    ·have e4:(c.Kind == 4)=false:=by grind
     simp only[e,e4,aT,aS];congr 1;rw[QJ,beq_iff_eq,decide_eq_true_eq];constructor
     ·intro h;exact⟨h1,h2,by omega,.inr (.inr h)⟩
     ·rintro⟨_,_,_,h | h | h⟩<;>omega
  simp_all[eE,ZW]
 ·simp only[eE h1,o7,aP];grind[ZW]
theorem aW7(c:kJ):UM c=some (decide (ZW c)):=by
 have key:∀B:Bool,vY c B=some (decide ((1<=c.Kind/\c.Kind<=4)/\(0<=c.Key/\c.Key<=99)/\((B=true/\(0<=c.cK/\c.cK<=65535))\/c.cK=0))):=fun B=>by unfold vY qS;simp only[eC,aD];grind
 unfold UM;have fin:∀B:Bool,(B=true↔c.Kind=2\/c.Kind=4)->vY c B=some (decide (ZW c)):=fun B hB=>by rw[key];congr 1;rw[QJ,decide_eq_true_eq,decide_eq_true_eq];grind[ZW]
 grind
theorem aW8{b:Batch}(hl:b.cB.length<=1000):LQ b=some (decide (ZX b)):=by
 unfold LQ;cases hc:b.Collect
 ·rw[aO (by simp)];have hs:∀k (hk:k<b.cB.length),pJ b (k:Int)=if ZW b.cB[k] then some (.next ((k+1:Nat):Int)) else some (.stop (Out.ret false)):=fun k hk=>by simp only[pJ];rw[aL (by simp;omega),aV hk,aD,aW6,aD,aM (by omega) (by omega)];simp
  have key:loop (pJ b) 0=_:=kV (f:=pJ b) b.cB (fun k=>(k:Int)) ZW (Out.brk ()) (Out.ret false) (fun k hk hp=>by grind) (fun k hk hp=>by grind) (by simp[pJ]);rw[key];by_cases q:∀x∈b.cB,ZW x
  ·rw[aL q];simp only[aD,VT,VR,cE];congr 1;rw[QJ,decide_eq_true_eq,decide_eq_true_eq];exact⟨fun a=>⟨fun h=>(by grind),by omega,q,fun _=>by omega⟩,fun a=>by have:=a.2.2.2 hc;have:=a.2.1;omega⟩
  ·rw[aO q,eE (show ¬ZX b from fun a=>q a.2.2.1)];rfl
 ·rw[aL rfl];congr 1;rw[QJ,beq_iff_eq,decide_eq_true_eq];constructor
  ·intro h;have h0:b.cB=[]:=AD (by omega);exact⟨fun _=>h0,by omega,by grind,fun h=>by grind⟩
  ·intro h;rw[h.1 hc];rfl
def BsV(l:List Batch):Prop:=∀b∈l,ZX b
instance (l:List Batch):Decidable (BsV l):=by unfold BsV;infer_instance
theorem aW9{l:List aN}(hl:l.length<=1000)(hb:∀q∈l,∀b∈q.List,b.cB.length<=1000):LR l=some (decide (aBW l)):=by
 unfold LR;have inner:∀k (hk:k<l.length),l[k].List.length<=12->loop (pK l (k:Int)) 0=some (if BsV l[k].List then Out.brk () else Out.ret false):=by
  intro k hk h12;have hs:∀j (hj:j<l[k].List.length),pK l (k:Int) (j:Int)=if ZX l[k].List[j] then some (.next ((j+1:Nat):Int)) else some (.stop (Out.ret false)):=by intro j hj;simp only[pK];rw[aV hk,aD,aL (by simp;omega),aD,aV hj,aD,aW8 (hb _ (dW hk) _ (dW hj)),aD,aM (by omega) (by omega)];simp
  have:=kV (f:=pK l (k:Int)) l[k].List (fun j=>(j:Int)) ZX (Out.brk ()) (Out.ret false) (fun j hj hp=>by grind) (fun j hj hp=>by grind) (by
   simp_all[pK,aV])
  refine Eq.trans this ?_;congr 1
 have hs:∀k (hk:k<l.length),pL l (k:Int)=if QuV l[k] then some (.next ((k+1:Nat):Int)) else some (.stop (Out.ret false)):=by
  intro k hk;simp only[pL];rw[aL (by simp;omega),aV hk,aD];by_cases h12:l[k].List.length<=12
  ·rw[aO (by simp;omega),inner k hk h12];by_cases q:BsV l[k].List
   ·rw[aL q,aL (show QuV l[k] from⟨h12,q⟩)];simp only[aD,VW,VV];grind[aM]
   ·rw[aO q,aO (show ¬QuV l[k] from fun a=>q a.2)];rfl
  ·rw[aL (by simp;omega),aO (show ¬QuV l[k] from fun a=>h12 a.1)]
 have key:loop (pL l) 0=_:=kV (f:=pL l) l (fun k=>(k:Int)) QuV (Out.brk ()) (Out.ret false) (fun k hk hp=>by grind) (fun k hk hp=>by grind) (by simp[pL]);rw[key];by_cases q:∀x∈l,QuV x
 ·rw[aL q];simp only[aD,VX,VU];congr 1;rw[QJ];simp only[beq_iff_eq,decide_eq_true_eq];exact⟨fun a=>⟨by omega,q⟩,fun a=>by have:=a.1;omega⟩
 ·rw[aO q,eE (show ¬aBW l from fun a=>q a.2)];rfl
theorem aFX{α:Type}{l:List α}{f:Int->Option (Step Int (Out Unit Int))}{p:α->Bool}{m:(Out Unit Int)->Option Int}(hl:l.length<=4611686018427387904)
  (hf:∀k:Nat,f (k:Int)=if h:k<l.length then(if p l[k] then some (.stop (Out.ret (k:Int))) else some (.next ((k+1:Nat):Int))) else some (.stop (Out.brk ()))) (m1:∀r,m (.ret r)=some r) (m2:m (.brk ())=some (-1)) :
  ((loop f 0).bind m).bind (fun x1=>some (decide (0<=x1)))=some (l.any p):=by
 rcases aDR (f:=f) (p:=p) hl hf l.length 0 (by omega) with ⟨j,h,_,h2,h3,h4⟩ | ⟨h1,h2⟩
 ·rw[show(0:Int)=((0:Nat):Int) from rfl,h4,aD,m1,aD,b9 (by omega)];grind
 ·rw[show(0:Int)=((0:Nat):Int) from rfl,h2,aD,m2,aD,eE (by omega)];congr 1;refine(List.any_eq_false.2 fun x hx=>?_).symm;obtain⟨i,hi,rfl⟩:=aJA hx;grind
theorem aRZ{l:List kJ}(hl:l.length<=1000){f:kJ->Bool}{g:kJ->Option Bool}(hg:∀x∈l,g x=some (f x)):sC l g=some (l.any f):=
 aFX (f:=sB l g) (m:=D9) (by omega) (fun k=>by
  simp only[sB];by_cases h:k<l.length
  ·rw[dif_pos h,aL (by simp;omega),aV h,aD,hg _ (dW h),aD,aM (by omega) (by omega)];rfl
  grind) (fun _=>rfl) rfl
theorem aMR{l:List Batch}(hl:l.length<=1000){f:Batch->Bool}{g:Batch->Option Bool}(hg:∀x∈l,g x=some (f x)):pC l g=some (l.any f):=
 aFX (f:=pB l g) (m:=AM) (by omega) (fun k=>by
  simp only[pB];by_cases h:k<l.length
  ·rw[dif_pos h,aL (by simp;omega),aV h,aD,hg _ (dW h),aD,aM (by omega) (by omega)];rfl
  grind) (fun _=>rfl) rfl
theorem aIG{l:List aN}(hl:l.length<=1000){f:aN->Bool}{g:aN->Option Bool}(hg:∀x∈l,g x=some (f x)):oQ l g=some (l.any f):=
 aFX (f:=oP l g) (m:=xS) (by omega) (fun k=>by
  simp only[oP];by_cases h:k<l.length
  ·rw[dif_pos h,aL (by simp;omega),aV h,aD,hg _ (dW h),aD,aM (by omega) (by omega)];rfl
  grind) (fun _=>rfl) rfl
theorem aR0{α:Type}{l:List α}{P:α->Prop}[DecidablePred P]:(!(l.any fun x=>!decide (P x)))=decide (∀x∈l,P x):=by grind
theorem aXA{b:Batch}(hl:b.cB.length<=1000):MB b=some (decide (ZX b)):=by
 unfold MB;cases hc:b.Collect
 ·rw[aO (by simp),eC,aD];by_cases h:1<=(b.cB.length:Int)/\(b.cB.length:Int)<=6
  ·rw[b9 h,aL rfl,aRZ hl (f:=fun x=>!decide (ZW x)) (fun x _=>by grind[NT,aW7]),aD,aR0];unfold uY;congr 1;rw[QJ,decide_eq_true_eq,decide_eq_true_eq];exact⟨fun a=>⟨fun h=>(by grind),by omega,a,fun _=>by omega⟩,fun a=>a.2.2.1⟩
  ·rw[eE h,aO (by simp)];grind[uY,ZX]
 ·rw[aL rfl];congr 1;rw[QJ,beq_iff_eq,decide_eq_true_eq];constructor
  ·intro h;have h0:b.cB=[]:=AD (by omega);exact⟨fun _=>h0,by omega,by grind,fun h=>by grind⟩
  ·intro h;rw[h.1 hc];rfl
theorem aXB{l:List aN}(hl:l.length<=1000)(hq:∀q∈l,q.List.length<=1000)(hb:∀q∈l,∀b∈q.List,b.cB.length<=1000):MC l=some (decide (aBW l)):=by
 have e1:∀q∈l,FY q=some (!decide (QuV q)):=fun q hm=>by
  unfold FY wM;by_cases h:q.List.length<=12
  ·rw[aO (by simp;omega),aMR (hq q hm) (f:=fun x=>!decide (ZX x)) (fun x hx=>by grind[H6,aXA]),aD];congr 1;rw[<-Bool.not_not ((q.List.any fun x=>!decide (ZX x))),aR0];congr 1;rw[QJ,decide_eq_true_eq,decide_eq_true_eq];exact⟨fun a=>⟨h,a⟩,fun a=>a.2⟩
  ·rw[aL (by simp;omega),eE (show ¬QuV q from fun a=>h a.1)];rfl
 unfold MC CN;by_cases h:l.length=3
 ·rw[aL (by simp;omega),aIG hl e1,aD,aR0];congr 1;rw[QJ,decide_eq_true_eq,decide_eq_true_eq];exact⟨fun a=>⟨h,a⟩,fun a=>a.2⟩
 ·rw[aO (by simp;omega),eE (show ¬aBW l from fun a=>h a.1)]
theorem aY9{b:Batch}(h:b.cB.length<=1000):IU b=some b/\FZ b=some b:=by unfold IU FZ UG sD;rw[aK (by simp;omega)];simp
theorem aUZ{l:List aN}(hl:l.length<=1000)(hq:∀q∈l,q.List.length<=1000)(hb:∀q∈l,∀b∈q.List,b.cB.length<=1000):E0 l=some l/\F8 l=some l:=by
 constructor
 ·unfold E0;rw[TS l]
  ·rfl
  ·intro k hk;have h1:=hq _ (dW hk);simp only[EZ];rw[aL (by simp;omega),ZK l[k].List]
   ·simp only[aD,PQ,PO];rw[aK (by simp;omega),aM (by omega) (by omega)];rfl
   ·intro i hi;simp only[EY,EX];rw[aV hk,aD,aL (by simp;omega),aD,aV hi,aD,(aY9 (hb _ (dW hk) _ (dW hi))).1,aD,aK (by simp;omega),aM (by omega) (by omega)];rfl
   simp_all[EY,aV]
  grind[EZ]
 ·unfold F8;rw[TS l]
  ·rfl
  ·intro k hk;have h1:=hq _ (dW hk);simp only[F7];rw[aL (by simp;omega),aV hk,aD,ZK l[k].List]
   ·simp only[aD,P1,P0];rw[aK (by simp;omega),aM (by omega) (by omega)];rfl
   ·intro i hi;simp only[F6,F5];rw[aL (by simp;omega),aV hi,aD,(aY9 (hb _ (dW hk) _ (dW hi))).2,aD,aK (by simp;omega),aM (by omega) (by omega)];rfl
   grind[F6]
  grind[F7]
def aZA:Table:=⟨⟨⟨⟨[],[]⟩,⟨[],[]⟩⟩,⟨0,[]⟩,[],[]⟩,[],[],[],[],0⟩
def HI(t:List aN):Table:=⟨aUJ,List.replicate 2 ⟨0,0,0⟩,List.replicate 3 Y1,t,[],0⟩
theorem aGJ{t:List aN}(hl:t.length<=1000)(hq:∀q∈t,q.List.length<=1000)(hb:∀q∈t,∀b∈q.List,b.cB.length<=1000):IV t=some (if aBW t then HI t else aZA)/\I7 t=some (if aBW t then HI t else aZA):=by
 unfold IV I7;rw[aW9 hl hb,aXB hl hq hb];simp only[aD];by_cases h:aBW t
 ·simp only[b9 h,eF,aT,aS,aL h,VF.1,VF.2,aD,(aUZ hl hq hb).1,(aUZ hl hq hb).2];rw[aK (by omega),aK (by omega)];exact⟨rfl,rfl⟩
 ·simp only[eE h,o7,aP,aO h];exact⟨rfl,rfl⟩
theorem aPN{t:List aN}(h:aBW t):TV (HI t):=
 ⟨aUK,⟨rfl,fun x hx=>by simp[HI] at hx;subst hx;exact⟨.inl rfl,by simp,by simp⟩⟩,⟨rfl,fun j hj=>by grind[HI]⟩,h,by show(0:Int)<=0/\(0:Int)<=1000000;omega⟩
def aD9(t:Table)(p:Int):Table:=if 0<=p/\p<=2 then Y3 t p else t
def T1(t:Table)(l:List Int):Table:=l.foldl aD9 t
theorem WT{P:TR->Prop}{c:Prop}[Decidable c]{a b:TR}(h1:c->P a)(h2:¬c->P b):P (if c then a else b):=by grind
theorem a82(b:aA)(k:List dZ)(w:Int)(j:aR):(doF b k w j).l.length<=1:=by unfold doF;refine WT (P:=fun r=>r.l.length<=1) (fun _=>lL _) fun _=>WT (P:=fun r=>r.l.length<=1) (fun _=>lL _) fun _=>WT (P:=fun r=>r.l.length<=1) (fun _=>lL _) fun _=>WT (P:=fun r=>r.l.length<=1) (fun _=>lL _) fun _=>WT (P:=fun r=>r.l.length<=1) (fun _=>?_) fun _=>WT (P:=fun r=>r.l.length<=1) (fun _=>lL _) fun _=>WT (P:=fun r=>r.l.length<=1) (fun _=>lL _) fun _=>WT (P:=fun r=>r.l.length<=1) (fun _=>lL _) fun _=>WT (P:=fun r=>r.l.length<=1) (fun _=>lL _) fun _=>WT (P:=fun r=>r.l.length<=1) (fun _=>lL _) fun _=>WT (P:=fun r=>r.l.length<=1) (fun _=>lL _) fun _=>WT (P:=fun r=>r.l.length<=1) (fun _=>kX _) fun _=>lL _;grind
theorem aPO(t:Table)(p:Int):(aD9 t p).Log.length<=t.Log.length+1:=by
 unfold aD9 Y3;split
 ·split
  ·have:=a82 t.aA t.dP p (g7 t p);show(t.Log++_).length<=_;grind
  ·split
   ·omega
   ·show(t.Log++_).length<=_;simp
 ·omega
theorem aU0{t:Table}(h:TV t)(p:Int):TV (aD9 t p):=by
 unfold aD9;split
 ·exact h.step (by assumption)
 ·exact h
theorem aPP{x:jP}{n:Nat}(hn:((x.a8.take ((if 400<(x.a8.length:Int) then 400 else(x.a8.length:Int)).toNat)).drop 0)=x.a8.take n)(h400:(x.a8.take n).length<=400):∀(d k:Nat) (t:Table),k+d=(x.a8.take n).length->TV t->t.Log.length<=k->loop (qJ x) ((k:Int),t)=some (T1 t ((x.a8.take n).drop k))
 | 0, k, t, hk, hv, hl => by rw[List.drop_of_length_le (by omega)];refine bV ?_;simp only[qJ,hn];rw[aO (by grind)];rfl
 | d + 1, k, t, hk, hv, hl => by
  have hkl:k<(x.a8.take n).length:=by omega
  have st:qJ x ((k:Int),t)=some (.next (((k+1:Nat):Int),aD9 t (x.a8.take n)[k])):=by
   simp only[qJ,hn];rw[aL (by grind),aV hkl,aD,kD,aD];unfold wQ aD9;rw[aM (by omega) (by omega)];by_cases hp:0<=(x.a8.take n)[k]/\(x.a8.take n)[k]<=2
   ·rw[b9 hp,aL rfl,a5Z hv (by omega) hp,aL hp];rfl
   grind
  rw[bW st,aPP hn h400 d (k+1) _ (by omega) (aU0 hv _) (by grind[aPO]),M5 hkl];rfl
theorem aEA{x:jP}(hl:x.cC.length<=1000)(hq:∀q∈x.cC,q.List.length<=1000)(hb:∀q∈x.cC,∀b∈q.List,b.cB.length<=1000)(ht:aBW x.cC):xX x=some (T1 (HI x.cC) (x.a8.take 400)):=by
 unfold xX;rw[(aGJ hl hq hb).2,aL ht,aD,aO (by simp[HI])];have hn:((x.a8.take ((if 400<(x.a8.length:Int) then 400 else(x.a8.length:Int)).toNat)).drop 0)=x.a8.take 400:=by
  (simp_all;omega)
 rw[aK (by omega),show(0:Int)=((0:Nat):Int) from rfl,aPP hn (by grind) (x.a8.take 400).length 0 _ (by omega) (aPN ht) (by simp[HI]),aD];rfl
end Go.Gv
end
noncomputable section
namespace Go.Gv
theorem aPQ:∀(l:List Int) (t:Table),(T1 t l).Log.length<=t.Log.length+l.length
 | [],t=>kX _
 | p :: l, t => by have h1:=aPQ l (aD9 t p);grind[aPO,T1]
end Go.Gv
end
noncomputable section
namespace Go.Gv
def QuS(m:Int)(q:aN):Prop:=(q.List.length:Int)<=m/\∀x∈q.List,x.cB.length<=1000
noncomputable section
variable {b:List UInt8} {i h:Int} (hc:Cu b i)
include hc
theorem bD5:tF (JT ⟨b,i,h⟩) (fun x=>Cu b x.2.1):=by
 unfold JT ER EP;refine .bind (aAV hc (by decide) (by decide)) fun x1 ⟨_,h1⟩=>.bind (below h1 (by omega)) fun x2 ⟨_,h2⟩=>.ite (fun _=>.ite (fun _=>?_) fun _=>.ret h2) fun _=>.ite (fun _=>?_) fun _=>.ret h2
 ·exact .bind (below h2 (by omega)) fun x7 ⟨_,h7⟩=>.bind (aAV h7 (by simp) (by simp)) fun x8 ⟨_,h8⟩=>.ret h8
 ·exact .bind (below h2 (by omega)) fun x7 ⟨_,h7⟩=>.bind (aAV h7 (by simp) (by simp)) fun x8 ⟨_,h8⟩=>.ret h8
theorem a83:tF (PN ⟨b,i,h⟩) (fun x=>Cu b x.2.1):=by
 unfold PN rT;refine .bind (bD5 hc) fun x1 h1=>.bind (below h1 (by omega)) fun x7 ⟨_,h7⟩=>.ite (fun _=>?_) fun _=>.ite (fun _=>?_) fun _=>.ite (fun _=>?_) fun _=>.ret h7
 ·exact .bind (aAV h7 (by decide) (by decide)) fun x8 ⟨_,h8⟩=>.ret h8
 ·exact .bind (aAV h7 (by decide) (by decide)) fun x8 ⟨_,h8⟩=>.ret h8
 ·exact .bind (aAV h7 (by decide) (by decide)) fun x8 ⟨_,h8⟩=>.ret h8
theorem bB9:tF (LK ⟨b,i,h⟩) (fun x=>x.1.cB.length<=1000/\Cu b x.2.1):=by unfold LK;refine .bind (a91 hc (by omega)) fun x1 h1=>.ite (fun _=>.ret ⟨by simp,h1⟩) fun _=>.bind (below h1 (by omega)) fun x2 ⟨hx,h2⟩=>?_;rw[aM (by omega) (by omega)];refine .bind (P:=fun x=>x.2.2.length<=1000/\Cu b x.1) (.loop (fun s=>s.1.toNat) (fun s=>(0<=s.1/\s.1+s.2.2.2.length<=10)/\Cu b s.2.1) ⟨⟨by omega,by simp;omega⟩,h2⟩ ?_) fun x hx=>.ret hx;rintro⟨n,i1,h1,l⟩ ⟨⟨n0,n1⟩,hi1⟩;simp only at n0 n1 hi1;simp only[VL,KM];refine .ite (fun q=>?_) (fun q=>.ret ⟨by grind,hi1⟩);have q1:=of_decide_eq_true q;refine .bind (bD5 hi1) fun o h3=>.need (by simp;omega) (.ret ?_);grind[aM]
theorem aU1{m:Int}(hm:0<=m/\m<=12):tF (xD ⟨b,i,h⟩ m) (fun x=>(x.1.length=3/\∀q∈x.1,QuS m q)/\Cu b x.2.1):=by
 unfold xD;refine .bind (P:=fun x=>(x.1.length=3/\∀q∈x.1,QuS m q)/\Cu b x.2.1) (.loop (fun s=>3 - s.2.1.toNat) (fun s=>((s.1.length:Int)=s.2.1/\s.2.1<=3/\∀q∈s.1,QuS m q)/\Cu b s.2.2.1) ⟨⟨rfl,by simp,by simp⟩,hc⟩ ?_) fun x hx=>.ret hx;rintro⟨l,k,i',h'⟩ ⟨⟨e,k3,hq⟩,hi⟩;simp only at e k3 hq hi;simp only[PM];refine .ite (fun q=>?_) (fun q=>?_)
 ·have q':=of_decide_eq_true q;rw[aM (x:=m+1) (by omega) (by omega)];refine .bind (below hi (by omega)) fun n ⟨hn,h1⟩=>?_;refine .bind (P:=fun x=>QuS m ⟨x.2.2⟩/\Cu b x.1) (.loop (fun s=>s.1.toNat) (fun s=>(0<=s.1/\s.1+s.2.2.2.length<=m/\∀o∈s.2.2.2,o.cB.length<=1000)/\Cu b s.2.1) ⟨⟨hn.1,by simp;omega,by simp⟩,h1⟩ ?_) ?_
  ·rintro⟨n,i1,h1,ops⟩ ⟨⟨n0,n1,ho⟩,hi1⟩;simp only at n0 n1 ho hi1;simp only[PK,ES];refine .ite (fun q=>?_) (fun q=>?_)
   ·have q1:=of_decide_eq_true q;refine .bind (bB9 hi1) fun o ⟨h2,h3⟩=>.need (by simp;omega) (.ret ?_);grind[aM]
   ·have q1:¬0<n:=by grind
    exact .ret ⟨⟨by grind,ho⟩,hi1⟩
  ·rintro⟨i1,h1,ops⟩ ⟨ho,hi1⟩;simp only[PL,PJ];refine .need (by simp;omega) (.ret ?_);grind[aM]
 ·have q':¬k<3:=by grind
  exact .ret ⟨⟨by grind,hq⟩,hi⟩
def aOJ(l:List aN):Prop:=l.length<=3/\∀q∈l,QuS 100 q
omit hc in
theorem aU2{l:List aN}(hl:aOJ l)(k:Nat){q:aN}(hq:QuS 100 q):aOJ (l.set k q):=⟨by simpa using hl.1,fun x hx=>(oC hx).elim (hl.2 x) (fun e=>e ▸ hq)⟩
omit hc in
theorem aR1{l:List Batch}{m n:Int}(h:QuS m ⟨l⟩)(hm:m+1<=n){x:Batch}(hx:x.cB.length<=1000):QuS n ⟨l ++ [x]⟩:=⟨by have:=h.1;grind,fun y hy=>by
 rcases jB.1 hy with hy | hy
 ·exact h.2 y hy
 grind⟩
omit hc in
theorem aEB{m n:Int}{q:aN}(h:QuS m q)(hm:m<=n):QuS n q:=⟨by have:=h.1;omega,h.2⟩
theorem a0Y:tF (CB ⟨b,i,h⟩) (fun x=>aOJ x.1/\Cu b x.2.1):=by
 unfold CB;refine .bind (aU1 hc (by omega)) fun x1 ⟨⟨l3,hq⟩,h1⟩=>.bind (below h1 (by omega)) fun x5 ⟨_,h5⟩=>?_;have hT:aOJ x1.1:=⟨by omega,fun q hq'=>aEB (hq q hq') (by omega)⟩;simp only[lR,NH,DG];refine .ite (fun _=>?_) fun _=>.ite (fun _=>?_) fun _=>.ite (fun _=>?_) fun _=>.ite (fun _=>?_) fun _=>?_
 ·exact .need (by omega) (.ret ⟨⟨by simp;omega,fun q hq'=>hT.2 q (List.mem_of_mem_take (by simpa using hq'))⟩,h5⟩)
 ·refine .bind (.idx (by omega)) fun x6 h6=>?_;have h7:=hq _ h6;have:=h7.1;exact .need (by simp;omega) (.ret ⟨aU2 hT _ (aR1 (m:=5) (l:=x6.List) h7 (by omega) (by simp)),h5⟩)
 ·refine .bind (P:=fun x=>aOJ x.1/\Cu b x.2.1) (.loop (fun s=>20 - ((s.1.getD 1 ⟨[]⟩).List.length)) (fun s=>(s.1.length=3/\∀q∈s.1,QuS 13 q)/\Cu b s.2.1) ⟨⟨l3,fun q hq'=>aEB (hq q hq') (by omega)⟩,h5⟩ ?_) ?_
  ·rintro⟨l,i1,h1⟩ ⟨⟨l3,hq⟩,hi1⟩;simp only at l3 hq hi1;simp only[NI,DF];have hx:idx l 1=some l[1]:=aV (k:=1) (by omega);have hm:=hq _ (dW (show 1<l.length by omega));have hm1:=hm.1;rw[hx];simp only[aD];refine .bind (below hi1 (by omega)) fun x ⟨hx2,hi2⟩=>.ite (fun q=>?_) (fun q=>?_)
   ·have q':=of_decide_eq_true q;rw[aM (by omega) (by omega)] at q';refine .need (by simp;omega) (.ret ?_);refine⟨⟨⟨by simp[l3],fun x hx=>?_⟩,hi2⟩,?_⟩
    ·rcases oC hx with hx | hx
     ·grind
     ·rw[hx];exact⟨by simp;omega,(aR1 (m:=13) (n:=14) (l:=l[1].List) hm (by omega) (x:=⟨true,[]⟩) (by simp)).2⟩
    grind
   ·exact .ret ⟨⟨by grind,fun q hq'=>aEB (hq q hq') (by omega)⟩,hi2⟩
  ·rintro⟨l,i1,h1⟩ hx;exact .ret hx
 ·refine .bind (.idx (by omega)) fun x25 h25=>.bind (a83 h5) fun x26 h26=>?_;have h7:=hq _ h25;have:=h7.1;exact .need (by simp;omega) (.ret ⟨aU2 hT _ (aR1 (m:=5) (l:=x25.List) h7 (by omega) (by simp)),h26⟩)
 ·exact .ret ⟨hT,h5⟩
theorem a84{m:Int}(hm:m<=100):tF (IP ⟨b,i,h⟩ m) (fun x=>x.1.length<=4000/\Cu b x.2.1):=by
 unfold IP;refine .bind (below hc (by omega)) fun x1 ⟨hx1,h1⟩=>?_;refine .bind (P:=fun x=>x.1.length<=4000/\Cu b x.2.1) (.loop (fun s=>s.2.1.toNat) (fun s=>(0<=s.2.1/\s.1.length+8*s.2.1<=4000)/\Cu b s.2.2.1) ⟨⟨hx1.1,by simp;omega⟩,h1⟩ ?_) fun x hx=>.ret hx;rintro⟨l,n,i1,h1⟩ ⟨⟨n0,n1⟩,hi1⟩;simp only at n0 n1 hi1;simp only[SS];refine .ite (fun q=>?_) (fun q=>?_)
 ·have q':=of_decide_eq_true q;refine .bind (below hi1 (by omega)) fun x13 ⟨_,h13⟩=>.bind (below h13 (by omega)) fun x14 ⟨hx14,h14⟩=>?_;rw[aM (by omega) (by omega)];refine .bind (P:=fun x=>(x.length:Int)<=l.length+8) (.loop (fun s=>s.2.toNat) (fun s=>0<=s.2/\(s.1.length:Int)+s.2<=l.length+8) ⟨by omega,by grind⟩ ?_) ?_
  ·rintro⟨r,k⟩ ⟨k0,k1⟩;simp only at k0 k1;simp only[SQ];refine .ite (fun q=>?_) (fun q=>?_)
   ·have q2:=of_decide_eq_true q;refine .need (by simp;omega) (.ret ?_);grind[aM]
   ·exact .ret (by omega)
  ·intro r hr;simp only[SR,SO];refine .ret ?_;grind[aM]
 ·exact .ret ⟨by grind,hi1⟩
end
theorem aXC{code:List UInt8}(hl:code.length<=1048576):tF (tP code) (fun x=>aOJ x.cC/\x.a8.length<=5000):=by unfold tP;refine .bind (bD2 hl) fun x1 h1=>.bind (aU1 h1 (by omega)) fun x2 ⟨⟨l3,hq⟩,h2⟩=>.bind (a84 h2 (by omega)) fun x3 ⟨p,h3⟩=>.bind (below h3 (by omega)) fun x6 ⟨_,h6⟩=>?_;have hT:aOJ x2.1:=⟨by omega,fun q hq'=>aEB (hq q hq') (by omega)⟩;simp only[lN];refine .ite (fun _=>.bind (a0Y h6) fun x7 ⟨h7,_⟩=>.ret ⟨h7,by grind⟩) fun _=>.ite (fun _=>.need (by simp;omega) (.ret ⟨hT,by simp;omega⟩)) fun _=>.ret ⟨hT,by grind⟩
theorem aOJ.fit{l:List aN}(h:aOJ l):l.length<=1000/\(∀q∈l,q.List.length<=1000)/\∀q∈l,∀b∈q.List,b.cB.length<=1000:=
 ⟨by have:=h.1;omega,fun q hq=>by have:=(h.2 q hq).1;omega,fun q hq=>(h.2 q hq).2⟩
theorem a0Z{x:jP}(hx:aOJ x.cC):PR x=some (decide (aBW x.cC)):=by
 obtain⟨h1,h2,h3⟩:=hx.fit;unfold PR;rw[(aGJ h1 h2 h3).1,aD];by_cases h:aBW x.cC
 ·rw[aL h,b9 h];rfl
 ·rw[aO h,eE h];rfl
end Go.Gv
end
noncomputable section
namespace Go.Gv
def aMS(s:aE)(p:Int):aE:=if 0<=p/\p<=2 then aGF s p else s
def T2(s:aE)(l:List Int):aE:=l.foldl aMS s
theorem aMT{s:aE}(h:SOk s)(hl:s.Log.length<=1000)(p:Int):SOk (aMS s p)/\(aMS s p).Log.length<=s.Log.length+1:=by
 unfold aMS;split
 ·have:=aUD h (by omega) (by assumption);exact this.2
 grind
theorem aMU{x:nQ}{n:Nat}(hn:((x.a8.take ((if 400<(x.a8.length:Int) then 400 else(x.a8.length:Int)).toNat)).drop 0)=x.a8.take n)(h400:(x.a8.take n).length<=400):∀(d k:Nat) (t:aE),k+d=(x.a8.take n).length->SOk t->t.Log.length<=k->loop (qF x) ((k:Int),t)=some (T2 t ((x.a8.take n).drop k))
 | 0, k, t, hk, hv, hl => by rw[List.drop_of_length_le (by omega)];refine bV ?_;simp only[qF,hn];rw[aO (by grind)];rfl
 | d + 1, k, t, hk, hv, hl => by
  have hkl:k<(x.a8.take n).length:=by omega
  have st:qF x ((k:Int),t)=some (.next (((k+1:Nat):Int),aMS t (x.a8.take n)[k])):=by
   simp only[qF,hn];rw[aL (by grind),aV hkl,aD,kD,aD];unfold wL aMS;rw[aM (by omega) (by omega)];by_cases hp:0<=(x.a8.take n)[k]/\(x.a8.take n)[k]<=2
   ·rw[b9 hp,aL rfl,(aUD hv (by omega) hp).1,aL hp];rfl
   grind
  have q:=aMT hv (by omega) (x.a8.take n)[k];rw[bW st,aMU hn h400 d (k+1) _ (by omega) q.1 (by omega),M5 hkl];rfl
theorem aAW{x:nQ}(hx:aD7 x.cC)(ht:YX x.cC):xR x=some (T2 (A3 x.cC) (x.a8.take 400)):=by
 unfold xR;rw[(aGI (t:=x.cC) (by have:=hx.1;omega) (fun q hq=>by have:=hx.2 q hq;omega)).2,aD,aL ht];have hj:(((A3 x.cC).aH.length:Int) == 0)=false:=rfl;rw[hj,aO (by simp)];have hn:((x.a8.take ((if 400<(x.a8.length:Int) then 400 else(x.a8.length:Int)).toNat)).drop 0)=x.a8.take 400:=by
  (simp_all;omega)
 rw[aK (by omega),show(0:Int)=((0:Nat):Int) from rfl,aMU hn (by grind) (x.a8.take 400).length 0 _ (by omega) (aFS ht) (by simp[A3]),aD];rfl
theorem bD6{b0:aA}{c:Prop}[Decidable c]{p q:JR}(h1:c->tK b0 p.b)(h2:¬c->tK b0 q.b):tK b0 (if c then p else q).b:=by grind
theorem bFR{s:aE}(hb:nB s.aA){w:Int}(hw:0<=w/\w<=2){j:fU}(hv:0<=j.Op.cK/\j.Op.cK<=65535):tK s.aA (a8O s w j).b:=by
 have sb:=a0S hb hw j.Sub;have r:=tK.refl s.aA;have up:(RU s.aA.aG w).1.aQ=s.aA.aG.aQ:=by grind[RU]
 have st:=aW1 hb.1.1 (h:=j.H) hv;unfold a8O a8L a8M a8N aY2 aRT
 repeat' (refine bD6 (fun _=>?_) (fun _=>?_))
 all_goals first | exact sb | exact r | exact .aUN st rfl | exact .same rfl up | exact .same rfl rfl
structure SP (s s':aE):Prop where
 b:tK s.aA s'.aA
 l:s.Log <+: s'.Log
theorem SP.refl(s:aE):SP s s:=⟨.refl _,List.prefix_refl _⟩
theorem SP.trans{a b c:aE}(h:SP a b)(k:SP b c):SP a c:=⟨h.b.trans k.b,h.l.trans k.l⟩
theorem a55{s:aE}(hs:SOk s){w:Int}(hw:0<=w/\w<=2):SP s (aGF s w):=by
 unfold aGF;split
 ·unfold aRU;split
  ·exact .refl s
  ·split
   ·exact .refl s
   ·exact⟨.refl _,List.prefix_append _ _⟩
 ·split
  ·exact⟨.refl _,List.prefix_append _ _⟩
  ·rename_i h1 h2;have hj:=hs.2.2.2.2.2.2 (vQ s w) (by
    have h3:=hs.2.2.1;grind[vQ])
   rw[YY (by grind)] at hj;have ho:=hj.1.2.2.2;refine⟨bFR hs.1 hw ?_,List.prefix_append _ _⟩;grind
theorem aMV:∀(l:List Int) {s:aE},SOk s->s.Log.length+l.length<=1000->SOk (T2 s l)/\SP s (T2 s l)
 | [],s,h,_=>⟨h,.refl s⟩
 | p :: l, s, h, hl => by
  simp only[W5] at hl;have q:=aMT h (by omega) p;have h2:=aMV l q.1 (by omega);refine⟨h2.1,SP.trans ?_ h2.2⟩;unfold aMS;split
  ·grind[a55]
  ·exact .refl s
theorem aPR:∀(l:List Int) {s:aE},SOk s->s.Log.length+l.length<=1000->(T2 s l).Log.length<=s.Log.length+l.length
 | [],s,_,_=>kX _
 | p :: l, s, h, hl => by simp only[W5] at hl ⊢;have q:=aMT h (by omega) p;have:=aPR l q.1 (by omega);grind[T2]
structure TP (t t':Table):Prop where
 v:∀i:Nat,(t.dP.getD i ⟨0,0,0⟩).hJ<=(t'.dP.getD i ⟨0,0,0⟩).hJ
 l:t.Log <+: t'.Log
theorem TP.refl(t:Table):TP t t:=⟨fun _=>aM4 _,List.prefix_refl _⟩
theorem TP.trans{a b c:Table}(h:TP a b)(k:TP b c):TP a c:=⟨fun i=>Int.le_trans (h.v i) (k.v i),h.l.trans k.l⟩
def aEC(k k':List dZ):Prop:=∀i:Nat,(k.getD i ⟨0,0,0⟩).hJ<=(k'.getD i ⟨0,0,0⟩).hJ
theorem aEC.refl(k:List dZ):aEC k k:=fun _=>aM4 _
theorem Y6{k:List dZ}{i:Int}{x:dZ}(h:(wX k i).hJ<=x.hJ):aEC k (k.set i.toNat x):=by intro m;unfold wX at h;grind
theorem a85{k:List dZ}(hk:∀x∈k,BkV x)(i:Int):(wX k i).hJ<=1000000:=by
 unfold wX;rw[M6];cases h:k[i.toNat]? with
 | none=>simp
 | some x=>exact(hk x (A6 h)).2.1.2
theorem vR{k0:List dZ}{α:Type}{g:α->List dZ}{c:Prop}[Decidable c]{p q:α}(h1:c->aEC k0 (g p))(h2:¬c->aEC k0 (g q)):aEC k0 (g (if c then p else q)):=by grind
theorem a56(k:List dZ)(w:Int)(j:aR):aEC k (aUP k w j).1:=by
 have r:=aEC.refl k;unfold aUP;refine vR (g:=Prod.fst) (fun _=>vR (g:=Prod.fst) (fun _=>r) fun _=>vR (g:=Prod.fst) (fun _=>r) fun _=>vR (g:=Prod.fst) (fun _=>?_) fun _=>?_) fun _=>r
 ·exact Y6 (aM4 _)
 ·exact Y6 (aM4 _)
theorem a57(b:aA)(k:List dZ)(j:aR):aEC k (aUR b k j).2.1:=by
 have r:=aEC.refl k;unfold aUR;refine vR (g:=fun q:aA×List dZ×aR=>q.2.1) (fun _=>r) fun _=>vR (g:=fun q:aA×List dZ×aR=>q.2.1) (fun _=>r) fun _=>vR (g:=fun q:aA×List dZ×aR=>q.2.1) (fun _=>r) fun _=>vR (g:=fun q:aA×List dZ×aR=>q.2.1) (fun _=>vR (g:=fun q:aA×List dZ×aR=>q.2.1) (fun _=>?_) fun _=>r) fun _=>vR (g:=fun q:aA×List dZ×aR=>q.2.1) (fun _=>r) fun _=>vR (g:=fun q:aA×List dZ×aR=>q.2.1) (fun _=>r) fun _=>?_
 ·exact Y6 (aM4 _)
 ·exact Y6 (aM4 _)
theorem a58{k:List dZ}(hk:∀x∈k,BkV x)(j:aR):aEC k (aUS k j).1:=by have r:=aEC.refl k;unfold aUS;refine vR (g:=Prod.fst) (fun _=>Y6 ?_) fun _=>vR (g:=Prod.fst) (fun _=>r) fun _=>r;have:=a85 hk (Y2 j);grind
theorem a86{b:aA}{k:List dZ}(hk:∀x∈k,BkV x)(w:Int)(j:aR):aEC k (doF b k w j).k:=by have r:=aEC.refl k;unfold doF;exact vR (g:=TR.k) (fun _=>r) fun _=>vR (g:=TR.k) (fun _=>r) fun _=>vR (g:=TR.k) (fun _=>r) fun _=>vR (g:=TR.k) (fun _=>r) fun _=>vR (g:=TR.k) (fun _=>a56 k w j) fun _=>vR (g:=TR.k) (fun _=>r) fun _=>vR (g:=TR.k) (fun _=>a57 b k j) fun _=>vR (g:=TR.k) (fun _=>a58 hk j) fun _=>vR (g:=TR.k) (fun _=>r) fun _=>vR (g:=TR.k) (fun _=>r) fun _=>vR (g:=TR.k) (fun _=>r) fun _=>vR (g:=TR.k) (fun _=>r) fun _=>r
theorem a59{t:Table}(ht:TV t)(w:Int):TP t (Y3 t w):=by
 unfold Y3;split
 ·exact⟨a86 ht.bk.2 w _,List.prefix_append _ _⟩
 ·split
  ·exact .refl t
  ·exact⟨fun _=>aM4 _,List.prefix_append _ _⟩
theorem aMW:∀(l:List Int) {t:Table},TV t->TV (T1 t l)/\TP t (T1 t l)
 | [],t,h=>⟨h,.refl t⟩
 | p :: l, t, h => by
  have h2:=aMW l (aU0 h p);refine⟨h2.1,TP.trans ?_ h2.2⟩;unfold aD9;split
  ·grind[a59]
  ·exact .refl t
end Go.Gv
end
noncomputable section
namespace Go.Gv
theorem aPS{code:List UInt8}(hl:code.length<=1048576){i n:Int}(hi:0<=i/\i<=1000)(hn:0<=n/\n<=5000):tF (NR code i n) (fun v=>0<=v/\v<=n):=by unfold NR;refine .bind (at_eq hl hi) fun a ha=>.ret ?_;have h1:0<=a*(n+1)/\a*(n+1)<=255*(n+1):=⟨Int.mul_nonneg ha.1 (by omega),Int.mul_le_mul_of_nonneg_right ha.2 (by omega)⟩;grind[aM]
theorem a93{h:Heap}(hl:h.Class.length<=1000):yI h=some ((h.Class.countP (fun x=>decide (x = -1)):Nat):Int):=by
 unfold yI;have key:=kT (f:=qM h) h.Class.length (fun k=>((((h.Class.take k).countP (fun x=>decide (x = -1)):Nat):Int),(k:Int))) (((h.Class.countP (fun x=>decide (x = -1)):Nat):Int)) (fun k hk=>by
  have hc:(h.Class.take k).countP (fun x=>decide (x = -1))<=1000:=tG List.countP_le_length (by grind);simp only[qM,wR];rw[aL (by simp;omega),aV hk,aD,W6 hk,List.countP_append,aM (by omega) (by omega),aM (by omega) (by omega)];grind) (by simp[qM])
 have key':loop (qM h) (0,0)=_:=key;rw[key'];rfl
theorem aED:∀{l l':List Int},l.length=l'.length->(∀i:Nat,i<l.length->l.getD i 0≠-1->l'.getD i 0≠-1)->l'.countP (fun x=>decide (x = -1))<=l.countP (fun x=>decide (x = -1))
 | [],[],_,_=>kX _
 | [],_ :: _,h,_=>by cases h
 | _ :: _,[],h,_=>by cases h
 | x :: l, y :: l', h, k => by
  have ih:=aED (l:=l) (l':=l') (by grind) fun i hi q=>by simpa using k (i+1) (by grind) (by grind)
  have h0:=k 0 (by simp);grind
theorem aZB{p q:Nat->Bool}:∀n:Nat,(∀i,i<n->p i=true->q i=true)->aWY p n<=aWY q n
 | 0,_=>kX _
 | n + 1, h => by have:=aZB n fun i hi=>h i (by omega);have h2:=h n (by omega);rw[aFT,aFT];grind
theorem aMX(b:aA)(s:Int):DZ b s=2↔hQ b.Mem s=2:=by unfold DZ;omega
theorem a87{b b':aA}(h:TZ b.Mem b'.Mem):(qX b 24).getD 2 0<=(qX b' 24).getD 2 0:=by
 rw[aPJ b 24 2 (by omega),aPJ b' 24 2 (by omega)];have:=aZB (p:=fun i=>decide (DZ b i=((2:Nat):Int))) (q:=fun i=>decide (DZ b' i=((2:Nat):Int))) 24 fun i _ q=>by have q':=of_decide_eq_true q;exact b9 ((aMX b' i).2 (h.gone i ((aMX b i).1 q')))
 omega
theorem aPT{b:aA}(hb:nB b):(IA b).bind (fun x=>idx x 2)=some ((qX b 24).getD 2 0):=by grind[aWX,aBV,aV]
variable {s t:aE} {u v:Table}
theorem bD7(hl:s.Log <+: t.Log)(hs:s.Log.length<=1000):loop (sP) (0,s,t,u,v)=some (Out.brk (s,t,u,v)):=by
 obtain⟨r,hr⟩:=hl;have:=kT (f:=sP) s.Log.length (fun k=>((k:Int),s,t,u,v)) (Out.brk (s,t,u,v)) (fun k hk=>by
  have hk2:k<t.Log.length:=by grind
  have e:t.Log[k]=s.Log[k]:=by grind
  simp only[sP,IC];rw[aL (by simp;omega),aV hk,aD,aV hk2,aD,e,b9 rfl,eF,aO (by simp),aM (by omega) (by omega)];rfl) (by simp[sP])
 exact this
theorem bD8(hl:u.Log <+: v.Log)(hs:u.Log.length<=1000):loop (sO) (0,s,t,u,v)=some (Out.brk (s,t,u,v)):=by
 obtain⟨r,hr⟩:=hl;have:=kT (f:=sO) u.Log.length (fun k=>((k:Int),s,t,u,v)) (Out.brk (s,t,u,v)) (fun k hk=>by
  have hk2:k<v.Log.length:=by grind
  have e:v.Log[k]=u.Log[k]:=by grind
  simp only[sO,sN];rw[aL (by simp;omega),aV hk,aD,aV hk2,aD,e];simp only[bne_self_eq_false,aT,aS];grind[aM]) (by simp[sO])
 exact this
theorem bD9(hs:nB s.aA)(ht:nB t.aA)(hb:tK s.aA t.aA)(hu:u.dP.length=2)(hv:v.dP.length=2)(hk:∀i:Nat,(u.dP.getD i ⟨0,0,0⟩).hJ<=(v.dP.getD i ⟨0,0,0⟩).hJ):IB s t u v=some true:=by
 unfold IB;have bk:∀{w:Table},w.dP.length=2->∀i:Nat,i<2->idx w.dP (i:Int)=some (w.dP.getD i ⟨0,0,0⟩):=fun h i hi=>by grind[aV]
 have c1:=hs.1.1.1.1.1.2.1;have c2:=ht.1.1.1.1.1.2.1;have hg:=a87 hb.mem;have e1:=aPT hs;have e2:=aPT ht;rw[aL (b9 hb.ep),show(0:Int)=((0:Nat):Int) from rfl,bk hu 0 (by omega),aD,bk hv 0 (by omega),aD,aL (b9 (hk 0)),
  show(1:Int)=((1:Nat):Int) from rfl,bk hu 1 (by omega),aD,bk hv 1 (by omega),aD,aL (b9 (hk 1))]
 obtain⟨x,hx,hx2⟩:=Option.bind_eq_some_iff.1 e1;obtain⟨y,hy,hy2⟩:=Option.bind_eq_some_iff.1 e2;rw[hx,aD,hx2,aD,hy,aD,hy2,aD,aL (b9 hg),a93 (by omega),aD,a93 (by omega),aD];unfold lV;rw[b9];have:=aED (l:=s.aA.Mem.Heap.Class) (l':=t.aA.Mem.Heap.Class) (by omega) fun i hi q=>hb.mem.cls i (by omega) q;omega
theorem aR2{code:List UInt8}(_:fit code):Q5 code=some true:=by
 unfold Q5 aJ6;rw[aD];by_cases hb:(1048576:Int)<code.length
 ·grind
 ·rw[aO (by grind)];obtain⟨x,ex,hx,px⟩:=aWU (code:=code) (by omega);obtain⟨y,ey,hy,py⟩:=aXC (code:=code) (by omega);rw[ex,aD,ey,aD,a5M hx,aD];unfold zR;by_cases h1:YX x.cC
  ·rw[b9 h1,eF,aO (by simp),a0Z hy,aD];by_cases h2:aBW y.cC
   ·obtain⟨f1,f2,f3⟩:=hy.fit;obtain⟨n,en,n0,n1⟩:=aPS (code:=code) (by omega) (i:=0) (n:=(x.a8.length:Int)) (by omega) (by omega);obtain⟨m,em,m0,m1⟩:=aPS (code:=code) (by omega) (i:=1) (n:=(y.a8.length:Int)) (by omega) (by omega);rw[b9 h2,eF,aO (by simp),en,aD,aK (by omega),RX,aAW (x:=⟨x.cC,x.a8.take (if n<(x.a8.length:Int) then n else(x.a8.length:Int)).toNat⟩) hx h1,aD];unfold IE;rw[aAW hx h1,aD,em,aD,aK (by omega),RX,aEA (x:=⟨y.cC,y.a8.take (if m<(y.a8.length:Int) then m else(y.a8.length:Int)).toNat⟩) f1 f2 f3 h2,aD];unfold ID;rw[aEA f1 f2 f3 h2,aD];generalize (if n<(x.a8.length:Int) then n else(x.a8.length:Int)).toNat=a;generalize (if m<(y.a8.length:Int) then m else(y.a8.length:Int)).toNat=c;have cut:∀(l:List Int) (a:Nat),l.take 400=(l.take a).take 400++(l.take 400).drop (min a 400):=fun l a=>by grind[aF0]
    have hS:T2 (A3 x.cC) (x.a8.take 400)=T2 (T2 (A3 x.cC) ((x.a8.take a).take 400)) ((x.a8.take 400).drop (min a 400)):=by grind[T2]
    have hT:T1 (HI y.cC) (y.a8.take 400)=T1 (T1 (HI y.cC) ((y.a8.take c).take 400)) ((y.a8.take 400).drop (min c 400)):=by grind[T1]
    obtain⟨s1,s2⟩:=aMV ((x.a8.take a).take 400) (aFS h1) (by grind[A3]);have len1:=aPR ((x.a8.take a).take 400) (aFS h1) (by grind[A3]);have l1:(T2 (A3 x.cC) ((x.a8.take a).take 400)).Log.length<=400:=by grind[A3]
    obtain⟨s3,s4⟩:=aMV ((x.a8.take 400).drop (min a 400)) s1 (by(simp_all;omega));obtain⟨t1,t2⟩:=aMW ((y.a8.take c).take 400) (aPN h2);obtain⟨t3,t4⟩:=aMW ((y.a8.take 400).drop (min c 400)) t1;have len2:=aPQ ((y.a8.take c).take 400) (HI y.cC);have l2:(T1 (HI y.cC) ((y.a8.take c).take 400)).Log.length<=400:=by grind[HI]
    rw[hS,hT];generalize T2 (A3 x.cC) ((x.a8.take a).take 400)=s at *;generalize T1 (HI y.cC) ((y.a8.take c).take 400)=u at *;generalize T2 s ((x.a8.take 400).drop (min a 400))=t at *;generalize T1 u ((y.a8.take 400).drop (min c 400))=v at *;have g1:=s4.l.length_le;have g2:=t4.l.length_le;rw[aO (by simp;omega),aO (by simp;omega),aO (by simp[t1.bk.1]),aO (by simp[t3.bk.1])];unfold lW;rw[aO (by simp[s1.2.2.1]),bD7 s4.l (by omega),aD];simp only[S8,S7];rw[bD8 t4.l (by omega),aD];exact bD9 s1.1 s3.1 s4.b t1.bk.1 t3.bk.1 t4.v
   grind
  grind
end Go.Gv
end
