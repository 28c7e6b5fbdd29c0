import Derived.Test.YtdooodokcphomaaGreatXUI
set_option linter.unusedVariables false
set_option linter.unusedSimpArgs false
set_option linter.unusedSectionVars false
set_option linter.constructorNameAsVariable false
set_option linter.unnecessarySimpa false
set_option linter.defProp false
noncomputable section
namespace Go.Gv
variable{i n s w x:Int}{L:aq}{l:ax}{k:ay}{m:a7}{e t:Table}{j j':aK}{c:iK}
section
variable {Ky:an} {b:aA} {k:ay} {c:Int->an} {q:Int->Nat} {J:Int->aK} {w:Int} (hK:Ky.length<=8) (h:sM Ky b k c q J) (hl:∀v,fQ v->LkJ k v (J v)) (hw:fQ w) (hb:lR b) (hk:k.length=2/\∀x∈k,BkV x) (hJ:∀v,fQ v->(J v).bU=true->JB (J v)) (hB:(J w).bU=true) (hep:EpT b.aD J)
include hK h hl hw hb hk hJ hB hep
theorem bI0{e:Int}(N:9<=(J w).Pc/\(J w).Pc<=13):cN e (qF Ky.length (q w) (J w)) (mO b k (J w)).2.2+1<=cN e (q w) (J w):=by
 have t:=h.tw w hw hB;have r:=hJ w hw hB;have E:=r.k;generalize G:qF Ky.length (q w) (J w)=n;have o:∀{g:aK},g.bU=true->(J w).K<(J w).aH.length->g.aH=(J w).aH/\g.K=(J w).K/\g.bH=(J w).bH->cN e n (RP g (nP (J w)))<=((J w).aH.length-(J w).K)*19-12+7*g.cK.length+(J w).bH.length:=λ{g} F j ⟨D,I,H⟩=>by grind[RP,jc9,bRU]
 unfold mO;by_cases c1:((J w).aH.length:Int)<=(J w).K
 .have m:(J w).Pc=9:=by have:=t.k9;omega
  rw[aM c1,jc9 hB m,bNE (by exact hB) rfl,aO (show ¬(J w).K<_ by omega)];grind
 rw[aO c1];have j:(J w).K<(J w).aH.length:=aa
 by_cases m:(J w).Pc=9
 .rw[aM m,jc9 hB m,aM j];have C:n<=7:=by rw[<-G];unfold qF;grind
  simp only;split
  .grind
  .rw[bND (by exact hB) rfl];grind
 rw[aO m];by_cases a:(J w).Pc=10
 .rw[aM a,bND hB a];simp only;obtain⟨A,B,D,⟨I,H⟩,Q⟩:=t.st (.inl a);have C:n=q w-1:=by simp_all[qF]
  split
  .rw[bRT (by exact hB) rfl];grind
  split
  .grind
  .rename_i K u;rw[bND (by exact hB) (by exact a),C];have O:(J w).K.toNat<(J w).aH.length:=aa
   have P:nP (J w)=(J w).aH[(J w).K.toNat]:=by grind[nP]
   have M:=r.wr.2.1 _ (show nP (J w)∈(J w).aH by grind);have p:oT (bi (J w)):=by unfold bi jN;omega
   have l:=h.ch _ p;rw[D] at l;have s:=l.split;rw[a1S s.2.1,aVD s.2.2.1] at u;have:1<=B.length:=by
    match B,s.2.2.2 with
    |[],y=>exact absurd y u
    |_::_,_=>simp
   grind
 rw[aO a];by_cases f:(J w).Pc=11
 .rw[aM f,bRT hB f];grind[RQ]
 rw[aO f];obtain⟨L,_⟩:=aU9 h hw t r aa;have i:¬((J w).gN.length:Int)<=gG (J w).aH (J w).K:=λz=>by simp_all[gG,aII,aKT]
 rw[aO i];by_cases d:(J w).Pc=12
 .rw[aM d,bRU hB d,bRV (by exact hB) rfl];grind
 .rw[aO d,bRV hB aa,jc9 (by exact hB) rfl];grind
theorem bNI:cN (fU b k w (J w)).b.aD.aL (qF Ky.length (q w) (J w)) (fU b k w (J w)).j+5*kZ (fU b k w (J w)).b w+1<=cN b.aD.aL (q w) (J w)+5*kZ b w/\((fU b k w (J w)).b.aD.aL=b.aD.aL\/(J w).Pc=20/\(fU b k w (J w)).j.Pc=21):=by
 have hc:=hb.1.2.1;have t:=h.tw w hw hB;have j:=t.pc;have a:((J w).Pc≠2/\(J w).Pc≠4/\(J w).Pc≠9/\(J w).Pc≠10)->qF Ky.length (q w) (J w)=q w:=λz=>by simp_all[qF]
 generalize g:qF Ky.length (q w) (J w)=n at a;have fl:∀{b':aA} {k':ay} {j':aK} {l:a7},b'.aD.aL=b.aD.aL->kZ b' w=kZ b w->cN b.aD.aL n j'+1<=cN b.aD.aL (q w) (J w)->cN (⟨b',k',j',l⟩:TR).b.aD.aL n (⟨b',k',j',l⟩:TR).j+5*kZ (⟨b',k',j',l⟩:TR).b w+1<=cN b.aD.aL (q w) (J w)+5*kZ b w/\((⟨b',k',j',l⟩:TR).b.aD.aL=b.aD.aL\/(J w).Pc=20/\(⟨b',k',j',l⟩:TR).j.Pc=21):=λ{b' k' j' l} f i D=>⟨aj,.inl f⟩;unfold fU;have P:∀{c:Prop} [Decidable c] {x y:TR},(c->cN x.b.aD.aL n x.j+5*kZ x.b w+1<=cN b.aD.aL (q w) (J w)+5*kZ b w/\(x.b.aD.aL=b.aD.aL\/(J w).Pc=20/\x.j.Pc=21))->(¬c->cN y.b.aD.aL n y.j+5*kZ y.b w+1<=cN b.aD.aL (q w) (J w)+5*kZ b w/\(y.b.aD.aL=b.aD.aL\/(J w).Pc=20/\y.j.Pc=21))->_:=
  dX (P:=λr=>cN r.b.aD.aL n r.j+5*kZ r.b w+1<=cN b.aD.aL (q w) (J w)+5*kZ b w/\(r.b.aD.aL=b.aD.aL\/(J w).Pc=20/\r.j.Pc=21))
 refine P (λp=>?_) λ_=>P (λp=>fl rfl rfl (by rw[a aa];exact bC1 hK h hl hw hb hk hJ hB hep p)) λ_=>P (λp=>fl rfl rfl (g ▸ bC2 hK h hl hw hb hk hJ hB hep p)) λ_=>P (λp=>?_) λ_=>P (λp=>fl rfl rfl (by rw[a aa];exact bC3 hK h hl hw hb hk hJ hB hep p)) λ_=>P (λp=>fl rfl rfl (by rw[a aa];exact bIX hK h hl hw hb hk hJ hB hep p)) λ_=>
  P (λp=>fl (b':=(mO b k (J w)).1) (k':=(mO b k (J w)).2.1) (j':=(mO b k (J w)).2.2) (l:=[]) (by grind[mO]) (by grind[mO,kZ]) (g ▸ bI0 hK h hl hw hb hk hJ hB hep p)) λ_=>P (λp=>fl rfl rfl ?_) λ_=>P (λp=>?_) λ_=>P (λp=>?_) λ_=>P (λp=>?_) λ_=>P (λp=>fl rfl rfl ?_) λ_=>aa
 .rw[a aa];obtain⟨F,E⟩:=bIW hK h hl hw hb hk hJ hB hep p;grind
 .obtain⟨u,s,o,m⟩:=(h.sb w hw).al p;obtain⟨C,B,A,_⟩:=aQ1 hb.1.1 hw u s o m;have f:(yE b w (J w)).1.aD=b.aD:=by grind[yE]
  have i:(yE b w (J w)).1.aQ=b.aQ:=by grind[yE]
  exact fl (b':=(yE b w (J w)).1) (k':=k) (j':=(yE b w (J w)).2) (l:=[]) (cS aD.aL f) (cS (λl=>((dU l w).length:Int)) i) (by rw[a aa];exact a76 hK h hl hw hb hk hJ hB hep p)
 .rw[a aa];exact bIY hK h hl hw hb hk hJ hB hep p
 .have d:(HC b w (J w)).1.aD=b.aD:=by
   unfold HC;split
   .rfl
   .exact TP (by have:=(h.sb w hw).rt p aa;omega)
  refine⟨?_,.inl (by rw[d])⟩;simp only;rw[d,a aa];exact bIZ hK h hl hw hb hk hJ hB hep p
 .have e:(HD b w (J w)).1.aD=b.aD/\(HD b w (J w)).1.aQ=b.aQ:=by grind[HD]
  refine fl (b':=(HD b w (J w)).1) (k':=k) (j':=(HD b w (J w)).2) (l:=[]) (cS aD.aL e.1) (cS (λl=>((dU l w).length:Int)) e.2) ?_;grind[bRW,HD,bNF]
 .refine fl (b':={b with aD:=(PR b.aD w).1}) (k':=k) (j':={J w with Pc:=19}) (l:=[]) (a4W hc hw).1 rfl ?_;grind[bNF,bNG]
 .rw[bNG hB p];unfold cN;rw[aM (show cM.bU=false from rfl)];omega
end
def bC4(e e':Int)(q:Nat)(j:aK):cN e' q j<=cN e q j+3:=by
 cases a:j.bU
 .simp_all[cN]
 .by_cases p:j.Pc=0
  .rw[jc0 a p,jc0 a p];grind[aAO]
  .have:cN e' q j=cN e q j:=by unfold cN;grind
   omega
def bC(x:Batch):Int:=if x.Collect then 14 else x.bR.length*42+19
def isC(x:Batch):Int:=if x.Collect then 1 else 0
def aEQ(f:Batch->Int):bm->Int
 |[]=>0
 |x::r=>f x+aEQ f r
def DG(t:Table)(w:Int):Int:=aEQ isC (uU t w)+if(aE t w).bU=true/\(aE t w).Pc=20 then 1 else 0
def a44(q:Int->Nat)(t:Table)(w:Int):Int:=cN t.aA.aD.aL (q w) (aE t w)+5*kZ t.aA w+aEQ bC (uU t w)
def PU(f:Int->Int):Int:=f 0+f 1+f 2
def aKW(q:Int->Nat)(t:Table)(w:Int):Int:=a44 q t w+3*(PU (DG t)-DG t w)
def aB0(t:Table)(w:Int):Prop:=(aE t w).bU=false/\uU t w=[]
def bC5(b:aA)(w:Int)(s:Sub):(iV b w s).1.aQ=b.aQ\/∃x,(iV b w s).1.aQ=b.aQ.set w.toNat x:=by grind[TM,aEF,fP,C6,wQ,dD,iV]
def bI1(b:aA)(k:ay)(w:Int)(j:aK):(fU b k w j).b.aQ=b.aQ\/∃x,(fU b k w j).b.aQ=b.aQ.set w.toNat x:=by
 have a:=bC5 b w j.Sub;unfold fU;have P:∀{c:Prop} [Decidable c] {x y:TR},(c->(x.b.aQ=b.aQ\/∃z,x.b.aQ=b.aQ.set w.toNat z))->(¬c->(y.b.aQ=b.aQ\/∃z,y.b.aQ=b.aQ.set w.toNat z))->_:=dX (P:=λr=>r.b.aQ=b.aQ\/∃z,r.b.aQ=b.aQ.set w.toNat z);refine P (λ_=>a) λ_=>P (λ_=>.inl rfl) λ_=>P (λ_=>.inl rfl) λ_=>P (λ_=>?_) λ_=>P (λ_=>.inl rfl) λ_=>P (λ_=>.inl rfl) λ_=>P (λ_=>.inl (by grind[mO])) λ_=>P (λ_=>.inl rfl) λ_=>P (λ_=>?_) λ_=>P (λ_=>.inl (by grind[HD])) λ_=>P (λ_=>.inl rfl) λ_=>P (λ_=>.inl rfl) λ_=>.inl rfl
 .unfold yE;split;exact .inl rfl;exact a
 .unfold HC;split;exact .inl rfl;exact a
def aKX{f:Batch->Int}(h:∀x,0<=f x):∀l,0<=aEQ f l
 |[]=>O1 _
 |x::r=>Int.add_nonneg (h x) (aKX h r)
def bRY(x:Batch):0<=bC x:=by grind[bC]
def bAT(x:Batch):0<=isC x:=by grind[isC]
def bC6(t:Table)(w:Int):0<=DG t w:=by have:=aKX bAT (uU t w);grind[DG]
def bNJ(f:Int->Int)(h:∀v,0<=f v)(a:fQ w):f w<=PU f:=by grind[PU]
def a45{f g:Int->Int}(a:fQ w)(h:∀v,fQ v->v≠w->g v=f v):PU g-g w=PU f-f w:=by grind[PU]
section
variable {Ky:an} {q:Int->Nat} {t:Table} (hK:Ky.length<=8) (hv:TV t) (hs:Sft Ky q t) {w:Int} (hw:fQ w) (hser:t.aG≠1000000)
include hK hv hs hw
theorem bC7(a:(aE t w).bU=true):1<=cN t.aA.aD.aL (q w) (aE t w):=by
 have b:JB (aE t w):=(hv.yY.2 _ (C9 hv.yY.1 hw)).resolve_left λe=>by rw[e] at a;cases a
 obtain⟨c,h⟩:=hs.sv;have T:=h.tw w hw a;have f:=T.pc;have g:=b.at_;have sb:=h.sb w hw;have hc:=hv.base.1.2.1;obtain⟨s0,d⟩:=aVG hw hc hs.ep a;have i:=a1A (aE t w).aH;have hk:=b.k;rcases(by omega:(aE t w).Pc=0\/(aE t w).Pc=1\/(2<=(aE t w).Pc/\(aE t w).Pc<=5)\/(aE t w).Pc=6\/(aE t w).Pc=7\/(aE t w).Pc=8\/(aE t w).Pc=9\/(10<=(aE t w).Pc/\(aE t w).Pc<=13)\/(aE t w).Pc=14\/(aE t w).Pc=15\/(aE t w).Pc=16\/(aE t w).Pc=17\/(aE t w).Pc=18\/(aE t w).Pc=19\/(aE t w).Pc=20\/(aE t w).Pc=21) with p|p|p|p|p|p|p|p|p|p|p|p|p|p|p|p
 .rw[jc0 a p];grind[aAO]
 .grind[jc1]
 .have j:(aE t w).At<(aE t w).Batch.bR.length:=T.hc p;grind[jc2,jc3,jc4,jc5]
 .rw[jc6 a p];have:=(sb.al p).2.2.1;omega
 .grind[jc7]
 .grind[jc8]
 .grind[jc9]
 .have:=T.k9 p;grind[bND,bRT,bRU,bRV]
 .grind[bNE]
 .rw[a74 a p];split
  .have:=sb.rt p aa;omega
  .omega
 .grind[bIU]
 .grind[bRW]
 .grind[bNF]
 .grind[bNG]
 .grind[bIV,W8]
 .rw[a75 a p];obtain⟨_,_,z⟩:=sb.col p;grind[aAP]
theorem bNK(h:¬aB0 t w):0<=aKW q t w:=by
 have a:=aKX bRY (uU t w);have b:=bNJ (DG t) (bC6 t) hw;have r:0<=kZ t.aA w:=Int.natCast_nonneg _;unfold aKW a44;by_cases c:(aE t w).bU=true
 .have:=bC7 hK hv hs hw c;omega
 .have:cN t.aA.aD.aL (q w) (aE t w)=0:=by simp_all[cN]
  omega
theorem aZB(h:aB0 t w):bM t w=t/\nxQ Ky q t w=q:=by unfold bM nxQ;rw[aO (by rw[h.1];decide),aM (.inl (by rw[h.2];rfl)),aO (by rw[h.1];decide)];simp
include hser
theorem a46(h:¬aB0 t w):aKW (nxQ Ky q t w) (bM t w) w+1<=aKW q t w/\∀v,fQ v->v≠w->aKW (nxQ Ky q t w) (bM t w) v<=aKW q t v/\(aB0 t v->aB0 (bM t w) v):=by
 have A:=hv.yY.1;have G:∀v,fQ v->(aE t v).bU=true->JB (aE t v):=λv a g=>(hv.yY.2 _ (C9 A a)).resolve_left λe=>by rw[e] at g;cases g
 obtain⟨c,sv⟩:=hs.sv;by_cases g:(aE t w).bU=true
 .have m:bM t w=BV t w (fU t.aA t.aT w (aE t w)):=by simp_all[bM]
  have n:nxQ Ky q t w=upQ q w (qF Ky.length (q w) (aE t w)):=aM g;obtain⟨K,J⟩:=bNI hK sv hs.lk hw hv.base hv.bk G g hs.ep;have D:=(sv.tw w hw g).pc;have u:(fU t.aA t.aT w (aE t w)).j.bU=true/\(fU t.aA t.aT w (aE t w)).j.Pc=20->(aE t w).Pc=20:=λz=>by
   by_cases p:1<=(aE t w).Pc/\(aE t w).Pc<=19
   .rcases bIR (b:=t.aA) (k:=t.aT) (w:=w) p with e|e
    .rw[e] at z;cases z.1
    .omega
   .by_cases E:(aE t w).Pc=20
    .exact E
    .exfalso;have e:(fU t.aA t.aT w (aE t w)).j=(pW t.aA w (aE t w)).2:=by unfold fU;rw[aM aa]
     grind[pW]
  have f:=bI1 t.aA t.aT w (aE t w);rw[m,n];generalize fU t.aA t.aT w (aE t w)=r at K J u f;have j:∀v,fQ v->aE (BV t w r) v=if v=w then r.j else aE t v:=λv a=>VV A hw rfl a;have o:∀v,uU (BV t w r) v=uU t v:=λ_=>rfl;have H:∀v,fQ v->v≠w->kZ r.b v=kZ t.aA v:=λv a d=>by
   unfold kZ;obtain e|⟨x,e⟩:=f
   .rw[e]
   .rw[e,aIF hv.base.1.2.2.1.1 hw a d]
  have s:∀v,fQ v->v≠w->DG (BV t w r) v=DG t v:=λv a d=>by simp_all[DG]
  have I:DG (BV t w r) w<=DG t w/\(r.b.aD.aL≠t.aA.aD.aL->DG (BV t w r) w+1<=DG t w):=by unfold DG;grind
  have y:=a45 hw s;refine⟨?_,λv a d=>⟨?_,λi=>?_⟩⟩
  .unfold aKW a44;rw[y,o,j w hw,aM rfl];show cN r.b.aD.aL (upQ q w _ w) r.j+5*kZ r.b w+_+_+1<=_;rw[show upQ q w (qF Ky.length (q w) (aE t w)) w=qF Ky.length (q w) (aE t w) from aM rfl];omega
  .unfold aKW a44;rw[o,j v a,aO d,s v a d];show cN r.b.aD.aL (upQ q w _ v) (aE t v)+5*kZ r.b v+_+_<=_;rw[show upQ q w (qF Ky.length (q w) (aE t w)) v=q v from aO d,H v a d];have:=bC4 t.aA.aD.aL r.b.aD.aL (q v) (aE t v);grind
  .exact⟨by rw[j v a,aO d];exact i.1,i.2⟩
 .have B:¬((uU t w).length=0\/t.aG=1000000):=λz=>z.elim (λz=>h ⟨aj,vB z⟩) hser;have m:bM t w=uV t w ((uU t w).getD 0 ⟨false,[]⟩):=by simp_all[bM]
  have n:nxQ Ky q t w=q:=aO g;rw[m,n]
  match C:uU t w,B with
  |[],B=>grind
  |x::l,_=>
  simp only[List.getD_cons_zero];have j:∀v,fQ v->aE (uV t w x) v=if v=w then jZ x (t.aG+1) else aE t v:=λv a=>VV A hw rfl a;have o:∀v,fQ v->uU (uV t w x) v=if v=w then l else uU t v:=λv a=>by grind[uU,uV]
  have F:cN t.aA.aD.aL (q w) (aE t w)=0:=by simp_all[cN]
  have jn:cN t.aA.aD.aL (q w) (jZ x (t.aG+1))+1<=bC x:=by
   cases L:x.Collect
   .rw[jc0 (show(jZ x (t.aG+1)).bU=true from rfl) (by grind[jZ])];grind[jZ,bC,aAO,C7]
   simp_all[bIV,jZ,bC,W8,C7]
  have s:∀v,fQ v->v≠w->DG (uV t w x) v=DG t v:=λv a d=>by simp_all[DG]
  have I:DG (uV t w x) w<=DG t w:=by unfold DG;rw[o w hw,j w hw,aM rfl,aM rfl,C,aO (show ¬((aE t w).bU=true/\_) from λz=>g z.1)];grind[aEQ,jZ,isC]
  have y:=a45 hw s;refine⟨?_,λv a d=>⟨?_,λi=>?_⟩⟩
  .unfold aKW a44;rw[y,o w hw,j w hw,aM rfl,aM rfl,C,F];show cN t.aA.aD.aL (q w) (jZ x (t.aG+1))+5*kZ t.aA w+_+_+1<=_;grind[aEQ]
  .unfold aKW a44;rw[o v a,j v a,aO d,aO d,s v a d];show cN t.aA.aD.aL (q v) (aE t v)+5*kZ t.aA v+_+_<=_;omega
  .exact⟨by rw[j v a,aO d];exact i.1,by rw[o v a,aO d];exact i.2⟩
end
def W9{l:bp}(hl:l.length<=1000){f:aK->Bool}{g:aK->aw}(a:∀x∈l,g x=some (f x)):iG l g=some (l.any f):=
 RZ (f:=sA l g) (m:=ED) aa (λk=>by
  simp only[sA];by_cases h:k<l.length
  .rw[dif_pos h,cO,aS h,aI,a _ (cQ h),aI,cY];rfl
  grind) (λ_=>rfl) rfl
def a1V{l:ay}(hl:l.length<=1000){f:bZ->Bool}{g:bZ->aw}(a:∀x∈l,g x=some (f x)):tX l g=some (l.any f):=
 RZ (f:=tW l g) (m:=HM) aa (λk=>by
  simp only[tW];by_cases h:k<l.length
  .rw[dif_pos h,cO,aS h,aI,a _ (cQ h),aI,cY];rfl
  grind) (λ_=>rfl) rfl
def aVH{l:bx}(hl:l.length<=1000){f:Seen->Bool}{g:Seen->aw}(a:∀x∈l,g x=some (f x)):gH l g=some (l.any f):=
 RZ (f:=jT l g) (m:=D9) aa (λk=>by
  simp only[jT];by_cases h:k<l.length
  .rw[dif_pos h,cO,aS h,aI,a _ (cQ h),aI,cY];rfl
  grind) (λ_=>rfl) rfl
def aVI(b:Int):MC b=some (decide (0<=b/\b<=1)):=by grind[MC,dL]
def aVJ{O:Type}{l:List O}{f:O->Bool}(h:∀x∈l,f x=false):l.any f=false:=aIH.2 λx a=>aj
def a47{l:an}(hl:l.length<=6)(h:∀x∈l,lJ x):xK l=some true:=by unfold xK;rw[cO,show(λa=>zH a)=λa=>some (!decide (lJ a)) from funext λy=>by grind[zH,iI],K2 (by grind[maxLen]),aVJ λx b=>aj];rfl
def a48{l:az}(h:WrV l):NI l=some true:=by
 have e:=h.1;unfold NI;have key:loop (tY l) 0=some (Out.brk ()):=eY (f:=tY l) l.length (λk=>(k:Int)) _ (λk hk=>by
  have b:=h.2.1 _ (cQ hk);simp only[tY];rw[cO,aS hk,aI,dL,bY b.1,aI,dY,dL,bY b.2,aI,dY];by_cases d:(0:Int)<k
  .have a:k-1<l.length:=aa
   have c:=aX1.1 h.2.2 (k-1) k a hk aa;rw[aM aj,cY (x:=(k:Int)-1),show(k:Int)-1=((k-1:Nat):Int) by omega,aS a,aI,eQ aa];unfold lX;rw[dY,cY];rfl
  simp_all[lX,cC]) (by simp[tY])
 grind[X8,X7]
def bI2(h:JB j):vH j=some true:=by
 have c:=h.bat.2.1;have hk:=h.k;have hh:=h.held;have a:=aY9 h;have key:loop (AM j) 0=some (Out.brk ()):=eY (f:=AM j) j.bH.length (λk=>(k:Int)) _ (λk hk=>by
  simp only[AM,J2];rw[cO,aS hk,aI,aVI,bY (hh.1 _ (cQ hk)),aI,dY,WU,H3,PW,contains_eq (by grind[maxLen]),eQ ((MO _).1 hh.2 k hk),aI,dY,cY];rfl) (by simp[AM])
 unfold vH;rw[aO (by simp[h.busy]),key];simp only[aI,aC1];unfold aC0;rw[aUW aa,bY h.bat,LA,bY h.h,LA,bY h.prev,aVI,bY h.bkt,dL,bY h.at_,dL,bY (show 0<=j.K/\j.K<=100 by omega),a47 h.new.1 h.new.2,a47 h.old.1 h.old.2,
  aVH (f:=λ_=>false) (by have:=h.rd2;omega) (λs b=>by unfold WD;rw[aVI,bY (h.reads.1 s b)];rfl),aVJ λ_ _=>rfl,a48 h.wr]
 rfl
def a77:vH cM=some true:=by
 have c1:J1 cM.Batch cM.Batch=some true:=by unfold J1;rw[aM ak];unfold MB;rw[dY,aY (r:=Out.brk ()) (by simp[P1,cM])];rfl
 have d:zG [] []=some true:=by unfold zG;rw[dY,aY (r:=Out.brk ()) (by simp[OJ])];rfl
 have c:wD [] []=some true:=by unfold wD;rw[dY,aY (r:=Out.brk ()) (by simp[LU])];rfl
 have b:lW [] []=some true:=by unfold lW;rw[dY,aY (r:=Out.brk ()) (by simp[lA])];rfl
 have a:oN [] []=some true:=by unfold oN;rw[dY,aY (r:=Out.brk ()) (by simp[P2])];rfl
 unfold vH;rw[aM ak];show(NH cM cM).bind _=_;unfold NH;rw[c1,show cM.Reads=[] from rfl,show cM.aH=[] from rfl,show cM.eX=[] from rfl,show cM.gN=[] from rfl,show cM.bH=[] from rfl,show cM.cK=[] from rfl,d,c,b,a];simp[cG]
theorem aZC(a:TV t):∀j∈t.aR,vH j=some true:=λj b=>by
 obtain rfl|h:=a.yY.2 j b
 .exact a77
 .exact bI2 h
def aAQ(a:TV t):CH t=some true:=by
 have k:=a.bk.1;have i:=a.yY.1;have d:=a.todo;unfold CH;rw[aT7 a.base.small.fits,bY a.base,aI,aM rfl,cO,
  a1V (f:=λ_=>false) aa (λx c=>by
   have c:=a.bk.2 x c;unfold SL aHJ;rw[LA,bY c.1,aI,aM rfl,dL,bY c.2.1,aI,aM rfl,dL,bY c.2.2];rfl),aVJ λ_ _=>rfl,aI,aM ak,cO,
  W9 (f:=λ_=>false) aa (λj h=>by grind[SM,aZC]),aVJ λ_ _=>rfl,aI,aM ak,
  aUX (by have:=d.1;omega) (λq e=>by have:=(d.2 q e).1;omega) (λq e b g=>by have:=((d.2 q e).2 b g).2.1;omega),bY d,aI,aM rfl,dL,bY a.ser]
 rfl
def EvS(e:iO):Prop:=e.bR.length<=1000/\e.eX.length<=1000
def bRZ{e:iO}(h:EvS e):QZ e=some e:=by obtain⟨b,a⟩:=h;unfold QZ lU tU;rw[LW,aI,LW];simp[PD]
def bNL(h:j=cM\/JB j):NC j=some j:=by
 have hl:j.Batch.bR.length<=1000/\j.Reads.length<=1000/\j.aH.length<=1000/\j.eX.length<=1000/\j.gN.length<=1000/\j.bH.length<=1000/\j.cK.length<=1000:=by
  obtain rfl|h:=h
  .simp[cM]
  .have q:=h.bat.2.1;have p:=h.rd2;have o:=h.wr.1;have n:=h.res;have m:=h.at_;have l:=h.new.1;have k:=aY9 h;have i:=h.old.1;omega
 obtain⟨a,g,f,e,d,c,b⟩:=hl;unfold NC rC oX tU MA;rw[(a1M a).2,aI,LW,aI,LW,aI,LW,aI,rP aa,rP aa,rP aa];rfl
def bC8(h:aAF t.aA)(hk:t.aT.length<=1000)(g:t.aR.length<=1000/\∀j∈t.aR,j=cM\/JB j)(a:t.eE.length<=1000/\(∀q∈t.eE,q.List.length<=1000)/\∀q∈t.eE,∀b∈q.List,b.bR.length<=1000)(hl:t.Log.length<=1000000/\∀e∈t.Log,EvS e):JZ t=some t:=by
 unfold JZ L9;rw[a1C h,aI,LW,aI,(aUY a.1 a.2.1 a.2.2).2,aI];unfold JY;have d:loop (mW t) (0,(⟨t.aA,[]++t.aT,[],t.eE,[],t.aG⟩:Table))=some (⟨t.aA,t.aT,t.aR,t.eE,[],t.aG⟩:Table):=by
  have:=eY (f:=mW t) t.aR.length (λk=>((k:Int),(⟨t.aA,t.aT,t.aR.take k,t.eE,[],t.aG⟩:Table))) (⟨t.aA,t.aT,t.aR,t.eE,[],t.aG⟩:Table) (λk hk=>by
   simp only[mW];rw[cO,aS hk,aI,bNL (g.2 _ (cQ hk)),aI,LW];grind[JX,cC,N5]) (by simp[mW])
  grind
 have c:loop (mV t) (0,(⟨t.aA,t.aT,t.aR,t.eE,[],t.aG⟩:Table))=some t:=by
  have:=eY (f:=mV t) t.Log.length (λk=>((k:Int),(⟨t.aA,t.aT,t.aR,t.eE,t.Log.take k,t.aG⟩:Table))) t (λk hk=>by
   simp only[mV];rw[cO,aS hk,aI,bRZ (hl.2 _ (cQ hk)),aI,LW];grind[JW,cC,N5]) (by simp[mV])
  grind
 show(loop (mW t) (0,(⟨t.aA,[]++t.aT,[],t.eE,[],t.aG⟩:Table))).bind _=_;rw[d,aI];show(loop (mV t) (0,(⟨t.aA,t.aT,t.aR,t.eE,[],t.aG⟩:Table))).bind _=_;rw[c];rfl
def LF(t:Table):Bool:=!(t.aR.any λj=>j.bU) && !(t.eE.any λq=>decide (0<(q.List.length:Int)))
def aMQ(c:t.aR.length<=1000)(b:t.eE.length<=1000):AN t=some (LF t):=by
 unfold AN LF;rw[W9 (f:=λj=>j.bU) (g:=λa=>MD a) c λ_ _=>rfl,aI];cases (t.aR.any λj=>j.bU)
 .rw[aM ak,aBZ (f:=λq=>decide (0<(q.List.length:Int))) (g:=λa=>ME a) b λ_ _=>rfl];rfl
 .rfl
def aVK(c:TV t):LF t=true↔∀w,fQ w->aB0 t w:=by
 have k:=c.yY.1;have g:=c.todo.1;unfold LF;rw[yV,a2C,a2C,aIH,aIH];constructor
 .rintro⟨a,b⟩ w hw;refine⟨by grind[C9],?_⟩;have d:w.toNat<t.eE.length:=aa
  simp_all[uU]
 .intro h;refine⟨λj f=>?_,λq e=>?_⟩
  .obtain⟨i,d,rfl⟩:=XB f;have:=(h i aa).1;grind[aE]
  .obtain⟨i,d,rfl⟩:=XB e;have:=(h i aa).2;grind[uU]
def XA:Nat->Nat->Table->Table
 |0,_,t=>t
 |n+1,k,t=>if LF t then t else XA n (k+1) (bM t ((k % 3:Nat):Int))
def aQ4(k:Nat):fQ ((k % 3:Nat):Int):=aa
def a49:∀(n k:Nat) (t:Table),k+n=3000->TV t->t.Log.length+n<=1000000->(loop (nN 3000 true) ((k:Int),t)).bind P3=some (XA n k t)
 |0,k,t,hk,_,_=>by rw[aY (r:=Out.brk t) (by simp_all[nN])];rfl
 |n + 1,k,t,hk,a,hl=>by
  have g:=a.yY.1;have e:=a.todo.1;unfold XA;cases b:LF t
  .have c:=a4C a aa (aQ4 k);rw[bJ (s':=(((k+1:Nat):Int),bM t ((k % 3:Nat):Int))) (by
    simp only[nN];rw[cO,aM trivial,aMQ aa aa,aI,b,dY,W9 (f:=λ_=>false) aa (λj d=>by grind[wE,aZC]),aVJ λ_ _=>rfl,aI];unfold nM;rw[dY,TB aa,show((k:Int) % 3)=((k % 3:Nat):Int) by omega,c,aI,cY];rfl)]
   rw[dY];refine a49 n (k+1) _ aa (a.step (aQ4 k)) ?_;have:=aFA t ((k % 3:Nat):Int);unfold VT at this;grind
  .rw[aY (r:=Out.ret t) (by
    simp only[nN];rw[cO,aM trivial,aMQ aa aa,aI,b,aM rfl];rfl),aM rfl];rfl
def bC9(a:TV t)(hl:t.Log.length+3000<=1000000)(f:∀e∈t.Log,EvS e):lY t=some (XA 3000 0 t):=by have i:=a.bk.1;have h:=a.yY.1;have d:=a.todo;unfold lY;rw[bC8 a.base.small aa ⟨aa,a.yY.2⟩ ⟨by have:=d.1;omega,λq c=>by have:=(d.2 q c).1;omega,λq c b g=>by have:=((d.2 q c).2 b g).2.1;omega⟩ ⟨aa,f⟩,aI,aAQ a,aI,aM rfl];have:=a49 3000 0 t rfl a hl;unfold MF;rw[show((0:Nat):Int)=0 from rfl] at this;rw[this];rfl
def aZD{Ky:an}(m:Ky.length<=8)(P:Table->Prop)(o:∀t w,TV t->fQ w->P t->P (bM t w))(g:∀t,P t->t.aG≠1000000):∀(n k:Nat) (q:Int->Nat) (t:Table),TV t->Sft Ky q t->P t->(∀w,fQ w->¬aB0 t w->3*aKW q t w+(w-k) % 3<n)->LF (XA n k t)=true/\TV (XA n k t)/\P (XA n k t)/\∃q',Sft Ky q' (XA n k t)
 |0,k,q,t,f,h,j,i=>⟨(aVK f).2 λw d=>Classical.byContradiction λl=>by
   have:=i w d l;have:=bNK m f h d l;omega,f,j,q,h⟩
 |n + 1,k,q,t,f,h,j,i=>by
  unfold XA;by_cases l:LF t=true
  .grind
  .rw[aO l];have d:=aQ4 k;refine aZD m P o g n (k+1) (nxQ Ky q t ((k % 3:Nat):Int)) _ (f.step d) (h.step f d) (o t _ f d j) λv a b=>?_;by_cases c:aB0 t ((k % 3:Nat):Int)
   .obtain⟨p,s⟩:=aZB m f h d c;rw[p] at b;rw[p,s];have:=i v a b;have r:v≠((k % 3:Nat):Int):=λe=>b (e ▸ c);unfold fQ at a;omega
   .obtain⟨A,x⟩:=a46 m f h d (g t j) c;have y:=i _ d c;by_cases e:v=((k % 3:Nat):Int)
    .rw[e];omega
    .obtain⟨b1,u⟩:=x v a e;have:=i v a λz=>b (u z);unfold fQ at a;omega
theorem aVL(f:Batch->Int)(x:Batch):∀l:bm,aEQ f (l++[x])=aEQ f l+f x
 |[]=>by simp[aEQ]
 |y::r=>by simp only[H6,aEQ,aVL f x r];omega
def bI3(x:Batch):isC x<=1:=by grind[isC]
def a5A:∀l:bm,aEQ isC l<=l.length
 |[]=>by simp[aEQ]
 |x::r=>by have:=a5A r;have:=bI3 x;grind[aEQ]
def KyD(k:Int):Prop:=(0<=k/\k<=5)\/k=7\/k=99\/k<0\/99<k
def BaD(x:Batch):Prop:=bC x<=145/\∀y∈x.bR,KyD y.Key
def QuD(m c:Int)(q:aP):Prop:=aEQ bC q.List<=c/\aEQ isC q.List<=m/\(q.List.length:Int)<=m/\∀x∈q.List,x.bR.length<=1000/\∀y∈x.bR,KyD y.Key
def aQ5{l:bm}{m c m' c':Int}(h:QuD m c ⟨l⟩)(i:m+1<=m'){x:Batch}(hc:c+bC x<=c')(g:x.bR.length<=1000/\∀y∈x.bR,KyD y.Key):QuD m' c' ⟨l++[x]⟩:=by obtain⟨e,d,b,a⟩:=h;simp only at e d b a;have:=bI3 x;refine⟨by grind[aVL],by grind[aVL],aj,λy f=>?_⟩;grind
def aER{m c m' c':Int}{q:aP}(h:QuD m c q)(a:m<=m')(hc:c<=c'):QuD m' c' q:=⟨aQ8 h.1 hc,aQ8 h.2.1 a,aQ8 h.2.2.1 a,h.2.2.2⟩
section
variable {b:bh} {i h:Int} (hc:Cu b i)
include hc
theorem bO3:HA (N8 ⟨b,i,h⟩) (λx=>KyD x.1.Key/\Cu b x.2.1):=by
 unfold N8 IK IJ;refine .bind (aY0 hc ai ai) λk ⟨_,j⟩=>.bind (below j aa) λg ⟨l,a⟩=>?_;have hk:KyD g.1:=.inl aa;refine .ite (λ_=>.ite (λ_=>?_) λ_=>.ret ⟨hk,a⟩) λ_=>.ite (λ_=>?_) λ_=>.ret ⟨hk,a⟩
 .exact .bind (below a aa) λf ⟨_,d⟩=>.bind (aY0 d ae ae) λe ⟨_,c⟩=>.ret ⟨hk,c⟩
 .exact .bind (below a aa) λf ⟨_,d⟩=>.bind (aY0 d ae ae) λe ⟨_,c⟩=>.ret ⟨hk,c⟩
theorem bI5:HA (UK ⟨b,i,h⟩) (λx=>KyD x.1.Key/\Cu b x.2.1):=by
 unfold UK tG;refine .bind (bO3 hc) λj ⟨d,f⟩=>.bind (below f aa) λg ⟨_,c⟩=>.ite (λ_=>?_) λ_=>.ite (λ_=>?_) λ_=>.ite (λ_=>?_) λ_=>.ret ⟨d,c⟩
 .exact .bind (aY0 c ai ai) λe ⟨_,a⟩=>.ret ⟨d,a⟩
 .exact .bind (aY0 c ai ai) λe ⟨k,a⟩=>.ret ⟨by grind[KyD],a⟩
 .exact .bind (aY0 c ai ai) λe ⟨_,a⟩=>.ret ⟨d,a⟩
theorem bNM:HA (QE ⟨b,i,h⟩) (λx=>BaD x.1/\x.1.bR.length<=1000/\Cu b x.2.1):=by unfold QE;refine .bind (bT3 hc aa) λr c=>.ite (λ_=>.ret ⟨⟨by show(14:Int)<=145;decide,ae⟩,ae,c⟩) λ_=>.bind (below c aa) λp ⟨e,m⟩=>?_;rw[cY];refine .bind (P:=λx=>(x.2.2.length<=3/\∀y∈x.2.2,KyD y.Key)/\Cu b x.1) (.loop (λs=>s.1.toNat) (λs=>(0<=s.1/\s.1+s.2.2.2.length<=3/\∀y∈s.2.2.2,KyD y.Key)/\Cu b s.2.1) ⟨⟨aa,ah,ae⟩,m⟩ ?_) λ⟨z,w,v⟩ ⟨⟨e,k⟩,f⟩=>.ret ⟨⟨by simp only at e;unfold bC;grind,k⟩,aj,f⟩;rintro⟨n,u,c,l⟩ ⟨⟨j,g,d⟩,a⟩;simp only at j g d a;simp only[aAY,O4];refine .ite (λq=>?_) (λq=>.ret ⟨⟨aj,d⟩,a⟩);have t:=of_decide_eq_true q;refine .bind (bO3 a) λo ⟨ho,f⟩=>.need ah (.ret ?_);grind[cC]
theorem aZE{m:Int}(B:0<=m/\m<=12):HA (zW ⟨b,i,h⟩ m) (λx=>(x.1.length=3/\∀q∈x.1,QuD m (m*145) q)/\Cu b x.2.1):=by
 unfold zW;refine .bind (P:=λx=>(x.1.length=3/\∀q∈x.1,QuD m (m*145) q)/\Cu b x.2.1) (.loop (λs=>3-s.2.1.toNat) (λs=>((s.1.length:Int)=s.2.1/\s.2.1<=3/\∀q∈s.1,QuD m (m*145) q)/\Cu b s.2.2.1) ⟨⟨rfl,ae,ae⟩,hc⟩ ?_) λx w=>.ret w;rintro⟨l,k,A,D⟩ ⟨⟨e,u,d⟩,f⟩;simp only at e u d f;simp only[UJ];refine .ite (λq=>?_) (λq=>?_)
 .have r:=of_decide_eq_true q;rw[cY (x:=m+1)];refine .bind (below f aa) λn ⟨y,g⟩=>?_;refine .bind (P:=λx=>QuD m (m*145) ⟨x.2.2⟩/\Cu b x.1) (.loop (λs=>s.1.toNat) (λs=>(0<=s.1/\QuD (m-s.1) ((m-s.1)*145) ⟨s.2.2.2⟩)/\Cu b s.2.1) ⟨⟨y.1,by grind[QuD,aEQ]⟩,g⟩ ?_) ?_
  .rintro⟨n,v,g,ops⟩ ⟨⟨t,ho⟩,a⟩;simp only at t ho a;have c:=ho.2.2.1;simp only at c;simp only[UH,IL];refine .ite (λq=>?_) (λq=>?_)
   .have p:=of_decide_eq_true q;refine .bind (bNM a) λo ⟨j,z,C⟩=>.need ah (.ret ?_);have d:=aQ5 (m':=m-(n-1)) (c':=(m-(n-1))*145) ho aa (x:=o.1) (by have:=j.1;omega) ⟨z,j.2⟩;grind[cC]
   .have p:¬0<n:=aj
    exact .ret ⟨aER ho aa aa,a⟩
  .rintro⟨v,g,ops⟩ ⟨ho,a⟩;simp only[UI,UG];refine .need ah (.ret ?_);grind[cC]
 .have r:¬k<3:=aj
  exact .ret ⟨⟨aj,d⟩,f⟩
def aF1(l:ax):Prop:=l.length<=3/\∀q∈l,QuD 13 910 q
omit hc in
theorem a5B(hl:aF1 l)(k:Nat){q:aP}(c:QuD 13 910 q):aF1 (l.set k q):=⟨by simpa using hl.1,λx a=>(tD a).elim (hl.2 x) (λe=>e ▸ c)⟩
theorem a78:HA (FB ⟨b,i,h⟩) (λx=>aF1 x.1/\Cu b x.2.1):=by
 unfold FB;refine .bind (aZE hc aa) λD ⟨⟨o,d⟩,v⟩=>.bind (below v aa) λH ⟨_,n⟩=>?_;have hT:aF1 D.1:=⟨aa,λq a=>aER (d q a) aa aa⟩;simp only[lT,R6,GO];refine .ite (λ_=>?_) λ_=>.ite (λ_=>?_) λ_=>.ite (λ_=>?_) λ_=>.ite (λ_=>?_) λ_=>?_
 .exact .need aa (.ret ⟨⟨ah,λq a=>hT.2 q (bDZ (by simpa using a))⟩,n⟩)
 .refine .bind (.idx aa) λC G=>?_;have j:=d _ G;have:=j.2.2.1;exact .need ah (.ret ⟨a5B hT _ (aQ5 (m:=5) (c:=5*145) (l:=C.List) j aa (x:=⟨false,[]⟩) (by show _+(19:Int)<=910;omega) ⟨ae,ae⟩),n⟩)
 .refine .bind (P:=λx=>aF1 x.1/\Cu b x.2.1) (.loop (λs=>20-((s.1.getD 1 ⟨[]⟩).List.length)) (λs=>(s.1.length=3/\∀q∈s.1,QuD 13 (725+14*q.List.length) q)/\Cu b s.2.1) ⟨⟨o,λq a=>aER (d q a) aa aa⟩,n⟩ ?_) ?_
  .rintro⟨l,F,v⟩ ⟨⟨o,d⟩,g⟩;simp only at o d g;simp only[R7,GN];have e:idx l 1=some l[1]:=aS (k:=1) aa;have w:=d _ (cQ (show 1<l.length by omega));have A:=w.2.2.1;rw[e];simp only[aI];refine .bind (below g aa) λx ⟨z,f⟩=>.ite (λq=>?_) (λq=>?_)
   .have E:=of_decide_eq_true q;rw[cY] at E;refine .need ah (.ret ?_);refine⟨⟨⟨by simp[o],λx e=>?_⟩,f⟩,?_⟩
    .obtain e|e:=tD e
     .grind
     .have:=aQ5 (m':=14) (c':=725+14*(l[1].List++[(⟨true,[]⟩:Batch)]).length) (l:=l[1].List) w aa (x:=⟨true,[]⟩) (by show _+(14:Int)<=_;simp;omega) ⟨ae,ae⟩;rw[e];refine⟨this.1,?_,ah,this.2.2.2⟩;have B:=a5A (l[1].List++[(⟨true,[]⟩:Batch)]);grind
    grind
   .exact .ret ⟨⟨aj,λq a=>aER (d q a) aa (by have:=(d q a).2.2.1;omega)⟩,f⟩
  .rintro⟨l,F,v⟩ e;exact .ret e
 .refine .bind (.idx aa) λr u=>.bind (bI5 n) λp ⟨y,t⟩=>?_;have j:=d _ u;have:=j.2.2.1;exact .need ah (.ret ⟨a5B hT _ (aQ5 (m:=5) (c:=5*145) (l:=r.List) j aa (x:=⟨false,[p.1]⟩) (by show _+(1*42+19:Int)<=910;omega) ⟨ae,aj⟩),t⟩)
 .exact .ret ⟨hT,n⟩
end
def a5C{code:bh}(hl:code.length<=1048576):HA (vP code) (λx=>aF1 x.eE/\x.kD.length<=5000):=by unfold vP;refine .bind (bWG hl) λl h=>.bind (aZE h aa) λb ⟨⟨m,c⟩,g⟩=>.bind (bMU g aa) λk ⟨p,f⟩=>.bind (below f aa) λj ⟨_,e⟩=>?_;have hT:aF1 b.1:=⟨aa,λq a=>aER (c q a) aa aa⟩;simp only[lP];refine .ite (λ_=>.bind (a78 e) λi ⟨d,_⟩=>.ret ⟨d,aj⟩) λ_=>.ite (λ_=>.need ah (.ret ⟨hT,ah⟩)) λ_=>.ret ⟨hT,aj⟩
def aF1.bUC(h:aF1 l):bMT l:=⟨h.1,λq a=>⟨by have:=(h.2 q a).2.2.1;omega,λx b=>((h.2 q a).2.2.2 x b).1⟩⟩
theorem bAU(j:aK)(x:aX):(pK j x).2.Batch=j.Batch:=by grind[pK,uZ]
theorem bAV(j:aK)(c:iK)(v:Int)(is:Bool):(sK j c v is).Batch=j.Batch:=by
 unfold sK;split
 .generalize (if is then v else 0)=u;unfold aCC;have h:=bAU j ⟨c.Key,false,HB u c.dP⟩;split
  .exact h
  .exact h
 .rfl
def bNN(j:aK):(sG j).Batch=j.Batch:=by grind[sG,bAU,bAV]
def bI6(b:aA)(k:ay)(w:Int)(j:aK):(i6 b k w j).Batch=j.Batch:=by
 unfold i6;split
 .split<;>rfl
 .split
  .simp
  .split
   .split
    .rfl
    .split<;>rfl
   .split
    .rfl
    .split
     .rfl
     .split
      .grind[bAV]
      .rfl
def bNO(b:aA)(w:Int)(j:aK):(yE b w j).2.Batch=j.Batch:=by
 unfold yE;split
 .simp
 .simp only;split
  .simp
  .split<;>rfl
def bNP(k:ay)(w:Int)(j:aK):(pU k w j).2.1.Batch=j.Batch:=by
 unfold pU;split
 .split
  .rfl
  .split
   .rfl
   .split<;>rfl
 simp
def bNQ(k:ay)(w:Int)(j:aK):(OY k w j).Batch=j.Batch:=by
 unfold OY;split
 .simp
 .split<;>rfl
theorem a79(j:aK)(x:aX):(RP j x).Batch=j.Batch:=by grind[RP]
theorem bNR(j:aK):(RQ j).Batch=j.Batch:=by grind[RQ]
def bNS(b:aA)(k:ay)(j:aK):(mO b k j).2.2.Batch=j.Batch:=by
 unfold mO;split
 .simp
 .split
  .grind[a79]
  .split
   .grind[a79]
   .split
    .grind[a79,bNR]
    .split
     .rfl
     grind
theorem bAW(j:aK):(OZ j).Batch=j.Batch:=by grind[OZ]
def bNT(k:ay)(j:aK):(DX k j).2.Batch=j.Batch:=by grind[DX,bAW]
def bNU(b:aA)(w:Int)(j:aK):(HC b w j).2.Batch=j.Batch:=by grind[HC,bAW]
def bNV(b:aA)(w:Int)(j:aK):(HD b w j).2.Batch=j.Batch:=by grind[HD]
def bNW(b:aA)(w:Int)(j:aK):(pW b w j).2.Batch=j.Batch:=by grind[pW]
def YY(w:Int)(j:aK)(r:TR):Prop:=(r.j.aG=j.aG/\r.j.bU=j.bU/\r.j.Batch=j.Batch/\(r.l=[]\/r.l=[⟨2,w,j.aG,0,[],[]⟩]))\/(¬(j.Pc<19\/19<j.Pc)/\r.j=cM/\r.l=[tlE w j])
def zP(b:aA)(k:ay)(w:Int)(j:aK)(a:0<=j.Pc/\j.Pc<=21):YY w j (fU b k w j):=by
 unfold fU;refine dX (P:=YY w j) (λ_=>.inl ⟨(aQZ b w j).1,(aQZ b w j).2,bNW b w j,.inl rfl⟩) λ_=>dX (P:=YY w j) (λ_=>.inl ⟨(aQR j).1,(aQR j).2,bNN j,.inl rfl⟩) λ_=>
  dX (P:=YY w j) (λ_=>.inl ⟨(aKR b k w j).1,(aKR b k w j).2,bI6 b k w j,.inl rfl⟩) λ_=>dX (P:=YY w j) (λ_=>.inl ⟨(aQS b w j).1,(aQS b w j).2,bNO b w j,.inl rfl⟩) λ_=>
  dX (P:=YY w j) (λ_=>.inl ⟨(aQT k w j).1,(aQT k w j).2,bNP k w j,?_⟩) λ_=>dX (P:=YY w j) (λ_=>.inl ⟨(aQU k w j).1,(aQU k w j).2,bNQ k w j,.inl rfl⟩) λ_=>
  dX (P:=YY w j) (λ_=>.inl ⟨(aQV b k j).1,(aQV b k j).2,bNS b k j,.inl rfl⟩) λ_=>dX (P:=YY w j) (λ_=>.inl ⟨(aQW k j).1,(aQW k j).2,bNT k j,.inl rfl⟩) λ_=>
  dX (P:=YY w j) (λ_=>.inl ⟨(aQX b w j).1,(aQX b w j).2,bNU b w j,.inl rfl⟩) λ_=>dX (P:=YY w j) (λ_=>.inl ⟨(aQY b w j).1,(aQY b w j).2,bNV b w j,.inl rfl⟩) λ_=>
  dX (P:=YY w j) (λ_=>.inl ⟨rfl,rfl,rfl,.inl rfl⟩) λ_=>dX (P:=YY w j) (λp=>.inr ⟨aa,rfl,rfl⟩) λ_=>.inl ⟨rfl,rfl,rfl,.inl rfl⟩
 simp
structure TlJ (l:a7) (s:Int) (P:bc->Prop):Prop where
 call:∃c∈l,c.Kind=1/\c.aG=s
 all:∀c∈l,c.Kind=1->c.aG=s->P c.bR
def TlJ.app{l:a7}{P:bc->Prop}(h:TlJ l s P)(d:∀x∈m,x.Kind=1->x.aG≠s):TlJ (l++m) s P:=by obtain⟨⟨c,hc,a⟩,f⟩:=h;refine⟨⟨c,XD _ hc,a⟩,λx b k e=>?_⟩;grind
def kT(l:a7):Int:=(l.countP λe=>e.Kind == 3:Nat)
def aF2(t:Table)(v:Int):Int:=if(aE t v).bU then 1 else 0
def RU(t:Table)(v:Int):Int:=(uU t v).length
def bUD(e:iO)(c:bc):Prop:=if e.Code=0 then e.eX.length=c.length else e.eX=[]
structure TlT (n:Int) (t:Table):Prop where
 ev:∀e∈t.Log,EvS e/\e.aG<=t.aG
 job:∀w,fQ w->(aE t w).bU=true->(aE t w).aG<=t.aG/\TlJ t.Log (aE t w).aG (·=(aE t w).Batch.bR)
 tell:∀e∈t.Log,e.Kind=3->(e.Code=0\/e.Code=3\/e.Code=6\/e.Code=7)/\TlJ t.Log e.aG (bUD e)
 sum:kT t.Log+PU (aF2 t)+PU (RU t)=n
 ser:t.aG+PU (RU t)=n
def aQ6{f g:Int->Int}(a:fQ w)(b:∀v,fQ v->v≠w->g v=f v):PU g+f w=PU f+g w:=by grind[PU]
def bI8(l m:a7):kT (l++m)=kT l+kT m:=by grind[kT]
def TlT.zero(hn:PU (RU (dA l))=n):TlT n (dA l):=by
 have c:∀w,fQ w->(aE (dA l) w).bU=false:=λw a=>by rcases(by omega:w=0\/w=1\/w=2) with rfl|rfl|rfl<;>rfl
 have d:PU (aF2 (dA l))=0:=rfl;have f:(dA l).Log=[]:=rfl;refine⟨λe b=>?_,λw a h=>?_,λe b=>?_,?_,?_⟩
 .grind
 .grind
 .grind
 .grind[kT]
 .rw[hn];show(0:Int)+n=n;omega
def TlT.step{Ky:an}{q:Int->Nat}(E:TV t)(l:fQ w)(N:Sft Ky q t)(h:TlT n t):TlT n (bM t w):=by
 have J:=E.yY.1;have h4:=E.todo.1;have V:(aE t w).bU=true->JB (aE t w):=λo=>(E.yY.2 _ (C9 J l)).resolve_left λe=>by rw[e] at o;cases o
 obtain⟨c,sv⟩:=N.sv;unfold bM;by_cases o:(aE t w).bU=true
 .rw[aM o];have tw:=sv.tw w l o;have jb:=V o;obtain⟨js,M⟩:=h.job w l o;have y:=zP t.aA t.aT w (aE t w) tw.pc;generalize fU t.aA t.aT w (aE t w)=r at y;have F:∀v,fQ v->aE (BV t w r) v=if v=w then r.j else aE t v:=λv i=>a1O J rfl l i;have O:RU (BV t w r)=RU t:=rfl;have el:(BV t w r).Log=t.Log++r.l:=rfl;have p:(BV t w r).aG=t.aG:=rfl;have G:∀x∈r.l,x.Kind≠1:=λx u=>by
   obtain⟨_,_,_,e|e⟩|⟨_,_,e⟩:=y<;>rw[e] at u
   .cases u
   .grind
   .rw[jQ.1 u];exact(by decide:(3:Int)≠1)
  have keep:∀{s:Int} {P:bc->Prop},TlJ t.Log s P->TlJ (t.Log++r.l) s P:=λa=>a.app λx u k=>absurd k (G x u);have B:(tlE w (aE t w)).Code=0->((tlE w (aE t w)).eX.length:Int)=(aE t w).At/\(tlE w (aE t w)).eX=(aE t w).eX:=λe=>by have W:(aE t w).Code=0:=e;simp only[tlE,aM W];exact⟨jb.res,trivial⟩
  have R:=jb.at_;have C:=jb.bat.2.1;have K:=jb.res;refine⟨λe d=>?_,λv i j=>?_,λe d k=>?_,?_,?_⟩
  .rw[el] at d;rw[p];obtain d|d:=dR.1 d
   .exact h.ev e d
   .obtain⟨_,_,_,m|m⟩|⟨_,_,m⟩:=y<;>rw[m] at d
    .cases d
    .rw[jQ.1 d];exact⟨⟨ae,ae⟩,js⟩
    .rw[jQ.1 d];refine⟨⟨by simp[tlE],?_⟩,js⟩;show(if(aE t w).Code=0 then(aE t w).eX else []).length<=1000;grind
  .rw[el,p];rw[F v i] at j ⊢;by_cases e:v=w
   .rw[aM e] at j ⊢;obtain⟨s1,s2,Z,_⟩|⟨_,s1,_⟩:=y
    .grind
    .rw[s1] at j;cases j
   .rw[aO e] at j ⊢;exact⟨(h.job v i j).1,keep (h.job v i j).2⟩
  .rw[el] at d ⊢;obtain d|d:=dR.1 d
   .exact⟨(h.tell e d k).1,keep (h.tell e d k).2⟩
   .obtain⟨_,_,_,m|m⟩|⟨Q,_,m⟩:=y<;>rw[m] at d
    .cases d
    .grind
    .rw[jQ.1 d];have cd:=tw.cd;have T:=tw.at_;refine⟨?_,keep ⟨M.call,λc hc L ec=>?_⟩⟩
     .show(aE t w).Code=0\/(aE t w).Code=3\/(aE t w).Code=6\/(aE t w).Code=7;omega
     .rw[M.all c hc L ec];unfold bUD;by_cases z:(aE t w).Code=0
      .rw[aM (show(tlE w (aE t w)).Code=0 from z),(B z).2];omega
      .rw[aO (show ¬(tlE w (aE t w)).Code=0 from z)];show(if(aE t w).Code=0 then(aE t w).eX else [])=[];grind
  .rw[el,O,bI8];have a:=aQ6 (f:=aF2 t) (g:=aF2 (BV t w r)) l λv i I=>by simp_all[aF2]
   have b:aF2 (BV t w r) w=if r.j.bU then 1 else 0:=by simp_all[aF2]
   have b':aF2 t w=1:=by simp_all[aF2]
   have s:=h.sum;obtain⟨_,s2,_,m|m⟩|⟨_,s1,m⟩:=y
   .simp_all[kT]
   .simp_all[kT]
   .rw[s1,aO ai] at b;grind[kT,tlE]
  .rw[O,p];exact h.ser
 .rw[aO o];by_cases H:(uU t w).length=0\/t.aG=1000000
  .grind
  .rw[aO H];have A:(uU t w).getD 0 ⟨false,[]⟩∈uU t w:=aj
   have C:((uU t w).getD 0 ⟨false,[]⟩).bR.length<=6:=by
    have U:w.toNat<t.eE.length:=aa
    have H:=E.todo.2 _ (cQ U);have e:uU t w=t.eE[w.toNat].List:=by grind[uU]
    exact(H.2 _ (e ▸ A)).2.1
   generalize (uU t w).getD 0 ⟨false,[]⟩=b at C;have F:∀v,fQ v->aE (uV t w b) v=if v=w then jZ b (t.aG+1) else aE t v:=λv i=>a1O J rfl l i;have D:∀v,fQ v->RU (uV t w b) v=if v=w then(((uU t w).drop 1).length:Int) else RU t v:=λv i=>by grind[RU,uU,uV]
   have el:(uV t w b).Log=t.Log++[⟨1,w,t.aG+1,0,b.bR,[]⟩]:=rfl;have p:(uV t w b).aG=t.aG+1:=rfl;have keep:∀{s:Int} {P:bc->Prop},s<=t.aG->TlJ t.Log s P->TlJ (t.Log++[⟨1,w,t.aG+1,0,b.bR,[]⟩]) s P:=λN a=>a.app λx u k=>aj
   refine⟨λe d=>?_,λv i j=>?_,λe d k=>?_,?_,?_⟩
   .rw[el] at d;rw[p];obtain d|d:=dR.1 d
    .have:=h.ev e d;grind
    .rw[jQ.1 d];exact⟨⟨aj,ae⟩,O1 _⟩
   .rw[el,p];rw[F v i] at j ⊢;by_cases e:v=w
    .rw[aM e];refine⟨O1 _,⟨⟨_,aIK _ (jQ.2 rfl),rfl,rfl⟩,λc hc L ec=>?_⟩⟩;obtain hc|hc:=dR.1 hc
     .have:=(h.ev c hc).2;have S:c.aG=t.aG+1:=ec;omega
     .rw[jQ.1 hc];rfl
    .rw[aO e] at j ⊢;obtain⟨a,b⟩:=h.job v i j;grind
   .rw[el] at d ⊢;obtain d|d:=dR.1 d
    .exact⟨(h.tell e d k).1,keep (h.ev e d).2 (h.tell e d k).2⟩
    grind
   .rw[el,bI8];have a:=aQ6 (f:=aF2 t) (g:=aF2 (uV t w b)) l λv i I=>by simp_all[aF2]
    have Y:=aQ6 (f:=RU t) (g:=RU (uV t w b)) l λv i I=>aj
    have b1:aF2 (uV t w b) w=1:=by unfold aF2;rw[F w l,aM rfl];rfl
    have b':aF2 t w=0:=by simp_all[aF2]
    have c1:=D w l;rw[aM rfl,XC] at c1;have X:RU t w=(uU t w).length:=rfl;have s:=h.sum;grind[kT]
   .rw[p];have Y:=aQ6 (f:=RU t) (g:=RU (uV t w b)) l λv i I=>aj
    have c1:=D w l;rw[aM rfl,XC] at c1;have X:RU t w=(uU t w).length:=rfl;have s:=h.ser;omega
def a8A(d:t.aR.length<=1000)(c:t.eE.length<=1000)(h:LF t=true):AS t=some true:=by
 unfold LF at h;rw[yV,a2C,a2C,aIH,aIH] at h;have b:loop (rI t) 0=some (Out.brk ()):=eY (f:=rI t) t.aR.length (λk=>(k:Int)) _ (λk hk=>by
  simp only[rI];rw[cO,aS hk,aI,aO (h.1 _ (cQ hk)),cY];rfl) (by simp[rI])
 have a:loop (mX t) 0=some (Out.brk ()):=eY (f:=mX t) t.eE.length (λk=>(k:Int)) _ (λk hk=>by
  simp only[mX];rw[cO,aS hk,aI,aO (h.2 _ (cQ hk)),cY];rfl) (by simp[mX])
 unfold AS;rw[b];show(loop (mX t) 0).bind U2=_;rw[a];rfl
def a5D:∀(n k:Nat) (t:Table),(XA n k t).Log.length<=t.Log.length+n
 |0,_,t=>jE _
 |n + 1,k,t=>by
  unfold XA;split
  .omega
  .have:=a5D n (k+1) (bM t ((k % 3:Nat):Int));have h:=aFA t ((k % 3:Nat):Int);unfold VT at h;grind
def Ky7:an:=[0,1,2,3,4,5,7,99]
def bUE{k:Int}(h:KyD k)(v:0<=k/\k<=99):k∈Ky7:=by
 unfold KyD at h;have:k=0\/k=1\/k=2\/k=3\/k=4\/k=5\/k=7\/k=99:=aa
 simpa[Ky7] using this
def bR1(f:aF1 l)(e:W6 l):Sft Ky7 (λ_=>0) (dA l):=Sft.zero λq c b d x a=>bUE ((f.2 q c).2.2.2 b d |>.2 x a) ((((e.2 q c).2 b d).2.2.1 x a).2.1)
def bUF(g:aF1 l)(f:fQ w):aKW (λ_=>0) (dA l) w<=999:=by
 have d:∀v,fQ v->aE (dA l) v=cM:=λv b=>by rcases(by omega:v=0\/v=1\/v=2) with rfl|rfl|rfl<;>rfl
 have c:∀v:Int,QuD 13 910 ⟨uU (dA l) v⟩:=λv=>by
  show QuD 13 910 ⟨(l.getD v.toNat ⟨[]⟩).List⟩;rw[DY];cases e:l[v.toNat]? with
  |none=>simp[QuD,aEQ]
  |some q=>exact g.2 q (IA e)
 have a:∀v,fQ v->0<=DG (dA l) v/\DG (dA l) v<=13:=λv b=>by have h:=aKX bAT (uU (dA l) v);have j:=(c v).2.1;unfold DG;rw[d v b,aO (λq=>by cases q.1)];grind
 have i:kZ (dA l).aA w=0:=by rcases(by omega:w=0\/w=1\/w=2) with rfl|rfl|rfl<;>rfl
 have k:a44 (λ_=>0) (dA l) w<=910:=by unfold a44;rw[d w f,i];have h:=(c w).1;grind[cN,cM]
 have n:=a 0 (by simp[fQ]);have b1:=a 1 (by simp[fQ]);have m:=a 2 (by simp[fQ]);unfold aKW PU;rcases(by omega:w=0\/w=1\/w=2) with rfl|rfl|rfl<;>omega
def PlT(n:Int)(t:Table):Prop:=TlT n t/\∃q,Sft Ky7 q t
def PhT(n:Int)(t:Table):Prop:=TlT n t/\∃q,Sft Ky7 q t/\∀w,fQ w->¬aB0 t w->aKW q t w<=999
def a5E(t:Table):0<=PU (RU t):=by grind[PU,RU]
def PlT.step(d:TV t)(c:fQ w)(h:PlT n t):PlT n (bM t w):=by obtain⟨a,q,b⟩:=h;exact⟨a.step d c b,_,b.step d c⟩
def PhT.step(hn:n<=100)(g:TV t)(f:fQ w)(h:PhT n t):PhT n (bM t w):=by
 obtain⟨a,q,b,c⟩:=h;refine⟨a.step g f b,_,b.step g f,λv i j=>?_⟩;have d:t.aG≠1000000:=by have:=a.ser;have:=a5E t;omega
 by_cases e:aB0 t w
 .obtain⟨l,k⟩:=aZB ai g b f e;grind
 .obtain⟨o,m⟩:=a46 ai g b f d e;grind
def bWL(g:aF1 l)(i:W6 l)(p:an)(r:p.length<=400):lY (E7 (dA l) p)=some (XA 3000 0 (E7 (dA l) p))/\LF (XA 3000 0 (E7 (dA l) p))=true/\TV (XA 3000 0 (E7 (dA l) p))/\PlT (PU (RU (dA l))) (XA 3000 0 (E7 (dA l) p))/\(XA 3000 0 (E7 (dA l) p)).Log.length<=3400:=by
 have j:PU (RU (dA l))<=100:=by
  have:∀v:Int,RU (dA l) v<=13:=λv=>by
   show(((l.getD v.toNat ⟨[]⟩).List.length:Nat):Int)<=13;rw[DY];cases e:l[v.toNat]? with
   |none=>simp
   |some q=>exact(g.2 q (IA e)).2.2.1
  grind[PU]
 obtain⟨v,a,q,b,c⟩:=aID (P:=PhT (PU (RU (dA l)))) (λt w f d h=>h.step j f d) p (aE9 i) ⟨.zero rfl,_,bR1 g i,λw d _=>bUF g d⟩;have hl:=aMN p (dA l);rw[show(dA l).Log.length=0 from rfl] at hl;generalize E7 (dA l) p=t at v a b c hl;obtain⟨o,n,m,_⟩:=aZD ai (PlT (PU (RU (dA l)))) (λt w f d h=>h.step f d) (λt h=>by have:=h.1.ser;have:=a5E t;omega) 3000 0 q t v b ⟨a,q,b⟩ λw d s=>aj
 have:=a5D 3000 0 t;exact⟨bC9 v aa λe k=>(a.ev e k).1,o,n,m,aa⟩
theorem bI9{l:a7}{P:bc->Prop}(h:TlJ l s P):0<=oA l 1 s/\P (l.getD (oA l 1 s).toNat ⟨0,0,0,0,[],[]⟩).bR:=by obtain⟨c,hc,k,e⟩:=h.call;have a:l.findIdx (isE 1 s)<l.length:=a2D ⟨c,hc,by grind[isE]⟩;have b:=aQ9 (w:=a);have d:oA l 1 s=(l.findIdx (isE 1 s):Int):=aM a;rw[d];refine⟨aa,?_⟩;rw[H3,DY,iS a];unfold isE at b;rw[yV,beq_iff_eq,beq_iff_eq] at b;exact h.all _ (cQ a) b.1 b.2
def kY.cls{m:Mem}(h:kY m x):0<=bO m.Heap (x % 32)/\lJ x:=⟨eC h.1.2.1,h.1.1⟩
def aVM{m:Mem}(g:lN m):∀(r:an) (done:an) (x:Int),ChT m x r->(done++r).Nodup->done.length+r.length<=1000->loop (F8 m) (done,x)=some (Out.brk (done++r))
 |[],done,x,h,j,hl=>by refine aY ?_;have k:x=0:=h;simp_all[F8]
 |a::r,done,x,h,j,hl=>by
  obtain⟨rfl,hw,hk,hc⟩:=h;obtain⟨d,hh⟩:=hw.cls;obtain⟨c,e,f⟩:=aEI g x;have i:x≠0:=by have:=hh.1;omega
  have b:x∉done:=λq=>aj
  simp only[H8] at hl;rw[bJ (s':=(done++[x],(cX m x).Next)) (by
   simp only[F8];rw[aM aj,e,aI,f.2 hw,dY,contains_eq (by grind[maxLen]),aI,eQ b];unfold F7;rw[dY,show Int.tmod x 32=x % 32 from a5V (by have:=hh.1;omega),aMI g.1.1.1 d hw.2,aI,aYZ,aI,bY (show aIC (aEH m.Heap (x % 32)) from hk),dY,LW];rfl)]
  rw[aVM g r (done++[x]) _ hc aj ah];simp
def a1W{m:Mem}(a:lN m)(b:m.Heap.Bytes.length<=maxLen)(c:(eN m.aC).length<=1073741824){l:an}(h:ChT m x l)(hn:l.Nodup)(hl:l.length<=1000):KF m x=some (l,true):=by unfold KF;rw[E4 b c,bY a,aI,dY,aVM a l [] x h aj aj];rfl
def bUG:an->Int->an
 |[],x=>[x]
 |a::t,x=>if a=x then a::t else if x<a then x::a::t else a::bUG t x
def bDA(f:Int->an):Nat->an
 |0=>[]
 |k+1=>bDA f k++f k
def srt(l:an):an:=l.foldl bUG []
def aXY(c:Int->an)(J:Int->aK):an:=bDA c 2++bDA (λv=>own (J v)) 3
section
variable {Ky:an} {b:aA} {k:ay} {c:Int->an} {q:Int->Nat} {J:Int->aK} (h:sM Ky b k c q J)
include h
theorem bAX(s:Int):csL (aXY c J) s=ind b s:=by rw[<-h.cnt s];grind[aXY,bDA,aAM,cnC,cnO]
theorem bR2(a:x∈aXY c J):kY b.Mem x/\¬bH b.aQ (x % 32):=by
 refine⟨?_,?_⟩
 .have:x∈c 0\/x∈c 1\/x∈own (J 0)\/x∈own (J 1)\/x∈own (J 2):=by grind[aXY,bDA]
  obtain m|m|m|m|m:=this
  .exact((h.ch 0 (by simp[oT])).all x m).1
  .exact((h.ch 1 (by simp[oT])).all x m).1
  .exact h.ok 0 (by simp[fQ]) x m
  .exact h.ok 1 (by simp[fQ]) x m
  .exact h.ok 2 (by simp[fQ]) x m
 .have:=W7 a;rw[bAX h] at this;grind[ind]
theorem bAY:((aXY c J).map (· % 32)).Nodup:=List.nodup_iff_count.2 λs=>by have:=bAX h s;grind[csL,ind]
theorem bDB:(aXY c J).Nodup:=(List.pairwise_map.1 (bAY h)).imp λh e=>h (by rw[e])
theorem bAZ(g:x∈aXY c J):(0<=x % 32/\x % 32<24)/\x % 32 % 4<2/\x≠0:=by obtain⟨⟨lv,d⟩,_⟩:=bR2 h g;obtain⟨a,e,f⟩:=sZ (eC lv.2.1);rw[f] at d;have:=lv.1;grind[lJ,cT,jV]
theorem bNY:(aXY c J).length<=12:=by
 have e:=bCW (p:=λi:Nat=>decide ((i:Int)∈(aXY c J).map (· % 32))) (n:=24) (bAY h) (λx f=>by
  grind[bAZ]) (λi _=>ae)
 rw[List.length_map] at e;rw[<-e];unfold bM0;refine oB (m:=((List.range 24).filter λi:Nat=>decide (i % 4<2)).length) ?_ ai;rw[<-List.countP_eq_length_filter,<-List.countP_eq_length_filter];refine List.countP_mono_left λi _ a=>?_;obtain⟨y,d,e⟩:=H9.1 (of_decide_eq_true a);grind[bAZ]
end
def bUH{m:Mem}(d:lN m)(c:kY m x):CR m (uY m.Heap (x % 32):Int)=some (cX m x)/\KE m x=some ((uY m.Heap (x % 32):Int),0):=by
 obtain⟨a,hh⟩:=c.cls;have b:=d.1.1.1;have f:=b.1;have e:=(BU a c.2).1;constructor
 .unfold CR cX aEH;rw[show(2:Int)=((2:Nat):Int) from rfl,show(4:Int)=((4:Nat):Int) from rfl,BR b.2.2.1 aa aa aa,aI,cY,show(uY m.Heap (x % 32):Int)+((2:Nat):Int)=((uY m.Heap (x % 32)+2:Nat):Int) by omega,
   BR b.2.2.1 aa aa aa,aI,cY,show(uY m.Heap (x % 32):Int)+6=((uY m.Heap (x % 32)+6:Nat):Int) by omega,BR b.2.2.1 aa aa aa];rfl
 .unfold KE F6;have:=aAE a;rw[jH,aI,bY hh,dY,iA,aM hh,aI,nD b,aI,T8,aI,nD b,aI,TD,aI,aO (by simpa using c.2),aI,(start_eq b a).1,aI];grind[uY]
def bJA{m:Mem}(c:lN m):∀(r:an) (done:an) (x:Int),ChT m x r->(done++r).Nodup->done.length+r.length<=1000->loop (CU m) (done,x)=some (Out.brk (done++r))
 |[],done,x,h,g,hl=>by refine aY ?_;have n:x=0:=h;simp_all[CU]
 |a::r,done,x,h,g,hl=>by
  obtain⟨rfl,hw,hk,hc⟩:=h;obtain⟨d,hh⟩:=hw.cls;obtain⟨e,t,p,f,s,j,_⟩:=lN.facts c;have l:=c.1.1.1;have o:=(BU d hw.2).1;have i:x≠0:=by have:=hh.1;omega
  have b:x∉done:=λq=>(aIL.1 g).2.2 x q x ae rfl;obtain⟨ld,k⟩:=bUH c hw;have nd:U8 (cX m x)=some true:=by unfold U8 A4;rw[cR,aI,bY hk.1,aM rfl,cR,aI,bY hk.2.1,aM rfl,RM,aI,bY hk.2.2]
  simp only[H8] at hl;rw[bJ (s':=(done++[x],(cX m x).Next)) (by
   simp only[CU];rw[aM aj,GH l aa (by grind[maxLen]) (by grind[maxLen]),aI,bY hw.1,dY,yU (by grind[maxLen]),aI,eQ b];unfold CT;rw[dY,k,aI,dY,ld,aI,nd,aI];unfold CS;rw[dY,LW,ld];rfl)]
  rw[bJA c r (done++[x]) _ hc aj ah];simp
section
variable {Ky:an} {t:Table} {c:Int->an} {q:Int->Nat} (hv:TV t) (h:sM Ky t.aA t.aT c q (aE t))
include hv h
theorem aVN(a:oT i):(c i).length<=12/\(c i).Nodup:=by have b:=bNY h;grind[bDB,aXY,bDA]
theorem bJB:OM t=some ([c 0,c 1],true):=by
 have g:=hv.base.1.1;obtain⟨d,m,l,f,_⟩:=lN.facts g;have k:=hv.bk.1;have e:∀i:Int,oT i->idx t.aT i=some (eG t.aT i)/\KF t.aA.Mem (eG t.aT i).Head=some (c i,true):=λi j=>by obtain⟨a,b⟩:=aVN hv h j;refine⟨?_,a1W g (by grind[maxLen]) aa (h.ch i j) b aa⟩;grind[iD,eG]
 have key:loop (A5 t) (([]:List an),0)=some (Out.brk [c 0,c 1]):=by
  rw[bJ (s':=([c 0],1)) (by simp_all[A5,cC,cJ]),
   bJ (s':=([c 0,c 1],2)) (by simp_all[A5,cC,cJ]),aY (r:=Out.brk [c 0,c 1]) (by grind[A5])]
 unfold OM;rw[aAQ hv,aI,dY,key];rfl
end
def aZF{s:aq}{p:KV->Bool}(hl:s.length<=4611686018427387904) :
  (∃j,∃h:j<s.length,(∀i (h:i<s.length),i<j->p s[i]=false)/\p s[j]=true/\jL s (λy=>some (p y))=some (j:Int))\/((∀i (h:i<s.length),p s[i]=false)/\jL s (λy=>some (p y))=some (-1)):=by
 rcases TC (f:=wH s (λy=>some (p y))) (p:=p) hl (λk=>by
  simp only[wH];by_cases h:k<s.length
  .rw[dif_pos h,cO,aS h,aI,aI,cY];rfl
  grind) s.length 0 aa with ⟨j,h,_,c,e,d⟩|⟨g,c⟩
 .refine .inl ⟨j,h,λi b a=>c i b (iT _) a,e,?_⟩;unfold jL;rw[show(0:Int)=((0:Nat):Int) from rfl,d];rfl
 .refine .inr ⟨λi b=>g i b (iT _),?_⟩;unfold jL;rw[show(0:Int)=((0:Nat):Int) from rfl,c];rfl
def aVO{s:aq}{p:KV->Bool}(hl:s.length<=4611686018427387904):rK s (λy=>some (p y))=some (s.filter λx=>!p x):=by
 unfold rK;rcases aZF (p:=p) hl with ⟨j,h,c,g,b⟩|⟨c,b⟩
 .have ne:¬(((j:Int) == -1)=true):=ae
  rw[b,aI,aO ne,cY];obtain⟨M,k,q,o,m,l⟩:=aQK (p:=p) (n:=s.length) (f:=mY (λy=>some (p y))) hl (λL i j h d e=>by
   simp only[mY];rw[cO,aS h,aI,aI];by_cases a:p L[j]=true
   .rw[aM a,aO (by simp[a])];grind[kH,cC]
   .rw[aO a,aM aj,RK,aI];grind[kH,cC]) (λL i j h=>by
   grind[mY]) (s.length-(j+1)) s j (j+1) aa rfl aa
  grind[HU,HT,cJ,fK,aYJ,a3U]
 .rw[b,aI,aM ak,List.filter_eq_self.2];grind[XB]
def bJC{O:Type}{p:O->Bool}:∀{l:List O},(∀x∈l,p x=true)->l.dropWhile p=[]
 |[],_=>rfl
 |a::l,h=>by rw[List.dropWhile_cons,aM (h a ae),bJC λx b=>h x (by simp[b])]
def mpF(m:aq)(k v:Int):aq:=(m.filter λx=>!(x.Key == k)).takeWhile (λx=>!decide (k<x.Key))++⟨k,v⟩::(m.filter λx=>!(x.Key == k)).dropWhile (λx=>!decide (k<x.Key))
theorem aMR{m:aq}(hl:m.length<=100000)(k v:Int):vK m k v=some (mpF m k v):=by
 unfold vK ON lF;rw[LW,aI,PY,show(λc=>NV c k)=(λy=>some (y.Key == k)) from rfl,aVO aa,aI,aI];unfold mpF;have f:(m.filter λx=>!(x.Key == k)).length<=m.length:=bDY _ _;generalize (m.filter λx=>!(x.Key == k))=d at f;have e:∀j:Nat,j<=d.length->A6 k v d (j:Int)=some (d.take j++⟨k,v⟩::d.drop j):=λj t=>by grind[A6,MJ,cJ]
 rw[show(λc=>WE c k)=(λy=>some (decide (k<y.Key))) from rfl];rcases aZF (s:=d) (p:=λy=>decide (k<y.Key)) aa with ⟨j,h,n,w,g⟩|⟨n,g⟩
 .obtain⟨o,z⟩:=a09 (q:=λx:KV=>!decide (k<x.Key)) h (λi u a=>aj) aj;grind
 .have b:∀x∈d,(!decide (k<x.Key))=true:=λx r=>by grind[XB]
  have A:d.dropWhile (λx:KV=>!decide (k<x.Key))=[]:=bJC b;have o:=aX3 (p:=λx:KV=>!decide (k<x.Key)) (l:=d);grind
theorem bNZ{m:aq}{k v:Int}(h:∀x∈m,x.Key≠k):(mpF m k v).length=m.length+1/\∀x,x∈mpF m k v↔x=⟨k,v⟩\/x∈m:=by unfold mpF;rw[List.filter_eq_self.2 (λx a=>aj)];have e:=aX3 (p:=λx:KV=>!decide (k<x.Key)) (l:=m);grind
def chF(m:Mem)(l:an)(a:aq):aq:=l.foldr (λh a=>mpF a (cX m h).Key (cX m h).dP) a
def aKY{m:Mem}{a:aq}:∀{l:an},(nQ m l).Nodup->(∀x∈a,∀y∈l,x.Key≠(cX m y).Key)->(chF m l a).length=a.length+l.length/\∀x,x∈chF m l a↔x∈a\/∃y∈l,x=⟨(cX m y).Key,(cX m y).dP⟩
 |[],_,_=>by simp[chF]
 |h::l,b,e=>by unfold nQ at b;rw[LM,aF9] at b;obtain⟨g,f⟩:=aKY (l:=l) b.2 (λx d y c=>e x d y (lZ _ c));grind[chF,bNZ]
section
variable {Ky:an} {t:Table} {c:Int->an} {q:Int->Nat} (hv:TV t) (h:sM Ky t.aA t.aT c q (aE t))
include hv h
theorem a8B{i:Int}(k:oT i):∀{l A:an} {a:aq},c i=A++l->(nQ t.aA.Mem l).Nodup->(∀x∈a,∀y∈l,x.Key≠(cX t.aA.Mem y).Key)->a.length<=1000->l.length<=100->tmB t l a=some (chF t.aA.Mem l a)
 |[],_,_,_,_,_,_,_=>rfl
 |x::l,A,a,e,d,r,s,hl=>by have p:=hv.base.1.1;unfold nQ at d;rw[LM,aF9] at d;rw[H8] at hl;have b:∀z∈a,∀y∈l,z.Key≠(cX t.aA.Mem y).Key:=λz hz y o=>r z hz y (lZ _ o);have n:=a8B k (l:=l) (A:=A++[x]) (a:=a) (by rw[e];simp) d.2 b s aa;obtain⟨j,u⟩:=(h.ch i k).all x (by rw[e];simp);obtain⟨f,hh⟩:=j.cls;have g:=(aKY (m:=t.aA.Mem) (l:=l) d.2 b).1;unfold tmB;rw[n,aI,show Int.tmod x 32=x % 32 from a5V (by have:=hh.1;omega),aMI p.1.1.1 f j.2,aI];exact aMR aa _ _
def aMS(m:Mem)(c:Int->an):aq:=chF m (c 1) (chF m (c 0) [])
theorem a5F:∀x∈chF t.aA.Mem (c 0) [],∀y∈c 1,x.Key≠(cX t.aA.Mem y).Key:=λx i y g e=>by
 obtain⟨f,d⟩:=h.key 0 (by simp[oT]);obtain⟨j,b⟩:=h.key 1 (by simp[oT]);rcases((aKY (a:=[]) f ae).2 x).1 i with q|⟨z,hz,rfl⟩
 .cases q
 .have l:=(d _ (H9.2 ⟨z,hz,rfl⟩)).1;have k:=(b _ (H9.2 ⟨y,g,rfl⟩)).1;grind
theorem bN0:yQ t=some (aMS t.aA.Mem c)/\(aMS t.aA.Mem c).length=(c 0).length+(c 1).length:=by obtain⟨d,_⟩:=h.key 0 (by simp[oT]);obtain⟨b,_⟩:=h.key 1 (by simp[oT]);have f:=(aVN hv h (i:=0) (by simp[oT])).1;have e:=(aVN hv h (i:=1) (by simp[oT])).1;obtain⟨j,_⟩:=aKY (m:=t.aA.Mem) (a:=[]) d ae;obtain⟨g,_⟩:=aKY (m:=t.aA.Mem) b (a5F hv h);refine⟨?_,by grind[aMS]⟩;unfold yQ;rw[bJB hv h,aI];simp only[tmL];rw[a8B hv h (by simp[oT]) (A:=[]) rfl d ae ae aa,aI,a8B hv h (by simp[oT]) (A:=[]) rfl b (a5F hv h) aj aa];rfl
end
abbrev RV:=Int->bu
def upM(M:RV)(k:Int)(v:bu):RV:=λx=>if x=k then v else M x
def aCD(M:RV)(c:iK):RV×eX:=
 if c.Kind=2 then(upM M c.Key (some c.dP),⟨false,0⟩)
 else if c.Kind=3 then(upM M c.Key none,⟨false,0⟩)
 else if c.Kind=4 then(upM M c.Key (some (HB ((M c.Key).getD 0) c.dP)),⟨true,HB ((M c.Key).getD 0) c.dP⟩)
 else(M,⟨(M c.Key).isSome,(M c.Key).getD 0⟩)
def sJ(M:RV):bc->RV×bq
 |[]=>(M,[])
 |c::l=>((sJ (aCD M c).1 l).1,(aCD M c).2::(sJ (aCD M c).1 l).2)
def aAR(c:iK):∀(l:bc) (M:RV),sJ M (l++[c])=((aCD (sJ M l).1 c).1,(sJ M l).2++[(aCD (sJ M l).1 c).2])
 |[],M=>rfl
 |d::l,M=>by simp only[H6,sJ,aAR c l]
def apw(W:az)(M:RV):RV:=λk=>match W.find? (λy=>y.Key == k) with
 |some x=>wv x
 |none=>M k
def aKZ(M:RV):apw [] M=M:=rfl
def bA1(W:az)(x:aX)(M:RV):apw (yC W x) M=upM (apw W M) x.Key (wv x):=by
 have e:=aX3 (p:=λy:aX=>!decide (x.Key<y.Key)) (l:=W.filter λy=>!(y.Key == x.Key));funext k;unfold apw upM yC;by_cases h:k=x.Key
 .subst h;have a:((W.filter λy=>!(y.Key == x.Key)).takeWhile (λy=>!decide (x.Key<y.Key))).find? (λy=>y.Key == x.Key)=none:=by grind[List.takeWhile_sublist]
  grind
 .have b:(W.filter λy=>!(y.Key == x.Key)).find? (λy=>y.Key == k)=W.find? (λy=>y.Key == k):=aj
  grind
def bA2(W:az)(M:RV)(k:Int):apw W M k=if(T9 W k).2 then(if(T9 W k).1.LJ then none else some (T9 W k).1.dP) else M k:=by unfold apw T9;cases W.find? λy=>y.Key == k<;>rfl
def a5G{W:az}{M:RV}{k:Int}(h:∀y∈W,y.Key≠k):apw W M k=M k:=by grind[apw]
def YZ{W:az}{M N:RV}{k:Int}(h:M k=N k):apw W M k=apw W N k:=by grind[apw]
def a5H{W:az}(b:W.Pairwise (λx y=>x.Key<y.Key)){K:Int}(c:0<=K)(h:K<W.length)(M:RV)(k:Int):apw (W.drop K.toNat) M k=if k=(W.getD K.toNat ⟨0,false,0⟩).Key then wv (W.getD K.toNat ⟨0,false,0⟩) else apw (W.drop (K+1).toNat) M k:=by
 have a:K.toNat<W.length:=aa
 have e:(K+1).toNat=K.toNat+1:=aa
 unfold apw;rw[vA a,DY,iS a,aIO,List.find?_cons,e];grind
def bN1{W:az}(b:W.Pairwise (λx y=>x.Key<y.Key)){K:Int}(e:0<=K)(h:K<W.length):∀y∈W.drop (K+1).toNat,y.Key≠(W.getD K.toNat ⟨0,false,0⟩).Key:=λy a=>by
 have c:K.toNat<W.length:=aa
 rw[show(K+1).toNat=K.toNat+1 by omega] at a;rw[DY,iS c,aIO];have d:=b.sublist (List.drop_sublist K.toNat W);grind[vA,aRA]
def bJD(G:db)(M:RV):Prop:=∀g∈G,M g.1=g.2
def Did(G:db)(j:aK):Prop:=∀M,bJD G M->sJ M (j.Batch.bR.take j.At.toNat)=(apw j.aH M,j.eX)
section
variable {G G':db} {j:aK} (h:Did G j) (hat:0<=j.At) (hc:wR j)
include h hat hc
theorem aMT:j.Batch.bR.take (j.At+1).toNat=j.Batch.bR.take j.At.toNat++[cZ j]:=by
 unfold wR at hc;have a:j.At.toNat<j.Batch.bR.length:=aa
 unfold cZ
 (simp_all;omega)
theorem bN2(hk:(cZ j).Kind=2\/(cZ j).Kind=3)(e:j'.Batch=j.Batch)(d:j'.At=j.At+1)(c:j'.aH=yC j.aH ⟨(cZ j).Key,(cZ j).Kind == 3,(cZ j).dP⟩)(b:j'.eX=j.eX++[⟨false,0⟩]):Did G j':=λM a=>by rw[e,d,c,b,aMT h hat hc,aAR,h M a,bA1];grind[aCD,wv]
theorem bA3{v:Int}{is:Bool}(d:∀M,bJD G' M->bJD G M)(hk:(cZ j).Kind=1\/(cZ j).Kind=4)(c:∀M,bJD G' M->apw j.aH M (cZ j).Key=if is then some v else none)(hl:(yC j.aH ⟨(cZ j).Key,false,HB (if is then v else 0) (cZ j).dP⟩).length<=6):Did G' (sK j (cZ j) v is):=λM b=>by
 have a:=h M (d M b);have e:=c M b;unfold sK;obtain k|k:=hk
 .rw[iB];unfold aAK;simp only;rw[aMT h hat hc,aAR,a];grind[aCD]
 .rw[aM k];unfold aCC pK;rw[aO (show ¬6<(yC j.aH ⟨(cZ j).Key,false,HB (if is then v else 0) (cZ j).dP⟩).length by omega),aM rfl];unfold aAK;simp only;rw[aMT h hat hc,aAR,a,bA1];grind[aCD,wv]
end
def BkS(k k':ay)(w:Int)(j:aK)(i:Int):Prop:=
 ((eG k' i).eW=(eG k i).eW/\((eG k' i).eU=(eG k i).eU\/(j.Pc=7/\(eG k i).eU=0/\(eG k' i).eU=w+1/\(eG k i).eW≠1000000)\/(j.Pc=16/\(eG k i).eU=w+1/\(eG k' i).eU=0))) \/
 (j.Pc=14/\(eG k i).eU=w+1/\(eG k' i).eU=0/\(eG k' i).eW=if 1000000<(eG k i).eW+1 then 1000000 else(eG k i).eW+1)
def bN3(a:0<=j.K)(h:j.K<(rO j.aH).length):oT (gK j):=by grind[gK,YS,cQ]
def bJE(h:0<j.bH.length):zO j∈j.bH:=by grind[zO]
def aVP{b:aA}(m:k.length=2)(o:JB j)(hl:LkJ k w j)(g:oT i):BkS k (fU b k w j).k w j i:=by
 have same:∀{k':ay},(eG k' i).eW=(eG k i).eW->(eG k' i).eU=(eG k i).eU->BkS k k' w j i:=λa b=>.inl ⟨a,.inl b⟩;have z:∀(n x:Int),oT n->BkS k (k.set n.toNat {eG k n with Head:=x}) w j i:=λn x t=>by grind[tC]
 unfold fU;have P:∀{c:Prop} [Decidable c] {x y:TR},(c->BkS k x.k w j i)->(¬c->BkS k y.k w j i)->_:=dX (P:=λr=>BkS k r.k w j i);refine P (λ_=>same rfl rfl) λ_=>P (λ_=>same rfl rfl) λ_=>P (λ_=>same rfl rfl) λ_=>P (λ_=>same rfl rfl) λ_=>P (λp=>?_) λ_=>P (λ_=>same rfl rfl) λ_=>P (λp=>?_) λ_=>P (λp=>?_) λ_=>P (λ_=>same rfl rfl) λ_=>P (λ_=>same rfl rfl) λ_=>P (λ_=>same rfl rfl) λ_=>P (λ_=>same rfl rfl) λ_=>same rfl rfl
 .show BkS k (pU k w j).1 w j i;have key:∀(h:j.K<(rO j.aH).length),(eG k (gK j)).eU=0->(eG k (gK j)).eW≠1000000->BkS k (k.set (gK j).toNat {eG k (gK j) with eU:=w+1}) w j i:=λh a c=>by
   have f:=bN3 o.k.1 h;by_cases e:i=gK j
   .refine .inl ⟨?_,.inr (.inl ⟨p,?_⟩)⟩
    .rw[tC m f g,aM e,e]
    .rw[tC m f g,aM e,e];exact⟨a,rfl,c⟩
   simp_all[tC]
  unfold pU;grind
 .show BkS k (mO b k j).2.1 w j i;unfold mO;split
  .grind
  rename_i q;have v:=o.wr.2.1 (nP j) (by
   have g:j.K.toNat<j.aH.length:=by have:=o.k;omega
   grind[nP])
  have f:oT (jN (nP j).Key):=by unfold jN;omega
  grind
 .show BkS k (DX k j).1 w j i;unfold DX;split
  .rename_i u;have s:=bJE u;have f:=o.held.1 _ s;have l:=(hl.iff _ f).1 s;by_cases e:i=zO j
   .by_cases d:j.Pc=14
    .refine .inr ⟨d,?_⟩;rw[tC m f g,aM e,aM d,e];exact⟨l,rfl,rfl⟩
    .refine .inl ⟨?_,.inr (.inr ⟨aa,?_⟩)⟩
     .rw[tC m f g,aM e,aO d,e]
     .rw[tC m f g,aM e,aO d,e];exact⟨l,rfl⟩
   simp_all[tC]
  grind
structure Bz (n:Int) (t:Table):Prop where
 v:TV t
 pl:PlT n t
 lg:a4J t
 lv:∀i,oT i->(eG t.aT i).eU≠0->(eG t.aT i).eW≠1000000
 rv:∀w,fQ w->∀s∈(aE t w).Reads,s.eW<=(eG t.aT s.bZ).eW
 tu:∀x∈t.Log,∀y∈t.Log,x.Kind=3->y.Kind=3->x.aG=y.aG->x=y
def bJF{b:aA}(i:0<=j.Pc/\j.Pc<=21):∀s∈(fU b k w j).j.Reads,s∈j.Reads\/s=⟨j.bZ,j.eW⟩/\(eG k j.bZ).eW=j.eW:=by
 unfold fU;have P:∀{c:Prop} [Decidable c] {x y:TR},(c->∀s∈x.j.Reads,s∈j.Reads\/s=⟨j.bZ,j.eW⟩/\(eG k j.bZ).eW=j.eW)->(¬c->∀s∈y.j.Reads,s∈j.Reads\/s=⟨j.bZ,j.eW⟩/\(eG k j.bZ).eW=j.eW)->_:=dX (P:=λr=>∀s∈r.j.Reads,s∈j.Reads\/s=⟨j.bZ,j.eW⟩/\(eG k j.bZ).eW=j.eW);have E:∀{j':aK},j'.Reads=j.Reads->∀s∈j'.Reads,s∈j.Reads\/s=⟨j.bZ,j.eW⟩/\(eG k j.bZ).eW=j.eW:=λe s a=>.inl (e ▸ a);have rr:∀(j:aK) (x:aX),(pK j x).2.Reads=j.Reads:=λj x=>by unfold pK uZ;split<;>rfl
 have f:∀(j:aK) c v is,(sK j c v is).Reads=j.Reads:=λj c v is=>by
  unfold sK;split
  .generalize (if is then v else 0)=u;have h:=rr j ⟨c.Key,false,HB u c.dP⟩;unfold aCC;split
   .exact h
   .exact h
  .rfl
 refine P (λ_=>E ?_) λ_=>P (λ_=>E ?_) λ_=>P (λp=>?_) λ_=>P (λ_=>E ?_) λ_=>P (λ_=>E ?_) λ_=>P (λ_=>E ?_) λ_=>P (λ_=>E ?_) λ_=>P (λ_=>E ?_) λ_=>P (λ_=>E ?_) λ_=>P (λ_=>E ?_) λ_=>P (λ_=>E rfl) λ_=>P (λ_ s a=>by cases a) λ_=>E rfl
 .show(pW b w j).2.Reads=_;grind[pW]
 .show(sG j).Reads=_;grind[sG]
 .show ∀s∈(i6 b k w j).Reads,_;unfold i6;split
  .split<;>exact E rfl
  split
  .exact E rfl
  split
  .split
   .exact E rfl
   .split<;>exact E rfl
  .split
   .exact E rfl
   rename_i q;have g:(eG k j.bZ).eW=j.eW:=Classical.byContradiction λz=>q (.inr z);have d:∀s∈(uS j.Reads j.bZ j.eW).1,s∈j.Reads\/s=⟨j.bZ,j.eW⟩/\(eG k j.bZ).eW=j.eW:=λs a=>by
    unfold uS at a;split at a
    .exact .inl a
    .obtain a|a:=dR.1 a
     .exact .inl a
     .exact .inr ⟨jQ.1 a,g⟩
   split
   .exact d
   split
   .rw[f];exact d
   .exact d
 .show(yE b w j).2.Reads=_;grind[yE,uZ]
 .show(pU k w j).2.1.Reads=_;grind[pU,MR,uZ]
 .show(OY k w j).Reads=_;grind[OY,uZ]
 .show(mO b k j).2.2.Reads=_;grind[mO,RP,RQ,uZ]
 .show(DX k j).2.Reads=_;grind[DX,OZ]
 .show(HC b w j).2.Reads=_;grind[HC,OZ]
 .show(HD b w j).2.Reads=_;grind[HD]
def BkS.le{k':ay}(h:BkS k k' w j i)(b:(eG k i).eW<=1000000):(eG k i).eW<=(eG k' i).eW:=by
 obtain⟨a,_⟩|⟨_,_,_,a⟩:=h
 .omega
 .rw[a];split<;>omega
def bJG(a:TV t)(b:oT i):(eG t.aT i).eW<=1000000:=(a.bk.2 _ (a1J a.bk.1 b)).2.1.2
def Bz.jb(h:Bz n t)(b:fQ w)(a:(aE t w).bU=true):JB (aE t w):=(h.v.yY.2 _ (C9 h.v.yY.1 b)).resolve_left λe=>by rw[e] at a;cases a
def Bz.step(f:fQ w)(h:Bz n t):Bz n (bM t w):=by
 have D:=h.v.yY.1;have A:=h.pl;obtain⟨_,q,B⟩:=h.pl;obtain⟨c,sv⟩:=B.sv;refine⟨h.v.step f,A.step h.v f,h.lg.step h.v f,?_,?_,?_⟩
 .intro i C l;unfold bM at l ⊢;by_cases g:(aE t w).bU=true
  .rw[aM g] at l ⊢;have b1:=aVP (b:=t.aA) h.v.bk.1 (h.jb f g) (B.lk w f) C;have lv:=h.lv i C;show(eG (fU t.aA t.aT w (aE t w)).k i).eW≠_;have l:(eG (fU t.aA t.aT w (aE t w)).k i).eU≠0:=l;unfold fQ at f;obtain⟨a,b|b|b⟩|b:=b1
   .rw[a];exact lv aa
   .rw[a];exact b.2.2.2
   .omega
   .omega
  .rw[aO g] at l ⊢;split at l<;>split<;>first|exact h.lv i C l|contradiction
 .intro v r s d;unfold bM at d ⊢;by_cases g:(aE t w).bU=true
  .rw[aM g] at d ⊢;have E:aE (BV t w (fU t.aA t.aT w (aE t w))) v=DA (aE t) w (fU t.aA t.aT w (aE t w)).j v:=VV D f rfl r;rw[E] at d;show s.eW<=(eG (fU t.aA t.aT w (aE t w)).k s.bZ).eW;have le:∀{u:Int},oT u->(eG t.aT u).eW<=(eG (fU t.aA t.aT w (aE t w)).k u).eW:=λo=>(aVP (b:=t.aA) h.v.bk.1 (h.jb f g) (B.lk w f) o).le (bJG h.v o);have old:∀u,fQ u->s∈(aE t u).Reads->s.eW<=(eG (fU t.aA t.aT w (aE t w)).k s.bZ).eW:=λu o m=>by
    have a:=h.rv u o s m;have I:oT s.bZ:=by
     rcases h.v.yY.2 _ (C9 D o) with e|e
     .rw[e] at m;cases m
     .exact e.reads.1 s m
    grind
   by_cases e:v=w
   .rw[e,i7] at d;rcases bJF (sv.tw w f g).pc s d with m|⟨H,G⟩
    .grind
    .rw[H];exact G ▸ le (h.jb f g).bkt
   grind[wT]
  .rw[aO g] at d ⊢;by_cases F:(uU t w).length=0\/t.aG=1000000
   .rw[aM F] at d ⊢;exact h.rv v r s d
   .rw[aO F] at d ⊢;have E:aE (uV t w ((uU t w).getD 0 ⟨false,[]⟩)) v=DA (aE t) w (jZ ((uU t w).getD 0 ⟨false,[]⟩) (t.aG+1)) v:=VV D f rfl r;rw[E] at d;by_cases e:v=w
    .rw[e,i7] at d;cases d
    .rw[wT _ _ e] at d;exact h.rv v r s d
 .have add:∀z:iO,(z.Kind=3->∀x∈t.Log,x.Kind=3->x.aG≠z.aG)->∀x∈t.Log++[z],∀y∈t.Log++[z],x.Kind=3->y.Kind=3->x.aG=y.aG->x=y:=λz hz x k y j p ky e=>by
   obtain k|k:=dR.1 k<;>obtain j|j:=dR.1 j
   .exact h.tu x k y j p ky e
   .rw[jQ.1 j] at ky e;exact absurd e (hz ky x k p)
   .rw[jQ.1 k] at p e;exact absurd e.symm (hz p y j ky)
   .rw[jQ.1 k,jQ.1 j]
  unfold bM;by_cases g:(aE t w).bU=true
  .rw[aM g];show ∀x∈t.Log++_,∀y∈t.Log++_,_;rcases a4K t.aA t.aT w (aE t w) with ⟨_,_,e|e⟩|⟨_,e⟩<;>rw[e]
   .rw[wW];exact h.tu
   .grind
   .exact add _ λ_=>(h.lg.job w f g).tell
  .rw[aO g];split
   .exact h.tu
   .exact add _ λz=>by cases z
inductive Rn:Table->Table->Prop
 |refl (t:Table):Rn t t
 |step {t e:Table} {w:Int}:fQ w->Rn (bM t w) e->Rn t e
def Rn.trans{a b c:Table}(h:Rn a b)(k:Rn b c):Rn a c:=by
 induction h with
 |refl=>exact k
 |step hw _ d=>exact .step hw (d k)
def bA4:∀(l:an) (t:Table),Rn t (E7 t l)
 |[],t=>.refl t
 |p::l,t=>by
  have:=bA4 l (VT t p);show Rn t (E7 (VT t p) l);unfold VT at this ⊢;split at this
  .rw[aM (by assumption)];exact .step (by assumption) this
  grind
def bJH:∀(n k:Nat) (t:Table),Rn t (XA n k t)
 |0,_,t=>.refl t
 |n + 1,k,t=>by
  unfold XA;split
  .exact .refl t
  .exact .step (aQ4 k) (bJH n (k+1) _)
def vL(e:Table)(s:Int):Bool:=e.Log.any λx=>x.Kind == 3 && x.aG == s && x.Code == 0
theorem aQ7:vL e s=true↔∃x∈e.Log,x.Kind=3/\x.aG=s/\x.Code=0:=by simp[vL,and_assoc]
def bJI(h:∀x∈e.Log,x.Kind=3->x.aG=s->x.Code≠0):vL e s=false:=by grind[aQ7]
def a5I(t:Table)(w:Int):∃m,(bM t w).Log=t.Log++m:=by
 unfold bM;split
 .exact⟨_,rfl⟩
 .split
  .simp
  .exact⟨_,rfl⟩
def Rn.log(h:Rn t e):∃m,e.Log=t.Log++m:=by
 induction h with
 |refl=>simp
 |step hw _ b=>
  obtain⟨m,c⟩:=b;obtain⟨a,d⟩:=a5I _ _;exact⟨a++m,by rw[c,d,qM]⟩
def a5J{b:aA}(h:16<=j.Pc/\j.Pc<=18):(fU b k w j).j.Code=j.Code:=by grind[fU,DX,HD]
def a1X{b:aA}(h:8<=j.Pc/\j.Pc<=18)(a:j.Pc≠16/\j.Pc≠17)(hc:j.Code=0):((fU b k w j).j.Code=7/\j.Pc=8\/(fU b k w j).j.Code=1)\/(fU b k w j).j.Code=0/\(if j.Pc=8 then 8 else 9)<=(fU b k w j).j.Pc/\(fU b k w j).j.Pc<=19:=by
 rcases(by omega:j.Pc=8\/(9<=j.Pc/\j.Pc<=13)\/j.Pc=14\/j.Pc=15\/j.Pc=18) with p|p|p|p|p
 .grind[fU,OY,uZ]
 .have e:(fU b k w j).j=(mO b k j).2.2:=by unfold fU;grind
  grind[mO,RP,RQ,uZ]
 .grind[fU,DX,OZ]
 .have e:(fU b k w j).j=(HC b w j).2:=by grind[fU]
  grind[HC,OZ]
 grind[fU]
section
variable {n:Int} {t:Table} (h:Bz n t)
include h
theorem Bz.ne{v:Int}(b:fQ v)(a:fQ w)(b1:(aE t v).bU=true)(c:(aE t w).bU=true)(e:(aE t v).aG=(aE t w).aG):v=w:=Classical.byContradiction λq=>h.lg.ne v w b a q b1 c e
theorem Bz.tw(a:fQ w)(b:(aE t w).bU=true):(0<=(aE t w).Pc/\(aE t w).Pc<=21)/\((aE t w).Code=0/\(aE t w).Pc≠16/\(aE t w).Pc≠17\/((aE t w).Code=3\/(aE t w).Code=6\/(aE t w).Code=7)/\16<=(aE t w).Pc/\(aE t w).Pc<=19):=by obtain⟨_,q,d⟩:=h.pl;obtain⟨c,sv⟩:=d.sv;exact⟨(sv.tw w a b).pc,(sv.tw w a b).cd⟩
theorem Bz.lk(a:fQ w):LkJ t.aT w (aE t w):=by obtain⟨_,q,b⟩:=h.pl;exact b.lk w a
theorem qL(a:fQ w)(c:(aE t w).bU=true):bM t w=BV t w (fU t.aA t.aT w (aE t w))/\∀v,fQ v->aE (bM t w) v=DA (aE t) w (fU t.aA t.aT w (aE t w)).j v:=by
 have e:bM t w=BV t w (fU t.aA t.aT w (aE t w)):=by simp_all[bM]
 exact⟨e,λv b=>by rw[e];exact VV h.v.yY.1 a rfl b⟩
theorem MS(a:fQ w)(c:(aE t w).bU≠true):aE t w=cM/\(bM t w=t\/∃x∈uU t w,bM t w=uV t w x/\∀v,fQ v->aE (bM t w) v=DA (aE t) w (jZ x (t.aG+1)) v):=by
 refine⟨(h.v.yY.2 _ (C9 h.v.yY.1 a)).resolve_right λj=>c j.busy,?_⟩;by_cases d:(uU t w).length=0\/t.aG=1000000
 .simp_all[bM]
 .right;have e:bM t w=uV t w ((uU t w).getD 0 ⟨false,[]⟩):=by simp_all[bM]
  refine⟨_,?_,e,λv b=>by rw[e];exact VV h.v.yY.1 a rfl b⟩;grind
end
def bDC(t:Table)(s:Int):Prop:=s<=t.aG/\(∀x∈t.Log,x.Kind=3->x.aG=s->x.Code≠0)/\∀w,fQ w->(aE t w).bU=true->(aE t w).aG=s->(aE t w).Code≠0
def bDC.step(h:Bz n t)(g:fQ w)(k:bDC t s):bDC (bM t w) s:=by
 obtain⟨r,o,j⟩:=k;by_cases i:(aE t w).bU=true
 .obtain⟨e,m⟩:=qL h g i;obtain⟨f,cd⟩:=h.tw g i;have u:=zP t.aA t.aT w (aE t w) f;refine⟨by rw[e];exact r,λx b B ex=>?_,λv l a c=>?_⟩
  .rw[e] at b;obtain b|b:=dR.1 b
   .grind
   .obtain⟨_,_,_,q|q⟩|⟨_,_,q⟩:=u<;>rw[q] at b
    .cases b
    .grind
    .rw[jQ.1 b] at ex ⊢;exact j w g i ex
  .rw[m v l] at a c ⊢;by_cases z:v=w
   .rw[z,i7] at a c ⊢;obtain⟨s1,_,_,_⟩|⟨_,q,_⟩:=u
    .have:=j w g i (s1.symm.trans c);rw[a5J]
     .exact this
     .refine⟨aa,?_⟩;have:=zP t.aA t.aT w (aE t w) f;by_cases p:(aE t w).Pc=19
      .have A:(fU t.aA t.aT w (aE t w)).j=cM:=by simp_all[fU]
       rw[A] at a;cases a
      .omega
    .rw[q] at a;cases a
   grind[wT]
 .obtain⟨C,e|⟨x,_,e,m⟩⟩:=MS h g i
  .rw[e];exact⟨r,o,j⟩
  .refine⟨by rw[e];show s<=t.aG+1;omega,λy d ky ey=>?_,λv l a c=>?_⟩
   .rw[e] at d;obtain d|d:=dR.1 d
    .exact o y d ky ey
    .rw[jQ.1 d] at ky;cases ky
   .rw[m v l] at a c ⊢;by_cases z:v=w
    .rw[z,i7] at c;have:t.aG+1=s:=c;omega
    grind[wT]
def bDC.run(r:Rn t e)(h:Bz n t)(k:bDC t s):vL e s=false:=by
 induction r with
 |refl=>exact bJI k.2.1
 |step hw _ a=>exact a (h.step hw) (k.step h hw)
theorem bA5(r:Rn t e)(h:Bz n t)(a:fQ w)(c:(aE t w).bU=true)(hc:(aE t w).Code≠0):vL e (aE t w).aG=false:=bDC.run r h ⟨h.lg.jle w a c,λx d k q=>absurd q ((h.lg.job w a c).tell x d k),λv f b q=>by rw[h.ne f a b c q];exact hc⟩
def bN4(r:Rn t e)(C:∀v,fQ v->(aE e v).bU=false)(h:Bz n t)(k:(∃x∈t.Log,x.Kind=3/\x.aG=s/\x.Code=0)\/∃w,fQ w/\(aE t w).bU=true/\(aE t w).aG=s/\(aE t w).Code=0/\9<=(aE t w).Pc/\(aE t w).Pc<=19):vL e s=true:=by
 induction r with
 |refl=>
  grind[aQ7]
 |step hu _ B=>
  rename_i t e u _;refine B C (h.step hu) ?_;obtain⟨x,m,k⟩|⟨w,hw,f,es,hc,G⟩:=k
  .obtain⟨l,el⟩:=a5I t u;grind
  .by_cases z:w=u
   .subst z;obtain⟨E,g⟩:=qL h hw f;obtain⟨i,cd⟩:=h.tw hw f;have y:=zP t.aA t.aT w (aE t w) i;by_cases p:(aE t w).Pc=19
    .left;obtain⟨_,q,_⟩|⟨_,_,q⟩:=y
     .exfalso;have D:(fU t.aA t.aT w (aE t w)).j=cM:=by unfold fU;simp only[p];rfl
      rw[D,f] at q;cases q
     .refine⟨tlE w (aE t w),by rw[E];exact aIK _ (by rw[q];simp),rfl,es,hc⟩
    .right;obtain⟨s1,s2,_⟩|⟨q,_⟩:=y
     .have a:(aE (bM t w) w).bU=true:=by rw[g w hw,i7,s2];exact f
      have o:=((h.step hw).tw hw a).2;refine⟨w,hw,a,by rw[g w hw,i7,s1];exact es,?_⟩;rw[g w hw,i7] at o ⊢;rcases a1X (b:=t.aA) (k:=t.aT) (w:=w) (j:=aE t w) aa aa hc with c|⟨c1,A,F⟩
      .omega
      .rw[iB] at A;exact⟨c1,A,F⟩
     .omega
   .right;have g:aE (bM t u) w=aE t w:=by
     by_cases d:(aE t u).bU=true
     .rw[(qL h hu d).2 w hw,wT _ _ z]
     .obtain⟨_,q|⟨x,_,_,q⟩⟩:=MS h hu d
      .rw[q]
      .rw[q w hw,wT _ _ z]
    grind
def Holds(F:Int->Bool)(t:Table)(v i:Int):Prop:=(eG t.aT i).eU=v+1/\F (aE t v).aG=true/\8<=(aE t v).Pc
def Bad(F:Int->Bool)(t:Table)(w:Int):Prop:=∃s∈(aE t w).Reads.drop (aE t w).K.toNat,s.eW<(eG t.aT s.bZ).eW\/∃v,fQ v/\v≠w/\Holds F t v s.bZ
def H0(h:Bz n t){v:Int}(b:fQ v)(c:oT i)(hl:(eG t.aT i).eU=v+1):(aE t v).bU=true/\i∈(aE t v).bH/\(7<=(aE t v).Pc/\(aE t v).Pc<=14\/(aE t v).Pc=16):=by
 have a:=((h.lk b).iff i c).2 hl;refine⟨?_,a,(h.lk b).pc (List.ne_nil_of_mem a)⟩;rcases h.v.yY.2 _ (C9 h.v.yY.1 b) with e|e
 .rw[e] at a;cases a
 .exact e.busy
def Holds.step(h:Bz n t){u:Int}(g:fQ u)(r:Rn (bM t u) e){v:Int}(a:fQ v)(l:oT i)(k:Holds (vL e) t v i):Holds (vL e) (bM t u) v i\/u=v/\(aE t v).Pc=14/\(eG (bM t u).aT i).eW=(eG t.aT i).eW+1/\(eG (bM t u).aT i).eU=0:=by
 obtain⟨m,B,D⟩:=k;obtain⟨o,G,F⟩:=H0 h a l m;obtain⟨y,cd⟩:=h.tw a o;have hc:(aE t v).Code=0:=Classical.byContradiction λq=>by have:=bA5 (.step g r) h a o q;grind
 by_cases z:v=u
 .subst z;obtain⟨s,C⟩:=qL h a o;have bk:=aVP (b:=t.aA) h.v.bk.1 (h.jb a o) (h.lk a) l;have lv:=h.lv i l aa;have le:=bJG h.v l;obtain⟨b1,d|d|d⟩|⟨p,b1,d,b3⟩:=bk
  .left;rcases zP t.aA t.aT v (aE t v) y with ⟨s1,s2,_⟩|⟨q,_⟩
   .unfold Holds;rw[C v a,i7,s1];refine⟨by rw[s];exact d.trans m,B,?_⟩;have A:(aE (bM t v) v).bU=true:=by grind[i7]
    rcases a1X (b:=t.aA) (k:=t.aT) (w:=v) (j:=aE t v) aa aa hc with c|⟨c1,I,H⟩
    .exfalso;have:=bA5 r (h.step a) a A (by grind[i7]);grind[i7]
    omega
   .omega
  .omega
  .omega
  .right;rw[s];refine⟨rfl,p,?_,d⟩;show(eG (fU t.aA t.aT v (aE t v)).k i).eW=_;rw[b3,iB]
 .left;unfold Holds;by_cases f:(aE t u).bU=true
  .obtain⟨s,C⟩:=qL h g f;have bk:=aVP (b:=t.aA) h.v.bk.1 (h.jb g f) (h.lk g) l;rw[C v a,wT _ _ z];refine⟨?_,B,D⟩;rw[s];show(eG (fU t.aA t.aT u (aE t u)).k i).eU=_;unfold fQ at a g;obtain⟨b1,d|d|d⟩|b:=bk
   .rw[d];exact m
   .omega
   .omega
   .omega
  .obtain⟨_,q|⟨x,_,E,q⟩⟩:=MS h g f
   .grind
   .rw[q v a,wT _ _ z,E];exact⟨m,B,D⟩
def a1Y(h:Bz n t){u:Int}(c:fQ u)(d:oT i):(eG t.aT i).eW<=(eG (bM t u).aT i).eW:=by
 by_cases a:(aE t u).bU=true
 .rw[(qL h c a).1];exact(aVP (b:=t.aA) h.v.bk.1 (h.jb c a) (h.lk c) d).le (bJG h.v d)
 .obtain⟨_,q|⟨x,_,e,q⟩⟩:=MS h c a
  .grind
  .rw[e];exact O1 _
theorem bWM(r:Rn t e)(a:fQ w)(h:Bz n t)(c:(aE t w).bU=true)(B:(aE t w).Pc=8)(k:Bad (vL e) t w):vL e (aE t w).aG=false:=by
 induction r with
 |refl=>exact bJI λx A k q=>absurd q ((h.lg.job w a c).tell x A k)
 |step hu r l=>
  rename_i t e u;obtain⟨s,g,hk⟩:=k;have o:oT s.bZ:=(h.jb a c).reads.1 s (XE g);have d:s.eW<(eG (bM t u).aT s.bZ).eW\/∃v,fQ v/\v≠w/\Holds (vL e) (bM t u) v s.bZ:=by
   obtain k|⟨v,j,C,k⟩:=hk
   .have:=a1Y h hu o;left;omega
   .obtain q|⟨_,_,q,_⟩:=k.step h hu r j o
    .grind
    .have:=h.rv w a s (XE g);left;omega
  by_cases z:w=u
  .subst z;obtain⟨G,E⟩:=qL h a c;have F:(fU t.aA t.aT w (aE t w)).j=OY t.aT w (aE t w):=by grind[fU]
   have b:aE (bM t w) w=OY t.aT w (aE t w):=by grind[i7]
   have y:=(h.jb a c).k;unfold OY at b;split at b
   .grind[aII]
   rename_i c1;split at b
   .have:=bA5 r (h.step a) a (by rw[b];exact c) (by grind[uZ]);rw[b] at this;exact this
   .rename_i p;have m:(aE t w).K.toNat<(aE t w).Reads.length:=aa
    rw[vA m] at g;have i:s∈(aE t w).Reads.drop ((aE t w).K+1).toNat:=by
     rw[show((aE t w).K+1).toNat=(aE t w).K.toNat+1 by omega];obtain q|q:=lO.1 g
     .exfalso;have D:rdN (aE t w)=s:=by rw[q];unfold rdN;rw[DY,iS m];rfl
      rw[D] at p;apply p;obtain k|⟨v,j,C,k,_⟩:=hk
      .right;omega
      .left;unfold fQ at j;omega
     .exact q
    have:=l (h.step a) (by rw[b];exact c) (by rw[b];exact B) ⟨s,by rw[b];exact i,d⟩;rw[b] at this;exact this
  .have E:aE (bM t u) w=aE t w:=by
    by_cases f:(aE t u).bU=true
    .rw[(qL h hu f).2 w a,wT _ _ z]
    .obtain⟨_,q|⟨x,_,_,q⟩⟩:=MS h hu f
     .rw[q]
     .rw[q w a,wT _ _ z]
   have:=l (h.step hu) aj aj ⟨s,aj,d⟩;grind
structure FC (F:Int->Bool) (t:Table):Prop where
 ok:∀w,fQ w->(aE t w).bU=true->F (aE t w).aG=true->(aE t w).Code=0/\((aE t w).Pc=8->¬Bad F t w)
 bUN:∀w,fQ w->(aE t w).bU=true->(aE t w).Code=0->9<=(aE t w).Pc->(aE t w).Pc<=19->F (aE t w).aG=true
def aVQ(r:Rn t e)(f:∀v,fQ v->(aE e v).bU=false)(h:Bz n t):FC (vL e) t:=⟨λw a b g=>⟨Classical.byContradiction λq=>(by grind[bA5]),λp q=>(by grind[bWM])⟩,λw a b hc d c=>bN4 r f h (.inr ⟨w,a,b,rfl,hc,d,c⟩)⟩
def rpF(cm:Int->bc)(a:RV×da)(s:Int):RV×da:=((sJ a.1 (cm s)).1,a.2++[(s,(sJ a.1 (cm s)).2)])
def rpS(cm:Int->bc)(p:an):RV×da:=p.foldl (rpF cm) (λ_=>none,[])
theorem a5K(cm:Int->bc)(p:an)(s:Int):rpS cm (p++[s])=rpF cm (rpS cm p) s:=by grind[rpS]
def pts(F:Int->Bool)(l:a7):an:=(l.filter λx=>x.Kind == 2 && F x.aG).map iO.aG
theorem bA6(F:Int->Bool)(l m:a7):pts F (l++m)=pts F l++pts F m:=by grind[pts]
theorem bJJ{F:Int->Bool}(h:∀x∈m,x.Kind≠2):pts F m=[]:=by grind[pts,List.filter_eq_nil_iff]
def MT(F:Int->Bool)(cm:Int->bc)(t:Table):RV:=(rpS cm (pts F t.Log)).1
def RT(F:Int->Bool)(cm:Int->bc)(t:Table):da:=(rpS cm (pts F t.Log)).2
def rmW(j:aK):az:=if j.Pc=8 then j.aH else if 9<=j.Pc/\j.Pc<=13 then j.aH.drop j.K.toNat else []
def Clr(F:Int->Bool)(t:Table)(i:Int):Prop:=∀v,fQ v->¬Holds F t v i
def JRd(F:Int->Bool)(cm:Int->bc)(t:Table)(j:aK):Prop:=∃G,Did G j/\∀g∈G,∃s∈j.Reads,s.bZ=jN g.1/\(s.eW=(eG t.aT s.bZ).eW->Clr F t s.bZ->MT F cm t g.1=g.2)
structure Wlk (m:Mem) (c:Int->an) (P:Prop) (j:aK):Prop where
 key:(T9 j.aH (cZ j).Key).2=false/\jN (cZ j).Key=j.bZ/\((cZ j).Kind=1\/(cZ j).Kind=4)
 at3:j.Pc=3\/j.Pc=4->P->∃A B,c j.bZ=A++j.H::B/\∀a∈A,(cX m a).Key≠(cZ j).Key
 at4:j.Pc=4->P->j.Node=cX m j.H
 at5:j.Pc=5->P->lkp m (c j.bZ) (cZ j).Key=if j.Found then some j.Node.dP else none
structure IvC (F:Int->Bool) (cm:Int->bc) (t:Table) (c:Int->an):Prop where
 free:∀i,oT i->Clr F t i->∀k,jN k=i->MT F cm t k=lkp t.aA.Mem (c i) k
 held:∀i,oT i->∀v,fQ v->Holds F t v i->∀k,jN k=i->MT F cm t k=apw (rmW (aE t v)) (lkp t.aA.Mem (c i)) k
 job:∀w,fQ w->(aE t w).bU=true->(aE t w).Code=0->(aE t w).Pc<=7->JRd F cm t (aE t w)
 walk:∀w,fQ w->(aE t w).bU=true->2<=(aE t w).Pc->(aE t w).Pc<=5->((aE t w).Pc≠2->(aE t w).eW<=(eG t.aT (aE t w).bZ).eW)/\Wlk t.aA.Mem c ((aE t w).eW=(eG t.aT (aE t w).bZ).eW/\Clr F t (aE t w).bZ) (aE t w)
 res:∀w,fQ w->(aE t w).bU=true->F (aE t w).aG=true->8<=(aE t w).Pc->(aE t w).Pc<=19->(aE t w).Batch.Collect=false->((aE t w).aG,(aE t w).eX)∈RT F cm t
 tel:∀x∈t.Log,x.Kind=3->x.Code=0->cm x.aG≠[]->(x.aG,x.eX)∈RT F cm t
 pt:∀x∈t.Log,x.Kind=2->cm x.aG≠[]/\∀v,fQ v->(aE t v).bU=true->(aE t v).aG=x.aG->8<=(aE t v).Pc
 pu:((t.Log.filter λx=>x.Kind == 2).map iO.aG).Nodup
 cv:∀x∈t.Log,x.Kind=1->x.bR.length<=6/\∀c∈x.bR,TQ c
def SmJ(j j':aK):Prop:=j'.Batch=j.Batch/\j'.At=j.At/\j'.aH=j.aH/\j'.eX=j.eX/\j'.Reads=j.Reads
def SmJ.did{G:db}(h:SmJ j j')(d:Did G j):Did G j':=λM f=>by obtain⟨a,b,c,e,_⟩:=h;rw[a,b,c,e];exact d M f
def aVR{b:aA}(d:0<=j.Pc/\j.Pc<=21)(h:j.Pc≠1/\j.Pc≠5/\j.Pc≠19):SmJ j (fU b k w j).j:=by
 unfold fU;have P:∀{c:Prop} [Decidable c] {x y:TR},(c->SmJ j x.j)->(¬c->SmJ j y.j)->_:=dX (P:=λr=>SmJ j r.j);refine P (λ_=>?_) λ_=>P (λp=>absurd p h.1) λ_=>P (λp=>?_) λ_=>P (λ_=>?_) λ_=>P (λ_=>?_) λ_=>P (λ_=>?_) λ_=>P (λ_=>?_) λ_=>P (λ_=>?_) λ_=>P (λ_=>?_) λ_=>P (λ_=>?_) λ_=>P (λ_=>⟨rfl,rfl,rfl,rfl,rfl⟩) λ_=>P (λp=>absurd p h.2.2) λ_=>⟨rfl,rfl,rfl,rfl,rfl⟩
 .show SmJ j (pW b w j).2;unfold SmJ;grind[pW]
 .show SmJ j (i6 b k w j);have:¬j.Pc=5:=h.2.1;unfold SmJ i6 uZ;grind
 .show SmJ j (yE b w j).2;unfold SmJ;grind[yE,uZ]
 .show SmJ j (pU k w j).2.1;unfold SmJ;grind[pU,MR,uZ]
 .show SmJ j (OY k w j);unfold SmJ;grind[OY,uZ]
 .show SmJ j (mO b k j).2.2;have z:SmJ j j:=⟨rfl,rfl,rfl,rfl,rfl⟩;have pl:∀{a:aK} (x:aX),SmJ j a->SmJ j (RP a x):=λx q=>by unfold RP;split<;>exact q
  have ol:SmJ j (RQ j):=by unfold RQ;split<;>exact z
  unfold mO;split;exact z;split
  .simp only;split;exact pl _ z;exact z
  split
  .simp only;split;exact z;split;exact pl _ z;exact z
  split
  .split<;>exact pl _ ol
  split;exact z;split<;>exact z
 .show SmJ j (DX k j).2;unfold SmJ;grind[DX,OZ]
 .show SmJ j (HC b w j).2;unfold SmJ;grind[HC,OZ]
 .show SmJ j (HD b w j).2;unfold SmJ;grind[HD]
def aMV{W:az}{x:aX}(h:W.length+1<=6):(yC W x).length<=6:=by grind[aEO]
def aZG(j:aK)(c:iK)(v:Int)(is:Bool):(sK j c v is).Reads=j.Reads/\(sK j c v is).Batch=j.Batch:=by
 have rr:∀(x:aX),(pK j x).2.Reads=j.Reads/\(pK j x).2.Batch=j.Batch:=λx=>by grind[pK,uZ]
 unfold sK;split
 .generalize (if is then v else 0)=u;have h:=rr ⟨c.Key,false,HB u c.dP⟩;unfold aCC;split
  .exact h
  .exact h
 .exact⟨rfl,rfl⟩
def aVS{G:db}(d:Did G j)(i:JB j)(l:(j.aH.length:Int)<=j.At)(m:j.Pc=1):Did G (sG j)/\(sG j).Reads=j.Reads/\((sG j).Pc<=5->2<=(sG j).Pc->(sG j).Pc=2/\(T9 (sG j).aH (cZ (sG j)).Key).2=false/\jN (cZ (sG j)).Key=(sG j).bZ/\((cZ (sG j)).Kind=1\/(cZ (sG j)).Kind=4)):=by
 have g:=i.at_;by_cases hc:wR j
 .have c:j.aH.length+1<=6:=by have:=i.bat.2.1;grind[wR]
  have o:∀x,(pK j x).1=true/\(pK j x).2={j with aH:=yC j.aH x}:=λx=>by simp_all[pK,aO,aMV]
  by_cases hk:(cZ j).Kind=2\/(cZ j).Kind=3
  .have e:sG j={{j with aH:=yC j.aH ⟨(cZ j).Key,(cZ j).Kind == 3,(cZ j).dP⟩} with At:=j.At+1,eX:=j.eX++[⟨false,0⟩]}:=by simp_all[sG]
   grind[bN2]
  have f:(cZ j).Kind=1\/(cZ j).Kind=4:=by
   have n:j.At.toNat<j.Batch.bR.length:=by grind[wR]
   have k:cZ j∈j.Batch.bR:=by grind[cZ]
   have:=(i.bat.2.2.1 _ k).1;omega
  by_cases ho:(T9 j.aH (cZ j).Key).2=true
  .have e:sG j=sK j (cZ j) (T9 j.aH (cZ j).Key).1.dP (!(T9 j.aH (cZ j).Key).1.LJ):=by simp_all[sG]
   rw[e];refine⟨bA3 d g.1 hc (λ_ h=>h) f (λM _=>?_) (aMV c),(aZG ..).1,λa b=>?_⟩
   .rw[bA2,aM ho];grind
   grind[bRP]
  .have e:sG j={j with Pc:=2,bZ:=jN (cZ j).Key}:=by simp_all[sG]
   rw[e];exact⟨SmJ.did ⟨rfl,rfl,rfl,rfl,rfl⟩ d,rfl,λ_ _=>⟨rfl,Bool.eq_false_iff.2 ho,rfl,f⟩⟩
 .have e:sG j={j with Pc:=6,K:=0,Sub:=C7 1 16}:=by simp_all[sG]
  rw[e];exact⟨SmJ.did ⟨rfl,rfl,rfl,rfl,rfl⟩ d,rfl,λa=>by simp at a⟩
def bJK(l:bx)(b v:Int)(h:(uS l b v).2=true):(∀s∈l,s∈(uS l b v).1)/\∃s∈(uS l b v).1,s.bZ=b/\s.eW=v:=by
 unfold uS at h ⊢;split at h
 .grind
 simp_all
def bDF{Ky:an}{b:aA}{c:Int->an}{q:Int->Nat}{J:Int->aK}(h:sM Ky b k c q J)(L:JB j){P:Prop}(Q:2<=j.Pc/\j.Pc<=4)(K:Wlk b.Mem c P j)(hc:(i6 b k w j).Code=0)(I:j.Code=0):(2<=(i6 b k w j).Pc/\(i6 b k w j).Pc<=5)/\(i6 b k w j).bZ=j.bZ/\((i6 b k w j).eW=if j.Pc=2 then(eG k j.bZ).eW else j.eW)/\Wlk b.Mem c (j.Pc=2\/P) (i6 b k w j):=by
 obtain⟨u,s,D,O⟩:=K;have M:oT j.bZ:=L.bkt;have d:=h.ch _ M;by_cases f:j.Pc=2
 .by_cases hl:(eG k j.bZ).eU≠0
  .exfalso;unfold i6 at hc;rw[aM f,aM hl] at hc;cases hc
  .have e:i6 b k w j={j with eW:=(eG k j.bZ).eW,H:=(eG k j.bZ).Head,Found:=false,Node:=aYX,Pc:=if(eG k j.bZ).Head=0 then 5 else 3}:=by simp_all[i6]
   rw[e];refine⟨?_,rfl,aj,u,λz _=>?_,λz=>?_,λz _=>?_⟩
   .grind
   .by_cases C:(eG k j.bZ).Head=0
    .grind
    .match G:c j.bZ,d with
     |[],d=>exact absurd d C
     |x::r,d=>exact⟨[],r,by show x::r=(eG k j.bZ).Head::r;rw[d.1],ae⟩
   .grind
   .by_cases C:(eG k j.bZ).Head=0
    .show lkp b.Mem (c j.bZ) _=none
     match c j.bZ,d with
     |[],_=>rfl
     |x::r,d=>exact absurd (d.1.symm.trans C) d.2.1.ne
    grind
 by_cases t:j.Pc=3
 .have e:i6 b k w j={j with Node:=aCB b.Mem.Heap j.H,Pc:=4}:=by simp_all[i6]
  rw[e];refine⟨ae,rfl,aj,u,λ_ z=>s (.inl t) (z.resolve_left f),λ_ z=>?_,λz=>by simp at z⟩;obtain⟨A,B,i,_⟩:=s (.inl t) (z.resolve_left f);rw[i] at d;exact a1S (d.all j.H ae).1
 have n:j.Pc=4:=aa
 by_cases l:¬((dI b.aD w).On=true/\(dI b.aD w).hU=false)
 .exfalso;unfold i6 at hc;rw[aO f,aO t,aM n,aM l] at hc;cases hc
 by_cases N:wR j
 .have e:i6 b k w j={j with Found:=j.Node.Key == (cZ j).Key,H:=RO j.Node,Pc:=if j.Node.Key=(cZ j).Key\/RO j.Node=0 then 5 else 3}:=by simp_all[i6]
  rw[e];refine⟨aj,rfl,aj,u,λz y=>?_,λz=>aj,λz y=>?_⟩
  .obtain⟨A,B,i,F⟩:=s (.inr n) (y.resolve_left f);have en:=D n (y.resolve_left f);rw[i] at d;have p:=d.split;have v:¬(j.Node.Key=(cZ j).Key\/RO j.Node=0):=λg=>aj
   rw[en,aVD p.2.2.1] at v
   match B,p.2.2.2,i with
   |[],o,_=>exact absurd o λg=>v (.inr g)
   |x::r,o,i=>
    refine⟨A++[j.H],r,?_,λa m=>?_⟩
    .show c j.bZ=_;rw[i,en,aVD p.2.2.1,o.1];simp
    .obtain m|m:=dR.1 m
     .exact F a m
     .rw[jQ.1 m];exact λg=>v (.inl g)
  .obtain⟨A,B,i,F⟩:=s (.inr n) (y.resolve_left f);have en:=D n (y.resolve_left f);rw[i] at d;have p:=d.split;show lkp b.Mem (c j.bZ) (cZ j).Key=if j.Node.Key == (cZ j).Key then some j.Node.dP else none;rw[i,en];by_cases g:(cX b.Mem j.H).Key=(cZ j).Key
   .grind[lkp]
   .rw[aO aj];have E:RO j.Node=0:=Classical.byContradiction λq=>aj
    rw[en,aVD p.2.2.1] at E;refine aVE λa m=>?_
    match B,p.2.2.2,m with
    |[],_,m=>
     grind
    |x::r,o,_=>exact absurd (o.1.symm.trans E) o.2.1.ne
 .exfalso;unfold i6 at hc;rw[aO f,aO t,aM n,aO l,aO N] at hc;cases hc
def bO5{b:aA}(h:0<=j.Pc/\j.Pc<=6):(fU b k w j).j.Pc<=7\/(fU b k w j).j.Pc=16:=by
 unfold fU;have P:∀{c:Prop} [Decidable c] {x y:TR},(c->(x.j.Pc<=7\/x.j.Pc=16))->(¬c->(y.j.Pc<=7\/y.j.Pc=16))->_:=dX (P:=λr=>r.j.Pc<=7\/r.j.Pc=16);refine P (λp=>?_) λ_=>P (λp=>?_) λ_=>P (λp=>?_) λ_=>P (λp=>?_) λ_=>aa
 .show(pW b w j).2.Pc<=7\/(pW b w j).2.Pc=16;grind[pW]
 .show(sG j).Pc<=7\/(sG j).Pc=16;grind[sG,pK,uZ,sK,aCC,aAK]
 .show(i6 b k w j).Pc<=7\/(i6 b k w j).Pc=16;grind[i6,pK,uZ,sK,aCC,aAK]
 .show(yE b w j).2.Pc<=7\/(yE b w j).2.Pc=16;grind[yE,uZ]
def bUI{b:aA}(h:j.Pc=20\/j.Pc=21):19<=(fU b k w j).j.Pc:=by
 have e:(fU b k w j).j=(pW b w j).2:=by simp_all[fU]
 grind[pW]
def bUJ{b:aA}(c:9<=j.Pc/\j.Pc<=13)(h:j.K<j.aH.length)(hc:(mO b k j).2.2.Code=0)(a:j.Code=0):(9<=(mO b k j).2.2.Pc/\(mO b k j).2.2.Pc<=13)/\((mO b k j).2.2.K=j.K\/(mO b k j).2.2.K=j.K+1):=by grind[mO,RP,RQ,uZ]
theorem bJL{b:aA}(hk:(fU b k w j).l=[⟨2,w,j.aG,0,[],[]⟩]):j.Pc=7/\(fU b k w j).j.Pc=8:=by
 have a:j.Pc=7:=Classical.byContradiction λq=>by
  have:(fU b k w j).l=[]\/(fU b k w j).l=[tlE w j]:=by unfold fU;have P:∀{c:Prop} [Decidable c] {x y:TR},(c->x.l=[]\/x.l=[tlE w j])->(¬c->y.l=[]\/y.l=[tlE w j])->_:=dX (P:=λr=>r.l=[]\/r.l=[tlE w j]);exact P (λ_=>.inl rfl) λ_=>P (λ_=>.inl rfl) λ_=>P (λ_=>.inl rfl) λ_=>P (λ_=>.inl rfl) λ_=>P (λp=>absurd p q) λ_=>P (λ_=>.inl rfl) λ_=>P (λ_=>.inl rfl) λ_=>P (λ_=>.inl rfl) λ_=>P (λ_=>.inl rfl) λ_=>P (λ_=>.inl rfl) λ_=>P (λ_=>.inl rfl) λ_=>P (λ_=>.inr rfl) λ_=>.inl rfl
  simp_all[tlE]
 have d:fU b k w j=⟨b,(pU k w j).1,(pU k w j).2.1,if(pU k w j).2.2 then [⟨2,w,j.aG,0,[],[]⟩] else []⟩:=by grind[fU]
 refine⟨a,?_⟩;rw[d] at hk ⊢;have e:(pU k w j).2.2=true:=Classical.byContradiction λz=>aj
 grind[pU]
section
variable {n:Int} {t e:Table} {u:Int} (hu:fQ u) (r:Rn (bM t u) e) (he:∀v,fQ v->(aE e v).bU=false) (h:Bz n t) (hB:(aE t u).bU=true) {cm:Int->bc} (hcm:∀w,fQ w->(aE t w).bU=true->cm (aE t w).aG=(aE t w).Batch.bR) {c:Int->an} {q:Int->Nat} (sv:sM Ky7 t.aA t.aT c q (aE t)) (I:IvC (vL e) cm t c)
include hu r he h hB
theorem pc7(o:oT i){v:Int}(a:fQ v)(k:Holds (vL e) (bM t u) v i):Holds (vL e) t v i\/v=u/\(aE t u).Pc=7/\(fU t.aA t.aT u (aE t u)).j.Pc=8:=by
 obtain⟨l,g,f⟩:=k;obtain⟨B,s⟩:=qL h hu hB;obtain⟨m,_,_⟩:=H0 (h.step hu) a o l;have bk:=aVP (b:=t.aA) h.v.bk.1 (h.jb hu hB) (h.lk hu) o;rw[B] at l;have l:(eG (fU t.aA t.aT u (aE t u)).k i).eU=v+1:=l;by_cases z:v=u
 .have A:=(aVQ r he (h.step hu)).ok v a m g;have hl:=(H0 h hu o);rw[s v a,z,i7] at g f A;obtain⟨d,_⟩:=h.tw hu hB;have y:=zP t.aA t.aT u (aE t u) d;by_cases x:(aE t u).Pc<=6
  .have:=bO5 (b:=t.aA) (k:=t.aT) (w:=u) (j:=aE t u) ⟨d.1,x⟩;obtain⟨_,b|b|b⟩|b:=bk
   .have:=(hl aa).2.2;omega
   .omega
   .omega
   .omega
  .by_cases p:(aE t u).Pc=7
   .grind[fU,pU,MR,uZ]
   .left;refine⟨?_,?_,by rw[z];omega⟩
    .obtain⟨_,b|b|b⟩|b:=bk
     .omega
     .omega
     .unfold fQ at a;omega
     .unfold fQ at a;omega
    .obtain⟨s1,_⟩|⟨_,s1,_⟩:=y
     .grind
     .rw[s1] at f;exact absurd f ai
 .left;rw[s v a,wT _ _ z] at g f;refine⟨?_,g,f⟩;unfold fQ at a hu;obtain⟨_,b|b|b⟩|b:=bk<;>omega
theorem bN5(f:9<=(aE t u).Pc/\(aE t u).Pc<=13)(hk:(aE t u).K<(aE t u).aH.length){c:Int->an}{q:Int->Nat}(sv:sM Ky7 t.aA t.aT c q (aE t)):oT (bi (aE t u))/\Holds (vL e) t u (bi (aE t u)):=by
 have b:=h.jb hu hB;have i:(aE t u).K.toNat<(aE t u).aH.length:=by have:=b.k;omega
 have j:nP (aE t u)=(aE t u).aH[(aE t u).K.toNat]:=by grind[nP]
 have a:nP (aE t u)∈(aE t u).aH:=aj
 have g:=b.wr.2.1 _ a;have d:oT (bi (aE t u)):=by unfold bi jN;omega
 have cd:=(h.tw hu hB).2;exact⟨d,((h.lk hu).iff _ d).1 ((sv.tw u hu hB).l8 aa _ a),(aVQ (.step hu r) he h).bUN u hu hB aa f.1 aa,aa⟩
include hcm sv I
theorem bA7:(MT (vL e) cm (bM t u)=MT (vL e) cm t/\RT (vL e) cm (bM t u)=RT (vL e) cm t/\¬((aE t u).Pc=7/\(fU t.aA t.aT u (aE t u)).j.Pc=8/\vL e (aE t u).aG=true)) \/
  ((aE t u).Pc=7/\(fU t.aA t.aT u (aE t u)).j.Pc=8/\vL e (aE t u).aG=true)/\MT (vL e) cm (bM t u)=apw (aE t u).aH (MT (vL e) cm t)/\RT (vL e) cm (bM t u)=RT (vL e) cm t++[((aE t u).aG,(aE t u).eX)]:=by
 obtain⟨E,K⟩:=qL h hu hB;obtain⟨a,cd⟩:=h.tw hu hB;have el:(bM t u).Log=t.Log++(fU t.aA t.aT u (aE t u)).l:=by rw[E];rfl
 by_cases p:(aE t u).Pc=7/\(fU t.aA t.aT u (aE t u)).j.Pc=8
 .have L:fU t.aA t.aT u (aE t u)=⟨t.aA,(pU t.aT u (aE t u)).1,(pU t.aT u (aE t u)).2.1,if(pU t.aT u (aE t u)).2.2 then [⟨2,u,(aE t u).aG,0,[],[]⟩] else []⟩:=by grind[fU]
  have M:(pU t.aT u (aE t u)).2.1.Pc=8:=aj
  have N:(pU t.aT u (aE t u)).2.2=true/\(pU t.aT u (aE t u)).2.1.K=0:=by grind[pU,MR,uZ]
  have j:(fU t.aA t.aT u (aE t u)).l=[⟨2,u,(aE t u).aG,0,[],[]⟩]:=aj
  rw[j] at el;cases J:vL e (aE t u).aG
  .grind[pts,MT,RT]
  .right;refine⟨⟨p.1,p.2,rfl⟩,?_⟩;have H:pts (vL e) (bM t u).Log=pts (vL e) t.Log++[(aE t u).aG]:=by grind[pts]
   obtain⟨G,d,g⟩:=I.job u hu hB aa aa;have C:SmJ (aE t u) (fU t.aA t.aT u (aE t u)).j:=aVR a aa;have A:(fU t.aA t.aT u (aE t u)).j.aG=(aE t u).aG/\(fU t.aA t.aT u (aE t u)).j.bU=true:=by
    rcases zP t.aA t.aT u (aE t u) a with ⟨s1,s2,_⟩|⟨s,_⟩
    .exact⟨s1,s2.trans hB⟩
    .omega
   have D:aE (bM t u) u=(fU t.aA t.aT u (aE t u)).j:=by grind[i7]
   have nb:=((aVQ r he (h.step hu)).ok u hu aj aj).2 aj;have b:bJD G (MT (vL e) cm t):=λx i=>by
    obtain⟨s,l,y,hk⟩:=g x i;have o:oT s.bZ:=(h.jb hu hB).reads.1 s l;have f:s∈(aE (bM t u) u).Reads.drop (aE (bM t u) u).K.toNat:=by rw[D,C.2.2.2.2,show(fU t.aA t.aT u (aE t u)).j.K=0 by grind];exact l
    have Q:=h.rv u hu s l;have P:=a1Y h hu o;refine hk ?_ λv m k=>?_
    .have:¬s.eW<(eG (bM t u).aT s.bZ).eW:=λz=>nb ⟨s,f,.inl z⟩;omega
    .obtain k'|⟨z,F,_⟩:=k.step h hu r m o
     .by_cases z:v=u
      .have:=k.2.2;grind
      .exact nb ⟨s,f,.inr ⟨v,m,z,k'⟩⟩
     grind
   have B:=(sv.tw u hu hB).at_ aa aa;have O:=d _ b;grind[List.take_length,MT,RT,a5K,rpF]
 .left;have hl:∀x∈(fU t.aA t.aT u (aE t u)).l,x.Kind≠2:=λx i=>by
   rcases zP t.aA t.aT u (aE t u) a with ⟨_,_,_,k|k⟩|⟨_,_,k⟩
   .grind
   .grind[bJL]
   .rw[k] at i;rw[jQ.1 i];exact(by decide:(3:Int)≠2)
  have:pts (vL e) (bM t u).Log=pts (vL e) t.Log:=by grind[bA6,bJJ]
  grind[MT,RT]
theorem bA8(m:oT i)(hn:¬Holds (vL e) (bM t u) u i){k:Int}(hk:jN k=i):MT (vL e) cm (bM t u) k=MT (vL e) cm t k:=by
 obtain⟨C,B⟩:=qL h hu hB;obtain⟨b,cd⟩:=h.tw hu hB;obtain⟨a,_⟩|⟨⟨z,x,A⟩,a,_⟩:=bA7 hu r he h hB hcm sv I
 .rw[a]
 .rw[a];refine a5G λy l q=>hn ?_;have g:(fU t.aA t.aT u (aE t u)).j.aG=(aE t u).aG/\(fU t.aA t.aT u (aE t u)).j.bU=true:=by
   rcases zP t.aA t.aT u (aE t u) b with ⟨s1,s2,_⟩|⟨s,_⟩
   .exact⟨s1,s2.trans hB⟩
   .omega
  have j:SmJ (aE t u) (fU t.aA t.aT u (aE t u)).j:=aVR b aa;have o:aE (bM t u) u=(fU t.aA t.aT u (aE t u)).j:=by grind[i7]
  obtain⟨_,p,f⟩:=(h.step hu).pl;obtain⟨c',d⟩:=f.sv;have l8:=(d.tw u hu aj).l8 aj y (by rw[o,j.2.2.1];exact l);rw[q,hk] at l8;exact⟨(((h.step hu).lk hu).iff i m).1 l8,aj,aj⟩
theorem ck(a:oT i)(d:x<=(eG t.aT i).eW)(f:x=(eG (bM t u).aT i).eW)(hc:Clr (vL e) (bM t u) i):x=(eG t.aT i).eW/\Clr (vL e) t i/\∀k,jN k=i->MT (vL e) cm (bM t u) k=MT (vL e) cm t k:=by
 have g:=a1Y h hu a;refine⟨aa,λv b k=>?_,λk hk=>bA8 hu r he h hB hcm sv I a (hc u hu) hk⟩;obtain k'|⟨_,_,z,_⟩:=k.step h hu r b a
 .exact hc v b k'
 .omega
theorem bR3{w:Int}(m:fQ w)(i:aE t w=j)(z:(aE t w).bU=true)(k:JRd (vL e) cm t j)(y:∀G,Did G j->Did G j')(p:∀s∈j.Reads,s∈j'.Reads):JRd (vL e) cm (bM t u) j':=by obtain⟨G,d,g⟩:=k;refine⟨G,y G d,λx o=>?_⟩;obtain⟨s,l,f,hk⟩:=g x o;subst i;refine⟨s,p s l,f,λa b=>?_⟩;obtain⟨c1,B,A⟩:=ck hu r he h hB hcm sv I ((h.jb m z).reads.1 s l) (h.rv w m s l) a b;grind
end
theorem Wlk.mono{m m':Mem}{c c':Int->an}{P g:Prop}(h:Wlk m c P j)(k:g->P/\c' j.bZ=c j.bZ/\∀x∈c j.bZ,cX m' x=cX m x):Wlk m' c' g j:=by
 refine⟨h.key,λz p=>?_,λz p=>?_,λz p=>?_⟩
 .obtain⟨d,f,e⟩:=k p;obtain⟨A,B,a,b⟩:=h.at3 z d;grind
 .obtain⟨d,f,e⟩:=k p;obtain⟨A,B,a,b⟩:=h.at3 (.inr z) d;rw[h.at4 z d,e j.H (by rw[a];simp)]
 .obtain⟨d,f,e⟩:=k p;rw[f,aEP (m:=m) (m':=m') (λx i=>aj)];exact h.at5 z d
def bJM{b:aA}(p:j.Pc=5):(i6 b k w j).Pc=16\/(i6 b k w j).Pc=1:=by
 have a:∀(j:aK) c v is,(sK j c v is).Pc=16\/(sK j c v is).Pc=1:=λj c v is=>by
  unfold sK;split
  .generalize (if is then v else 0)=u;unfold aCC pK;by_cases q:6<(yC j.aH ⟨c.Key,false,HB u c.dP⟩).length
   .rw[aM q];exact .inl rfl
   .rw[aO q];exact .inr rfl
  .exact .inr rfl
 unfold i6;rw[iB,iB,iB];split;exact .inl rfl;split;exact .inl rfl;split;exact a ..;exact .inl rfl
section
variable {n:Int} {t e:Table} {u:Int} (hu:fQ u) (r:Rn (bM t u) e) (he:∀v,fQ v->(aE e v).bU=false) (h:Bz n t) (hB:(aE t u).bU=true) {cm:Int->bc} (hcm:∀w,fQ w->(aE t w).bU=true->cm (aE t w).aG=(aE t w).Batch.bR) {c:Int->an} {q:Int->Nat} (sv:sM Ky7 t.aA t.aT c q (aE t)) (I:IvC (vL e) cm t c)
include hu r he h hB hcm sv I
theorem bDG(p:(aE t u).Pc=5)(hc:(i6 t.aA t.aT u (aE t u)).Code=0):JRd (vL e) cm (bM t u) (i6 t.aA t.aT u (aE t u)):=by
 have m:=h.jb hu hB;have tw:=sv.tw u hu hB;have J:=tw.hc aa;obtain⟨_,i,_,_,L⟩:=I.walk u hu hB aa aa;obtain⟨G,d,g⟩:=I.job u hu hB (by have:=tw.cd;omega) aa;have H:oT (aE t u).bZ:=m.bkt;unfold i6 at hc ⊢;rw[iB,iB,iB] at hc ⊢;by_cases l:(eG t.aT (aE t u).bZ).eU≠0\/(eG t.aT (aE t u).bZ).eW≠(aE t u).eW
 .rw[aM l] at hc;cases hc
 rw[aO l] at hc ⊢;by_cases E:(uS (aE t u).Reads (aE t u).bZ (aE t u).eW).2=false
 .rw[aM E] at hc;cases hc
 rw[aO E,aM J];clear hc;have K:(eG t.aT (aE t u).bZ).eU=0:=Classical.byContradiction λz=>l (.inl z);have y:(eG t.aT (aE t u).bZ).eW=(aE t u).eW:=Classical.byContradiction λz=>l (.inr z);have clr:Clr (vL e) t (aE t u).bZ:=λv S k=>by have:=k.1;omega
 have F:=(I.free _ H clr _ i.2.1).trans (L p ⟨y.symm,clr⟩);obtain⟨O,s0,N,D,R⟩:=bJK (aE t u).Reads (aE t u).bZ (aE t u).eW aj;have f:(aE t u).aH.length+1<=6:=by have:=m.bat.2.1;have:=tw.wl;grind[wR]
 have Q:=(aZG {aE t u with Reads:=(uS (aE t u).Reads (aE t u).bZ (aE t u).eW).1} (cZ (aE t u)) (aE t u).Node.dP (aE t u).Found).1;refine⟨((cZ (aE t u)).Key,if(aE t u).Found then some (aE t u).Node.dP else none)::G,?_,λx o=>?_⟩
 .exact bA3 (j:={aE t u with Reads:=(uS (aE t u).Reads (aE t u).bZ (aE t u).eW).1}) (G:=G) d m.at_.1 J (λM C x F=>C x (lZ _ F)) i.2.2 (λM C=>by
   rw[bA2];have:=i.1;show(if(T9 (aE t u).aH (cZ (aE t u)).Key).2=true then _ else M (cZ (aE t u)).Key)=_;rw[this];exact C _ (aF7 ..)) (aMV f)
 .rw[Q];obtain z|z:=lO.1 o
  .subst z;refine⟨s0,N,D.trans i.2.1.symm,λa b=>?_⟩;rw[D] at a b;obtain⟨_,_,P⟩:=ck hu r he h hB hcm sv I H aa a b;grind
  .obtain⟨s,B,A,hk⟩:=g x z;refine⟨s,O s B,A,λa b=>?_⟩;obtain⟨c1,T,P⟩:=ck hu r he h hB hcm sv I (m.reads.1 s B) (h.rv u hu s B) a b;grind
theorem IvC.bUK:∃c' q',sM Ky7 (bM t u).aA (bM t u).aT c' q' (aE (bM t u))/\IvC (vL e) cm (bM t u) c':=by
 have hJ:∀v,fQ v->(aE t v).bU=true->JB (aE t v):=λv m g=>h.jb m g;obtain⟨_,q0,hs⟩:=h.pl;obtain⟨c',sv',W⟩:=bO0 sv hs.lk hu h.v.base h.v.bk hJ hB hs.ep;obtain⟨e1,ej⟩:=qL h hu hB;have h':=h.step hu;have fc:=aVQ (.step hu r) he h;have fc':=aVQ r he h';obtain⟨A,cd⟩:=h.tw hu hB;have tw:=sv.tw u hu hB;have O:=h.jb hu hB;have mk:=λ{i:Int} (l:oT i) (hn:¬Holds (vL e) (bM t u) u i) {k:Int} (hk:jN k=i)=>bA8 hu r he h hB hcm sv I l hn hk;have ms:=bA7 hu r he h hB hcm sv I;have hp7:=λ{i:Int} (l:oT i) {v:Int} (m:fQ v) k=>pc7 hu r he h hB l (v:=v) m k;have V:=λ{j j':aK} {w:Int} (C:fQ w) a b k d r'=>bR3 hu r he h hB hcm sv I (j:=j) (j':=j') (w:=w) C a b k d r';have cks:=λ{i:Int} (l:oT i) {x:Int} f a b=>ck hu r he h hB hcm sv I l (x:=x) f a b;have eb:(bM t u).aA=(fU t.aA t.aT u (aE t u)).b:=by rw[e1];rfl
 have ek:(bM t u).aT=(fU t.aA t.aT u (aE t u)).k:=by rw[e1];rfl
 have M:aE (bM t u) u=(fU t.aA t.aT u (aE t u)).j:=by rw[ej u hu,i7]
 have eo:∀v,fQ v->v≠u->aE (bM t u) v=aE t v:=λv m hn=>by rw[ej v m,wT _ _ hn]
 have keep:∀i,oT i->(aE t u).Pc≠11/\(aE t u).Pc≠13\/¬Holds (vL e) t u i->c' i=c i/\∀x∈c i,cX (bM t u).aA.Mem x=cX t.aA.Mem x:=λi l z=>by
  rw[eb];refine W.keep i l λp ei=>?_;obtain z|z:=z
  .omega
  .rw[ei] at z;exact z (bN5 hu r he h hB aa (tw.k9 aa) sv).2
 have lk:∀i,oT i->(aE t u).Pc≠11/\(aE t u).Pc≠13\/¬Holds (vL e) t u i->∀k,lkp (bM t u).aA.Mem (c' i) k=lkp t.aA.Mem (c i) k:=λi l z k=>by obtain⟨a,b⟩:=keep i l z;rw[a];exact aEP (λx f=>by rw[b x f];omega) k
 have U:∀{v i:Int},Holds (vL e) t v i->v≠u->¬Holds (vL e) t u i:=λa z b=>z (by have:=a.1;have:=b.1;omega);have E:∀x∈RT (vL e) cm t,x∈RT (vL e) cm (bM t u):=λx f=>by
  obtain⟨_,a,_⟩|⟨_,_,a⟩:=ms
  .grind
  .rw[a];exact XD _ f
 have own:(aE (bM t u) u).bU=true->(fU t.aA t.aT u (aE t u)).j.aG=(aE t u).aG/\(fU t.aA t.aT u (aE t u)).j.Batch=(aE t u).Batch/\(aE t u).Pc≠19:=λg=>by
  rcases zP t.aA t.aT u (aE t u) A with ⟨s1,_,s3,_⟩|⟨_,s1,_⟩
  .refine⟨s1,s3,λp=>?_⟩;have o:(fU t.aA t.aT u (aE t u)).j=cM:=by unfold fU;simp only[p];rfl
   rw[M,o] at g;cases g
  .rw[M,s1] at g;cases g
 have low:(aE (bM t u) u).bU=true->(aE (bM t u) u).Code=0->(aE (bM t u) u).Pc<=7->(aE t u).Pc<=7/\(aE t u).Code=0:=λg hc hp=>by
  obtain⟨_,_,p19⟩:=own g;rw[M] at hc hp;have:(aE t u).Pc<=7:=Classical.byContradiction λz=>by
   by_cases p20:(aE t u).Pc=20\/(aE t u).Pc=21
   .have:=bUI (b:=t.aA) (k:=t.aT) (w:=u) p20;omega
   .by_cases c0:(aE t u).Code=0
    .rcases a1X (b:=t.aA) (k:=t.aT) (w:=u) (j:=aE t u) aa aa c0 with y|⟨_,y,_⟩
     .omega
     .split at y<;>omega
    .rw[a5J aa] at hc;exact c0 hc
  omega
 refine⟨c',_,by rw[eb,ek];exact sv'.congr ej,?_,?_,?_,?_,?_,?_,?_,?_,?_⟩
 .intro i l hc k hk;rw[mk l (hc u hu) hk];by_cases z:Clr (vL e) t i
  .rw[I.free i l z k hk,lk i l (.inr (z u hu))]
  .obtain⟨v,m,Q⟩:∃v,fQ v/\Holds (vL e) t v i:=Classical.byContradiction λy=>z λv m k=>y ⟨v,m,k⟩;obtain y|⟨y,p14,_⟩:=Q.step h hu r m l
   .exact absurd y (hc v m)
   .rw[I.held i l v m Q k hk];have:rmW (aE t v)=[]:=by unfold rmW;rw[iB,iB]
    rw[this,aKZ,lk i l (.inl (by rw[y];omega))]
 .intro i l v m Q k hk;obtain k0|⟨z,N,p8⟩:=hp7 l m Q
  .by_cases z:v=u
   .subst z;obtain⟨P,_,hpp⟩:=H0 h' m l Q.1;obtain⟨o1,o2,o3⟩:=own P;have B:=(fc'.ok v m P (by rw[M,o1];exact k0.2.1)).1;rw[M] at B hpp;have p8:=k0.2.2;obtain⟨_,_,hpp0⟩:=H0 h m l k0.1;have c0:=(fc.ok v m hB k0.2.1).1;have em:MT (vL e) cm (bM t v)=MT (vL e) cm t:=aj
    rw[em,I.held i l v m k0 k hk,M];have L:SmJ (aE t v) (fU t.aA t.aT v (aE t v)).j:=aVR A aa;by_cases q8:(aE t v).Pc=8
    .have o:(fU t.aA t.aT v (aE t v)).j=OY t.aT v (aE t v):=by unfold fU;simp only[q8];rfl
     have e3:rmW (fU t.aA t.aT v (aE t v)).j=(aE t v).aH:=by
      rw[o] at B ⊢;unfold rmW;unfold OY at B ⊢;split
      .simp
      .rename_i a;rw[aO a] at B;split
       .rename_i J;rw[aM J] at B;cases B
       .simp[q8]
     rw[e3,show rmW (aE t v)=(aE t v).aH from aM q8];exact YZ (lk i l (.inl aa) k).symm
    by_cases q14:(aE t v).Pc=14
    .have o:(fU t.aA t.aT v (aE t v)).j=(DX t.aT (aE t v)).2:=by unfold fU;simp only[q14];rfl
     have e3:rmW (fU t.aA t.aT v (aE t v)).j=[]:=by
      rw[o];have:(DX t.aT (aE t v)).2.Pc=14\/(DX t.aT (aE t v)).2.Pc=15:=by grind[DX,OZ]
      unfold rmW;rw[iB,iB]
     rw[e3,show rmW (aE t v)=[] by unfold rmW;grind,aKZ,aKZ];exact(lk i l (.inl aa) k).symm
    have q9:9<=(aE t v).Pc/\(aE t v).Pc<=13:=aa
    have o:(fU t.aA t.aT v (aE t v)).j=(mO t.aA t.aT (aE t v)).2.2:=by unfold fU;rw[iB,iB,iB,iB,iB,iB,aM q9]
    have r0:rmW (aE t v)=(aE t v).aH.drop (aE t v).K.toNat:=by unfold rmW;grind
    by_cases hK:(aE t v).K<(aE t v).aH.length
    .have K:=O.wr.2.2;have X:=O.k.1;rw[o] at B L;obtain⟨k1,k2⟩:=bUJ q9 hK B c0;have r1:rmW (fU t.aA t.aT v (aE t v)).j=(aE t v).aH.drop (mO t.aA t.aT (aE t v)).2.2.K.toNat:=by rw[o];unfold rmW;rw[iB,aM k1,L.2.2.1]
     have oth:∀k,k≠(nP (aE t v)).Key->jN k=i->lkp t.aA.Mem (c i) k=lkp (bM t v).aA.Mem (c' i) k:=λk a b=>by
      by_cases y:i=bi (aE t v)
      .rw[y,eb];exact(W.oth q9 k a).symm
      .obtain⟨a1,J⟩:=W.keep i l λ_=>y;rw[a1,eb];exact(aEP (λx f=>by rw[J x f];omega) k).symm
     rw[r0,r1,a5H K X hK];obtain k2|k2:=k2
     .rw[k2,a5H K X hK];split
      .rfl
      .rename_i y;exact YZ (oth k y hk)
     .rw[k2];split
      .rename_i y;rw[a5G (λx f=>by rw[y];exact bN1 K X hK x f),y,show i=bi (aE t v) by rw[<-hk,y];rfl,eb];exact(W.key q9 aj).symm
      .rename_i y;exact YZ (oth k y hk)
    .have p9:(aE t v).Pc=9:=by have:=tw.k9;omega
     have e3:(mO t.aA t.aT (aE t v)).2.2.Pc=14:=by unfold mO;grind
     rw[r0,aII aa,show rmW (fU t.aA t.aT v (aE t v)).j=[] by rw[o];unfold rmW;rw[iB,iB],aKZ,aKZ];exact(lk i l (.inl aa) k).symm
   .rw[mk l (λy=>z (by have:=y.1;have:=Q.1;omega)) hk,eo v m z,I.held i l v m k0 k hk];exact YZ (lk i l (.inr (U k0 z)) k).symm
  .subst z;obtain⟨P,_,_⟩:=H0 h' m l Q.1;obtain⟨o1,_,_⟩:=own P;have R:vL e (aE t v).aG=true:=by have:=Q.2.1;grind
   have bk:=aVP (b:=t.aA) h.v.bk.1 O (h.lk m) l;have hl:=Q.1;rw[ek] at hl;have clr:Clr (vL e) t i:=λv' hv' k'=>by
    have a:=k'.1;have b:=k'.2.2;by_cases y:v'=v
    .grind
    .unfold fQ at m hv';obtain⟨_,z|z|z⟩|z:=bk<;>omega
   obtain⟨_,_,a⟩|⟨_,a,_⟩:=ms
   .grind
   .have L:SmJ (aE t v) (fU t.aA t.aT v (aE t v)).j:=aVR A aa;rw[a,M,show rmW (fU t.aA t.aT v (aE t v)).j=(aE t v).aH by unfold rmW;rw[aM p8,L.2.2.1]];exact YZ (by rw[I.free i l clr k hk,lk i l (.inl aa)])
 .intro w C g hc hp;by_cases z:w=u
  .subst z;obtain⟨N,c0⟩:=low g hc hp;have jr:=I.job w C hB c0 N;rw[M] at hc hp ⊢;by_cases p1:(aE t w).Pc=1
   .have o:(fU t.aA t.aT w (aE t w)).j=sG (aE t w):=by unfold fU;simp only[p1];rfl
    rw[o];obtain⟨G0,d0,g0⟩:=jr;have hrd:=(aVS d0 O tw.wl p1).2.1;exact V C rfl hB ⟨G0,d0,g0⟩ (λG d=>(aVS d O tw.wl p1).1) λs hs=>aj
   by_cases p5:(aE t w).Pc=5
   .have o:(fU t.aA t.aT w (aE t w)).j=i6 t.aA t.aT w (aE t w):=by unfold fU;simp only[p5];rfl
    rw[o] at hc ⊢;exact bDG C r he h hB hcm sv I p5 hc
   have L:SmJ (aE t w) (fU t.aA t.aT w (aE t w)).j:=aVR A aa;exact V C rfl hB jr (λG d=>L.did d) λs hs=>by rw[L.2.2.2.2];exact hs
  .rw[eo w C z] at g hc hp ⊢;exact V C rfl g (I.job w C g hc hp) (λ_ d=>d) λ_ h=>h
 .intro w C g J S;by_cases z:w=u
  .subst z;have Y:=(h'.tw C g).2;have hc:(aE (bM t w) w).Code=0:=aa
   obtain⟨N,c0⟩:=low g hc aa;rw[M] at hc J S ⊢;by_cases p1:(aE t w).Pc=1
   .have o:(fU t.aA t.aT w (aE t w)).j=sG (aE t w):=by unfold fU;simp only[p1];rfl
    rw[o] at J S ⊢;obtain⟨G,d,_⟩:=I.job w C hB c0 N;obtain⟨x1,x2⟩:=(aVS d O tw.wl p1).2.2 S J;exact⟨λy=>absurd x1 y,x2,λy=>aa,λy=>aa,λy=>aa⟩
   have T:2<=(aE t w).Pc/\(aE t w).Pc<=4:=by
    by_cases p0:(aE t w).Pc=0
    .exfalso;have o:(fU t.aA t.aT w (aE t w)).j=(pW t.aA w (aE t w)).2:=by unfold fU;grind
     rw[o] at J;have:(pW t.aA w (aE t w)).2.Pc<=1:=by grind[pW]
     omega
    by_cases p5:(aE t w).Pc=5
    .exfalso;have o:(fU t.aA t.aT w (aE t w)).j=i6 t.aA t.aT w (aE t w):=by unfold fU;simp only[p5];rfl
     rw[o] at J S hc;have:=bJM (b:=t.aA) (k:=t.aT) (w:=w) p5;omega
    by_cases p6:(aE t w).Pc=6
    .exfalso;have o:(fU t.aA t.aT w (aE t w)).j=(yE t.aA w (aE t w)).2:=by unfold fU;simp only[p6];rfl
     rw[o] at S;have:6<=(yE t.aA w (aE t w)).2.Pc:=by grind[yE,uZ]
     omega
    by_cases N:(aE t w).Pc=7
    .exfalso;have o:(fU t.aA t.aT w (aE t w)).j=(pU t.aT w (aE t w)).2.1:=by unfold fU;simp only[N];rfl
     rw[o] at S;have:7<=(pU t.aT w (aE t w)).2.1.Pc:=by grind[pU,MR,uZ]
     omega
    omega
   have ed:fU t.aA t.aT w (aE t w)=⟨t.aA,t.aT,i6 t.aA t.aT w (aE t w),[]⟩:=by unfold fU;rw[iB,iB,aM aa]
   rw[ed] at J S hc ek eb;obtain⟨i1,i2⟩:=I.walk w C hB T.1 aa;obtain⟨_,s2,s3,s4⟩:=bDF sv (w:=w) O T i2 hc c0;rw[ed];simp only;rw[s2,ek];have H:oT (aE t w).bZ:=O.bkt;refine⟨λ_=>?_,s4.mono λP'=>?_⟩
   .rw[s3];split
    .simp
    grind
   .obtain⟨k1,k2⟩:=keep (aE t w).bZ H (.inl aa);rw[s2];refine⟨?_,k1,k2⟩;by_cases y:(aE t w).Pc=2
    .exact .inl y
    .right;rw[s3,aO y] at P';obtain⟨c1,c2,_⟩:=cks H (i1 y) aj P'.2;grind
  .rw[eo w C z] at g J S ⊢;obtain⟨i1,i2⟩:=I.walk w C g J S;have H:oT (aE t w).bZ:=(h.jb C g).bkt;refine⟨λy=>aQ8 (i1 y) (a1Y h hu H),?_⟩;by_cases y:(aE t w).Pc=2
   .exact⟨i2.key,λa=>aa,λa=>aa,λa=>aa⟩
   refine i2.mono λP'=>?_;obtain⟨c1,c2,_⟩:=cks H (i1 y) P'.1 P'.2;exact⟨⟨c1,c2⟩,keep _ H (.inr (c2 u hu))⟩
 .intro w C g R a8 Z D;by_cases z:w=u
  .subst z;obtain⟨o1,o2,o3⟩:=own g;have hc:=(fc'.ok w C g R).1;rw[M] at R a8 Z D hc ⊢;rw[o1] at R ⊢;rw[o2] at D;by_cases N:(aE t w).Pc=7
   .have o:(fU t.aA t.aT w (aE t w)).j=(pU t.aT w (aE t w)).2.1:=by unfold fU;simp only[N];rfl
    have L:SmJ (aE t w) (fU t.aA t.aT w (aE t w)).j:=aVR A aa;have p8:(fU t.aA t.aT w (aE t w)).j.Pc=8:=by rw[o] at hc a8 ⊢;grind[pU,MR,uZ]
    rw[L.2.2.2.1];obtain⟨_,_,a⟩|⟨_,_,a⟩:=ms
    .grind
    .rw[a];simp
   by_cases p6:(aE t w).Pc<=6
   .exfalso;have:=bO5 (b:=t.aA) (k:=t.aT) (w:=w) (j:=aE t w) ⟨A.1,p6⟩;have Y:=(h'.tw C g).2;rw[M] at Y;omega
   have p20:(aE t w).Pc≠20/\(aE t w).Pc≠21:=by constructor<;>(intro p;have:=tw.cl2 aa;grind)
   have L:SmJ (aE t w) (fU t.aA t.aT w (aE t w)).j:=aVR A aa;rw[L.2.2.2.1];exact E _ (I.res w C hB R aa aa D)
  .rw[eo w C z] at g R a8 Z D ⊢;exact E _ (I.res w C g R a8 Z D)
 .intro x f F cx hne;rw[e1] at f;obtain f|f:=dR.1 f
  .exact E _ (I.tel x f F cx hne)
  .rcases zP t.aA t.aT u (aE t u) A with ⟨_,_,_,k|k⟩|⟨p,_,k⟩<;>rw[k] at f
   .cases f
   .rw[jQ.1 f] at F;cases F
   .have ex:=jQ.1 f;subst ex;have B:(aE t u).Code=0:=cx;have p19:(aE t u).Pc=19:=aa
    have R:=fc.bUN u hu hB B aa aa;have D:(aE t u).Batch.Collect=false:=by
     cases y:(aE t u).Batch.Collect
     .rfl
     .exfalso;apply hne;show cm (aE t u).aG=[];rw[hcm u hu hB];exact O.bat.1 y
    have er:(tlE u (aE t u)).eX=(aE t u).eX:=aM B;rw[er];exact E _ (I.res u hu hB R aa aa D)
 .have up:∀{s:Int},(∀v,fQ v->(aE t v).bU=true->(aE t v).aG=s->8<=(aE t v).Pc)->∀v,fQ v->(aE (bM t u) v).bU=true->(aE (bM t u) v).aG=s->8<=(aE (bM t u) v).Pc:=λ{s} k v m g es=>by
   by_cases y:v=u
   .subst y;have Y:=(h'.tw m g).2;have o1:=(own g).1;have:=k v m hB aj;grind
   .rw[eo v m y] at g es ⊢;exact k v m g es
  intro x f F;rw[e1] at f;obtain f|f:=dR.1 f
  .exact⟨(I.pt x f F).1,up (I.pt x f F).2⟩
  .rcases zP t.aA t.aT u (aE t u) A with ⟨_,_,_,k|k⟩|⟨p,_,k⟩<;>rw[k] at f
   .cases f
   .rw[jQ.1 f];have N:=bJL k;refine⟨?_,λv m g es=>?_⟩
    .show cm (aE t u).aG≠[];rw[hcm u hu hB];intro z;have D:(aE t u).Batch.Collect=false:=by
      cases y:(aE t u).Batch.Collect
      .rfl
      .have:=tw.cl y;omega
     have:=O.bat.2.2.2 D;rw[z] at this;simp at this
    .have hvu:v=u:=by
      by_cases y:v=u
      .exact y
      .rw[eo v m y] at g es;exact absurd (h.ne m hu g hB es) y
     grind
   .rw[jQ.1 f] at F;cases F
 .have el:(bM t u).Log=t.Log++(fU t.aA t.aT u (aE t u)).l:=by rw[e1];rfl
  rw[el,List.filter_append,vC];rcases zP t.aA t.aT u (aE t u) A with ⟨_,_,_,k|k⟩|⟨p,_,k⟩
  .rw[k];simpa using I.pu
  .have N:=(bJL k).1;rw[k];refine aIL.2 ⟨I.pu,ae,λa ha b g=>?_⟩;simp at g;obtain⟨x,f,ex⟩:=H9.1 ha;obtain⟨hx1,hx2⟩:=aX0.1 f;intro z;have:=(I.pt x hx1 aj).2 u hu hB aa;omega
  .rw[k];have:([tlE u (aE t u)].filter λx:iO=>x.Kind == 2)=[]:=by simp[tlE]
   rw[this];simpa using I.pu
 .intro x f F;rw[e1] at f;obtain f|f:=dR.1 f
  .exact I.cv x f F
  .rcases zP t.aA t.aT u (aE t u) A with ⟨_,_,_,k|k⟩|⟨p,_,k⟩<;>rw[k] at f
   .cases f
   .rw[jQ.1 f] at F;cases F
   .rw[jQ.1 f] at F;cases F
end
def cmE(e:Table)(s:Int):bc:=(e.Log.getD (oA e.Log 1 s).toNat ⟨0,0,0,0,[],[]⟩).bR
def bJN{l:a7}(el:e.Log=l++m){P:bc->Prop}(h:TlJ l s P):0<=oA e.Log 1 s/\P (cmE e s):=by
 obtain⟨x,b,k,c⟩:=h.call;have a:l.findIdx (isE 1 s)<l.length:=a2D ⟨x,b,by grind[isE]⟩;have d:(l++m).findIdx (isE 1 s)=l.findIdx (isE 1 s):=aj
 have ep:oA (l++m) 1 s=oA l 1 s:=by unfold oA;grind
 grind[bI9,aU3,cmE]
def bN6(r:Rn t e)(h:Bz n t)(a:fQ w)(b:(aE t w).bU=true):cmE e (aE t w).aG=(aE t w).Batch.bR:=by obtain⟨m,el⟩:=r.log;exact(bJN el (h.pl.1.job w a b).2).2
section
variable {F:Int->Bool} {cm:Int->bc} {n:Int} {t:Table} {u:Int} (hu:fQ u) (h:Bz n t) {c:Int->an} {q:Int->Nat} (sv:sM Ky7 t.aA t.aT c q (aE t)) (I:IvC F cm t c)
include hu h sv I
theorem IvC.begin(hn:aE t u=cM){x:Batch}(K:x∈uU t u)(X:∀v,fQ v->aE (uV t u x) v=DA (aE t) u (jZ x (t.aG+1)) v):sM Ky7 (uV t u x).aA (uV t u x).aT c q (aE (uV t u x))/\IvC F cm (uV t u x) c:=by
 obtain⟨_,Y,A⟩:=h.pl;have W:∀v,fQ v->(aE t v).bU=true->JB (aE t v):=λv j l=>h.jb j l;have N:aE (uV t u x) u=jZ x (t.aG+1):=by grind[i7]
 have B:∀v,fQ v->v≠u->aE (uV t u x) v=aE t v:=λv j hn=>by grind[wT]
 have D:∀v i,fQ v->oT i->(Holds F (uV t u x) v i↔Holds F t v i):=λv i j m=>by
  by_cases z:v=u
  .subst z;have J:(eG t.aT i).eU≠v+1:=λy=>by have:=(H0 h j m y).1;rw[hn] at this;cases this
   exact⟨λk=>absurd k.1 J,λk=>absurd k.1 J⟩
  .unfold Holds;rw[B v j z];exact Iff.rfl
 have cl:∀i,oT i->(Clr F (uV t u x) i↔Clr F t i):=λi m=>⟨λk v j a=>k v j ((D v i j m).2 a),λk v j a=>k v j ((D v i j m).1 a)⟩;have U:pts F (uV t u x).Log=pts F t.Log:=by show pts F (t.Log++_)=_;grind[bA6,bJJ]
 have H:MT F cm (uV t u x)=MT F cm t:=by grind[MT]
 have O:RT F cm (uV t u x)=RT F cm t:=by unfold RT;rw[U]
 have P:(jZ x (t.aG+1)).Pc=0\/(jZ x (t.aG+1)).Pc=20:=by unfold jZ;simp only;split<;>simp
 have new:∀y∈(uV t u x).Log,y.Kind≠1->y∈t.Log:=λy f k=>by
  obtain f|f:=dR.1 f
  .exact f
  .rw[jQ.1 f] at k;exact absurd rfl k
 refine⟨(a4Y sv A.lk hu h.v.base.1.2.1 W hn (A.qk u hu x K) _).congr X,λi m k=>?_,λi m v j k=>?_,λw o l hc a=>?_,λw o l a b=>?_,λw o l a b d r=>?_,λy f k a b=>?_,λy f k=>?_,?_,λy f k=>?_⟩
 .rw[H];exact I.free i m ((cl i m).1 k)
 .have k':=(D v i j m).1 k;have z:v≠u:=λz=>by have:=k'.2.2;rw[z,hn] at this;exact absurd this ai
  rw[H,B v j z];exact I.held i m v j k'
 .by_cases z:w=u
  .rw[z,N];exact⟨[],λM _=>rfl,λg V=>by cases V⟩
  .rw[B w o z] at l hc a ⊢;obtain⟨G,d,g⟩:=I.job w o l hc a;refine⟨G,d,λy f=>?_⟩;obtain⟨s,A,C,hk⟩:=g y f;exact⟨s,A,C,λa b=>by rw[H];exact hk a ((cl _ ((h.jb o l).reads.1 s A)).1 b)⟩
 .by_cases z:w=u
  .grind
  .rw[B w o z] at l a b ⊢;obtain⟨S,R⟩:=I.walk w o l a b;exact⟨S,R.mono λp=>⟨⟨p.1,(cl _ (h.jb o l).bkt).1 p.2⟩,rfl,λ_ _=>rfl⟩⟩
 .by_cases z:w=u
  .grind
  .rw[B w o z] at l a b d r ⊢;rw[O];exact I.res w o l a b d r
 .rw[O];exact I.tel y (new y f aa) k a b
 .have L:=new y f aa;obtain⟨Q,Z⟩:=I.pt y L k;refine⟨Q,λv j l E=>?_⟩;by_cases z:v=u
  .rw[z,N] at E;have:=h.lg.le y L;have E:t.aG+1=y.aG:=E;omega
  grind
 .show((t.Log++[_]).filter _ |>.map _).Nodup;rw[List.filter_append];simpa using I.pu
 .obtain f|f:=dR.1 f
  .exact I.cv y f k
  .rw[jQ.1 f];have T:QuV ⟨uU t u⟩:=by
    have m:u.toNat<t.eE.length:=by have:=h.v.todo.1;omega
    have e:(⟨uU t u⟩:aP)=t.eE[u.toNat]:=by simp_all[uU]
    rw[e];exact h.v.todo.2 _ (cQ m)
   have:=T.2 x K;exact⟨this.2.1,this.2.2.1⟩
end
def bR4(r:Rn t e)(d:∀v,fQ v->(aE e v).bU=false)(h:Bz n t)(k:∃c q,sM Ky7 t.aA t.aT c q (aE t)/\IvC (vL e) (cmE e) t c):Bz n e/\∃c q,sM Ky7 e.aA e.aT c q (aE e)/\IvC (vL e) (cmE e) e c:=by
 induction r with
 |refl=>grind
 |step hu r i=>
  rename_i t e u;refine i d (h.step hu) ?_;obtain⟨c,q,sv,I⟩:=k;by_cases f:(aE t u).bU=true
  .exact I.bUK hu r d h f (λw l o=>bN6 (.step hu r) h l o) sv
  .obtain⟨m,z|⟨x,j,z,g⟩⟩:=MS h hu f
   .grind
   .rw[z] at g ⊢;obtain⟨a,b⟩:=I.begin hu h sv m j g;grind
def bz0(d:aF1 l)(a:W6 l):Bz (PU (RU (dA l))) (dA l):=by
 refine⟨aE9 a,⟨.zero rfl,_,bR1 d a⟩,.zero l,λi f k=>?_,λw e s c=>?_,λx b=>by cases b⟩
 .rcases(by omega:i=0\/i=1) with rfl|rfl<;>exact absurd rfl k
 .rcases(by omega:w=0\/w=1\/w=2) with rfl|rfl|rfl<;>cases c
def iv0{F:Int->Bool}{cm:Int->bc}(h:aF1 l)(f:W6 l):∃c q,sM Ky7 (dA l).aA (dA l).aT c q (aE (dA l))/\IvC F cm (dA l) c:=by
 obtain⟨c,sv⟩:=(bR1 h f).sv;have j:∀i,oT i->eG (dA l).aT i=⟨0,0,0⟩:=λi e=>by rcases(by omega:i=0\/i=1) with rfl|rfl<;>rfl
 have g:∀w,fQ w->aE (dA l) w=cM:=λw a=>by rcases(by omega:w=0\/w=1\/w=2) with rfl|rfl|rfl<;>rfl
 have nb:∀{P:Prop} {w:Int},fQ w->(aE (dA l) w).bU=true->P:=λa b=>by rw[g _ a] at b;cases b
 refine⟨c,_,sv,λi e _ k hk=>?_,λi e v m k=>?_,λw a b=>nb a b,λw a b=>nb a b,λw a b=>nb a b,λx d=>(by cases d),λx d=>(by cases d),List.nodup_nil,λx d=>(by cases d)⟩
 .have hc:=sv.ch i e;rw[j i e] at hc
  match c i,hc with
  |[],_=>rfl
  |x::r,hc=>exact absurd hc.1.symm hc.2.1.ne
 .have:=k.1;grind
def bN7(g:∀x∈e.Log,∀y∈e.Log,x.Kind=3->y.Kind=3->x.aG=y.aG->x=y)(i:((e.Log.filter λx=>x.Kind == 2).map iO.aG).Nodup):mC e.Log=pts (vL e) e.Log:=by
 have ok:∀s,aU2 e.Log s=vL e s:=λs=>by
  rw[LY,aQ7];unfold aU2;rw[yV,decide_eq_true_eq,beq_iff_eq];have at_:0<=oA e.Log 3 s->(e.Log.getD (oA e.Log 3 s).toNat ⟨0,0,0,0,[],[]⟩)∈e.Log/\(e.Log.getD (oA e.Log 3 s).toNat ⟨0,0,0,0,[],[]⟩).Kind=3/\(e.Log.getD (oA e.Log 3 s).toNat ⟨0,0,0,0,[],[]⟩).aG=s:=λh=>by
   have a:=aU3 h;unfold oA at h a ⊢;split at h
   .rename_i q;rw[aM q] at a ⊢;rw[H3,DY,iS q];have:=aQ9 (w:=q);simp_all[isE]
   .omega
  constructor
  .grind
  .rintro⟨x,m,k,z,b⟩;have a:e.Log.findIdx (isE 3 s)<e.Log.length:=a2D ⟨x,m,by grind[isE]⟩;have l:0<=oA e.Log 3 s:=by simp_all[oA]
   grind
 have key:∀(es:a7) (out:an),(out++(es.filter λx=>x.Kind == 2).map iO.aG).Nodup->es.foldl (sL e.Log) out=out++pts (vL e) es:=λes=>by
  induction es with
  |nil=>grind[pts]
  |cons x es d=>
   intro out c;rw[List.foldl_cons];by_cases k:x.Kind=2
   .rw[List.filter_cons_of_pos aj,LM] at c;have f:x.aG∉out:=λm=>(aIL.1 c).2.2 _ m _ (aF7 ..) rfl;cases j:vL e x.aG
    .have n:sL e.Log out x=out:=by simp_all[sL]
     grind[pts]
    simp_all[sL,pts]
   simp_all[sL,pts]
 grind[mC]
def bUL(h:aF1 l)(g:W6 l)(p:an)(n:p.length<=400)(j:e=XA 3000 0 (E7 (dA l) p)):(lY (E7 (dA l) p)=some e/\(∀w,fQ w->aB0 e w)/\e.Log.length<=3400)/\Bz (PU (RU (dA l))) e/\∃c q,sM Ky7 e.aA e.aT c q (aE e)/\IvC (vL e) (cmE e) e c/\∀i,oT i->∀k,jN k=i->MT (vL e) (cmE e) e k=lkp e.aA.Mem (c i) k:=by
 obtain⟨m,d,v,_,hl⟩:=bWL h g p n;rw[<-j] at m d v hl;have b:=(aVK v).1 d;have o:∀v,fQ v->(aE e v).bU=false:=λv f=>(b v f).1;have r:Rn (dA l) e:=by rw[j];exact(bA4 p _).trans (bJH 3000 0 _)
 obtain⟨hz,c,q,sv,I⟩:=bR4 r o (bz0 h g) (iv0 h g);refine⟨⟨m,b,hl⟩,hz,c,q,sv,I,λi d k hk=>I.free i d (λv f a=>?_) k hk⟩;have:=(H0 hz f d a.1).1;grind
def bWO(f:aF1 l)(b:W6 l)(p:an)(d:p.length<=400)(g:e=XA 3000 0 (E7 (dA l) p)):(lY (E7 (dA l) p)=some e/\(∀w,fQ w->aB0 e w)/\e.Log.length<=3400)/\Bz (PU (RU (dA l))) e/\mC e.Log=pts (vL e) e.Log/\∃c q,sM Ky7 e.aA e.aT c q (aE e)/\IvC (vL e) (cmE e) e c/\∀i,oT i->∀k,jN k=i->MT (vL e) (cmE e) e k=lkp e.aA.Mem (c i) k:=by obtain⟨a,hz,c,q,sv,I,k⟩:=bUL f b p d g;exact⟨a,hz,bN7 hz.tu I.pu,c,q,sv,I,k⟩
def GJ(L:aq):RV:=λk=>(L.find? λx=>x.Key == k).map KV.dP
structure yZ (L:aq):Prop where
 srt:L.Pairwise λx y=>x.Key<y.Key
 rng:∀x∈L,(0<=x.Key/\x.Key<=99)/\0<=x.dP/\x.dP<=65535
def yZ.len(h:yZ L):L.length<=100:=by
 have:=BW (l:=L.map KV.Key) (m:=(List.range 100).map Int.ofNat) (by
  unfold List.Nodup;exact List.pairwise_map.2 (h.srt.imp λa b=>aa)) λx d=>by
  obtain⟨y,c,rfl⟩:=H9.1 d;have:=(h.rng y c).1;exact H9.2 ⟨y.Key.toNat,List.mem_range.2 aa,ah⟩
 grind
def yF(x:KV)(L:aq)(k:Int):GJ (x::L) k=if x.Key=k then some x.dP else GJ L k:=by grind[GJ]
theorem aVT{k:Int}(h:∀x∈L,x.Key≠k):GJ L k=none:=by grind[GJ]
def yZ.tail{x:KV}(h:yZ (x::L)):yZ L/\∀y∈L,x.Key<y.Key:=⟨⟨(aRA.1 h.srt).2,λy a=>h.rng y (lZ _ a)⟩,(aRA.1 h.srt).1⟩
def bJO:∀{L M:aq},yZ L->yZ M->GJ L=GJ M->L=M
 |[],[],_,_,_=>rfl
 |[],y::M,_,_,e=>by have:=congrFun e y.Key;rw[yF,aM rfl] at this;cases this
 |x::L,[],_,_,e=>by have:=congrFun e x.Key;rw[yF,aM rfl] at this;cases this
 |x::L,y::M,h,k,e=>by
  obtain⟨g,j⟩:=h.tail;obtain⟨c,i⟩:=k.tail;have ex:=congrFun e x.Key;have ey:=congrFun e y.Key;rw[yF,yF,aM rfl] at ex;rw[yF,yF,aM rfl] at ey;have hk:x.Key=y.Key:=Classical.byContradiction λz=>by
   rcases(by omega:x.Key<y.Key\/y.Key<x.Key) with q|q
   .rw[iB,aVT λa f=>aj] at ex;cases ex
   .rw[iB,aVT λa f=>aj] at ey;cases ey
  rw[aM hk.symm] at ex;have d:x=y:=by obtain⟨a,b⟩:=x;simp_all
  rw[d,bJO g c (funext λz=>by
   by_cases q:z=x.Key
   .grind[aVT]
   .have:=congrFun e z;rw[yF,yF,aO λy=>q y.symm,iB] at this;exact this)]
def a1Z(h:yZ L)(k:Int):yZ (L.filter λx=>!(x.Key == k))/\GJ (L.filter λx=>!(x.Key == k))=upM (GJ L) k none:=by
 refine⟨⟨h.srt.sublist List.filter_sublist,λx a=>h.rng x (aX0.1 a).1⟩,funext λz=>?_⟩;unfold upM;by_cases q:z=k
 .grind[aVT]
 .rw[aO q];grind[GJ]
def bJP{k:Int}:∀{D:aq},D.Pairwise (λx y=>x.Key<y.Key)->(∀x∈D,x.Key≠k)->(∀x∈D.takeWhile (λx=>!decide (k<x.Key)),x.Key<k)/\∀x∈D.dropWhile (λx=>!decide (k<x.Key)),k<x.Key
 |[],_,_=>⟨λx a=>(by cases a),λx a=>(by cases a)⟩
 |y::D,c,b=>by
  obtain⟨h,d⟩:=aRA.1 c;have g:=b y (aF7 ..);by_cases q:k<y.Key
  .grind[List.takeWhile_cons_of_neg,List.dropWhile_cons_of_neg]
  .obtain⟨f,e⟩:=bJP d λx a=>b x (lZ _ a)
   (simp_all;omega)
def aK0(h:yZ L){k v:Int}(hk:0<=k/\k<=99)(d:0<=v/\v<=65535):yZ (mpF L k v)/\GJ (mpF L k v)=upM (GJ L) k (some v):=by
 obtain⟨d1,c⟩:=a1Z h k;have b:∀x∈L.filter λx=>!(x.Key == k),x.Key≠k:=λx a=>aj
 unfold mpF;generalize (L.filter λx=>!(x.Key == k))=D at d1 c b;have e:=aX3 (p:=λx:KV=>!decide (k<x.Key)) (l:=D);obtain⟨f,i⟩:=bJP d1.srt b;refine⟨⟨?_,λx a=>?_⟩,funext λz=>?_⟩
 .have g:=d1.srt;grind[aRA]
 .obtain a|a:=dR.1 a
  .exact d1.rng x ((List.takeWhile_sublist _).subset a)
  .obtain rfl|a:=lO.1 a
   .grind
   .exact d1.rng x ((List.dropWhile_sublist _).subset a)
 .unfold upM;by_cases q:z=k
  .rw[aM q,q];grind[GJ]
  .rw[aO q];have hz:(k == z)=false:=aj
   have:GJ D z=GJ L z:=by rw[c];exact aO q
   grind[GJ]
def bN8(hl:L.length<=1000)(k:Int):U9 L k=some ((GJ L k).getD 0,(GJ L k).isSome):=by
 have key:∀(r a:aq),L=a++r->loop (A8 L k) (a.length:Int)=some (match GJ r k with|some v=>.ret (v,true)|none=>.brk ()):=λr=>by
  induction r with
  |nil=>
   intro a e;refine aY ?_;simp only[A8];rw[aO (by rw[e];simp)];rfl
  |cons x r c=>
   intro a e;have b:a.length<L.length:=by rw[e];simp
   have ex:L[a.length]=x:=by simp[e]
   by_cases q:x.Key=k
   .refine aY ?_;simp only[A8];rw[cO,aS b,aI,ex,aM aj,yF,aM q]
   .rw[bJ (s':=((a++[x]).length:Int)) (by
     simp only[A8];rw[cO,aS b,aI,ex,aO aj,cY];simp),c (a++[x]) (by rw[e];simp),yF,aO q]
 unfold U9;have:=key L [] rfl;rw[show(([]:aq).length:Int)=0 from rfl] at this;rw[this];cases GJ L k<;>rfl
def a8C(h:yZ L):ZS L=some true:=by
 have hl:=h.len;unfold ZS;have key:loop (ET L) 0=some (Out.brk ()):=eY (f:=ET L) L.length (λk=>(k:Int)) _ (λk hk=>by
  have a:=h.rng _ (cQ hk);simp only[ET,yR];rw[cO,aS hk,aI,dL,aI,bY a.1,dY,dL,aI,bY a.2,dY];by_cases c:k=0
  .grind[cC]
  .have b:=aX1.1 h.srt (k-1) k aa hk aa;rw[cO,cY,show(k:Int)-1=((k-1:Nat):Int) by omega,RK,aI,T8,cY];rfl) (by simp[ET])
 rw[key];rfl
def a8D(h:TQ c):GP c=some true:=by obtain⟨e,d,b,a⟩:=h;grind[GP,rW,dL,oC]
def bJQ{a b:Int}(d:0<=a/\a<=65535)(c:0<=b/\b<=65535):0<=HB a b/\HB a b<=65535:=by grind[HB,cC]
def a8E(h:yZ L)(k:Int):0<=(GJ L k).getD 0/\(GJ L k).getD 0<=65535:=by
 unfold GJ;cases e:L.find? λx=>x.Key == k with
 |none=>simp
 |some x=>exact(h.rng x (List.mem_of_find?_eq_some e)).2
def bJR(h:yZ L)(hc:TQ c):∃L',ZT L c=some (L',(aCD (GJ L) c).2)/\GJ L'=(aCD (GJ L) c).1/\yZ L':=by
 have hl:=h.len;unfold ZT NY lF;rw[LW,aI,PY,a8C h,aI,dY,a8D hc,aI,dY,bN8 aa,aI];unfold aCD;have hk:=hc.1;rcases(by omega:c.Kind=1\/c.Kind=2\/c.Kind=3\/c.Kind=4) with k|k|k|k
 .grind
 .obtain⟨b,a⟩:=aK0 h hc.2.1 hc.2.2.1;simp only[k];refine⟨_,?_,a,b⟩;rw[aO ai,aM ai,aMR aa];rfl
 .obtain⟨b,a⟩:=a1Z h c.Key;simp only[k];refine⟨_,?_,a,b⟩;rw[aO ai,aO ai,aM ai];unfold ON lF;rw[LW,aI,PY,show(λd=>NV d c.Key)=(λy=>some (y.Key == c.Key)) from rfl,aVO aa];rfl
 .obtain⟨b,a⟩:=aK0 h hc.2.1 (bJQ (a8E h c.Key) hc.2.2.1);simp only[k];refine⟨_,?_,a,b⟩;rw[aO ai,aO ai,aO ai];grind[SI,HB,aMR]
def bDH{cmds:bc}(hn:cmds.length<=1000)(hc:∀c∈cmds,TQ c)(h:yZ L):∃L',VA L cmds=some (L',(sJ (GJ L) cmds).2)/\GJ L'=(sJ (GJ L) cmds).1/\yZ L':=by
 have hl:=h.len;have key:∀(r a:bc) (L:aq) (R:bq),cmds=a++r->R.length=a.length->yZ L->∃L',loop (KG cmds) (L,R,(a.length:Int))=some (L',R++(sJ (GJ L) r).2)/\GJ L'=(sJ (GJ L) r).1/\yZ L':=λr=>by
  induction r with
  |nil=>
   grind[aY,KG,sJ]
  |cons x r j=>
   intro a L R e l h;have k:a.length<cmds.length:=by rw[e];simp
   have ex:cmds[a.length]=x:=by simp[e]
   obtain⟨i,n,g,m⟩:=bJR h (hc x (by rw[e];simp));obtain⟨L',f,d,b⟩:=j (a++[x]) i (R++[(aCD (GJ L) x).2]) (by rw[e];simp) (by simp[l]) m;refine⟨L',?_,by rw[d,g];rfl,b⟩;rw[bJ (s':=(i,R++[(aCD (GJ L) x).2],((a++[x]).length:Int))) (by
    simp only[KG];rw[cO,aS k,aI,ex,n,aI,LW,cY];simp),f,g]
   simp[sJ]
 unfold VA lF;rw[LW,aI,PY];obtain⟨L',f,d,b⟩:=key cmds [] L [] rfl rfl h;grind[aDB,aDA]
def a8F{l:bq}(hl:l.length<=1000):lW l l=some true:=by
 unfold lW;rw[dY];have key:loop (lA l l) 0=some (Out.brk ()):=eY (f:=lA l l) l.length (λk=>(k:Int)) _ (λk hk=>by
  simp only[lA];rw[cO,aS hk,aI,aI,dY,cY];rfl) (by simp[lA])
 rw[key];rfl
theorem bN9(cm:Int->bc)(p:an):(rpS cm p).2.map Prod.fst=p:=by
 have:∀(p:an) (a:RV×da),(p.foldl (rpF cm) a).2.map Prod.fst=a.2.map Prod.fst++p:=λp=>by
  induction p with
  |nil=>simp
  |cons s p b=>grind[rpF]
 exact this p _
theorem aZH(l:bc):∀M:RV,(sJ M l).2.length=l.length:=by
 induction l with
 |nil=>intro _;rfl
 |cons c l a=>grind[sJ]
structure a5L (e:Table):Prop where
 hl:e.Log.length<=3400
 ho:mC e.Log=pts (vL e) e.Log
 pu:((e.Log.filter λx=>x.Kind == 2).map iO.aG).Nodup
 call:∀s∈mC e.Log,(0<=oA e.Log 1 s/\(e.Log.getD (oA e.Log 1 s).toNat ⟨0,0,0,0,[],[]⟩).bR=cmE e s)/\(cmE e s).length<=6/\∀c∈cmE e s,TQ c
 tell:∀s∈mC e.Log,0<=oA e.Log 3 s/\(s,(e.Log.getD (oA e.Log 3 s).toNat ⟨0,0,0,0,[],[]⟩).eX)∈RT (vL e) (cmE e) e
section
variable {e:Table} (R:a5L e)
include R
theorem a5L.ol:(mC e.Log).length<=3400:=by grind[aEM,mC,R.hl]
theorem a5L.res{a r:an}(h:mC e.Log=a++s::r):(e.Log.getD (oA e.Log 3 s).toNat ⟨0,0,0,0,[],[]⟩).eX=(sJ (rpS (cmE e) a).1 (cmE e s)).2:=by
 have f:(mC e.Log).Nodup:=by
  rw[R.ho];unfold pts;have:(e.Log.filter λx=>x.Kind == 2 && vL e x.aG).Sublist (e.Log.filter λx=>x.Kind == 2):=by rw[show(λx:iO=>x.Kind == 2 && vL e x.aG)=(λx:iO=>vL e x.aG && x.Kind == 2) by grind,<-List.filter_filter];exact List.filter_sublist
  grind[R.pu]
 obtain⟨i,c⟩:=R.tell s aj;unfold RT at c;rw[<-R.ho] at c;have j:(s,(sJ (rpS (cmE e) a).1 (cmE e s)).2)∈(rpS (cmE e) (mC e.Log)).2:=by
  rw[h,show a++s::r=(a++[s])++r by simp];have:∀(r:an) (z:RV×da),∀x∈z.2,x∈(r.foldl (rpF (cmE e)) z).2:=λr=>by
   induction r with
   |nil=>simp
   |cons y r d=>intro z x g;exact d _ x (XD _ g)
  grind[rpS,rpF]
 have k:((rpS (cmE e) (mC e.Log)).2.map Prod.fst).Nodup:=by grind[bN9]
 have b:∀(l:da),(l.map Prod.fst).Nodup->∀x∈l,∀y∈l,x.1=y.1->x=y:=λl=>by
  induction l with
  |nil=>simp
  |cons z l d=>
   grind
 grind
theorem a5L.any{f:aq×Bool×Int->Option (Step (aq×Bool×Int) (aq×Bool))}(q:∀L,f (L,true,((mC e.Log).length:Int))=some (.stop (L,true)))
  (l:∀(i:Nat) (c:i<(mC e.Log).length) (L:aq),yZ L->(e.Log.getD (oA e.Log 3 (mC e.Log)[i]).toNat ⟨0,0,0,0,[],[]⟩).eX=(sJ (GJ L) (cmE e (mC e.Log)[i])).2->∃b,f (L,true,(i:Int))=some (.next (b,true,((i+1:Nat):Int)))/\GJ b=(sJ (GJ L) (cmE e (mC e.Log)[i])).1/\yZ b) :
  ∃L,loop f (([]:aq),true,0)=some (L,true)/\GJ L=MT (vL e) (cmE e) e/\yZ L:=by
 unfold MT;rw[<-R.ho];have key:∀(r a:an) (L:aq),mC e.Log=a++r->yZ L->GJ L=(rpS (cmE e) a).1->∃L',loop f (L,true,(a.length:Int))=some (L',true)/\GJ L'=(rpS (cmE e) (mC e.Log)).1/\yZ L':=λr=>by
  induction r with
  |nil=>grind[aY]
  |cons s r g=>
   intro a L d h hk;have c:a.length<(mC e.Log).length:=aj
   have ex:(mC e.Log)[a.length]=s:=by simp[d]
   obtain⟨b,t,n,m⟩:=l a.length c L h (by rw[ex,hk];exact R.res d);rw[ex] at n;obtain⟨L',p,o⟩:=g (a++[s]) b aj m (by grind[a5K,rpF]);grind[bJ]
 exact key (mC e.Log) [] [] rfl ⟨List.Pairwise.nil,λx j=>by cases j⟩ (by funext k;rfl)
theorem a5L.impl{N:Int}(s:((mC e.Log).length:Int)<=N):∃L,VB e.Log N=some (L,true)/\GJ L=MT (vL e) (cmE e) e/\yZ L:=by
 have hl:=R.hl;have d:=R.ol;have c:(if((mC e.Log).length:Int)<N then((mC e.Log).length:Int) else N)=((mC e.Log).length:Int):=aa
 have b:(if((mC e.Log).length:Int)<0 then 0 else((mC e.Log).length:Int))=((mC e.Log).length:Int):=iB;obtain⟨L,l,k,j⟩:=R.any (f:=KH e.Log N (mC e.Log)) (λL=>by grind[KH]) λi a L h m=>by obtain⟨⟨c0,c1⟩,t,q⟩:=R.call _ (cQ a);have g:=(R.tell _ (cQ a)).1;obtain⟨r,p,o,n⟩:=bDH (cmds:=cmE e (mC e.Log)[i]) aa q h;refine⟨r,?_,o,n⟩;simp only[KH,A9,c,b,H3,List.take_length,PW];rw[cO,aS a,aI,RS aa,aI,aO aj,aFC c0,aI,c1,p,aI,aM trivial,RS aa,aI,aFC g,aI,m,a8F (by grind[aZH]),aI,cY];rfl
 refine⟨L,?_,k,j⟩;unfold VB;rw[(aKS aa).2,aI,c,b,WU,l];rfl
end
def a5M(h:Bz n t){c:Int->an}{q:Int->Nat}(sv:sM Ky7 t.aA t.aT c q (aE t)):yZ (aMS t.aA.Mem c)/\∀k,GJ (aMS t.aA.Mem c) k=((lkp t.aA.Mem (c 1) k).or (lkp t.aA.Mem (c 0) k)):=by
 have one:∀(l:an) (a:aq),yZ a->(∀x∈l,aIC (cX t.aA.Mem x))->yZ (chF t.aA.Mem l a)/\∀k,GJ (chF t.aA.Mem l a) k=(lkp t.aA.Mem l k).or (GJ a k):=λl=>by
  induction l with
  |nil=>intro a d _;exact⟨d,λk=>rfl⟩
  |cons x l g=>
   intro a d b;obtain⟨m,j⟩:=g a d λy o=>b y (lZ _ o);have nx:=b x (aF7 ..);obtain⟨f,e⟩:=aK0 m nx.1 nx.2.1;refine⟨f,λk=>?_⟩;show GJ (mpF (chF t.aA.Mem l a) _ _) k=_;rw[e];unfold upM lkp;rw[List.find?_cons];by_cases z:k=(cX t.aA.Mem x).Key
   .grind
   .rw[aO z,j,show((cX t.aA.Mem x).Key == k)=false by grind];rfl
 have nd:∀i,oT i->∀x∈c i,aIC (cX t.aA.Mem x):=λi p x b=>((sv.ch i p).all x b).2;obtain⟨r,u⟩:=one (c 0) [] ⟨List.Pairwise.nil,λx b=>by cases b⟩ (nd 0 (by simp[oT]));obtain⟨b1,s⟩:=one (c 1) (chF t.aA.Mem (c 0) []) r (nd 1 (by simp[oT]));refine⟨b1,λk=>?_⟩;show GJ (chF _ _ _) k=_;grind[GJ]
def a5N(h:Bz n t){c:Int->an}{q:Int->Nat}(sv:sM Ky7 t.aA t.aT c q (aE t))(d:yZ L)(p:∀i,oT i->∀k,jN k=i->GJ L k=lkp t.aA.Mem (c i) k):L=aMS t.aA.Mem c:=by
 obtain⟨f,e⟩:=a5M h sv;refine bJO d f (funext λk=>?_);rw[e];have b:∀i,oT i->jN k≠i->lkp t.aA.Mem (c i) k=none:=λi j z=>aVE λa l y=>by have:=((sv.key i j).2 _ (H9.2 ⟨a,l,rfl⟩)).1;grind
 by_cases o:jN k=0
 .grind
 .rw[b 0 (by simp[oT]) o,Option.or_none];by_cases m:jN k=1
  .grind
  .rw[b 1 (by simp[oT]) m];refine aVT λx g y=>?_;have:=(d.rng x g).1;grind[jN]
def bOA{l:aq}(hl:l.length<=1000):CI l l=some true:=by
 unfold CI;rw[dY];have key:loop (xL l l) 0=some (Out.brk ()):=eY (f:=xL l l) l.length (λk=>(k:Int)) _ (λk hk=>by
  simp only[xL];rw[cO,aS hk,aI,aI,dY,cY];rfl) (by simp[xL])
 rw[key];rfl
section
variable {n:Int} {e:Table} (h:Bz n e) {c:Int->an} (I:IvC (vL e) (cmE e) e c) (ho:mC e.Log=pts (vL e) e.Log)
include h I ho
theorem bA9(d:s∈mC e.Log):∃x∈e.Log,x.Kind=2/\x.aG=s/\vL e s=true/\cmE e s≠[]:=by rw[ho] at d;obtain⟨x,f,rfl⟩:=H9.1 d;obtain⟨a,b⟩:=aX0.1 f;rw[yV,beq_iff_eq] at b;exact⟨x,a,b.1,rfl,b.2,(I.pt x a b.1).1⟩
theorem bOB(hl:e.Log.length<=3400):a5L e:=by
 refine⟨hl,ho,I.pu,λs i=>?_,λs i=>?_⟩
 .obtain⟨x,k,j,es,_⟩:=bA9 h I ho i;obtain⟨A,B,g⟩:=List.append_of_mem k;obtain⟨⟨y,b,ky,ey⟩,_⟩:=h.lg.pt A x B g j;have d:y∈e.Log:=aj
  have a:e.Log.findIdx (isE 1 s)<e.Log.length:=a2D ⟨y,d,by grind[isE]⟩;have l:0<=oA e.Log 1 s:=by simp_all[oA]
  refine⟨⟨l,rfl⟩,?_⟩;have ep:oA e.Log 1 s=(e.Log.findIdx (isE 1 s):Int):=aM a;unfold cmE;rw[ep,H3,DY,iS a];have:=aQ9 (w:=a);unfold isE at this;rw[yV,beq_iff_eq,beq_iff_eq] at this;exact I.cv _ (cQ a) this.1
 .obtain⟨_,_,_,_,f,m⟩:=bA9 h I ho i;obtain⟨y,b,ky,es,o⟩:=aQ7.1 f;have a:e.Log.findIdx (isE 3 s)<e.Log.length:=a2D ⟨y,b,by grind[isE]⟩;have ep:oA e.Log 3 s=(e.Log.findIdx (isE 3 s):Int):=aM a;refine⟨aa,?_⟩;rw[ep,H3,DY,iS a,aIO];have:=aQ9 (w:=a);unfold isE at this;rw[yV,beq_iff_eq,beq_iff_eq] at this;have ey:=h.tu _ (cQ a) y b this.1 ky (this.2.trans es.symm);have p:=I.tel y b ky o aj;grind
end
def bJS(hl:L.length<=1000)(k:Int):UY L k=some ((GJ L k).getD 0,(GJ L k).isSome):=by
 have key:∀(r a:aq),L=a++r->loop (AO L k) (a.length:Int)=some (match GJ r k with|some v=>.ret (v,true)|none=>.brk ()):=λr=>by
  induction r with
  |nil=>
   intro a e;refine aY ?_;simp only[AO];rw[aO (by rw[e];simp)];rfl
  |cons x r c=>
   intro a e;have b:a.length<L.length:=by rw[e];simp
   have ex:L[a.length]=x:=by simp[e]
   by_cases q:x.Key=k
   .refine aY ?_;simp only[AO];rw[cO,aS b,aI,ex,aM (by simpa using q),aI,yF,aM q]
   .rw[bJ (s':=((a++[x]).length:Int)) (by
     simp only[AO];rw[cO,aS b,aI,ex,aO (by simpa using q),cY];simp),c (a++[x]) (by rw[e];simp),yF,aO q]
 unfold UY;have:=key L [] rfl;rw[show(([]:aq).length:Int)=0 from rfl] at this;rw[this];cases GJ L k<;>rfl
def a8G(h:yZ L):ZL L=some true:=by
 have hl:=h.len;unfold ZL;have key:loop (EG L) 0=some (Out.brk ()):=eY (f:=EG L) L.length (λk=>(k:Int)) _ (λk hk=>by
  have a:=h.rng _ (cQ hk);simp only[EG,yP];rw[cO,aS hk,aI,cR,aI,bY a.1,dY,aI,cR,aI,bY a.2,dY];by_cases c:k=0
  .grind[cC]
  .have b:=aX1.1 h.srt (k-1) k aa hk aa;rw[cO,aI,cY,show(k:Int)-1=((k-1:Nat):Int) by omega,RK,aI,T8,cY];rfl) (by simp[EG])
 rw[key];rfl
def aES(hl:L.length<=1000)(k v:Int):HN L k v=some (mpF L k v):=by
 have key:∀(r a out:aq) (d:Bool),L=a++r->out.length<=a.length+d.toNat->(loop (kW L k v) (out,d,(a.length:Int))).bind (J5 k v)=some (out++if d then r.filter (λx=>!(x.Key == k)) else(r.filter λx=>!(x.Key == k)).takeWhile (λx=>!decide (k<x.Key))++⟨k,v⟩::(r.filter λx=>!(x.Key == k)).dropWhile (λx=>!decide (k<x.Key))):=λr=>by
  induction r with
  |nil=>
   intro a out d e ho;have g:d.toNat<=1:=by cases d<;>decide
   have i:L.length=a.length:=by rw[e];simp
   rw[aY (r:=(out,d)) (by simp_all[kW])];simp only[aI,J5,aC2,J4];cases d
   .rw[aM ai,LW];rfl
   .simp
  |cons x r h=>
   intro a out d e ho;have g:d.toNat<=1:=aj
   have b:a.length<L.length:=by rw[e];simp
   have ex:L[a.length]=x:=by simp[e]
   have go:∀(o:aq) (c:Bool),kW L k v (out,d,(a.length:Int))=some (.next (o,c,((a++[x]).length:Int)))->o.length<=(a++[x]).length+c.toNat->(loop (kW L k v) (out,d,(a.length:Int))).bind (J5 k v)=some (o++if c then r.filter (λx=>!(x.Key == k)) else(r.filter λx=>!(x.Key == k)).takeWhile (λx=>!decide (k<x.Key))++⟨k,v⟩::(r.filter λx=>!(x.Key == k)).dropWhile (λx=>!decide (k<x.Key))):=λo c j f=>by grind[bJ]
   have en:aZ ((a.length:Int)+1)=((a++[x]).length:Int):=by grind[cC]
   by_cases q:x.Key=k
   .rw[go out d (by
     simp only[kW,o7];rw[cO,aS b,aI,ex,aM aj,en]) aj,List.filter_cons_of_neg (by simp[q])]
   .rw[List.filter_cons_of_pos (by simp[q])];cases d
    .by_cases z:k<x.Key
     .rw[go (out++[⟨k,v⟩]++[x]) true (by
       simp only[kW,o7,tZ,uA];rw[cO,aS b,aI,ex,aO aj,aM ai,aI,aM aj,LW,aI,LW,en]) aj]
      simp_all
     .rw[go (out++[x]) false (by
       simp only[kW,o7,tZ,uA];rw[cO,aS b,aI,ex,aO aj,aM ai,aI,aO aj,aI,LW,en]) aj]
      simp_all
    .rw[go (out++[x]) true (by
      simp only[kW,o7,tZ,uA];rw[cO,aS b,aI,ex,aO aj,dY,dY,aI,LW,en]) aj]
     simp
 have:=key L [] [] false rfl ae;grind[HN,mpF]
def a5O(hl:L.length<=1000)(k:Int):UZ L k=some (L.filter λx=>!(x.Key == k)):=by
 have key:∀(r a out:aq),L=a++r->out.length<=a.length->loop (AQ L k) (out,(a.length:Int))=some (out++r.filter λx=>!(x.Key == k)):=λr=>by
  induction r with
  |nil=>
   simp_all[aY,AQ]
  |cons x r b=>
   intro a out e ho;have c:a.length<L.length:=by rw[e];simp
   have ex:L[a.length]=x:=by simp[e]
   have en:aZ ((a.length:Int)+1)=((a++[x]).length:Int):=by grind[cC]
   by_cases q:x.Key=k
   .rw[bJ (s':=(out,((a++[x]).length:Int))) (by
     simp only[AQ,AP];rw[cO,aS c,aI,ex,aO (by simp[q]),en]),b (a++[x]) out (by rw[e];simp) ah,List.filter_cons_of_neg (by simp[q])]
   .rw[bJ (s':=(out++[x],((a++[x]).length:Int))) (by
     simp only[AQ,AP];rw[cO,aS c,aI,ex,aM (by simp[q]),aI,LW,en]),b (a++[x]) (out++[x]) (by rw[e];simp) ah,List.filter_cons_of_pos (by simp[q])]
    simp
 unfold UZ;have:=key L [] [] rfl ae;rw[show(([]:aq).length:Int)=0 from rfl] at this;rw[this];rfl
def bJT{a b:Int}(d:0<=a/\a<=65535)(c:0<=b/\b<=65535):OK a b=some (HB a b):=by unfold OK HB;rw[a5V d.1,a5V c.1,Int.emod_eq_of_lt d.1 aa,Int.emod_eq_of_lt c.1 aa,cY (x:=a+b),cY,a5V aa,a5V aa];simp
def bJU(h:yZ L)(hc:TQ c):∃L',ZM L c=some (L',(aCD (GJ L) c).2)/\GJ L'=(aCD (GJ L) c).1/\yZ L':=by
 have hl:=h.len;unfold ZM NM;rw[LW,aUS,bY hc,aI,dY,a8G h,aI,dY,bJS aa,aI,PY];unfold aCD;have hk:=hc.1;rcases(by omega:c.Kind=1\/c.Kind=2\/c.Kind=3\/c.Kind=4) with k|k|k|k
 .grind
 .obtain⟨b,a⟩:=aK0 h hc.2.1 hc.2.2.1;simp only[k];refine⟨_,?_,a,b⟩;rw[aM ai,aES aa];rfl
 .obtain⟨b,a⟩:=a1Z h c.Key;simp only[k];refine⟨_,?_,a,b⟩;rw[aO ai,aM ai,a5O aa];rfl
 .have d:=bJT (a8E h c.Key) hc.2.2.1;obtain⟨b,a⟩:=aK0 h hc.2.1 (bJQ (a8E h c.Key) hc.2.2.1);simp only[k];refine⟨_,?_,a,b⟩;rw[aO ai,aO ai,aM ai,d,aI,aES aa];rfl
def bDI{cmds:bc}(hn:cmds.length<=1000)(hc:∀c∈cmds,TQ c)(h:yZ L):∃L',U0 L cmds=some (L',(sJ (GJ L) cmds).2)/\GJ L'=(sJ (GJ L) cmds).1/\yZ L':=by
 have hl:=h.len;have key:∀(r a:bc) (L:aq) (R:bq),cmds=a++r->R.length=a.length->yZ L->∃L',loop (J6 cmds) (L,R,(a.length:Int))=some (L',R++(sJ (GJ L) r).2)/\GJ L'=(sJ (GJ L) r).1/\yZ L':=λr=>by
  induction r with
  |nil=>
   grind[aY,J6,sJ]
  |cons x r j=>
   intro a L R e l h;have k:a.length<cmds.length:=by rw[e];simp
   have ex:cmds[a.length]=x:=by simp[e]
   obtain⟨i,n,g,m⟩:=bJU h (hc x (by rw[e];simp));obtain⟨L',f,d,b⟩:=j (a++[x]) i (R++[(aCD (GJ L) x).2]) (by rw[e];simp) (by simp[l]) m;refine⟨L',?_,by rw[d,g];rfl,b⟩;rw[bJ (s':=(i,R++[(aCD (GJ L) x).2],((a++[x]).length:Int))) (by
    simp only[J6];rw[cO,aS k,aI,ex,n,aI,LW,cY];simp),f,g]
   simp[sJ]
 unfold U0;rw[LW,PY];obtain⟨L',f,d,b⟩:=key cmds [] L [] rfl rfl h;grind[aC4,aC3]
def a5P{ρ:Type}{f:Int->Option (Step Int ρ)}(n:Nat)(r:ρ)(a:∀k:Nat,k<n->f (k:Int)=some (.next ((k+1:Nat):Int)))(b:f (n:Int)=some (.stop r)):loop f 0=some r:=eY n (λk=>(k:Int)) r a b
def aNJ{l:a7}(hl:l.length<=100000)(j:aU1 l):VD l=some true/\HO l=some true:=by
 have a:l.length<=1000000:=aa
 obtain⟨o,n,h⟩:=aU4 l _ l rfl;have d:(mC l).length<=100000:=by grind[aEM,mC]
 have b:∀i k (c:i<(mC l).length) (hk:k<i),a4M l (mC l)[i] (mC l)[k]=false:=λi k c hk=>
  a4P j (aX1.1 h k i (by grind[mC]) c hk)
 unfold VD HO;rw[(aKS a).1,(aKS a).2,aI,aI];constructor
 .rw[a5P (f:=KI l (mC l)) (mC l).length (Out.brk ()) (λk hk=>by
   simp only[KI];rw[cO,aS hk,aI,WU,H3,PW];have e:(λg=>NZ g l (mC l)[k])=λy=>some (a4M l (mC l)[k] y):=by simp_all[NZ,aY5]
   rw[e,aXW aj,aI];have m:((mC l).take k).any (a4M l (mC l)[k])=false:=aIH.2 λx p=>by grind[XB]
   rw[m,dY,cY];rfl) (by simp[KI])];rfl
 .rw[a5P (f:=KA l (mC l)) (mC l).length (Out.brk ()) (λi c=>by
   simp only[KA];rw[cO,a5P (f:=J9 l (mC l) (i:Int)) i (Out.brk ()) (λk hk=>by
    simp only[J9,SO];rw[cO,aS c,aI,RK,aI,(aY5 a _ _).1,aI,b i k c hk,dY,cY];rfl) (by simp[J9]),aI]
   grind[aC6,aC5,cC]) (by simp[KA])];rfl
def bDJ{l:bq}(hl:l.length<=1000):m9 l l=some true:=by
 unfold m9;rw[dY,a5P (f:=o8 l l) l.length (Out.brk ()) (λk hk=>by
  simp only[o8];rw[cO,aS hk,aI,aI,dY,cY];rfl) (by simp[o8])];rfl
def bUM{l:aq}(hl:l.length<=1000):F9 l l=some true:=by
 unfold F9;rw[dY,a5P (f:=wI l l) l.length (Out.brk ()) (λk hk=>by
  simp only[wI];rw[cO,aS hk,aI,aI,dY,cY];rfl) (by simp[wI])];rfl
def a5L.spec(R:a5L e):∃L,OL e.Log=some (L,true)/\GJ L=MT (vL e) (cmE e) e/\yZ L:=by
 have hl:=R.hl;have b:=R.ol;obtain⟨L,j,g,d⟩:=R.any (f:=J8 e.Log (mC e.Log)) (λL=>by simp[J8]) λi a L h k=>by obtain⟨⟨c0,c1⟩,q,o⟩:=R.call _ (cQ a);have c:=(R.tell _ (cQ a)).1;obtain⟨p,n,m,l⟩:=bDI (cmds:=cmE e (mC e.Log)[i]) aa o h;refine⟨p,?_,m,l⟩;simp only[J8,J7,aHM,NN];rw[cO,aS a,aI,RR aa,aI,RR aa,aI,aO aj,aO aj,aFC c0,aI,c1,n,aI,aFC c,aI,k,bDJ (by grind[aZH]),aI,aI,aM trivial,cY];rfl
 refine⟨L,?_,g,d⟩;unfold OL;rw[(aKS aa).1,aI,j];rfl
def a8H(m:Mem)(a:aq):∀l:an,(chF m l a).length<=a.length+l.length
 |[]=>by simp[chF]
 |h::l=>by have i:=a8H m a l;show(mpF (chF m l a) _ _).length<=_;unfold mpF;have e:=cS List.length (aX3 (p:=λx:KV=>!decide ((cX m h).Key<x.Key)) (l:=(chF m l a).filter λx=>!(x.Key == (cX m h).Key)));grind
section
variable {Ky:an} {t:Table} {c:Int->an} {q:Int->Nat} (hv:TV t) (h:sM Ky t.aA t.aT c q (aE t))
include hv h
theorem bDK:NT t=some (aMS t.aA.Mem c):=by
 have l:=hv.base.1.1;have u:=hv.bk.1;have st:∀i:Int,oT i->∀a:aq,a.length<=100->CV t (a,i)=some (.next (chF t.aA.Mem (c i) a,i+1)):=λi d a v=>by
  obtain⟨m,nd⟩:=aVN hv h d;have e:NS t.aA.Mem (eG t.aT i).Head=some (c i,true):=by unfold NS;rw[bJA l (c i) [] _ (h.ch i d) aj ah];rfl
  have p:idx t.aT i=some (eG t.aT i):=by grind[iD,eG]
  have b:loop (uK t (c i,true)) (a,aZ (((c i).length:Int)-1))=some (chF t.aA.Mem (c i) a):=by
   have:=eY (f:=uK t (c i,true)) (c i).length (λk=>(chF t.aA.Mem ((c i).drop ((c i).length-k)) a,((c i).length:Int)-1-(k:Int))) (chF t.aA.Mem (c i) a) (λk hk=>by
    have j:(c i).length-1-k<(c i).length:=aa
    have w:=((h.ch i d).all _ (cQ j)).1;obtain⟨o,n⟩:=bUH l w;have g:=a8H t.aA.Mem a ((c i).drop ((c i).length-k));rw[XC] at g;simp only[uK,MI,aC9];rw[cO,show((c i).length:Int)-1-(k:Int)=(((c i).length-1-k:Nat):Int) by omega,aS j,aI,n,aI,dY,o,aI,aI,aES aa,aI,cY,show(c i).length-(k+1)=(c i).length-1-k by omega,vA j,show(c i).length-1-k+1=(c i).length-k by omega];simp only[Option.some.injEq,Step.next.injEq,Prod.mk.injEq];exact⟨rfl,aa⟩) (by
    simp only[uK];grind)
   grind[cC,chF]
  simp only[CV];unfold oT at d;rw[cO,p,aI,e,aI,dY,b,aI];grind[YA,X9,cC]
 have s:=(aVN hv h (i:=0) (by simp[oT])).1;have c0:=a8H t.aA.Mem [] (c 0);unfold NT;rw[aKQ hv,aI,dY,bJ (st 0 (by simp[oT]) [] ae),Int.zero_add,bJ (st 1 (by simp[oT]) _ aj),aY (r:=Out.brk (aMS t.aA.Mem c)) (by simp[CV,aMS])];rfl
end
def a10{code:bh}(_:fit code):WG code=some true:=by
 unfold WG aR2;rw[aI];by_cases B:1048576<(code.length:Int)
 .grind
 rw[aO aj];obtain⟨x,ex,f,X⟩:=a5C (code:=code) aa;rw[ex,aI,bCT f.bUC,aI];obtain⟨u,s,r⟩:=f.bUC.fit;by_cases a:W6 x.eE
 .rw[bY a,dY,a1N u s r a,aI];obtain⟨⟨V,d,hl⟩,hz,ho,c,q,sv,I,Y⟩:=bWO f a (x.kD.take 400) ah rfl;obtain⟨v,g⟩:=aID (P:=a4J) (λt w S Q h=>h.step S Q) (x.kD.take 400) (aE9 a) (a4J.zero _);have b:=aMN (x.kD.take 400) (dA x.eE);have E:=(aNJ (l:=(E7 (dA x.eE) (x.kD.take 400)).Log) (by
   grind[dA]) g.pt).2
  rw[V,aI];generalize XA 3000 0 (E7 (dA x.eE) (x.kD.take 400))=e at *;obtain⟨D,n⟩:=aNJ (l:=e.Log) aa hz.lg.pt;have R:=bOB hz I ho hl;have A:=aEM e.Log e.Log [];obtain⟨L,H,G,F⟩:=R.impl (N:=(e.Log.length:Int)) (by grind[mC]);obtain⟨M,o,K,J⟩:=R.spec;have U:=a5N hz sv F λi T k hk=>by rw[G];grind
  have y:=a5N hz sv J λi T k hk=>by rw[K];grind
  have b:=(a5M hz sv).1.len;have W:=hz.v.yY.1;have z:=(aVK hz.v).2 d;have p:=aMQ (t:=e) aa (by have:=hz.v.todo.1;omega);have is:=a8A (t:=e) aa (by have:=hz.v.todo.1;omega) z;rw[z] at p;have j:=(bN0 hz.v sv).1;have m:=bOA (l:=aMS e.aA.Mem c) aa;have C:NU e=some true:=by unfold NU;rw[o,n];simp only[aI,CY,is,aKQ hz.v,bDK hz.v sv,y,m];rfl
  have O:N0 e=some true:=by unfold N0 aDC ZU;rw[H,D];simp only[aI,p,aAQ hz.v,j,U,bUM (l:=aMS e.aA.Mem c) aa];rfl
  rw[o,aI,E,aI,C,aI,is,aI,j,aI,y,show CI (aMS e.aA.Mem c,true).1 (aMS e.aA.Mem c)=some true from m,aI,O,aI,n];grind[iH]
 .rw[eQ a,aM ak];unfold tT;rw[(aEL u s r).2,aO a];rfl
end Go.Gv
end
