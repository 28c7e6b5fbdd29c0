import Derived.Test.YtonmnllkifmclaaGreatXVE
set_option linter.unusedVariables false
set_option linter.unusedSimpArgs false
set_option linter.unusedSectionVars false
set_option linter.constructorNameAsVariable false
set_option linter.unnecessarySimpa false
noncomputable section
namespace Go.Gv
def aT1(o:List aW)(x:aW):List aW:=o.takeWhile (λy=>!decide (x.Key<y.Key))++[x]++o.dropWhile (λy=>!decide (x.Key<y.Key))
theorem aRV(y:aW)(r:List aW)(x:aW):aT1 (y::r) x=if x.Key<y.Key then x::y::r else y::aT1 r x:=by grind[aT1,List.takeWhile_cons,List.dropWhile_cons]
theorem aOF(o:List aW)(x z:aW):z∈aT1 o x↔z=x\/z∈o:=by
 induction o with
 |nil=>simp[aT1]
 |cons y r ih=>
  grind[aRV]
theorem aWR{o:List aW}{x:aW}(hs:o.Pairwise (λa b=>a.Key<b.Key))(hx:∀y∈o,y.Key≠x.Key):(aT1 o x).Pairwise (λa b=>a.Key<b.Key):=by
 induction o with
 |nil=>simp[aT1]
 |cons y r ih=>
  grind[aRV,aHT,aOF]
theorem a91{l:List aW}(h:WrV l){x:aW}(hx:(0<=x.Key/\x.Key<=99)/\(0<=x.eI/\x.eI<=65535))(hl:(MP l x).length<=6):WrV (MP l x):=by
 refine⟨hl,λy hy=>?_,?_⟩
 ·rcases(aOF _ _ _).1 (show y∈aT1 _ x from hy) with rfl|hy
  ·exact hx
  ·exact h.2.1 y (List.mem_filter.1 hy).1
 ·exact aWR (h.2.2.sublist List.filter_sublist) λy hy=>by grind
theorem a92{a b:Int}(ha:0<=a/\a<=4294967295)(hb:0<=b/\b<=65535):0<=XO a b/\XO a b<=65535:=by grind[XO,cC]
section
variable {j:aH} (hj:JB j)
include hj
theorem JB.ab(c:Int):JB (A7 j c):=⟨hj.busy,hj.bat,hj.h,hj.prev,hj.bkt,hj.at_,hj.k,hj.new,hj.old,hj.reads,hj.wr,hj.held,hj.res,hj.node⟩
theorem JB.pc(p:Int):JB {j with Pc:=p}:=⟨hj.busy,hj.bat,hj.h,hj.prev,hj.bkt,hj.at_,hj.k,hj.new,hj.old,hj.reads,hj.wr,hj.held,hj.res,hj.node⟩
theorem JB.sub(s:Sub):JB {j with Sub:=s}:=⟨hj.busy,hj.bat,hj.h,hj.prev,hj.bkt,hj.at_,hj.k,hj.new,hj.old,hj.reads,hj.wr,hj.held,hj.res,hj.node⟩
theorem JB.kk{k:Int}(h:0<=k/\k<=6):JB {j with K:=k}:=⟨hj.busy,hj.bat,hj.h,hj.prev,hj.bkt,hj.at_,h,hj.new,hj.old,hj.reads,hj.wr,hj.held,hj.res,hj.node⟩
theorem JB.nd{n:gR}(h:0<=n.eI/\n.eI<=4294967295):JB {j with Node:=n}:=⟨hj.busy,hj.bat,hj.h,hj.prev,hj.bkt,hj.at_,hj.k,hj.new,hj.old,hj.reads,hj.wr,hj.held,hj.res,h⟩
theorem JB.hh{x:Int}(h:kV x):JB {j with H:=x}:=⟨hj.busy,hj.bat,h,hj.prev,hj.bkt,hj.at_,hj.k,hj.new,hj.old,hj.reads,hj.wr,hj.held,hj.res,hj.node⟩
theorem JB.pv{x:Int}(h:kV x):JB {j with gN:=x}:=⟨hj.busy,hj.bat,hj.h,h,hj.bkt,hj.at_,hj.k,hj.new,hj.old,hj.reads,hj.wr,hj.held,hj.res,hj.node⟩
theorem JB.rd2:j.Reads.length<=2:=by
 have hn:=hj.reads.2;have hm:∀x∈j.Reads.map Seen.cR,x=0\/x=1:=λx hx=>by obtain⟨s,hs,rfl⟩:=N0.1 hx;have:=hj.reads.1 s hs;omega
 have hl:(j.Reads.map Seen.cR).length<=2:=by
  match h:j.Reads.map Seen.cR,hn,hm with
  |[],_,_=>simp
  |[_],_,_=>simp
  |[_,_],_,_=>simp
  |x::y::z::r,hn,hm=>
   (simp_all;omega)
 grind
theorem JB.cmd(h:CJ j):aA9 (fP j):=by
 have ha:=hj.at_;have hi:j.At.toNat<j.Batch.bW.length:=by grind[CJ]
 unfold fP;rw[EE,jK hi];exact hj.bat.2.2.1 _ (dJ hi)
theorem JB.aA8(h:CJ j)(is:Bool)(v:Int):JB (Gv.aA8 j is v):=by have h':j.At<j.Batch.bW.length:=h;have ha:=hj.at_;have hr:=hj.res;exact⟨hj.busy,hj.bat,hj.h,hj.prev,hj.bkt,⟨by show 0<=j.At+1;omega,by show j.At+1<=(j.Batch.bW.length:Int);omega⟩,hj.k,hj.new,hj.old,hj.reads,hj.wr,hj.held,by show(((j.jV++[_]).length:Nat):Int)=j.At+1;simp;omega,hj.node⟩
theorem JB.rcw{x:aW}(hx:(0<=x.Key/\x.Key<=99)/\(0<=x.eI/\x.eI<=65535)):JB (zE j x).2:=by
 unfold zE;split
 ·exact hj.ab 1
 ·exact⟨hj.busy,hj.bat,hj.h,hj.prev,hj.bkt,hj.at_,hj.k,hj.new,hj.old,hj.reads,a91 hj.wr hx (by omega),hj.held,hj.res,hj.node⟩
theorem aOG(x:aW):(zE j x).2.Batch=j.Batch:=by grind[zE,A7]
theorem JB.ans(h:CJ j){c:kN}(hc:aA9 c){v:Int}(hv:0<=v/\v<=4294967295)(is:Bool):JB (JF j c v is):=by
 unfold JF;split
 ·have hv':0<=(if is then v else 0)/\(if is then v else 0)<=4294967295:=by omega
  generalize (if is then v else 0)=u at hv';unfold aHH;have hr:=hj.rcw (x:=⟨c.Key,false,XO u c.eI⟩) ⟨hc.2.1,a92 hv' hc.2.2.1⟩;split
  ·refine hr.aA8 ?_ _ _;grind[CJ,aOG,aHI]
  ·exact hr
 ·exact hj.aA8 h _ _
theorem JB.jnx:JB (VM j):=by
 unfold VM;split
 ·rename_i h;have hc:=hj.cmd h;have h':j.At<j.Batch.bW.length:=h;have ha:=hj.at_;have hr:=hj.res;split
  ·have hr':=hj.rcw (x:=⟨(fP j).Key,(fP j).Kind == 3,(fP j).eI⟩) ⟨hc.2.1,hc.2.2.1⟩;split
   ·refine⟨hr'.busy,hr'.bat,hr'.h,hr'.prev,hr'.bkt,⟨by grind,?_⟩,hr'.k,hr'.new,hr'.old,hr'.reads,hr'.wr,hr'.held,by grind,hr'.node⟩;grind[aOG]
   ·exact hr'
  ·split
   ·refine hj.ans h hc ?_ _;unfold aJ5;split
    ·rename_i x hf;have:=hj.wr.2.1 x (List.mem_of_find?_eq_some hf);grind
    simp
   ·exact⟨hj.busy,hj.bat,hj.h,hj.prev,by show 0<=oJ _/\oJ _<=1;unfold oJ;rw[aL hc.2.1];omega,hj.at_,hj.k,hj.new,hj.old,hj.reads,hj.wr,hj.held,hj.res,hj.node⟩
 ·exact((hj.pc 6).kk (k:=0) (by omega)).sub _
theorem JB.spt(b v:Int)(hb:0<=b/\b<=1):JB {j with Reads:=(IM j.Reads b v).1}:=by
 refine⟨hj.busy,hj.bat,hj.h,hj.prev,hj.bkt,hj.at_,hj.k,hj.new,hj.old,?_,hj.wr,hj.held,hj.res,hj.node⟩;show(∀s∈(IM j.Reads b v).1,0<=s.cR/\s.cR<=1)/\((IM j.Reads b v).1.map Seen.cR).Nodup;unfold IM;split
 ·exact hj.reads
 ·rename_i hf;refine⟨λs hs=>?_,?_⟩
  ·rcases eD.1 hs with hs|hs
   ·exact hj.reads.1 s hs
   grind
  ·rw[uN,aQW];refine⟨hj.reads.2,by simp,λa ha c hc=>?_⟩;grind
theorem JB.pl(h:j.K<j.aI.length)(x:aW):JB (SA j x):=by
 have hk:=hj.k;have hw:=hj.wr.1;unfold SA;split
 ·exact(hj.pc 9).kk (k:=j.K+1) (by omega)
 ·exact hj.pc 12
theorem JB.bNJ:JB (T1 j):=by
 unfold T1;split
 ·rename_i h;refine⟨hj.busy,hj.bat,hj.h,hj.prev,hj.bkt,hj.at_,hj.k,hj.new,⟨by grind,λx hx=>?_⟩,hj.reads,hj.wr,hj.held,hj.res,hj.node⟩;rcases eD.1 hx with hx|hx
  ·exact hj.old.2 x hx
  grind
 ·exact hj
theorem JB.rtn:JB (SB j):=by
 unfold SB;split
 ·exact hj.sub _
 ·exact hj
end
theorem bEC{l:List Int}(h:sO l){a:Nat}(ha:a+4<=l.length):0<=ld l a 4/\ld l a 4<=4294967295:=by
 rw[ld4 ha];have b:∀k,k<l.length->0<=bt l k/\bt l k<=255:=λk hk=>by rw[<-aN3 hk];exact h _ (dJ hk)
 grind
theorem aWS{m:Mem}(hm:lC m)(x:Int):0<=(ZN m.Heap x).eI/\(ZN m.Heap x).eI<=4294967295:=by
 unfold ZN;split
 ·rename_i h;have hr:=(D9 h.2.1 h.2.2).1;have h1:=hm.1.1.1.1;exact bEC hm.1.1.1.2.2.1 (by omega)
 ·show(0:Int)<=0/\(0:Int)<=4294967295;omega
theorem T2(l:List aW)(n:Int):fX l n<=l.length:=by grind[fX]
theorem a2O{k:List cR}{i:Int}(h2:k.length=2)(hi:0<=i/\i<=1):iD k i∈k:=by grind[iD]
theorem aK2{k:List cR}(h:k.length=2/\∀x∈k,BkV x)(i:Nat){y:cR}(hy:BkV y):(k.set i y).length=2/\∀x∈k.set i y,BkV x:=
 ⟨by grind,λx hx=>(rJ hx).elim (h.2 x) λe=>e ▸ hy⟩
theorem bIP{b:aA}(hb:kW b){w x:Int}(hw:0<=w/\w<=2)(hx:kU x)(hn:¬bI b.aM (x % 32)):kW {b with Mem:=aZS b.Mem w x}:=by
 unfold aZS;by_cases hl:mN b.Mem x
 ·obtain⟨m',e1,e2,_,h⟩:=aKZ hb.1.1 hw hl;rw[aFM hb.1.1 hw hl] at e1;injection e1 with e1
  rw[aL hl,e1];refine⟨⟨h.1,hb.1.2⟩,λr hr=>⟨h.live (hb.2 r hr).1 ?_,(hb.2 r hr).2⟩⟩;intro e;exact hn ⟨r,hr,(hb.2 r hr).1.1,e⟩
 simp_all
structure TRV (r:TR):Prop where
 b:kW r.b
 k:r.k.length=2/\∀x∈r.k,BkV x
 j:r.j=dA\/JB r.j
theorem aKD{c:Prop}[Decidable c]{a b:TR}(h1:c->TRV a)(h2:¬c->TRV b):TRV (if c then a else b):=by grind
theorem bIQ{b:aA}{k:List cR}{w:Int}{j:aH}(hb:kW b)(hk:k.length=2/\∀x∈k,BkV x)(hw:0<=w/\w<=2)(hj:JB j):TRV (qW b k w j):=by
 have hkk:=hj.k;have hwr:=hj.wr;have hrd:=hj.rd2;have hbs:=bD5 hb hw j.Sub;have bkv:∀{i},0<=i/\i<=1->BkV (iD k i):=λhi=>hk.2 _ (a2O hk.1 hi);unfold qW;refine aKD (λ_=>?_) λ_=>?_
 ·refine⟨hbs,hk,.inr ?_⟩;unfold jT;split
  ·exact hj.sub _
  ·split
   ·exact(hj.pc 1).sub _
   ·split
    ·exact(hj.pc 21).sub _
    ·exact(hj.pc 19).sub _
 refine aKD (λ_=>?_) λ_=>?_
 ·exact⟨hb,hk,.inr hj.jnx⟩
 refine aKD (λ_=>?_) λ_=>?_
 ·refine⟨hb,hk,.inr ?_⟩;unfold IN;have hbk:=bkv hj.bkt;split
  ·split
   ·exact hj.ab _
   ·have h1:JB {j with kC:=(iD k j.cR).kC}:=⟨hj.busy,hj.bat,hj.h,hj.prev,hj.bkt,hj.at_,hj.k,hj.new,hj.old,hj.reads,hj.wr,hj.held,hj.res,hj.node⟩;have h2:JB {j with kC:=(iD k j.cR).kC,Found:=false}:=⟨hj.busy,hj.bat,hj.h,hj.prev,hj.bkt,hj.at_,hj.k,hj.new,hj.old,hj.reads,hj.wr,hj.held,hj.res,hj.node⟩;exact((h2.hh hbk.1).nd (n:=aWM) (by show(0:Int)<=0/\(0:Int)<=4294967295;omega)).pc _
  ·split
   ·exact(hj.nd (aWS hb.1.1 _)).pc _
   ·split
    ·split
     ·exact hj.ab _
     ·split
      ·have h1:JB {j with Found:=j.Node.Key == (fP j).Key}:=⟨hj.busy,hj.bat,hj.h,hj.prev,hj.bkt,hj.at_,hj.k,hj.new,hj.old,hj.reads,hj.wr,hj.held,hj.res,hj.node⟩;exact(h1.hh (aHE _)).pc _
      ·exact hj.ab _
    ·split
     ·exact hj.ab _
     ·have hs:=hj.spt j.cR j.kC hj.bkt;split
      ·exact hs.ab _
      ·split
       ·rename_i h;exact hs.ans h (hj.cmd h) hj.node _
       ·exact hs.ab _
 refine aKD (λ_=>?_) λ_=>?_
 ·unfold HY;split
  ·exact⟨hb,hk,.inr ((hj.pc 7).kk (k:=0) (by omega))⟩
  ·rename_i hp;have:=T2 j.aI j.aI.length;have:=hwr.1;refine⟨hbs,hk,.inr ?_⟩;simp only;split
   ·exact hj.sub _
   ·split
    ·exact(hj.sub _).ab _
    ·rename_i hq;have q1:kU (iB b w j.Sub).2.Out:=Classical.byContradiction λq=>hq (.inr (.inl q));have q2:j.gO.length<6:=by omega
     refine⟨hj.busy,hj.bat,hj.h,hj.prev,hj.bkt,hj.at_,⟨by grind,by grind⟩,⟨by grind,λx hx=>?_⟩,hj.old,hj.reads,hj.wr,hj.held,hj.res,hj.node⟩;rcases eD.1 hx with hx|hx
     ·exact hj.new.2 x hx
     grind
 refine aKD (λ_=>?_) λ_=>?_
 ·have ht:=aTT j.aI;unfold O9;split
  ·rename_i hp;have hi:j.K.toNat<(qX j.aI).length:=by omega
   have er:gJ j=(qX j.aI)[j.K.toNat]:=by grind[gJ]
   have hbk:0<=gJ j/\gJ j<=1:=by grind[ZG,dJ]
   have hbv:=bkv hbk;have hset:=aK2 hk (gJ j).toNat (y:={iD k (gJ j) with gW:=w+1}) ⟨hbv.1,hbv.2.1,by grind⟩;have hlh:JB (PN j):=by
    refine⟨hj.busy,hj.bat,hj.h,hj.prev,hj.bkt,hj.at_,⟨by show 0<=j.K+1;omega,by show j.K+1<=6;omega⟩,hj.new,hj.old,hj.reads,hj.wr,?_,hj.res,hj.node⟩;show(∀x∈(if gJ j∈j.bI then j.bI else j.bI++[gJ j]),0<=x/\x<=1)/\(if gJ j∈j.bI then j.bI else j.bI++[gJ j]).Nodup;split
    ·exact hj.held
    ·rename_i hm;refine⟨λx hx=>?_,?_⟩
     ·rcases eD.1 hx with hx|hx
      ·exact hj.held.1 x hx
      grind
     ·rw[aQW];exact⟨hj.held.2,by simp,λa ha c hc e=>by grind⟩
   split
   ·exact⟨hb,hk,.inr (hj.ab _)⟩
   ·split
    ·exact⟨hb,hk,.inr (hj.ab _)⟩
    ·split
     ·exact⟨hb,hset,.inr ((hlh.pc 8).kk (k:=0) (by omega))⟩
     ·exact⟨hb,hset,.inr hlh⟩
  ·exact⟨hb,hk,.inr ((hj.pc 8).kk (k:=0) (by omega))⟩
 refine aKD (λ_=>?_) λ_=>?_
 ·refine⟨hb,hk,.inr ?_⟩;unfold XP;split
  ·exact(hj.pc 9).kk (k:=0) (by omega)
  ·split
   ·exact hj.ab _
   ·exact hj.kk (k:=j.K+1) (by omega)
 refine aKD (λ_=>?_) λ_=>?_
 ·have hwl:=hwr.1;unfold CL;split
  ·exact⟨hb,hk,.inr (hj.pc 14)⟩
  ·rename_i hp;have hi:j.K.toNat<j.aI.length:=by omega
   have er:sU j=j.aI[j.K.toNat]:=by grind[sU]
   have hx:=hwr.2.1 j.aI[j.K.toNat] (dJ hi);rw[<-er] at hx;have hbk:0<=oJ (sU j).Key/\oJ (sU j).Key<=1:=by unfold oJ;omega
   have hbv:=bkv hbk;have l0:kV 0:=.inl rfl;split
   ·have h1:=((hj.pc 10).hh hbv.1).pv l0;refine⟨hb,hk,.inr ?_⟩;simp only;split
    ·exact h1.pl (by grind) _
    ·exact h1
   ·split
    ·have h1:=hj.nd (aWS hb.1.1 j.H);refine⟨hb,hk,.inr ?_⟩;simp only;split
     ·exact h1.pc 11
     ·split
      ·exact h1.pl (by grind) _
      ·exact(h1.hh (aHE _)).pv hj.h
    ·split
     ·have h1:=hj.bNJ;have hkl:(T1 j).K<(T1 j).aI.length:=by grind[T1]
      split
      ·exact⟨hb,aK2 hk _ ⟨aHE _,hbv.2⟩,.inr (h1.pl hkl _)⟩
      ·exact⟨hb.mem (a9T hb.1.1 _ _),hk,.inr (h1.pl hkl _)⟩
     ·split
      ·exact⟨hb,hk,.inr (hj.ab _)⟩
      ·rename_i hn;have hpn:0<=fX j.aI j.K:=by grind[fX]
       have hi2:(fX j.aI j.K).toNat<j.gO.length:=by omega
       have en:IB j=j.gO[(fX j.aI j.K).toNat]:=by grind[IB]
       have hnew:kU (IB j):=by rw[en];exact hj.new.2 _ (dJ hi2)
       split
       ·exact⟨hb.mem (a9S hb.1.1 _ _),hk,.inr (hj.pc 13)⟩
       ·exact⟨hb,aK2 hk _ ⟨.inr hnew,hbv.2⟩,.inr ((hj.pc 9).kk (k:=j.K+1) (by omega))⟩
 refine aKD (λ_=>?_) λ_=>?_
 ·unfold PA;split
  ·rename_i hp;have er:CM j=j.bI[0]:=by grind[CM]
   have hbk:=hj.held.1 j.bI[0] (dJ hp);rw[<-er] at hbk;have hbv:=bkv hbk;have hver:=hbv.2.1;refine⟨hb,aK2 hk _ ?_,.inr ⟨hj.busy,hj.bat,hj.h,hj.prev,hj.bkt,hj.at_,hj.k,hj.new,hj.old,hj.reads,hj.wr,⟨λx hx=>hj.held.1 x (VW hx),hj.held.2.sublist (List.drop_sublist _ _)⟩,hj.res,hj.node⟩⟩;split
   ·refine⟨hbv.1,?_,by simp⟩;grind
   ·exact⟨hbv.1,hbv.2.1,by simp⟩
  ·split
   ·exact⟨hb,hk,.inr (hj.pc 17)⟩
   ·exact⟨hb,hk,.inr (((hj.pc 15).kk (k:=0) (by omega)).rtn)⟩
 refine aKD (λ_=>?_) λ_=>?_
 ·have hol:=hj.old.1;unfold LC;split
  ·exact⟨hb,hk,.inr (hj.pc 18)⟩
  ·refine⟨hbs,hk,.inr ?_⟩;simp only;split
   ·exact((hj.kk (k:=j.K+1) (by omega)).sub _).rtn
   ·exact hj.sub _
 refine aKD (λ_=>?_) λ_=>?_
 ·unfold JG;split
  ·exact⟨hb,hk,.inr (hj.pc 18)⟩
  ·rename_i hp;have hp0:0<j.gO.length:=by omega
   have er:j.gO.getD 0 0=j.gO[0]:=by grind
   have hh:=hj.new.2 j.gO[0] (dJ hp0);rw[<-er] at hh;refine⟨?_,hk,.inr ⟨hj.busy,hj.bat,hj.h,hj.prev,hj.bkt,hj.at_,hj.k,⟨by show(j.gO.drop 1).length<=6;have:=hj.new.1;simp;omega,λx hx=>hj.new.2 x (VW hx)⟩,hj.old,hj.reads,hj.wr,hj.held,hj.res,hj.node⟩⟩;grind[bIP]
 refine aKD (λ_=>?_) λ_=>?_
 ·obtain⟨r,e1,e2,h1,h2⟩:=aWL hb.1.2.1 hw;rw[aRN hb.1.2.1 hw] at e1;injection e1 with e1
  refine⟨hb.clock (by grind) (by grind),hk,.inr (hj.pc 19)⟩
 refine aKD (λ_=>?_) λ_=>?_
 ·exact⟨hb,hk,.inl rfl⟩
 ·exact⟨hb,hk,.inr (hj.ab 1)⟩
theorem a93{b:Batch}(hb:ZQ b)(s:Int):JB (lB b s):=
 ⟨rfl,hb,.inl rfl,.inl rfl,by simp[lB],by simp[lB],by simp[lB],by simp[lB],by simp[lB],by simp[lB],⟨by simp[lB],by simp[lB],by simp[lB]⟩,by simp[lB],by simp[lB],by show(0:Int)<=0/\(0:Int)<=4294967295;omega⟩
theorem TV.step{t:Table}(hv:TV t){w:Int}(hw:0<=w/\w<=2):TV (iL t w):=by
 have hjv:=hv.sV.2 _ (rH hv.sV.1 hw);have setj:∀{x:aH},(x=dA\/JB x)->(t.aR.set w.toNat x).length=3/\∀j∈t.aR.set w.toNat x,j=dA\/JB j:=λhx=>
  ⟨by simpa using hv.sV.1,λj hj=>(rJ hj).elim (hv.sV.2 j) λe=>e ▸ hx⟩
 unfold iL;split
 ·rename_i hbusy;have hj:JB (aQ t w):=hjv.resolve_left λe=>by rw[e] at hbusy;cases hbusy
  have h:=bIQ hv.base hv.bk hw hj;exact⟨h.b,h.k,setj h.j,hv.todo,hv.ser⟩
 ·split
  ·exact hv
  ·rename_i hq;have hqi:w.toNat<t.dC.length:=by have:=hv.todo.1;omega
   have hqm:(⟨o5 t w⟩:aN)∈t.dC:=by unfold o5;rw[EE,jK hqi];exact dJ _
   have hqq:(o5 t w).length<=12/\∀b∈o5 t w,ZQ b:=hv.todo.2 _ hqm;have hp0:0<(o5 t w).length:=by omega
   have er:(o5 t w).getD 0 ⟨false,[]⟩=(o5 t w)[0]:=by grind
   have hbv:=hqq.2 (o5 t w)[0] (dJ hp0);rw[<-er] at hbv;have hs:=hv.ser;have hsn:t.aO≠1000000:=λe=>hq (.inr e);unfold LD;refine⟨hv.base,hv.bk,setj (.inr (a93 hbv _)),⟨by simpa using hv.todo.1,λq hq'=>?_⟩,⟨by grind,by grind⟩⟩;rcases rJ hq' with h|h
   ·exact hv.todo.2 q h
   ·subst h;exact⟨by grind,λb hb=>hqq.2 b (VW hb)⟩
theorem aZX(c:kN):UH c=some (decide (aA9 c)):=by
 unfold UH JM JL;simp only[dO,aJ];by_cases h1:1<=c.Kind/\c.Kind<=4
 ·by_cases h2:0<=c.Key/\c.Key<=99
  ·simp only[cD h1,cD h2,i5,bO,bM];have dv:(c.Kind=2\/c.Kind=4)->decide (0<=c.eI/\c.eI<=65535)=decide (aA9 c):=λk=>by rw[KF,decide_eq_true_eq,decide_eq_true_eq];exact⟨λh=>⟨h1,h2,h,by omega⟩,λh=>h.2.2.1⟩
   by_cases k2:c.Kind=2
   ·grind
   ·have e:(c.Kind == 2)=false:=by grind
    by_cases k4:c.Kind=4
    ·grind
    ·have e4:(c.Kind == 4)=false:=by grind
     simp only[e,e4,bO,bM];congr 1;rw[KF,beq_iff_eq,decide_eq_true_eq];constructor
     ·intro h;exact⟨h1,h2,by omega,.inr (.inr h)⟩
     ·rintro⟨_,_,_,h|h|h⟩<;>omega
  simp_all[eU,aA9]
 ·simp only[eU h1,NZ,bU];grind[aA9]
theorem aZY(c:kN):UJ c=some (decide (aA9 c)):=by
 have key:∀B:Bool,vX c B=some (decide ((1<=c.Kind/\c.Kind<=4)/\(0<=c.Key/\c.Key<=99)/\((B=true/\(0<=c.eI/\c.eI<=65535))\/c.eI=0))):=λB=>by unfold vX qL;simp only[dI,aJ];grind
 unfold UJ;have fin:∀B:Bool,(B=true↔c.Kind=2\/c.Kind=4)->vX c B=some (decide (aA9 c)):=λB hB=>by rw[key];congr 1;rw[KF,decide_eq_true_eq,decide_eq_true_eq];grind[aA9]
 grind
theorem aZZ{b:Batch}(hl:b.bW.length<=1000):MW b=some (decide (ZQ b)):=by
 unfold MW;cases hc:b.Collect
 ·rw[g7];have hs:∀k (hk:k<b.bW.length),o7 b (k:Int)=if aA9 b.bW[k] then some (.next ((k+1:Nat):Int)) else some (.stop (Out.ret false)):=λk hk=>by simp only[o7];rw[dM,aV hk,aJ,aZX,aJ,eB];simp
  have key:loop (o7 b) 0=_:=mM (f:=o7 b) b.bW (λk=>(k:Int)) aA9 (Out.brk ()) (Out.ret false) (λk hk hp=>by grind) (λk hk hp=>by grind) (by simp[o7]);rw[key];by_cases q:∀x∈b.bW,aA9 x
  ·rw[aL q];simp only[aJ,V6,V5,dO];congr 1;rw[KF,decide_eq_true_eq,decide_eq_true_eq];exact⟨λa=>⟨λh=>(by grind),by omega,q,λ_=>by omega⟩,λa=>by have:=a.2.2.2 hc;have:=a.2.1;omega⟩
  ·rw[aP q,eU (show ¬ZQ b from λa=>q a.2.2.1)];rfl
 ·rw[aL rfl];congr 1;rw[KF,beq_iff_eq,decide_eq_true_eq];constructor
  ·intro h;have h0:b.bW=[]:=uM (by omega);exact⟨λ_=>h0,by omega,by grind,λh=>by grind⟩
  ·intro h;rw[h.1 hc];rfl
def BsV(l:List Batch):Prop:=∀b∈l,ZQ b
instance (l:List Batch):Decidable (BsV l):=by unfold BsV;infer_instance
theorem aZ0{l:List aN}(hl:l.length<=1000)(hb:∀q∈l,∀b∈q.List,b.bW.length<=1000):MX l=some (decide (XQ l)):=by
 unfold MX;have inner:∀k (hk:k<l.length),l[k].List.length<=12->loop (o8 l (k:Int)) 0=some (if BsV l[k].List then Out.brk () else Out.ret false):=by
  intro k hk h12;have hs:∀j (hj:j<l[k].List.length),o8 l (k:Int) (j:Int)=if ZQ l[k].List[j] then some (.next ((j+1:Nat):Int)) else some (.stop (Out.ret false)):=by intro j hj;simp only[o8];rw[aV hk,aJ,dM,aJ,aV hj,aJ,aZZ (hb _ (dJ hk) _ (dJ hj)),aJ,eB];simp
  have:=mM (f:=o8 l (k:Int)) l[k].List (λj=>(j:Int)) ZQ (Out.brk ()) (Out.ret false) (λj hj hp=>by grind) (λj hj hp=>by grind) (by
   simp_all[o8,aV])
  refine Eq.trans this ?_;congr 1
 have hs:∀k (hk:k<l.length),o9 l (k:Int)=if QuV l[k] then some (.next ((k+1:Nat):Int)) else some (.stop (Out.ret false)):=by
  intro k hk;simp only[o9];rw[dM,aV hk,aJ];by_cases h12:l[k].List.length<=12
  ·rw[Y4,inner k hk h12];by_cases q:BsV l[k].List
   ·rw[aL q,aL (show QuV l[k] from⟨h12,q⟩)];simp only[aJ,V9,V8];grind[cC]
   ·rw[aP q,aP (show ¬QuV l[k] from λa=>q a.2)];rfl
  ·rw[dM,aP (show ¬QuV l[k] from λa=>h12 a.1)]
 have key:loop (o9 l) 0=_:=mM (f:=o9 l) l (λk=>(k:Int)) QuV (Out.brk ()) (Out.ret false) (λk hk hp=>by grind) (λk hk hp=>by grind) (by simp[o9]);rw[key];by_cases q:∀x∈l,QuV x
 ·rw[aL q];simp only[aJ,WA,V7];congr 1;rw[KF];simp only[beq_iff_eq,decide_eq_true_eq];exact⟨λa=>⟨by omega,q⟩,λa=>by have:=a.1;omega⟩
 ·rw[aP q,eU (show ¬XQ l from λa=>q a.2)];rfl
theorem NY{O:Type}{l:List O}{f:Int->Option (Step Int (Out Unit Int))}{p:O->Bool}{m:(Out Unit Int)->Option Int}(hl:l.length<=4611686018427387904)
  (hf:∀k:Nat,f (k:Int)=if h:k<l.length then(if p l[k] then some (.stop (Out.ret (k:Int))) else some (.next ((k+1:Nat):Int))) else some (.stop (Out.brk ()))) (m1:∀r,m (.ret r)=some r) (m2:m (.brk ())=some (-1)) :
  ((loop f 0).bind m).bind (λx1=>some (decide (0<=x1)))=some (l.any p):=by
 rcases TN (f:=f) (p:=p) hl hf l.length 0 (by omega) with ⟨j,h,_,h2,h3,h4⟩|⟨h1,h2⟩
 ·rw[show(0:Int)=((0:Nat):Int) from rfl,h4,aJ,m1,aJ,cD (by omega)];grind
 ·rw[show(0:Int)=((0:Nat):Int) from rfl,h2,aJ,m2,aJ,eU (by omega)];congr 1;refine(aUM.2 λx hx=>?_).symm;obtain⟨i,hi,rfl⟩:=SG hx;grind
theorem aT2{l:List kN}(hl:l.length<=1000){f:kN->Bool}{g:kN->Option Bool}(hg:∀x∈l,g x=some (f x)):rO l g=some (l.any f):=
 NY (f:=rN l g) (m:=EI) (by omega) (λk=>by
  simp only[rN];by_cases h:k<l.length
  ·rw[dif_pos h,dM,aV h,aJ,hg _ (dJ h),aJ,eB];rfl
  grind) (λ_=>rfl) rfl
theorem aOH{l:List Batch}(hl:l.length<=1000){f:Batch->Bool}{g:Batch->Option Bool}(hg:∀x∈l,g x=some (f x)):oT l g=some (l.any f):=
 NY (f:=oS l g) (m:=AI) (by omega) (λk=>by
  simp only[oS];by_cases h:k<l.length
  ·rw[dif_pos h,dM,aV h,aJ,hg _ (dJ h),aJ,eB];rfl
  grind) (λ_=>rfl) rfl
theorem W9{l:List aN}(hl:l.length<=1000){f:aN->Bool}{g:aN->Option Bool}(hg:∀x∈l,g x=some (f x)):kE l g=some (l.any f):=
 NY (f:=nV l g) (m:=xP) (by omega) (λk=>by
  simp only[nV];by_cases h:k<l.length
  ·rw[dif_pos h,dM,aV h,aJ,hg _ (dJ h),aJ,eB];rfl
  grind) (λ_=>rfl) rfl
theorem aT3{O:Type}{l:List O}{P:O->Prop}[DecidablePred P]:(!(l.any λx=>!decide (P x)))=decide (∀x∈l,P x):=by grind
theorem aOI{b:Batch}(hl:b.bW.length<=1000):FH b=some (decide (ZQ b)):=by
 unfold FH;cases hc:b.Collect
 ·rw[g7,dI,aJ];by_cases h:1<=(b.bW.length:Int)/\(b.bW.length:Int)<=6
  ·rw[cD h,aL rfl,aT2 hl (f:=λx=>!decide (aA9 x)) (λx _=>by grind[OA,aZY]),aJ,aT3];unfold uQ;congr 1;rw[KF,decide_eq_true_eq,decide_eq_true_eq];exact⟨λa=>⟨λh=>(by grind),by omega,a,λ_=>by omega⟩,λa=>a.2.2.1⟩
  ·rw[eU h,g7];grind[uQ,ZQ]
 ·rw[aL rfl];congr 1;rw[KF,beq_iff_eq,decide_eq_true_eq];constructor
  ·intro h;have h0:b.bW=[]:=uM (by omega);exact⟨λ_=>h0,by omega,by grind,λh=>by grind⟩
  ·intro h;rw[h.1 hc];rfl
theorem aOJ{l:List aN}(hl:l.length<=1000)(hq:∀q∈l,q.List.length<=1000)(hb:∀q∈l,∀b∈q.List,b.bW.length<=1000):FJ l=some (decide (XQ l)):=by
 have e1:∀q∈l,FI q=some (!decide (QuV q)):=λq hm=>by
  unfold FI wR;by_cases h:q.List.length<=12
  ·rw[Y4,aOH (hq q hm) (f:=λx=>!decide (ZQ x)) (λx hx=>by grind[IU,aOI]),aJ];congr 1;rw[<-Bool.not_not ((q.List.any λx=>!decide (ZQ x))),aT3];congr 1;rw[KF,decide_eq_true_eq,decide_eq_true_eq];exact⟨λa=>⟨h,a⟩,λa=>a.2⟩
  ·rw[dM,eU (show ¬QuV q from λa=>h a.1)];rfl
 unfold FJ CT;by_cases h:l.length=3
 ·rw[dM,W9 hl e1,aJ,aT3];congr 1;rw[KF,decide_eq_true_eq,decide_eq_true_eq];exact⟨λa=>⟨h,a⟩,λa=>a.2⟩
 ·rw[Y4,eU (show ¬XQ l from λa=>h a.1)]
theorem aT4{b:Batch}(h:b.bW.length<=1000):JN b=some b/\xQ b=some b:=by unfold JN xQ UI lE;rw[R0];simp
theorem aOK{l:List aN}(hl:l.length<=1000)(hq:∀q∈l,q.List.length<=1000)(hb:∀q∈l,∀b∈q.List,b.bW.length<=1000):FE l=some l/\xR l=some l:=by
 constructor
 ·unfold FE;rw[aN0 l]
  ·rfl
  ·intro k hk;have h1:=hq _ (dJ hk);simp only[FD];rw[dM,aAK l[k].List]
   ·simp only[aJ,P5,P4];rw[R0,eB];rfl
   ·intro i hi;simp only[FC,FB];rw[aV hk,aJ,dM,aJ,aV hi,aJ,(aT4 (hb _ (dJ hk) _ (dJ hi))).1,aJ,R0,eB];rfl
   simp_all[FC,aV]
  grind[FD]
 ·unfold xR;rw[aN0 l]
  ·rfl
  ·intro k hk;have h1:=hq _ (dJ hk);simp only[FM];rw[dM,aV hk,aJ,aAK l[k].List]
   ·simp only[aJ,P8,P7];rw[R0,eB];rfl
   ·intro i hi;simp only[FL,FK];rw[dM,aV hi,aJ,(aT4 (hb _ (dJ hk) _ (dJ hi))).2,aJ,R0,eB];rfl
   grind[FL]
  grind[FM]
def a2P:Table:=⟨⟨⟨⟨[],[]⟩,⟨[],[]⟩⟩,⟨0,[]⟩,[],[]⟩,[],[],[],[],0⟩
def eG(t:List aN):Table:=⟨a2L,List.replicate 2 ⟨0,0,0⟩,List.replicate 3 dA,t,[],0⟩
theorem aH7{t:List aN}(hl:t.length<=1000)(hq:∀q∈t,q.List.length<=1000)(hb:∀q∈t,∀b∈q.List,b.bW.length<=1000):JO t=some (if XQ t then eG t else a2P)/\JQ t=some (if XQ t then eG t else a2P):=by
 unfold JO JQ;rw[aZ0 hl hb,aOJ hl hq hb];simp only[aJ];by_cases h:XQ t
 ·simp only[cD h,i5,bO,bM,aL h,aOC.1,aOC.2,aJ,(aOK hl hq hb).1,(aOK hl hq hb).2];rw[R1,R1];exact⟨rfl,rfl⟩
 ·simp only[eU h,NZ,bU,aP h];exact⟨rfl,rfl⟩
theorem aHK{t:List aN}(h:XQ t):TV (eG t):=
 ⟨a9U,⟨rfl,λx hx=>by simp[eG] at hx;subst hx;exact⟨.inl rfl,by simp,by simp⟩⟩,⟨rfl,λj hj=>by grind[eG]⟩,h,by show(0:Int)<=0/\(0:Int)<=1000000;omega⟩
def ZT(t:Table)(p:Int):Table:=if 0<=p/\p<=2 then iL t p else t
def MQ(t:Table)(l:List Int):Table:=l.foldl ZT t
theorem dQ{P:TR->Prop}{c:Prop}[Decidable c]{a b:TR}(h1:c->P a)(h2:¬c->P b):P (if c then a else b):=by grind
theorem bED(b:aA)(k:List cR)(w:Int)(j:aH):(qW b k w j).l.length<=1:=by unfold qW;refine dQ (P:=λr=>r.l.length<=1) (λ_=>iY _) λ_=>dQ (P:=λr=>r.l.length<=1) (λ_=>iY _) λ_=>dQ (P:=λr=>r.l.length<=1) (λ_=>iY _) λ_=>dQ (P:=λr=>r.l.length<=1) (λ_=>iY _) λ_=>dQ (P:=λr=>r.l.length<=1) (λ_=>?_) λ_=>dQ (P:=λr=>r.l.length<=1) (λ_=>iY _) λ_=>dQ (P:=λr=>r.l.length<=1) (λ_=>iY _) λ_=>dQ (P:=λr=>r.l.length<=1) (λ_=>iY _) λ_=>dQ (P:=λr=>r.l.length<=1) (λ_=>iY _) λ_=>dQ (P:=λr=>r.l.length<=1) (λ_=>iY _) λ_=>dQ (P:=λr=>r.l.length<=1) (λ_=>iY _) λ_=>dQ (P:=λr=>r.l.length<=1) (λ_=>iE _) λ_=>iY _;grind
theorem aAL(t:Table)(p:Int):(ZT t p).Log.length<=t.Log.length+1:=by
 unfold ZT iL;split
 ·split
  ·have:=bED t.aA t.bS p (aQ t p);show(t.Log++_).length<=_;grind
  ·split
   ·omega
   ·show(t.Log++_).length<=_;simp
 ·omega
theorem aWT{t:Table}(h:TV t)(p:Int):TV (ZT t p):=by
 unfold ZT;split
 ·exact h.step (by assumption)
 ·exact h
theorem aDF{P:Table->Prop}(hs:∀t w,TV t->(0<=w/\w<=2)->P t->P (iL t w)):∀(l:List Int) {t:Table},TV t->P t->TV (MQ t l)/\P (MQ t l)
 |[],t,h,hp=>⟨h,hp⟩
 |p::l,t,h,hp=>aDF hs l (aWT h p) (by grind[ZT])
theorem aRW{x:wQ}{n:Nat}(hn:((x.jW.take ((if 400<(x.jW.length:Int) then 400 else(x.jW.length:Int)).toNat)).drop 0)=x.jW.take n)(h400:(x.jW.take n).length<=400):∀(d k:Nat) (t:Table),k+d=(x.jW.take n).length->TV t->t.Log.length<=k->loop (qD x) ((k:Int),t)=some (MQ t ((x.jW.take n).drop k))
 |0,k,t,hk,hv,hl=>by rw[List.drop_of_length_le (by omega)];refine bD ?_;simp only[qD,hn];rw[aP (by grind)];rfl
 |d + 1,k,t,hk,hv,hl=>by
  have hkl:k<(x.jW.take n).length:=by omega
  have st:qD x ((k:Int),t)=some (.next (((k+1:Nat):Int),ZT t (x.jW.take n)[k])):=by
   simp only[qD,hn];rw[aL (by grind),aV hkl,aJ,nL,aJ];unfold wX ZT;rw[eB];by_cases hp:0<=(x.jW.take n)[k]/\(x.jW.take n)[k]<=2
   ·rw[cD hp,aL rfl,aWQ hv (by omega) hp,aL hp];rfl
   grind
  rw[bG st,aRW hn h400 d (k+1) _ (by omega) (aWT hv _) (by grind[aAL]),AG hkl];rfl
theorem aT5{x:wQ}(hl:x.dC.length<=1000)(hq:∀q∈x.dC,q.List.length<=1000)(hb:∀q∈x.dC,∀b∈q.List,b.bW.length<=1000)(ht:XQ x.dC):GK x=some (MQ (eG x.dC) (x.jW.take 400)):=by
 unfold GK;rw[(aH7 hl hq hb).2,aL ht,aJ,aP (by simp[eG])];have hn:((x.jW.take ((if 400<(x.jW.length:Int) then 400 else(x.jW.length:Int)).toNat)).drop 0)=x.jW.take 400:=by
  (simp_all;omega)
 rw[R1,show(0:Int)=((0:Nat):Int) from rfl,aRW hn (by grind) (x.jW.take 400).length 0 _ (by omega) (aHK ht) (by simp[eG]),aJ];rfl
def QuS(m:Int)(q:aN):Prop:=(q.List.length:Int)<=m/\∀x∈q.List,x.bW.length<=1000
section
variable {b:List UInt8} {i h:Int} (hc:Cu b i)
include hc
def bEE(l:List aN):Prop:=l.length<=3/\∀q∈l,QuS 100 q
theorem bEF{m:Int}(hm:m<=100):EA (JK ⟨b,i,h⟩ m) (λx=>x.1.length<=4000/\Cu b x.2.1):=by
 unfold JK;refine .bind (below hc (by omega)) λx1 ⟨hx1,h1⟩=>?_;refine .bind (P:=λx=>x.1.length<=4000/\Cu b x.2.1) (.loop (λs=>s.2.1.toNat) (λs=>(0<=s.2.1/\s.1.length+8*s.2.1<=4000)/\Cu b s.2.2.1) ⟨⟨hx1.1,by simp;omega⟩,h1⟩ ?_) λx hx=>.ret hx;rintro⟨l,n,i1,h1⟩ ⟨⟨n0,n1⟩,hi1⟩;simp only at n0 n1 hi1;simp only[SZ];refine .ite (λq=>?_) (λq=>?_)
 ·have q':=of_decide_eq_true q;refine .bind (below hi1 (by omega)) λx13 ⟨_,h13⟩=>.bind (below h13 (by omega)) λx14 ⟨hx14,h14⟩=>?_;rw[eB];refine .bind (P:=λx=>(x.length:Int)<=l.length+8) (.loop (λs=>s.2.toNat) (λs=>0<=s.2/\(s.1.length:Int)+s.2<=l.length+8) ⟨by omega,by grind⟩ ?_) ?_
  ·rintro⟨r,k⟩ ⟨k0,k1⟩;simp only at k0 k1;simp only[SX];refine .ite (λq=>?_) (λq=>?_)
   ·have q2:=of_decide_eq_true q;refine .need (by simp;omega) (.ret ?_);grind[cC]
   ·exact .ret (by omega)
  ·intro r hr;simp only[SY,SW];refine .ret ?_;grind[cC]
 ·exact .ret ⟨by grind,hi1⟩
end
theorem bEE.fit{l:List aN}(h:bEE l):l.length<=1000/\(∀q∈l,q.List.length<=1000)/\∀q∈l,∀b∈q.List,b.bW.length<=1000:=
 ⟨by have:=h.1;omega,λq hq=>by have:=(h.2 q hq).1;omega,λq hq=>(h.2 q hq).2⟩
theorem a48{x:wQ}(hx:bEE x.dC):P6 x=some (decide (XQ x.dC)):=by
 obtain⟨h1,h2,h3⟩:=hx.fit;unfold P6;rw[(aH7 h1 h2 h3).1,aJ];by_cases h:XQ x.dC
 ·rw[aL h,cD h];rfl
 ·rw[aP h,eU h];rfl
def uJ(p:Int):Prop:=(7<=p/\p<=14)\/p=16
structure LkJ (k:List cR) (w:Int) (j:aH):Prop where
 iff:∀b,0<=b/\b<=1->(b∈j.bI↔(iD k b).gW=w+1)
 pc:j.bI≠[]->uJ j.Pc
def aZ1(k k':List cR)(w:Int):Prop:=∀b,0<=b/\b<=1->(iD k' b).gW=(iD k b).gW\/((iD k b).gW=0/\(iD k' b).gW=w+1)\/((iD k b).gW=w+1/\(iD k' b).gW=0)
theorem QW{k:List cR}{i b:Int}{y:cR}(h2:k.length=2)(hi:0<=i/\i<=1)(hb:0<=b/\b<=1):iD (k.set i.toNat y) b=if b=i then y else iD k b:=by unfold iD;grind
def LkR(k:List cR)(w:Int)(r:TR):Prop:=LkJ r.k w r.j/\aZ1 k r.k w
section
variable {k:List cR} {w:Int} {j:aH} (h:LkJ k w j)
include h
theorem LkJ.same{j':aH}(e:j'.bI=j.bI)(hp:j.bI≠[]->uJ j'.Pc):LkJ k w j':=⟨λb hb=>by rw[e];exact h.iff b hb,λq=>hp (by grind)⟩
theorem LkJ.none(hp:¬uJ j.Pc):j.bI=[]:=Classical.byContradiction λq=>hp (h.pc q)
end
theorem g9(k:List cR)(w:Int):aZ1 k k w:=λ_ _=>.inl rfl
theorem aWU(j:aH)(x:aW):(zE j x).2.bI=j.bI:=by grind[zE,A7]
theorem aWV(j:aH)(c:kN)(v:Int)(is:Bool):(JF j c v is).bI=j.bI:=by
 unfold JF;split
 ·generalize (if is then v else 0)=u;unfold aHH;have h:=aWU j ⟨c.Key,false,XO u c.eI⟩;split
  ·exact h
  ·exact h
 ·rfl
theorem a94(j:aH):(VM j).bI=j.bI:=by grind[VM,aWU,aWV]
theorem a5A(b:aA)(k:List cR)(w:Int)(j:aH):(IN b k w j).bI=j.bI:=by
 unfold IN;split
 ·split<;>rfl
 ·split
  ·rfl
  ·split
   ·split
    ·rfl
    ·split<;>rfl
   ·split
    ·rfl
    ·split
     ·rfl
     ·split
      ·grind[aWV]
      ·rfl
theorem a95(b:aA)(w:Int)(j:aH):(HY b w j).2.bI=j.bI:=by
 unfold HY;split
 ·rfl
 ·simp only;split
  ·rfl
  ·split<;>rfl
theorem bEG(j:aH)(x:aW):(SA j x).bI=j.bI/\((SA j x).Pc=9\/(SA j x).Pc=12):=by grind[SA]
theorem a96(j:aH):(T1 j).bI=j.bI:=by grind[T1]
theorem aWW(j:aH):(SB j).bI=j.bI:=by grind[SB]
theorem a97(b:aA)(w:Int)(j:aH):(LC b w j).2.bI=j.bI:=by grind[LC,aWW]
theorem a98(b:aA)(w:Int)(j:aH):(JG b w j).2.bI=j.bI:=by grind[JG]
theorem a99(b:aA)(w:Int)(j:aH):(jT b w j).2.bI=j.bI:=by grind[jT]
theorem bEH(b:aA){k:List cR}(h2:k.length=2){w:Int}{j:aH}(hj:JB j)(h:LkJ k w j)(hpc:9<=j.Pc/\j.Pc<=13):LkJ (CL b k j).2.1 w (CL b k j).2.2/\aZ1 k (CL b k j).2.1 w:=by
 have p14:uJ 14:=.inl (by omega);have pl:∀(j':aH) (x:aW),j'.bI=j.bI->LkJ k w (SA j' x):=λj' x e=>by obtain⟨e1,e2⟩:=bEG j' x;exact h.same (e1.trans e) λ_=>by rcases e2 with e2|e2<;>rw[e2]<;>exact .inl (by omega)
 have head:∀{i:Int} {x:Int} {j':aH},0<=i/\i<=1->LkJ k w j'->LkJ (k.set i.toNat {iD k i with Head:=x}) w j'/\aZ1 k (k.set i.toNat {iD k i with Head:=x}) w:=λ{i x j'} hi hj'=>by
  have e:∀b,0<=b/\b<=1->(iD (k.set i.toNat {iD k i with Head:=x}) b).gW=(iD k b).gW:=λb hb=>by grind[QW]
  exact⟨⟨λb hb=>by rw[e b hb];exact hj'.iff b hb,hj'.pc⟩,λb hb=>.inl (e b hb)⟩
 unfold CL;by_cases c1:(j.aI.length:Int)<=j.K
 ·rw[aL c1];exact⟨h.same rfl λ_=>p14,g9 _ _⟩
 rw[aP c1];have hk:=hj.k;have hi:j.K.toNat<j.aI.length:=by omega
 have er:sU j=j.aI[j.K.toNat]:=by grind[sU]
 have hx:=hj.wr.2.1 j.aI[j.K.toNat] (dJ hi);rw[<-er] at hx;have hbk:0<=oJ (sU j).Key/\oJ (sU j).Key<=1:=by unfold oJ;omega
 by_cases c2:j.Pc=9
 ·rw[aL c2];refine⟨?_,g9 _ _⟩;simp only;split
  ·grind
  ·exact h.same rfl λ_=>.inl (by simp)
 rw[aP c2];by_cases c3:j.Pc=10
 ·rw[aL c3];refine⟨?_,g9 _ _⟩;simp only;split
  ·exact h.same rfl λ_=>.inl (by simp)
  ·split
   ·grind
   ·exact h.same rfl λq=>h.pc q
 rw[aP c3];by_cases c4:j.Pc=11
 ·rw[aL c4];grind[a96,g9]
 rw[aP c4];split
 ·exact⟨h.same rfl λ_=>.inr rfl,g9 _ _⟩
 ·split
  ·exact⟨h.same rfl λ_=>.inl (by simp),g9 _ _⟩
  ·exact head hbk (h.same rfl λ_=>.inl (by simp))
theorem bEI{k:List cR}(h2:k.length=2){w:Int}(hw:0<=w){j:aH}(hj:JB j)(h:LkJ k w j)(hpc:j.Pc=7):LkJ (O9 k w j).1 w (O9 k w j).2.1/\aZ1 k (O9 k w j).1 w:=by
 have p8:uJ 8:=.inl (by omega);unfold O9;by_cases c1:j.K<(qX j.aI).length
 ·rw[aL c1];have hk:=hj.k;have hi:j.K.toNat<(qX j.aI).length:=by omega
  have er:gJ j=(qX j.aI)[j.K.toNat]:=by grind[gJ]
  have hbk:0<=gJ j/\gJ j<=1:=by grind[ZG,dJ]
  by_cases c2:(iD k (gJ j)).gW≠0\/(j.Reads.any λs=>s.cR == gJ j && s.kC != (iD k (gJ j)).kC)=true
  ·rw[aL c2];exact⟨h.same rfl λ_=>.inr rfl,g9 _ _⟩
  rw[aP c2];have c0:(iD k (gJ j)).gW=0:=Classical.byContradiction λq=>c2 (.inl q);split
  ·exact⟨h.same rfl λ_=>.inr rfl,g9 _ _⟩
  have hnm:gJ j∉j.bI:=λq=>by have:=(h.iff _ hbk).1 q;omega
  have hto:aZ1 k (k.set (gJ j).toNat {iD k (gJ j) with gW:=w+1}) w:=λb hb=>by grind[QW]
  have hkeep:∀j':aH,j'.bI=j.bI++[gJ j]->uJ j'.Pc->LkJ (k.set (gJ j).toNat {iD k (gJ j) with gW:=w+1}) w j':=λj' e hp=>⟨λb hb=>by
   rw[e,eD,IC,QW h2 hbk hb];split
   ·grind
   ·rename_i q;rw[h.iff b hb];omega,λ_=>hp⟩
  have hh:(PN j).bI=j.bI++[gJ j]:=by simp_all[PN]
  split
  ·grind
  ·refine⟨hkeep _ hh ?_,hto⟩;show uJ j.Pc;rw[hpc];exact .inl (by omega)
 ·rw[aP c1];exact⟨h.same rfl λ_=>p8,g9 _ _⟩
theorem bEJ{k:List cR}(h2:k.length=2){w:Int}(hw:0<=w){j:aH}(hj:JB j)(h:LkJ k w j)(hpc:j.Pc=14\/j.Pc=16):LkJ (PA k j).1 w (PA k j).2/\aZ1 k (PA k j).1 w:=by
 have hp:uJ j.Pc:=by rcases hpc with e|e<;>rw[e];exact .inl (by omega);exact .inr rfl
 unfold PA;by_cases c1:0<j.bI.length
 ·rw[aL c1];have er:CM j=j.bI[0]:=by grind[CM]
  have hm:CM j∈j.bI:=by grind
  have hbk:=hj.held.1 _ hm;have hl:=(h.iff _ hbk).1 hm;obtain⟨y,hy,hy0⟩:∃y:cR,(if j.Pc=14 then(⟨(iD k (CM j)).Head,if 1000000<(iD k (CM j)).kC+1 then 1000000 else(iD k (CM j)).kC+1,0⟩:cR) else {iD k (CM j) with gW:=0})=y/\y.gW=0:=by grind
  simp only;rw[hy];have hd:j.bI=CM j::j.bI.drop 1:=by rw[er];exact(AG (i:=0) c1)
  have hn:=hj.held.2;rw[hd,aBG] at hn;refine⟨⟨λb hb=>?_,λ_=>hp⟩,λb hb=>?_⟩
  ·show b∈j.bI.drop 1↔_;rw[QW h2 hbk hb];split
   ·grind
   ·rename_i e;have:=h.iff b hb;grind
  grind[QW]
 ·rw[aP c1];have hnil:j.bI=[]:=uM (by omega);split
  ·exact⟨h.same rfl λq=>absurd hnil q,g9 _ _⟩
  ·exact⟨h.same (aWW {j with Pc:=15,K:=0}) λq=>absurd hnil q,g9 _ _⟩
theorem bIR{b:aA}{k:List cR}{w:Int}{j:aH}(h2:k.length=2)(hw:0<=w/\w<=2)(hj:JB j)(h:LkJ k w j):LkR k w (qW b k w j):=by
 have nh:∀{p:Int},¬uJ p->j.Pc=p->j.bI=[]:=λhp e=>h.none (by grind);have no:∀{j':aH},j'.bI=j.bI->j.bI=[]->LkJ k w j':=λe e0=>h.same e λq=>absurd e0 q;have out:∀{p:Int},j.Pc=p->¬uJ p->j.bI=[]:=λe hp=>nh hp e;unfold qW;refine dQ (P:=LkR k w) (λp=>⟨no (a99 b w j) (h.none (by grind[uJ])),g9 _ _⟩) λ_=>dQ (P:=LkR k w) (λp=>⟨no (a94 j) (h.none (by grind[uJ])),g9 _ _⟩) λ_=>
  dQ (P:=LkR k w) (λp=>⟨no (a5A b k w j) (h.none (by grind[uJ])),g9 _ _⟩) λ_=>dQ (P:=LkR k w) (λp=>⟨no (a95 b w j) (h.none (by grind[uJ])),g9 _ _⟩) λ_=>
  dQ (P:=LkR k w) (λp=>bEI h2 hw.1 hj h p) λ_=>dQ (P:=LkR k w) (λp=>⟨?_,g9 _ _⟩) λ_=>
  dQ (P:=LkR k w) (λp=>bEH b h2 hj h p) λ_=>dQ (P:=LkR k w) (λp=>bEJ h2 hw.1 hj h p) λ_=>
  dQ (P:=LkR k w) (λp=>⟨no (a97 b w j) (h.none (by grind[uJ])),g9 _ _⟩) λ_=>dQ (P:=LkR k w) (λp=>⟨no (a98 b w j) (h.none (by grind[uJ])),g9 _ _⟩) λ_=>
  dQ (P:=LkR k w) (λp=>⟨no rfl (h.none (by grind[uJ])),g9 _ _⟩) λ_=>dQ (P:=LkR k w) (λp=>⟨no (j':=dA) (h.none (by grind[uJ])).symm (h.none (by grind[uJ])),g9 _ _⟩) λ_=>⟨h.same rfl λ_=>.inr rfl,g9 _ _⟩
 show LkJ k w (XP k w j);unfold XP;split
 ·exact h.same rfl λ_=>.inl (by simp)
 ·split
  ·exact h.same rfl λ_=>.inr rfl
  ·exact h.same rfl λq=>h.pc q
def aOL(t:Table):Prop:=∀w,0<=w/\w<=2->LkJ t.bS w (aQ t w)
theorem aOM{t:Table}{l:List aH}{w v:Int}{x:aH}(h3:t.aR.length=3)(hl:l=t.aR.set w.toNat x)(hw:0<=w/\w<=2)(hv:0<=v/\v<=2):l.getD v.toNat dA=if v=w then x else aQ t v:=by subst hl;unfold aQ;grind
theorem aOL.step{t:Table}(hv:TV t){w:Int}(hw:0<=w/\w<=2)(h:aOL t):aOL (iL t w):=by
 have h3:=hv.sV.1;have hjv:=hv.sV.2 _ (rH h3 hw);unfold iL;split
 ·rename_i hbusy;have hj:JB (aQ t w):=hjv.resolve_left λe=>by rw[e] at hbusy;cases hbusy
  obtain⟨g1,g2⟩:=bIR (b:=t.aA) hv.bk.1 hw hj (h w hw);intro v hv';have ej:aQ (EC t w (qW t.aA t.bS w (aQ t w))) v=if v=w then(qW t.aA t.bS w (aQ t w)).j else aQ t v:=aOM h3 rfl hw hv';rw[ej];show LkJ (qW t.aA t.bS w (aQ t w)).k v _;split
  ·rename_i e;rw[e];exact g1
  ·rename_i e;refine⟨λb hb=>?_,(h v hv').pc⟩;rw[(h v hv').iff b hb];rcases g2 b hb with q|⟨q1,q2⟩|⟨q1,q2⟩
   ·rw[q]
   ·rw[q1,q2];omega
   ·rw[q1,q2];omega
 ·rename_i hbusy;split
  ·exact h
  ·intro v hv';generalize (o5 t w).getD 0 ⟨false,[]⟩=b;have ej:aQ (LD t w b) v=if v=w then lB b (t.aO+1) else aQ t v:=aOM h3 rfl hw hv';rw[ej];show LkJ t.bS v _;split
   ·rename_i e;subst e;have hn:(aQ t v).bI=[]:=by
     rcases hjv with e|hj
     ·rw[e];rfl
     ·exact absurd hj.busy hbusy
    exact(h v hv').same hn.symm λq=>absurd hn q
   ·exact h v hv'
theorem aOL.zero(l:List aN):aOL (eG l):=λw hw=>by
 have e:aQ (eG l) w=dA:=by
  have:w=0\/w=1\/w=2:=by omega
  rcases this with rfl|rfl|rfl<;>rfl
 rw[e];refine⟨λb hb=>?_,λq=>absurd rfl q⟩;have eb:(iD (eG l).bS b).gW=0:=by
  have:b=0\/b=1:=by omega
  rcases this with rfl|rfl<;>rfl
 rw[eb];exact⟨λq=>(by cases q),λq=>(by omega)⟩
theorem a2Q(j:aH)(x:aW):(zE j x).2.aO=j.aO/\(zE j x).2.cO=j.cO:=by grind[zE,A7]
theorem a2R(j:aH)(c:kN)(v:Int)(is:Bool):(JF j c v is).aO=j.aO/\(JF j c v is).cO=j.cO:=by
 unfold JF;split
 ·generalize (if is then v else 0)=u;unfold aHH;have h:=a2Q j ⟨c.Key,false,XO u c.eI⟩;split
  ·exact h
  ·exact h
 ·exact⟨rfl,rfl⟩
theorem a2S(j:aH):(VM j).aO=j.aO/\(VM j).cO=j.cO:=by grind[VM,a2Q,a2R]
theorem aWX(b:aA)(k:List cR)(w:Int)(j:aH):(IN b k w j).aO=j.aO/\(IN b k w j).cO=j.cO:=by
 unfold IN;split
 ·split<;>exact⟨rfl,rfl⟩
 ·split
  ·simp
  ·split
   ·split
    ·exact⟨rfl,rfl⟩
    ·split<;>exact⟨rfl,rfl⟩
   ·split
    ·exact⟨rfl,rfl⟩
    ·split
     ·exact⟨rfl,rfl⟩
     ·split
      ·grind[a2R]
      ·exact⟨rfl,rfl⟩
theorem a2T(b:aA)(w:Int)(j:aH):(HY b w j).2.aO=j.aO/\(HY b w j).2.cO=j.cO:=by
 unfold HY;split
 ·simp
 ·simp only;split
  ·simp
  ·split<;>exact⟨rfl,rfl⟩
theorem a2U(k:List cR)(w:Int)(j:aH):(O9 k w j).2.1.aO=j.aO/\(O9 k w j).2.1.cO=j.cO:=by
 unfold O9;split
 ·split
  ·exact⟨rfl,rfl⟩
  ·split
   ·exact⟨rfl,rfl⟩
   ·split<;>exact⟨rfl,rfl⟩
 simp
theorem a2V(k:List cR)(w:Int)(j:aH):(XP k w j).aO=j.aO/\(XP k w j).cO=j.cO:=by
 unfold XP;split
 ·simp
 ·split<;>exact⟨rfl,rfl⟩
theorem aZ2(j:aH)(x:aW):(SA j x).aO=j.aO/\(SA j x).cO=j.cO:=by grind[SA]
theorem bEK(j:aH):(T1 j).aO=j.aO/\(T1 j).cO=j.cO:=by grind[T1]
theorem a2W(b:aA)(k:List cR)(j:aH):(CL b k j).2.2.aO=j.aO/\(CL b k j).2.2.cO=j.cO:=by
 unfold CL;split
 ·simp
 ·split
  ·grind[aZ2]
  ·split
   ·grind[aZ2]
   ·split
    ·grind[aZ2,bEK]
    ·split
     ·exact⟨rfl,rfl⟩
     grind
theorem a2X(j:aH):(SB j).aO=j.aO/\(SB j).cO=j.cO:=by grind[SB]
theorem a2Y(k:List cR)(j:aH):(PA k j).2.aO=j.aO/\(PA k j).2.cO=j.cO:=by grind[PA,a2X]
theorem a2Z(b:aA)(w:Int)(j:aH):(LC b w j).2.aO=j.aO/\(LC b w j).2.cO=j.cO:=by grind[LC,a2X]
theorem a21(b:aA)(w:Int)(j:aH):(JG b w j).2.aO=j.aO/\(JG b w j).2.cO=j.cO:=by grind[JG]
theorem a23(b:aA)(w:Int)(j:aH):(jT b w j).2.aO=j.aO/\(jT b w j).2.cO=j.cO:=by grind[jT]
theorem a25{t:Table}{l:List aH}{w v:Int}{x:aH}(h3:t.aR.length=3)(hl:l=t.aR.set w.toNat x)(hw:0<=w/\w<=2)(hv:0<=v/\v<=2):l.getD v.toNat dA=if v=w then x else aQ t v:=by subst hl;unfold aQ;grind
theorem aRX:∀(l:List Int) (t:Table),(MQ t l).Log.length<=t.Log.length+l.length
 |[],t=>iE _
 |p::l,t=>by have h1:=aRX l (ZT t p);grind[aAL,MQ]
def MC(b:aA)(s:Int):Int:=if dW b.Mem s=3 then(if bI b.aM s then 3 else 4) else dW b.Mem s
theorem aON(m:Mem)(s:Int):0<=dW m s/\dW m s<=3:=by grind[dW]
theorem aOO(b:aA)(s:Int):0<=MC b s/\MC b s<=4:=by have:=aON b.Mem s;grind[MC]
def o6(b:aA):Nat->List Int
 |0=>List.replicate 5 0
 |k+1=>(o6 b k).set (MC b k).toNat ((o6 b k).getD (MC b k).toNat 0+1)
theorem aDG(b:aA)(k:Nat):(o6 b k).length=5:=by induction k with|zero=>rfl|succ k ih=>grind[o6]
theorem aZ3(b:aA)(k:Nat):∀j,0<=(o6 b k).getD j 0/\(o6 b k).getD j 0<=k:=by
 induction k with
 |zero=>grind[o6]
 |succ k ih=>
  intro j;have h1:=ih j;grind[o6]
section
variable {b:aA} (hb:kW b)
include hb
theorem aWY(s:Int):J9 b s=some (MC b s):=by have hm:=hb.1.1;obtain⟨h1,h2,h3,_⟩:=lC.facts hm;unfold J9 MC;rw[W7 hm.1.1.1 (by omega) (by grind[maxLen]) (by grind[maxLen]),aJ,L8 hb.1.2.2.1];grind[zZ]
theorem a5B(k:Nat):idx (o6 b k) (MC b k)=some ((o6 b k).getD (MC b k).toNat 0):=by grind[aOO,aDG,gX]
theorem kW.fits:b.Mem.Heap.Bytes.length<=maxLen/\(dY b.Mem.aD).length<=1073741824/\b.aC.cQ.length<=maxLen/\b.aM.length<=maxLen/\(bX b.aM).length<=1073741824/\b.oR.length<=maxLen:=by obtain⟨h1,h2,h3,h4,_⟩:=lC.facts hb.1.1;have a:=hb.1.2.1.2.1;have c:=hb.1.2.2.1.1;have d:=hb.1.2.2.1.2.1;have e:=hb.1.2.2.2.1;grind[maxLen]
theorem aZ4:US b=some (o6 b 24):=by
 unfold US;rw[R1,aNX (kW.fits hb),cD hb,aJ];have:=jG (f:=BZ b true) 24 (λk=>(o6 b k,(k:Int))) (o6 b 24) (λk hk=>by
  have hr:=aZ3 b k (MC b k).toNat;simp only[BZ,BY];rw[dM,aL trivial,aWY hb,aJ,a5B hb,aJ,eB (x:=(k:Int)+1),eB];rfl) (by simp[BZ,BY])
 rw[show(List.replicate ((5:Int).toNat) (0:Int))=o6 b 0 from rfl];have this':loop (BZ b true) (o6 b 0,0)=_:=this;rw[this'];rfl
end
def aT6(p:Nat->Bool)(n:Nat):Nat:=((List.range n).filter p).length
theorem a5C(p:Nat->Bool)(n:Nat):aT6 p (n+1)=aT6 p n+if p n then 1 else 0:=by grind[aT6,List.range_succ]
theorem ED:∀{l m:List Int},l.Nodup->(∀x∈l,x∈m)->l.length<=m.length
 |[],_,_,_=>iY _
 |a::t,m,hn,h=>by rw[aBG] at hn;have ha:a∈m:=h a (aBE ..);have ih:=ED (l:=t) (m:=m.erase a) hn.2 (λx hx=>(List.mem_erase_of_ne (λe:x=a=>hn.1 (by grind))).2 (h x (lJ _ hx)));grind
theorem aRY{p:Nat->Bool}{n:Nat}{l:List Int}(hn:l.Nodup)(hr:∀x∈l,0<=x/\x<(n:Int))(hp:∀i:Nat,i<n->(p i=true↔(i:Int)∈l)):aT6 p n=l.length:=by
 have e:aT6 p n=(((List.range n).filter p).map (λi:Nat=>(i:Int))).length:=by simp[aT6]
 have nd:(((List.range n).filter p).map (λi:Nat=>(i:Int))).Nodup:=by rw[List.nodup_iff_pairwise_ne];refine List.Pairwise.map (R:=λa b:Nat=>a≠b) _ (λa b h=>by omega) ?_;grind[List.nodup_range]
 have a:=ED (m:=l) nd (λx hx=>by
  grind)
 have b:=ED (l:=l) (m:=((List.range n).filter p).map (λi:Nat=>(i:Int))) hn (λx hx=>by
  have:=hr x hx;refine N0.2 ⟨x.toNat,List.mem_filter.2 ⟨List.mem_range.2 (by omega),(hp _ (by omega)).2 (by grind)⟩,by omega⟩)
 omega
theorem a5D(b:aA)(k:Nat):∀j:Nat,j<5->(o6 b k).getD j 0=(aT6 (λi=>decide (MC b i=(j:Int))) k:Int):=by
 induction k with
 |zero=>intro j hj;simp only[o6,aT6,List.range_zero,List.filter_nil,List.length_nil,EE,List.getElem?_replicate,aL hj];rfl
 |succ k ih=>
  intro j hj;have hr:=aOO b k;have hl:=aDG b k;rw[a5C];simp only[o6,EE,List.getElem?_set];grind
end Go.Gv
end
noncomputable section
set_option maxRecDepth 20000
namespace Go.Gv
theorem aZ5{l:List bN}(h3:l.length=3){w:Int}(hw:0<=w/\w<=2)(r:List dR):bQ (l.set w.toNat ⟨r⟩) w=r:=by unfold bQ;rw[EE,List.getElem?_set_self (by omega)];rfl
theorem aDH{m:Mem}(hm:lC m){w h:Int}(hw:0<=w/\w<=2)(hv:mN m h):(∀t,bJ (oP m w h).Heap t=bJ m.Heap t)/\(∀t,0<=bJ m.Heap t->j7 (oP m w h).Heap t=if t=h % 32 then h/32+1 else j7 m.Heap t) /\
  (∀t,t≠h % 32->(t∈dY (oP m w h).aD↔t∈dY m.aD))/\dW (oP m w h) (h % 32)≠3:=by
 obtain⟨hcnt,h3,h9,h1,h2,hsm,hcp,hlo,hsG,hsO⟩:=lC.facts hm;have hcl:=dL hv.2.1;have hc2:0<=bJ m.Heap (h % 32)/\bJ m.Heap (h % 32)<=2:=by obtain⟨_,q,e⟩:=rG hcl;rw[e];exact j6.1 (by omega)
 have hg6:1<=h/32/\h/32<=6:=by have:=hv.1;unfold kU at this;omega
 obtain⟨_,hg⟩:=XN.a9J hm.1.1 hcl (g:=h/32+1) (by omega);have hh:(oP m w h).Heap=⟨st4 m.Heap.Bytes (iS (h % 32) (bJ m.Heap (h % 32))).toNat (h/32+1),m.Heap.Class⟩:=by unfold oP;simp only[apply_ite Mem.Heap,ite_self]
 have kx:(w*3+bJ m.Heap (h % 32)).toNat<m.aD.Own.length:=by omega
 have ky:(bJ m.Heap (h % 32)).toNat<m.aD.Global.length:=by omega
 have hl:∀t,t∈dY (oP m w h).aD↔t∈dY m.aD\/(h/32+1<=6/\t=h % 32):=λt=>by
  unfold oP dY;by_cases q:h/32+1<=6
  ·rw[aL q];split
   ·rw[<-dK kx];simp only[eD,HU kx,IC,q,true_and];constructor
    ·rintro(a|a|a)
     ·exact .inl (.inl a)
     ·exact .inl (.inr a)
     ·exact .inr a
    ·rintro((a|a)|a)
     ·exact .inl a
     ·exact .inr (.inl a)
     ·exact .inr (.inr a)
   ·rw[<-dK ky];simp only[eD,HU ky,IC,q,true_and];constructor
    ·rintro((a|a)|a)
     ·exact .inl (.inl a)
     ·exact .inr a
     ·exact .inl (.inr a)
    ·rintro((a|a)|a)
     ·exact .inl (.inl a)
     ·exact .inr a
     ·exact .inl (.inr a)
  ·rw[aP q];simp only[eD,q,false_and,or_false]
 refine⟨λt=>by rw[hh];rfl,λt ht=>by rw[hh];exact hg t ht,λt ht=>by rw[hl];exact⟨λx=>x.elim id λy=>absurd y.2 ht,.inl⟩,λhu=>?_⟩;have hu':=iK.1 hu;have e1:j7 (oP m w h).Heap (h % 32)=h/32+1:=by rw[hh,hg _ hcl,aL rfl]
 rw[e1] at hu';exact hu'.2.1 ((hl _).2 (.inr ⟨hu'.2.2,rfl⟩))
theorem aOP{m:Mem}(hm:lC m){w h:Int}(hw:0<=w/\w<=2)(hv:mN m h){t:Int}(ht:t≠h % 32):dW (oP m w h) t=dW m t:=by
 obtain⟨a,b,c,_⟩:=aDH hm hw hv;by_cases q:0<=bJ m.Heap t
 ·exact aFL (a t) (by rw[b t q,aP ht]) (c t ht)
 ·have e:bJ (oP m w h).Heap t=bJ m.Heap t:=a t;unfold dW;rw[e,aL (by omega),aL (by omega)]
theorem aWZ{l:List dR}{j:Nat}(h:j<l.length):LB l (j:Int)=l[j]:=by
 have:=ZL (l:=l) (k:=(j:Int)) (by omega);rw[aV h] at this;injection this with this
 exact this.symm
def bIS(h:Heap)(s:Int):Int:=ld h.Bytes ((iS s (bJ h s)).toNat+4) 4
theorem aW0{h:Heap}{s:Int}(hc:0<=bJ h s):(iS s (bJ h s)).toNat+8<=384:=(bK6 hc).1
theorem bEL{h:Heap}(hh:XN h){s:Int}(hc:0<=bJ h s):1<=j7 h s/\j7 h s<=7:=by obtain⟨p,i,p6,hi,es,ec,eo,ep⟩:=qI hc;have hold:=(HT hh.1 p6).1 (hh.2 p p6);simp_all[aDC,aP,j7]
structure aT7 (m m':Mem) (x:Int):Prop where
 was:dW m x≠3
 now:dW m' x=3
 gen:1<=j7 m'.Heap x/\j7 m'.Heap x<=6
 rest:∀t,t≠x->(dW m' t=3↔dW m t=3)
 same:∀t,dW m t=3->j7 m'.Heap t=j7 m.Heap t/\bIS m'.Heap t=bIS m.Heap t
theorem aRZ{m:Mem}(hm:lC m){ls:aD}{x:Int}(h1:∀t,t∈dY m.aD↔t∈dY ls\/t=x)(h2:x∉dY ls):aT7 m ⟨m.Heap,ls⟩ x:=by have hx:x∈dY m.aD:=(h1 x).2 (.inr rfl);obtain⟨a,b⟩:=lC.oZ hm hx;refine⟨λq=>(iK.1 q).2.1 hx,iK.2 ⟨a,h2,b⟩,⟨(bEL hm.1.1 a).1,b⟩,λt ht=>?_,λt _=>⟨rfl,rfl⟩⟩;grind[iK]
theorem a5E{l:List Int}(h:l≠[]):l=(O6 l).1++[(O6 l).2]:=by
 unfold O6;rcases aDT l with rfl|⟨L,b,rfl⟩
 ·exact absurd rfl h
 ·simp
theorem aW1{l:List bE}{k:Nat}(hk:k<l.length)(h:eT l k≠[]):∃A B,fI l=A++((O6 (eT l k)).2::B)/\fI (l.set k ⟨(O6 (eT l k)).1⟩)=A++B:=by grind[a5E,O6,EW,dK,JD]
theorem aW2{l:List bE}{k:Nat}(hk:k<l.length)(h:eT l k=[]):l.set k ⟨(O6 (eT l k)).1⟩=l/\(O6 (eT l k)).2 = -1:=by
 rw[h];refine⟨?_,rfl⟩;have e:(⟨(O6 []).1⟩:bE)=l[k]:=by
  have:=dK hk;rw[h] at this;cases hl:l[k] with
  |mk s=>rw[hl] at this;simp only at this;subst this;rfl
 simp_all
theorem aT8{m:Mem}(hm:lC m){w c:Int}(hw:0<=w/\w<=2)(hc:0<=c/\c<=2):(HV m w c=(m,-1))\/0<=(HV m w c).2/\aT7 m (HV m w c).1 (HV m w c).2:=by
 obtain⟨hcnt,h3,h9,_⟩:=lC.facts hm;have hk:(w*3+c).toNat<m.aD.Own.length:=by omega
 unfold HV;by_cases q:eT m.aD.Own (w*3+c).toNat=[]
 ·left;obtain⟨a,b⟩:=aW2 hk q;rw[a,b]
 ·right;obtain⟨A,B,e1,e2⟩:=aW1 hk q;have nd:=hm.1.2.2.2.2.2;have rg:=hm.1.2.2.2.2.1;unfold dY at nd rg;rw[e1] at nd rg;refine⟨(rg _ (by simp)).1,aRZ hm (λt=>?_) ?_⟩
  ·grind[dY]
  grind[dY]
theorem aQR{m:Mem}(hm:lC m){c:Int}(hc:0<=c/\c<=2):(AD m c=(m,-1))\/0<=(AD m c).2/\aT7 m (AD m c).1 (AD m c).2:=by
 obtain⟨hcnt,h3,h9,_⟩:=lC.facts hm;have hk:c.toNat<m.aD.Global.length:=by omega
 unfold AD;by_cases q:eT m.aD.Global c.toNat=[]
 ·left;obtain⟨a,b⟩:=aW2 hk q;rw[a,b]
 ·right;obtain⟨A,B,e1,e2⟩:=aW1 hk q;have nd:=hm.1.2.2.2.2.2;have rg:=hm.1.2.2.2.2.1;unfold dY at nd rg;rw[e1] at nd rg;refine⟨(rg _ (by simp)).1,aRZ hm (λt=>?_) ?_⟩
  ·grind[dY]
  grind[dY]
theorem aZ6{m:Mem}(hm:lC m){c:Int}(hc:0<=c/\c<=2):(zC m c=(m,-1))\/0<=(zC m c).2/\aT7 m (zC m c).1 (zC m c).2:=by
 obtain⟨hcnt,h3,h9,h1,_⟩:=lC.facts hm;have hs:=hm.1.1.1;unfold zC;by_cases q:pgF m.Heap=6
 ·grind
 right;rw[aP q];obtain⟨hp,hun⟩:=aZM hs q;generalize pgF m.Heap=p at hp hun;obtain⟨a,b,d,e⟩:=XN.a9L hm.1.1 hp (by omega) hc;have hpp:0<cM c:=j6.2 hc;have hp4:=nE c;have hk:c.toNat<m.aD.Global.length:=by omega
 have hcons:gS p (cM c).toNat=(p:Int)*4::(gS p (cM c).toNat).drop 1:=by
  have:0<(gS p (cM c).toNat).length:=by grind[aHB]
  have h0:=AG this;rw[PO] at h0;have e0:(gS p (cM c).toNat)[0]=(p:Int)*4:=by simp[gS]
  grind
 have hnd:=aWH p (cM c).toNat;rw[hcons,aBG] at hnd;have hxs:∀t,t∈(gS p (cM c).toNat).drop 1↔∃i,i<(cM c).toNat/\t=(p:Int)*4+(i:Nat)/\i≠0:=λt=>by
  constructor
  ·intro h;obtain⟨i,hi,rfl⟩:=a9M (VW h);grind
  ·rintro⟨i,hi,rfl,i0⟩;have hmem:(p:Int)*4+(i:Nat)∈gS p (cM c).toNat:=by grind[gS]
   grind
 generalize (gS p (cM c).toNat).drop 1=xs at hnd hxs;have hmem:∀t,t∈dY ⟨m.aD.Global.set c.toNat ⟨eT m.aD.Global c.toNat++xs⟩,m.aD.Own⟩↔t∈dY m.aD\/t∈xs:=λt=>by unfold dY;rw[<-dK hk];simp[HU,or_right_comm]
 have hno:∀i,i<(cM c).toNat->¬0<=bJ m.Heap ((p:Int)*4+(i:Nat)):=λi hi z=>(d _ z).1 (by omega);have e0:=e 0 (by omega);rw[show(p:Int)*4+((0:Nat):Int)=(p:Int)*4 by omega] at e0;have hno0:=hno 0 (by omega);rw[show(p:Int)*4+((0:Nat):Int)=(p:Int)*4 by omega] at hno0;have bts:=λj=>(a2G hm.1.1.1.1 hp hc (cM c).toNat (by omega) j).1;have hbl:=MA m.Heap.Bytes p c (cM c).toNat;refine⟨by omega,λz=>hno0 (iK.1 z).1,iK.2 ⟨by grind,λz=>?_,by grind⟩,by grind,λt ht=>?_,λt ht=>?_⟩
 ·grind[lC.oZ]
 ·rw[iK,iK];simp only at ht;by_cases z:0<=bJ m.Heap t
  ·obtain⟨z1,z2⟩:=d t z;have zx:t∉xs:=λy=>by obtain⟨i,hi,rfl,_⟩:=(hxs t).1 y;omega
   have:t∈dY (⟨m.aD.Global.set c.toNat ⟨eT m.aD.Global c.toNat++xs⟩,m.aD.Own⟩:aD)↔t∈dY m.aD:=by grind
   simp only[this,b t z1,z2]
  ·refine⟨λy=>?_,λy=>absurd y.1 z⟩;exfalso;obtain⟨y1,y2,y3⟩:=y;by_cases zp:(t/4).toNat=p
   ·obtain⟨r1,r2,r3⟩:=rG y1;rw[zp,ZI hs hp,aL rfl] at r2;exact y2 ((hmem t).2 (.inr ((hxs t).2 ⟨(t % 4).toNat,by omega,by omega,by omega⟩)))
   grind
 ·have ht':=iK.1 ht;obtain⟨z1,z2⟩:=d t ht'.1;refine⟨z2,?_⟩;obtain⟨p',i',p6',hi',es',ec',eo',ep'⟩:=qI ht'.1;have hend:=aW0 ht'.1;have hz':=sP hs p6' rfl hi';have room:8+i'*(aX (cA m.Heap p')).toNat+8<=64:=by
   have hcl:0<=cA m.Heap p'/\cA m.Heap p'<=2:=j6.1 (by omega);generalize cA m.Heap p'=c' at hi' hcl;rcases nS hcl with rfl|rfl|rfl
   ·grind[cM,aX]
   ·grind[cM,aX]
   grind[cM,aX]
  unfold bIS;simp only;rw[b t z1];exact KE (by omega) hbl λj j1 j2=>bts j (by omega)
theorem bAA{h:Heap}{s t:Int}(hc:0<=bJ h s)(ht:0<=bJ h t)(hn:s≠t):(iS s (bJ h s)).toNat+4+(jC (bJ h s)).toNat<=(iS t (bJ h t)).toNat\/(iS t (bJ h t)).toNat+4+(jC (bJ h t)).toNat<=(iS s (bJ h s)).toNat:=by
 obtain⟨p,i,p6,hi,es,ec,eo,ep⟩:=qI hc;obtain⟨q,j,q6,hj,fs,fc,fo,fp⟩:=qI ht;rw[eo,fo,ec,fc];have room:∀{c:Int} {i:Nat},i<(cM c).toNat->(c=0/\i<4/\(aX c).toNat=12/\(jC c).toNat=8)\/(c=1/\i<2/\(aX c).toNat=20/\(jC c).toNat=16)\/(c=2/\i<1/\(aX c).toNat=44/\(jC c).toNat=40):=λ{c i} h=>by
  rcases nS (j6.1 (show 0<cM c by omega)) with rfl|rfl|rfl
  ·exact .inl ⟨rfl,h,rfl,rfl⟩
  ·exact .inr (.inl ⟨rfl,h,rfl,rfl⟩)
  ·exact .inr (.inr ⟨rfl,h,rfl,rfl⟩)
 by_cases e:p=q
 ·subst e;have hij:i≠j:=λe=>hn (by omega);have r2:=room hj;rcases room hi with ⟨_,a,b,c⟩|⟨_,a,b,c⟩|⟨_,a,b,c⟩
  ·rw[b,c];omega
  ·rw[b,c];omega
  ·omega
 ·have:p<q\/q<p:=by omega
  rcases room hi with ⟨_,a,b,c⟩|⟨_,a,b,c⟩|⟨_,a,b,c⟩<;>rcases room hj with ⟨_,a',b',c'⟩|⟨_,a',b',c'⟩|⟨_,a',b',c'⟩<;>rw[b,c,b',c']<;>omega
theorem aW3{b b':List Int}{a:Nat}(h:a+2<=b.length)(hl:b'.length=b.length)(hs:∀j,a<=j->j<a+2->bt b' j=bt b j):ld b' a 2=ld b a 2:=by grind[ld,AG,aN3]
theorem aOQ{h h':Heap}{t:Int}(h384:h.Bytes.length=384)(hc:0<=bJ h t)(h10:10<=jC (bJ h t))(e:bJ h' t=bJ h t)(hl:h'.Bytes.length=h.Bytes.length)(hs:∀j,A4 h t<=j->j<A4 h t+10->bt h'.Bytes j=bt h.Bytes j):aA7 h' t=aA7 h t:=by grind[D9,A4,aA7,aW3,KE]
def Kn(m m':Mem)(z:Int):Prop:=∀x,kX m x->x % 32≠z->kX m' x/\aA7 m'.Heap (x % 32)=aA7 m.Heap (x % 32)
theorem Kn.refl(m:Mem)(z:Int):Kn m m z:=λ_ h _=>⟨h,rfl⟩
theorem vU.kn{m m':Mem}{z:Int}(h:vU m m' z)(hn:∀x,kX m x->x % 32≠z->aA7 m'.Heap (x % 32)=aA7 m.Heap (x % 32)):Kn m m' z:=λx hx hz=>by obtain⟨a,b,c⟩:=h.2 _ hx.1.2.1 hz;exact⟨⟨⟨hx.1.1,a,by rw[b];exact hx.1.2.2⟩,by rw[c];exact hx.2⟩,hn x hx hz⟩
theorem aT9{m:Mem}(hm:lC m){w h:Int}(hw:0<=w/\w<=2)(hv:mN m h):Kn m (oP m w h) (h % 32):=by
 obtain⟨m',e1,e2,_,hs⟩:=aKZ hm hw hv;rw[aFM hm hw hv] at e1;injection e1 with e1
 rw[<-e1] at hs;refine hs.kn λx hx hz=>?_;have hcl:=dL hv.2.1;have h384:=hm.1.1.1.1;have hh:(oP m w h).Heap=⟨st4 m.Heap.Bytes (iS (h % 32) (bJ m.Heap (h % 32))).toNat (h/32+1),m.Heap.Class⟩:=by simp[oP,apply_ite]
 rw[hh];have hc:=dL hx.1.2.1;have e:=aW0 hcl;have a:=bAA hcl hc (λq=>hz q.symm);have s1:=(D9 hc hx.2).2;have s2:8<=(jC (bJ m.Heap (h % 32))).toNat:=by have:=rG hcl;have hh:=j6.1 (show 0<cM (cA m.Heap (h % 32/4).toNat) by omega);rw[this.2.2];rcases nS hh with e|e|e<;>rw[e]<;>decide
 refine aOQ h384 hc hx.2 rfl (HR ..) λj j1 j2=>?_;unfold A4 at j1 j2;rw[JE (by omega),jH,jH]
theorem a26{m:Mem}(hm:lC m){x:Int}(hx:kX m x){o:Nat}{t:List UInt8}(ho:o+t.length<=10):Kn m ⟨⟨j8 m.Heap.Bytes (A4 m.Heap (x % 32)+o) t,m.Heap.Class⟩,m.aD⟩ (x % 32):=by have hcl:=dL hx.1.2.1;have r:=D9 hcl hx.2;have h384:=hm.1.1.1.1;have h:=lC.j8 hm hcl (o:=o) (t:=t) (by omega);refine λy hy hz=>?_;have hc:=dL hy.1.2.1;obtain⟨a,b,c⟩:=h.2 _ hy.1.2.1 (by omega);have ap:=bAA hcl hc (λq=>hz q.symm);have s1:=(D9 hc hy.2).2;refine⟨⟨⟨hy.1.1,a,b.trans hy.1.2.2⟩,hy.2⟩,aOQ h384 hc hy.2 rfl (CI ..) λj j1 j2=>?_⟩;grind[A4,NT]
theorem kX.j8{m:Mem}(hm:lC m){x:Int}(hx:kX m x){o:Nat}{t:List UInt8}(ho:o+t.length<=10):kX ⟨⟨Gv.j8 m.Heap.Bytes (A4 m.Heap (x % 32)+o) t,m.Heap.Class⟩,m.aD⟩ x:=by have hcl:=dL hx.1.2.1;have r:=D9 hcl hx.2;have h:=lC.j8 hm hcl (o:=o) (t:=t) (by omega);obtain⟨a,b,c⟩:=h.2 _ hx.1.2.1 (by omega);exact⟨⟨hx.1.1,a,b.trans hx.1.2.2⟩,hx.2⟩
theorem bAB{b:List Int}{a:Nat}{t:List UInt8}(h:a+t.length<=b.length){k:Nat}(j:Nat)(e:k=a+j)(hj:j<t.length):bt (j8 b a t) k=(t[j].toNat:Int):=by grind[aOA]
theorem u8v(z:Int):((u8 z).toNat:Int)=z % 256:=by grind[u8,UInt8.toNat_ofNat_of_lt']
theorem aZ7{b:List Int}{a k:Nat}{t l r:List UInt8}{n:Int}(ht:t=l++oN n++r)(hk:k=a+l.length)(h:a+t.length<=b.length)(hn:0<=n/\n<=4294967295):ld (j8 b a t) k 4=n:=by
 have e:∀j (hj:j<4),bt (j8 b a t) (k+j)=(((oN n)[j]'(by grind[oN])).toNat:Int):=λj hj=>by
  have h4:(oN n).length=4:=rfl;have hl:t.length=l.length+4+r.length:=by grind
  rw[bAB h (l.length+j) (by omega) (by omega)];grind
 have h4:(oN n).length=4:=rfl;have hl:t.length=l.length+4+r.length:=by grind
 have e0:=e 0 (by omega);have e1:=e 1 (by omega);have e2:=e 2 (by omega);have e3:=e 3 (by omega);simp only[oN,List.getElem_cons_zero,List.getElem_cons_succ,u8v,VY] at e0 e1 e2 e3;grind[ld4,CI]
section
variable {m:Mem} (hm:lC m) {x:Int} (hx:kX m x)
include hm hx
theorem a27{o:Nat}{t:List UInt8}(ho:o+t.length<=10)(s:Int):dW ⟨⟨j8 m.Heap.Bytes (A4 m.Heap (x % 32)+o) t,m.Heap.Class⟩,m.aD⟩ s=dW m s:=by
 have hcl:=dL hx.1.2.1;have r:=D9 hcl hx.2;have h:=(XN.j8 hm.1.1 hcl (o:=o) (t:=t) (by omega)).2;by_cases q:0<=bJ m.Heap s
 ·exact aFL rfl (h s q) Iff.rfl
 ·have c:bJ m.Heap s<0:=by omega
  exact(aL (show bJ _ s<0 from c)).trans (aL c).symm
structure Wr1 (m m':Mem) (x:Int) (n:gR):Prop where
 ok:kX m' x
 nod:aA7 m'.Heap (x % 32)=n
 kn:Kn m m' (x % 32)
 st:∀s,dW m' s=dW m s
theorem bEM{y:Int}(hy:kV y):Wr1 m (Gv.aH6 m x y) x {aA7 m.Heap (x % 32) with Next:=y}:=by have hcl:=dL hx.1.2.1;have r:=(D9 hcl hx.2).1;have h384:=hm.1.1.1.1;have h4:(oN y).length=4:=rfl;have hr:=aFN hy;unfold Gv.aH6;rw[aL ⟨hy,hx⟩];refine⟨kX.j8 hm hx (by omega),?_,a26 hm hx (by omega),a27 hm hx (by omega)⟩;have ed:A4 ⟨j8 m.Heap.Bytes (A4 m.Heap (x % 32)+6) (oN y),m.Heap.Class⟩ (x % 32)=A4 m.Heap (x % 32):=rfl;unfold aA7;simp only[ed];rw[aW3 (by omega) (CI ..) λj a b=>NT _ (by omega) (by omega),KE (by omega) (CI ..) λj a b=>NT _ (by omega) (by omega),aZ7 (l:=[]) (r:=[]) (n:=y) (by simp) (by simp) (by omega) (by omega)]
theorem bIT{n:gR}(hn:aHF n):Wr1 m (aFO m x n) x n:=by
 have hcl:=dL hx.1.2.1;have r:=(D9 hcl hx.2).1;have h384:=hm.1.1.1.1;have hl:(aQP n).length=10:=by simp[aQP,T0,oN]
 have hr:=aFN hn.2.2;have hk:=hn.1;have hv:=hn.2.1;unfold aFO;rw[aL ⟨hn,hx⟩];refine⟨kX.j8 hm hx (o:=0) (by omega),?_,a26 hm hx (o:=0) (by omega),a27 hm hx (o:=0) (by omega)⟩;have ed:A4 ⟨j8 m.Heap.Bytes (A4 m.Heap (x % 32)) (aQP n),m.Heap.Class⟩ (x % 32)=A4 m.Heap (x % 32):=rfl;have hle:A4 m.Heap (x % 32)+(aQP n).length<=m.Heap.Bytes.length:=by omega
 have e2:ld (j8 m.Heap.Bytes (A4 m.Heap (x % 32)) (aQP n)) (A4 m.Heap (x % 32)) 2=n.Key:=by
  have e:∀{b:List Int} {a:Nat},a+2<=b.length->ld b a 2=bt b a*256+bt b (a+1):=λh=>by grind[ld,AG,ldF,aN3]
  rw[e (by grind[CI]),bAB hle 0 (VY _).symm (by omega),bAB hle 1 rfl (by omega)];grind[aQP,T0,u8v]
 unfold aA7;simp only[ed];rw[e2,aZ7 (l:=T0 n.Key) (r:=oN n.Next) (n:=n.eI) (by simp[aQP]) (by simp[T0]) hle (by omega),aZ7 (l:=T0 n.Key++oN n.eI) (r:=[]) (n:=n.Next) (by simp[aQP]) (by simp[T0,oN]) hle (by omega)]
end
theorem a28{m m':Mem}{x:Int}(e:m'.Heap=m.Heap)(h:aT7 m m' x):Kn m m' (-1):=λy hy _=>by have h1:=(h.rest (y % 32) (λq=>h.was (q ▸ hy.1.2.1))).2 hy.1.2.1;grind[kX,mN]
theorem a29{l:List Int}(h:0<=(O6 l).2):(O6 l).2∈l:=by
 rcases aDT l with rfl|⟨L,b,rfl⟩
 ·exact absurd h (by simp[O6])
 ·simp[O6]
theorem bAC{m:Mem}(hm:lC m){c:Int}(hc:0<=c/\c<=2)(h:aT7 m (zC m c).1 (zC m c).2):Kn m (zC m c).1 (-1)/\bJ (zC m c).1.Heap (zC m c).2=c:=by
 have hs:=hm.1.1.1;unfold zC at h ⊢;by_cases q:pgF m.Heap=6
 ·rw[aL q] at h;exact absurd h.now h.was
 rw[aP q] at h ⊢;obtain⟨hp,hun⟩:=aZM hs q;generalize pgF m.Heap=p at hp hun h;obtain⟨a,b,d,e⟩:=XN.a9L hm.1.1 hp (by omega) hc;have hpp:0<cM c:=j6.2 hc;have e0:=(e 0 (by omega)).1;rw[show(p:Int)*4+((0:Nat):Int)=(p:Int)*4 by omega] at e0;refine⟨λy hy _=>?_,e0⟩;have h1:=(h.rest (y % 32) (λq=>h.was (q ▸ hy.1.2.1))).2 hy.1.2.1;have hcl:=dL hy.1.2.1;obtain⟨z1,z2⟩:=d _ hcl;have ec:=b _ z1;refine⟨⟨⟨hy.1.1,h1,z2.trans hy.1.2.2⟩,by show 10<=jC (bJ _ _);rw[ec];exact hy.2⟩,?_⟩;have bts:=λj=>(a2G hm.1.1.1.1 hp hc (cM c).toNat (by omega) j).1;obtain⟨p',i',p6',hi',es',ec',eo',ep'⟩:=qI hcl;have r:=D9 hcl hy.2;refine aOQ hm.1.1.1.1 hcl hy.2 ec (MA ..) λj j1 j2=>bts j ?_;unfold A4 at j1 j2;have room:8+i'*(aX (cA m.Heap p')).toNat+4+10<=64:=by
  have hcl:0<=cA m.Heap p'/\cA m.Heap p'<=2:=j6.1 (by omega);have h10:=hy.2;rw[ec'] at h10;generalize cA m.Heap p'=c' at hi' hcl h10;rcases nS hcl with rfl|rfl|rfl
  ·exact absurd h10 (by decide)
  ·rw[show(cM 1).toNat=2 from rfl] at hi';rw[show(aX 1).toNat=20 from rfl];omega
  simp_all[cM]
 omega
structure AlT (b:aA) (s:Sub) (r:aA×Sub):Prop where
 clock:r.1.aC=b.aC
 bOE:r.1.aM=b.aM
 haz:r.1.oR=b.oR
 two:r.1.Mem=b.Mem/\(r.2.gL=true/\r.2.Code=3\/s.Pc<=2/\r.2={s with Pc:=s.Pc+1}) \/
  r.2.gL=true/\r.2.Code=0/\kX r.1.Mem r.2.Out/\aT7 b.Mem r.1.Mem (r.2.Out % 32)/\Kn b.Mem r.1.Mem (-1)
theorem aUA{b:aA}(hm:lC b.Mem){w:Int}(hw:0<=w/\w<=2){s:Sub}(hk:s.Kind=1)(hd:s.gL=false)(hp:0<=s.Pc/\s.Pc<=3)(ha:s.A=16):AlT b s (iB b w s):=by
 have e:iB b w s=ZK b w s:=by grind[iB]
 rw[e];have h1:MB s.A=1:=by rw[ha];rfl
 have fin:∀p:Mem×Int,(p=(b.Mem,-1)\/0<=p.2/\aT7 b.Mem p.1 p.2)->(aT7 b.Mem p.1 p.2->0<=p.2->Kn b.Mem p.1 (-1)/\bJ p.1.Heap p.2=1)->AlT b s (O7 b s p):=λp h hk=>by
  unfold O7;rcases h with rfl|⟨h0,h1⟩
  ·rw[g7];split
   ·exact⟨rfl,rfl,rfl,.inl ⟨rfl,.inl ⟨rfl,rfl⟩⟩⟩
   ·exact⟨rfl,rfl,rfl,.inl ⟨rfl,.inr ⟨by omega,rfl⟩⟩⟩
  ·obtain⟨k1,k2⟩:=hk h1 h0;rw[aL h0];have h23:=(rG (iK.1 h1.now).1).1;have eh:aZN p.1 p.2=j7 p.1.Heap p.2*32+p.2:=aL h1.gen;have hg:=h1.gen;have e1:aZN p.1 p.2 % 32=p.2:=by omega
   have e2:aZN p.1 p.2/32=j7 p.1.Heap p.2:=by omega
   have hn:kU (aZN p.1 p.2):=by grind[kU]
   refine⟨rfl,rfl,rfl,.inr ⟨rfl,rfl,⟨⟨hn,?_,?_⟩,?_⟩,?_,k1⟩⟩
   ·simp only[qY];rw[e1];exact h1.now
   ·grind[qY]
   ·simp only[qY];rw[e1,k2];decide
   grind[qY]
 unfold ZK;rw[h1,jH];have hc:(0:Int)<=1/\(1:Int)<=2:=by omega
 split
 ·refine fin _ (aT8 hm hw hc) λt h=>⟨a28 rfl t,?_⟩;have hf:=hm.2.2 (w*3+1).toNat (by omega) _ (a29 h);rw[show(((w*3+1).toNat % 3:Nat):Int)=1 by omega] at hf;exact hf.1
 split
 ·exact fin _ (aQR hm hc) λt h=>⟨a28 rfl t,(hm.2.1 1 (by omega) _ (a29 h)).1⟩
 grind[aZ6,bAC]
abbrev fQ(v:Int):Prop:=0<=v/\v<=2
abbrev HZ(v:Int):Prop:=0<=v/\v<=1
def dX(m:Mem)(x:Int):gR:=aA7 m.Heap (x % 32)
def ChT(m:Mem):Int->List Int->Prop
 |x,[]=>x=0
 |x,h::r=>x=h/\kX m h/\aHF (dX m h)/\ChT m (dX m h).Next r
def csL(l:List Int)(s:Int):Nat:=(l.map (· % 32)).count s
def lI(j:aH):List Int:=if(6<=j.Pc/\j.Pc<=8)\/j.Pc=16\/j.Pc=17 then j.gO else if 9<=j.Pc/\j.Pc<=13 then j.gO.drop (fX j.aI j.K).toNat else []
def aHL(j:aH):List Int:=if 9<=j.Pc/\j.Pc<=14 then j.cH else if j.Pc=15 then j.cH.drop j.K.toNat else []
def own(j:aH):List Int:=lI j++aHL j
def ind(b:aA)(s:Int):Nat:=if dW b.Mem s=3/\¬bI b.aM s then 1 else 0
def cnO(J:Int->aH)(s:Int):Nat:=csL (own (J 0)) s+csL (own (J 1)) s+csL (own (J 2)) s
def cnC(c:Int->List Int)(s:Int):Nat:=csL (c 0) s+csL (c 1) s
def wJ(J:Int->aH)(w:Int)(j:aH):Int->aH:=λv=>if v=w then j else J v
def upC(c:Int->List Int)(i:Int)(l:List Int):Int->List Int:=λv=>if v=i then l else c v
theorem LF(J:Int->aH)(w:Int)(j:aH):wJ J w j w=j:=aL rfl
theorem ZU(J:Int->aH){w v:Int}(j:aH)(h:v≠w):wJ J w j v=J v:=aP h
theorem LG(c:Int->List Int)(i:Int)(l:List Int):upC c i l i=l:=aL rfl
def upQ(q:Int->Nat)(w:Int)(n:Nat):Int->Nat:=λv=>if v=w then n else q v
theorem bAE(q:Int->Nat)(w:Int):upQ q w (q w)=q:=by grind[upQ]
theorem VO(c:Int->List Int){i v:Int}(l:List Int)(h:v≠i):upC c i l v=c v:=aP h
@[simp] theorem bAF (s : Int) : csL [] s = 0 := rfl
theorem VQ(a b:List Int)(s:Int):csL (a++b) s=csL a s+csL b s:=by simp[csL]
theorem QX(x:Int)(l:List Int)(s:Int):csL (x::l) s=csL l s+if x % 32=s then 1 else 0:=by grind[csL]
theorem MD{l:List Int}{x:Int}(h:x∈l):1<=csL l (x % 32):=List.count_pos_iff.2 (N0.2 ⟨x,h,rfl⟩)
theorem ZV{J:Int->aH}{w:Int}(hw:fQ w)(j:aH)(s:Int):cnO (wJ J w j) s+csL (own (J w)) s=cnO J s+csL (own j) s:=by grind[cnO,wJ]
theorem aZ8(J:Int->aH){v:Int}(hv:fQ v)(s:Int):csL (own (J v)) s<=cnO J s:=by grind[cnO]
theorem bEN(J:Int->aH){v w:Int}(hv:fQ v)(hw:fQ w)(hn:v≠w)(s:Int):csL (own (J v)) s+csL (own (J w)) s<=cnO J s:=by grind[cnO]
theorem bAG{c:Int->List Int}{i:Int}(hi:HZ i)(l:List Int)(s:Int):cnC (upC c i l) s+csL (c i) s=cnC c s+csL l s:=by grind[cnC,upC]
theorem bAH(c:Int->List Int){i:Int}(hi:HZ i)(s:Int):csL (c i) s<=cnC c s:=by grind[cnC]
theorem aUB(c:Int->List Int){i j:Int}(hi:HZ i)(hj:HZ j)(hn:i≠j)(s:Int):csL (c i) s+csL (c j) s<=cnC c s:=by grind[cnC]
def bi(j:aH):Int:=oJ (sU j).Key
structure TW (Ky:List Int) (m:Mem) (k:List cR) (c:Int->List Int) (q:Nat) (j:aH):Prop where
 pc:0<=j.Pc/\j.Pc<=21
 nO:j.Pc<6\/20<=j.Pc->j.gO=[]
 oO:j.Pc<=8\/j.Pc=16\/j.Pc=17\/20<=j.Pc->j.cH=[]
 hc:2<=j.Pc/\j.Pc<=5->CJ j
 wl:(j.aI.length:Int)<=j.At
 n6:j.Pc=6->(j.gO.length:Int)=j.K/\j.K<=fX j.aI j.aI.length
 n7:7<=j.Pc/\j.Pc<=13->(j.gO.length:Int)=fX j.aI j.aI.length/\(9<=j.Pc->(j.cH.length:Int)<=if j.Pc<=11 then j.K else j.K+1)
 l7:j.Pc=7->∀x∈(qX j.aI).take j.K.toNat,x∈j.bI
 l8:8<=j.Pc/\j.Pc<=13->∀x∈j.aI,oJ x.Key∈j.bI
 k9:10<=j.Pc/\j.Pc<=13->j.K<j.aI.length
 st:j.Pc=10\/j.Pc=11->∃A B,c (bi j)=A++j.H::B/\(j.gN=A.getLastD 0/\∀a∈A,(dX m a).Key≠(sU j).Key)/\(j.Pc=10->B.length<=q)
 cu:j.Pc=11->j.Node=dX m j.H/\j.Node.Key=(sU j).Key
 fl:j.Pc=12\/j.Pc=13->(sU j).KJ=false/\∀a∈c (bi j),(dX m a).Key≠(sU j).Key
 ln:j.Pc=13->dX m (IB j)=⟨(sU j).Key,(sU j).eI,(iD k (bi j)).Head⟩
 cd:j.Code=0/\j.Pc≠16/\j.Pc≠17\/(j.Code=3\/j.Code=6\/j.Code=7)/\16<=j.Pc/\j.Pc<=19
 at_:j.Code=0->6<=j.Pc/\j.Pc<=19->j.At=j.Batch.bW.length
 cl:j.Batch.Collect=true->j.Pc=19\/j.Pc=20\/j.Pc=21
 cl2:j.Pc=20\/j.Pc=21->j.Batch.Collect=true
 ky:(∀x∈j.aI,x.Key∈Ky)/\∀x∈j.Batch.bW,x.Key∈Ky
def Rp(m:Mem):List Int->Prop
 |[]=>True
 |h::r=>kX m h/\aHF (dX m h)/\((dX m h).Next=0\/(dX m h).Next∈r)/\Rp m r
def Sfe(b:aA)(J:Int->aH)(e x:Int):Prop:=(∀r∈bX b.aM,r.Handle=x->e<=r.aE)/\∀v,fQ v->x∉lI (J v)/\((J v).Pc=15->(J v).K<(J v).cH.length->(J v).Sub.A=x->(J v).Sub.Pc=1->e<=(J v).Sub.E)
def m6(m:Mem)(l:List Int):List Int:=l.map λx=>(dX m x).Key
def mO(c:aC)(v:Int):Prop:=(b9 c v).On=true/\(b9 c v).gU=false
structure RdL (Ky:List Int) (b:aA) (J:Int->aH) (e:Int) (l:List Int):Prop where
 rp:Rp b.Mem l
 nd:(m6 b.Mem l).Nodup
 ky:∀x∈m6 b.Mem l,x∈Ky
 sf:∀x∈l,Sfe b J e x
def RdJ(Ky:List Int)(b:aA)(J:Int->aH)(v:Int)(q:Nat)(j:aH):Prop:=(j.Pc=3\/j.Pc=4)->mO b.aC v->∃r,(RdL Ky b J (b9 b.aC v).aE (j.H::r)/\r.length<=q)/\(j.Pc=4->(j.Node.Key=(dX b.Mem j.H).Key/\j.Node.eI=(dX b.Mem j.H).eI)/\(j.Node.Next=0\/j.Node.Next∈r))
def bEO(e:Int)(l:List dR)(s:Sub):Prop:=s.Kind=4/\s.gL=false/\(s.Pc=0\/s.E<=e/\(s.Pc=1/\0<=s.Row\/s.Pc=2/\(0<=s.B/\s.B<=2)/\QV l s/\EY (LB l s.Row) s.E\/s.Pc=3/\QV l s/\EY (LB l s.Row) s.E))
structure SbJ (b:aA) (v:Int) (j:aH):Prop where
 al:j.Pc=6->j.Sub.Kind=1/\j.Sub.gL=false/\(0<=j.Sub.Pc/\j.Sub.Pc<=3)/\j.Sub.A=16
 rt:j.Pc=15->j.K<j.cH.length->0<=j.K/\j.Sub.Kind=2/\j.Sub.gL=false/\j.Sub.A=j.cH.getD j.K.toNat 0/\(j.Sub.Pc=0\/j.Sub.Pc=1/\0<=j.Sub.E/\j.Sub.E<=b.aC.aE)
 col:j.Pc=21->bEO b.aC.aE (bQ b.aM v) j.Sub
structure sQ (Ky:List Int) (b:aA) (k:List cR) (c:Int->List Int) (q:Int->Nat) (J:Int->aH):Prop where
 hz:b.oR=[0,0,0]
 ch:∀i,HZ i->ChT b.Mem (iD k i).Head (c i)
 key:∀i,HZ i->(m6 b.Mem (c i)).Nodup/\∀x∈m6 b.Mem (c i),oJ x=i/\x∈Ky
 cnt:∀s,cnC c s+cnO J s=ind b s
 ok:∀v,fQ v->∀x∈own (J v),kX b.Mem x
 tw:∀v,fQ v->(J v).cO=true->TW Ky b.Mem k c (q v) (J v)
 rd:∀v,fQ v->RdJ Ky b J v (q v) (J v)
 sb:∀v,fQ v->SbJ b v (J v)
theorem ChT.all{m:Mem}:∀{l:List Int} {x:Int},ChT m x l->∀y∈l,kX m y/\aHF (dX m y)
 |[],_,_,_,h=>by cases h
 |a::r,x,h,y,hy=>by
  rcases kD.1 hy with rfl|hy
  ·exact⟨h.2.1,h.2.2.1⟩
  ·exact h.2.2.2.all y hy
theorem ChT.keep{m m':Mem}:∀{l:List Int} {x:Int},ChT m x l->(∀y∈l,kX m' y/\dX m' y=dX m y)->ChT m' x l
 |[],_,h,_=>h
 |a::r,x,h,hk=>by obtain⟨a1,a2⟩:=hk a (by simp);exact⟨h.1,a1,by rw[a2];exact h.2.2.1,by rw[a2];exact h.2.2.2.keep λy hy=>hk y (by simp[hy])⟩
theorem ChT.split{m:Mem}{A:List Int}:∀{h:Int} {B:List Int} {x:Int},ChT m x (A++h::B)->ChT m h (h::B):=by
 induction A with
 |nil=>exact λh=>⟨rfl,h.2⟩
 |cons a A ih=>exact λh=>ih h.2.2.2
theorem ChT.rp{m:Mem}:∀{l:List Int} {x:Int},ChT m x l->Rp m l
 |[],_,_=>trivial
 |[a],x,h=>⟨h.2.1,h.2.2.1,.inl h.2.2.2,trivial⟩
 |a::b::r,x,h=>⟨h.2.1,h.2.2.1,.inr (by rw[h.2.2.2.1];simp),h.2.2.2.rp⟩
theorem Rp.from{m:Mem}:∀{l:List Int} {x:Int},Rp m l->x∈l->∃A r,l=A++x::r/\Rp m (x::r)
 |a::l,x,h,hx=>by
  by_cases e:x=a
  ·subst e;exact⟨[],l,rfl,h⟩
  ·obtain⟨A,r,e1,h1⟩:=h.2.2.2.from ((kD.1 hx).resolve_left e);grind
theorem Rp.keep{m m':Mem}:∀{l:List Int},Rp m l->(∀y∈l,kX m' y/\dX m' y=dX m y)->Rp m' l
 |[],_,_=>trivial
 |a::r,h,hk=>by obtain⟨a1,a2⟩:=hk a (by simp);exact⟨a1,by rw[a2];exact h.2.1,by rw[a2];exact h.2.2.1,h.2.2.2.keep λy hy=>hk y (by simp[hy])⟩
theorem Rp.ok{m:Mem}:∀{l:List Int},Rp m l->∀y∈l,kX m y/\aHF (dX m y)
 |a::r,h,y,hy=>by
  rcases kD.1 hy with rfl|hy
  ·exact⟨h.1,h.2.1⟩
  ·exact h.2.2.2.ok y hy
theorem aHM{m m':Mem}{l:List Int}(h:∀y∈l,(dX m' y).Key=(dX m y).Key):m6 m' l=m6 m l:=List.map_congr_left h
theorem kX.ne{m:Mem}{x:Int}(h:kX m x):x≠0:=by have:=h.1.1.1;omega
theorem aHN(b:aA)(s:Int):ind b s<=1:=by grind[ind]
theorem Rp.cut{m m':Mem}{y:Int}(hy:dX m' y={dX m y with Next:=(dX m (dX m y).Next).Next})(h0:(dX m y).Next≠0):∀{l:List Int},Rp m l->(∀x∈l,kX m' x/\(x≠y->dX m' x=dX m x))->Rp m' l
 |[],_,_=>trivial
 |a::r,h,hk=>by
  have ih:=h.2.2.2.cut hy h0 λx hx=>hk x (by simp[hx]);obtain⟨a1,a2⟩:=hk a (by simp);by_cases e:a=y
  ·subst e;have hm:=h.2.2.1.resolve_left h0;obtain⟨A,q,e1,e2⟩:=h.2.2.2.from hm;rw[Rp,hy];refine⟨a1,⟨h.2.1.1,h.2.1.2.1,e2.2.1.2.2⟩,e2.2.2.1.imp id λz=>?_,ih⟩;grind
  grind[Rp]
structure Oth (b b':aA) (k k':List cR) (c c':Int->List Int) (J:Int->aH) (w:Int) (j':aH) (y z:Int):Prop where
 nod:∀x,kX b.Mem x->x % 32≠z->kX b'.Mem x/\(x≠y->dX b'.Mem x=dX b.Mem x)
 zo:z = -1\/ind b z=0\/∃x∈own (J w),x % 32=z
 yo:y=0\/y∈lI (J w)\/(∃i,HZ i/\(iD k i).gW=w+1/\y∈c i)/\dX b'.Mem y={dX b.Mem y with Next:=(dX b.Mem (dX b.Mem y).Next).Next}/\(dX b.Mem y).Next≠0
 hk:∀i,HZ i->(iD k i).gW≠w+1->(iD k' i).Head=(iD k i).Head/\c' i=c i
 zs:z = -1\/∀v,fQ v->v≠w->(J v).Pc=3\/(J v).Pc=4->mO b.aC v->∀x,kX b.Mem x->Sfe b J (b9 b.aC v).aE x->x % 32≠z
 lr:∀r∈bX b'.aM,r∈bX b.aM\/(J w).Pc=15/\(J w).K<(J w).cH.length/\(J w).Sub.A=r.Handle/\(J w).Sub.Pc=1/\(J w).Sub.E=r.aE
 no:∀x∈lI j',x∈lI (J w)\/dW b.Mem (x % 32)≠3
 sr:j'.Pc=15->j'.K<j'.cH.length->j'.Sub.Pc=1->j'.Sub.E=b.aC.aE\/(J w).Pc=15/\(J w).K<(J w).cH.length/\(J w).Sub.A=j'.Sub.A/\(J w).Sub.Pc=1/\(J w).Sub.E=j'.Sub.E
 pin:∀v,fQ v->v≠w->mO b'.aC v->mO b.aC v/\(b9 b'.aC v).aE=(b9 b.aC v).aE
 ep:b.aC.aE<=b'.aC.aE
 rows:∀v,fQ v->v≠w->bQ b'.aM v=bQ b.aM v
section
variable {Ky:List Int} {b b':aA} {k k':List cR} {c c':Int->List Int} {J:Int->aH} {q:Int->Nat} {w:Int} {j':aH} {y z:Int}
theorem Oth.sfe(o:Oth b b' k k' c c' J w j' y z)(hw:fQ w){e x:Int}(he:e<=b.aC.aE)(hx:kX b.Mem x)(h:Sfe b J e x):Sfe b' (wJ J w j') e x:=by
 refine⟨λr hr er=>?_,λv hv=>?_⟩
 ·rcases o.lr r hr with q|⟨q1,q2,q3,q4,q5⟩
  ·exact h.1 r q er
  ·have:=(h.2 w hw).2 q1 q2 (by rw[q3,er]) q4;omega
 ·by_cases q:v=w
  ·subst q;rw[LF];refine⟨λm=>(o.no x m).elim (h.2 v hv).1 λs=>s hx.1.2.1,λa1 a2 a3 a4=>?_⟩;rcases o.sr a1 a2 a4 with s|⟨s1,s2,s3,s4,s5⟩
   ·omega
   ·have:=(h.2 v hv).2 s1 s2 (by rw[s3,a3]) s4;omega
  ·rw[ZU _ _ q];exact h.2 v hv
variable (h:sQ Ky b k c q J) (hl:∀v,fQ v->LkJ k v (J v)) (hw:fQ w)
include h hw
theorem sQ.name{v x:Int}(hv:fQ v)(hx:x∈own (J v)):1<=csL (own (J v)) (x % 32)/\cnC c (x % 32)+cnO J (x % 32)=ind b (x % 32)/\csL (own (J v)) (x % 32)<=cnO J (x % 32)/\ind b (x % 32)<=1:=
 ⟨MD hx,h.cnt _,aZ8 J hv _,aHN ..⟩
theorem sQ.link{i x:Int}(hi:HZ i)(hx:x∈c i):1<=csL (c i) (x % 32)/\cnC c (x % 32)+cnO J (x % 32)=ind b (x % 32)/\csL (c i) (x % 32)<=cnC c (x % 32)/\ind b (x % 32)<=1:=
 ⟨MD hx,h.cnt _,bAH c hi _,aHN ..⟩
theorem PB{j:aH}{x:Int}(hx:x∈lI j):x∈own j:=aK8 _ hx
theorem Oth.own(o:Oth b b' k k' c c' J w j' y z){v x:Int}(hv:fQ v)(hn:v≠w)(hx:x∈own (J v)):kX b'.Mem x/\dX b'.Mem x=dX b.Mem x:=by
 have a:=h.name hw hv hx;have two:=bEN J hv hw hn (x % 32);have hz:x % 32≠z:=λe=>by
  rcases o.zo with q|q|⟨u,hu,eu⟩
  ·omega
  ·grind
  ·have:=h.name hw hw hu;grind
 have hy:x≠y:=λe=>by
  subst e;rcases o.yo with q|q|⟨⟨i,hi,_,hc⟩,_⟩
  ·exact(h.ok v hv x hx).ne q
  ·have:=h.name hw hw (PB h hw q);omega
  ·have:=h.link hw hi hc;omega
 obtain⟨r1,r2⟩:=o.nod x (h.ok v hv x hx) hz;grind
theorem Oth.chz(o:Oth b b' k k' c c' J w j' y z){i:Int}(hi:HZ i):∀x∈c i,kX b'.Mem x/\(x≠y->dX b'.Mem x=dX b.Mem x):=λx hx=>by
 have a:=h.link hw hi hx;refine o.nod x ((h.ch i hi).all x hx).1 λe=>?_;rcases o.zo with q|q|⟨u,hu,eu⟩
 ·omega
 ·grind
 ·have:=h.name hw hw hu;grind
theorem Oth.chn(o:Oth b b' k k' c c' J w j' y z){i:Int}(hi:HZ i)(hy:y∉c i):(∀x∈c i,kX b'.Mem x/\dX b'.Mem x=dX b.Mem x)/\((iD k' i).Head=(iD k i).Head->c' i=c i->ChT b'.Mem (iD k' i).Head (c' i)/\m6 b'.Mem (c' i)=m6 b.Mem (c i)):=by
 have all:∀x∈c i,kX b'.Mem x/\dX b'.Mem x=dX b.Mem x:=λx hx=>by obtain⟨a1,a2⟩:=o.chz h hw hi x hx;grind
 refine⟨all,λe1 e2=>?_⟩;rw[e1,e2];exact⟨(h.ch i hi).keep all,aHM λx hx=>by grind⟩
theorem Oth.yno(o:Oth b b' k k' c c' J w j' y z){i:Int}(hi:HZ i)(hn:(iD k i).gW≠w+1):y∉c i:=λhy=>by
 have a:=h.link hw hi hy;rcases o.yo with q|q|⟨⟨u,hu,hlk,hc⟩,_⟩
 ·exact((h.ch i hi).all y hy).1.ne q
 ·have:=h.name hw hw (PB h hw q);omega
 grind[aUB,MD]
theorem aOT{m:Mem}{j:aH}{q1:Nat}(t:TW Ky m k c q1 j)(hj:JB j)(hp:j.Pc=12\/j.Pc=13):IB j∈lI j/\∃r,lI j=IB j::r/\j.gO.drop ((fX j.aI j.K).toNat+1)=r:=by
 have hk:=t.k9 (by omega);have hd:=(t.fl hp).1;have hn:=(t.n7 (by omega)).1;have hk0:=hj.k.1;have hi:j.K.toNat<j.aI.length:=by omega
 have er:sU j=j.aI[j.K.toNat]:=by grind[sU]
 have hlt:fX j.aI j.K+1<=fX j.aI j.aI.length:=by unfold fX;rw[MR,List.take_length];grind[aBH,AG]
 have p0:0<=fX j.aI j.K:=by grind[fX]
 have hlen:(fX j.aI j.K).toNat<j.gO.length:=by omega
 have e1:lI j=j.gO.drop (fX j.aI j.K).toNat:=by unfold lI;grind
 grind[IB,AG]
include hl
theorem sQ.aR0{q':Int->Nat}(hq:∀v,v≠w->q' v=q v)(hc:JC b.aC)(hJ:∀v,fQ v->(J v).cO=true->JB (J v))(o:Oth b b' k k' c c' J w j' y z)(hz:b'.oR=b.oR)(ch':∀i,HZ i->ChT b'.Mem (iD k' i).Head (c' i))(key':∀i,HZ i->(m6 b'.Mem (c' i)).Nodup/\∀x∈m6 b'.Mem (c' i),oJ x=i/\x∈Ky)
  (cnt':∀s,cnC c' s+cnO (wJ J w j') s=ind b' s) (ok':∀x∈own j',kX b'.Mem x) (tw':j'.cO=true->TW Ky b'.Mem k' c' (q' w) j') (rd':RdJ Ky b' (wJ J w j') w (q' w) j') (sb':SbJ b' w j'):sQ Ky b' k' c' q' (wJ J w j'):=by
 refine⟨hz.trans h.hz,ch',key',cnt',λv hv x hx=>?_,λv hv hb=>?_,λv hv=>?_,λv hv=>?_⟩
 ·by_cases qv:v=w
  ·grind[LF]
  ·rw[ZU _ _ qv] at hx;exact(o.own h hw hv qv hx).1
 ·by_cases qv:v=w
  ·grind[LF]
  ·rw[ZU _ _ qv] at hb ⊢;rw[hq v qv];have t:=h.tw v hv hb;have hj:=hJ v hv hb;have held:∀i,i∈(J v).bI->HZ i/\(iD k' i).Head=(iD k i).Head/\c' i=c i/\∀x∈c i,dX b'.Mem x=dX b.Mem x:=λi hi=>by
    have hb2:=hj.held.1 i hi;have hlk:=((hl v hv).iff i hb2).1 hi;have hn:(iD k i).gW≠w+1:=by omega
    obtain⟨a1,a2⟩:=o.hk i hb2 hn;exact⟨hb2,a1,a2,λx hx=>((o.chn h hw hb2 (o.yno h hw hb2 hn)).1 x hx).2⟩
   have hbi:10<=(J v).Pc/\(J v).Pc<=13->bi (J v)∈(J v).bI:=λhp=>by
    have hk:=t.k9 hp;have hk0:=hj.k.1;have hi:(J v).K.toNat<(J v).aI.length:=by omega
    have er:sU (J v)=(J v).aI[(J v).K.toNat]:=by grind[sU]
    exact t.l8 (by omega) _ (by grind)
   refine{t with st:=λhp=>?_,cu:=λhp=>?_,fl:=λhp=>?_,ln:=λhp=>?_}
   ·obtain⟨_,_,e2,e3⟩:=held _ (hbi (by omega));obtain⟨A,B,x1,⟨x2,x3⟩,x4⟩:=t.st hp;grind
   ·obtain⟨_,_,e2,e3⟩:=held _ (hbi (by omega));obtain⟨A,B,x1,_⟩:=t.st (.inr hp);rw[e3 (J v).H (by grind)];exact t.cu hp
   ·obtain⟨_,_,e2,e3⟩:=held _ (hbi (by omega));obtain⟨x1,x2⟩:=t.fl hp;grind
   ·obtain⟨_,e1,e2,e3⟩:=held _ (hbi (by omega));rw[(o.own h hw hv qv (PB h hw (aOT h hw t hj (.inr hp)).1)).2,e1];exact t.ln hp
 ·by_cases qv:v=w
  ·grind[LF]
  ·rw[ZU _ _ qv,hq v qv];intro hp hpin;obtain⟨p1,p2⟩:=o.pin v hv qv hpin;obtain⟨r,⟨⟨a1,a2,a3,a4⟩,a6⟩,a5⟩:=h.rd v hv hp p1;have he:(b9 b.aC v).aE<=b.aC.aE:=(aN8 hc hv).1.2;have hx:∀x∈(J v).H::r,kX b'.Mem x/\(x≠y->dX b'.Mem x=dX b.Mem x):=λx hx=>by
    refine o.nod x (a1.ok x hx).1 λez=>?_;rcases o.zs with z1|z1
    ·omega
    ·exact z1 v hv qv hp p1 x (a1.ok x hx).1 (a4 x hx) ez
   have hsf:∀x∈(J v).H::r,Sfe b' (wJ J w j') (b9 b'.aC v).aE x:=λx hx=>by rw[p2];exact o.sfe hw he (a1.ok x hx).1 (a4 x hx)
   have hkv:∀x∈(J v).H::r,(dX b'.Mem x).Key=(dX b.Mem x).Key/\(dX b'.Mem x).eI=(dX b.Mem x).eI:=λx hm=>by
    by_cases e:x=y
    ·rcases o.yo with q0|q0|⟨_,q1,_⟩
     ·exact absurd (e.trans q0) (a1.ok x hm).1.ne
     ·exact absurd (e ▸ q0) ((a4 x hm).2 w hw).1
     grind
    grind
   have hkk:m6 b'.Mem ((J v).H::r)=m6 b.Mem ((J v).H::r):=aHM λx hm=>(hkv x hm).1;have hrp:Rp b'.Mem ((J v).H::r):=by
    by_cases hy:y∈(J v).H::r
    ·rcases o.yo with q0|q0|⟨_,q1,q2⟩
     ·exact absurd q0 (a1.ok y hy).1.ne
     ·exact absurd q0 ((a4 y hy).2 w hw).1
     ·exact a1.cut q1 q2 hx
    ·exact a1.keep λx hm=>⟨(hx x hm).1,(hx x hm).2 λe=>hy (e ▸ hm)⟩
   refine⟨r,⟨⟨hrp,by grind,by grind,hsf⟩,a6⟩,λe=>?_⟩;grind
 ·by_cases qv:v=w
  ·grind[LF]
  ·rw[ZU _ _ qv];have s:=h.sb v hv;have he:=o.ep;exact⟨s.al,λp1 p2=>by obtain⟨x0,x1,x2,x3,x4⟩:=s.rt p1 p2;grind,λp=>by rw[o.rows v hv qv];obtain⟨x1,x2,x3⟩:=s.col p;exact⟨x1,x2,x3.imp id λa=>⟨aK6 a.1 he,a.2⟩⟩⟩
theorem sQ.make(hc:JC b.aC)(hJ:∀v,fQ v->(J v).cO=true->JB (J v))(o:Oth b b' k k' c c' J w j' y z)(hz:b'.oR=b.oR)(ch':∀i,HZ i->ChT b'.Mem (iD k' i).Head (c' i))(key':∀i,HZ i->(m6 b'.Mem (c' i)).Nodup/\∀x∈m6 b'.Mem (c' i),oJ x=i/\x∈Ky)
  (cnt':∀s,cnC c' s+cnO (wJ J w j') s=ind b' s) (ok':∀x∈own j',kX b'.Mem x) (tw':j'.cO=true->TW Ky b'.Mem k' c' (q w) j') (rd':RdJ Ky b' (wJ J w j') w (q w) j') (sb':SbJ b' w j'):sQ Ky b' k' c' q (wJ J w j'):=
 h.aR0 hl hw (λ_ _=>rfl) hc hJ o hz ch' key' cnt' ok' tw' rd' sb'
end
theorem aZ9{b:aA}(hc:JC b.aC){w:Int}(hw:0<=w/\w<=2)(s:Sub):∃cl:aC,(AE b w s).1=⟨b.Mem,cl,b.aM,b.oR⟩/\cl.aE=b.aC.aE/\∀v,0<=v/\v<=2->v≠w->b9 cl v=b9 b.aC v:=by
 unfold AE R9;split
 ·grind
 split
 ·split
  ·refine⟨⟨b.aC.aE,b.aC.cQ.set w.toNat ⟨true,s.E,false,0⟩⟩,rfl,rfl,λv hv hn=>by rw[wI hc hw hv,aP hn]⟩
  ·exact⟨_,rfl,rfl,λ_ _ _=>rfl⟩
 split
 ·split
  ·exact⟨_,rfl,rfl,λ_ _ _=>rfl⟩
  ·exact⟨_,rfl,rfl,λ_ _ _=>rfl⟩
 grind
theorem aOU{c:aC}(hc:JC c){w:Int}(hw:0<=w/\w<=2):(D8 c w).1.aE=c.aE/\∀v,0<=v/\v<=2->v≠w->b9 (D8 c w).1 v=b9 c v:=by
 unfold D8;split
 ·exact⟨rfl,λv hv hn=>by rw[wI hc hw hv,aP hn]⟩
 ·exact⟨rfl,λ_ _ _=>rfl⟩
theorem aR1{c c':aC}{v:Int}(h:b9 c' v=b9 c v)(p:mO c' v):mO c v/\(b9 c' v).aE=(b9 c v).aE:=by grind[mO]
theorem aUC{b:aA}(hc:JC b.aC)(s:Sub):∃cl:aC,(cJ b s).1=⟨b.Mem,cl,b.aM,b.oR⟩/\b.aC.aE<=cl.aE/\∀v,0<=v/\v<=2->mO cl v->mO b.aC v/\(b9 cl v).aE=(b9 b.aC v).aE:=by
 unfold cJ;split
 ·grind
 split
 ·split
  ·grind[ZP,mO]
  grind
 split
 ·refine⟨_,rfl,?_,?_⟩
  ·unfold QU;grind
  ·intro v hv p;unfold QU at p ⊢;split
   ·rename_i q;rw[aL q] at p;exact⟨p,rfl⟩
   grind
 grind
section
variable {Ky:List Int} {b:aA} {k:List cR} {c:Int->List Int} {q:Int->Nat} {J:Int->aH} {w:Int} (h:sQ Ky b k c q J) (hl:∀v,fQ v->LkJ k v (J v)) (hw:fQ w) (hc:JC b.aC) (hJ:∀v,fQ v->(J v).cO=true->JB (J v))
include h hl hw hc hJ
theorem sQ.bAJ{q':Int->Nat}(hq:∀v,v≠w->q' v=q v){cl:aC}{k':List cR}{j':aH}(hk:∀i,HZ i->(iD k' i).Head=(iD k i).Head)(eo:own j'=own (J w))(en:∀x∈lI j',x∈lI (J w))
  (sr:j'.Pc=15->j'.K<j'.cH.length->j'.Sub.Pc=1->j'.Sub.E=b.aC.aE\/(J w).Pc=15/\(J w).K<(J w).cH.length/\(J w).Sub.A=j'.Sub.A/\(J w).Sub.Pc=1/\(J w).Sub.E=j'.Sub.E)
  (pin:∀v,fQ v->v≠w->mO cl v->mO b.aC v/\(b9 cl v).aE=(b9 b.aC v).aE) (ep:b.aC.aE<=cl.aE)
  (tw':j'.cO=true->TW Ky b.Mem k' c (q' w) j') (rd':RdJ Ky {b with aC:=cl} (wJ J w j') w (q' w) j') (sb':SbJ {b with aC:=cl} w j'):sQ Ky {b with aC:=cl} k' c q' (wJ J w j'):=by
 refine h.aR0 hl hw hq hc hJ (y:=0) (z:=-1) ⟨λx hx _=>⟨hx,λ_=>rfl⟩,.inl rfl,.inl rfl,λi hi _=>⟨hk i hi,rfl⟩,.inl rfl,λr hr=>.inl hr,λx hx=>.inl (en x hx),sr,pin,ep,λ_ _ _=>rfl⟩ rfl (λi hi=>by rw[hk i hi];exact h.ch i hi) h.key (λs=>?_) (λx hx=>h.ok w hw x (eo ▸ hx)) tw' rd' sb';have:=ZV (J:=J) hw j' s;rw[eo] at this;have h2:=h.cnt s;grind[ind]
theorem sQ.quiet{cl:aC}{k':List cR}{j':aH}(hk:∀i,HZ i->(iD k' i).Head=(iD k i).Head)(eo:own j'=own (J w))(en:∀x∈lI j',x∈lI (J w))
  (sr:j'.Pc=15->j'.K<j'.cH.length->j'.Sub.Pc=1->j'.Sub.E=b.aC.aE\/(J w).Pc=15/\(J w).K<(J w).cH.length/\(J w).Sub.A=j'.Sub.A/\(J w).Sub.Pc=1/\(J w).Sub.E=j'.Sub.E)
  (pin:∀v,fQ v->v≠w->mO cl v->mO b.aC v/\(b9 cl v).aE=(b9 b.aC v).aE) (ep:b.aC.aE<=cl.aE)
  (tw':j'.cO=true->TW Ky b.Mem k' c (q w) j') (rd':RdJ Ky {b with aC:=cl} (wJ J w j') w (q w) j') (sb':SbJ {b with aC:=cl} w j'):sQ Ky {b with aC:=cl} k' c q (wJ J w j'):=
 h.bAJ hl hw hc hJ (λ_ _=>rfl) hk eo en sr pin ep tw' rd' sb'
theorem sQ.aUD{q':Int->Nat}(hq:∀v,v≠w->q' v=q v){k':List cR}{j':aH}(hk:∀i,HZ i->(iD k' i).Head=(iD k i).Head)(eo:own j'=own (J w))(en:∀x∈lI j',x∈lI (J w))(h15:j'.Pc≠15\/j'.Sub.Pc≠1)(tw':j'.cO=true->TW Ky b.Mem k' c (q' w) j')(rd':RdJ Ky b J w (q' w) j')(sb':SbJ b w j'):sQ Ky b k' c q' (wJ J w j'):=
 h.bAJ hl hw hc hJ hq (cl:=b.aC) hk eo en (λp _ q=>h15.elim (λa=>absurd p a) λa=>absurd q a) (λ_ _ _ p=>⟨p,rfl⟩) (H6 _) tw' (λp q=>by
  obtain⟨r,⟨a,la⟩,e⟩:=rd' p q;exact⟨r,⟨⟨a.rp,a.nd,a.ky,λx hx=>⟨(a.sf x hx).1,λv hv=>by
   by_cases z:v=w
   ·subst z;rw[LF];exact⟨λm=>((a.sf x hx).2 v hv).1 (en x m),λp1 _ _ p2=>(h15.elim (λa=>absurd p1 a) λa=>absurd p2 a)⟩
   ·rw[ZU _ _ z];exact(a.sf x hx).2 v hv⟩⟩,la⟩,e⟩) sb'
theorem sQ.still{k':List cR}{j':aH}(hk:∀i,HZ i->(iD k' i).Head=(iD k i).Head)(eo:own j'=own (J w))(en:∀x∈lI j',x∈lI (J w))(h15:j'.Pc≠15\/j'.Sub.Pc≠1)(tw':j'.cO=true->TW Ky b.Mem k' c (q w) j')(rd':RdJ Ky b J w (q w) j')(sb':SbJ b w j'):sQ Ky b k' c q (wJ J w j'):=
 h.aUD hl hw hc hJ (λ_ _=>rfl) hk eo en h15 tw' rd' sb'
end
theorem RdJ.no{Ky:List Int}{b:aA}{J:Int->aH}{v:Int}{q:Nat}{j:aH}(h:j.Pc≠3/\j.Pc≠4):RdJ Ky b J v q j:=λp=>absurd p (by omega)
theorem SbJ.no{b:aA}{v:Int}{j:aH}(h:j.Pc≠6/\j.Pc≠15/\j.Pc≠21):SbJ b v j:=⟨λp=>absurd p h.1,λp=>absurd p h.2.1,λp=>absurd p h.2.2⟩
theorem H0{j:aH}(h:j.Pc<6\/18<=j.Pc):own j=[]/\lI j=[]:=by unfold own lI aHL;grind
theorem uK{j:aH}(h:(6<=j.Pc/\j.Pc<=8)\/j.Pc=16\/j.Pc=17):own j=j.gO/\lI j=j.gO:=by unfold own lI aHL;grind
theorem aFQ(l:List aW)(x:aW):(MP l x).length<=l.length+1:=by
 have e:(MP l x).length=(l.filter λy=>!(y.Key == x.Key)).length+1:=by unfold MP;have:=cB List.length (List.takeWhile_append_dropWhile (p:=λy=>!decide (x.Key<y.Key)) (l:=l.filter λy=>!(y.Key == x.Key)));grind
 grind
theorem aW5{l:List aW}{x y:aW}(h:y∈MP l x):y=x\/y∈l:=((aOF _ _ _).1 (show y∈aT1 _ x from h)).imp id λh=>(List.mem_filter.1 h).1
theorem a3A{j:aH}(hj:JB j)(hc:CJ j):fP j∈j.Batch.bW:=by have:=hj.at_;grind[CJ,fP]
theorem a0A{Ky:List Int}{k:List cR}{c:Int->List Int}{m:Mem}{q1:Nat}{j:aH}(t:TW Ky m k c q1 j)(hj:JB j)(hp:1<=j.Pc/\j.Pc<=5)(ha:CJ j)(v:Int)(is:Bool):TW Ky m k c q1 (JF j (fP j) v is)/\(JF j (fP j) v is).Pc=1:=by
 have hm:=a3A hj ha;have h6:=hj.bat.2.1;have hat:=hj.at_;unfold CJ at ha;obtain⟨t1,t2,t3,t4,t5,t6,t7,t8,t9,t10,t11,t12,t13,t14,t15,t16,t17,t18,t19⟩:=t;have w5:=t5;unfold JF;split
 ·generalize (if is then v else 0)=u;unfold aHH zE;have hlen:=aFQ j.aI ⟨(fP j).Key,false,XO u (fP j).eI⟩;have hmem:∀y∈MP j.aI ⟨(fP j).Key,false,XO u (fP j).eI⟩,y.Key∈Ky:=λy hy=>by grind[aW5]
  rw[aP (show ¬6<(MP j.aI ⟨(fP j).Key,false,XO u (fP j).eI⟩).length by omega),aL rfl];unfold aA8;refine⟨?_,rfl⟩;constructor<;>grind
 ·unfold aA8;refine⟨?_,rfl⟩;constructor<;>grind
section
variable {Ky:List Int} {b:aA} {k:List cR} {c:Int->List Int} {q:Int->Nat} {J:Int->aH} {w:Int} (h:sQ Ky b k c q J) (hl:∀v,fQ v->LkJ k v (J v)) (hw:fQ w) (hc:JC b.aC) (hJ:∀v,fQ v->(J v).cO=true->JB (J v)) (hB:(J w).cO=true)
include h hl hw hc hJ hB
theorem bIV(hp:(J w).Pc=8):sQ Ky b k c q (wJ J w (XP k w (J w))):=by
 obtain⟨t1,t2,t3,t4,t5,t6,t7,t8,t9,t10,t11,t12,t13,t14,t15,t16,t17,t18,t19⟩:=h.tw w hw hB;have o:=uK (j:=J w) (by omega);have p0:fX (J w).aI 0=0:=by simp[fX]
 unfold XP;split
 ·refine h.still hl hw hc hJ (λ_ _=>rfl) ?_ ?_ (.inl (by simp)) (λ_=>?_) (.no (by simp)) (.no (by simp))
  ·simp_all[own,lI,aHL]
  ·grind[lI]
  ·constructor<;>grind
 ·split
  ·refine h.still hl hw hc hJ (λ_ _=>rfl) ?_ ?_ (.inl (by simp[A7])) (λ_=>?_) (.no (by simp[A7])) (.no (by simp[A7]))
   ·simp_all[own,lI,aHL,A7]
   ·grind[lI,A7]
   ·constructor<;>grind[A7]
  ·refine h.still hl hw hc hJ (λ_ _=>rfl) ?_ ?_ (.inl (by simp[hp])) (λ_=>?_) (.no (by simp[hp])) (.no (by simp[hp]))
   ·simp_all[own,lI,aHL]
   ·grind[lI]
   ·constructor<;>grind
theorem bEP(hp:(J w).Pc=1):sQ Ky b k c q (wJ J w (VM (J w))):=by
 have t:=h.tw w hw hB;have hj:=hJ w hw hB;have o:=H0 (j:=J w) (by omega);have fin:∀{j':aH},TW Ky b.Mem k c (q w) j'->j'.Pc=1\/j'.Pc=2->sQ Ky b k c q (wJ J w j'):=λ{j'} t' p'=>by have o':=H0 (j:=j') (by omega);exact h.still hl hw hc hJ (λ_ _=>rfl) (by grind) (by grind) (.inl (by omega)) (λ_=>t') (.no (by omega)) (.no (by omega))
 unfold VM;split
 ·rename_i ha;split
  ·have hm:=a3A hj ha;have h6:=hj.bat.2.1;have hat:=hj.at_;unfold CJ at ha;obtain⟨t1,t2,t3,t4,t5,t6,t7,t8,t9,t10,t11,t12,t13,t14,t15,t16,t17,t18,t19⟩:=t;have w5:=t5;unfold zE;have hlen:=aFQ (J w).aI ⟨(fP (J w)).Key,(fP (J w)).Kind == 3,(fP (J w)).eI⟩;have hmem:∀y∈MP (J w).aI ⟨(fP (J w)).Key,(fP (J w)).Kind == 3,(fP (J w)).eI⟩,y.Key∈Ky:=λy hy=>by grind[aW5]
   rw[aP (show ¬6<(MP (J w).aI ⟨(fP (J w)).Key,(fP (J w)).Kind == 3,(fP (J w)).eI⟩).length by omega),aL rfl];refine fin ?_ (.inl hp);constructor<;>grind
  ·split
   ·grind[a0A]
   ·refine fin ?_ (.inr rfl);obtain⟨t1,t2,t3,t4,t5,t6,t7,t8,t9,t10,t11,t12,t13,t14,t15,t16,t17,t18,t19⟩:=t;constructor<;>grind[CJ]
 ·rename_i ha;have hat:=hj.at_;have e:own {J w with Pc:=6,K:=0,Sub:=AF 1 16}=[]:=by rw[(uK (by simp)).1];exact t.nO (by omega)
  refine h.still hl hw hc hJ (λ_ _=>rfl) (by rw[o.1,e]) (by grind[uK]) (.inl (by simp)) (λ_=>?_) (.no (by simp)) ⟨λ_=>by simp[AF],by simp,by simp⟩;obtain⟨t1,t2,t3,t4,t5,t6,t7,t8,t9,t10,t11,t12,t13,t14,t15,t16,t17,t18,t19⟩:=t;have p0:0<=fX (J w).aI (J w).aI.length:=by grind[fX]
  unfold CJ at ha;constructor<;>grind
end
theorem a0B{m:Mem}{x:Int}(h:kX m x):ZN m.Heap x=dX m x:=aL ⟨h.1.1,dL h.1.2.1,h.2⟩
def qF(L q:Nat)(j:aH):Nat:=if j.Pc=2\/j.Pc=9 then L-1 else if j.Pc=4\/j.Pc=10 then q-1 else q
theorem bEQ{l:List aW}{x:aW}(h:x∈l)(hk:0<=x.Key/\x.Key<=99):oJ x.Key∈qX l:=by
 have:oJ x.Key=0/\(l.any λx=>x.Key % 2 == 0)=true\/oJ x.Key=1/\(l.any λx=>x.Key % 2 == 1)=true:=by unfold oJ;grind
 grind[qX]
section
variable {Ky:List Int} {b:aA} {k:List cR} {c:Int->List Int} {q:Int->Nat} {J:Int->aH} {w:Int} (h:sQ Ky b k c q J)
include h
theorem sQ.free{i:Int}(hi:HZ i){x:Int}(hx:x∈c i)(e:Int):Sfe b J e x:=by
 have hn:=((h.ch i hi).all x hx).1.1.1;have a:=MD hx;have a2:=h.cnt (x % 32);have a3:=bAH c hi (x % 32);refine⟨λr hr er=>?_,λv hv=>⟨λm=>?_,λp1 p2 p3 p4=>?_⟩⟩
 ·have:ind b (x % 32)=0:=aP λq=>q.2 ⟨r,hr,er ▸ hn,by rw[er]⟩;omega
 ·have:=MD (PB h hv m);grind[aZ8,aHN]
 ·obtain⟨hk,_,_,hs,_⟩:=(h.sb v hv).rt p1 p2;have hm:x∈own (J v):=aK9 _ (by
   simp_all[aHL,AG])
  have:=MD hm;grind[aZ8,aHN]
variable (hl:∀v,fQ v->LkJ k v (J v)) (hw:fQ w) (hc:JC b.aC) (hJ:∀v,fQ v->(J v).cO=true->JB (J v)) (hB:(J w).cO=true)
include hl hw hc hJ hB
theorem bAK{n:Nat}{j':aH}(hp:2<=(J w).Pc/\(J w).Pc<=5)(e:j'=A7 j' j'.Code)(x:j'.Code=6\/j'.Code=7)(sm:j'.gO=(J w).gO/\j'.cH=(J w).cH/\j'.aI=(J w).aI/\j'.Batch=(J w).Batch/\j'.At=(J w).At):sQ Ky b k c (upQ q w n) (wJ J w j'):=by
 have t:=h.tw w hw hB;have hp':j'.Pc=16:=by rw[e];rfl
 have o:=H0 (j:=J w) (by omega);obtain⟨t1,t2,t3,t4,t5,t6,t7,t8,t9,t10,t11,t12,t13,t14,t15,t16,t17,t18,t19⟩:=t;have o':=uK (j:=j') (by omega);refine h.aUD hl hw hc hJ (q':=upQ q w n) (λv hv=>aP hv) (λ_ _=>rfl) (by grind) (by grind) (.inl (by omega)) (λ_=>?_) (.no (by omega)) (.no (by omega));obtain⟨s1,s2,s3,s4,s5⟩:=sm;constructor<;>grind
theorem bER(hp:2<=(J w).Pc/\(J w).Pc<=5):sQ Ky b k c (upQ q w (qF Ky.length (q w) (J w))) (wJ J w (IN b k w (J w))):=by
 have t:=h.tw w hw hB;have hj:=hJ w hw hB;have o:=H0 (j:=J w) (by omega);have ha:=t.hc hp;generalize hn:qF Ky.length (q w) (J w)=n;have ab:∀(j':aH),j'.gO=(J w).gO/\j'.cH=(J w).cH/\j'.aI=(J w).aI/\j'.Batch=(J w).Batch/\j'.At=(J w).At->∀x,x=6\/x=7->sQ Ky b k c (upQ q w n) (wJ J w (A7 j' x)):=λj' s x hx=>bAK h hl hw hc hJ hB (j':=A7 j' x) hp rfl hx s;have go:∀{j':aH},TW Ky b.Mem k c n j'->j'.Pc<=5->RdJ Ky b J w n j'->sQ Ky b k c (upQ q w n) (wJ J w j'):=λ{j'} t' p' r'=>by have o':=H0 (j:=j') (by omega);exact h.aUD hl hw hc hJ (q':=upQ q w n) (λv hv=>aP hv) (λ_ _=>rfl) (by grind) (by grind) (.inl (by omega)) (λ_=>by simp_all[upQ]) (by simp_all[upQ]) (.no (by omega))
 have tw:∀{j':aH},2<=j'.Pc/\j'.Pc<=5->j'.gO=(J w).gO/\j'.cH=(J w).cH/\j'.aI=(J w).aI/\j'.Batch=(J w).Batch/\j'.At=(J w).At/\j'.Code=(J w).Code->TW Ky b.Mem k c n j':=λ{j'} p' ⟨s1,s2,s3,s4,s5,s6⟩=>by obtain⟨t1,t2,t3,t4,t5,t6,t7,t8,t9,t10,t11,t12,t13,t14,t15,t16,t17,t18,t19⟩:=t;unfold CJ at ha;constructor<;>grind[CJ]
 have hbk:=hj.bkt;unfold IN;by_cases p2:(J w).Pc=2
 ·rw[aL p2];split
  ·grind
  ·have hch:=h.ch _ hbk;by_cases q:(iD k (J w).cR).Head=0
   ·rw[aL q];exact go (tw (by simp) ⟨rfl,rfl,rfl,rfl,rfl,rfl⟩) (by simp) (.no (by simp))
   ·rw[aP q];refine go (tw (by simp) ⟨rfl,rfl,rfl,rfl,rfl,rfl⟩) (by simp) λ_ hpin=>?_;obtain⟨k1,k2⟩:=h.key _ hbk;have fr:=λx (hx:x∈c (J w).cR)=>h.free hbk hx (b9 b.aC w).aE
    match hl2:c (J w).cR,hch with
    |[],hch=>exact absurd hch q
    |x::r,hch=>
     rw[hl2] at k1 k2 fr;have e:(iD k (J w).cR).Head=x:=hch.1;simp only[e];refine⟨r,⟨⟨hch.rp,k1,λy hy=>(k2 y hy).2,fr⟩,?_⟩,λz=>absurd z (by simp)⟩;have:=ED k1 λy hy=>(k2 y hy).2;unfold m6 at this;rw[List.length_map,BC] at this;rw[<-hn];unfold qF;grind
 rw[aP p2];by_cases p3:(J w).Pc=3
 ·rw[aL p3];refine go (tw (by simp) ⟨rfl,rfl,rfl,rfl,rfl,rfl⟩) (by simp) λ_ hpin=>?_;obtain⟨r,⟨a,la⟩,_⟩:=h.rd w hw (.inl p3) hpin;refine⟨r,⟨a,by simp_all[qF]⟩,λ_=>?_⟩;simp only;rw[a0B a.rp.1];exact⟨⟨rfl,rfl⟩,a.rp.2.2.1⟩
 rw[aP p3];by_cases p4:(J w).Pc=4
 ·rw[aL p4];split
  ·grind
  ·rename_i hpn;have hpin:mO b.aC w:=Classical.byContradiction hpn;obtain⟨r,⟨a,la⟩,a5⟩:=h.rd w hw (.inr p4) hpin;obtain⟨_,a6⟩:=a5 p4;by_cases q:(J w).Node.Key=(fP (J w)).Key\/TZ (J w).Node=0
   ·rw[aL q];exact go (tw (by simp) ⟨rfl,rfl,rfl,rfl,rfl,rfl⟩) (by simp) (.no (by simp))
   ·rw[aP q];refine go (tw (by simp) ⟨rfl,rfl,rfl,rfl,rfl,rfl⟩) (by simp) λ_ _=>?_;have hs:TZ (J w).Node=(J w).Node.Next:=by simp_all[TZ]
    rw[hs] at q ⊢;have hm:=a6.resolve_left λz=>q (.inr z);obtain⟨A,r',e1,e2⟩:=a.rp.2.2.2.from hm;have hsub:((J w).Node.Next::r').Sublist ((J w).H::r):=by grind
    refine⟨r',⟨⟨e2,a.nd.sublist (hsub.map _),λx hx=>a.ky x ((hsub.map _).subset hx),λx hx=>a.sf x (hsub.subset hx)⟩,?_⟩,λz=>absurd z (by simp)⟩;rw[e1,BA,BC] at la;rw[<-hn];unfold qF;grind
 rw[aP p4];split
 ·grind
 split
 ·grind
 have tr:TW Ky b.Mem k c n {J w with Reads:=(IM (J w).Reads (J w).cR (J w).kC).1}:=tw hp ⟨rfl,rfl,rfl,rfl,rfl,rfl⟩;obtain⟨a1,a2⟩:=a0A tr (hj.spt _ _ hbk) (by grind) ha (J w).Node.eI (J w).Found;exact go a1 (aK6 (Int.le_of_eq a2) (by omega)) (.no ⟨λz=>absurd (a2.symm.trans z) (by omega),λz=>absurd (a2.symm.trans z) (by omega)⟩)
theorem bES(h2:k.length=2)(hp:(J w).Pc=7):sQ Ky b (O9 k w (J w)).1 c q (wJ J w (O9 k w (J w)).2.1):=by
 have t:=h.tw w hw hB;have hj:=hJ w hw hB;have o:=uK (j:=J w) (by omega);have hk:=hj.k;have hwk:=hj.wr.2.1;have all:∀x∈(J w).aI,oJ x.Key∈qX (J w).aI:=λx hx=>bEQ hx (hwk x hx).1;obtain⟨t1,t2,t3,t4,t5,t6,t7,t8,t9,t10,t11,t12,t13,t14,t15,t16,t17,t18,t19⟩:=t;have fin:∀{k':List cR} {j':aH},(∀i,HZ i->(iD k' i).Head=(iD k i).Head)->TW Ky b.Mem k' c (q w) j'->j'.gO=(J w).gO->j'.Pc=7\/j'.Pc=8\/j'.Pc=16->sQ Ky b k' c q (wJ J w j'):=λ{k' j'} e t' en p'=>by have o':=uK (j:=j') (by omega);exact h.still hl hw hc hJ e (by grind) (by grind) (.inl (by omega)) (λ_=>t') (.no (by omega)) (.no (by omega))
 unfold O9;by_cases c1:(J w).K<(qX (J w).aI).length
 ·rw[aL c1];have hi:(J w).K.toNat<(qX (J w).aI).length:=by omega
  have er:gJ (J w)=(qX (J w).aI)[(J w).K.toNat]:=by grind[gJ]
  have hbk:0<=gJ (J w)/\gJ (J w)<=1:=by have:=ZG (dJ hi);omega
  split
  ·exact fin (λ_ _=>rfl) (by unfold A7;constructor<;>grind) rfl (.inr (.inr rfl))
  split
  ·exact fin (λ_ _=>rfl) (by unfold A7;constructor<;>grind) rfl (.inr (.inr rfl))
  have hd:∀i,HZ i->(iD (k.set (gJ (J w)).toNat {iD k (gJ (J w)) with gW:=w+1}) i).Head=(iD k i).Head:=λi hi=>by grind[QW]
  have hm:∀x∈(qX (J w).aI).take ((J w).K+1).toNat,x∈(PN (J w)).bI:=λx hx=>by rw[show((J w).K+1).toNat=(J w).K.toNat+1 by omega,MF hi,eD,IC,<-er] at hx;have a:=t8 hp;unfold PN;grind
  split
  ·rename_i c3;refine fin hd ?_ rfl (.inr (.inl rfl));rw[aHU (by omega)] at hm;have hh:∀x∈(J w).aI,oJ x.Key∈(PN (J w)).bI:=λx hx=>hm _ (all x hx);unfold PN at hh ⊢;constructor<;>grind
  ·refine fin hd ?_ rfl (.inl hp);unfold PN at hm ⊢;constructor<;>grind
 ·rw[aP c1];refine fin (λ_ _=>rfl) ?_ rfl (.inr (.inl rfl));have a:=t8 hp;rw[aHU (by omega)] at a;constructor<;>grind
theorem a5F(h2:k.length=2)(hp:(J w).Pc=14\/(J w).Pc=16):sQ Ky b (PA k (J w)).1 c q (wJ J w (PA k (J w)).2):=by
 have t:=h.tw w hw hB;have hj:=hJ w hw hB;have hk:=hj.k;have tw:∀{k':List cR} {p:Int} {j':aH},(p=(J w).Pc\/p=17/\(J w).Pc=16\/p=15/\(J w).Pc=14)->j'.Pc=p->j'.gO=(J w).gO/\j'.cH=(J w).cH/\j'.aI=(J w).aI/\j'.Batch=(J w).Batch/\j'.At=(J w).At/\j'.Code=(J w).Code->TW Ky b.Mem k' c (q w) j':=λ{k' p j'} hp' ep ⟨s1,s2,s3,s4,s5,s6⟩=>by
  have q:j'.Pc=14\/j'.Pc=15\/j'.Pc=16\/j'.Pc=17:=by omega
  have cd':j'.Code=0/\j'.Pc≠16/\j'.Pc≠17\/(j'.Code=3\/j'.Code=6\/j'.Code=7)/\16<=j'.Pc/\j'.Pc<=19:=by have:=t.cd;omega
  refine⟨by omega,λx=>by omega,λx=>by rw[s2];exact t.oO (by omega),λx=>by omega,by rw[s3,s5];exact t.wl,λx=>by omega,λx=>by omega,λx=>by omega,λx=>by omega,λx=>by omega,λx=>by omega,λx=>by omega,λx=>by omega,λx=>by omega,cd',λx _=>by rw[s5,s4];exact t.at_ (by omega) (by omega),λx=>?_,λx=>by omega,by rw[s3,s4];exact t.ky⟩;have:=t.cl (by rw[<-s4];exact x);omega
 unfold PA;by_cases c1:0<(J w).bI.length
 ·rw[aL c1];have er:CM (J w)=(J w).bI[0]:=by unfold CM;simp[EE,jK c1]
  have hbk:=hj.held.1 _ (show CM (J w)∈(J w).bI by rw[er];exact dJ c1);refine h.still hl hw hc hJ (λi hi=>?_) rfl (λ_ x=>x) (.inl ?_) (λ_=>tw (.inl rfl) rfl ⟨rfl,rfl,rfl,rfl,rfl,rfl⟩) (.no (by simp only;omega)) (.no (by simp only;omega))
  ·rw[QW h2 hbk hi];split
   ·rename_i e;subst e;split<;>rfl
   ·rfl
  ·simp only;omega
 ·rw[aP c1];split
  ·rename_i e;exact h.still hl hw hc hJ (λ_ _=>rfl) (by grind[uK]) (by simp_all[uK]) (.inl (by simp)) (λ_=>tw (.inr (.inl ⟨rfl,e⟩)) rfl ⟨rfl,rfl,rfl,rfl,rfl,rfl⟩) (.no (by simp)) (.no (by simp))
  ·rename_i e;have p14:(J w).Pc=14:=by omega
   have o14:own (J w)=(J w).cH/\lI (J w)=[]:=by grind[own,lI,aHL]
   have fin:∀s:Sub,TW Ky b.Mem k c (q w) {J w with Pc:=15,K:=0,Sub:=s}:=λs=>tw (.inr (.inr ⟨rfl,p14⟩)) rfl ⟨rfl,rfl,rfl,rfl,rfl,rfl⟩;unfold SB;by_cases q:(0:Int)<(J w).cH.length
   ·rw[aL q];exact h.still hl hw hc hJ (λ_ _=>rfl) (by grind[own,lI,aHL]) (by simp[lI]) (.inr (by simp[AF])) (λ_=>fin _) (.no (by simp)) ⟨λp=>absurd p (by simp),λ_ _=>⟨H6 _,rfl,rfl,rfl,.inl rfl⟩,λp=>absurd p (by simp)⟩
   ·rw[aP q];exact h.quiet hl hw hc hJ (cl:=b.aC) (λ_ _=>rfl) (by grind[own,lI,aHL]) (by simp[lI]) (λ_ y=>absurd y q) (λ_ _ _ p=>⟨p,rfl⟩) (H6 _) (λ_=>fin _) (.no (by simp)) ⟨λp=>absurd p (by simp),λ_ y=>absurd y q,λp=>absurd p (by simp)⟩
theorem aAN{cl:aC}{j':aH}(hp:(J w).Pc<6\/18<=(J w).Pc)(hp':(j'.Pc<6\/18<=j'.Pc)/\j'.Pc≠3/\j'.Pc≠4)(pin:∀v,fQ v->v≠w->mO cl v->mO b.aC v/\(b9 cl v).aE=(b9 b.aC v).aE)(ep:b.aC.aE<=cl.aE)
  (tw':j'.cO=true->TW Ky b.Mem k c (q w) j') (col:j'.Pc=21->bEO cl.aE (bQ b.aM w) j'.Sub):sQ Ky {b with aC:=cl} k c q (wJ J w j'):=by
 have o:=H0 hp;have o':=H0 hp'.1;exact h.quiet hl hw hc hJ (λ_ _=>rfl) (by grind) (by grind) (λp=>by omega) pin ep tw' (.no (by omega)) ⟨λp=>by omega,λp=>by omega,col⟩
theorem bAL(hp:(J w).Pc=18):sQ Ky {b with aC:=(D8 b.aC w).1} k c q (wJ J w {J w with Pc:=19}):=by obtain⟨e1,e2⟩:=aOU hc hw;refine aAN h hl hw hc hJ hB (by omega) (by simp) (λv hv hn p=>aR1 (e2 v hv hn) p) (by omega) (λ_=>?_) (by simp);obtain⟨t1,t2,t3,t4,t5,t6,t7,t8,t9,t10,t11,t12,t13,t14,t15,t16,t17,t18,t19⟩:=h.tw w hw hB;constructor<;>grind
theorem a3B(hp:(J w).Pc=19):sQ Ky b k c q (wJ J w dA):=
 aAN h hl hw hc hJ hB (cl:=b.aC) (by omega) (by simp[dA]) (λ_ _ _ p=>⟨p,rfl⟩) (H6 _) (λq=>by cases q) (by simp[dA])
theorem bAM(hp:(J w).Pc=0){j':aH}(hj:j'={J w with Sub:=(AE b w (J w).Sub).2}\/j'={J w with Pc:=1,Sub:=(AE b w (J w).Sub).2}):sQ Ky (AE b w (J w).Sub).1 k c q (wJ J w j'):=by obtain⟨cl,e,e1,e2⟩:=aZ9 hc hw (J w).Sub;rw[e];refine aAN h hl hw hc hJ hB (by omega) (by grind) (λv hv hn p=>aR1 (e2 v hv hn) p) (by omega) (λ_=>?_) (by grind);obtain⟨t1,t2,t3,t4,t5,t6,t7,t8,t9,t10,t11,t12,t13,t14,t15,t16,t17,t18,t19⟩:=h.tw w hw hB;rcases hj with rfl|rfl<;>constructor<;>grind
theorem bAN(hp:(J w).Pc=20){j':aH}(hj:j'={J w with Sub:=(cJ b (J w).Sub).2}\/j'={J w with Pc:=21,Sub:=AF 4 0}):sQ Ky (cJ b (J w).Sub).1 k c q (wJ J w j'):=by obtain⟨cl,e,e1,e2⟩:=aUC hc (J w).Sub;rw[e];refine aAN h hl hw hc hJ hB (by omega) (by grind) (λv hv hn p=>e2 v hv p) e1 (λ_=>?_) (by grind[bEO,AF]);obtain⟨t1,t2,t3,t4,t5,t6,t7,t8,t9,t10,t11,t12,t13,t14,t15,t16,t17,t18,t19⟩:=h.tw w hw hB;rcases hj with rfl|rfl<;>constructor<;>grind
omit hB in
theorem aW6(hn:J w=dA){x:Batch}(hx:∀q∈x.bW,q.Key∈Ky)(s:Int):sQ Ky b k c q (wJ J w (lB x s)):=by
 have o:own (J w)=[]/\lI (J w)=[]:=H0 (by rw[hn];exact .inl (by decide));have p':(lB x s).Pc=0\/(lB x s).Pc=20:=by grind[lB]
 have o':=H0 (j:=lB x s) (by omega);refine h.still hl hw hc hJ (λ_ _=>rfl) (by grind) (by grind) (.inl (by omega)) (λ_=>?_) (.no (by omega)) (.no (by omega));unfold lB at p' ⊢;constructor<;>grind
end
theorem aAO{m:Mem}{h g:Int}(a:mN m h)(b:mN m g)(e:h % 32=g % 32):h=g:=by have h1:=a.2.2;have h2:=b.2.2;grind
theorem aOV{l:List bN}(hl:qV l){w:Int}(hw:fQ w):∃A B,bX l=A++(bQ l w++B)/\∀r,bX (l.set w.toNat ⟨r⟩)=A++(r++B):=by
 have h3:=hl.1;have kx:w.toNat<l.length:=by omega
 have hrow:l[w.toNat].Rows=bQ l w:=by have:=O8 hl hw;grind[gX]
 exact⟨_,_,by grind[LA],λr=>NX kx _⟩
theorem VR{l:List bN}(h3:l.length=3){w v:Int}(hw:fQ w)(hv:fQ v)(hn:v≠w)(x:bN):bQ (l.set w.toNat x) v=bQ l v:=by unfold bQ;grind
theorem bIW{b:aA}{s:Int}(h1:dW b.Mem s=3)(h2:¬bI b.aM s):ind b s=1:=aL ⟨h1,h2⟩
theorem VT{b:aA}{s:Int}(h:dW b.Mem s≠3\/bI b.aM s):ind b s=0:=aP λq=>h.elim (λa=>a q.1) q.2
theorem aOW{b b':aA}{s:Int}(h1:dW b'.Mem s=3↔dW b.Mem s=3)(h2:bI b'.aM s↔bI b.aM s):ind b' s=ind b s:=by grind[ind]
section
variable {Ky:List Int} {b:aA} {k:List cR} {c:Int->List Int} {q:Int->Nat} {J:Int->aH} {w:Int} (h:sQ Ky b k c q J) (hl:∀v,fQ v->LkJ k v (J v)) (hw:fQ w) (hb:kW b) (hJ:∀v,fQ v->(J v).cO=true->JB (J v)) (hB:(J w).cO=true)
include h hl hw hb hJ hB
theorem bAO(hp:(J w).Pc=6):sQ Ky (HY b w (J w)).1 k c q (wJ J w (HY b w (J w)).2):=by
 have t:=h.tw w hw hB;have hj:=hJ w hw hB;have hc:=hb.1.2.1;have o:=uK (j:=J w) (by omega);obtain⟨s1,s2,s3,s4⟩:=(h.sb w hw).al hp;have hk:=hj.k;have hn6:=t.n6 hp;have pl:=T2 (J w).aI (J w).aI.length;have hwl:=hj.wr.1;have tw:∀{j':aH},(j'.Pc=6/\(j'.gO.length:Int)=j'.K/\j'.K<=fX (J w).aI (J w).aI.length/\j'.Code=(J w).Code\/j'.Pc=7/\j'.K=0/\(j'.gO.length:Int)=fX (J w).aI (J w).aI.length/\j'.Code=(J w).Code\/j'.Pc=16/\j'.Code=3)->j'.cH=(J w).cH/\j'.aI=(J w).aI/\j'.Batch=(J w).Batch/\j'.At=(J w).At->TW Ky b.Mem k c (q w) j':=λ{j'} q ⟨e2,e3,e4,e5⟩=>by
  have c6:(J w).Code=0:=by have:=t.cd;omega
  refine⟨by omega,λx=>by omega,λx=>by rw[e2];exact t.oO (by omega),λx=>by omega,by rw[e3,e5];exact t.wl,λx=>by grind,λx=>⟨by grind,λy=>by omega⟩,λx=>?_,λx=>by omega,λx=>by omega,λx=>by omega,λx=>by omega,λx=>by omega,λx=>by omega,by omega,λx _=>by rw[e5,e4];exact t.at_ c6 (by omega),λx=>?_,λx=>by omega,by rw[e3,e4];exact t.ky⟩
  ·simp_all
  ·have:=t.cl (by grind);omega
 unfold HY;by_cases c1:fX (J w).aI (J w).aI.length<=(J w).K
 ·rw[aL c1];refine h.still hl hw hc hJ (λ_ _=>rfl) ?_ ?_ (.inl (by simp)) (λ_=>tw (.inr (.inl ⟨rfl,rfl,by simp only;omega,rfl⟩)) ⟨rfl,rfl,rfl,rfl⟩) (.no (by simp)) (.no (by simp))
  ·rw[o.1,(uK (by simp)).1]
  ·rw[o.2,(uK (by simp)).2];exact λ_ x=>x
 rw[aP c1];obtain⟨q1,q2,q3,q4⟩:=aUA hb.1.1 hw s1 s2 s3 s4;have nF:∀{j':aH},(iB b w (J w).Sub).1.Mem=b.Mem->j'.gO=(J w).gO->j'.Pc=6\/j'.Pc=16->TW Ky b.Mem k c (q w) j'->SbJ b w j'->sQ Ky (iB b w (J w).Sub).1 k c q (wJ J w j'):=λ{j'} em en p' t' s'=>by
  have eb:(iB b w (J w).Sub).1=b:=by
   cases hh:(iB b w (J w).Sub).1 with
   |mk a1 a2 a3 a4=>
    simp_all
  rw[eb];have o':=uK (j:=j') (by omega);exact h.still hl hw hc hJ (λ_ _=>rfl) (by grind) (by grind) (.inl (by omega)) (λ_=>t') (.no (by omega)) s'
 rcases q4 with ⟨em,⟨d,e⟩|⟨e1,e2⟩⟩|⟨d,e,wk,tk,kn⟩
 ·rw[aP (by grind),aL (.inl (by omega)),e];exact nF em rfl (.inr rfl) (tw (.inr (.inr ⟨rfl,rfl⟩)) ⟨rfl,rfl,rfl,rfl⟩) (.no (by simp[A7]))
 ·rw[aL (by grind)];exact nF em rfl (.inl hp) (tw (.inl ⟨hp,hn6.1,hn6.2,rfl⟩) ⟨rfl,rfl,rfl,rfl⟩) ⟨λ_=>by grind,by simp[hp],by simp[hp]⟩
 ·rw[aP (by grind),aP (by
   rintro(q|q|q)
   ·exact q e
   ·exact q wk.1.1
   ·omega)]
  generalize hx:(iB b w (J w).Sub).2.Out=x at wk tk;generalize hr:(iB b w (J w).Sub).1=b' at q1 q2 q3 kn wk tk;show sQ Ky b' k c q (wJ J w {J w with gO:=(J w).gO++[x],K:=(J w).K+1,Sub:=AF 1 16});have hx0:=(rG (dL wk.1.2.1)).1;have t':TW Ky b.Mem k c (q w) {J w with gO:=(J w).gO++[x],K:=(J w).K+1,Sub:=AF 1 16}:=tw (.inl ⟨hp,by simp;omega,by grind,rfl⟩) ⟨rfl,rfl,rfl,rfl⟩;have o':=uK (j:={J w with gO:=(J w).gO++[x],K:=(J w).K+1,Sub:=AF 1 16}) (.inl (by grind));have oth:Oth b b' k k c c J w {J w with gO:=(J w).gO++[x],K:=(J w).K+1,Sub:=AF 1 16} 0 (-1):=by
   refine⟨λy hy hz=>?_,.inl rfl,.inl rfl,λ_ _ _=>⟨rfl,rfl⟩,.inl rfl,λr hr=>.inl (by grind),λy hy=>?_,λz=>absurd z (by simp[hp]),λv hv hn p=>by grind,by grind,λ_ _ _=>by rw[q2]⟩
   ·obtain⟨a1,a2⟩:=kn y hy hz;exact⟨a1,λ_=>a2⟩
   ·rw[o'.2] at hy;rcases eD.1 hy with hy|hy
    ·grind
    ·exact .inr (by rw[IC.1 hy];exact tk.was)
  have chs:=λi (hi:HZ i)=>(oth.chn h hw hi (λq=>((h.ch i hi).all 0 q).1.ne rfl)).2 rfl rfl;refine h.make hl hw hc hJ oth q3 (λi hi=>(chs i hi).1) (λi hi=>by rw[(chs i hi).2];exact h.key i hi) (λs=>?_) (λy hy=>?_) (λ_=>?_) (.no (by simp[hp])) ⟨λ_=>by simp[AF],by simp[hp],by simp[hp]⟩
  ·have u:=ZV (J:=J) hw {J w with gO:=(J w).gO++[x],K:=(J w).K+1,Sub:=AF 1 16} s;rw[o.1,o'.1,VQ,QX,bAF] at u;have u2:=h.cnt s;by_cases q:x % 32=s
   ·rw[aL q] at u;have a1:ind b s=0:=VT (.inl (by rw[<-q];exact tk.was));have a2:ind b' s=1:=bIW (by rw[<-q];exact tk.now) (by
     rw[q2,<-q];rintro⟨r,hr,hh,er⟩;exact tk.was (by rw[<-er];exact(hb.2 r hr).1.2.1))
    omega
   ·rw[aP q] at u;have a1:ind b' s=ind b s:=aOW (tk.rest s λe=>q e.symm) (by rw[q2]);omega
  ·rw[o'.1] at hy;rcases eD.1 hy with hy|hy
   ·have hm:y∈own (J w):=by grind
    have w0:=h.ok w hw y hm;exact(kn y w0 (by omega)).1
   grind
  ·exact{t' with st:=λq=>absurd q (by simp[hp]),cu:=λq=>absurd q (by simp[hp]),fl:=λq=>absurd q (by simp[hp]),ln:=λq=>absurd q (by simp[hp])}
end
theorem bAP{z:List Int}(h:z=[0,0,0]){v:Int}(hv:fQ v):a2I z v=0:=by subst h;rcases(by omega:v=0\/v=1\/v=2) with rfl|rfl|rfl<;>rfl
section
variable {Ky:List Int} {b:aA} {k:List cR} {c:Int->List Int} {q:Int->Nat} {J:Int->aH} {w:Int} (h:sQ Ky b k c q J) (hl:∀v,fQ v->LkJ k v (J v)) (hw:fQ w) (hb:kW b) (hJ:∀v,fQ v->(J v).cO=true->JB (J v)) (hB:(J w).cO=true)
include h hl hw hb hJ hB
theorem a5G(hp:(J w).Pc=15):sQ Ky (LC b w (J w)).1 k c q (wJ J w (LC b w (J w)).2):=by
 have t:=h.tw w hw hB;have hj:=hJ w hw hB;have hc:=hb.1.2.1;have hk:=hj.k;have o1:∀{j':aH},j'.Pc=15->own j'=j'.cH.drop j'.K.toNat/\lI j'=[]:=λ{j'} q=>by simp[own,lI,aHL,q]
 have tw:∀{j':aH},j'.Pc=15\/j'.Pc=18->j'.aI=(J w).aI/\j'.Batch=(J w).Batch/\j'.At=(J w).At/\j'.Code=(J w).Code->TW Ky b.Mem k c (q w) j':=λ{j'} q ⟨e3,e4,e5,e6⟩=>by have cd:=t.cd;refine⟨by omega,λx=>by omega,λx=>by omega,λx=>by omega,by rw[e3,e5];exact t.wl,λx=>by omega,λx=>by omega,λx=>by omega,λx=>by omega,λx=>by omega,λx=>by omega,λx=>by omega,λx=>by omega,λx=>by omega,by omega,λx _=>by rw[e5,e4];exact t.at_ (by omega) (by omega),λx=>?_,λx=>by omega,by rw[e3,e4];exact t.ky⟩;have:=t.cl (by grind);omega
 unfold LC;by_cases c1:((J w).cH.length:Int)<=(J w).K
 ·rw[aL c1];have o2:own {J w with Pc:=18}=[]/\lI {J w with Pc:=18}=[]:=H0 (.inr (by simp));exact h.still hl hw hc hJ (λ_ _=>rfl) (by simp_all) (by grind) (.inl (by simp)) (λ_=>tw (.inr rfl) ⟨rfl,rfl,rfl,rfl⟩) (.no (by simp)) (.no (by simp))
 rw[aP c1];obtain⟨s0,s1,s2,s3,s4⟩:=(h.sb w hw).rt hp (by omega);have es:iB b w (J w).Sub=xF b w (J w).Sub:=by grind[iB]
 rw[es];have hi:(J w).K.toNat<(J w).cH.length:=by omega
 have eA:(J w).Sub.A=(J w).cH[(J w).K.toNat]:=by grind
 have eo:own (J w)=(J w).Sub.A::(J w).cH.drop ((J w).K.toNat+1):=by simp_all
 have hm:(J w).Sub.A∈own (J w):=by grind
 have hn:=h.name hw hw hm;have hA:=h.ok w hw _ hm;have hi1:ind b ((J w).Sub.A % 32)=1:=by omega
 have hH:¬bI b.aM ((J w).Sub.A % 32):=λq=>by grind[VT]
 unfold xF;rcases s4 with p0|⟨p1,e0,e1⟩
 ·rw[aL p0,aP (by simp[s2])];refine h.quiet hl hw hc hJ (cl:=b.aC) (λ_ _=>rfl) rfl (λ_ x=>x) (λ_ _ _=>.inl rfl) (λ_ _ _ p=>⟨p,rfl⟩) (H6 _) (λ_=>tw (.inl hp) ⟨rfl,rfl,rfl,rfl⟩) (.no (by simp[hp])) ⟨λp=>absurd p (by simp[hp]),λ_ _=>⟨s0,s1,s2,s3,.inr ⟨rfl,hc.1.1,H6 _⟩⟩,λp=>absurd p (by simp[hp])⟩
 ·rw[jH,aL p1,aL ⟨e0,e1⟩,aL ⟨hA.1,hH⟩,aL (by rfl)];have hL:=hb.1.2.2.1;obtain⟨A,B,f1,f2⟩:=aOV hL hw;have hf:∀r,r∈bX (b.aM.set w.toNat ⟨bQ b.aM w++[⟨(J w).Sub.A,(J w).Sub.E⟩]⟩)↔r∈bX b.aM\/r=⟨(J w).Sub.A,(J w).Sub.E⟩:=λr=>by grind
  have fin:∀{j':aH},j'.Pc=15->j'.K=(J w).K+1->j'.cH=(J w).cH->j'.aI=(J w).aI/\j'.Batch=(J w).Batch/\j'.At=(J w).At/\j'.Code=(J w).Code->(j'.K<j'.cH.length->j'.Sub.Pc=0)->SbJ {b with aM:=b.aM.set w.toNat ⟨bQ b.aM w++[⟨(J w).Sub.A,(J w).Sub.E⟩]⟩} w j' ->
    sQ Ky {b with aM:=b.aM.set w.toNat ⟨bQ b.aM w++[⟨(J w).Sub.A,(J w).Sub.E⟩]⟩} k c q (wJ J w j'):=λ{j'} q1 q2 q3 q4 q5 q6=>by
   have o':=o1 q1;have eo':own j'=(J w).cH.drop ((J w).K.toNat+1):=by(simp_all;omega)
   refine h.make hl hw hc hJ (y:=0) (z:=-1) ⟨λx hx _=>⟨hx,λ_=>rfl⟩,.inl rfl,.inl rfl,λi hi _=>⟨rfl,rfl⟩,.inl rfl,λr hr=>?_,by grind,λ_ x z=>by omega,λ_ _ _ p=>⟨p,rfl⟩,H6 _,λv hv hn=>VR hL.1 hw hv hn _⟩ rfl h.ch h.key (λs=>?_) (λx hx=>h.ok w hw x (by grind)) (λ_=>tw (.inl q1) q4) (.no (by omega)) q6
   ·grind
   ·have u:=ZV (J:=J) hw j' s;rw[eo,eo',QX] at u;have u2:=h.cnt s;by_cases q:(J w).Sub.A % 32=s
    ·rw[aL q] at u;have a2:ind {b with aM:=b.aM.set w.toNat ⟨bQ b.aM w++[⟨(J w).Sub.A,(J w).Sub.E⟩]⟩} s=0:=VT (.inr ⟨⟨(J w).Sub.A,(J w).Sub.E⟩,(hf _).2 (.inr rfl),hA.1.1,q⟩);grind
    ·rw[aP q] at u;have a2:ind {b with aM:=b.aM.set w.toNat ⟨bQ b.aM w++[⟨(J w).Sub.A,(J w).Sub.E⟩]⟩} s=ind b s:=aOW Iff.rfl ⟨λ⟨r,hr,x1,x2⟩=>by
      rcases(hf r).1 hr with a|rfl
      ·exact⟨r,a,x1,x2⟩
      grind,λ⟨r,hr,x⟩=>⟨r,(hf r).2 (.inl hr),x⟩⟩
     omega
  unfold SB;by_cases q:(J w).K+1<(J w).cH.length
  ·rw[aL q];exact fin hp rfl rfl ⟨rfl,rfl,rfl,rfl⟩ (λ_=>rfl) ⟨λp=>absurd p (by simp[hp]),λ_ _=>⟨by grind,rfl,rfl,rfl,.inl rfl⟩,λp=>absurd p (by simp[hp])⟩
  ·rw[aP q];exact fin hp rfl rfl ⟨rfl,rfl,rfl,rfl⟩ (λx=>absurd x q) ⟨λp=>absurd p (by simp[hp]),λ_ x=>absurd x q,λp=>absurd p (by simp[hp])⟩
theorem bET(hp:(J w).Pc=17):sQ Ky (JG b w (J w)).1 k c q (wJ J w (JG b w (J w)).2):=by
 have t:=h.tw w hw hB;have hj:=hJ w hw hB;have hc:=hb.1.2.1;have o:=uK (j:=J w) (.inr (.inr hp));have tw:∀{m':Mem} {j':aH},j'.Pc=17\/j'.Pc=18->j'.cH=(J w).cH/\j'.aI=(J w).aI/\j'.Batch=(J w).Batch/\j'.At=(J w).At/\j'.Code=(J w).Code->TW Ky m' k c (q w) j':=λ{m' j'} q ⟨e2,e3,e4,e5,e6⟩=>by have cd:=t.cd;refine⟨by omega,λx=>by omega,λx=>by rw[e2];exact t.oO (by omega),λx=>by omega,by rw[e3,e5];exact t.wl,λx=>by omega,λx=>by omega,λx=>by omega,λx=>by omega,λx=>by omega,λx=>by omega,λx=>by omega,λx=>by omega,λx=>by omega,by omega,λx _=>by omega,λx=>?_,λx=>by omega,by rw[e3,e4];exact t.ky⟩;have:=t.cl (by grind);omega
 unfold JG;by_cases c1:(J w).gO.length=0
 ·rw[aL c1];have e0:=uM c1;have o2:own {J w with Pc:=18}=[]/\lI {J w with Pc:=18}=[]:=H0 (.inr (by simp));exact h.still hl hw hc hJ (λ_ _=>rfl) (by grind) (by grind) (.inl (by simp)) (λ_=>tw (.inr rfl) ⟨rfl,rfl,rfl,rfl,rfl⟩) (.no (by simp)) (.no (by simp))
 rw[aP c1]
 match hN:(J w).gO,c1 with
 |x::r,_=>
 have hm:x∈own (J w):=by grind
 have hA:=h.ok w hw x hm;have hn:=h.name hw hw hm;have hi1:ind b (x % 32)=1:=by omega
 have hH:¬bI b.aM (x % 32):=λq=>by grind[VT]
 show sQ Ky (if bI b.aM (x % 32) then b else {b with Mem:=aZS b.Mem w x}) k c q (wJ J w {J w with gO:=r});rw[aP hH];unfold aZS;rw[aL hA.1];have kn:=aT9 hb.1.1 hw hA.1;have o':own {J w with gO:=r}=r/\lI {J w with gO:=r}=r:=uK (j:={J w with gO:=r}) (.inr (.inr hp));have oth:Oth b {b with Mem:=oP b.Mem w x} k k c c J w {J w with gO:=r} 0 (x % 32):=⟨λy hy hz=>⟨(kn y hy hz).1,λ_=>(kn y hy hz).2⟩,.inr (.inr ⟨x,hm,rfl⟩),.inl rfl,λ_ _ _=>⟨rfl,rfl⟩,.inr λv hv hn hp' hpin y hy hs e=>by
   have:=aAO hy.1 hA.1 e;subst this;exact(hs.2 w hw).1 (by grind),λr hr=>.inl hr,λy hy=>.inl (by grind),λz=>absurd z (by simp[hp]),λ_ _ _ p=>⟨p,rfl⟩,H6 _,λ_ _ _=>rfl⟩
 have chs:=λi (hi:HZ i)=>(oth.chn h hw hi (λq=>((h.ch i hi).all 0 q).1.ne rfl)).2 rfl rfl;have fst:∀s,s≠x % 32->dW (oP b.Mem w x) s=dW b.Mem s:=λs hs=>aOP hb.1.1 hw hA.1 hs;have fz:=(aDH hb.1.1 hw hA.1).2.2.2;refine h.make hl hw hc hJ oth rfl (λi hi=>(chs i hi).1) (λi hi=>by rw[(chs i hi).2];exact h.key i hi) (λs=>?_) (λy hy=>?_) (λ_=>tw (.inl hp) ⟨rfl,rfl,rfl,rfl,rfl⟩) (.no (by simp[hp])) (.no (by simp[hp]))
 ·have u:=ZV (J:=J) hw {J w with gO:=r} s;rw[o.1,o'.1,hN,QX] at u;have u2:=h.cnt s;by_cases q:x % 32=s
  ·rw[aL q] at u;grind[VT]
  ·rw[aP q] at u;have a2:ind {b with Mem:=oP b.Mem w x} s=ind b s:=aOW (by grind) Iff.rfl;omega
 ·rw[o'.1] at hy;have hm':y∈own (J w):=by grind
  refine(kn y (h.ok w hw y hm') λe=>?_).1;have u:=hn.1;have:2<=csL (own (J w)) (x % 32):=by rw[o.1,hN,QX,aL rfl];grind[MD]
  omega
theorem aOX(hE:∀v,fQ v->(J v).Pc=3\/(J v).Pc=4->mO b.aC v->b.aC.aE<=(b9 b.aC v).aE+1)(hp:(J w).Pc=21){j':aH}(hj':(bZ b w (J w).Sub).2.gL=true/\j'={J w with Pc:=19,Sub:=(bZ b w (J w).Sub).2}\/(bZ b w (J w).Sub).2.gL=false/\j'={J w with Sub:=(bZ b w (J w).Sub).2}) :
  sQ Ky (bZ b w (J w).Sub).1 k c q (wJ J w j')/\((bZ b w (J w).Sub).2.gL=true->(bZ b w (J w).Sub).2.Code=0):=by
 have t:=h.tw w hw hB;have hc:=hb.1.2.1;have hL:=hb.1.2.2.1;obtain⟨s1,s2,s3⟩:=(h.sb w hw).col hp;have p':j'.Pc=19\/j'.Pc=21:=by grind
 have tw:∀{m':Mem},TW Ky m' k c (q w) j':=λ{m'}=>by
  obtain⟨e1,e2,e3,e4,e5,e6⟩:j'.gO=(J w).gO/\j'.cH=(J w).cH/\j'.aI=(J w).aI/\j'.Batch=(J w).Batch/\j'.At=(J w).At/\j'.Code=(J w).Code:=by grind
  have cd:=t.cd;have at0:=t.at_;have hcol:=t.cl2 (.inr hp);have hbat:=(hJ w hw hB).bat;have hat:=(hJ w hw hB).at_;have hcm:=hbat.1 hcol;rw[hcm] at hat;simp only[List.length_nil] at hat;refine⟨by omega,λx=>by rw[e1];exact t.nO (by omega),λx=>by rw[e2];exact t.oO (by omega),λx=>by omega,by rw[e3,e5];exact t.wl,λx=>by omega,λx=>by omega,λx=>by omega,λx=>by omega,λx=>by omega,λx=>by omega,λx=>by omega,λx=>by omega,λx=>by omega,by omega,λx _=>by grind,λx=>by omega,λx=>by grind,by rw[e3,e4];exact t.ky⟩
 have o:=H0 (j:=J w) (.inr (by omega));have o':=H0 (j:=j') (.inr (by omega));have still:(bZ b w (J w).Sub).1=b->(j'.Pc=21->bEO b.aC.aE (bQ b.aM w) j'.Sub)->sQ Ky (bZ b w (J w).Sub).1 k c q (wJ J w j'):=λe q=>by rw[e];exact h.still hl hw hc hJ (λ_ _=>rfl) (by grind) (by grind) (.inl (by omega)) (λ_=>tw) (.no (by omega)) ⟨λp=>by omega,λp=>by omega,q⟩
 have sub':j'.Sub=(bZ b w (J w).Sub).2:=by grind
 have nd:j'.Pc=21->(bZ b w (J w).Sub).2.gL=false:=λq=>by grind
 have hrow:∀{i:Int},0<=i/\i<(bQ b.aM w).length->LB (bQ b.aM w) i∈bX b.aM:=λhi=>zD hL hw (ZM hi);rcases s3 with p0|⟨el,⟨p1,r0⟩|⟨p2,hB2,ha,hr⟩|⟨p3,ha,hr⟩⟩
 ·have e:bZ b w (J w).Sub=(b,{(J w).Sub with Pc:=1,E:=b.aC.aE,Row:=0}):=by simp_all[bZ]
  refine⟨still (by rw[e]) λq=>?_,λq=>by grind⟩;rw[sub',e];exact⟨s1,s2,.inr ⟨H6 _,.inl ⟨rfl,H6 _⟩⟩⟩
 ·by_cases q:mA (bQ b.aM w) (J w).Sub.E (J w).Sub.Row.toNat<(bQ b.aM w).length
  ·have e:bZ b w (J w).Sub=(b,{(J w).Sub with Pc:=2,Row:=(mA (bQ b.aM w) (J w).Sub.E (J w).Sub.Row.toNat:Int),B:=0,H:=(LB (bQ b.aM w) (mA (bQ b.aM w) (J w).Sub.E (J w).Sub.Row.toNat:Int)).Handle}):=by simp_all[bZ]
   obtain⟨g1,g2⟩:=aZP q;refine⟨still (by rw[e]) λ_=>?_,λz=>by grind⟩;rw[sub',e];refine⟨s1,s2,.inr ⟨el,.inr (.inl ⟨rfl,⟨H6 _,by simp⟩,⟨by simp,by grind,rfl⟩,?_⟩)⟩⟩;grind[aWZ]
  simp_all[bZ,qY,aP]
 ·have hH:(J w).Sub.H≠0:=by have:=(hb.2 _ (hrow ⟨ha.1,ha.2.1⟩)).1.1;rw[ha.2.2] at this;grind[kU]
  have e:bZ b w (J w).Sub=(b,{(J w).Sub with Pc:=if(J w).Sub.B=2 then 3 else 2,B:=(J w).Sub.B+1}):=by unfold bZ;rw[jH,jH,aL p2,aL ⟨hB2,ha⟩,aP (by rw[bAP h.hz hB2];omega)]
  refine⟨still (by rw[e]) λ_=>?_,λz=>by grind⟩;rw[sub',e];refine⟨s1,s2,.inr ⟨el,.inr ?_⟩⟩;by_cases z:(J w).Sub.B=2
  ·exact .inr ⟨aL z,ha,hr⟩
  ·exact .inl ⟨aP z,by grind,ha,hr⟩
 ·have e:bZ b w (J w).Sub=({b with Mem:=oP b.Mem w (J w).Sub.H,aM:=b.aM.set w.toNat ⟨(bQ b.aM w).eraseIdx (J w).Sub.Row.toNat⟩},{(J w).Sub with Pc:=1,Out:=bA ((J w).Sub.Out+1)}):=by simp_all[bZ]
  refine⟨?_,λz=>by grind⟩;have hi:0<=(J w).Sub.Row/\(J w).Sub.Row<(bQ b.aM w).length:=⟨ha.1,ha.2.1⟩;have hrm:=hrow hi;generalize hrr:LB (bQ b.aM w) (J w).Sub.Row=r at hrm hr;have eH:r.Handle=(J w).Sub.H:=by rw[<-hrr];exact ha.2.2
  have hv:=(hb.2 r hrm).1;rw[<-eH] at e;have hHd:bI b.aM (r.Handle % 32):=⟨r,hrm,hv.1,rfl⟩;have hil:(J w).Sub.Row.toNat<(bQ b.aM w).length:=by omega
  have er:(bQ b.aM w)[(J w).Sub.Row.toNat]=r:=by grind[aWZ]
  obtain⟨A,B,f1,f2⟩:=aOV hL hw;have hperm:=aN7 hil;rw[er] at hperm;have hpf:(bX b.aM).Perm (r::bX (b.aM.set w.toNat ⟨(bQ b.aM w).eraseIdx (J w).Sub.Row.toNat⟩)):=by grind
  have hnd:=(hpf.map oD).nodup_iff.1 hL.2.2.2;rw[KH,aBG] at hnd;have hheld:∀s,s≠r.Handle % 32->(bI (b.aM.set w.toNat ⟨(bQ b.aM w).eraseIdx (J w).Sub.Row.toNat⟩) s↔bI b.aM s):=λs hs=>⟨λ⟨x,hx,y⟩=>⟨x,hpf.mem_iff.2 (lJ _ hx),y⟩,λ⟨x,hx,y⟩=>⟨x,(kD.1 (hpf.mem_iff.1 hx)).resolve_left λq=>hs (by grind),y⟩⟩;have kn:=aT9 hb.1.1 hw hv;have fst:∀s,s≠r.Handle % 32->dW (oP b.Mem w r.Handle) s=dW b.Mem s:=λs hs=>aOP hb.1.1 hw hv hs;have fz:=(aDH hb.1.1 hw hv).2.2.2;have hrip:r.aE<=(J w).Sub.E-2:=by have:=hr.2;rw[cC (by have:=hr.1;omega) (by have:=hc.1.2;omega)] at this;exact this
  rw[e];show sQ Ky {b with Mem:=oP b.Mem w r.Handle,aM:=b.aM.set w.toNat ⟨(bQ b.aM w).eraseIdx (J w).Sub.Row.toNat⟩} k c q (wJ J w j');generalize hb':({b with Mem:=oP b.Mem w r.Handle,aM:=b.aM.set w.toNat ⟨(bQ b.aM w).eraseIdx (J w).Sub.Row.toNat⟩}:aA)=b';have m1:b'.Mem=oP b.Mem w r.Handle:=by rw[<-hb']
  have m2:b'.aM=b.aM.set w.toNat ⟨(bQ b.aM w).eraseIdx (J w).Sub.Row.toNat⟩:=by rw[<-hb']
  have m3:b'.aC=b.aC:=by rw[<-hb']
  have m4:b'.oR=b.oR:=by rw[<-hb']
  have oth:Oth b b' k k c c J w j' 0 (r.Handle % 32):=⟨λy hy hz=>by rw[m1];exact⟨(kn y hy hz).1,λ_=>(kn y hy hz).2⟩,.inr (.inl (VT (.inr hHd))),.inl rfl,λ_ _ _=>⟨rfl,rfl⟩,.inr λv hv' hn hp' hpin y hy hs ez=>by
    have:=aAO hy.1 hv ez;have:=hs.1 r hrm this.symm;have:=hE v hv' hp' hpin;omega,λx hx=>.inl (by rw[m2] at hx;exact hpf.mem_iff.2 (lJ _ hx)),by rw[o'.2];simp,λz=>by omega,λ_ _ _ p=>by rw[m3] at p ⊢;exact⟨p,rfl⟩,by rw[m3];exact H6 _,λv hv' hn=>by rw[m2];exact VR hL.1 hw hv' hn _⟩
  have chs:=λi (hi:HZ i)=>(oth.chn h hw hi (λq=>((h.ch i hi).all 0 q).1.ne rfl)).2 rfl rfl;refine h.make hl hw hc hJ oth m4 (λi hi=>(chs i hi).1) (λi hi=>by rw[(chs i hi).2];exact h.key i hi) (λs=>?_) (λy hy=>by rw[o'.1] at hy;cases hy) (λ_=>tw) (.no (by omega)) ⟨λp=>by omega,λp=>by omega,λq=>?_⟩
  ·have u:=ZV (J:=J) hw j' s;rw[o.1,o'.1] at u;have u2:=h.cnt s;by_cases q:s=r.Handle % 32
   ·have a1:ind b s=0:=VT (.inr (q ▸ hHd));have a2:ind b' s=0:=VT (.inl (by rw[m1,q];exact fz));omega
   ·have a2:ind b' s=ind b s:=aOW (by rw[m1,fst s q]) (by rw[m2];exact hheld s q);omega
  ·rw[sub',e,m3];exact⟨s1,s2,.inr ⟨el,.inl ⟨rfl,ha.1⟩⟩⟩
end
theorem bEU{l:List aW}{K:Int}(hK:0<=K)(h:K<l.length):fX l (K+1)=fX l K+if(l.getD K.toNat ⟨0,false,0⟩).KJ then 0 else 1:=by
 have hi:K.toNat<l.length:=by omega
 unfold fX;rw[show(K+1).toNat=K.toNat+1 by omega,MF hi,List.filter_append,BA,EE,jK hi,Option.getD_some];grind
theorem bAQ{l:List aW}{K:Int}(h:l.length<=K):fX l K=fX l l.length:=by grind[fX]
theorem bAR{n:gR}(h:aHF n):TZ n=n.Next:=by
 unfold TZ;rcases h.2.2 with e|e
 ·rw[e];split<;>rfl
 ·rw[aL e]
theorem aFR{j:aH}(h:9<=j.Pc/\j.Pc<=13):own j=j.gO.drop (fX j.aI j.K).toNat++j.cH/\lI j=j.gO.drop (fX j.aI j.K).toNat:=by unfold own lI aHL;grind
theorem ChT.last{m:Mem}{A:List Int}:∀{h:Int} {B:List Int} {x:Int},ChT m x (A++h::B)->(∀a,A.getLast?=some a->(dX m a).Next=h)/\(A=[]->x=h):=by
 induction A with
 |nil=>exact λh=>⟨λa e=>by simp at e,λ_=>h.1⟩
 |cons a A ih=>
  intro h B x hc;refine⟨λz e=>?_,λe=>by cases e⟩;obtain⟨i1,i2⟩:=ih hc.2.2.2;grind
theorem ChT.cut{m m':Mem}{p:Int}(hp:dX m' p={dX m p with Next:=(dX m (dX m p).Next).Next})(ok:kX m' p):∀{A:List Int} {h:Int} {B:List Int} {x:Int},ChT m x (A++p::h::B)->(∀y∈A++B,kX m' y/\dX m' y=dX m y)->ChT m' x (A++p::B)
 |[],h,B,x,hc,hk=>by
  obtain⟨e1,a1,a2,e2,b1,b2,b3⟩:=hc;refine⟨e1,ok,?_,?_⟩
  ·rw[hp];exact⟨a2.1,a2.2.1,by rw[e2];exact b2.2.2⟩
  ·rw[hp,e2];exact b3.keep λy hy=>hk y (by simp[hy])
 |a::A,h,B,x,hc,hk=>by obtain⟨a1,a2⟩:=hk a (by simp);exact⟨hc.1,a1,by rw[a2];exact hc.2.2.1,by rw[a2];exact hc.2.2.2.cut hp ok λy hy=>hk y (by grind)⟩
section
variable {Ky:List Int} {b:aA} {k:List cR} {c:Int->List Int} {q:Int->Nat} {J:Int->aH} {w:Int} (h:sQ Ky b k c q J) (hl:∀v,fQ v->LkJ k v (J v)) (hw:fQ w) (hb:kW b) (hJ:∀v,fQ v->(J v).cO=true->JB (J v)) (hB:(J w).cO=true)
include h hl hw hb hJ hB
set_option maxHeartbeats 1000000 in
theorem bAS(hk2:k.length=2/\∀x∈k,BkV x)(hp:9<=(J w).Pc/\(J w).Pc<=13):∃c',sQ Ky (CL b k (J w)).1 (CL b k (J w)).2.1 c' (upQ q w (qF Ky.length (q w) (J w))) (wJ J w (CL b k (J w)).2.2):=by
 have t:=h.tw w hw hB;have hj:=hJ w hw hB;have hc:=hb.1.2.1;have hk:=hj.k;have o:=aFR hp;have hn7:=t.n7 (by omega);generalize hn:qF Ky.length (q w) (J w)=n;have eqw:upQ q w n w=n:=aL rfl;have hqv:∀v,v≠w->upQ q w n v=q v:=λv hv=>aP hv;generalize upQ q w n=qn at eqw hqv ⊢;subst eqw;have hcd:(J w).Code=0:=by have:=t.cd;omega
 have tw:∀{m':Mem} {k':List cR} {c':Int->List Int} {j':aH},9<=j'.Pc/\j'.Pc<=14->j'.gO=(J w).gO/\j'.aI=(J w).aI/\j'.Batch=(J w).Batch/\j'.At=(J w).At/\j'.Code=(J w).Code/\j'.bI=(J w).bI->(j'.Pc<=13->(j'.cH.length:Int)<=if j'.Pc<=11 then j'.K else j'.K+1)->(10<=j'.Pc/\j'.Pc<=13->j'.K<j'.aI.length) ->
   (j'.Pc=10\/j'.Pc=11->∃A B,c' (bi j')=A++j'.H::B/\(j'.gN=A.getLastD 0/\∀a∈A,(dX m' a).Key≠(sU j').Key)/\(j'.Pc=10->B.length<=qn w))->(j'.Pc=11->j'.Node=dX m' j'.H/\j'.Node.Key=(sU j').Key)->(j'.Pc=12\/j'.Pc=13->(sU j').KJ=false/\∀a∈c' (bi j'),(dX m' a).Key≠(sU j').Key)->(j'.Pc=13->dX m' (IB j')=⟨(sU j').Key,(sU j').eI,(iD k' (bi j')).Head⟩)->TW Ky m' k' c' (qn w) j':=
  λ{m' k' c' j'} q ⟨e1,e3,e4,e5,e6,e7⟩ q1 q2 q3 q4 q5 q6=>by
  refine⟨by omega,λx=>by omega,λx=>by omega,λx=>by omega,by rw[e3,e5];exact t.wl,λx=>by omega,λx=>⟨by grind,λ_=>q1 x.2⟩,λx=>by omega,λx=>by rw[e3,e7];exact t.l8 (by omega),q2,q3,q4,q5,q6,by omega,λx _=>by rw[e5,e4];exact t.at_ hcd (by omega),λx=>?_,λx=>by omega,by rw[e3,e4];exact t.ky⟩;have:=t.cl (by grind);omega
 have still:∀{j':aH},own j'=own (J w)->lI j'=lI (J w)\/lI j'=[]->9<=j'.Pc/\j'.Pc<=14->TW Ky b.Mem k c (qn w) j'->sQ Ky b k c qn (wJ J w j'):=λ{j'} e1 e2 q t'=>
  h.aUD hl hw hc hJ hqv (λ_ _=>rfl) e1 (by grind) (.inl (by omega)) (λ_=>t') (.no (by omega)) (.no (by omega))
 unfold CL;by_cases c1:((J w).aI.length:Int)<=(J w).K
 ·rw[aL c1];grind[aK7,bAQ,own,lI,aHL]
 rw[aP c1];have hi:(J w).K.toNat<(J w).aI.length:=by omega
 have er:sU (J w)=(J w).aI[(J w).K.toNat]:=by grind[sU]
 have hxm:sU (J w)∈(J w).aI:=by grind
 have hx:=hj.wr.2.1 _ hxm;have hbk:HZ (oJ (sU (J w)).Key):=by unfold oJ;omega
 have hheld:=t.l8 (by omega) _ hxm;have hlk:(iD k (oJ (sU (J w)).Key)).gW=w+1:=((hl w hw).iff _ hbk).1 hheld;have hch:=h.ch _ hbk;have hkey:=h.key _ hbk;have hol:=hn7.2 (by omega);have hpl:fX (J w).aI ((J w).K+1)=fX (J w).aI (J w).K+if(sU (J w)).KJ then 0 else 1:=bEU hk.1 (by omega);have p0:0<=fX (J w).aI (J w).K:=by grind[fX]
 generalize hi':oJ (sU (J w)).Key=i at hbk hheld hlk hch hkey;have ebi:bi (J w)=i:=hi';have place:∀{b':aA} {k':List cR} {c':Int->List Int} {j1:aH},j1.gO=(J w).gO/\j1.aI=(J w).aI/\j1.Batch=(J w).Batch/\j1.At=(J w).At/\j1.Code=(J w).Code/\j1.bI=(J w).bI/\j1.K=(J w).K->(j1.cH.length:Int)<=(J w).K+1->(∀a∈c' i,(dX b'.Mem a).Key≠(sU (J w)).Key)->TW Ky b'.Mem k' c' (qn w) (SA j1 (sU (J w)))/\lI (SA j1 (sU (J w)))=lI (J w)/\own (SA j1 (sU (J w)))=lI (J w)++j1.cH/\(9<=(SA j1 (sU (J w))).Pc/\(SA j1 (sU (J w))).Pc<=14):=
  λ{b' k' c' j1} ⟨e1,e3,e4,e5,e6,e7,e8⟩ q1 q2=>by
  have ew:∀{j2:aH},j2.aI=j1.aI->j2.K=j1.K->sU j2=sU (J w):=λa a'=>by grind[sU]
  unfold SA;cases hd:(sU (J w)).KJ
  ·rw[g7];have o':=aFR (j:={j1 with Pc:=12}) (by simp);simp only at o';refine⟨tw (by simp) ⟨e1,e3,e4,e5,e6,e7⟩ (λ_=>by simp;omega) (λ_=>by simp only;rw[e8,e3];omega) (by simp) (by simp) (λ_=>by
    have e2:sU {j1 with Pc:=12}=sU (J w):=ew rfl rfl;have e9:bi {j1 with Pc:=12}=i:=by unfold bi;rw[e2];exact hi'
    rw[e2,e9];exact⟨hd,q2⟩) (by simp),?_,?_,by simp⟩
   ·rw[o'.2,o.2,e1,e3,e8]
   ·rw[o'.1,o.2,e1,e3,e8]
  ·rw[aL rfl];have o':=aFR (j:={j1 with Pc:=9,K:=j1.K+1}) (by simp);simp only at o';rw[hd,aL rfl,Int.add_zero] at hpl;refine⟨tw (by simp) ⟨e1,e3,e4,e5,e6,e7⟩ (λ_=>by simp;omega) (by simp) (by simp) (by simp) (by simp) (by simp),?_,?_,by simp⟩
   ·rw[o'.2,o.2,e1,e3,e8,hpl]
   ·rw[o'.1,o.2,e1,e3,e8,hpl]
 have MT:own (J w)=lI (J w)++(J w).cH:=by rw[o.1,o.2]
 by_cases p9:(J w).Pc=9
 ·rw[aL p9];rw[aL (by omega)] at hol;refine⟨c,?_⟩;by_cases q:(iD k i).Head=0
  ·rw[aL q];have hnil:c i=[]:=by
    match hci:c i,hch with
    |[],_=>rfl
    |x::r,hch=>exact absurd (hch.1.symm.trans q) hch.2.1.ne
   obtain⟨a1,a2,a3,a4⟩:=place (b':=b) (k':=k) (c':=c) (j1:={J w with Pc:=10,H:=(iD k i).Head,gN:=0}) ⟨rfl,rfl,rfl,rfl,rfl,rfl,rfl⟩ (by simp only;omega) (by rw[hnil];simp);exact still (by rw[a3,MT]) (.inl a2) a4 a1
  ·rw[aP q];have o':=aFR (j:={J w with Pc:=10,H:=(iD k i).Head,gN:=0}) (by simp);refine still (by rw[o'.1,o.1]) (.inl (by rw[o'.2,o.2])) (by simp) (tw (by simp) ⟨rfl,rfl,rfl,rfl,rfl,rfl⟩ (by simp;omega) (λ_=>by simp only;omega) (λ_=>?_) (by simp) (by simp) (by simp))
   match hci:c i,hch with
   |[],hch=>exact absurd hch q
   |x::r,hch=>
    refine⟨[],r,?_,⟨rfl,by simp⟩,λ_=>?_⟩
    rotate_left
    ·have:=ED hkey.1 λy hy=>(hkey.2 y hy).2;unfold m6 at this;rw[hci,List.length_map,BC] at this;rw[<-hn];unfold qF;rw[aL (.inr p9)];omega
    show c (oJ (sU (J w)).Key)=_;rw[hi',hci,VX];simp only;rw[hch.1]
 rw[aP p9];by_cases p10:(J w).Pc=10
 ·rw[aL p10];rw[aL (by omega)] at hol;refine⟨c,?_⟩;obtain⟨A,B,e1,⟨e2,e3⟩,e4⟩:=t.st (.inl p10);rw[ebi] at e1;rw[e1] at hch;have hH:=hch.split;have hok:=hH.2.1;rw[a0B hok];by_cases q:(dX b.Mem (J w).H).Key=(sU (J w)).Key
  ·rw[aL q];have o':=aFR (j:={J w with Pc:=11,Node:=dX b.Mem (J w).H}) (by simp);exact still (by rw[o'.1,o.1]) (.inl (by rw[o'.2,o.2])) (by simp) (tw (by simp) ⟨rfl,rfl,rfl,rfl,rfl,rfl⟩ (by simp;omega) (λ_=>by simp only;omega) (λ_=>⟨A,B,(show c (oJ (sU (J w)).Key)=_ by rw[hi'];exact e1),⟨e2,e3⟩,λz=>absurd z (by simp)⟩) (λ_=>⟨rfl,q⟩) (by simp) (by simp))
  ·rw[aP q,bAR hH.2.2.1];by_cases q2:(dX b.Mem (J w).H).Next=0
   ·rw[aL q2];have hBn:B=[]:=by
     match B,hH.2.2.2 with
     |[],_=>rfl
     |x::r,hq=>exact absurd (hq.1.symm.trans q2) hq.2.1.ne
    obtain⟨a1,a2,a3,a4⟩:=place (b':=b) (k':=k) (c':=c) (j1:={J w with Node:=dX b.Mem (J w).H}) ⟨rfl,rfl,rfl,rfl,rfl,rfl,rfl⟩ (by simp only;omega) (by
     rw[e1,hBn];intro a ha;rcases eD.1 ha with ha|ha
     ·exact e3 a ha
     ·rw[IC.1 ha];exact q)
    exact still (by rw[a3,MT]) (.inl a2) a4 a1
   ·rw[aP q2];have o':=aFR (j:={J w with H:=(dX b.Mem (J w).H).Next,gN:=(J w).H,Node:=dX b.Mem (J w).H}) hp;refine still (by rw[o'.1,o.1]) (.inl (by rw[o'.2,o.2])) (by simp only;omega) (tw (by simp only;omega) ⟨rfl,rfl,rfl,rfl,rfl,rfl⟩ (λ_=>by simp only;rw[aL (by omega)];exact hol) (λ_=>by simp only;omega) (λ_=>?_) (by simp[p10]) (by simp[p10]) (by simp[p10]))
    match B,hH.2.2.2,e1 with
    |[],hq,_=>exact absurd hq q2
    |x::r,hq,e1=>
     refine⟨A++[(J w).H],r,?_,⟨by simp,λa ha=>?_⟩,λ_=>?_⟩
     rotate_left 2
     ·have:=e4 p10;rw[BC] at this;rw[<-hn];unfold qF;rw[jH,aL (.inr p10)];omega
     ·show c (oJ (sU (J w)).Key)=_;rw[hi',e1];simp only;rw[hq.1];simp
     ·rcases eD.1 ha with ha|ha
      ·exact e3 a ha
      ·rw[IC.1 ha];exact q
 rw[aP p10];have heads:∀(x:Int) (i':Int),HZ i'->(iD (k.set i.toNat {iD k i with Head:=x}) i').Head=if i'=i then x else(iD k i').Head:=λx i' hi''=>by rw[QW hk2.1 hbk hi''];split<;>rfl
 have hno:∀{i':Int},HZ i'->(iD k i').gW≠w+1->i'≠i:=λ_ q e=>q (e ▸ hlk);have ind0:∀{b':aA},(∀s,dW b'.Mem s=dW b.Mem s)->b'.aM=b.aM->∀s,ind b' s=ind b s:=λe1 e2 s=>aOW (by rw[e1]) (by rw[e2]);by_cases p11:(J w).Pc=11
 ·rw[aL p11];rw[aL (by omega)] at hol;obtain⟨A,B,e1,⟨e2,e3⟩,_⟩:=t.st (.inr p11);rw[ebi] at e1;rw[e1] at hch hkey;have hH:=hch.split;have hok:=hH.2.1;obtain⟨n1,n2⟩:=t.cu p11;rw[n1,bAR hH.2.2.1];have hnd:=hkey.1;unfold m6 at hnd;rw[uN,KH,aQW,aBG] at hnd;have hAB:∀a∈A++B,(dX b.Mem a).Key≠(sU (J w)).Key:=λa ha q=>by
   rcases eD.1 ha with ha|ha
   ·exact e3 a ha q
   ·rw[<-n2,n1] at q;exact hnd.2.1.1 (N0.2 ⟨a,ha,q⟩)
  have hold:T1 (J w)={J w with cH:=(J w).cH++[(J w).H]}:=by unfold T1;rw[aL ⟨hok.1.1,by have:=hj.wr.1;omega⟩]
  rw[hold];have hcl:csL (c i)=λs=>csL (A++B) s+if(J w).H % 32=s then 1 else 0:=by funext s;rw[e1,VQ,QX,VQ];omega
  have cntx:∀{j':aH},own j'=lI (J w)++((J w).cH++[(J w).H])->∀s,cnC (upC c i (A++B)) s+cnO (wJ J w j') s=ind b s:=λ{j'} e s=>by have u1:=bAG (c:=c) hbk (A++B) s;have u2:=ZV (J:=J) hw j' s;rw[e,MT,VQ,VQ,VQ,QX,bAF] at u2;rw[hcl] at u1;have:=h.cnt s;simp only at u1;omega
  have okx:∀{j':aH} {b':aA},own j'=lI (J w)++((J w).cH++[(J w).H])->(∀x,kX b.Mem x->kX b'.Mem x)->∀x∈own j',kX b'.Mem x:=λ{j' b'} e q x hx=>by
   rw[e] at hx;refine q x ?_;rcases eD.1 hx with hx|hx
   ·exact h.ok w hw x (PB h hw hx)
   ·rcases eD.1 hx with hx|hx
    ·exact h.ok w hw x (by rw[MT];exact aK9 _ hx)
    ·rw[IC.1 hx];exact hok
  by_cases q:(J w).gN=0
  ·rw[aL q];have hA:A=[]:=by
    rcases aDT A with rfl|⟨L,z,rfl⟩
    ·rfl
    ·rw[aQU] at e1 e2 hch;rw[q] at e2;simp at e2;exact absurd e2.symm ((hch.all z (by simp)).1.ne)
   subst hA;simp only[VX] at *;obtain⟨a1,a2,a3,a4⟩:=place (b':=b) (k':=k.set i.toNat {iD k i with Head:=(dX b.Mem (J w).H).Next}) (c':=upC c i B) (j1:={J w with cH:=(J w).cH++[(J w).H]}) ⟨rfl,rfl,rfl,rfl,rfl,rfl,rfl⟩ (by simp;omega) (by rw[LG];exact hAB);refine⟨upC c i B,h.aR0 hl hw hqv hc hJ (y:=0) (z:=-1) ⟨λx hx _=>⟨hx,λ_=>rfl⟩,.inl rfl,.inl rfl,λi' hi'' hq=>⟨by rw[heads _ _ hi'',aP (hno hi'' hq)],VO _ _ (hno hi'' hq)⟩,.inl rfl,λr hr=>.inl hr,λx hx=>.inl (by rw[a2] at hx;exact hx),λz=>absurd a4.2 (by rw[show(SA _ _).Pc=15 from z];decide),λ_ _ _ p=>⟨p,rfl⟩,H6 _,λ_ _ _=>rfl⟩ rfl (λi' hi''=>?_) (λi' hi''=>?_) (cntx a3) (okx a3 λ_ x=>x) (λ_=>a1) (.no ⟨λz=>absurd a4.1 (by rw[show(SA _ _).Pc=3 from z];decide),λz=>absurd a4.1 (by rw[show(SA _ _).Pc=4 from z];decide)⟩) (.no ⟨λz=>absurd a4.1 (by rw[show(SA _ _).Pc=6 from z];decide),λz=>absurd a4.2 (by rw[show(SA _ _).Pc=15 from z];decide),λz=>absurd a4.2 (by rw[show(SA _ _).Pc=21 from z];decide)⟩)⟩
   ·rw[heads _ _ hi''];by_cases z:i'=i
    ·rw[aL z,z,LG];exact hH.2.2.2
    ·rw[aP z,VO _ _ z];exact h.ch i' hi''
   ·by_cases z:i'=i
    ·rw[z,LG];exact⟨hnd.2.1.2,λx hx=>hkey.2 x (by unfold m6 at hx ⊢;rw[KH];exact lJ _ hx)⟩
    ·rw[VO _ _ z];exact h.key i' hi''
  ·rw[aP q];obtain⟨A',rfl⟩:∃A',A=A'++[(J w).gN]:=by
    rcases aDT A with rfl|⟨L,z,rfl⟩
    ·exact absurd e2 q
    ·rw[aQU] at e2 ⊢;exact⟨L,by rw[e2];simp⟩
   rw[rI,List.singleton_append] at e1 hch;have hpm:(J w).gN∈c i:=by rw[e1];simp
   have hpo:=hch.all (J w).gN (by simp);have hnx:(dX b.Mem (J w).gN).Next=(J w).H:=by have:=(ChT.last (A:=A'++[(J w).gN]) (h:=(J w).H) (B:=B) (by rw[rI,List.singleton_append];exact hch)).1 (J w).gN (by simp);exact this
   obtain⟨g1,g2,g3,g4⟩:=bEM hb.1.1 hpo.1 hH.2.2.1.2.2;generalize hm':Gv.aH6 b.Mem (J w).gN (dX b.Mem (J w).H).Next=m' at g1 g2 g3 g4;have g2':dX m' (J w).gN={dX b.Mem (J w).gN with Next:=(dX b.Mem (dX b.Mem (J w).gN).Next).Next}:=by rw[hnx];exact g2
   have gk:∀x,kX b.Mem x->kX m' x/\(x≠(J w).gN->dX m' x=dX b.Mem x):=λx hx=>by
    by_cases z:x % 32=(J w).gN % 32
    ·have:=aAO hx.1 hpo.1.1 z;subst this;exact⟨g1,λz=>absurd rfl z⟩
    ·exact⟨(g3 x hx z).1,λ_=>(g3 x hx z).2⟩
   have gkey:∀x,kX b.Mem x->(dX m' x).Key=(dX b.Mem x).Key:=λx hx=>by
    by_cases z:x=(J w).gN
    ·rw[z,g2']
    ·rw[(gk x hx).2 z]
   have hall:∀a∈A'++[(J w).gN]++B,kX b.Mem a:=λa ha=>(hch.all a (by simp only[eD,kD,IC,aUN,or_false] at ha ⊢;grind)).1;obtain⟨a1,a2,a3,a4⟩:=place (b':={b with Mem:=m'}) (k':=k) (c':=upC c i (A'++[(J w).gN]++B)) (j1:={J w with cH:=(J w).cH++[(J w).H]}) ⟨rfl,rfl,rfl,rfl,rfl,rfl,rfl⟩ (by simp;omega) (by
    rw[LG];exact λa ha=>by rw[gkey a (hall a ha)];exact hAB a ha)
   have oth:Oth b {b with Mem:=m'} k k c (upC c i (A'++[(J w).gN]++B)) J w (SA {J w with cH:=(J w).cH++[(J w).H]} (sU (J w))) (J w).gN (-1):=
    ⟨λx hx _=>gk x hx,.inl rfl,.inr (.inr ⟨⟨i,hbk,hlk,hpm⟩,g2',by rw[hnx];exact hok.ne⟩),λi' hi'' hq=>⟨rfl,VO _ _ (hno hi'' hq)⟩,.inl rfl,λr hr=>.inl hr,λx hx=>.inl (by rw[a2] at hx;exact hx),λz=>absurd a4.2 (by rw[show(SA _ _).Pc=15 from z];decide),λ_ _ _ p=>⟨p,rfl⟩,H6 _,λ_ _ _=>rfl⟩
   have hnd2:=hkey.1;refine⟨_,h.aR0 hl hw hqv hc hJ oth rfl (λi' hi''=>?_) (λi' hi''=>?_) (λs=>by rw[cntx a3 s];exact(ind0 (b':={b with Mem:=m'}) g4 rfl s).symm) (okx a3 λx hx=>(gk x hx).1) (λ_=>a1) (.no ⟨λz=>absurd a4.1 (by rw[show(SA _ _).Pc=3 from z];decide),λz=>absurd a4.1 (by rw[show(SA _ _).Pc=4 from z];decide)⟩) (.no ⟨λz=>absurd a4.1 (by rw[show(SA _ _).Pc=6 from z];decide),λz=>absurd a4.2 (by rw[show(SA _ _).Pc=15 from z];decide),λz=>absurd a4.2 (by rw[show(SA _ _).Pc=21 from z];decide)⟩)⟩
   ·by_cases z:i'=i
    ·rw[z,LG,rI,List.singleton_append];have hdis:∀y∈A'++B,y≠(J w).gN:=λy hy e=>by
      have hn:=hnd2;unfold m6 at hn;rw[rI,uN,uN,KH,KH,aQW] at hn;rcases eD.1 hy with hy|hy
      ·exact hn.2.2 _ (N0.2 ⟨y,hy,rfl⟩) _ (by rw[e];simp) rfl
      ·exact(aBG.1 hn.2.1).1 (by rw[<-e];exact lJ _ (N0.2 ⟨y,hy,rfl⟩))
     exact hch.cut g2' g1 λy hy=>by obtain⟨x1,x2⟩:=gk y (hall y (by simp only[eD,IC] at hy ⊢;grind));exact⟨x1,x2 (hdis y hy)⟩
    ·have hy:(J w).gN∉c i':=λhy=>by have u1:=aUB c hi'' hbk z ((J w).gN % 32);have u2:=MD hy;have u3:=MD hpm;have u4:=h.cnt ((J w).gN % 32);have u5:=aHN b ((J w).gN % 32);omega
     exact((oth.chn h hw hi'' hy).2 rfl (VO _ _ z)).1
   ·by_cases z:i'=i
    ·rw[z,LG];have ek:m6 m' (A'++[(J w).gN]++B)=m6 b.Mem (A'++[(J w).gN]++B):=aHM λa ha=>gkey a (hall a ha);show(m6 m' _).Nodup/\∀x∈m6 m' _,_;rw[ek];have hsub:(m6 b.Mem (A'++[(J w).gN]++B)).Sublist (m6 b.Mem (A'++[(J w).gN]++(J w).H::B)):=by unfold m6;exact List.Sublist.map _ (List.Sublist.append_left (List.sublist_cons_self ..) _)
     exact⟨hnd2.sublist hsub,λx hx=>hkey.2 x (hsub.subset hx)⟩
    ·have hy:(J w).gN∉c i':=λhy=>by have u1:=aUB c hi'' hbk z ((J w).gN % 32);have u2:=MD hy;have u3:=MD hpm;have u4:=h.cnt ((J w).gN % 32);have u5:=aHN b ((J w).gN % 32);omega
     rw[((oth.chn h hw hi'' hy).2 rfl (VO _ _ z)).2];exact h.key i' hi''
 rw[aP p11];have hp2:(J w).Pc=12\/(J w).Pc=13:=by omega
 obtain⟨fd,fk⟩:=t.fl hp2;rw[ebi] at fk;obtain⟨nm,r,en,enr⟩:=aOT h hw t hj hp2;have hnw:=h.ok w hw _ (PB h hw nm);have hname:=h.name hw hw (PB h hw nm);have hnc:∀i',HZ i'->IB (J w)∉c i':=λi' hi'' hm=>by have u1:=h.link hw hi'' hm;omega
 have hlen:¬((J w).gO.length:Int)<=fX (J w).aI (J w).K:=λz=>by have:(J w).gO.drop (fX (J w).aI (J w).K).toNat=[]:=aK7 (by omega);rw[o.2,this] at nm;cases nm
 rw[aP hlen];have hbv:=hk2.2 _ (a2O hk2.1 hbk);by_cases p12:(J w).Pc=12
 ·rw[aL p12];rw[jH] at hol;obtain⟨g1,g2,g3,g4⟩:=bIT hb.1.1 hnw (n:=⟨(sU (J w)).Key,(sU (J w)).eI,(iD k i).Head⟩) ⟨hx.1,hx.2,hbv.1⟩;show ∃c',sQ Ky {b with Mem:=aFO b.Mem (IB (J w)) ⟨(sU (J w)).Key,(sU (J w)).eI,(iD k i).Head⟩} k c' qn (wJ J w {J w with Pc:=13});generalize aFO b.Mem (IB (J w)) ⟨(sU (J w)).Key,(sU (J w)).eI,(iD k i).Head⟩=m' at g1 g2 g3 g4;have gk:∀x,kX b.Mem x->kX m' x/\(x≠IB (J w)->dX m' x=dX b.Mem x):=λx hx=>by
   by_cases z:x % 32=IB (J w) % 32
   ·have:=aAO hx.1 hnw.1 z;subst this;exact⟨g1,λz=>absurd rfl z⟩
   ·exact⟨(g3 x hx z).1,λ_=>(g3 x hx z).2⟩
  have o':own {J w with Pc:=13}=own (J w)/\lI {J w with Pc:=13}=lI (J w):=by rw[o.1,o.2];exact aFR (j:={J w with Pc:=13}) (by simp)
  have oth:Oth b {b with Mem:=m'} k k c c J w {J w with Pc:=13} (IB (J w)) (-1):=
   ⟨λx hx _=>gk x hx,.inl rfl,.inr (.inl nm),λ_ _ _=>⟨rfl,rfl⟩,.inl rfl,λr hr=>.inl hr,λx hx=>.inl (by rw[o'.2] at hx;exact hx),λz=>absurd z (by simp),λ_ _ _ p=>⟨p,rfl⟩,H6 _,λ_ _ _=>rfl⟩
  have chs:=λi' (hi'':HZ i')=>oth.chn h hw hi'' (hnc i' hi'');refine⟨c,h.aR0 hl hw hqv hc hJ oth rfl (λi' hi''=>((chs i' hi'').2 rfl rfl).1) (λi' hi''=>by rw[((chs i' hi'').2 rfl rfl).2];exact h.key i' hi'') (λs=>?_) (λx hx=>(gk x (h.ok w hw x (by rw[o'.1] at hx;exact hx))).1) (λ_=>tw (by simp) ⟨rfl,rfl,rfl,rfl,rfl,rfl⟩ (λ_=>by simp;omega) (λ_=>by simp only;omega) (by simp) (by simp) (λ_=>⟨fd,λa ha=>?_⟩) (λ_=>?_)) (.no (by simp)) (.no (by simp))⟩
  ·have u:=ZV (J:=J) hw {J w with Pc:=13} s;rw[o'.1] at u;have u2:=h.cnt s;rw[ind0 (b':={b with Mem:=m'}) g4 rfl s];omega
  ·have ha':a∈c i:=by rw[show bi {J w with Pc:=13}=i from hi'] at ha;exact ha
   show(dX m' a).Key≠_;rw[((chs i hbk).1 a ha').2];exact fk a ha'
  ·show dX m' (IB (J w))=⟨_,_,(iD k (oJ (sU (J w)).Key)).Head⟩;rw[hi'];exact g2
 ·rw[aP p12];have p13:(J w).Pc=13:=by omega
  rw[jH] at hol;have ln:=t.ln p13;rw[ebi] at ln;rw[fd] at hpl;simp only[bO,bM] at hpl;show ∃c',sQ Ky b (k.set i.toNat {iD k i with Head:=IB (J w)}) c' qn (wJ J w {J w with Pc:=9,K:=(J w).K+1});have o':=aFR (j:={J w with Pc:=9,K:=(J w).K+1}) (by simp);have er':(J w).gO.drop (fX (J w).aI ((J w).K+1)).toNat=r:=by rw[<-enr,hpl];congr 1
  simp only[er'] at o';have e0:lI (J w)=IB (J w)::r:=en;have oth:Oth b b k (k.set i.toNat {iD k i with Head:=IB (J w)}) c (upC c i (IB (J w)::c i)) J w {J w with Pc:=9,K:=(J w).K+1} 0 (-1):=
   ⟨λx hx _=>⟨hx,λ_=>rfl⟩,.inl rfl,.inl rfl,λi' hi'' hq=>⟨by rw[heads _ _ hi'',aP (hno hi'' hq)],VO _ _ (hno hi'' hq)⟩,.inl rfl,λr hr=>.inl hr,λx hx=>.inl (by rw[o'.2] at hx;rw[e0];exact lJ _ hx),λz=>absurd z (by simp),λ_ _ _ p=>⟨p,rfl⟩,H6 _,λ_ _ _=>rfl⟩
  refine⟨upC c i (IB (J w)::c i),h.aR0 hl hw hqv hc hJ oth rfl (λi' hi''=>?_) (λi' hi''=>?_) (λs=>?_) (λx hx=>h.ok w hw x ?_) (λ_=>tw (by simp) ⟨rfl,rfl,rfl,rfl,rfl,rfl⟩ (λ_=>by simp;omega) (by simp) (by simp) (by simp) (by simp) (by simp)) (.no (by simp)) (.no (by simp))⟩
  ·rw[heads _ _ hi''];by_cases z:i'=i
   ·rw[aL z,z,LG];exact⟨rfl,hnw,by rw[ln];exact⟨hx.1,hx.2,hbv.1⟩,by rw[ln];exact hch⟩
   ·rw[aP z,VO _ _ z];exact h.ch i' hi''
  ·by_cases z:i'=i
   ·rw[z,LG];have ek:m6 b.Mem (IB (J w)::c i)=(sU (J w)).Key::m6 b.Mem (c i):=by show(dX b.Mem (IB (J w))).Key::_=_;rw[ln];rfl
    rw[ek];refine⟨aBG.2 ⟨λhm=>?_,hkey.1⟩,λx hx=>?_⟩
    ·obtain⟨a,ha,e⟩:=N0.1 hm;exact fk a ha e
    ·rcases kD.1 hx with rfl|hx
     ·exact⟨hi',t.ky.1 _ hxm⟩
     ·exact hkey.2 x hx
   ·rw[VO _ _ z];exact h.key i' hi''
  ·have u1:=bAG (c:=c) hbk (IB (J w)::c i) s;have u2:=ZV (J:=J) hw {J w with Pc:=9,K:=(J w).K+1} s;rw[o'.1,MT,e0,VQ,VQ,QX] at u2;rw[QX] at u1;have:=h.cnt s;omega
  ·rw[MT,e0];rw[o'.1] at hx;simp only[eD,kD] at hx ⊢;exact hx.imp .inr id
end
def sjT(j:aH):Job:=⟨j.cO,⟨if j.Pc=0 then 5 else if j.Pc=20\/j.Pc=21 then 4 else 3,0,0,0⟩,0,if j.Pc=21 then 1 else 0,j.Sub,0,0,0,0⟩
def EpT(c:aC)(J:Int->aH):Prop:=Ep c λv=>sjT (J v)
theorem aW8(J:Int->aH)(w:Int)(j:aH):(λv=>sjT (wJ J w j v))=upJ (λv=>sjT (J v)) w (sjT j):=by grind[wJ,upJ]
theorem a3C{j:aH}(h:j=dA\/j.Pc≠0/\j.Pc≠20/\(j.Pc=21->j.Sub.Kind=4)):Calm (sjT j):=by
 rcases h with rfl|⟨h1,h2,h3⟩
 ·exact⟨λq=>(by cases q.1),λq=>(by cases q.1),λq=>absurd q (by decide),λq=>absurd q (by decide)⟩
 ·unfold Calm qJ Adv sjT;grind
theorem aOY{j:aH}(hb:j.cO=true)(h:j.Pc=0):qJ (sjT j):=⟨hb,by simp[sjT,h],by simp[sjT,h]⟩
theorem bAT{j:aH}(hb:j.cO=true)(h:j.Pc=20):Adv (sjT j):=⟨hb,by simp[sjT,h],by simp[sjT,h]⟩
theorem aFS{j:aH}(h:j=dA\/j.Pc≠0):¬qJ (sjT j):=λq=>by
 rcases h with rfl|h
 ·cases q.1
 ·have:=q.2.1;unfold sjT at this;grind
theorem a0C{b:aA}{k:List cR}{w:Int}{j:aH}(h:1<=j.Pc/\j.Pc<=19):(qW b k w j).j=dA\/1<=(qW b k w j).j.Pc/\(qW b k w j).j.Pc<=19:=by
 have keep:∀{j':aH},(j'.Pc=j.Pc\/1<=j'.Pc/\j'.Pc<=19)->j'=dA\/1<=j'.Pc/\j'.Pc<=19:=λq=>.inr (by omega);unfold qW;rw[jH];refine dQ (P:=λr=>r.j=dA\/1<=r.j.Pc/\r.j.Pc<=19) (λp=>keep (by grind[VM,zE,A7,JF,aHH,aA8])) λ_=>dQ (P:=λr=>r.j=dA\/1<=r.j.Pc/\r.j.Pc<=19) (λp=>keep (by grind[IN,zE,A7,JF,aHH,aA8])) λ_=>
  dQ (P:=λr=>r.j=dA\/1<=r.j.Pc/\r.j.Pc<=19) (λp=>keep (by grind[HY,A7])) λ_=>dQ (P:=λr=>r.j=dA\/1<=r.j.Pc/\r.j.Pc<=19) (λp=>keep (by grind[O9,PN,A7])) λ_=>
  dQ (P:=λr=>r.j=dA\/1<=r.j.Pc/\r.j.Pc<=19) (λp=>keep (by grind[XP,A7])) λ_=>dQ (P:=λr=>r.j=dA\/1<=r.j.Pc/\r.j.Pc<=19) (λp=>keep (by grind[CL,SA,A7])) λ_=>
  dQ (P:=λr=>r.j=dA\/1<=r.j.Pc/\r.j.Pc<=19) (λp=>keep (by grind[PA,SB])) λ_=>dQ (P:=λr=>r.j=dA\/1<=r.j.Pc/\r.j.Pc<=19) (λp=>keep (by grind[LC,SB])) λ_=>
  dQ (P:=λr=>r.j=dA\/1<=r.j.Pc/\r.j.Pc<=19) (λp=>keep (by grind[JG])) λ_=>dQ (P:=λr=>r.j=dA\/1<=r.j.Pc/\r.j.Pc<=19) (λp=>.inr (by simp)) λ_=>dQ (P:=λr=>r.j=dA\/1<=r.j.Pc/\r.j.Pc<=19) (λp=>.inl rfl) λ_=>.inr (by simp[A7])
section
variable {b:aA} {k:List cR} {J:Int->aH} {w:Int} (hw:fQ w) (hc:JC b.aC) (h:EpT b.aC J) (hB:(J w).cO=true)
include hw hc h hB
theorem aW9{cl:aC}(e:cl=b.aC)(hp:(J w).Pc≠0){j':aH}(hj:j'=dA\/j'.Pc≠0/\j'.Pc≠20/\(j'.Pc=21->j'.Sub.Kind=4)):EpT cl (wJ J w j'):=by unfold EpT;rw[aW8,e];exact h.still hw (aFS (.inr hp)) (a3C hj)
theorem aDI:((J w).Pc=0->(J w).Sub.Kind=5/\(J w).Sub.gL=false/\((J w).Sub.Pc=0\/(J w).Sub.Pc=1/\(0<=(J w).Sub.E/\(J w).Sub.E<=b.aC.aE)\/(J w).Sub.Pc=2/\(b9 b.aC w).aE=(J w).Sub.E)) /\
  ((J w).Pc=20->(J w).Sub.Kind=3/\(J w).Sub.gL=false/\((J w).Sub.Pc=0\/(J w).Sub.E<=b.aC.aE/\((J w).Sub.Pc=1/\(0<=(J w).Sub.B/\(J w).Sub.B<=2)\/(J w).Sub.Pc=2/\(J w).Sub.B=3))):=by
 obtain⟨_,_,a,p⟩:=h.1 w hw hB;exact⟨λq=>p (aOY hB q),λq=>a (bAT hB q)⟩
theorem bLA(hk6:(J w).Pc=6\/(J w).Pc=15/\(J w).K<(J w).cH.length->(J w).Sub.Kind=1\/(J w).Sub.Kind=2)(hk21:(J w).Pc=21->(J w).Sub.Kind=4)(hpc:0<=(J w).Pc/\(J w).Pc<=21):EpT (qW b k w (J w)).b.aC (wJ J w (qW b k w (J w)).j):=by
 obtain⟨s0,s20⟩:=aDI hw hc h hB;by_cases p0:(J w).Pc=0
 ·obtain⟨k5,d,_⟩:=s0 p0;have es:iB b w (J w).Sub=AE b w (J w).Sub:=by grind[iB]
  have e:qW b k w (J w)=⟨(AE b w (J w).Sub).1,k,if(AE b w (J w).Sub).2.gL then {J w with Pc:=1,Sub:=(AE b w (J w).Sub).2} else {J w with Sub:=(AE b w (J w).Sub).2},[]⟩:=by unfold qW;rw[aL (.inl p0)];grind[jT]
  rw[e];unfold EpT;rw[aW8];have:=h.pin hw (b:=b) rfl hc rfl (aOY hB p0) (fin:=sjT {J w with Pc:=1,Sub:=(AE b w (J w).Sub).2}) (a3C (.inr (by simp)));rw[show(sjT (J w)).Sub=(J w).Sub from rfl] at this;cases hd:(AE b w (J w).Sub).2.gL
  ·rw[hd,g7] at this;rw[g7];exact this
  grind
 by_cases p20:(J w).Pc=20
 ·obtain⟨k3,d,_⟩:=s20 p20;have es:iB b w (J w).Sub=cJ b (J w).Sub:=by grind[iB]
  have e:qW b k w (J w)=⟨(cJ b (J w).Sub).1,k,if(cJ b (J w).Sub).2.gL then {J w with Pc:=21,Sub:=AF 4 0} else {J w with Sub:=(cJ b (J w).Sub).2},[]⟩:=by unfold qW;rw[aL (.inr (.inl p20))];grind[jT]
  rw[e];unfold EpT;rw[aW8];have:=h.advance hw (b:=b) rfl hc rfl (bAT hB p20) (fin:=sjT {J w with Pc:=21,Sub:=AF 4 0}) (a3C (.inr (by simp[AF])));rw[show(sjT (J w)).Sub=(J w).Sub from rfl] at this;cases hd:(cJ b (J w).Sub).2.gL
  ·rw[hd,g7] at this;rw[g7];exact this
  grind
 by_cases p21:(J w).Pc=21
 ·have hcl:=EB (b:=b) (w:=w) (s:=(J w).Sub) (by omega);have e:qW b k w (J w)=⟨(jT b w (J w)).1,k,(jT b w (J w)).2,[]⟩:=by simp_all[qW]
  grind[aW9,a42,jT]
 by_cases p18:(J w).Pc=18
 ·have e:qW b k w (J w)=⟨{b with aC:=(D8 b.aC w).1},k,{J w with Pc:=19},[]⟩:=by unfold qW;simp[p18]
  rw[e];unfold EpT;rw[aW8];exact h.bK8 hw hc (aFS (.inr p0)) (a3C (.inr (by simp)))
 have hcl:(qW b k w (J w)).b.aC=b.aC:=by
  unfold qW;rw[jH];refine dQ (P:=λr=>r.b.aC=b.aC) (λp=>rfl) λ_=>dQ (P:=λr=>r.b.aC=b.aC) (λp=>rfl) λ_=>dQ (P:=λr=>r.b.aC=b.aC) (λp=>?_) λ_=>dQ (P:=λr=>r.b.aC=b.aC) (λp=>rfl) λ_=>dQ (P:=λr=>r.b.aC=b.aC) (λp=>rfl) λ_=>
   dQ (P:=λr=>r.b.aC=b.aC) (λp=>by grind[CL]) λ_=>dQ (P:=λr=>r.b.aC=b.aC) (λp=>rfl) λ_=>dQ (P:=λr=>r.b.aC=b.aC) (λp=>?_) λ_=>dQ (P:=λr=>r.b.aC=b.aC) (λp=>by grind[JG]) λ_=>dQ (P:=λr=>r.b.aC=b.aC) (λp=>absurd p p18) λ_=>dQ (P:=λr=>r.b.aC=b.aC) (λp=>rfl) λ_=>rfl
  ·have:=EB (b:=b) (w:=w) (s:=(J w).Sub) (by have:=hk6 (.inl p);omega);unfold HY;grind
  ·unfold LC;split
   ·rfl
   ·exact EB (by have:=hk6 (.inr ⟨p,by omega⟩);omega)
 grind[aW9,a0C]
end
theorem bAU{c:aC}{J:Int->aH}{w:Int}(hw:fQ w)(h:EpT c J)(hn:J w=dA)(x:Batch)(s:Int):EpT c (wJ J w (lB x s)):=by
 unfold EpT;rw[aW8];have e:sjT (lB x s)=⟨true,⟨if x.Collect then 4 else 5,0,0,0⟩,0,0,if x.Collect then AF 3 0 else AF 5 0,0,0,0,0⟩:=by grind[sjT,lB]
 refine h.step hw rfl (λ_ _ _=>rfl) ?_ (λ_ o1 o2=>?_) (λ_=>.inl ?_)
 ·rw[e];intro _;grind[Adv,qJ,AF]
 ·obtain⟨a1,a2⟩:=h.2 w hw (aFS (.inl hn)) o1 o2;grind
 ·rw[e];cases x.Collect<;>rfl
theorem sQ.congr{Ky:List Int}{b:aA}{k:List cR}{c:Int->List Int}{q:Int->Nat}{J J':Int->aH}(h:sQ Ky b k c q J)(e:∀v,fQ v->J' v=J v):sQ Ky b k c q J':=by have e0:=e 0 (by simp[fQ]);have e1:=e 1 (by simp[fQ]);have e2:=e 2 (by simp[fQ]);refine⟨h.hz,h.ch,h.key,λs=>by unfold cnO;rw[e0,e1,e2];exact h.cnt s,λv hv=>by rw[e v hv];exact h.ok v hv,λv hv=>by rw[e v hv];exact h.tw v hv,λv hv=>?_,λv hv=>by rw[e v hv];exact h.sb v hv⟩;rw[e v hv];intro p q;obtain⟨r,⟨a,la⟩,z⟩:=h.rd v hv p q;exact⟨r,⟨⟨a.rp,a.nd,a.ky,λx hx=>⟨(a.sf x hx).1,λu hu=>by rw[e u hu];exact(a.sf x hx).2 u hu⟩⟩,la⟩,z⟩
section
variable {Ky:List Int} {b:aA} {k:List cR} {c:Int->List Int} {q:Int->Nat} {J:Int->aH} {w:Int} (h:sQ Ky b k c q J) (hl:∀v,fQ v->LkJ k v (J v)) (hw:fQ w) (hb:kW b) (hk:k.length=2/\∀x∈k,BkV x) (hJ:∀v,fQ v->(J v).cO=true->JB (J v)) (hB:(J w).cO=true) (hep:EpT b.aC J)
include h hl hw hb hk hJ hB hep
theorem a0D(hp:(J w).Pc=0\/(J w).Pc=20\/(J w).Pc=21):sQ Ky (jT b w (J w)).1 k c q (wJ J w (jT b w (J w)).2):=by
 have hc:=hb.1.2.1;obtain⟨s0,s20⟩:=aDI hw hc hep hB;rcases hp with p|p|p
 ·obtain⟨k5,d,_⟩:=s0 p;have es:iB b w (J w).Sub=AE b w (J w).Sub:=by grind[iB]
  unfold jT;rw[es,aL p];by_cases z:(AE b w (J w).Sub).2.gL=false
  ·rw[aL z];grind[bAM]
  ·rw[aP z];grind[bAM]
 ·obtain⟨k3,d,_⟩:=s20 p;have es:iB b w (J w).Sub=cJ b (J w).Sub:=by grind[iB]
  unfold jT;rw[es,aP (show ¬(J w).Pc=0 by omega),aL p];by_cases z:(cJ b (J w).Sub).2.gL=false
  ·rw[aL z];grind[bAN]
  ·rw[aP z];grind[bAN]
 ·obtain⟨k4,d,_⟩:=(h.sb w hw).col p;have es:iB b w (J w).Sub=bZ b w (J w).Sub:=by simp_all[iB]
  have hE:∀v,fQ v->(J v).Pc=3\/(J v).Pc=4->mO b.aC v->b.aC.aE<=(b9 b.aC v).aE+1:=λv hv q hp=>(hep.2 v hv (aFS (.inr (by omega))) hp.1 hp.2).1;unfold jT;rw[es,aP (show ¬(J w).Pc=0 by omega),aP (show ¬(J w).Pc=20 by omega)];by_cases z:(bZ b w (J w).Sub).2.gL=false
  ·rw[aL z];exact(aOX h hl hw hb hJ hB hE p (.inr ⟨z,rfl⟩)).1
  ·rw[aP z];exact(aOX h hl hw hb hJ hB hE p (.inl ⟨by grind,rfl⟩)).1
theorem bLB:∃c',sQ Ky (qW b k w (J w)).b (qW b k w (J w)).k c' (upQ q w (qF Ky.length (q w) (J w))) (wJ J w (qW b k w (J w)).j):=by
 have hc:=hb.1.2.1;have hpc:=(h.tw w hw hB).pc;have sm:((J w).Pc≠2/\(J w).Pc≠4/\(J w).Pc≠9/\(J w).Pc≠10)->∀{b':aA} {k':List cR} {j':aH},sQ Ky b' k' c q (wJ J w j')->∃c',sQ Ky b' k' c' (upQ q w (qF Ky.length (q w) (J w))) (wJ J w j'):=λz {b' k' j'} s=>⟨c,by
  simp_all[qF,bAE]⟩
 unfold qW;generalize hq:upQ q w (qF Ky.length (q w) (J w))=q' at sm ⊢;refine dQ (P:=λr=>∃c',sQ Ky r.b r.k c' q' (wJ J w r.j)) (λp=>sm (by omega) (a0D h hl hw hb hk hJ hB hep p)) λ_=>dQ (P:=λr=>∃c',sQ Ky r.b r.k c' q' (wJ J w r.j)) (λp=>sm (by omega) (bEP h hl hw hc hJ hB p)) λ_=>dQ (P:=λr=>∃c',sQ Ky r.b r.k c' q' (wJ J w r.j)) (λp=>⟨c,hq ▸ bER h hl hw hc hJ hB p⟩) λ_=>
  dQ (P:=λr=>∃c',sQ Ky r.b r.k c' q' (wJ J w r.j)) (λp=>sm (by omega) (bAO h hl hw hb hJ hB p)) λ_=>dQ (P:=λr=>∃c',sQ Ky r.b r.k c' q' (wJ J w r.j)) (λp=>sm (by omega) (bES h hl hw hc hJ hB hk.1 p)) λ_=>dQ (P:=λr=>∃c',sQ Ky r.b r.k c' q' (wJ J w r.j)) (λp=>sm (by omega) (bIV h hl hw hc hJ hB p)) λ_=>
  dQ (P:=λr=>∃c',sQ Ky r.b r.k c' q' (wJ J w r.j)) (λp=>hq ▸ bAS h hl hw hb hJ hB hk p) λ_=>dQ (P:=λr=>∃c',sQ Ky r.b r.k c' q' (wJ J w r.j)) (λp=>sm (by omega) (a5F h hl hw hc hJ hB hk.1 p)) λ_=>dQ (P:=λr=>∃c',sQ Ky r.b r.k c' q' (wJ J w r.j)) (λp=>sm (by omega) (a5G h hl hw hb hJ hB p)) λ_=>
  dQ (P:=λr=>∃c',sQ Ky r.b r.k c' q' (wJ J w r.j)) (λp=>sm (by omega) (bET h hl hw hb hJ hB p)) λ_=>dQ (P:=λr=>∃c',sQ Ky r.b r.k c' q' (wJ J w r.j)) (λp=>sm (by omega) (bAL h hl hw hc hJ hB p)) λ_=>dQ (P:=λr=>∃c',sQ Ky r.b r.k c' q' (wJ J w r.j)) (λp=>sm (by omega) (a3B h hl hw hc hJ hB p)) λ_=>by omega
end
structure Sft (Ky:List Int) (q:Int->Nat) (t:Table):Prop where
 sv:∃c,sQ Ky t.aA t.bS c q (aQ t)
 lk:aOL t
 ep:EpT t.aA.aC (aQ t)
 qk:∀w,fQ w->∀b∈o5 t w,∀x∈b.bW,x.Key∈Ky
theorem Ep.bAV{c:aC}{J J':Int->aH}(h:EpT c J)(e:∀v,fQ v->J' v=J v):EpT c J':=Ep.congr (J:=λv=>sjT (J v)) h λv hv=>by rw[e v hv]
theorem QY{t:Table}(h3:t.aR.length=3){w:Int}(hw:fQ w){l:List aH}{x:aH}(hl:l=t.aR.set w.toNat x){v:Int}(hv:fQ v):l.getD v.toNat dA=wJ (aQ t) w x v:=aOM h3 hl hw hv
theorem bAW{t:Table}(h3:t.dC.length=3){w v:Int}(hw:fQ w)(hv:fQ v)(l:List Batch):((t.dC.set w.toNat ⟨l⟩).getD v.toNat ⟨[]⟩).List=if v=w then l else o5 t v:=by unfold o5;grind
def nxQ(Ky:List Int)(q:Int->Nat)(t:Table)(w:Int):Int->Nat:=if(aQ t w).cO then upQ q w (qF Ky.length (q w) (aQ t w)) else q
theorem Sft.step{Ky:List Int}{q:Int->Nat}{t:Table}(hv:TV t){w:Int}(hw:fQ w)(h:Sft Ky q t):Sft Ky (nxQ Ky q t w) (iL t w):=by
 have h3:=hv.sV.1;have hJ:∀v,fQ v->(aQ t v).cO=true->JB (aQ t v):=λv hv' hB=>(hv.sV.2 _ (rH h3 hv')).resolve_left λe=>by rw[e] at hB;cases hB
 obtain⟨c,hs⟩:=h.sv;have hlk:=h.lk.step hv hw;have hc:=hv.base.1.2.1;unfold nxQ;unfold iL at hlk ⊢;by_cases hB:(aQ t w).cO=true
 ·rw[aL hB] at hlk ⊢;rw[aL hB];obtain⟨c',q⟩:=bLB hs h.lk hw hv.base hv.bk hJ hB h.ep;have e:∀v,fQ v->aQ (EC t w (qW t.aA t.bS w (aQ t w))) v=wJ (aQ t) w (qW t.aA t.bS w (aQ t w)).j v:=λv hv'=>QY h3 hw rfl hv';have sb:=hs.sb w hw;refine⟨⟨c',q.congr e⟩,hlk,Ep.bAV (bLA hw hc h.ep hB (λp=>?_) (λp=>(sb.col p).1) (hs.tw w hw hB).pc) e,h.qk⟩;rcases p with p|⟨p,p'⟩
  ·exact .inl (sb.al p).1
  ·exact .inr (sb.rt p p').2.1
 ·rw[aP hB] at hlk ⊢;rw[aP hB];by_cases hq:(o5 t w).length=0\/t.aO=1000000
  ·grind
  ·rw[aP hq] at hlk ⊢;have hp0:0<(o5 t w).length:=by omega
   have er:(o5 t w).getD 0 ⟨false,[]⟩=(o5 t w)[0]:=by grind
   have hm:(o5 t w).getD 0 ⟨false,[]⟩∈o5 t w:=by grind
   have hn:aQ t w=dA:=(hv.sV.2 _ (rH h3 hw)).resolve_right λj=>hB j.busy;generalize (o5 t w).getD 0 ⟨false,[]⟩=x at hm hlk;have e:∀v,fQ v->aQ (LD t w x) v=wJ (aQ t) w (lB x (t.aO+1)) v:=λv hv'=>QY h3 hw rfl hv';refine⟨⟨c,(aW6 hs h.lk hw hc hJ hn (h.qk w hw x hm) _).congr e⟩,hlk,Ep.bAV (bAU hw h.ep hn x _) e,λv hv' y hy z hz=>?_⟩;have ev:o5 (LD t w x) v=if v=w then(o5 t w).drop 1 else o5 t v:=bAW hv.todo.1 hw hv' _;rw[ev] at hy;split at hy
   ·exact h.qk w hw y (VW hy) z hz
   ·exact h.qk v hv' y hy z hz
theorem Sft.zero{Ky:List Int}{l:List aN}(hk:∀q∈l,∀b∈q.List,∀x∈b.bW,x.Key∈Ky):Sft Ky (λ_=>0) (eG l):=by
 have ej:∀w,fQ w->aQ (eG l) w=dA:=λw hw=>by rcases(by omega:w=0\/w=1\/w=2) with rfl|rfl|rfl<;>rfl
 have eb:∀i,HZ i->iD (eG l).bS i=⟨0,0,0⟩:=λi hi=>by rcases(by omega:i=0\/i=1) with rfl|rfl<;>rfl
 have o:own dA=[]:=(H0 (.inl (by decide))).1;have e0:=ej 0 (by simp[fQ]);have e1:=ej 1 (by simp[fQ]);have e2:=ej 2 (by simp[fQ]);refine⟨⟨λ_=>[],rfl,λi hi=>by rw[eb i hi];rfl,λi _=>by simp[m6],λs=>?_,λv hv x hx=>?_,λv hv hB=>?_,λv hv=>by rw[ej v hv];exact .no (by decide),λv hv=>by rw[ej v hv];exact .no (by decide)⟩,aOL.zero l,?_,λw hw b hb x hx=>?_⟩
 ·have:ind (eG l).aA s=0:=VT (.inl λq=>by
   have hc:=dL q;obtain⟨h1,h2,_⟩:=rG hc;have h3:=j6.1 (show 0<cM (cA a2K (s/4).toNat) from Int.lt_of_le_of_lt (by omega) h2);rcases(by omega:(s/4).toNat=0\/(s/4).toNat=1\/(s/4).toNat=2\/(s/4).toNat=3\/(s/4).toNat=4\/(s/4).toNat=5) with e|e|e|e|e|e<;>rw[e] at h3<;>exact absurd h3.1 (by decide))
  simp_all[cnC,cnO]
 ·grind
 ·rw[ej v hv] at hB;cases hB
 ·refine⟨λw hw hB=>?_,λw hw _ o1=>?_⟩
  ·have hB':(sjT (aQ (eG l) w)).cO=true:=hB;rw[ej w hw] at hB';cases hB'
  ·rcases(by omega:w=0\/w=1\/w=2) with rfl|rfl|rfl<;>cases o1
 grind[o5,eG]
def VU(e:Int)(s:Sub):Int:=if s.Pc=0 then 3 else if s.Pc=1 then(if s.E=e then 2 else 5) else if s.E=e then 1 else 4
def SC(s:Sub):Int:=if s.Pc=0 then 5 else if s.Pc=1 then 4-s.B else 1
def VV(s:Sub):Int:=if s.Pc=0 then 8 else if s.Pc=1 then 7 else if s.Pc=2 then 6-s.B else 3
def cE(e:Int)(q:Nat)(j:aH):Int:=
 if j.cO=false then 0
 else if j.Pc=0 then VU e j.Sub+j.Batch.bW.length*42+15
 else if j.Pc=1 then(j.Batch.bW.length-j.At)*19+j.Batch.bW.length*23+15
 else if j.Pc=2 then(j.Batch.bW.length-j.At)*19-1+j.Batch.bW.length*23+15
 else if j.Pc=3 then(j.Batch.bW.length-j.At-1)*19+2*q+3+j.Batch.bW.length*23+15
 else if j.Pc=4 then(j.Batch.bW.length-j.At-1)*19+2*q+2+j.Batch.bW.length*23+15
 else if j.Pc=5 then(j.Batch.bW.length-j.At-1)*19+1+j.Batch.bW.length*23+15
 else if j.Pc=6 then(if j.K<fX j.aI j.aI.length then 4*(fX j.aI j.aI.length-j.K)-j.Sub.Pc else 0)+j.aI.length*19+14
 else if j.Pc=7 then(if j.K<(qX j.aI).length then 13-j.K else 11)+j.aI.length*19
 else if j.Pc=8 then(if j.K<j.Reads.length then(j.Reads.length:Int)-j.K else 0)+6+j.bI.length+j.aI.length*19
 else if j.Pc=9 then(if j.K<j.aI.length then((j.aI.length:Int)-j.K)*19 else 0)+5+7*j.cH.length+j.bI.length
 else if j.Pc=10 then(j.aI.length-j.K)*19-3+q+7*j.cH.length+j.bI.length
 else if j.Pc=11 then(j.aI.length-j.K)*19-4+7*j.cH.length+j.bI.length
 else if j.Pc=12 then(j.aI.length-j.K)*19-12+7*j.cH.length+j.bI.length
 else if j.Pc=13 then(j.aI.length-j.K)*19-13+7*j.cH.length+j.bI.length
 else if j.Pc=14 then 4+7*j.cH.length+j.bI.length
 else if j.Pc=15 then(if j.K<j.cH.length then 3+7*(j.cH.length-j.K)-j.Sub.Pc else 3)
 else if j.Pc=16 then 4+j.gO.length+j.bI.length
 else if j.Pc=17 then 3+j.gO.length
 else if j.Pc=18 then 2
 else if j.Pc=19 then 1
 else if j.Pc=20 then SC j.Sub+8
 else VV j.Sub
section
variable {e:Int} {q:Nat} {j:aH} (hB:j.cO=true)
include hB
theorem jc0(hp:j.Pc=0):cE e q j=VU e j.Sub+j.Batch.bW.length*42+15:=by simp_all[cE]
theorem jc1(hp:j.Pc=1):cE e q j=(j.Batch.bW.length-j.At)*19+j.Batch.bW.length*23+15:=by simp_all[cE]
theorem jc2(hp:j.Pc=2):cE e q j=(j.Batch.bW.length-j.At)*19-1+j.Batch.bW.length*23+15:=by simp_all[cE]
theorem jc3(hp:j.Pc=3):cE e q j=(j.Batch.bW.length-j.At-1)*19+2*q+3+j.Batch.bW.length*23+15:=by simp_all[cE]
theorem jc4(hp:j.Pc=4):cE e q j=(j.Batch.bW.length-j.At-1)*19+2*q+2+j.Batch.bW.length*23+15:=by simp_all[cE]
theorem jc5(hp:j.Pc=5):cE e q j=(j.Batch.bW.length-j.At-1)*19+1+j.Batch.bW.length*23+15:=by simp_all[cE]
theorem jc6(hp:j.Pc=6):cE e q j=(if j.K<fX j.aI j.aI.length then 4*(fX j.aI j.aI.length-j.K)-j.Sub.Pc else 0)+j.aI.length*19+14:=by simp_all[cE]
theorem jc7(hp:j.Pc=7):cE e q j=(if j.K<(qX j.aI).length then 13-j.K else 11)+j.aI.length*19:=by simp_all[cE]
theorem jc8(hp:j.Pc=8):cE e q j=(if j.K<j.Reads.length then(j.Reads.length:Int)-j.K else 0)+6+j.bI.length+j.aI.length*19:=by simp_all[cE]
theorem jc9(hp:j.Pc=9):cE e q j=(if j.K<j.aI.length then((j.aI.length:Int)-j.K)*19 else 0)+5+7*j.cH.length+j.bI.length:=by simp_all[cE]
theorem bEW(hp:j.Pc=10):cE e q j=(j.aI.length-j.K)*19-3+q+7*j.cH.length+j.bI.length:=by simp_all[cE]
theorem bIX(hp:j.Pc=11):cE e q j=(j.aI.length-j.K)*19-4+7*j.cH.length+j.bI.length:=by simp_all[cE]
theorem bIY(hp:j.Pc=12):cE e q j=(j.aI.length-j.K)*19-12+7*j.cH.length+j.bI.length:=by simp_all[cE]
theorem bIZ(hp:j.Pc=13):cE e q j=(j.aI.length-j.K)*19-13+7*j.cH.length+j.bI.length:=by simp_all[cE]
theorem bEX(hp:j.Pc=14):cE e q j=4+7*j.cH.length+j.bI.length:=by simp_all[cE]
theorem a0E(hp:j.Pc=15):cE e q j=(if j.K<j.cH.length then 3+7*(j.cH.length-j.K)-j.Sub.Pc else 3):=by simp_all[cE]
theorem bAX(hp:j.Pc=16):cE e q j=4+j.gO.length+j.bI.length:=by simp_all[cE]
theorem bI0(hp:j.Pc=17):cE e q j=3+j.gO.length:=by simp_all[cE]
theorem bEY(hp:j.Pc=18):cE e q j=2:=by simp_all[cE]
theorem bEZ(hp:j.Pc=19):cE e q j=1:=by simp_all[cE]
theorem bAY(hp:j.Pc=20):cE e q j=SC j.Sub+8:=by simp_all[cE]
theorem a0F(hp:j.Pc=21):cE e q j=VV j.Sub:=by simp_all[cE]
end
def jM(b:aA)(w:Int):Int:=(bQ b.aM w).length
theorem aFT{x:Sub}{A B:aH}(h:x.gL=false):(if x.gL=false then A else B)=A:=aL h
theorem aR2{j:aH}(hj:JB j):j.bI.length<=2:=by
 have:=ED (l:=j.bI) (m:=[0,1]) hj.held.2 λx hx=>by have:=hj.held.1 x hx;simp;omega
 omega
section
variable {Ky:List Int} {b:aA} {k:List cR} {c:Int->List Int} {q:Int->Nat} {J:Int->aH} {w:Int} (hK:Ky.length<=8) (h:sQ Ky b k c q J) (hl:∀v,fQ v->LkJ k v (J v)) (hw:fQ w) (hb:kW b) (hk:k.length=2/\∀x∈k,BkV x) (hJ:∀v,fQ v->(J v).cO=true->JB (J v)) (hB:(J w).cO=true) (hep:EpT b.aC J)
include hK h hl hw hb hk hJ hB hep
theorem aUE{e:Int}{n:Nat}{j':aH}{x:Int}(hn:j'.gO.length<=(J w).aI.length/\j'.bI.length<=2):cE e n (A7 j' x)<=6+(J w).aI.length:=by
 cases hb':j'.cO
 ·unfold cE;rw[aL (show(A7 j' x).cO=false from hb')];omega
 grind[bAX,A7]
theorem aXA{e:Int}{n:Nat}{j:aH}{v:Int}{is:Bool}(h1:1<=j.Pc/\j.Pc<=5)(t:TW Ky b.Mem k c n j)(hj:JB j)(ha:CJ j):cE e n (JF j (fP j) v is)<=(j.Batch.bW.length-j.At-1)*19+j.Batch.bW.length*23+15:=by
 obtain⟨t1,t2⟩:=a0A t hj h1 ha v is;have hat:(JF j (fP j) v is).At=j.At+1/\(JF j (fP j) v is).Batch=j.Batch/\(JF j (fP j) v is).cO=j.cO:=by
  have hm:=aFQ j.aI ⟨(fP j).Key,false,XO (if is then v else 0) (fP j).eI⟩;have:=t.wl;have:=hj.bat.2.1;unfold CJ at ha;unfold JF;split
  ·unfold aHH zE aA8;grind
  ·exact⟨rfl,rfl,rfl⟩
 rw[jc1 (hat.2.2.trans hj.busy) t2,hat.1,hat.2.1];omega
theorem bAZ(hp:(J w).Pc=0\/(J w).Pc=20\/(J w).Pc=21):cE (jT b w (J w)).1.aC.aE (q w) (jT b w (J w)).2+5*jM (jT b w (J w)).1 w+1<=cE b.aC.aE (q w) (J w)+5*jM b w/\((jT b w (J w)).1.aC.aE=b.aC.aE\/(J w).Pc=20/\(jT b w (J w)).2.Pc=21):=by
 have hc:=hb.1.2.1;have hj:=hJ w hw hB;have hat:=hj.at_;obtain⟨s0,s20⟩:=aDI hw hc hep hB;rcases hp with p|p|p
 ·obtain⟨k5,d,s⟩:=s0 p;have es:iB b w (J w).Sub=AE b w (J w).Sub:=by simp_all[iB]
  obtain⟨cl,e,e1,e2⟩:=aZ9 hc hw (J w).Sub;unfold jT;rw[es,aL p,jc0 hB p];have hr:jM (AE b w (J w).Sub).1 w=jM b w:=by rw[e];rfl
  have he:(AE b w (J w).Sub).1.aC.aE=b.aC.aE:=by grind
  simp only[hr,he];refine⟨?_,.inl trivial⟩;rcases s with z|⟨z,z1,z2⟩|⟨z,z1⟩
  ·have e3:(AE b w (J w).Sub).2={(J w).Sub with Pc:=1,E:=b.aC.aE}:=by unfold AE;grind
   rw[e3,aFT (by exact d),jc0 (by exact hB) (by exact p)];grind[VU]
  ·have e3:(AE b w (J w).Sub).2={(J w).Sub with Pc:=2}:=by simp_all[R9,AE]
   rw[e3,aFT (by exact d),jc0 (by exact hB) (by exact p)];grind[VU]
  ·by_cases y:b.aC.aE=(J w).Sub.E
   ·have e3:(AE b w (J w).Sub).2=qY (J w).Sub 0:=by unfold AE;grind
    rw[e3,aP (by simp[qY]),jc1 (by exact hB) rfl];grind[VU]
   ·have e3:(AE b w (J w).Sub).2={(J w).Sub with Pc:=0}:=by unfold AE;grind
    rw[e3,aFT (by exact d),jc0 (by exact hB) (by exact p)];unfold VU;grind
 ·obtain⟨k3,d,s⟩:=s20 p;have es:iB b w (J w).Sub=cJ b (J w).Sub:=by grind[iB]
  have hr:jM (cJ b (J w).Sub).1 w=jM b w:=by obtain⟨cl,e,_⟩:=aUC hc (J w).Sub;rw[e];rfl
  unfold jT;rw[es,aP (show ¬(J w).Pc=0 by omega),aL p,bAY hB p];simp only[hr];have dn:∀{x:Sub} {b':aA},x.gL=true->1<=SC (J w).Sub->cE b'.aC.aE (q w) (if x.gL=false then {J w with Sub:=x} else {J w with Pc:=21,Sub:=AF 4 0})+5*jM b w+1<=SC (J w).Sub+8+5*jM b w/\(b'.aC.aE=b.aC.aE\/(J w).Pc=20/\(if x.gL=false then {J w with Sub:=x} else {J w with Pc:=21,Sub:=AF 4 0}).Pc=21):=λ{x b'} hx h1=>by rw[aP (by simp[hx]),a0F (by exact hB) rfl];grind[VV,AF]
  rcases s with z|⟨_,⟨z,z1⟩|⟨z,z1⟩⟩
  ·have e3:cJ b (J w).Sub=(b,{(J w).Sub with Pc:=1,E:=b.aC.aE,B:=0}):=by simp_all[cJ]
   rw[e3,aFT (by exact d),bAY (by exact hB) (by exact p)];grind[SC]
  ·by_cases y:(EX b.aC (J w).Sub.B (J w).Sub.E).2=true
   ·have e3:cJ b (J w).Sub=({b with aC:=(EX b.aC (J w).Sub.B (J w).Sub.E).1},{(J w).Sub with Pc:=if(J w).Sub.B=2 then 2 else 1,B:=(J w).Sub.B+1}):=by simp_all[cJ]
    rw[e3,aFT (by exact d),bAY (by exact hB) (by exact p)];grind[ZP,SC]
   ·have e3:(cJ b (J w).Sub).2=qY (J w).Sub 8:=by simp_all[cJ]
    rw[e3];exact dn rfl (by unfold SC;omega)
  ·have e3:(cJ b (J w).Sub).2.gL=true:=by unfold cJ;rw[jH,jH,aL z];rfl
   exact dn e3 (by simp_all[SC])
 ·obtain⟨k4,d,s⟩:=(h.sb w hw).col p;have es:iB b w (J w).Sub=bZ b w (J w).Sub:=by simp_all[iB]
  have hcl:(bZ b w (J w).Sub).1.aC=b.aC:=by grind[EB]
  unfold jT;rw[es,aP (show ¬(J w).Pc=0 by omega),aP (show ¬(J w).Pc=20 by omega),a0F hB p];simp only[hcl];refine⟨?_,.inl trivial⟩;rcases s with z|⟨_,⟨z,r0⟩|⟨z,hB2,ha,hr⟩|⟨z,ha,hr⟩⟩
  ·have e:bZ b w (J w).Sub=(b,{(J w).Sub with Pc:=1,E:=b.aC.aE,Row:=0}):=by simp_all[bZ]
   rw[e,aFT (by exact d),a0F (by exact hB) (by exact p)];grind[VV]
  ·by_cases y:mA (bQ b.aM w) (J w).Sub.E (J w).Sub.Row.toNat<(bQ b.aM w).length
   ·have e:bZ b w (J w).Sub=(b,{(J w).Sub with Pc:=2,Row:=(mA (bQ b.aM w) (J w).Sub.E (J w).Sub.Row.toNat:Int),B:=0,H:=(LB (bQ b.aM w) (mA (bQ b.aM w) (J w).Sub.E (J w).Sub.Row.toNat:Int)).Handle}):=by simp_all[bZ]
    rw[e,aFT (by exact d),a0F (by exact hB) (by exact p)];grind[VV]
   ·have e:bZ b w (J w).Sub=(b,qY (J w).Sub 0):=by simp_all[bZ,aP]
    rw[e,aP (by simp[qY]),bEZ (by exact hB) rfl];grind[VV]
  ·have hH:(J w).Sub.H≠0:=by have:=(hb.2 _ (zD hb.1.2.2.1 hw (ZM ⟨ha.1,ha.2.1⟩))).1.1;rw[ha.2.2] at this;grind[kU]
   have e:bZ b w (J w).Sub=(b,{(J w).Sub with Pc:=if(J w).Sub.B=2 then 3 else 2,B:=(J w).Sub.B+1}):=by unfold bZ;rw[jH,jH,aL z,aL ⟨hB2,ha⟩,aP (by rw[bAP h.hz hB2];omega)]
   rw[e,aFT (by exact d),a0F (by exact hB) (by exact p)];unfold VV;grind
  ·have e:bZ b w (J w).Sub=({b with Mem:=oP b.Mem w (J w).Sub.H,aM:=b.aM.set w.toNat ⟨(bQ b.aM w).eraseIdx (J w).Sub.Row.toNat⟩},{(J w).Sub with Pc:=1,Out:=bA ((J w).Sub.Out+1)}):=by simp_all[bZ]
   rw[e,aFT (by exact d),a0F (by exact hB) (by exact p)];have h3:=hb.1.2.2.1.1;have er:jM ({b with Mem:=oP b.Mem w (J w).Sub.H,aM:=b.aM.set w.toNat ⟨(bQ b.aM w).eraseIdx (J w).Sub.Row.toNat⟩}:aA) w=jM b w-1:=by have h1:=ha.1;have h2:=ha.2.1;unfold jM bQ at *;grind
   simp only[er];unfold VV;grind
end
section
variable {Ky:List Int} {b:aA} {k:List cR} {c:Int->List Int} {q:Int->Nat} {J:Int->aH} {w:Int} (hK:Ky.length<=8) (h:sQ Ky b k c q J) (hl:∀v,fQ v->LkJ k v (J v)) (hw:fQ w) (hb:kW b) (hk:k.length=2/\∀x∈k,BkV x) (hJ:∀v,fQ v->(J v).cO=true->JB (J v)) (hB:(J w).cO=true) (hep:EpT b.aC J)
include hK h hl hw hb hk hJ hB hep
theorem a5H{e:Int}{n:Nat}(hp:(J w).Pc=1):cE e n (VM (J w))+1<=cE e n (J w):=by
 have t:=h.tw w hw hB;have hj:=hJ w hw hB;have hat:=hj.at_;have t1:TW Ky b.Mem k c n (J w):={t with st:=λz=>absurd z (by omega)};rw[jc1 hB hp];unfold VM;split
 ·rename_i ha;split
  ·have h6:=hj.bat.2.1;have wl:=t.wl;have hlen:=aFQ (J w).aI ⟨(fP (J w)).Key,(fP (J w)).Kind == 3,(fP (J w)).eI⟩;unfold CJ at ha;unfold zE;rw[aP (show ¬6<(MP (J w).aI ⟨(fP (J w)).Key,(fP (J w)).Kind == 3,(fP (J w)).eI⟩).length by omega),aL rfl,jc1 (by exact hB) (by exact hp)];grind
  ·split
   ·have:=aXA hK h hl hw hb hk hJ hB hep (e:=e) (n:=n) (v:=(aJ5 (J w).aI (fP (J w)).Key).1.eI) (is:=!(aJ5 (J w).aI (fP (J w)).Key).1.KJ) (by omega) t1 hj ha;omega
   ·rw[jc2 (by exact hB) rfl];grind
 ·rename_i ha;have wl:=t.wl;have pl:=T2 (J w).aI (J w).aI.length;grind[jc6,AF]
theorem a5I{e:Int}(hp:2<=(J w).Pc/\(J w).Pc<=5):cE e (qF Ky.length (q w) (J w)) (IN b k w (J w))+1<=cE e (q w) (J w):=by
 have t:=h.tw w hw hB;have hj:=hJ w hw hB;have hat:=hj.at_;have ha:=t.hc hp;have wl:=t.wl;have h2:=aR2 hj;have hN:=t.nO (by omega);have ab:∀{j':aH} {x:Int},j'.gO=(J w).gO/\j'.bI=(J w).bI->∀n,cE e n (A7 j' x)<=6+(J w).aI.length:=λ{j' x} z n=>aUE hK h hl hw hb hk hJ hB hep (by grind);have ha':(J w).At<(J w).Batch.bW.length:=ha;unfold IN;by_cases p2:(J w).Pc=2
 ·rw[aL p2,jc2 hB p2];split
  ·grind
  ·have hq:qF Ky.length (q w) (J w)<=7:=by simp_all[qF]
   split
   ·rw[jc5 (by exact hB) rfl];grind
   ·rw[jc3 (by exact hB) rfl];grind
 rw[aP p2];by_cases p3:(J w).Pc=3
 ·rw[aL p3,jc3 hB p3,jc4 (by exact hB) rfl,show qF Ky.length (q w) (J w)=q w by simp_all[qF]];grind
 rw[aP p3];by_cases p4:(J w).Pc=4
 ·rw[aL p4,jc4 hB p4];split
  ·grind
  ·rename_i hpn;have hpin:mO b.aC w:=Classical.byContradiction hpn;obtain⟨r,⟨a,la⟩,a5⟩:=h.rd w hw (.inr p4) hpin;obtain⟨_,a6⟩:=a5 p4;by_cases z:(J w).Node.Key=(fP (J w)).Key\/TZ (J w).Node=0
   ·rw[aL z,jc5 (by exact hB) rfl];grind
   ·rw[aP z,jc3 (by exact hB) rfl];have hq:qF Ky.length (q w) (J w)=q w-1:=by simp_all[qF]
    grind[TZ]
 rw[aP p4,jc5 hB (by omega)];split
 ·grind
 split
 ·grind
 have tr:TW Ky b.Mem k c (qF Ky.length (q w) (J w)) {J w with Reads:=(IM (J w).Reads (J w).cR (J w).kC).1}:={t with st:=λz=>absurd z (by grind)};have:=aXA hK h hl hw hb hk hJ hB hep (e:=e) (v:=(J w).Node.eI) (is:=(J w).Found) (by grind) tr (hj.spt _ _ hj.bkt) ha;exact aK6 (Int.add_le_add_right this 1) (by grind)
theorem a0G(hp:(J w).Pc=6):cE b.aC.aE (q w) (HY b w (J w)).2+1<=cE b.aC.aE (q w) (J w):=by
 have t:=h.tw w hw hB;have hj:=hJ w hw hB;have h2:=aR2 hj;have hn6:=t.n6 hp;have pl:=T2 (J w).aI (J w).aI.length;obtain⟨s1,s2,s3,s4⟩:=(h.sb w hw).al hp;rw[jc6 hB hp];unfold HY;by_cases c1:fX (J w).aI (J w).aI.length<=(J w).K
 ·rw[aL c1,jc7 (by exact hB) rfl];grind
 rw[aP c1,aL (show(J w).K<_ by omega)];obtain⟨q1,q2,q3,q4⟩:=aUA hb.1.1 hw s1 s2 s3 s4;have hwl:=hj.wr.1;simp only;rcases q4 with ⟨em,⟨d,e⟩|⟨e1,e2⟩⟩|⟨d,e,wk,tk,kn⟩
 ·rw[aP (by grind),aL (.inl (by omega))];exact aK6 (Int.add_le_add_right (aUE hK h hl hw hb hk hJ hB hep (e:=b.aC.aE) (n:=q w) (j':={J w with Sub:=(iB b w (J w).Sub).2}) (x:=(iB b w (J w).Sub).2.Code) ⟨by grind,h2⟩) 1) (by omega)
 ·rw[aL (by grind),jc6 (by exact hB) (by exact hp),e2];grind
 ·rw[aP (by grind),aP (by
   rintro(q|q|q)
   ·exact q e
   ·exact q wk.1.1
   ·omega),jc6 (by exact hB) (by exact hp)]
  grind[AF]
theorem a5J{e:Int}{n:Nat}(hp:(J w).Pc=7):cE e n (O9 k w (J w)).2.1+1<=cE e n (J w):=by
 have t:=h.tw w hw hB;have hj:=hJ w hw hB;have h2:=aR2 hj;have hr2:=hj.rd2;have hn7:=(t.n7 (by omega)).1;have pl:=T2 (J w).aI (J w).aI.length;have tl:=aTT (J w).aI;have ab:∀x,cE e n (A7 (J w) x)<=6+(J w).aI.length:=λx=>aUE hK h hl hw hb hk hJ hB hep ⟨by omega,h2⟩;rw[jc7 hB hp];unfold O9;by_cases c1:(J w).K<(qX (J w).aI).length
 ·rw[aL c1,aL c1];have hk0:=hj.k;split
  ·grind
  split
  ·grind
  have h1:(PN (J w)).bI.length<=2:=by
   have hi:(J w).K.toNat<(qX (J w).aI).length:=by omega
   have er:gJ (J w)=(qX (J w).aI)[(J w).K.toNat]:=by grind[gJ]
   have hbk:0<=gJ (J w)/\gJ (J w)<=1:=by grind[ZG,dJ]
   unfold PN;simp only;split
   ·exact h2
   ·rename_i hm;have:=ED (l:=(J w).bI++[gJ (J w)]) (m:=[0,1]) (aQW.2 ⟨hj.held.2,by simp,λa ha y hy=>by grind⟩) λx hx=>by
     rcases eD.1 hx with hx|hx
     ·have:=hj.held.1 x hx;simp;omega
     grind
    omega
  split
  ·grind[jc8,PN]
  ·rw[jc7 (by exact hB) (by exact hp)];unfold PN;grind
 ·rw[aP c1,aP c1,jc8 (by exact hB) rfl];grind
theorem bA0{e:Int}{n:Nat}(hp:(J w).Pc=8):cE e n (XP k w (J w))+1<=cE e n (J w):=by
 have t:=h.tw w hw hB;have hj:=hJ w hw hB;have h2:=aR2 hj;have hO:=t.oO (by omega);have hn7:=(t.n7 (by omega)).1;have pl:=T2 (J w).aI (J w).aI.length;rw[jc8 hB hp];unfold XP;by_cases c1:((J w).Reads.length:Int)<=(J w).K
 ·rw[aL c1,jc9 (by exact hB) rfl];grind
 rw[aP c1,aL (show(J w).K<_ by omega)];grind[bAX,A7,jc8]
theorem bA1{e:Int}{n:Nat}(hp:(J w).Pc=14\/(J w).Pc=16):cE e n (PA k (J w)).2+1<=cE e n (J w):=by
 unfold PA;by_cases c1:0<(J w).bI.length
 ·rw[aL c1];grind[bEX,bAX]
 ·rw[aP c1];rcases hp with p|p
  ·rw[jH,bEX hB p];unfold SB;by_cases z:(0:Int)<(J w).cH.length
   ·rw[aL z,a0E (by exact hB) rfl];simp only[AF];omega
   simp_all[a0E]
  ·rw[aL p,bAX hB p,bI0 (by exact hB) rfl];grind
theorem bA2{e:Int}{n:Nat}(hp:(J w).Pc=15):cE e n (LC b w (J w)).2+5*jM (LC b w (J w)).1 w+1<=cE e n (J w)+5*jM b w:=by
 have hj:=hJ w hw hB;unfold LC;rw[a0E hB hp];by_cases c1:((J w).cH.length:Int)<=(J w).K
 ·rw[aL c1,bEY (by exact hB) rfl,aP (show ¬(J w).K<_ by omega)];grind
 rw[aP c1,aL (show(J w).K<_ by omega)];obtain⟨s0,s1,s2,s3,s4⟩:=(h.sb w hw).rt hp (by omega);have es:iB b w (J w).Sub=xF b w (J w).Sub:=by grind[iB]
 rw[es];rcases s4 with p0|⟨p1,e0,e1⟩
 ·have er:xF b w (J w).Sub=(b,{(J w).Sub with Pc:=1,E:=b.aC.aE}):=by simp_all[xF]
  rw[er,aP (by simp[s2]),a0E (by exact hB) (by exact hp)];grind
 ·have hr:jM (xF b w (J w).Sub).1 w<=jM b w+1/\(xF b w (J w).Sub).2.gL=true:=by
   have h3:=hb.1.2.2.1.1;unfold xF;rw[jH,aL p1,aL ⟨e0,e1⟩];split
   ·refine⟨?_,rfl⟩;unfold jM bQ;grind
   ·exact⟨by grind,rfl⟩
  rw[aL hr.2];unfold SB;by_cases z:(J w).K+1<(J w).cH.length
  ·rw[aL z,a0E (by exact hB) (by exact hp)];simp only[AF];omega
  ·rw[aP z,a0E (by exact hB) (by exact hp)];grind
end
section
variable {Ky:List Int} {b:aA} {k:List cR} {c:Int->List Int} {q:Int->Nat} {J:Int->aH} {w:Int} (hK:Ky.length<=8) (h:sQ Ky b k c q J) (hl:∀v,fQ v->LkJ k v (J v)) (hw:fQ w) (hb:kW b) (hk:k.length=2/\∀x∈k,BkV x) (hJ:∀v,fQ v->(J v).cO=true->JB (J v)) (hB:(J w).cO=true) (hep:EpT b.aC J)
include hK h hl hw hb hk hJ hB hep
theorem bA3{e:Int}(hp:9<=(J w).Pc/\(J w).Pc<=13):cE e (qF Ky.length (q w) (J w)) (CL b k (J w)).2.2+1<=cE e (q w) (J w):=by
 have t:=h.tw w hw hB;have hj:=hJ w hw hB;have hk0:=hj.k;generalize hn:qF Ky.length (q w) (J w)=n;have place:∀{j1:aH},j1.cO=true->(J w).K<(J w).aI.length->j1.aI=(J w).aI/\j1.K=(J w).K/\j1.bI=(J w).bI->cE e n (SA j1 (sU (J w)))<=((J w).aI.length-(J w).K)*19-12+7*j1.cH.length+(J w).bI.length:=λ{j1} hb1 hlt ⟨e1,e2,e3⟩=>by grind[SA,jc9,bIY]
 unfold CL;by_cases c1:((J w).aI.length:Int)<=(J w).K
 ·have p9:(J w).Pc=9:=by have:=t.k9;omega
  rw[aL c1,jc9 hB p9,bEX (by exact hB) rfl,aP (show ¬(J w).K<_ by omega)];grind
 rw[aP c1];have hlt:(J w).K<(J w).aI.length:=by omega
 by_cases p9:(J w).Pc=9
 ·rw[aL p9,jc9 hB p9,aL hlt];have hq:n<=7:=by rw[<-hn];unfold qF;grind
  simp only;split
  ·grind
  ·rw[bEW (by exact hB) rfl];grind
 rw[aP p9];by_cases p10:(J w).Pc=10
 ·rw[aL p10,bEW hB p10];simp only;obtain⟨A,B,e1,⟨e2,e3⟩,e4⟩:=t.st (.inl p10);have hq:n=q w-1:=by simp_all[qF]
  split
  ·rw[bIX (by exact hB) rfl];grind
  split
  ·grind
  ·rename_i z1 z2;rw[bEW (by exact hB) (by exact p10),hq];have hi:(J w).K.toNat<(J w).aI.length:=by omega
   have er:sU (J w)=(J w).aI[(J w).K.toNat]:=by grind[sU]
   have hx:=hj.wr.2.1 _ (show sU (J w)∈(J w).aI by grind);have hbk:HZ (bi (J w)):=by unfold bi oJ;omega
   have hch:=h.ch _ hbk;rw[e1] at hch;have hH:=hch.split;rw[a0B hH.2.1,bAR hH.2.2.1] at z2;have:1<=B.length:=by
    match B,hH.2.2.2 with
    |[],y=>exact absurd y z2
    |_::_,_=>simp
   grind
 rw[aP p10];by_cases p11:(J w).Pc=11
 ·rw[aL p11,bIX hB p11];grind[T1]
 rw[aP p11];obtain⟨nm,_⟩:=aOT h hw t hj (by omega);have hlen:¬((J w).gO.length:Int)<=fX (J w).aI (J w).K:=λz=>by simp_all[fX,aK7,aFR]
 rw[aP hlen];by_cases p12:(J w).Pc=12
 ·rw[aL p12,bIY hB p12,bIZ (by exact hB) rfl];grind
 ·rw[aP p12,bIZ hB (by omega),jc9 (by exact hB) rfl];grind
theorem a3D:cE (qW b k w (J w)).b.aC.aE (qF Ky.length (q w) (J w)) (qW b k w (J w)).j+5*jM (qW b k w (J w)).b w+1<=cE b.aC.aE (q w) (J w)+5*jM b w/\((qW b k w (J w)).b.aC.aE=b.aC.aE\/(J w).Pc=20/\(qW b k w (J w)).j.Pc=21):=by
 have hc:=hb.1.2.1;have t:=h.tw w hw hB;have hpc:=t.pc;have sm:((J w).Pc≠2/\(J w).Pc≠4/\(J w).Pc≠9/\(J w).Pc≠10)->qF Ky.length (q w) (J w)=q w:=λz=>by simp_all[qF]
 generalize hn:qF Ky.length (q w) (J w)=n at sm;have fl:∀{b':aA} {k':List cR} {j':aH} {l:List H9},b'.aC.aE=b.aC.aE->jM b' w=jM b w->cE b.aC.aE n j'+1<=cE b.aC.aE (q w) (J w)->cE (⟨b',k',j',l⟩:TR).b.aC.aE n (⟨b',k',j',l⟩:TR).j+5*jM (⟨b',k',j',l⟩:TR).b w+1<=cE b.aC.aE (q w) (J w)+5*jM b w/\((⟨b',k',j',l⟩:TR).b.aC.aE=b.aC.aE\/(J w).Pc=20/\(⟨b',k',j',l⟩:TR).j.Pc=21):=λ{b' k' j' l} e1 e2 e3=>⟨by grind,.inl e1⟩;unfold qW;have P:∀{c:Prop} [Decidable c] {x y:TR},(c->cE x.b.aC.aE n x.j+5*jM x.b w+1<=cE b.aC.aE (q w) (J w)+5*jM b w/\(x.b.aC.aE=b.aC.aE\/(J w).Pc=20/\x.j.Pc=21))->(¬c->cE y.b.aC.aE n y.j+5*jM y.b w+1<=cE b.aC.aE (q w) (J w)+5*jM b w/\(y.b.aC.aE=b.aC.aE\/(J w).Pc=20/\y.j.Pc=21))->_:=
  dQ (P:=λr=>cE r.b.aC.aE n r.j+5*jM r.b w+1<=cE b.aC.aE (q w) (J w)+5*jM b w/\(r.b.aC.aE=b.aC.aE\/(J w).Pc=20/\r.j.Pc=21))
 refine P (λp=>?_) λ_=>P (λp=>fl rfl rfl (by rw[sm (by omega)];exact a5H hK h hl hw hb hk hJ hB hep p)) λ_=>P (λp=>fl rfl rfl (hn ▸ a5I hK h hl hw hb hk hJ hB hep p)) λ_=>P (λp=>?_) λ_=>P (λp=>fl rfl rfl (by rw[sm (by omega)];exact a5J hK h hl hw hb hk hJ hB hep p)) λ_=>P (λp=>fl rfl rfl (by rw[sm (by omega)];exact bA0 hK h hl hw hb hk hJ hB hep p)) λ_=>
  P (λp=>fl (b':=(CL b k (J w)).1) (k':=(CL b k (J w)).2.1) (j':=(CL b k (J w)).2.2) (l:=[]) (by grind[CL]) (by grind[CL,jM]) (hn ▸ bA3 hK h hl hw hb hk hJ hB hep p)) λ_=>P (λp=>fl rfl rfl ?_) λ_=>P (λp=>?_) λ_=>P (λp=>?_) λ_=>P (λp=>?_) λ_=>P (λp=>fl rfl rfl ?_) λ_=>by omega
 ·rw[sm (by omega)];obtain⟨a1,a2⟩:=bAZ hK h hl hw hb hk hJ hB hep p;grind
 ·obtain⟨s1,s2,s3,s4⟩:=(h.sb w hw).al p;obtain⟨q1,q2,q3,_⟩:=aUA hb.1.1 hw s1 s2 s3 s4;have e1:(HY b w (J w)).1.aC=b.aC:=by grind[HY]
  have e2:(HY b w (J w)).1.aM=b.aM:=by grind[HY]
  exact fl (b':=(HY b w (J w)).1) (k':=k) (j':=(HY b w (J w)).2) (l:=[]) (cB aC.aE e1) (cB (λl=>((bQ l w).length:Int)) e2) (by rw[sm (by omega)];exact a0G hK h hl hw hb hk hJ hB hep p)
 ·rw[sm (by omega)];exact bA1 hK h hl hw hb hk hJ hB hep p
 ·have hcl:(LC b w (J w)).1.aC=b.aC:=by
   unfold LC;split
   ·rfl
   ·exact EB (by have:=(h.sb w hw).rt p (by omega);omega)
  refine⟨?_,.inl (by rw[hcl])⟩;simp only;rw[hcl,sm (by omega)];exact bA2 hK h hl hw hb hk hJ hB hep p
 ·have e:(JG b w (J w)).1.aC=b.aC/\(JG b w (J w)).1.aM=b.aM:=by grind[JG]
  refine fl (b':=(JG b w (J w)).1) (k':=k) (j':=(JG b w (J w)).2) (l:=[]) (cB aC.aE e.1) (cB (λl=>((bQ l w).length:Int)) e.2) ?_;grind[bI0,JG,bEY]
 ·refine fl (b':={b with aC:=(D8 b.aC w).1}) (k':=k) (j':={J w with Pc:=19}) (l:=[]) (aOU hc hw).1 rfl ?_;grind[bEY,bEZ]
 ·rw[bEZ hB p];unfold cE;rw[aL (show dA.cO=false from rfl)];omega
end
theorem a5K(e e':Int)(q:Nat)(j:aH):cE e' q j<=cE e q j+3:=by
 cases hb:j.cO
 ·simp_all[cE]
 ·by_cases p:j.Pc=0
  ·rw[jc0 hb p,jc0 hb p];grind[VU]
  ·have:cE e' q j=cE e q j:=by unfold cE;grind
   omega
def bC(x:Batch):Int:=if x.Collect then 14 else x.bW.length*42+19
def isC(x:Batch):Int:=if x.Collect then 1 else 0
def ZW(f:Batch->Int):List Batch->Int
 |[]=>0
 |x::r=>f x+ZW f r
def xG(t:Table)(w:Int):Int:=ZW isC (o5 t w)+if(aQ t w).cO=true/\(aQ t w).Pc=20 then 1 else 0
def aQT(q:Int->Nat)(t:Table)(w:Int):Int:=cE t.aA.aC.aE (q w) (aQ t w)+5*jM t.aA w+ZW bC (o5 t w)
def CN(f:Int->Int):Int:=f 0+f 1+f 2
def aDJ(q:Int->Nat)(t:Table)(w:Int):Int:=aQT q t w+3*(CN (xG t)-xG t w)
def ZX(t:Table)(w:Int):Prop:=(aQ t w).cO=false/\o5 t w=[]
theorem a5L(b:aA)(w:Int)(s:Sub):(iB b w s).1.aM=b.aM\/∃x,(iB b w s).1.aM=b.aM.set w.toNat x:=by grind[O7,ZK,cJ,AE,xF,bZ,iB]
theorem bA4(b:aA)(k:List cR)(w:Int)(j:aH):(qW b k w j).b.aM=b.aM\/∃x,(qW b k w j).b.aM=b.aM.set w.toNat x:=by
 have hs:=a5L b w j.Sub;unfold qW;have P:∀{c:Prop} [Decidable c] {x y:TR},(c->(x.b.aM=b.aM\/∃z,x.b.aM=b.aM.set w.toNat z))->(¬c->(y.b.aM=b.aM\/∃z,y.b.aM=b.aM.set w.toNat z))->_:=dQ (P:=λr=>r.b.aM=b.aM\/∃z,r.b.aM=b.aM.set w.toNat z);refine P (λ_=>hs) λ_=>P (λ_=>.inl rfl) λ_=>P (λ_=>.inl rfl) λ_=>P (λ_=>?_) λ_=>P (λ_=>.inl rfl) λ_=>P (λ_=>.inl rfl) λ_=>P (λ_=>.inl (by grind[CL])) λ_=>P (λ_=>.inl rfl) λ_=>P (λ_=>?_) λ_=>P (λ_=>.inl (by grind[JG])) λ_=>P (λ_=>.inl rfl) λ_=>P (λ_=>.inl rfl) λ_=>.inl rfl
 ·unfold HY;split;exact .inl rfl;exact hs
 ·unfold LC;split;exact .inl rfl;exact hs
theorem aFU{f:Batch->Int}(h:∀x,0<=f x):∀l,0<=ZW f l
 |[]=>H6 _
 |x::r=>Int.add_nonneg (h x) (aFU h r)
theorem bI1(x:Batch):0<=bC x:=by grind[bC]
theorem a3E(x:Batch):0<=isC x:=by grind[isC]
theorem a5M(t:Table)(w:Int):0<=xG t w:=by have:=aFU a3E (o5 t w);grind[xG]
theorem bE0(f:Int->Int)(h:∀v,0<=f v){w:Int}(hw:fQ w):f w<=CN f:=by grind[CN]
theorem aFV{f g:Int->Int}{w:Int}(hw:fQ w)(h:∀v,fQ v->v≠w->g v=f v):CN g-g w=CN f-f w:=by grind[CN]
section
variable {Ky:List Int} {q:Int->Nat} {t:Table} (hK:Ky.length<=8) (hv:TV t) (hs:Sft Ky q t) {w:Int} (hw:fQ w) (hser:t.aO≠1000000)
include hK hv hs hw
theorem a5N(hB:(aQ t w).cO=true):1<=cE t.aA.aC.aE (q w) (aQ t w):=by
 have hj:JB (aQ t w):=(hv.sV.2 _ (rH hv.sV.1 hw)).resolve_left λe=>by rw[e] at hB;cases hB
 obtain⟨c,h⟩:=hs.sv;have T:=h.tw w hw hB;have hpc:=T.pc;have hat:=hj.at_;have sb:=h.sb w hw;have hc:=hv.base.1.2.1;obtain⟨s0,s20⟩:=aDI hw hc hs.ep hB;have tl:=aTT (aQ t w).aI;have hk:=hj.k;rcases(by omega:(aQ t w).Pc=0\/(aQ t w).Pc=1\/(2<=(aQ t w).Pc/\(aQ t w).Pc<=5)\/(aQ t w).Pc=6\/(aQ t w).Pc=7\/(aQ t w).Pc=8\/(aQ t w).Pc=9\/(10<=(aQ t w).Pc/\(aQ t w).Pc<=13)\/(aQ t w).Pc=14\/(aQ t w).Pc=15\/(aQ t w).Pc=16\/(aQ t w).Pc=17\/(aQ t w).Pc=18\/(aQ t w).Pc=19\/(aQ t w).Pc=20\/(aQ t w).Pc=21) with p|p|p|p|p|p|p|p|p|p|p|p|p|p|p|p
 ·rw[jc0 hB p];grind[VU]
 ·grind[jc1]
 ·have ha:(aQ t w).At<(aQ t w).Batch.bW.length:=T.hc p;grind[jc2,jc3,jc4,jc5]
 ·rw[jc6 hB p];have:=(sb.al p).2.2.1;omega
 ·grind[jc7]
 ·grind[jc8]
 ·grind[jc9]
 ·have:=T.k9 p;grind[bEW,bIX,bIY,bIZ]
 ·grind[bEX]
 ·rw[a0E hB p];split
  ·have:=sb.rt p (by omega);omega
  ·omega
 ·grind[bAX]
 ·grind[bI0]
 ·grind[bEY]
 ·grind[bEZ]
 ·grind[bAY,SC]
 ·rw[a0F hB p];obtain⟨_,_,z⟩:=sb.col p;grind[VV]
theorem bE1(h:¬ZX t w):0<=aDJ q t w:=by
 have a:=aFU bI1 (o5 t w);have b:=bE0 (xG t) (a5M t) hw;have r:0<=jM t.aA w:=Int.natCast_nonneg _;unfold aDJ aQT;by_cases hB:(aQ t w).cO=true
 ·have:=a5N hK hv hs hw hB;omega
 ·have:cE t.aA.aC.aE (q w) (aQ t w)=0:=by simp_all[cE]
  omega
theorem aR3(h:ZX t w):iL t w=t/\nxQ Ky q t w=q:=by unfold iL nxQ;rw[aP (by rw[h.1];decide),aL (.inl (by rw[h.2];rfl)),aP (by rw[h.1];decide)];simp
include hser
theorem aXB(h:¬ZX t w):aDJ (nxQ Ky q t w) (iL t w) w+1<=aDJ q t w/\∀v,fQ v->v≠w->aDJ (nxQ Ky q t w) (iL t w) v<=aDJ q t v/\(ZX t v->ZX (iL t w) v):=by
 have h3:=hv.sV.1;have hJ:∀v,fQ v->(aQ t v).cO=true->JB (aQ t v):=λv hv' hB=>(hv.sV.2 _ (rH h3 hv')).resolve_left λe=>by rw[e] at hB;cases hB
 obtain⟨c,sv⟩:=hs.sv;by_cases hB:(aQ t w).cO=true
 ·have est:iL t w=EC t w (qW t.aA t.bS w (aQ t w)):=by simp_all[iL]
  have enq:nxQ Ky q t w=upQ q w (qF Ky.length (q w) (aQ t w)):=aL hB;obtain⟨a1,a2⟩:=a3D hK sv hs.lk hw hv.base hv.bk hJ hB hs.ep;have hpc:=(sv.tw w hw hB).pc;have hdp:(qW t.aA t.bS w (aQ t w)).j.cO=true/\(qW t.aA t.bS w (aQ t w)).j.Pc=20->(aQ t w).Pc=20:=λz=>by
   by_cases p:1<=(aQ t w).Pc/\(aQ t w).Pc<=19
   ·rcases a0C (b:=t.aA) (k:=t.bS) (w:=w) p with e|e
    ·rw[e] at z;cases z.1
    ·omega
   ·by_cases p0:(aQ t w).Pc=20
    ·exact p0
    ·exfalso;have e:(qW t.aA t.bS w (aQ t w)).j=(jT t.aA w (aQ t w)).2:=by unfold qW;rw[aL (by omega)]
     grind[jT]
  have hrow:=bA4 t.aA t.bS w (aQ t w);rw[est,enq];generalize qW t.aA t.bS w (aQ t w)=r at a1 a2 hdp hrow;have ej:∀v,fQ v->aQ (EC t w r) v=if v=w then r.j else aQ t v:=λv hv'=>QY h3 hw rfl hv';have eq:∀v,o5 (EC t w r) v=o5 t v:=λ_=>rfl;have er:∀v,fQ v->v≠w->jM r.b v=jM t.aA v:=λv hv' hn=>by
   unfold jM;rcases hrow with e|⟨x,e⟩
   ·rw[e]
   ·rw[e,VR hv.base.1.2.2.1.1 hw hv' hn]
  have bo:∀v,fQ v->v≠w->xG (EC t w r) v=xG t v:=λv hv' hn=>by simp_all[xG]
  have bw:xG (EC t w r) w<=xG t w/\(r.b.aC.aE≠t.aA.aC.aE->xG (EC t w r) w+1<=xG t w):=by unfold xG;grind
  have s1:=aFV hw bo;refine⟨?_,λv hv' hn=>⟨?_,λi=>?_⟩⟩
  ·unfold aDJ aQT;rw[s1,eq,ej w hw,aL rfl];show cE r.b.aC.aE (upQ q w _ w) r.j+5*jM r.b w+_+_+1<=_;rw[show upQ q w (qF Ky.length (q w) (aQ t w)) w=qF Ky.length (q w) (aQ t w) from aL rfl];omega
  ·unfold aDJ aQT;rw[eq,ej v hv',aP hn,bo v hv' hn];show cE r.b.aC.aE (upQ q w _ v) (aQ t v)+5*jM r.b v+_+_<=_;rw[show upQ q w (qF Ky.length (q w) (aQ t w)) v=q v from aP hn,er v hv' hn];have:=a5K t.aA.aC.aE r.b.aC.aE (q v) (aQ t v);grind
  ·exact⟨by rw[ej v hv',aP hn];exact i.1,i.2⟩
 ·have hq:¬((o5 t w).length=0\/t.aO=1000000):=λz=>z.elim (λz=>h ⟨by grind,uM z⟩) hser;have est:iL t w=LD t w ((o5 t w).getD 0 ⟨false,[]⟩):=by simp_all[iL]
  have enq:nxQ Ky q t w=q:=aP hB;rw[est,enq]
  match hQ:o5 t w,hq with
  |[],hq=>grind
  |x::l,_=>
  simp only[List.getD_cons_zero];have ej:∀v,fQ v->aQ (LD t w x) v=if v=w then lB x (t.aO+1) else aQ t v:=λv hv'=>QY h3 hw rfl hv';have eq:∀v,fQ v->o5 (LD t w x) v=if v=w then l else o5 t v:=λv hv'=>by grind[o5,LD]
  have j0:cE t.aA.aC.aE (q w) (aQ t w)=0:=by simp_all[cE]
  have jn:cE t.aA.aC.aE (q w) (lB x (t.aO+1))+1<=bC x:=by
   cases hx:x.Collect
   ·rw[jc0 (show(lB x (t.aO+1)).cO=true from rfl) (by grind[lB])];grind[lB,bC,VU,AF]
   simp_all[bAY,lB,bC,SC,AF]
  have bo:∀v,fQ v->v≠w->xG (LD t w x) v=xG t v:=λv hv' hn=>by simp_all[xG]
  have bw:xG (LD t w x) w<=xG t w:=by unfold xG;rw[eq w hw,ej w hw,aL rfl,aL rfl,hQ,aP (show ¬((aQ t w).cO=true/\_) from λz=>hB z.1)];grind[ZW,lB,isC]
  have s1:=aFV hw bo;refine⟨?_,λv hv' hn=>⟨?_,λi=>?_⟩⟩
  ·unfold aDJ aQT;rw[s1,eq w hw,ej w hw,aL rfl,aL rfl,hQ,j0];show cE t.aA.aC.aE (q w) (lB x (t.aO+1))+5*jM t.aA w+_+_+1<=_;grind[ZW]
  ·unfold aDJ aQT;rw[eq v hv',ej v hv',aP hn,aP hn,bo v hv' hn];show cE t.aA.aC.aE (q v) (aQ t v)+5*jM t.aA v+_+_<=_;omega
  ·exact⟨by rw[ej v hv',aP hn];exact i.1,by rw[eq v hv',aP hn];exact i.2⟩
end
theorem SD{l:List aH}(hl:l.length<=1000){f:aH->Bool}{g:aH->Option Bool}(hg:∀x∈l,g x=some (f x)):gZ l g=some (l.any f):=
 NY (f:=qP l g) (m:=BP) (by omega) (λk=>by
  simp only[qP];by_cases h:k<l.length
  ·rw[dif_pos h,dM,aV h,aJ,hg _ (dJ h),aJ,eB];rfl
  grind) (λ_=>rfl) rfl
theorem aUF{l:List cR}(hl:l.length<=1000){f:cR->Bool}{g:cR->Option Bool}(hg:∀x∈l,g x=some (f x)):sC l g=some (l.any f):=
 NY (f:=sB l g) (m:=EM) (by omega) (λk=>by
  simp only[sB];by_cases h:k<l.length
  ·rw[dif_pos h,dM,aV h,aJ,hg _ (dJ h),aJ,eB];rfl
  grind) (λ_=>rfl) rfl
theorem aOZ{l:List Seen}(hl:l.length<=1000){f:Seen->Bool}{g:Seen->Option Bool}(hg:∀x∈l,g x=some (f x)):fU l g=some (l.any f):=
 NY (f:=jA l g) (m:=BL) (by omega) (λk=>by
  simp only[jA];by_cases h:k<l.length
  ·rw[dif_pos h,dM,aV h,aJ,hg _ (dJ h),aJ,eB];rfl
  grind) (λ_=>rfl) rfl
theorem aO0(b:Int):I0 b=some (decide (0<=b/\b<=1)):=by grind[I0,dI]
theorem aO1{O:Type}{l:List O}{f:O->Bool}(h:∀x∈l,f x=false):l.any f=false:=aUM.2 λx hx=>by grind
theorem aXC{l:List Int}(hl:l.length<=6)(h:∀x∈l,kU x):vC l=some true:=by unfold vC;rw[dM,show(λy0=>wZ y0)=λy0=>some (!decide (kU y0)) from funext λy=>by grind[wZ,g8],HM (by grind[maxLen]),aO1 λx hx=>by grind];rfl
theorem aXD{l:List aW}(h:WrV l):J5 l=some true:=by
 have h6:=h.1;unfold J5;have key:loop (sD l) 0=some (Out.brk ()):=jG (f:=sD l) l.length (λk=>(k:Int)) _ (λk hk=>by
  have hx:=h.2.1 _ (dJ hk);simp only[sD];rw[dM,aV hk,aJ,dI,cD hx.1,aJ,g7,dI,cD hx.2,aJ,g7];by_cases k0:(0:Int)<k
  ·have hk1:k-1<l.length:=by omega
   have hlt:=List.pairwise_iff_getElem.1 h.2.2 (k-1) k hk1 hk (by omega);rw[aL (by grind),eB (x:=(k:Int)-1),show(k:Int)-1=((k-1:Nat):Int) by omega,aV hk1,aJ,eU (by omega)];unfold lG;rw[g7,eB];rfl
  simp_all[lG,cC]) (by simp[sD])
 grind[TC,TB]
theorem bA5{j:aH}(h:JB j):tD j=some true:=by
 have hb:=h.bat.2.1;have hk:=h.k;have hh:=h.held;have hheld:=aR2 h;have key:loop (yG j) 0=some (Out.brk ()):=jG (f:=yG j) j.bI.length (λk=>(k:Int)) _ (λk hk=>by
  simp only[yG,GR];rw[dM,aV hk,aJ,aO0,cD (hh.1 _ (dJ hk)),aJ,g7,R1,MR,PO,contains_eq (by grind[maxLen]),eU ((O3 _).1 hh.2 k hk),aJ,g7,eB];rfl) (by simp[yG])
 unfold tD;rw[aP (by simp[h.busy]),key];simp only[aJ,YD];unfold YC;rw[aOI (by omega),cD h.bat,HW,cD h.h,HW,cD h.prev,aO0,cD h.bkt,dI,cD h.at_,dI,cD (show 0<=j.K/\j.K<=100 by omega),aXC h.new.1 h.new.2,aXC h.old.1 h.old.2,
  aOZ (f:=λ_=>false) (by have:=h.rd2;omega) (λs hs=>by unfold RO;rw[aO0,cD (h.reads.1 s hs)];rfl),aO1 λ_ _=>rfl,aXD h.wr]
 rfl
theorem a0H:tD dA=some true:=by
 have c1:GQ dA.Batch dA.Batch=some true:=by unfold GQ;rw[aL (by rfl)];unfold IZ;rw[g7,bD (r:=Out.brk ()) (by simp[MI,dA])];rfl
 have c2:wY [] []=some true:=by unfold wY;rw[g7,bD (r:=Out.brk ()) (by simp[KW])];rfl
 have c3:tW [] []=some true:=by unfold tW;rw[g7,bD (r:=Out.brk ()) (by simp[IJ])];rfl
 have c4:zV [] []=some true:=by unfold zV;rw[g7,bD (r:=Out.brk ()) (by simp[MJ])];rfl
 have c5:nQ [] []=some true:=by unfold nQ;rw[g7,bD (r:=Out.brk ()) (by simp[MK])];rfl
 unfold tD;rw[aL (by rfl)];show(J4 dA dA).bind _=_;unfold J4;rw[c1,show dA.Reads=[] from rfl,show dA.aI=[] from rfl,show dA.jV=[] from rfl,show dA.gO=[] from rfl,show dA.bI=[] from rfl,show dA.cH=[] from rfl,c2,c3,c4,c5];simp[b7]
theorem aR4{t:Table}(hv:TV t):∀j∈t.aR,tD j=some true:=λj hj=>by
 rcases hv.sV.2 j hj with rfl|h
 ·exact a0H
 ·exact bA5 h
theorem aFW{t:Table}(hv:TV t):GS t=some true:=by
 have h2:=hv.bk.1;have h3:=hv.sV.1;have ht:=hv.todo;unfold GS;rw[aNY hv.base.small.fits,cD hv.base,aJ,aL rfl,dM,
  aUF (f:=λ_=>false) (by omega) (λx hx=>by
   have hx:=hv.bk.2 x hx;unfold OJ aCR;rw[HW,cD hx.1,aJ,aL rfl,dI,cD hx.2.1,aJ,aL rfl,dI,cD hx.2.2];rfl),aO1 λ_ _=>rfl,aJ,aL (by rfl),dM,
  SD (f:=λ_=>false) (by omega) (λj hj=>by grind[OK,aR4]),aO1 λ_ _=>rfl,aJ,aL (by rfl),
  aOJ (by have:=ht.1;omega) (λq hq=>by have:=(ht.2 q hq).1;omega) (λq hq b hb=>by have:=((ht.2 q hq).2 b hb).2.1;omega),cD ht,aJ,aL rfl,dI,cD hv.ser]
 rfl
def EvS(e:H9):Prop:=e.bW.length<=1000/\e.jV.length<=1000
theorem bI2{e:H9}(h:EvS e):NH e=some e:=by obtain⟨h1,h2⟩:=h;unfold NH lE rZ;rw[R0,aJ,R0];simp[LU]
theorem bE2{j:aH}(h:j=dA\/JB j):J0 j=some j:=by
 have hl:j.Batch.bW.length<=1000/\j.Reads.length<=1000/\j.aI.length<=1000/\j.jV.length<=1000/\j.gO.length<=1000/\j.bI.length<=1000/\j.cH.length<=1000:=by
  rcases h with rfl|h
  ·simp[dA]
  ·have a1:=h.bat.2.1;have a2:=h.rd2;have a3:=h.wr.1;have a4:=h.res;have a5:=h.at_;have a6:=h.new.1;have a7:=aR2 h;have a8:=h.old.1;omega
 obtain⟨h1,h2,h3,h4,h5,h6,h7⟩:=hl;unfold J0 p5 nW rZ IY;rw[(aT4 h1).2,aJ,R0,aJ,R0,aJ,R0,aJ,qH (by omega),qH (by omega),qH (by omega)];rfl
theorem a5O{t:Table}(hb:VG t.aA)(hk:t.bS.length<=1000)(hj:t.aR.length<=1000/\∀j∈t.aR,j=dA\/JB j)(ht:t.dC.length<=1000/\(∀q∈t.dC,q.List.length<=1000)/\∀q∈t.dC,∀b∈q.List,b.bW.length<=1000)(hl:t.Log.length<=1000000/\∀e∈t.Log,EvS e):GO t=some t:=by
 unfold GO IX;rw[aTV hb,aJ,R0,aJ,(aOK ht.1 ht.2.1 ht.2.2).2,aJ];unfold GN;have k2:loop (mJ t) (0,(⟨t.aA,[]++t.bS,[],t.dC,[],t.aO⟩:Table))=some (⟨t.aA,t.bS,t.aR,t.dC,[],t.aO⟩:Table):=by
  have:=jG (f:=mJ t) t.aR.length (λk=>((k:Int),(⟨t.aA,t.bS,t.aR.take k,t.dC,[],t.aO⟩:Table))) (⟨t.aA,t.bS,t.aR,t.dC,[],t.aO⟩:Table) (λk hk=>by
   simp only[mJ];rw[dM,aV hk,aJ,bE2 (hj.2 _ (dJ hk)),aJ,R0];grind[GM,cC,MF]) (by simp[mJ])
  grind
 have k3:loop (mI t) (0,(⟨t.aA,t.bS,t.aR,t.dC,[],t.aO⟩:Table))=some t:=by
  have:=jG (f:=mI t) t.Log.length (λk=>((k:Int),(⟨t.aA,t.bS,t.aR,t.dC,t.Log.take k,t.aO⟩:Table))) t (λk hk=>by
   simp only[mI];rw[dM,aV hk,aJ,bI2 (hl.2 _ (dJ hk)),aJ,R0];grind[GL,cC,MF]) (by simp[mI])
  grind
 show(loop (mJ t) (0,(⟨t.aA,[]++t.bS,[],t.dC,[],t.aO⟩:Table))).bind _=_;rw[k2,aJ];show(loop (mI t) (0,(⟨t.aA,t.bS,t.aR,t.dC,[],t.aO⟩:Table))).bind _=_;rw[k3];rfl
def H3(t:Table):Bool:=!(t.aR.any λj=>j.cO) && !(t.dC.any λq=>decide (0<(q.List.length:Int)))
theorem aR5{t:Table}(hj:t.aR.length<=1000)(ht:t.dC.length<=1000):GV t=some (H3 t):=by
 unfold GV H3;rw[SD (f:=λj=>j.cO) (g:=λy0=>I1 y0) hj λ_ _=>rfl,aJ];cases (t.aR.any λj=>j.cO)
 ·rw[aL (by rfl),W9 (f:=λq=>decide (0<(q.List.length:Int))) (g:=λy0=>I2 y0) ht λ_ _=>rfl];rfl
 ·rfl
theorem ZY{t:Table}(hv:TV t):H3 t=true↔∀w,fQ w->ZX t w:=by
 have h3:=hv.sV.1;have h4:=hv.todo.1;unfold H3;rw[DM,a3O,a3O,aUM,aUM];constructor
 ·rintro⟨a,b⟩ w hw;refine⟨by grind[rH],?_⟩;have hi:w.toNat<t.dC.length:=by omega
  simp_all[o5]
 ·intro h;refine⟨λj hj=>?_,λq hq=>?_⟩
  ·obtain⟨i,hi,rfl⟩:=SG hj;have:=(h i (by omega)).1;grind[aQ]
  ·obtain⟨i,hi,rfl⟩:=SG hq;have:=(h i (by omega)).2;grind[o5]
def SF:Nat->Nat->Table->Table
 |0,_,t=>t
 |n+1,k,t=>if H3 t then t else SF n (k+1) (iL t ((k % 3:Nat):Int))
theorem aFX(k:Nat):fQ ((k % 3:Nat):Int):=by omega
theorem aXE:∀(n k:Nat) (t:Table),k+n=3000->TV t->t.Log.length+n<=1000000->(loop (m5 3000 true) ((k:Int),t)).bind ML=some (SF n k t)
 |0,k,t,hk,_,_=>by rw[bD (r:=Out.brk t) (by simp_all[m5])];rfl
 |n + 1,k,t,hk,hv,hl=>by
  have h3:=hv.sV.1;have h4:=hv.todo.1;unfold SF;cases hi:H3 t
  ·have hs:=aWQ hv (by omega) (aFX k);rw[bG (s':=(((k+1:Nat):Int),iL t ((k % 3:Nat):Int))) (by
    simp only[m5];rw[dM,aL trivial,aR5 (by omega) (by omega),aJ,hi,g7,SD (f:=λ_=>false) (by omega) (λj hj=>by grind[tX,aR4]),aO1 λ_ _=>rfl,aJ];unfold mZ;rw[g7,OZ (by omega),show((k:Int) % 3)=((k % 3:Nat):Int) by omega,hs,aJ,eB];rfl)]
   rw[g7];refine aXE n (k+1) _ (by omega) (hv.step (aFX k)) ?_;have:=aAL t ((k % 3:Nat):Int);unfold ZT at this;grind
  ·rw[bD (r:=Out.ret t) (by
    simp only[m5];rw[dM,aL trivial,aR5 (by omega) (by omega),aJ,hi,aL rfl];rfl),aL rfl];rfl
theorem aR6{t:Table}(hv:TV t)(hl:t.Log.length+3000<=1000000)(he:∀e∈t.Log,EvS e):lH t=some (SF 3000 0 t):=by have h2:=hv.bk.1;have h3:=hv.sV.1;have h4:=hv.todo;unfold lH;rw[a5O hv.base.small (by omega) ⟨by omega,hv.sV.2⟩ ⟨by have:=h4.1;omega,λq hq=>by have:=(h4.2 q hq).1;omega,λq hq b hb=>by have:=((h4.2 q hq).2 b hb).2.1;omega⟩ ⟨by omega,he⟩,aJ,aFW hv,aJ,aL rfl];have:=aXE 3000 0 t rfl hv hl;unfold I3;rw[show((0:Nat):Int)=0 from rfl] at this;rw[this];rfl
theorem aHO{Ky:List Int}(hK:Ky.length<=8)(P:Table->Prop)(hP:∀t w,TV t->fQ w->P t->P (iL t w))(hser:∀t,P t->t.aO≠1000000):∀(n k:Nat) (q:Int->Nat) (t:Table),TV t->Sft Ky q t->P t->(∀w,fQ w->¬ZX t w->3*aDJ q t w+(w-k) % 3<n)->H3 (SF n k t)=true/\TV (SF n k t)/\P (SF n k t)/\∃q',Sft Ky q' (SF n k t)
 |0,k,q,t,hv,hs,hp,hn=>⟨(ZY hv).2 λw hw=>Classical.byContradiction λhi=>by
   have:=hn w hw hi;have:=bE1 hK hv hs hw hi;omega,hv,hp,q,hs⟩
 |n + 1,k,q,t,hv,hs,hp,hn=>by
  unfold SF;by_cases hi:H3 t=true
  ·grind
  ·rw[aP hi];have hw:=aFX k;refine aHO hK P hP hser n (k+1) (nxQ Ky q t ((k % 3:Nat):Int)) _ (hv.step hw) (hs.step hv hw) (hP t _ hv hw hp) λv hv' hni=>?_;by_cases hid:ZX t ((k % 3:Nat):Int)
   ·obtain⟨e1,e2⟩:=aR3 hK hv hs hw hid;rw[e1] at hni;rw[e1,e2];have:=hn v hv' hni;have hne:v≠((k % 3:Nat):Int):=λe=>hni (e ▸ hid);unfold fQ at hv';omega
   ·obtain⟨a1,a2⟩:=aXB hK hv hs hw (hser t hp) hid;have h0:=hn _ hw hid;by_cases e:v=((k % 3:Nat):Int)
    ·rw[e];omega
    ·obtain⟨b1,b2⟩:=a2 v hv' e;have:=hn v hv' λz=>hni (b2 z);unfold fQ at hv';omega
theorem aO2(f:Batch->Int)(x:Batch):∀l:List Batch,ZW f (l++[x])=ZW f l+f x
 |[]=>by simp[ZW]
 |y::r=>by simp only[KG,ZW,aO2 f x r];omega
theorem bA6(x:Batch):isC x<=1:=by grind[isC]
theorem aXF:∀l:List Batch,ZW isC l<=l.length
 |[]=>by simp[ZW]
 |x::r=>by have:=aXF r;have:=bA6 x;grind[ZW]
def KyD(k:Int):Prop:=(0<=k/\k<=5)\/k=99\/k<0\/99<k
def BaD(x:Batch):Prop:=bC x<=145/\∀y∈x.bW,KyD y.Key
def QuD(m c:Int)(q:aN):Prop:=ZW bC q.List<=c/\ZW isC q.List<=m/\(q.List.length:Int)<=m/\∀x∈q.List,x.bW.length<=1000/\∀y∈x.bW,KyD y.Key
theorem aK3{l:List Batch}{m c m' c':Int}(h:QuD m c ⟨l⟩)(hm:m+1<=m'){x:Batch}(hc:c+bC x<=c')(hx:x.bW.length<=1000/\∀y∈x.bW,KyD y.Key):QuD m' c' ⟨l++[x]⟩:=by obtain⟨h1,h2,h3,h4⟩:=h;simp only at h1 h2 h3 h4;have:=bA6 x;refine⟨by grind[aO2],by grind[aO2],by grind,λy hy=>?_⟩;grind
theorem ZZ{m c m' c':Int}{q:aN}(h:QuD m c q)(hm:m<=m')(hc:c<=c'):QuD m' c' q:=⟨aK6 h.1 hc,aK6 h.2.1 hm,aK6 h.2.2.1 hm,h.2.2.2⟩
section
variable {b:List UInt8} {i h:Int} (hc:Cu b i)
include hc
theorem bGA:EA (KK ⟨b,i,h⟩) (λx=>KyD x.1.Key/\Cu b x.2.1):=by
 unfold KK E9 E8;refine .bind (aRS hc (by decide) (by decide)) λx1 ⟨_,h1⟩=>.bind (below h1 (by omega)) λx2 ⟨k2,h2⟩=>?_;have hk:KyD x2.1:=.inl (by omega);refine .ite (λ_=>.ite (λ_=>?_) λ_=>.ret ⟨hk,h2⟩) λ_=>.ite (λ_=>?_) λ_=>.ret ⟨hk,h2⟩
 ·exact .bind (below h2 (by omega)) λx7 ⟨_,h7⟩=>.bind (aRS h7 (by simp) (by simp)) λx8 ⟨_,h8⟩=>.ret ⟨hk,h8⟩
 ·exact .bind (below h2 (by omega)) λx7 ⟨_,h7⟩=>.bind (aRS h7 (by simp) (by simp)) λx8 ⟨_,h8⟩=>.ret ⟨hk,h8⟩
theorem bA8:EA (P3 ⟨b,i,h⟩) (λx=>KyD x.1.Key/\Cu b x.2.1):=by
 unfold P3 rM;refine .bind (bGA hc) λx1 ⟨k1,h1⟩=>.bind (below h1 (by omega)) λx7 ⟨_,h7⟩=>.ite (λ_=>?_) λ_=>.ite (λ_=>?_) λ_=>.ite (λ_=>?_) λ_=>.ret ⟨k1,h7⟩
 ·exact .bind (aRS h7 (by decide) (by decide)) λx8 ⟨_,h8⟩=>.ret ⟨k1,h8⟩
 ·exact .bind (aRS h7 (by decide) (by decide)) λx8 ⟨k8,h8⟩=>.ret ⟨by grind[KyD],h8⟩
 ·exact .bind (aRS h7 (by decide) (by decide)) λx8 ⟨_,h8⟩=>.ret ⟨k1,h8⟩
theorem bE3:EA (MU ⟨b,i,h⟩) (λx=>BaD x.1/\x.1.bW.length<=1000/\Cu b x.2.1):=by unfold MU;refine .bind (bK7 hc (by omega)) λx1 h1=>.ite (λ_=>.ret ⟨⟨by show(14:Int)<=145;decide,by simp⟩,by simp,h1⟩) λ_=>.bind (below h1 (by omega)) λx2 ⟨hx,h2⟩=>?_;rw[eB];refine .bind (P:=λx=>(x.2.2.length<=3/\∀y∈x.2.2,KyD y.Key)/\Cu b x.1) (.loop (λs=>s.1.toNat) (λs=>(0<=s.1/\s.1+s.2.2.2.length<=3/\∀y∈s.2.2.2,KyD y.Key)/\Cu b s.2.1) ⟨⟨by omega,by simp;omega,by simp⟩,h2⟩ ?_) λ⟨a1,a2,a3⟩ ⟨⟨hx,hy⟩,h3⟩=>.ret ⟨⟨by simp only at hx;unfold bC;grind,hy⟩,by grind,h3⟩;rintro⟨n,i1,h1,l⟩ ⟨⟨n0,n1,n2⟩,hi1⟩;simp only at n0 n1 n2 hi1;simp only[V4,LK];refine .ite (λq=>?_) (λq=>.ret ⟨⟨by grind,n2⟩,hi1⟩);have q1:=of_decide_eq_true q;refine .bind (bGA hi1) λo ⟨ho,h3⟩=>.need (by simp;omega) (.ret ?_);grind[cC]
theorem aR7{m:Int}(hm:0<=m/\m<=12):EA (xO ⟨b,i,h⟩ m) (λx=>(x.1.length=3/\∀q∈x.1,QuD m (m*145) q)/\Cu b x.2.1):=by
 unfold xO;refine .bind (P:=λx=>(x.1.length=3/\∀q∈x.1,QuD m (m*145) q)/\Cu b x.2.1) (.loop (λs=>3-s.2.1.toNat) (λs=>((s.1.length:Int)=s.2.1/\s.2.1<=3/\∀q∈s.1,QuD m (m*145) q)/\Cu b s.2.2.1) ⟨⟨rfl,by simp,by simp⟩,hc⟩ ?_) λx hx=>.ret hx;rintro⟨l,k,i',h'⟩ ⟨⟨e,k3,hq⟩,hi⟩;simp only at e k3 hq hi;simp only[P2];refine .ite (λq=>?_) (λq=>?_)
 ·have q':=of_decide_eq_true q;rw[eB (x:=m+1)];refine .bind (below hi (by omega)) λn ⟨hn,h1⟩=>?_;refine .bind (P:=λx=>QuD m (m*145) ⟨x.2.2⟩/\Cu b x.1) (.loop (λs=>s.1.toNat) (λs=>(0<=s.1/\QuD (m-s.1) ((m-s.1)*145) ⟨s.2.2.2⟩)/\Cu b s.2.1) ⟨⟨hn.1,by grind[QuD,ZW]⟩,h1⟩ ?_) ?_
  ·rintro⟨n,i1,h1,ops⟩ ⟨⟨n0,ho⟩,hi1⟩;simp only at n0 ho hi1;have hol:=ho.2.2.1;simp only at hol;simp only[P0,FA];refine .ite (λq=>?_) (λq=>?_)
   ·have q1:=of_decide_eq_true q;refine .bind (bE3 hi1) λo ⟨h0,h2,h3⟩=>.need (by simp;omega) (.ret ?_);have hq:=aK3 (m':=m-(n-1)) (c':=(m-(n-1))*145) ho (by omega) (x:=o.1) (by have:=h0.1;omega) ⟨h2,h0.2⟩;grind[cC]
   ·have q1:¬0<n:=by grind
    exact .ret ⟨ZZ ho (by omega) (by omega),hi1⟩
  ·rintro⟨i1,h1,ops⟩ ⟨ho,hi1⟩;simp only[P1,PZ];refine .need (by simp;omega) (.ret ?_);grind[cC]
 ·have q':¬k<3:=by grind
  exact .ret ⟨⟨by grind,hq⟩,hi⟩
def aKE(l:List aN):Prop:=l.length<=3/\∀q∈l,QuD 13 910 q
omit hc in
theorem aXG{l:List aN}(hl:aKE l)(k:Nat){q:aN}(hq:QuD 13 910 q):aKE (l.set k q):=⟨by simpa using hl.1,λx hx=>(rJ hx).elim (hl.2 x) (λe=>e ▸ hq)⟩
theorem a0I:EA (CS ⟨b,i,h⟩) (λx=>aKE x.1/\Cu b x.2.1):=by
 unfold CS;refine .bind (aR7 hc (by omega)) λx1 ⟨⟨l3,hq⟩,h1⟩=>.bind (below h1 (by omega)) λx5 ⟨_,h5⟩=>?_;have hT:aKE x1.1:=⟨by omega,λq hq'=>ZZ (hq q hq') (by omega) (by omega)⟩;simp only[lD,N7,DR];refine .ite (λ_=>?_) λ_=>.ite (λ_=>?_) λ_=>.ite (λ_=>?_) λ_=>.ite (λ_=>?_) λ_=>?_
 ·exact .need (by omega) (.ret ⟨⟨by simp;omega,λq hq'=>hT.2 q (a51 (by simpa using hq'))⟩,h5⟩)
 ·refine .bind (.idx (by omega)) λx6 h6=>?_;have h7:=hq _ h6;have:=h7.2.2.1;exact .need (by simp;omega) (.ret ⟨aXG hT _ (aK3 (m:=5) (c:=5*145) (l:=x6.List) h7 (by omega) (x:=⟨false,[]⟩) (by show _+(19:Int)<=910;omega) ⟨by simp,by simp⟩),h5⟩)
 ·refine .bind (P:=λx=>aKE x.1/\Cu b x.2.1) (.loop (λs=>20-((s.1.getD 1 ⟨[]⟩).List.length)) (λs=>(s.1.length=3/\∀q∈s.1,QuD 13 (725+14*q.List.length) q)/\Cu b s.2.1) ⟨⟨l3,λq hq'=>ZZ (hq q hq') (by omega) (by omega)⟩,h5⟩ ?_) ?_
  ·rintro⟨l,i1,h1⟩ ⟨⟨l3,hq⟩,hi1⟩;simp only at l3 hq hi1;simp only[N8,DQ];have hx:idx l 1=some l[1]:=aV (k:=1) (by omega);have hm:=hq _ (dJ (show 1<l.length by omega));have hm1:=hm.2.2.1;rw[hx];simp only[aJ];refine .bind (below hi1 (by omega)) λx ⟨hx2,hi2⟩=>.ite (λq=>?_) (λq=>?_)
   ·have q':=of_decide_eq_true q;rw[eB] at q';refine .need (by simp;omega) (.ret ?_);refine⟨⟨⟨by simp[l3],λx hx=>?_⟩,hi2⟩,?_⟩
    ·rcases rJ hx with hx|hx
     ·grind
     ·have:=aK3 (m':=14) (c':=725+14*(l[1].List++[(⟨true,[]⟩:Batch)]).length) (l:=l[1].List) hm (by omega) (x:=⟨true,[]⟩) (by show _+(14:Int)<=_;simp;omega) ⟨by simp,by simp⟩;rw[hx];refine⟨this.1,?_,by simp;omega,this.2.2.2⟩;have h13:=aXF (l[1].List++[(⟨true,[]⟩:Batch)]);grind
    grind
   ·exact .ret ⟨⟨by grind,λq hq'=>ZZ (hq q hq') (by omega) (by have:=(hq q hq').2.2.1;omega)⟩,hi2⟩
  ·rintro⟨l,i1,h1⟩ hx;exact .ret hx
 ·refine .bind (.idx (by omega)) λx25 h25=>.bind (bA8 h5) λx26 ⟨k26,h26⟩=>?_;have h7:=hq _ h25;have:=h7.2.2.1;exact .need (by simp;omega) (.ret ⟨aXG hT _ (aK3 (m:=5) (c:=5*145) (l:=x25.List) h7 (by omega) (x:=⟨false,[x26.1]⟩) (by show _+(1*42+19:Int)<=910;omega) ⟨by simp,by grind⟩),h26⟩)
 ·exact .ret ⟨hT,h5⟩
end
theorem aXH{code:List UInt8}(hl:code.length<=1048576):EA (tI code) (λx=>aKE x.dC/\x.jW.length<=5000):=by unfold tI;refine .bind (bNH hl) λx1 h1=>.bind (aR7 h1 (by omega)) λx2 ⟨⟨l3,hq⟩,h2⟩=>.bind (bEF h2 (by omega)) λx3 ⟨p,h3⟩=>.bind (below h3 (by omega)) λx6 ⟨_,h6⟩=>?_;have hT:aKE x2.1:=⟨by omega,λq hq'=>ZZ (hq q hq') (by omega) (by omega)⟩;simp only[lA];refine .ite (λ_=>.bind (a0I h6) λx7 ⟨h7,_⟩=>.ret ⟨h7,by grind⟩) λ_=>.ite (λ_=>.need (by simp;omega) (.ret ⟨hT,by simp;omega⟩)) λ_=>.ret ⟨hT,by grind⟩
theorem aKE.bLF{l:List aN}(h:aKE l):bEE l:=⟨h.1,λq hq=>⟨by have:=(h.2 q hq).2.2.1;omega,λx hx=>((h.2 q hq).2.2.2 x hx).1⟩⟩
theorem a3F(j:aH)(x:aW):(zE j x).2.Batch=j.Batch:=by grind[zE,A7]
theorem a3G(j:aH)(c:kN)(v:Int)(is:Bool):(JF j c v is).Batch=j.Batch:=by
 unfold JF;split
 ·generalize (if is then v else 0)=u;unfold aHH;have h:=a3F j ⟨c.Key,false,XO u c.eI⟩;split
  ·exact h
  ·exact h
 ·rfl
theorem bE4(j:aH):(VM j).Batch=j.Batch:=by grind[VM,a3F,a3G]
theorem bA9(b:aA)(k:List cR)(w:Int)(j:aH):(IN b k w j).Batch=j.Batch:=by
 unfold IN;split
 ·split<;>rfl
 ·split
  ·simp
  ·split
   ·split
    ·rfl
    ·split<;>rfl
   ·split
    ·rfl
    ·split
     ·rfl
     ·split
      ·grind[a3G]
      ·rfl
theorem bE5(b:aA)(w:Int)(j:aH):(HY b w j).2.Batch=j.Batch:=by
 unfold HY;split
 ·simp
 ·simp only;split
  ·simp
  ·split<;>rfl
theorem bE6(k:List cR)(w:Int)(j:aH):(O9 k w j).2.1.Batch=j.Batch:=by
 unfold O9;split
 ·split
  ·rfl
  ·split
   ·rfl
   ·split<;>rfl
 simp
theorem bE7(k:List cR)(w:Int)(j:aH):(XP k w j).Batch=j.Batch:=by
 unfold XP;split
 ·simp
 ·split<;>rfl
theorem a0J(j:aH)(x:aW):(SA j x).Batch=j.Batch:=by grind[SA]
theorem bE8(j:aH):(T1 j).Batch=j.Batch:=by grind[T1]
theorem bE9(b:aA)(k:List cR)(j:aH):(CL b k j).2.2.Batch=j.Batch:=by
 unfold CL;split
 ·simp
 ·split
  ·grind[a0J]
  ·split
   ·grind[a0J]
   ·split
    ·grind[a0J,bE8]
    ·split
     ·rfl
     grind
theorem a3H(j:aH):(SB j).Batch=j.Batch:=by grind[SB]
theorem bFA(k:List cR)(j:aH):(PA k j).2.Batch=j.Batch:=by grind[PA,a3H]
theorem bFB(b:aA)(w:Int)(j:aH):(LC b w j).2.Batch=j.Batch:=by grind[LC,a3H]
theorem bFC(b:aA)(w:Int)(j:aH):(JG b w j).2.Batch=j.Batch:=by grind[JG]
theorem bFD(b:aA)(w:Int)(j:aH):(jT b w j).2.Batch=j.Batch:=by grind[jT]
def T3(w:Int)(j:aH)(r:TR):Prop:=
 (r.j.aO=j.aO/\r.j.cO=j.cO/\r.j.Batch=j.Batch/\(r.l=[]\/r.l=[⟨2,w,j.aO,0,[],[]⟩]))\/(¬(j.Pc<19\/19<j.Pc)/\r.j=dA/\r.l=[tlE w j])
theorem a3I(b:aA)(k:List cR)(w:Int)(j:aH)(hp:0<=j.Pc/\j.Pc<=21):T3 w j (qW b k w j):=by
 unfold qW;refine dQ (P:=T3 w j) (λ_=>.inl ⟨(a23 b w j).1,(a23 b w j).2,bFD b w j,.inl rfl⟩) λ_=>dQ (P:=T3 w j) (λ_=>.inl ⟨(a2S j).1,(a2S j).2,bE4 j,.inl rfl⟩) λ_=>
  dQ (P:=T3 w j) (λ_=>.inl ⟨(aWX b k w j).1,(aWX b k w j).2,bA9 b k w j,.inl rfl⟩) λ_=>dQ (P:=T3 w j) (λ_=>.inl ⟨(a2T b w j).1,(a2T b w j).2,bE5 b w j,.inl rfl⟩) λ_=>
  dQ (P:=T3 w j) (λ_=>.inl ⟨(a2U k w j).1,(a2U k w j).2,bE6 k w j,?_⟩) λ_=>dQ (P:=T3 w j) (λ_=>.inl ⟨(a2V k w j).1,(a2V k w j).2,bE7 k w j,.inl rfl⟩) λ_=>
  dQ (P:=T3 w j) (λ_=>.inl ⟨(a2W b k j).1,(a2W b k j).2,bE9 b k j,.inl rfl⟩) λ_=>dQ (P:=T3 w j) (λ_=>.inl ⟨(a2Y k j).1,(a2Y k j).2,bFA k j,.inl rfl⟩) λ_=>
  dQ (P:=T3 w j) (λ_=>.inl ⟨(a2Z b w j).1,(a2Z b w j).2,bFB b w j,.inl rfl⟩) λ_=>dQ (P:=T3 w j) (λ_=>.inl ⟨(a21 b w j).1,(a21 b w j).2,bFC b w j,.inl rfl⟩) λ_=>
  dQ (P:=T3 w j) (λ_=>.inl ⟨rfl,rfl,rfl,.inl rfl⟩) λ_=>dQ (P:=T3 w j) (λp=>.inr ⟨by omega,rfl,rfl⟩) λ_=>.inl ⟨rfl,rfl,rfl,.inl rfl⟩
 simp
structure TlJ (l:List H9) (s:Int) (P:List kN->Prop):Prop where
 call:∃c∈l,c.Kind=1/\c.aO=s
 all:∀c∈l,c.Kind=1->c.aO=s->P c.bW
theorem TlJ.app{l:List H9}{s:Int}{P:List kN->Prop}(h:TlJ l s P){m:List H9}(hm:∀x∈m,x.Kind=1->x.aO≠s):TlJ (l++m) s P:=by obtain⟨⟨c,hc,h1⟩,h2⟩:=h;refine⟨⟨c,aK8 _ hc,h1⟩,λx hx k e=>?_⟩;grind
def kT(l:List H9):Int:=(l.countP λe=>e.Kind == 3:Nat)
def Z0(t:Table)(v:Int):Int:=if(aQ t v).cO then 1 else 0
def H4(t:Table)(v:Int):Int:=(o5 t v).length
def bLG(e:H9)(c:List kN):Prop:=if e.Code=0 then e.jV.length=c.length else e.jV=[]
structure TlT (n:Int) (t:Table):Prop where
 ev:∀e∈t.Log,EvS e/\e.aO<=t.aO
 job:∀w,fQ w->(aQ t w).cO=true->(aQ t w).aO<=t.aO/\TlJ t.Log (aQ t w).aO (·=(aQ t w).Batch.bW)
 tell:∀e∈t.Log,e.Kind=3->(e.Code=0\/e.Code=3\/e.Code=6\/e.Code=7)/\TlJ t.Log e.aO (bLG e)
 sum:kT t.Log+CN (Z0 t)+CN (H4 t)=n
 ser:t.aO+CN (H4 t)=n
theorem aK4{f g:Int->Int}{w:Int}(hw:fQ w)(hg:∀v,fQ v->v≠w->g v=f v):CN g+f w=CN f+g w:=by grind[CN]
theorem bBB(l m:List H9):kT (l++m)=kT l+kT m:=by grind[kT]
theorem TlT.zero{l:List aN}{n:Int}(hn:CN (H4 (eG l))=n):TlT n (eG l):=by
 have hj:∀w,fQ w->(aQ (eG l) w).cO=false:=λw hw=>by rcases(by omega:w=0\/w=1\/w=2) with rfl|rfl|rfl<;>rfl
 have h0:CN (Z0 (eG l))=0:=rfl;have e0:(eG l).Log=[]:=rfl;refine⟨λe he=>?_,λw hw h=>?_,λe he=>?_,?_,?_⟩
 ·grind
 ·grind
 ·grind
 ·grind[kT]
 ·rw[hn];show(0:Int)+n=n;omega
theorem TlT.step{Ky:List Int}{q:Int->Nat}{t:Table}{n:Int}(hv:TV t){w:Int}(hw:fQ w)(hs:Sft Ky q t)(h:TlT n t):TlT n (iL t w):=by
 have h3:=hv.sV.1;have h4:=hv.todo.1;have hJ:(aQ t w).cO=true->JB (aQ t w):=λhB=>(hv.sV.2 _ (rH h3 hw)).resolve_left λe=>by rw[e] at hB;cases hB
 obtain⟨c,sv⟩:=hs.sv;unfold iL;by_cases hB:(aQ t w).cO=true
 ·rw[aL hB];have tw:=sv.tw w hw hB;have jb:=hJ hB;obtain⟨js,jt⟩:=h.job w hw hB;have hd:=a3I t.aA t.bS w (aQ t w) tw.pc;generalize qW t.aA t.bS w (aQ t w)=r at hd;have ej:∀v,fQ v->aQ (EC t w r) v=if v=w then r.j else aQ t v:=λv hv'=>a25 h3 rfl hw hv';have eq:H4 (EC t w r)=H4 t:=rfl;have el:(EC t w r).Log=t.Log++r.l:=rfl;have es:(EC t w r).aO=t.aO:=rfl;have hne:∀x∈r.l,x.Kind≠1:=λx hx=>by
   rcases hd with ⟨_,_,_,e|e⟩|⟨_,_,e⟩<;>rw[e] at hx
   ·cases hx
   ·grind
   ·rw[IC.1 hx];exact(by decide:(3:Int)≠1)
  have keep:∀{s:Int} {P:List kN->Prop},TlJ t.Log s P->TlJ (t.Log++r.l) s P:=λa=>a.app λx hx k=>absurd k (hne x hx);have hlen:(tlE w (aQ t w)).Code=0->((tlE w (aQ t w)).jV.length:Int)=(aQ t w).At/\(tlE w (aQ t w)).jV=(aQ t w).jV:=λe=>by have e':(aQ t w).Code=0:=e;simp only[tlE,aL e'];exact⟨jb.res,trivial⟩
  have hbl:=jb.at_;have hb6:=jb.bat.2.1;have hres:=jb.res;refine⟨λe he=>?_,λv hv' hb'=>?_,λe he k=>?_,?_,?_⟩
  ·rw[el] at he;rw[es];rcases eD.1 he with he|he
   ·exact h.ev e he
   ·rcases hd with ⟨_,_,_,e1|e1⟩|⟨_,_,e1⟩<;>rw[e1] at he
    ·cases he
    ·rw[IC.1 he];exact⟨⟨by simp,by simp⟩,js⟩
    ·rw[IC.1 he];refine⟨⟨by simp[tlE],?_⟩,js⟩;show(if(aQ t w).Code=0 then(aQ t w).jV else []).length<=1000;grind
  ·rw[el,es];rw[ej v hv'] at hb' ⊢;by_cases e:v=w
   ·rw[aL e] at hb' ⊢;rcases hd with ⟨s1,s2,s3,_⟩|⟨_,s1,_⟩
    ·grind
    ·rw[s1] at hb';cases hb'
   ·rw[aP e] at hb' ⊢;exact⟨(h.job v hv' hb').1,keep (h.job v hv' hb').2⟩
  ·rw[el] at he ⊢;rcases eD.1 he with he|he
   ·exact⟨(h.tell e he k).1,keep (h.tell e he k).2⟩
   ·rcases hd with ⟨_,_,_,e1|e1⟩|⟨p19,_,e1⟩<;>rw[e1] at he
    ·cases he
    ·grind
    ·rw[IC.1 he];have cd:=tw.cd;have at1:=tw.at_;refine⟨?_,keep ⟨jt.call,λc hc kc ec=>?_⟩⟩
     ·show(aQ t w).Code=0\/(aQ t w).Code=3\/(aQ t w).Code=6\/(aQ t w).Code=7;omega
     ·rw[jt.all c hc kc ec];unfold bLG;by_cases z:(aQ t w).Code=0
      ·rw[aL (show(tlE w (aQ t w)).Code=0 from z),(hlen z).2];omega
      ·rw[aP (show ¬(tlE w (aQ t w)).Code=0 from z)];show(if(aQ t w).Code=0 then(aQ t w).jV else [])=[];grind
  ·rw[el,eq,bBB];have a:=aK4 (f:=Z0 t) (g:=Z0 (EC t w r)) hw λv hv' hn=>by simp_all[Z0]
   have b:Z0 (EC t w r) w=if r.j.cO then 1 else 0:=by simp_all[Z0]
   have b':Z0 t w=1:=by simp_all[Z0]
   have s:=h.sum;rcases hd with ⟨_,s2,_,e1|e1⟩|⟨_,s1,e1⟩
   ·simp_all[kT]
   ·simp_all[kT]
   ·rw[s1,aP (by decide)] at b;grind[kT,tlE]
  ·rw[eq,es];exact h.ser
 ·rw[aP hB];by_cases hq:(o5 t w).length=0\/t.aO=1000000
  ·grind
  ·rw[aP hq];have hmem:(o5 t w).getD 0 ⟨false,[]⟩∈o5 t w:=by grind
   have hb6:((o5 t w).getD 0 ⟨false,[]⟩).bW.length<=6:=by
    have hi:w.toNat<t.dC.length:=by omega
    have hq:=hv.todo.2 _ (dJ hi);have e:o5 t w=t.dC[w.toNat].List:=by grind[o5]
    exact(hq.2 _ (e ▸ hmem)).2.1
   generalize (o5 t w).getD 0 ⟨false,[]⟩=b at hb6;have ej:∀v,fQ v->aQ (LD t w b) v=if v=w then lB b (t.aO+1) else aQ t v:=λv hv'=>a25 h3 rfl hw hv';have eqq:∀v,fQ v->H4 (LD t w b) v=if v=w then(((o5 t w).drop 1).length:Int) else H4 t v:=λv hv'=>by grind[H4,o5,LD]
   have el:(LD t w b).Log=t.Log++[⟨1,w,t.aO+1,0,b.bW,[]⟩]:=rfl;have es:(LD t w b).aO=t.aO+1:=rfl;have keep:∀{s:Int} {P:List kN->Prop},s<=t.aO->TlJ t.Log s P->TlJ (t.Log++[⟨1,w,t.aO+1,0,b.bW,[]⟩]) s P:=λhs a=>a.app λx hx k=>by grind
   refine⟨λe he=>?_,λv hv' hb'=>?_,λe he k=>?_,?_,?_⟩
   ·rw[el] at he;rw[es];rcases eD.1 he with he|he
    ·have:=h.ev e he;grind
    ·rw[IC.1 he];exact⟨⟨by grind,by simp⟩,H6 _⟩
   ·rw[el,es];rw[ej v hv'] at hb' ⊢;by_cases e:v=w
    ·rw[aL e];refine⟨H6 _,⟨⟨_,aK9 _ (IC.2 rfl),rfl,rfl⟩,λc hc kc ec=>?_⟩⟩;rcases eD.1 hc with hc|hc
     ·have:=(h.ev c hc).2;have ec':c.aO=t.aO+1:=ec;omega
     ·rw[IC.1 hc];rfl
    ·rw[aP e] at hb' ⊢;obtain⟨a,b⟩:=h.job v hv' hb';grind
   ·rw[el] at he ⊢;rcases eD.1 he with he|he
    ·exact⟨(h.tell e he k).1,keep (h.ev e he).2 (h.tell e he k).2⟩
    grind
   ·rw[el,bBB];have a:=aK4 (f:=Z0 t) (g:=Z0 (LD t w b)) hw λv hv' hn=>by simp_all[Z0]
    have a':=aK4 (f:=H4 t) (g:=H4 (LD t w b)) hw λv hv' hn=>by grind
    have b1:Z0 (LD t w b) w=1:=by unfold Z0;rw[ej w hw,aL rfl];rfl
    have b':Z0 t w=0:=by simp_all[Z0]
    have c1:=eqq w hw;rw[aL rfl,PQ] at c1;have c2:H4 t w=(o5 t w).length:=rfl;have s:=h.sum;grind[kT]
   ·rw[es];have a':=aK4 (f:=H4 t) (g:=H4 (LD t w b)) hw λv hv' hn=>by grind
    have c1:=eqq w hw;rw[aL rfl,PQ] at c1;have c2:H4 t w=(o5 t w).length:=rfl;have s:=h.ser;omega
theorem aXI:∀(n k:Nat) (t:Table),(SF n k t).Log.length<=t.Log.length+n
 |0,_,t=>iE _
 |n + 1,k,t=>by
  unfold SF;split
  ·omega
  ·have:=aXI n (k+1) (iL t ((k % 3:Nat):Int));have h:=aAL t ((k % 3:Nat):Int);unfold ZT at h;grind
def Ky7:List Int:=[0,1,2,3,4,5,99]
theorem bLH{k:Int}(h:KyD k)(v:0<=k/\k<=99):k∈Ky7:=by grind[KyD,Ky7]
theorem bLI{l:List aN}(hd:aKE l)(ht:XQ l):Sft Ky7 (λ_=>0) (eG l):=Sft.zero λq hq b hb x hx=>bLH ((hd.2 q hq).2.2.2 b hb |>.2 x hx) ((((ht.2 q hq).2 b hb).2.2.1 x hx).2.1)
theorem bLJ{l:List aN}(hd:aKE l){w:Int}(hw:fQ w):aDJ (λ_=>0) (eG l) w<=999:=by
 have ej:∀v,fQ v->aQ (eG l) v=dA:=λv hv=>by rcases(by omega:v=0\/v=1\/v=2) with rfl|rfl|rfl<;>rfl
 have eq:∀v:Int,QuD 13 910 ⟨o5 (eG l) v⟩:=λv=>by
  show QuD 13 910 ⟨(l.getD v.toNat ⟨[]⟩).List⟩;rw[EE];cases e:l[v.toNat]? with
  |none=>simp[QuD,ZW]
  |some q=>exact hd.2 q (xI e)
 have eb:∀v,fQ v->0<=xG (eG l) v/\xG (eG l) v<=13:=λv hv=>by have h1:=aFU a3E (o5 (eG l) v);have h2:=(eq v).2.1;unfold xG;rw[ej v hv,aP (λq=>by cases q.1)];grind
 have er:jM (eG l).aA w=0:=by rcases(by omega:w=0\/w=1\/w=2) with rfl|rfl|rfl<;>rfl
 have eo:aQT (λ_=>0) (eG l) w<=910:=by unfold aQT;rw[ej w hw,er];have h1:=(eq w).1;grind[cE,dA]
 have b0:=eb 0 (by simp[fQ]);have b1:=eb 1 (by simp[fQ]);have b2:=eb 2 (by simp[fQ]);unfold aDJ CN;rcases(by omega:w=0\/w=1\/w=2) with rfl|rfl|rfl<;>omega
def PlT(n:Int)(t:Table):Prop:=TlT n t/\∃q,Sft Ky7 q t
def PhT(n:Int)(t:Table):Prop:=TlT n t/\∃q,Sft Ky7 q t/\∀w,fQ w->¬ZX t w->aDJ q t w<=999
theorem aO3(t:Table):0<=CN (H4 t):=by grind[CN,H4]
theorem PlT.step{n:Int}{t:Table}{w:Int}(hv:TV t)(hw:fQ w)(h:PlT n t):PlT n (iL t w):=by obtain⟨a,q,b⟩:=h;exact⟨a.step hv hw b,_,b.step hv hw⟩
theorem PhT.step{n:Int}(hn:n<=100){t:Table}{w:Int}(hv:TV t)(hw:fQ w)(h:PhT n t):PhT n (iL t w):=by
 obtain⟨a,q,b,c⟩:=h;refine⟨a.step hv hw b,_,b.step hv hw,λv hv' hi=>?_⟩;have hser:t.aO≠1000000:=by have:=a.ser;have:=aO3 t;omega
 by_cases hid:ZX t w
 ·obtain⟨e1,e2⟩:=aR3 (by decide) hv b hw hid;grind
 ·obtain⟨a1,a2⟩:=aXB (by decide) hv b hw hser hid;grind
theorem bNM{l:List aN}(hd:aKE l)(ht:XQ l)(p:List Int)(hp:p.length<=400):lH (MQ (eG l) p)=some (SF 3000 0 (MQ (eG l) p))/\H3 (SF 3000 0 (MQ (eG l) p))=true/\TV (SF 3000 0 (MQ (eG l) p))/\PlT (CN (H4 (eG l))) (SF 3000 0 (MQ (eG l) p))/\(SF 3000 0 (MQ (eG l) p)).Log.length<=3400:=by
 have hn:CN (H4 (eG l))<=100:=by
  have:∀v:Int,H4 (eG l) v<=13:=λv=>by
   show(((l.getD v.toNat ⟨[]⟩).List.length:Nat):Int)<=13;rw[EE];cases e:l[v.toNat]? with
   |none=>simp
   |some q=>exact(hd.2 q (xI e)).2.2.1
  grind[CN]
 obtain⟨v,a,q,b,c⟩:=aDF (P:=PhT (CN (H4 (eG l)))) (λt w hv hw h=>h.step hn hv hw) p (aHK ht) ⟨.zero rfl,_,bLI hd ht,λw hw _=>bLJ hd hw⟩;have hl:=aRX p (eG l);rw[show(eG l).Log.length=0 from rfl] at hl;generalize MQ (eG l) p=t at v a b c hl;obtain⟨g1,g2,g3,_⟩:=aHO (by decide) (PlT (CN (H4 (eG l)))) (λt w hv hw h=>h.step hv hw) (λt h=>by have:=h.1.ser;have:=aO3 t;omega) 3000 0 q t v b ⟨a,q,b⟩ λw hw hi=>by grind
 have:=aXI 3000 0 t;exact⟨aR6 v (by omega) λe he=>(a.ev e he).1,g1,g2,g3,by omega⟩
theorem kX.cls{m:Mem}{x:Int}(h:kX m x):0<=bJ m.Heap (x % 32)/\kU x:=⟨dL h.1.2.1,h.1.1⟩
theorem aO4{m:Mem}(hm:lC m):∀(r:List Int) (done:List Int) (x:Int),ChT m x r->(done++r).Nodup->done.length+r.length<=1000->loop (DF m) (done,x)=some (Out.brk (done++r))
 |[],done,x,h,hn,hl=>by refine bD ?_;have hx:x=0:=h;simp_all[DF]
 |a::r,done,x,h,hn,hl=>by
  obtain⟨rfl,hw,hk,hc⟩:=h;obtain⟨hcl,hh⟩:=hw.cls;obtain⟨c,e,hc0⟩:=ZO hm x;have hx0:x≠0:=by have:=hh.1;omega
  have hnot:x∉done:=λq=>by grind
  simp only[BC] at hl;rw[bG (s':=(done++[x],(dX m x).Next)) (by
   simp only[DF];rw[aL (by grind),e,aJ,hc0.2 hw,g7,contains_eq (by grind[maxLen]),aJ,eU hnot];unfold DE;rw[g7,show Int.tmod x 32=x % 32 from Int.tmod_eq_emod_of_nonneg (by have:=hh.1;omega),aHD hm.1.1.1 hcl hw.2,aJ,aRR,aJ,cD (show aHF (aA7 m.Heap (x % 32)) from hk),g7,R0];rfl)]
  rw[aO4 hm r (done++[x]) _ hc (by grind) (by simp;omega)];simp
theorem aUG{m:Mem}(hm:lC m)(hb:m.Heap.Bytes.length<=maxLen)(ha:(dY m.aD).length<=1073741824){x:Int}{l:List Int}(h:ChT m x l)(hn:l.Nodup)(hl:l.length<=1000):G3 m x=some (l,true):=by unfold G3;rw[CF hb ha,cD hm,aJ,g7,aO4 hm l [] x h (by grind) (by grind)];rfl
def XR:List Int->Int->List Int
 |[],x=>[x]
 |a::t,x=>if a=x then a::t else if x<a then x::a::t else a::XR t x
theorem aO5(y x:Int):∀l:List Int,y∈XR l x↔y=x\/y∈l
 |[]=>by simp[XR]
 |a::t=>by
  unfold XR;split
  ·grind
  split
  ·simp
  ·rw[kD,kD,aO5 y x t];grind
theorem Z1(x:Int):∀{l:List Int},l.Pairwise (· < ·)->(XR l x).Pairwise (· < ·)
 |[],_=>List.pairwise_singleton _ _
 |a::t,h=>by
  have h':=aHT.1 h;unfold XR;split
  ·exact h
  split
  ·grind[aHT]
  ·rename_i h1 h2;rw[aHT];refine⟨λy hy=>?_,Z1 x h'.2⟩;grind[aO5]
theorem aO6{x:Int}:∀{l:List Int},x∉l->(XR l x).length=l.length+1
 |[],_=>rfl
 |a::t,h=>by
  unfold XR;rw[aP (λe=>h (by grind))];split
  ·rfl
  ·rw[BC,aO6 (λz=>h (lJ _ z))];rfl
theorem aXJ{x:Int}:∀{l:List Int},l.Pairwise (· < ·)->x∈l->XR l x=l
 |[],_,h=>by cases h
 |a::t,hp,h=>by
  have h':=aHT.1 hp;unfold XR;split
  ·rfl
  ·rename_i ne;have ht:x∈t:=by grind
   have:=h'.1 x ht;rw[jH,aXJ h'.2 ht]
def aFY(f:Int->List Int):Nat->List Int
 |0=>[]
 |k+1=>aFY f k++f k
def srt(l:List Int):List Int:=l.foldl XR []
theorem bBC(l:List Int):(srt l).Pairwise (· < ·)/\(∀x,x∈srt l↔x∈l)/\(srt l).length<=l.length/\(l.Nodup->(srt l).length=l.length):=by
 suffices h:∀(l a:List Int),a.Pairwise (· < ·)->(l.foldl XR a).Pairwise (· < ·)/\(∀x,x∈l.foldl XR a↔x∈a\/x∈l)/\(l.foldl XR a).length<=a.length+l.length/\((a++l).Nodup->(l.foldl XR a).length=a.length+l.length) by have:=h l [] .nil;grind[srt]
 intro l;induction l with
 |nil=>simp
 |cons y l ih=>
  intro a ha;obtain⟨h1,h2,h3,h4⟩:=ih (XR a y) (Z1 y ha);have hm:=λx=>aO5 x y a;have hle:(XR a y).length<=a.length+1:=by
   by_cases m:y∈a
   ·rw[aXJ ha m];omega
   ·rw[aO6 m];omega
  refine⟨h1,λx=>by grind,by grind,λhn=>?_⟩;have hy:y∉a:=by grind
  have e:=aO6 hy;rw[List.foldl_cons,h4,e]
  ·grind
  ·have hs:(XR a y).Nodup:=(Z1 y ha).imp λh=>by omega
   grind
theorem bFF{l:List Int}(h:l.length<=12)(h0:0∉l):yR l=some (srt l):=by grind[aTM,aNN,bBC]
theorem a0W{a b:List Int}(ha:a.length<=1000)(hb:b.length<=1000):xA [a,b]=some (a++b):=by
 have i0:idx [a,b] 0=some a:=rfl;have i1:idx [a,b] 1=some b:=rfl;have k1:loop (l6 [a,b]) (0,0)=some ((a.length:Int)+b.length):=by
  rw[bG (s':=((a.length:Int),1)) (by simp only[l6];rw[aL (by simp),i0,aJ];grind[cC]),
   bG (s':=((a.length:Int)+b.length,2)) (by simp only[l6];rw[aL (by simp),i1,aJ];grind[cC]),bD (r:=(a.length:Int)+b.length) (by simp[l6])]
 have k2:loop (l5 [a,b]) ([],0)=some (a++b):=by
  rw[bG (s':=(a,1)) (by simp only[l5];rw[aL (by simp),i0,aJ,bY (by grind)];grind[cC]),
   bG (s':=(a++b,2)) (by simp only[l5];rw[aL (by simp),i1,aJ,R1];grind[cC]),bD (r:=a++b) (by simp[l5])]
 have g:aD0 Int ((a.length:Int)+b.length)=some []:=by unfold aD0;rw[R1,aP (by grind)];simp
 unfold xA;rw[k1,aJ];show(aD0 Int _).bind _=_;rw[g,aJ,k2];rfl
def Z2(c:Int->List Int)(J:Int->aH):List Int:=aFY c 2++aFY (λv=>own (J v)) 3
section
variable {Ky:List Int} {b:aA} {k:List cR} {c:Int->List Int} {q:Int->Nat} {J:Int->aH} (h:sQ Ky b k c q J)
include h
theorem aUH(s:Int):csL (Z2 c J) s=ind b s:=by rw[<-h.cnt s];grind[Z2,aFY,VQ,cnC,cnO]
theorem bBD{x:Int}(hx:x∈Z2 c J):kX b.Mem x/\¬bI b.aM (x % 32):=by
 refine⟨?_,?_⟩
 ·have:x∈c 0\/x∈c 1\/x∈own (J 0)\/x∈own (J 1)\/x∈own (J 2):=by grind[Z2,aFY]
  rcases this with m|m|m|m|m
  ·exact((h.ch 0 (by simp[HZ])).all x m).1
  ·exact((h.ch 1 (by simp[HZ])).all x m).1
  ·exact h.ok 0 (by simp[fQ]) x m
  ·exact h.ok 1 (by simp[fQ]) x m
  ·exact h.ok 2 (by simp[fQ]) x m
 ·have:=MD hx;rw[aUH h] at this;grind[ind]
theorem aUI:((Z2 c J).map (· % 32)).Nodup:=List.nodup_iff_count.2 λs=>by have:=aUH h s;grind[csL,ind]
theorem aR8:(Z2 c J).Nodup:=(List.pairwise_map.1 (aUI h)).imp λh e=>h (by rw[e])
theorem aK5{x:Int}(hx:x∈Z2 c J):(0<=x % 32/\x % 32<24)/\x % 32 % 4<2/\x≠0:=by obtain⟨⟨lv,h10⟩,_⟩:=bBD h hx;obtain⟨a,e,f⟩:=rG (dL lv.2.1);rw[f] at h10;have:=lv.1;grind[kU,cM,jC]
theorem a3J:(Z2 c J).length<=12:=by
 have e:=aRY (p:=λi:Nat=>decide ((i:Int)∈(Z2 c J).map (· % 32))) (n:=24) (aUI h) (λx hx=>by
  grind[aK5]) (λi _=>by simp)
 rw[List.length_map] at e;rw[<-e];unfold aT6;refine mC (m:=((List.range 24).filter λi:Nat=>decide (i % 4<2)).length) ?_ (by decide);rw[<-List.countP_eq_length_filter,<-List.countP_eq_length_filter];refine List.countP_mono_left λi _ hi=>?_;obtain⟨y,hy,e⟩:=N0.1 (of_decide_eq_true hi);grind[aK5]
theorem a5P:(o6 b 24).getD 4 0=((Z2 c J).length:Int):=by
 rw[a5D b 24 4 (by omega),aRY (l:=(Z2 c J).map (· % 32)) (aUI h) (λx hx=>?_) (λi hi=>?_),List.length_map]
 ·grind[aK5]
 ·have:=aUH h i;unfold csL at this;rw[decide_eq_true_iff,<-List.count_pos_iff,this];have:=aON b.Mem i;grind[ind,MC]
end
theorem aXK{f:Int->List Int}{x:Int}:∀{n:Nat},x∈aFY f n↔∃i:Nat,i<n/\x∈f i
 |0=>by simp[aFY]
 |n + 1=>by rw[aFY,eD,aXK];grind
section
variable {Ky:List Int} {t:Table} {c:Int->List Int} {q:Int->Nat} (hv:TV t) (h:sQ Ky t.aA t.bS c q (aQ t))
include hv h
theorem aDK{i:Int}(hi:HZ i):(c i).length<=12/\(c i).Nodup:=by have h1:=a3J h;grind[aR8,Z2,aFY]
theorem aXL:EO t=some ([c 0,c 1],true):=by
 have hm:=hv.base.1.1;obtain⟨hcnt,h3,h9,h384,_⟩:=lC.facts hm;have k2:=hv.bk.1;have e:∀i:Int,HZ i->idx t.bS i=some (iD t.bS i)/\G3 t.aA.Mem (iD t.bS i).Head=some (c i,true):=λi hi=>by obtain⟨a,b⟩:=aDK hv h hi;refine⟨?_,aUG hm (by grind[maxLen]) (by omega) (h.ch i hi) b (by omega)⟩;grind[gX,iD]
 have key:loop (yS t) (([]:List (List Int)),0)=some (Out.brk [c 0,c 1]):=by
  rw[bG (s':=([c 0],1)) (by simp_all[yS,cC,bY]),
   bG (s':=([c 0,c 1],2)) (by simp_all[yS,cC,bY]),bD (r:=Out.brk [c 0,c 1]) (by grind[yS])]
 unfold EO;rw[aFW hv,aJ,g7,key];rfl
theorem bBE:QK t=some (srt (aFY c 2)):=by have a:=(aDK hv h (i:=0) (by simp[HZ])).1;have b:=(aDK hv h (i:=1) (by simp[HZ])).1;have l1:=a3J h;have hz:=λhx=>(aK5 h (x:=0) hx).2.2 rfl;grind[Z2,QK,aXL,a0W,aFY,bFF]
end
theorem aR9{s:List KV}{p:KV->Bool}(hl:s.length<=4611686018427387904) :
  (∃j,∃h:j<s.length,(∀i (h:i<s.length),i<j->p s[i]=false)/\p s[j]=true/\iX s (λy=>some (p y))=some (j:Int))\/((∀i (h:i<s.length),p s[i]=false)/\iX s (λy=>some (p y))=some (-1)):=by
 rcases TN (f:=tZ s (λy=>some (p y))) (p:=p) hl (λk=>by
  simp only[tZ];by_cases h:k<s.length
  ·rw[dif_pos h,dM,aV h,aJ,aJ,eB];rfl
  grind) s.length 0 (by omega) with ⟨j,h,_,h2,h3,h4⟩|⟨h1,h2⟩
 ·refine .inl ⟨j,h,λi hi a=>h2 i hi (iY _) a,h3,?_⟩;unfold iX;rw[show(0:Int)=((0:Nat):Int) from rfl,h4];rfl
 ·refine .inr ⟨λi hi=>h1 i hi (iY _),?_⟩;unfold iX;rw[show(0:Int)=((0:Nat):Int) from rfl,h2];rfl
theorem a0K{s:List KV}{p:KV->Bool}(hl:s.length<=4611686018427387904):qG s (λy=>some (p y))=some (s.filter λx=>!p x):=by
 unfold qG;rcases aR9 (p:=p) hl with ⟨j,h,h1,h2,h3⟩|⟨h1,h3⟩
 ·have ne:¬(((j:Int) == -1)=true):=by simp
  rw[h3,aJ,aP ne,eB];obtain⟨M,k,g1,g2,g3,g4⟩:=aFE (p:=p) (n:=s.length) (f:=mK (λy=>some (p y))) hl (λL i j h hn hi=>by
   simp only[mK];rw[dM,aV h,aJ,aJ];by_cases hp:p L[j]=true
   ·rw[aL hp,aP (by simp[hp])];grind[jZ,cC]
   ·rw[aP hp,aL (by grind),O0,aJ];grind[jZ,cC]) (λL i j h=>by
   simp_all[mK]) (s.length-(j+1)) s j (j+1) (by omega) rfl (by omega)
  grind[ER,EP,bY,eN,aG8,aNL]
 ·rw[h3,aJ,aL (by rfl),List.filter_eq_self.2];grind[SG]
theorem bBF{O:Type}{p:O->Bool}:∀{l:List O},(∀x∈l,p x=true)->l.dropWhile p=[]
 |[],_=>rfl
 |a::l,h=>by rw[List.dropWhile_cons,aL (h a (by simp)),bBF λx hx=>h x (by simp[hx])]
def mpF(m:List KV)(k v:Int):List KV:=(m.filter λx=>!(x.Key == k)).takeWhile (λx=>!decide (k<x.Key))++⟨k,v⟩::(m.filter λx=>!(x.Key == k)).dropWhile (λx=>!decide (k<x.Key))
theorem a5Q{m:List KV}(hl:m.length<=100000)(k v:Int):ES m k v=some (mpF m k v):=by
 unfold ES YK LX;rw[R0,aJ,VX,show(λy0=>RP y0 k)=(λy=>some (y.Key == k)) from rfl,a0K (by omega),aJ,aJ];unfold mpF;have hd:(m.filter λx=>!(x.Key == k)).length<=m.length:=List.length_filter_le _ _;generalize (m.filter λx=>!(x.Key == k))=d at hd;have ins:∀j:Nat,j<=d.length->yT k v d (j:Int)=some (d.take j++⟨k,v⟩::d.drop j):=λj hj=>by unfold yT I6;rw[R0,aJ];simp
 rw[show(λy0=>RQ y0 k)=(λy=>some (decide (k<y.Key))) from rfl];rcases aR9 (s:=d) (p:=λy=>decide (k<y.Key)) (by omega) with ⟨j,h,h1,h2,h3⟩|⟨h1,h3⟩
 ·obtain⟨e1,e2⟩:=aTS (q:=λx:KV=>!decide (k<x.Key)) h (λi hi a=>by simp only[h1 i hi a];rfl) (by simp only[h2];rfl);rw[h3,aJ,g7,ins j (by omega),e1,e2]
 ·have hall:∀x∈d,(!decide (k<x.Key))=true:=λx hx=>by obtain⟨i,hi,rfl⟩:=SG hx;simp only[h1 i hi];rfl
  have e0:d.dropWhile (λx:KV=>!decide (k<x.Key))=[]:=bBF hall;have e1:=List.takeWhile_append_dropWhile (p:=λx:KV=>!decide (k<x.Key)) (l:=d);rw[e0,wM] at e1;rw[h3,aJ,aL (by decide),ins d.length (iE _),e0,e1];simp
theorem bFG{m:List KV}{k v:Int}(h:∀x∈m,x.Key≠k):(mpF m k v).length=m.length+1/\∀x,x∈mpF m k v↔x=⟨k,v⟩\/x∈m:=by
 unfold mpF;rw[List.filter_eq_self.2 (λx hx=>by simpa using h x hx)];have e:=List.takeWhile_append_dropWhile (p:=λx:KV=>!decide (k<x.Key)) (l:=m);have el:=cB List.length e;simp only[BA] at el;refine⟨by simp only[BA,BC];omega,λx=>?_⟩;constructor
 ·intro hx;rcases eD.1 hx with q|q
  ·exact .inr (e ▸ eD.2 (.inl q))
  ·rcases kD.1 q with q|q
   ·exact .inl q
   ·exact .inr (e ▸ eD.2 (.inr q))
 ·rintro(rfl|q)
  ·simp
  ·rw[<-e] at q;rcases eD.1 q with q|q
   ·exact eD.2 (.inl q)
   ·exact eD.2 (.inr (lJ _ q))
def chF(m:Mem)(l:List Int)(a:List KV):List KV:=l.foldr (λh a=>mpF a (dX m h).Key (dX m h).eI) a
theorem aFZ{m:Mem}{a:List KV}:∀{l:List Int},(m6 m l).Nodup->(∀x∈a,∀y∈l,x.Key≠(dX m y).Key)->(chF m l a).length=a.length+l.length/\∀x,x∈chF m l a↔x∈a\/∃y∈l,x=⟨(dX m y).Key,(dX m y).eI⟩
 |[],_,_=>by simp[chF]
 |h::l,hn,hd=>by
  unfold m6 at hn;rw[KH,aBG] at hn;obtain⟨i1,i2⟩:=aFZ (l:=l) hn.2 (λx hx y hy=>hd x hx y (lJ _ hy));have hne:∀x∈chF m l a,x.Key≠(dX m h).Key:=λx hx e=>by
   rcases(i2 x).1 hx with q|⟨y,hy,rfl⟩
   ·exact hd x q h (aBE ..) e
   ·exact hn.1 (N0.2 ⟨y,hy,e⟩)
  obtain⟨k1,k2⟩:=bFG (v:=(dX m h).eI) hne;refine⟨?_,λx=>?_⟩
  ·show(mpF (chF m l a) _ _).length=_;rw[k1,i1,BC];omega
  ·show x∈mpF (chF m l a) _ _↔_;rw[k2,i2];constructor
   ·rintro(rfl|q|⟨y,hy,e⟩)
    ·exact .inr ⟨h,aBE ..,rfl⟩
    ·exact .inl q
    ·exact .inr ⟨y,lJ _ hy,e⟩
   ·rintro(q|⟨y,hy,e⟩)
    ·exact .inr (.inl q)
    ·rcases kD.1 hy with rfl|hy
     ·exact .inl e
     ·exact .inr (.inr ⟨y,hy,e⟩)
section
variable {Ky:List Int} {t:Table} {c:Int->List Int} {q:Int->Nat} (hv:TV t) (h:sQ Ky t.aA t.bS c q (aQ t))
include hv h
theorem a0L{i:Int}(hi:HZ i):∀{l A:List Int} {a:List KV},c i=A++l->(m6 t.aA.Mem l).Nodup->(∀x∈a,∀y∈l,x.Key≠(dX t.aA.Mem y).Key)->a.length<=1000->l.length<=100->tmB t l a=some (chF t.aA.Mem l a)
 |[],_,_,_,_,_,_,_=>rfl
 |x::l,A,a,e,hn,hd,ha,hl=>by have hm:=hv.base.1.1;unfold m6 at hn;rw[KH,aBG] at hn;rw[BC] at hl;have hd':∀z∈a,∀y∈l,z.Key≠(dX t.aA.Mem y).Key:=λz hz y hy=>hd z hz y (lJ _ hy);have ih:=a0L hi (l:=l) (A:=A++[x]) (a:=a) (by rw[e];simp) hn.2 hd' ha (by omega);obtain⟨w1,w2⟩:=(h.ch i hi).all x (by rw[e];simp);obtain⟨hcl,hh⟩:=w1.cls;have hlen:=(aFZ (m:=t.aA.Mem) (l:=l) hn.2 hd').1;unfold tmB;rw[ih,aJ,show Int.tmod x 32=x % 32 from Int.tmod_eq_emod_of_nonneg (by have:=hh.1;omega),aHD hm.1.1.1 hcl w1.2,aJ];exact a5Q (by omega) _ _
def aXM(m:Mem)(c:Int->List Int):List KV:=chF m (c 1) (chF m (c 0) [])
theorem aXN:∀x∈chF t.aA.Mem (c 0) [],∀y∈c 1,x.Key≠(dX t.aA.Mem y).Key:=λx hx y hy e=>by
 obtain⟨k1,k2⟩:=h.key 0 (by simp[HZ]);obtain⟨k3,k4⟩:=h.key 1 (by simp[HZ]);rcases((aFZ (a:=[]) k1 (by simp)).2 x).1 hx with q|⟨z,hz,rfl⟩
 ·cases q
 ·have e1:=(k2 _ (N0.2 ⟨z,hz,rfl⟩)).1;have e2:=(k4 _ (N0.2 ⟨y,hy,rfl⟩)).1;have e:(dX t.aA.Mem z).Key=(dX t.aA.Mem y).Key:=e;rw[e] at e1;omega
theorem a3L:wF t=some (aXM t.aA.Mem c)/\(aXM t.aA.Mem c).length=(c 0).length+(c 1).length:=by obtain⟨k1,_⟩:=h.key 0 (by simp[HZ]);obtain⟨k3,_⟩:=h.key 1 (by simp[HZ]);have l0:=(aDK hv h (i:=0) (by simp[HZ])).1;have l1:=(aDK hv h (i:=1) (by simp[HZ])).1;obtain⟨e0,_⟩:=aFZ (m:=t.aA.Mem) (a:=[]) k1 (by simp);obtain⟨e1,_⟩:=aFZ (m:=t.aA.Mem) k3 (aXN hv h);refine⟨?_,by unfold aXM;rw[e1,e0];simp⟩;unfold wF;rw[aXL hv h,aJ];simp only[tmL];rw[a0L hv h (by simp[HZ]) (A:=[]) rfl k1 (by simp) (by simp) (by omega),aJ,a0L hv h (by simp[HZ]) (A:=[]) rfl k3 (aXN hv h) (by rw[e0];simp;omega) (by omega)];rfl
end
theorem a0M{m m':Mem}{c:Int->List Int}(h:∀i,HZ i->∀x∈c i,dX m' x=dX m x):aXM m' c=aXM m c:=by
 have key:∀(l:List Int) (a:List KV),(∀x∈l,dX m' x=dX m x)->chF m' l a=chF m l a:=λl a=>by
  induction l with
  |nil=>intro _;rfl
  |cons x l ih=>
   intro hk;show mpF (chF m' l a) _ _=mpF (chF m l a) _ _;rw[ih (λy hy=>hk y (lJ _ hy)),hk x (aBE ..)]
 unfold aXM;rw[key _ _ (h 0 (by simp[HZ])),key _ _ (h 1 (by simp[HZ]))]
theorem bBG{b:aA}(hc:JC b.aC)(s:Sub){v:Int}(hv:fQ v):(b9 (cJ b s).1.aC v).On=(b9 b.aC v).On:=by
 unfold cJ;split;rfl;split
 ·split
  ·rename_i hB;have:=((ZP hc hB s.E).2.1 v hv).1;split<;>exact this
  ·rfl
 split
 ·unfold QU;split<;>rfl
 ·rfl
theorem bBH{b:aA}(hc:JC b.aC){w v:Int}(hw:fQ w)(hv:fQ v)(s:Sub)(h:v≠w\/s.Kind≠5):(b9 (iB b w s).1.aC v).On=(b9 b.aC v).On:=by
 by_cases k:s.Kind=1\/s.Kind=2\/s.Kind=4
 ·rw[EB k]
 unfold iB;rw[aP (show ¬s.Kind=1 by omega),aP (show ¬s.Kind=2 by omega),aP (show ¬s.Kind=4 by omega)];split;rfl;split;exact bBG hc s hv;split
 ·obtain⟨cl,e,_,e2⟩:=aZ9 hc hw s;rw[e];exact cB vW.On (e2 v hv (by omega))
 ·rfl
theorem bLL{b:aA}{k:List cR}(hc:JC b.aC){w v:Int}(hw:fQ w)(hv:fQ v)(hn:v≠w)(j:aH):(b9 (qW b k w j).b.aC v).On=(b9 b.aC v).On:=by
 have hs:=bBH hc hw hv j.Sub (.inl hn);have cl:∀{c:aC},c=b.aC->(b9 c v).On=(b9 b.aC v).On:=λe=>by rw[e]
 unfold qW;have P:∀{c:Prop} [Decidable c] {x y:TR},(c->(b9 x.b.aC v).On=(b9 b.aC v).On)->(¬c->(b9 y.b.aC v).On=(b9 b.aC v).On)->_:=dQ (P:=λr=>(b9 r.b.aC v).On=(b9 b.aC v).On);refine P (λ_=>hs) λ_=>P (λ_=>rfl) λ_=>P (λ_=>rfl) λ_=>P (λ_=>?_) λ_=>P (λ_=>rfl) λ_=>P (λ_=>rfl) λ_=>P (λ_=>cl (by grind[CL])) λ_=>P (λ_=>rfl) λ_=>P (λ_=>?_) λ_=>P (λ_=>cl (by grind[JG])) λ_=>P (λ_=>cB vW.On ((aOU hc hw).2 v hv hn)) λ_=>P (λ_=>rfl) λ_=>rfl
 ·unfold HY;split;rfl;exact hs
 ·unfold LC;split;rfl;exact hs
theorem bI3{b:aA}{k:List cR}{w:Int}{j:aH}(h:0<=j.Pc/\j.Pc<=17):(qW b k w j).j.Pc<=18:=by
 unfold qW;have P:∀{c:Prop} [Decidable c] {x y:TR},(c->x.j.Pc<=18)->(¬c->y.j.Pc<=18)->_:=dQ (P:=λr=>r.j.Pc<=18);refine P (λp=>by show(jT b w j).2.Pc<=18;unfold jT;rw[aL (show j.Pc=0 by omega)];simp only;split<;>(simp only;omega)) λ_=>P (λp=>by show(VM j).Pc<=18;grind[VM,zE,A7,JF,aHH,aA8]) λ_=>P (λp=>by show(IN b k w j).Pc<=18;grind[IN,zE,A7,JF,aHH,aA8]) λ_=>
  P (λp=>by show(HY b w j).2.Pc<=18;grind[HY,A7]) λ_=>P (λp=>by show(O9 k w j).2.1.Pc<=18;grind[O9,PN,A7]) λ_=>P (λp=>by show(XP k w j).Pc<=18;grind[XP,A7]) λ_=>
  P (λp=>by show(CL b k j).2.2.Pc<=18;grind[CL,SA,T1,A7]) λ_=>P (λp=>by show(PA k j).2.Pc<=18;grind[PA,SB]) λ_=>P (λp=>by show(LC b w j).2.Pc<=18;grind[LC,SB]) λ_=>
  P (λp=>by show(JG b w j).2.Pc<=18;grind[JG]) λ_=>P (λp=>by omega) λ_=>P (λp=>by omega) λ_=>by show(A7 j 1).Pc<=18;simp[A7]
def c20(j:aH):Int:=if j.cO=true/\j.Pc=20 then 1 else 0
def PoT(t:Table):Prop:=(∀v,fQ v->(aQ t v).cO=false\/19<=(aQ t v).Pc->(b9 t.aA.aC v).On=false)/\t.aA.aC.aE+CN (λv=>c20 (aQ t v))<=t.aO
theorem aDL(j:aH):0<=c20 j/\c20 j<=1:=by unfold c20;split<;>simp
theorem a3M{j:aH}(h:j=dA\/j.Pc≠20):c20 j=0:=by
 unfold c20;rcases h with rfl|h
 ·rfl
 ·rw[aP λz=>h z.2]
section
variable {Ky:List Int} {q:Int->Nat} {t:Table} (hK:Ky.length<=8) (hv:TV t) (hs:Sft Ky q t) {w:Int} (hw:fQ w)
include hK hv hs hw
theorem aXP(hB:(aQ t w).cO=true)(hp:(aQ t w).Pc=20):(iB t.aA w (aQ t w).Sub)=cJ t.aA (aQ t w).Sub/\(cJ t.aA (aQ t w).Sub).1.aC.aE+(if(cJ t.aA (aQ t w).Sub).2.gL then 0 else 1)<=t.aA.aC.aE+1:=by
 have hc:=hv.base.1.2.1;obtain⟨k3,d,s⟩:=(aDI hw hc hs.ep hB).2 hp;refine⟨by unfold iB;simp[k3,d],?_⟩;generalize (aQ t w).Sub=x at *;unfold cJ;rcases s with z|⟨_,⟨z,z1⟩|⟨z,z1⟩⟩
 ·rw[aL z];simp only[d];simp
 ·have e:=(ZP hc z1 x.E).1;rw[jH,aL z,aL z1];split
  ·simp only[d,e];simp
  ·simp only[e,qY];simp;omega
 ·rw[jH,jH,aL z];simp only[qY,aL];unfold QU;split
  ·rename_i q;simp only;omega
  ·simp only;omega
theorem bLM(hB:(aQ t w).cO=true):t.aA.aC.aE<=(qW t.aA t.bS w (aQ t w)).b.aC.aE/\(qW t.aA t.bS w (aQ t w)).b.aC.aE+c20 (qW t.aA t.bS w (aQ t w)).j<=t.aA.aC.aE+c20 (aQ t w):=by
 have hJ:∀v,fQ v->(aQ t v).cO=true->JB (aQ t v):=λv hv' hB=>(hv.sV.2 _ (rH hv.sV.1 hv')).resolve_left λe=>by rw[e] at hB;cases hB
 obtain⟨c,sv⟩:=hs.sv;obtain⟨_,a2⟩:=a3D hK sv hs.lk hw hv.base hv.bk hJ hB hs.ep;have hpc:=(sv.tw w hw hB).pc;have hc:=hv.base.1.2.1;have mono:t.aA.aC.aE<=(qW t.aA t.bS w (aQ t w)).b.aC.aE:=by
  by_cases p:(aQ t w).Pc=20
  ·have e:(qW t.aA t.bS w (aQ t w)).b=(iB t.aA w (aQ t w).Sub).1:=by unfold qW;rw[aL (by omega)];rfl
   obtain⟨cl,e2,e3,_⟩:=aUC hc (aQ t w).Sub;rw[e,(aXP hK hv hs hw hB p).1,e2];exact e3
  ·rcases a2 with a2|a2
   ·omega
   ·omega
 refine⟨mono,?_⟩;by_cases p:(aQ t w).Pc=20
 ·obtain⟨e1,e2⟩:=aXP hK hv hs hw hB p;have e:qW t.aA t.bS w (aQ t w)=⟨(jT t.aA w (aQ t w)).1,t.bS,(jT t.aA w (aQ t w)).2,[]⟩:=by unfold qW;rw[aL (by omega)]
  have c1:c20 (aQ t w)=1:=by unfold c20;rw[aL ⟨hB,p⟩]
  rw[e,c1];unfold jT;rw[e1,aP (show ¬(aQ t w).Pc=0 by omega),aL p];simp only;by_cases z:(cJ t.aA (aQ t w).Sub).2.gL=false
  ·rw[aL z];rw[z] at e2;simp at e2;exact aK6 (Int.add_le_add_left (aDL _).2 _) (Int.add_le_add_right e2 1)
  ·rw[aP z];rw[a3M (.inr (by simp))];split at e2<;>omega
 ·have z:c20 (qW t.aA t.bS w (aQ t w)).j=0:=by
   by_cases y:1<=(aQ t w).Pc/\(aQ t w).Pc<=19
   ·rcases a0C (b:=t.aA) (k:=t.bS) (w:=w) y with e|e
    ·exact a3M (.inl e)
    ·exact a3M (.inr (by omega))
   ·have e:(qW t.aA t.bS w (aQ t w)).j=(jT t.aA w (aQ t w)).2:=by unfold qW;rw[aL (by omega)]
    rw[e];refine a3M (.inr ?_);unfold jT;simp only;split
    ·exact p
    ·split
     ·simp
     ·simp
  have:=(aDL (aQ t w)).1;rcases a2 with a2|a2
  ·omega
  ·exact absurd a2.1 p
theorem PoT.step(h:PoT t):PoT (iL t w):=by
 have h3:=hv.sV.1;have hc:=hv.base.1.2.1;obtain⟨h1,h2⟩:=h;obtain⟨c,sv⟩:=hs.sv;unfold iL;by_cases hB:(aQ t w).cO=true
 ·rw[aL hB];have hpc:=(sv.tw w hw hB).pc;have ej:∀v,fQ v->aQ (EC t w (qW t.aA t.bS w (aQ t w))) v=if v=w then(qW t.aA t.bS w (aQ t w)).j else aQ t v:=λv hv'=>QY h3 hw rfl hv';obtain⟨_,de⟩:=bLM hK hv hs hw hB;refine⟨λv hv' hb=>?_,?_⟩
  ·rw[ej v hv'] at hb;show(b9 (qW t.aA t.bS w (aQ t w)).b.aC v).On=false;by_cases e:v=w
   ·rw[aL e] at hb;rw[e];by_cases p17:(aQ t w).Pc<=17
    ·exfalso;have l:=bI3 (b:=t.aA) (k:=t.bS) (w:=w) ⟨hpc.1,p17⟩;rcases a3I t.aA t.bS w (aQ t w) hpc with ⟨_,s2,_⟩|⟨s,_⟩
     ·rw[s2,hB] at hb;rcases hb with hb|hb
      ·cases hb
      ·omega
     ·omega
    ·by_cases p18:(aQ t w).Pc=18
     ·have e:(qW t.aA t.bS w (aQ t w)).b={t.aA with aC:=(D8 t.aA.aC w).1}:=by unfold qW;simp only[p18];rfl
      rw[e];show(b9 (D8 t.aA.aC w).1 w).On=false;unfold D8;split
      ·rw[wI hc hw hw,aL rfl]
      ·rename_i z;simpa using z
     ·have off:=h1 w hw (.inr (by omega));rw[<-off];by_cases p19:(aQ t w).Pc=19
      ·have e:(qW t.aA t.bS w (aQ t w)).b=t.aA:=by unfold qW;simp only[p19];rfl
       rw[e]
      ·have e:(qW t.aA t.bS w (aQ t w)).b=(iB t.aA w (aQ t w).Sub).1:=by unfold qW;rw[aL (by omega)];rfl
       rw[e];refine bBH hc hw hw _ (.inr ?_);by_cases p20:(aQ t w).Pc=20
       ·have:=((aDI hw hc hs.ep hB).2 p20).1;omega
       ·have:=((sv.sb w hw).col (by omega)).1;omega
   ·rw[aP e] at hb;rw[bLL hc hw hv' e];exact h1 v hv' hb
  ·show(qW t.aA t.bS w (aQ t w)).b.aC.aE+_<=t.aO;have a:=aFV (f:=λv=>c20 (aQ t v)) (g:=λv=>c20 (aQ (EC t w (qW t.aA t.bS w (aQ t w))) v)) hw λv hv' hn=>by rw[ej v hv',aP hn]
   rw[ej w hw,aL rfl] at a;omega
 ·rw[aP hB];by_cases hq:(o5 t w).length=0\/t.aO=1000000
  ·rw[aL hq];exact⟨h1,h2⟩
  ·rw[aP hq];generalize (o5 t w).getD 0 ⟨false,[]⟩=x;have ej:∀v,fQ v->aQ (LD t w x) v=if v=w then lB x (t.aO+1) else aQ t v:=λv hv'=>QY h3 hw rfl hv';refine⟨λv hv' hb=>?_,?_⟩
   ·rw[ej v hv'] at hb;show(b9 t.aA.aC v).On=false;by_cases e:v=w
    ·rw[e];exact h1 w hw (.inl (by simpa using hB))
    ·rw[aP e] at hb;exact h1 v hv' hb
   ·show t.aA.aC.aE+_<=t.aO+1;have a:=aFV (f:=λv=>c20 (aQ t v)) (g:=λv=>c20 (aQ (LD t w x) v)) hw λv hv' hn=>by rw[ej v hv',aP hn]
    rw[ej w hw,aL rfl] at a;have:=(aDL (lB x (t.aO+1))).2;have:=(aDL (aQ t w)).1;omega
end
theorem PoT.zero(l:List aN):PoT (eG l):=by refine⟨λv hv _=>?_,H6 _⟩;rcases(by unfold fQ at hv;omega:v=0\/v=1\/v=2) with rfl|rfl|rfl<;>rfl
theorem aXQ{l:List dR}{e:Int}(hl:l≠[])(h:∀r∈l,EY r e):mA l e 0=0:=by
 cases l with
 |nil=>exact absurd rfl hl
 |cons a t=>
  unfold mA;rw[PO,List.findIdx_cons,cD (h a (aBE ..))];rfl
def DnJ(e0:Int)(b:aA)(v d:Int)(j:aH):Prop:=
 ((j=dA\/j.cO=true/\j.Pc=19)/\e0+d<=b.aC.aE/\(2<=d->bQ b.aM v=[])) \/
 ((j.cO=true/\j.Pc=20)/\e0+d<=b.aC.aE+1/\(j.Sub.Pc≠0->e0+d<=j.Sub.E+1)/\(3<=d->bQ b.aM v=[])) \/
 ((j.cO=true/\j.Pc=21)/\e0+d<=b.aC.aE/\(2<=d->j.Sub.Pc≠0->e0+d<=j.Sub.E/\j.Sub.Row=0)/\(3<=d->bQ b.aM v=[]))
theorem DnJ.mono{e0:Int}{b b':aA}{v d:Int}{j:aH}(h:DnJ e0 b v d j)(he:b.aC.aE<=b'.aC.aE)(hr:bQ b'.aM v=bQ b.aM v):DnJ e0 b' v d j:=by
 unfold DnJ at *;rw[hr];rcases h with ⟨a,b,c⟩|⟨a,b,c,d⟩|⟨a,b,c,d⟩
 ·exact .inl ⟨a,by omega,c⟩
 ·exact .inr (.inl ⟨a,by omega,c,d⟩)
 ·exact .inr (.inr ⟨a,by omega,c,d⟩)
structure Dn (e0:Int) (c:Int->List Int) (m0:Mem) (t:Table):Prop where
 sv:∃q,sQ Ky7 t.aA t.bS c q (aQ t)
 nd:∀i,HZ i->∀x∈c i,dX t.aA.Mem x=dX m0 x
 off:∀v,fQ v->(b9 t.aA.aC v).On=false
 row:∀v,fQ v->∀r∈bQ t.aA.aM v,r.aE<=e0
 qs:∀v,fQ v->(o5 t v).length<=4/\∀b∈o5 t v,b=⟨true,[]⟩
 jb:∀v,fQ v->DnJ e0 t.aA v (4-(o5 t v).length) (aQ t v)
section
variable {e0:Int} {c:Int->List Int} {m0:Mem} {q:Int->Nat} {t:Table} (hv:TV t) (hs:Sft Ky7 q t) {w:Int} (hw:fQ w) (h:Dn e0 c m0 t)
include hv hw h
theorem Dn.make{r:TR}(hsv:∃q,sQ Ky7 r.b r.k c q (wJ (aQ t) w r.j))(hep:t.aA.aC.aE<=r.b.aC.aE)(hon:∀v,fQ v->(b9 r.b.aC v).On=(b9 t.aA.aC v).On)(hro:∀v,fQ v->v≠w->bQ r.b.aM v=bQ t.aA.aM v)(hrw:∀x∈bQ r.b.aM w,x∈bQ t.aA.aM w)
  (hnd:∀i,HZ i->∀x∈c i,dX r.b.Mem x=dX t.aA.Mem x) (hj:DnJ e0 r.b w (4-(o5 t w).length) r.j):Dn e0 c m0 (EC t w r):=by
 have h3:=hv.sV.1;have ej:∀v,fQ v->aQ (EC t w r) v=wJ (aQ t) w r.j v:=λv hv'=>QY h3 hw rfl hv';obtain⟨q',sv⟩:=hsv;refine⟨⟨q',sv.congr ej⟩,λi hi x hx=>(hnd i hi x hx).trans (h.nd i hi x hx),λv hv'=>(hon v hv').trans (h.off v hv'),λv hv' x hx=>?_,h.qs,λv hv'=>?_⟩
 ·by_cases e:v=w
  ·rw[e] at hx;exact h.row w hw x (hrw x hx)
  ·exact h.row v hv' x (by rw[<-hro v hv' e];exact hx)
 ·rw[ej v hv'];by_cases e:v=w
  ·rw[e,LF];exact hj
  ·rw[ZU _ _ e];exact(h.jb v hv').mono hep (hro v hv' e)
include hs
theorem bI4(hB:(aQ t w).cO=true)(p:(aQ t w).Pc=21):Dn e0 c m0 (EC t w (qW t.aA t.bS w (aQ t w))):=by
 have hJ:∀v,fQ v->(aQ t v).cO=true->JB (aQ t v):=λv hv' hB=>(hv.sV.2 _ (rH hv.sV.1 hv')).resolve_left λe=>by rw[e] at hB;cases hB
 obtain⟨qs,sv⟩:=h.sv;have hc:=hv.base.1.2.1;have hL:=hv.base.1.2.2.1;have e:qW t.aA t.bS w (aQ t w)=⟨(jT t.aA w (aQ t w)).1,t.bS,(jT t.aA w (aQ t w)).2,[]⟩:=by unfold qW;rw[aL (by omega)]
 have sv':=a0D sv hs.lk hw hv.base hv.bk hJ hB hs.ep (by omega);obtain⟨k4,d,s⟩:=(sv.sb w hw).col p;have es:iB t.aA w (aQ t w).Sub=bZ t.aA w (aQ t w).Sub:=by unfold iB;simp[k4,d]
 have hcl:(bZ t.aA w (aQ t w).Sub).1.aC=t.aA.aC:=by rw[<-es];exact EB (.inr (.inr k4))
 have hjb:=h.jb w hw;unfold DnJ at hjb;generalize hd:(4-(o5 t w).length:Int)=dd at hjb;obtain⟨j1,j2,j3⟩:e0+dd<=t.aA.aC.aE/\(2<=dd->(aQ t w).Sub.Pc≠0->e0+dd<=(aQ t w).Sub.E/\(aQ t w).Sub.Row=0)/\(3<=dd->bQ t.aA.aM w=[]):=by
  rcases hjb with z|z|z
  ·rcases z.1 with z|z
   ·rw[z] at hB;cases hB
   ·omega
  ·omega
  ·exact z.2
 generalize hj:aQ t w=j at *;have mk:∀{b':aA} {s':Sub},bZ t.aA w j.Sub=(b',s')->b'.aM=t.aA.aM->b'.Mem=t.aA.Mem->DnJ e0 b' w dd (jT t.aA w j).2->Dn e0 c m0 (EC t w (qW t.aA t.bS w j)):=λ{b' s'} e1 eL eM q=>by
  have e2:(jT t.aA w j).1=b':=by unfold jT;rw[es,e1]
  rw[e];refine h.make hv hw ⟨qs,by rw[<-hj] at sv' ⊢;exact sv'⟩ ?_ ?_ ?_ ?_ ?_ (by rw[hd];simp only;rw[e2];exact q)
  all_goals simp only[e2]
  all_goals (try rw[eL])
  all_goals (try rw[eM])
  ·rw[<-hcl,e1];exact H6 _
  ·intro v hv';rw[<-hcl,e1]
  ·exact λ_ _ _=>rfl
  ·exact λ_ h=>h
  ·exact λ_ _ _ _=>rfl
 have ripe:2<=dd->j.Sub.Pc≠0->j.Sub.E<=t.aA.aC.aE->∀r∈bQ t.aA.aM w,EY r j.Sub.E:=λq1 q2 q3 r hr=>by have a:=(j2 q1 q2).1;have b:=h.row w hw r hr;have hf:=zD hL hw hr;have hep:=hc.1;have h0:=(hL.2.2.1 r hf);unfold CG at h0;unfold EY;rw[eB];omega
 rcases s with z|⟨ie,⟨z,r0⟩|⟨z,hB2,ha,hr⟩|⟨z,ha,hr⟩⟩
 ·have e1:bZ t.aA w j.Sub=(t.aA,{j.Sub with Pc:=1,E:=t.aA.aC.aE,Row:=0}):=by unfold bZ;rw[aL z]
  refine mk e1 rfl rfl ?_;have e3:(jT t.aA w j).2={j with Sub:={j.Sub with Pc:=1,E:=t.aA.aC.aE,Row:=0}}:=by unfold jT;rw[es,e1];simp only;rw[aL d]
  rw[e3];exact .inr (.inr ⟨⟨hB,p⟩,j1,λ_ _=>⟨j1,rfl⟩,j3⟩)
 ·by_cases y:mA (bQ t.aA.aM w) j.Sub.E j.Sub.Row.toNat<(bQ t.aA.aM w).length
  ·have e1:bZ t.aA w j.Sub=(t.aA,{j.Sub with Pc:=2,Row:=(mA (bQ t.aA.aM w) j.Sub.E j.Sub.Row.toNat:Int),B:=0,H:=(LB (bQ t.aA.aM w) (mA (bQ t.aA.aM w) j.Sub.E j.Sub.Row.toNat:Int)).Handle}):=by unfold bZ;rw[jH,aL z,aL y]
   refine mk e1 rfl rfl ?_;have e3:(jT t.aA w j).2={j with Sub:={j.Sub with Pc:=2,Row:=(mA (bQ t.aA.aM w) j.Sub.E j.Sub.Row.toNat:Int),B:=0,H:=(LB (bQ t.aA.aM w) (mA (bQ t.aA.aM w) j.Sub.E j.Sub.Row.toNat:Int)).Handle}}:=by unfold jT;rw[es,e1];simp only;rw[aL d]
   rw[e3];refine .inr (.inr ⟨⟨hB,p⟩,j1,λq _=>?_,j3⟩);obtain⟨a1,a2⟩:=j2 q (by omega);have hne:bQ t.aA.aM w≠[]:=λe=>by rw[e] at y;simp at y
   refine⟨a1,?_⟩;show(mA (bQ t.aA.aM w) j.Sub.E j.Sub.Row.toNat:Int)=0;rw[a2,Int.toNat_zero,aXQ hne (ripe q (by omega) ie)];rfl
  ·have e1:bZ t.aA w j.Sub=(t.aA,qY j.Sub 0):=by unfold bZ;rw[jH,aL z,aP y]
   refine mk e1 rfl rfl ?_;have e3:(jT t.aA w j).2={j with Pc:=19,Sub:=qY j.Sub 0}:=by unfold jT;rw[es,e1];simp[qY,show ¬j.Pc=0 by omega,show ¬j.Pc=20 by omega]
   rw[e3];refine .inl ⟨.inr ⟨hB,rfl⟩,j1,λq=>?_⟩;obtain⟨a1,a2⟩:=j2 q (by omega);by_cases hne:bQ t.aA.aM w=[]
   ·exact hne
   ·exfalso;apply y;rw[a2,Int.toNat_zero,aXQ hne (ripe q (by omega) ie)];exact List.length_pos_iff.2 hne
 ·have hH:j.Sub.H≠0:=by have:=(hv.base.2 _ (zD hL hw (ZM ⟨ha.1,ha.2.1⟩))).1.1;rw[ha.2.2] at this;unfold kU at this;omega
  have e1:bZ t.aA w j.Sub=(t.aA,{j.Sub with Pc:=if j.Sub.B=2 then 3 else 2,B:=j.Sub.B+1}):=by unfold bZ;rw[jH,jH,aL z,aL ⟨hB2,ha⟩,aP (by rw[bAP sv.hz hB2];exact λz=>hH z.symm)]
  refine mk e1 rfl rfl ?_;have e3:(jT t.aA w j).2={j with Sub:={j.Sub with Pc:=if j.Sub.B=2 then 3 else 2,B:=j.Sub.B+1}}:=by unfold jT;rw[es,e1];simp only;rw[aL d]
  rw[e3];exact .inr (.inr ⟨⟨hB,p⟩,j1,λq _=>j2 q (by omega),j3⟩)
 ·have e1:bZ t.aA w j.Sub=({t.aA with Mem:=oP t.aA.Mem w j.Sub.H,aM:=t.aA.aM.set w.toNat ⟨(bQ t.aA.aM w).eraseIdx j.Sub.Row.toNat⟩},{j.Sub with Pc:=1,Out:=bA (j.Sub.Out+1)}):=by unfold bZ;rw[jH,jH,jH,aL z,aL ⟨ha,hr⟩]
  have hi:0<=j.Sub.Row/\j.Sub.Row<(bQ t.aA.aM w).length:=⟨ha.1,ha.2.1⟩;have hrm:=zD hL hw (ZM hi);have lv:=(hv.base.2 _ hrm).1;have hkn:=aT9 hv.base.1.1 hw lv;rw[ha.2.2] at lv hkn;have e2:(jT t.aA w j).1={t.aA with Mem:=oP t.aA.Mem w j.Sub.H,aM:=t.aA.aM.set w.toNat ⟨(bQ t.aA.aM w).eraseIdx j.Sub.Row.toNat⟩}:=by unfold jT;rw[es,e1]
  have e3:(jT t.aA w j).2={j with Sub:={j.Sub with Pc:=1,Out:=bA (j.Sub.Out+1)}}:=by unfold jT;rw[es,e1];simp only;rw[aL d]
  have hset:bQ (t.aA.aM.set w.toNat ⟨(bQ t.aA.aM w).eraseIdx j.Sub.Row.toNat⟩) w=(bQ t.aA.aM w).eraseIdx j.Sub.Row.toNat:=aZ5 hL.1 hw _;rw[e];refine h.make hv hw ⟨qs,by rw[<-hj] at sv' ⊢;exact sv'⟩ ?_ ?_ ?_ ?_ ?_ ?_
  ·simp only[e2];exact H6 _
  ·intro v hv';simp only[e2]
  ·intro v hv' hn;simp only[e2];exact VR hL.1 hw hv' hn _
  ·intro x hx;simp only[e2,hset] at hx;exact List.mem_of_mem_eraseIdx hx
  ·intro i hi' x hx;simp only[e2];have ok:=bBD sv (x:=x) (by
    unfold Z2;refine eD.2 (.inl (aXK.2 ⟨i.toNat,by unfold HZ at hi';omega,?_⟩));rw[show((i.toNat:Nat):Int)=i by unfold HZ at hi';omega];exact hx)
   refine(hkn x ok.1 λz=>ok.2 ⟨_,hrm,?_,?_⟩).2
   ·rw[ha.2.2];exact lv.1
   ·rw[ha.2.2];exact z.symm
  ·rw[hd];simp only[e2,e3];refine .inr (.inr ⟨⟨hB,p⟩,j1,λq _=>j2 q (by omega),λq=>?_⟩);rw[hset,j3 q];rfl
theorem bI5(hE:t.aA.aC.aE<=1000)(hB:(aQ t w).cO=true)(p:(aQ t w).Pc=20):Dn e0 c m0 (EC t w (qW t.aA t.bS w (aQ t w))):=by
 have hJ:∀v,fQ v->(aQ t v).cO=true->JB (aQ t v):=λv hv' hB=>(hv.sV.2 _ (rH hv.sV.1 hv')).resolve_left λe=>by rw[e] at hB;cases hB
 obtain⟨qs,sv⟩:=h.sv;have hc:=hv.base.1.2.1;have e:qW t.aA t.bS w (aQ t w)=⟨(jT t.aA w (aQ t w)).1,t.bS,(jT t.aA w (aQ t w)).2,[]⟩:=by unfold qW;rw[aL (by omega)]
 have sv':=a0D sv hs.lk hw hv.base hv.bk hJ hB hs.ep (by omega);obtain⟨k3,d,s⟩:=(aDI hw hc hs.ep hB).2 p;have es:iB t.aA w (aQ t w).Sub=cJ t.aA (aQ t w).Sub:=by unfold iB;simp[k3,d]
 obtain⟨cl,ec,ee,_⟩:=aUC hc (aQ t w).Sub;have hon:=λv (hv':fQ v)=>bBG hc (aQ t w).Sub hv';have hjb:=h.jb w hw;unfold DnJ at hjb;generalize hd:(4-(o5 t w).length:Int)=dd at hjb;obtain⟨j1,j2,j3⟩:e0+dd<=t.aA.aC.aE+1/\((aQ t w).Sub.Pc≠0->e0+dd<=(aQ t w).Sub.E+1)/\(3<=dd->bQ t.aA.aM w=[]):=by
  rcases hjb with z|z|z
  ·rcases z.1 with z|z
   ·rw[z] at hB;cases hB
   ·omega
  ·exact z.2
  ·omega
 have e2:(jT t.aA w (aQ t w)).1=(cJ t.aA (aQ t w).Sub).1:=by unfold jT;rw[es]
 rw[e];refine h.make hv hw ⟨qs,sv'⟩ ?_ ?_ ?_ ?_ ?_ ?_
 ·simp only[e2,ec];exact ee
 ·intro v hv';simp only[e2];exact hon v hv'
 ·intro v hv' hn;simp only[e2,ec]
 ·intro x hx;simp only[e2,ec] at hx;exact hx
 ·intro i hi x hx;simp only[e2,ec]
 rw[hd];simp only[e2];have e4:(jT t.aA w (aQ t w)).2=if(cJ t.aA (aQ t w).Sub).2.gL=false then {aQ t w with Sub:=(cJ t.aA (aQ t w).Sub).2} else {aQ t w with Pc:=21,Sub:=AF 4 0}:=by unfold jT;rw[es];simp only;rw[aP (show ¬(aQ t w).Pc=0 by omega),aL p]
 rw[e4];have hro:bQ (cJ t.aA (aQ t w).Sub).1.aM w=bQ t.aA.aM w:=by rw[ec]
 have hoff:∀v,fQ v->∀x,EX t.aA.aC v x=(t.aA.aC,true):=λv hv' x=>by unfold EX;rw[aL (.inl (h.off v hv'))]
 generalize hj:(aQ t w)=j at *;rcases s with z|⟨ie,⟨z,z1⟩|⟨z,z1⟩⟩
 ·have e1:cJ t.aA j.Sub=(t.aA,{j.Sub with Pc:=1,E:=t.aA.aC.aE,B:=0}):=by unfold cJ;rw[aL z]
  rw[e1] at hro ⊢;rw[aL (by exact d)];exact .inr (.inl ⟨⟨hB,p⟩,j1,λ_=>j1,j3⟩)
 ·obtain⟨pp,e1⟩:∃pp:Int,cJ t.aA j.Sub=({t.aA with aC:=t.aA.aC},{j.Sub with Pc:=pp,B:=j.Sub.B+1}):=⟨if j.Sub.B=2 then 2 else 1,by unfold cJ;rw[jH,aL z,aL z1,hoff _ z1,aL rfl]⟩;rw[e1] at hro ⊢;rw[aL (by exact d)];exact .inr (.inl ⟨⟨hB,p⟩,j1,λ_=>j2 (by omega),j3⟩)
 ·obtain⟨o,e1⟩:∃o:Int,cJ t.aA j.Sub=({t.aA with aC:=(QU t.aA.aC j.Sub.E).1},qY {j.Sub with Out:=o} 0):=⟨if(QU t.aA.aC j.Sub.E).2 then 1 else j.Sub.Out,by unfold cJ;rw[jH,jH,aL z]⟩;have hb:j.Sub.E+1<=(QU t.aA.aC j.Sub.E).1.aE:=by
   unfold QU;split
   ·exact H6 _
   ·simp only;omega
  have:=j2 (by omega);rw[e1] at hro ⊢;rw[aP (by simp[qY])];refine .inr (.inr ⟨⟨hB,rfl⟩,by simp only;omega,λ_ q=>absurd rfl q,λq=>?_⟩);rw[hro];exact j3 q
theorem Dn.step(hE:t.aA.aC.aE<=1000):Dn e0 c m0 (iL t w):=by
 have h3:=hv.sV.1;have hJ:∀v,fQ v->(aQ t v).cO=true->JB (aQ t v):=λv hv' hB=>(hv.sV.2 _ (rH h3 hv')).resolve_left λe=>by rw[e] at hB;cases hB
 unfold iL;by_cases hB:(aQ t w).cO=true
 ·rw[aL hB];by_cases p21:(aQ t w).Pc=21
  ·exact bI4 hv hs hw h hB p21
  by_cases p20:(aQ t w).Pc=20
  ·exact bI5 hv hs hw h hE hB p20
  have z:(aQ t w).Pc=19/\e0+(4-(o5 t w).length:Int)<=t.aA.aC.aE/\(2<=(4-(o5 t w).length:Int)->bQ t.aA.aM w=[]):=by
   rcases h.jb w hw with z|z|z
   ·rcases z.1 with y|y
    ·rw[y] at hB;cases hB
    ·exact⟨y.2,z.2⟩
   ·omega
   ·omega
  obtain⟨qs,sv⟩:=h.sv;have e:qW t.aA t.bS w (aQ t w)=⟨t.aA,t.bS,dA,[tlE w (aQ t w)]⟩:=by unfold qW;simp only[z.1];rfl
  rw[e];exact h.make hv hw ⟨qs,a3B sv hs.lk hw hv.base.1.2.1 hJ hB z.1⟩ (H6 _) (λ_ _=>rfl) (λ_ _ _=>rfl) (λ_ h=>h) (λ_ _ _ _=>rfl) (.inl ⟨.inl rfl,z.2⟩)
 ·rw[aP hB];by_cases hq:(o5 t w).length=0\/t.aO=1000000
  ·rw[aL hq];exact h
  ·rw[aP hq];obtain⟨l4,hall⟩:=h.qs w hw;have hx:(o5 t w).getD 0 ⟨false,[]⟩=⟨true,[]⟩:=by
    match e:o5 t w,hq with
    |[],hq=>exact absurd (.inl rfl) hq
    |x::r,_=>exact hall x (by rw[e];simp)
   rw[hx];obtain⟨qs,sv⟩:=h.sv;have hn:aQ t w=dA:=(hv.sV.2 _ (rH h3 hw)).resolve_right λj=>hB j.busy;have ej:∀v,fQ v->aQ (LD t w ⟨true,[]⟩) v=wJ (aQ t) w (lB ⟨true,[]⟩ (t.aO+1)) v:=λv hv'=>QY h3 hw rfl hv';have eq:∀v,fQ v->o5 (LD t w ⟨true,[]⟩) v=if v=w then(o5 t w).drop 1 else o5 t v:=λv hv'=>bAW hv.todo.1 hw hv' _;refine⟨⟨qs,(aW6 sv hs.lk hw hv.base.1.2.1 hJ hn (by simp) _).congr ej⟩,h.nd,h.off,h.row,λv hv'=>?_,λv hv'=>?_⟩
   ·rw[eq v hv'];split
    ·exact⟨by rw[PQ];omega,λb hb=>hall b (VW hb)⟩
    ·exact h.qs v hv'
   ·rw[ej v hv',eq v hv'];by_cases e:v=w
    ·rw[aL e,e,LF,PQ];obtain⟨j1,j2⟩:e0+(4-(o5 t w).length:Int)<=t.aA.aC.aE/\(2<=(4-(o5 t w).length:Int)->bQ t.aA.aM w=[]):=by
      rcases h.jb w hw with z|z|z
      ·exact z.2
      ·exact absurd z.1.1 hB
      ·exact absurd z.1.1 hB
     exact .inr (.inl ⟨⟨rfl,rfl⟩,by show _<=t.aA.aC.aE+1;omega,λq=>absurd rfl q,λq=>j2 (by omega)⟩)
    ·rw[aP e,ZU _ _ e];exact h.jb v hv'
end
theorem aSA{P:Table->Prop}(hs:∀t w,TV t->fQ w->P t->P (iL t w)):∀(n k:Nat) {t:Table},TV t->P t->P (SF n k t)
 |0,_,_,_,hp=>hp
 |n + 1,k,t,hv,hp=>by
  unfold SF;split
  ·exact hp
  ·exact aSA hs n (k+1) (hv.step (aFX k)) (hs _ _ hv (aFX k) hp)
def aKF:Batch:=⟨true,[]⟩
def q4:aN:=⟨[aKF,aKF,aKF,aKF]⟩
def aBA(z:Table):Table:={z with dC:=[q4,q4,q4]}
theorem qu4(z:Table){v:Int}(hv:fQ v):o5 (aBA z) v=[aKF,aKF,aKF,aKF]:=by rcases(by unfold fQ at hv;omega:v=0\/v=1\/v=2) with rfl|rfl|rfl<;>rfl
theorem bBJ(t:Table):0<=CN (λv=>c20 (aQ t v)):=by have a:=(aDL (aQ t 0)).1;have b:=(aDL (aQ t 1)).1;have c:=(aDL (aQ t 2)).1;exact Int.add_nonneg (Int.add_nonneg a b) c
theorem bI6{n:Int}{q:Int->Nat}{z:Table}(hv:TV z)(hi:H3 z=true)(tl:TlT n z)(hs:Sft Ky7 q z)(po:PoT z)(hn:n<=100)(hl:z.Log.length<=3400):∃e c q',lH (aBA z)=some e/\TV e/\H3 e=true/\sQ Ky7 z.aA z.bS c q (aQ z)/\sQ Ky7 e.aA e.bS c q' (aQ e)/\(∀i,HZ i->∀x∈c i,dX e.aA.Mem x=dX z.aA.Mem x)/\∀v,fQ v->bQ e.aA.aM v=[]:=by
 have hid:=(ZY hv).1 hi;have hj:∀v,fQ v->aQ z v=dA:=λv hv'=>(hv.sV.2 _ (rH hv.sV.1 hv')).resolve_right λj=>by have:=(hid v hv').1;rw[j.busy] at this;cases this
 obtain⟨c,sv⟩:=hs.sv;have hv':TV (aBA z):=⟨hv.base,hv.bk,hv.sV,by simp[XQ,QuV,ZQ,aBA,q4,aKF],hv.ser⟩;have hs':Sft Ky7 q (aBA z):=⟨⟨c,sv⟩,hs.lk,hs.ep,λw hw b hb x hx=>by
  rw[qu4 z hw] at hb;have:b=aKF:=by simpa using hb
  rw[this] at hx;cases hx⟩
 have l0:∀v,fQ v->H4 z v=0:=λv hv=>by unfold H4;rw[(hid v hv).2];rfl
 have l4:∀v,fQ v->H4 (aBA z) v=4:=λv hv=>by unfold H4;rw[qu4 z hv];rfl
 have s0:CN (H4 z)=0:=by unfold CN;rw[l0 0 (by simp[fQ]),l0 1 (by simp[fQ]),l0 2 (by simp[fQ])];rfl
 have s4:CN (H4 (aBA z))=12:=by unfold CN;rw[l4 0 (by simp[fQ]),l4 1 (by simp[fQ]),l4 2 (by simp[fQ])];rfl
 have tl':TlT (n+12) (aBA z):=⟨tl.ev,tl.job,tl.tell,by
  have:=tl.sum;show kT z.Log+CN (Z0 z)+_=_;omega,by
  have:=tl.ser;show z.aO+_=_;omega⟩
 have hL:=hv.base.1.2.2.1;have dn:Dn z.aA.aC.aE c z.aA.Mem (aBA z):=by
  refine⟨⟨q,sv⟩,λ_ _ _ _=>rfl,λv hw=>po.1 v hw (.inl (hid v hw).1),λv hw r hr=>(hv.base.2 r (zD hL hw hr)).2,λv hw=>?_,λv hw=>?_⟩
  ·rw[qu4 z hw];exact⟨iE _,λb hb=>by simpa[aKF] using hb⟩
  ·rw[qu4 z hw];refine .inl ⟨.inl (hj v hw),?_,λq=>?_⟩
   ·show z.aA.aC.aE+(4-4)<=z.aA.aC.aE;omega
   ·have:(2:Int)<=4-4:=q;omega
 have ep:∀t,TlT (n+12) t->PoT t->t.aO<=112/\t.aA.aC.aE<=1000:=λt a b=>by have:=a.ser;have:=aO3 t;have:=b.2;have:=bBJ t;omega
 obtain⟨g1,g2,⟨_,_,gd⟩,_⟩:=aHO (by decide) (λt=>(TlT (n + 12) t /\ ∃ q,Sft Ky7 q t) /\ PoT t /\ Dn z.aA.aC.aE c z.aA.Mem t) (λt w a b ⟨⟨d1,q',d2⟩,d3,d4⟩=>⟨⟨d1.step a b d2,_,d2.step a b⟩,d3.step (by decide) a d2 b,d4.step a d2 b (ep t d1 d3).2⟩)
  (λt ⟨⟨d1,_⟩,d3,_⟩=>by have:=(ep t d1 d3).1;omega) 3000 0 q (aBA z) hv' hs' ⟨⟨tl',q,hs'⟩,po,dn⟩ (λw hw _=>by
   have hr:=aHC hL hw;have eb:∀v,fQ v->xG (aBA z) v=4:=λv hv=>by
    unfold xG;rw[qu4 z hv,aP (λy=>by
     have:(aQ (aBA z) v).cO=true:=y.1;rw[show aQ (aBA z) v=dA from hj v hv] at this;cases this)];rfl
   have eo:aQT q (aBA z) w=5*jM z.aA w+56:=by unfold aQT;rw[qu4 z hw,show aQ (aBA z) w=dA from hj w hw];show(0:Int)+5*jM z.aA w+56=_;omega
   unfold aDJ CN;rw[eo,eb 0 (by simp[fQ]),eb 1 (by simp[fQ]),eb 2 (by simp[fQ]),eb w hw];unfold jM;unfold fQ at hw;omega)
 have fe:=aR6 hv' (by show z.Log.length+3000<=_;omega) λe he=>(tl.ev e he).1;obtain⟨q',sv'⟩:=gd.sv;refine⟨_,c,q',fe,g2,g1,sv,sv',gd.nd,λv hw=>?_⟩;have hid':=(ZY g2).1 g1 v hw;rcases gd.jb v hw with ⟨_,_,y⟩|⟨y,_⟩|⟨y,_⟩
 ·exact y (by rw[hid'.2];decide)
 ·rw[hid'.1] at y;cases y.1
 ·rw[hid'.1] at y;cases y.1
theorem aUJ{l:List KV}(hl:l.length<=1000):NO l l=some true:=by
 unfold NO;rw[g7];have key:loop (vL l l) 0=some (Out.brk ()):=jG (f:=vL l l) l.length (λk=>(k:Int)) _ (λk hk=>by
  simp only[vL];rw[dM,aV hk,aJ,aJ,g7,eB];rfl) (by simp[vL])
 rw[key];rfl
theorem bI7{t:Table}{x:Int}(hx:fQ x)(h3:t.dC.length=3)(hi:t.dC[x.toNat]'(by unfold fQ at hx;omega)=⟨[]⟩):loop (kK x) (0,t)=some {t with dC:=t.dC.set x.toNat q4}:=by
 have hlt:x.toNat<t.dC.length:=by unfold fQ at hx;omega
 have st:∀(k:Nat) (l':List Batch),k<4->l'.length<=1000->kK x ((k:Int),{t with dC:=t.dC.set x.toNat ⟨l'⟩})=some (.next (((k+1:Nat):Int),{t with dC:=t.dC.set x.toNat ⟨l'++[aKF]⟩})):=λk l' hk hl=>by simp only[kK,uA];rw[dM,gX hx.1 (by rw[cX];unfold fQ at hx;omega),aJ,List.getElem_set_self,R0,aQX,eB];rfl
 have e0:t={t with dC:=t.dC.set x.toNat ⟨[]⟩}:=by
  have:t.dC.set x.toNat ⟨[]⟩=t.dC:=by rw[<-hi];exact aLA hlt
  rw[this]
 conv=>lhs;rw[e0]
 rw[show(0:Int)=((0:Nat):Int) from rfl,bG (st 0 [] (by omega) (by simp)),bG (st 1 _ (by omega) (by simp)),bG (st 2 _ (by omega) (by simp)),bG (st 3 _ (by omega) (by simp))];refine bD ?_;simp only[kK];rw[g7];rfl
theorem bFI{z:Table}(hv:TV z)(hid:∀w,fQ w->ZX z w):loop iQ (0,z)=some (aBA z):=by
 have h3:=hv.todo.1;obtain⟨b,k,j,todo,l,s⟩:=z;simp only at h3
 match todo,h3 with
 |[a0,a1,a2],_=>
 have e0:a0=⟨[]⟩:=by have:=(hid 0 (by simp[fQ])).2;exact cB aN.mk this
 have e1:a1=⟨[]⟩:=by have:=(hid 1 (by simp[fQ])).2;exact cB aN.mk this
 have e2:a2=⟨[]⟩:=by have:=(hid 2 (by simp[fQ])).2;exact cB aN.mk this
 subst e0 e1 e2;rw[bG (s':=(1,⟨b,k,j,[q4,⟨[]⟩,⟨[]⟩],l,s⟩)) (by
  simp only[iQ];rw[aL (by simp),bI7 (x:=0) (by simp[fQ]) rfl rfl];rfl)]
 rw[bG (s':=(2,⟨b,k,j,[q4,q4,⟨[]⟩],l,s⟩)) (by
  simp only[iQ];rw[aL (by simp),bI7 (x:=1) (by simp[fQ]) rfl rfl];rfl)]
 rw[bG (s':=(3,⟨b,k,j,[q4,q4,q4],l,s⟩)) (by
  simp only[iQ];rw[aL (by simp),bI7 (x:=2) (by simp[fQ]) rfl rfl];rfl)]
 refine bD ?_;simp only[iQ];rw[g7];rfl
theorem bFJ(b:aA):idx (o6 b 24) 4=some ((o6 b 24).getD 4 0):=by have hl5:=aDG b 24;rw[show(4:Int)=((4:Nat):Int) from rfl,O0];simp[EE,jK (show 4<(o6 b 24).length by omega)]
theorem aDM{code:List UInt8}(_:fit code):A1 code=some true:=by
 unfold A1 aL4;rw[aJ];by_cases hcl:1048576<(code.length:Int)
 ·rw[aL (by simpa using hcl)]
 rw[aP (by simpa using hcl)];obtain⟨x,ex,hd,hp⟩:=aXH (code:=code) (by omega);rw[ex,aJ,a48 hd.bLF,aJ];obtain⟨f1,f2,f3⟩:=hd.bLF.fit;by_cases ht:XQ x.dC
 ·rw[cD ht,g7,aT5 f1 f2 f3 ht,aJ];obtain⟨e1,hi,v,⟨tl,q,sz⟩,hl⟩:=bNM hd ht (x.jW.take 400) (by simp;omega);have po:(∃q,Sft Ky7 q (SF 3000 0 (MQ (eG x.dC) (x.jW.take 400))))/\PoT (SF 3000 0 (MQ (eG x.dC) (x.jW.take 400))):=by have st:∀t w,TV t->fQ w->((∃q,Sft Ky7 q t)/\PoT t)->((∃q,Sft Ky7 q (iL t w))/\PoT (iL t w)):=λt w a b ⟨⟨q,d⟩,p⟩=>⟨⟨_,d.step a b⟩,p.step (by decide) a d b⟩;obtain⟨v0,p0⟩:=aDF st (x.jW.take 400) (aHK ht) ⟨⟨_,bLI hd ht⟩,.zero _⟩;exact aSA st 3000 0 v0 p0
  have hn:CN (H4 (eG x.dC))<=100:=by
   have:∀v:Int,H4 (eG x.dC) v<=13:=λv=>by
    show(((x.dC.getD v.toNat ⟨[]⟩).List.length:Nat):Int)<=13;rw[EE];cases e:x.dC[v.toNat]? with
    |none=>simp
    |some q=>exact(hd.2 q (xI e)).2.2.1
   have a:=this 0;have b:=this 1;have c:=this 2;unfold CN;omega
  replace po:=po.2;generalize SF 3000 0 (MQ (eG x.dC) (x.jW.take 400))=z at *;obtain⟨e,c,q',d1,d2,d3,d4,d5,d6,d7⟩:=bI6 v hi tl sz po hn hl;obtain⟨m1,m2⟩:=a3L v d4;obtain⟨m3,_⟩:=a3L d2 d5;have me:aXM e.aA.Mem c=aXM z.aA.Mem c:=a0M d6;have h3:=v.todo.1;have hL:=d2.base.1.2.2.1;have hnil:bX e.aA.aM=[]:=by unfold bX;rw[List.flatMap_eq_nil_iff];intro y hy;obtain⟨i,hi,ey⟩:=SG hy;have h3:=hL.1;have:=d7 (i:Int) (by unfold fQ;omega);unfold bQ at this;rw[MR,EE,jK hi] at this;rw[<-ey];exact this
  have hid':=(ZY d2).1 d3;have MT:∀w,fQ w->own (aQ e w)=[]:=λw hw=>by rw[(d2.sV.2 _ (rH d2.sV.1 hw)).resolve_right λj=>by have:=(hid' w hw).1;rw[j.busy] at this;cases this];rfl
  have one:(Z2 c (aQ e)).length=(c 0).length+(c 1).length:=by unfold Z2;simp[aFY,MT 0 (by simp[fQ]),MT 1 (by simp[fQ]),MT 2 (by simp[fQ])]
  have hnd:=aR8 d5;unfold Z2 at hnd;have hcn:=(aQW.1 hnd).1;have hc2:(srt (aFY c 2)).length=(c 0).length+(c 1).length:=by rw[(bBC _).2.2.2 hcn];simp[aFY]
  have l0:=(aDK v d4 (i:=0) (by simp[HZ])).1;have l1:=(aDK v d4 (i:=1) (by simp[HZ])).1;have lim:G4 e.aA.aM=some 0:=by have h1:=hL.1;have h2:=hL.2.1;unfold G4;rw[HO (by omega) (by simp only[maxLen];omega),aJ,hnil];rfl
  rw[e1,aJ,aP (by simp[h3]),m1,aJ,bFI v ((ZY v).1 hi),aJ];simp only[G6,G5,gP];rw[d1,aJ,lim,aJ,aL (by rfl),aL (by simp[d2.sV.1]),aZ4 d2.base,aJ,bFJ,aJ,a5P d5,one,m2,aL (by simp),bBE d2 d5,aJ,hc2,aL (by simp),m3,aJ,me,aUJ (by omega)];rfl
 ·rw[eU ht];rfl
end Go.Gv
end
