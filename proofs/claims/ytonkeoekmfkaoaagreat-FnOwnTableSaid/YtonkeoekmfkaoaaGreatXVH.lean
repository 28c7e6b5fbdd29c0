import Derived.Test.YtonkeoekmfkaoaaGreatXVG
set_option linter.unusedVariables false
set_option linter.unusedSimpArgs false
set_option linter.unusedSectionVars false
set_option linter.constructorNameAsVariable false
set_option linter.unnecessarySimpa false
noncomputable section
namespace Go.Gv
variable{n w:Int}{l:List aQ}{k:List bZ}{m:Mem}{t:Table}{O:Type}{j:aG}{x:aQ}
def Z3(t:Table)(w:Int)(p:aA×aG):Table:={t with aA:=p.1,aK:=t.aK.set w.toNat p.2}
section
variable {t:Table} {w:Int} (h3:t.aK.length=3) (h2:t.aR.length=2) (hb:nJ t.aA) (hw:0<=w/\w<=2) (hj:JB (dP t w))
include h3 h2 hb hw hj
theorem a77:uW t w=some (Z3 t w (aDG t.aA w (dP t w))):=by
 unfold uW aDG Z3;rw[rU h3 hw,aH,aHL hb hw,aH];generalize dP t w=j at *;generalize BZ t.aA w j.Sub=r;cases hd:r.2.jA
 ·rfl
 ·simp only[hd,hU,bR,bN,reduceCtorEq];by_cases p0:j.Pc=0
  ·grind
  ·have e:(j.Pc == 0)=false:=aj
   simp only[e,bR,bN,aO p0];by_cases p20:j.Pc=20
   ·have e:(j.Pc == 20)=true:=aj
    simp only[e,bV,aM p20];rfl
   grind
theorem a3N:BH t w=some (Z3 t w (aPB t.aA w (dP t w))):=by
 obtain⟨s1,s2,s3,s4,s5⟩:=U8 h3 h2 hb hw hj;have hjob:=rU h3 hw;have hk:=hj.k;have hn:=hj.new.1;unfold BH aPB Z3;rw[hjob,aH,aFK s2,aH];generalize hjj:dP t w=j at *;have set2:∀x y:aG,(t.aK.set w.toNat x).set w.toNat y=t.aK.set w.toNat y:=λx y=>aR0 ..;have iset:∀x:aG,idx (t.aK.set w.toNat x) w=some x:=λx=>Z2 ⟨hw.1,aa⟩;unfold CA;by_cases hp:kK j.aE j.aE.length<=j.K
 ·grind
 ·rw[dU hp,cZ,aO hp,hjob,aH,aHL hb hw,aH];generalize BZ t.aA w j.Sub=r;cases hd:r.2.jA
  ·rfl
  ·have ab:hJ w true {t with aA:=r.1,aK:=t.aK.set w.toNat {j with Sub:=r.2}}=some {t with aA:=r.1,aK:=t.aK.set w.toNat (OY {j with Sub:=r.2} r.2.Code)}:=by simp_all[hJ,cW,OY]
   have go:j.cT.length<6->hJ w false {t with aA:=r.1,aK:=t.aK.set w.toNat {j with Sub:=r.2}}=some {t with aA:=r.1,aK:=t.aK.set w.toNat {j with cT:=j.cT++[r.2.Out],K:=j.K+1,Sub:=aZN 1 16}}:=λh6=>by simp only[hJ,bR,bN,iset,aH,set2,B9,lK,B8];rw[DE,cR];rfl
   simp only[hd,hU,bR,bN,reduceCtorEq];by_cases hc:r.2.Code=0
   ·have e:(r.2.Code != 0)=false:=aj
    simp only[e,bR,bN,g7,aH];grind
   grind
theorem a78:rR t w=some (aW8 t w (aHN t.aR w (dP t w))):=by
 have hjob:=rU h3 hw;have hk:=hj.k;have hr:=hj.reads.1;unfold rR vB aHN aW8;rw[hjob,aH,aH];generalize hjj:dP t w=j at *;by_cases hp:(j.Reads.length:Int)<=j.K
 ·grind
 ·have hi:j.K.toNat<j.Reads.length:=aa
  have er:rdN j=j.Reads[j.K.toNat]:=by grind[rdN]
  have hbk:=hr j.Reads[j.K.toNat] (cK hi);rw[aO aj,aO hp,aH,gI hk.1 aa,aH,<-er];rw[<-er] at hbk;unfold vA uZ;rw[CG h2 hbk,aH,cR];have ab:fS t w true=some {t with aK:=t.aK.set w.toNat (OY j 7)}:=by simp_all[fS,cW,OY]
  have go:fS t w false=some {t with aK:=t.aK.set w.toNat {j with K:=j.K+1}}:=by simp only[fS,bR,bN,hjob,aH];grind[cO]
  grind
theorem aRU{l:List Seen}(hl:l.length<=1000)(f:Seen->Bool)(g:Seen->Option Bool)(hg:∀x,g x=some (f x)):fZ l g=some (l.any f):=by
 have e:g=λx=>some (f x):=funext hg;rw[e];unfold fZ;rcases aID (s:=l) (p:=f) aa with ⟨j,h,h1,h2,h3⟩|⟨h1,h3⟩
 ·rw[h3,aH,bY aa];congr 1;exact(List.any_eq_true.2 ⟨l[j],cK h,h2⟩).symm
 ·rw[h3,aH,dU aa];congr 1;refine(List.any_eq_false.2 λx hx=>?_).symm;obtain⟨i,hi,rfl⟩:=aDL hx;simp[h1 i hi]
def bG7(t:Table)(w:Int)(p:List bZ×aG×Bool):Table:={t with aR:=p.1,aK:=t.aK.set w.toNat p.2.1,Log:=t.Log++if p.2.2 then [⟨2,w,(dP t w).aI,0,[],[]⟩] else []}
theorem bBF(hl:t.Log.length<=1000000):EC t w=some (bG7 t w (ZY t.aR w (dP t w))):=by
 obtain⟨s1,s2,s3,s4,s5⟩:=U8 h3 h2 hb hw hj;have hjob:=rU h3 hw;have hk:=hj.k;have hd:=hj.held;have hwr:=hj.wr;unfold EC ZY bG7;rw[hjob,aH,aKP (by have:=hwr.1;omega) (λx hx=>(hwr.2.1 x hx).1),aH];generalize hjj:dP t w=j at *;have set2:∀x y:aG,(t.aK.set w.toNat x).set w.toNat y=t.aK.set w.toNat y:=λx y=>aR0 ..;have iset:∀x:aG,idx (t.aK.set w.toNat x) w=some x:=λx=>Z2 ⟨hw.1,aa⟩;have hheld:j.aS.length<=2:=by
  match h:j.aS,hd with
  |[],_=>simp
  |[_],_=>simp
  |[_,_],_=>simp
  |x::y::z::r,⟨hm,hn⟩=>
   (simp_all;omega)
 by_cases hp:j.K<(jS j.aE).length
 ·have hi:j.K.toNat<(jS j.aE).length:=aa
  have er:eP j=(jS j.aE)[j.K.toNat]:=by grind[eP]
  have hbk:0<=eP j/\eP j<=1:=by grind[ZT,cK]
  rw[aM aj,aM hp,gI hk.1 hp,aH,<-er,CG h2 hbk,aH];have ab:iG t w (jS j.aE) (eP j) true=some {t with aK:=t.aK.set w.toNat (OY j 7)}:=by simp_all[iG,cW,OY]
  have en:∀x:aG,x.K=j.K->x.aI=j.aI->nX t w (jS j.aE) (eP j) (iT t.aR (eP j)) (t.aK.set w.toNat x) =
    some {t with aR:=t.aR.set (eP j).toNat {iT t.aR (eP j) with eA:=w+1},aK:=t.aK.set w.toNat (if(jS j.aE).length<=j.K+1 then {x with K:=0,Pc:=8} else {x with K:=j.K+1}),Log:=t.Log++if(jS j.aE).length<=j.K+1 then [⟨2,w,j.aI,0,[],[]⟩] else []}:=λx hx hs=>by
   simp only[nX,nW,uY,iset,set2,aH,hx,hs];rw[cR,cR];by_cases hq:((jS j.aE).length:Int)<=j.K+1
   ·rw[aM aj,DE,aM hq,aM hq]
   grind
  have go:iG t w (jS j.aE) (eP j) false=some (if(iT t.aR (eP j)).dZ=1000000 then {t with aK:=t.aK.set w.toNat (OY j 3)} else
    {t with aR:=t.aR.set (eP j).toNat {iT t.aR (eP j) with eA:=w+1},aK:=t.aK.set w.toNat (if(jS j.aE).length<=j.K+1 then {YF j with K:=0,Pc:=8} else YF j),Log:=t.Log++if(jS j.aE).length<=j.K+1 then [⟨2,w,j.aI,0,[],[]⟩] else []}):=by
   unfold iG;rw[cZ,CG h2 hbk,aH];by_cases hv:(iT t.aR (eP j)).dZ=1000000
   ·simp_all[cW,OY]
   ·have e:((iT t.aR (eP j)).dZ == 1000000)=false:=aj
    simp only[e,bR,bN,aO hv,hjob,aH];rw[contains_eq (by grind[maxLen]),aH];by_cases hm:eP j∈j.aS
    ·rw[bY hm,cZ];have:=en j rfl rfl;rw[show t.aK.set w.toNat j=t.aK by
      rw[<-hjj];unfold dP;rw[TW,lH (show w.toNat<t.aK.length by omega)];simp] at this
     simp_all[YF]
    ·rw[dU hm,aM ak,DE];unfold E5;rw[en {j with aS:=j.aS++[eP j]} rfl rfl];unfold YF;rw[aO hm]
  have fin:∀B:Bool,iG t w (jS j.aE) (eP j) B=some (if B=true then {t with aK:=t.aK.set w.toNat (OY j 7)} else if(iT t.aR (eP j)).dZ=1000000 then {t with aK:=t.aK.set w.toNat (OY j 3)} else
    {t with aR:=t.aR.set (eP j).toNat {iT t.aR (eP j) with eA:=w+1},aK:=t.aK.set w.toNat (if(jS j.aE).length<=j.K+1 then {YF j with K:=0,Pc:=8} else YF j),Log:=t.Log++if(jS j.aE).length<=j.K+1 then [⟨2,w,j.aI,0,[],[]⟩] else []}):=λB=>by
   cases B
   ·simp only[bR,bN];exact go
   ·simp only[bV];exact ab
  have cf:fZ j.Reads (λy0=>xT y0 (eP j) (iT t.aR (eP j)))=some (j.Reads.any λs=>s.bZ == eP j && s.dZ != (iT t.aR (eP j)).dZ):=
   aRU h3 h2 hb hw aj aa _ _ λx=>by unfold xT qO;cases x.bZ == eP j<;>rfl
  by_cases hl0:(iT t.aR (eP j)).eA=0
  ·have e:((iT t.aR (eP j)).eA != 0)=false:=aj
   simp only[e,bR,bN];rw[cf,aH,fin];by_cases hany:(j.Reads.any λs=>s.bZ == eP j && s.dZ != (iT t.aR (eP j)).dZ)=true
   ·grind
   ·rw[aO hany,aO (show ¬((iT t.aR (eP j)).eA≠0\/(j.Reads.any λs=>s.bZ == eP j && s.dZ != (iT t.aR (eP j)).dZ)=true) from λq=>q.elim (λa=>a hl0) hany)];by_cases hv:(iT t.aR (eP j)).dZ=1000000
    ·rw[aM hv,aM hv];simp
    ·rw[aO hv,aO hv];by_cases hq:((jS j.aE).length:Int)<=j.K+1
     ·simp only[aM hq];rfl
     ·simp only[aO hq];rfl
  grind
 ·rw[aO aj,aO hp];unfold nW uY;rw[hjob,aH,cQ,DE,aH];rfl
end
def aZQ(t:Table)(w:Int)(p:aA×List bZ×aG):Table:={t with aA:=p.1,aR:=p.2.1,aK:=t.aK.set w.toNat p.2.2}
theorem aPE(hk:0<=j.K/\j.K<=100)(x:aQ):pJ j x=some (plF j x):=by
 unfold pJ plF;cases x.GC
 ·rfl
 ·simp only[bV];grind[cO]
theorem a79(hk:0<=j.K):lO j=some (aKT j):=by
 unfold lO aKT;by_cases h:j.K<j.bE.length
 ·have hi:j.K.toNat<j.bE.length:=aa
  rw[aM aj,aM h,gI hk h,aH];simp only[lK,aH,sZ,TW,lH hi,Option.getD_some];rfl
 grind
theorem aZR(hm:oP m)(hw:0<=w/\w<=2)(x:Int):∃c,OI m w x=some (aW7 m w x,c):=by
 obtain⟨hcnt,h3,h9,h1,h2,hsm,hcp,hlo,hsG,hsO⟩:=oP.facts hm;have hbl:m.Heap.Bytes.length<=maxLen:=by grind[maxLen]
 unfold OI aW7;rw[K5 hbl aa,bY hm,aH,cZ,lU,bY hw,aH];unfold EE;rw[cZ,IU hm.1.1.1 aa aa aa,aH];by_cases hl:oJ m x
 ·obtain⟨m',e1,e2,_,_⟩:=aUW hm hw hl;simp_all[aFR]
 simp_all[SD]
theorem bBG{l:List O}{a b:Nat}(hab:a<=b)(hb:b<=l.length):((dL l a (l.drop b)).take (a+(l.length-b))).drop 0=l.take a++l.drop b:=by
 have h1:(l.take a).length=a:=aj
 have h2:(l.drop b).length=l.length-b:=ae
 unfold dL;rw[TU,aHV (l:=l.drop b) aa,<-NG,show a+(l.length-b)=(l.take a++l.drop b).length by grind];grind
theorem aW9{l:List Int}(h:0<l.length)(hl:l.length<=1000):qQ l 0 1=some (l.drop 1):=by
 unfold qQ;rw[SA,cZ,SA,SA,cE ai,bBG ai (show Int.toNat 1<=l.length from h),cE]
 ·rfl
 ·rw[gZ ae];simp only[K8,aDN,aHT,Int.toNat_zero];omega
section
variable {t:Table} {w:Int} (h3:t.aK.length=3) (h2:t.aR.length=2) (hb:nJ t.aA) (hw:0<=w/\w<=2) (hj:JB (dP t w))
include h3 h2 hb hw hj
theorem a8A:BJ t w=some (aZQ t w (QP t.aA t.aR (dP t w))):=by
 obtain⟨s1,s2,s3,s4,s5⟩:=U8 h3 h2 hb hw hj;have hjob:=rU h3 hw;have hk:=hj.k;have hwr:=hj.wr;have hol:=hj.old.1;unfold BJ CF QP aZQ;rw[hjob,aH,aH];generalize hjj:dP t w=j at *;have set2:∀x y:aG,(t.aK.set w.toNat x).set w.toNat y=t.aK.set w.toNat y:=λx y=>aR0 ..;have iset:∀x:aG,idx (t.aK.set w.toNat x) w=some x:=λx=>Z2 ⟨hw.1,aa⟩;by_cases hp:(j.aE.length:Int)<=j.K
 ·grind
 ·have hi:j.K.toNat<j.aE.length:=aa
  have er:QO j=j.aE[j.K.toNat]:=by grind[QO]
  have hx:=hwr.2.1 j.aE[j.K.toNat] (cK hi);rw[<-er] at hx;have hbk:0<=rJ (QO j).Key/\rJ (QO j).Key<=1:=by unfold rJ;omega
  rw[aO aj,aO hp,aH,gI hk.1 aa,aH,<-er];unfold CE;rw[TG,aH,CG h2 hbk,aH,hjob,aH];generalize QO j=x at *;generalize hbb:rJ x.Key=bi at *;have ex:(⟨x.Key,x.GC,x.eN⟩:aQ)=x:=rfl;rw[ex];by_cases p9:j.Pc=9
  ·have e:(j.Pc == 9)=true:=aj
   simp only[e,bV,aM p9];by_cases hh:(iT t.aR bi).Head=0
   ·have e:((iT t.aR bi).Head == 0)=true:=aj
    simp only[e,bV,aM hh];grind[aPE]
   grind
  ·have e : (j.Pc == 9) = false:=aj
   simp only[e,bR,bN,aO p9];by_cases p10:j.Pc=10
   ·have e:(j.Pc == 10)=true:=aj
    simp only[e,bV,aM p10];obtain⟨c,e⟩:=aSU hb.1.1 j.H;rw[e,aH];simp only;by_cases hkey:(TP t.aA.Mem.Heap j.H).Key=x.Key
    ·grind
    ·have e:((TP t.aA.Mem.Heap j.H).Key == x.Key)=false:=aj
     simp only[e,bR,bN,aO hkey,aUZ,aH];by_cases hs:TQ (TP t.aA.Mem.Heap j.H)=0
     ·have e:(TQ (TP t.aA.Mem.Heap j.H) == 0)=true:=aj
      simp only[e,bV,aM hs];grind[aPE]
     simp_all[CB]
   ·have e:(j.Pc == 10)=false:=aj
    simp only[e,bR,bN,aO p10];by_cases p11:j.Pc=11
    ·have e:(j.Pc == 11)=true:=aj
     simp only[e,bV,aM p11];have cut:∀u:Table,u.aK=t.aK->mT w x.Key x.GC x.eN u=some {u with aK:=t.aK.set w.toNat (plF (ZZ j) x)}:=λu hu=>by
      have hju:idx u.aK w=some j:=aj
      have last:∀v:Table,∀y:aG,idx v.aK w=some y->(0<=y.K/\y.K<=100)->mS w x.Key x.GC x.eN v=some {v with aK:=v.aK.set w.toNat (plF y x)}:=λv y hy hyk=>by simp_all[mS,aPE]
      unfold mT rS CC ZZ;rw[hju,aH,g7,aH];by_cases hh:kX j.H
      ·rw[bY hh,aM rfl];by_cases h6:j.bE.length<6
       ·rw[bY aa,aM rfl,aH,DE,last _ {j with bE:=j.bE++[j.H]} aj aj,aM ⟨hh,h6⟩];grind
       grind
      grind
     by_cases hpv:j.gT=0
     ·simp_all[aUZ]
     ·have e:(j.gT == 0)=false:=aj
      simp only[e,bR,bN,aO hpv,aUZ,aH];obtain⟨c,e⟩:=a3L hb.1.1 j.gT (TQ j.Node);grind[CD]
    ·have e:(j.Pc == 11)=false:=aj
     simp only[e,bR,bN,aO p11];have hpn:0<=kK j.aE j.K:=by grind[kK]
     have hbs:t.aR.set bi.toNat (iT t.aR bi)=t.aR:=by grind[iT,aRZ]
     unfold ML;rw[aFK s2,aH];by_cases hn:(j.cT.length:Int)<=kK j.aE j.K
     ·rw[aM aj,aM hn];simp only[cW,aH,hbs];rfl
     ·have hi2:(kK j.aE j.K).toNat<j.cT.length:=aa
      have en:aPC j=j.cT[(kK j.aE j.K).toNat]:=by grind[aPC]
      rw[aO aj,aO hn,gI hpn aa,<-en];by_cases p12:j.Pc=12
      ·have e:(j.Pc == 12)=true:=aj
       simp only[e,bV,aM p12,aH];obtain⟨c,e⟩:=aZP hb.1.1 (aPC j) ⟨x.Key,x.eN,(iT t.aR bi).Head⟩;grind[E7]
      ·have e:(j.Pc == 12)=false:=aj
       simp only[e,bR,bN,aO p12,aH];grind[cO]
def a1Z(t:Table)(w:Int)(p:List bZ×aG):Table:={t with aR:=p.1,aK:=t.aK.set w.toNat p.2}
theorem a3O(hk1:∀x∈t.aR,BkV x):xU t w=some (a1Z t w (WO t.aR (dP t w))):=by
 have hjob:=rU h3 hw;have hd:=hj.held;unfold xU WO a1Z;rw[hjob,aH];generalize hjj:dP t w=j at *;have hheld:j.aS.length<=2:=by
  match h:j.aS,hd with
  |[],_=>simp
  |[_],_=>simp
  |[_,_],_=>simp
  |x::y::z::r,⟨hm,hn⟩=>
   (simp_all;omega)
 by_cases hp:0<j.aS.length
 ·have er:oK j=j.aS[0]:=by grind[oK]
  have hbk:=hd.1 j.aS[0] (cK hp);rw[<-er] at hbk;have hbv:BkV (iT t.aR (oK j)):=by grind[iT]
  have hver:=hbv.2.1;rw[aM aj,aM hp,show(0:Int)=((0:Nat):Int) from rfl,aT hp,aH,<-er,CG h2 hbk,aH];have un:∀k,lP t w k=some {t with aR:=k,aK:=t.aK.set w.toNat {j with aS:=j.aS.drop 1}}:=λk=>by grind[lP,aW9]
  by_cases p14:j.Pc=14
  ·have e:(j.Pc == 14)=true:=aj
   simp only[e,bV,aM p14];grind[cO]
  ·have e:(j.Pc == 14)=false:=by simpa using p14
   simp only[e,bR,bN,aO p14];rw[un]
 ·rw[aO (by simpa using hp),aO hp];by_cases p16:j.Pc=16
  ·have e:(j.Pc == 16)=true:=by simpa using p16
   simp only[e,bV,aM p16]
  ·have e:(j.Pc == 16)=false:=by simpa using p16
   simp only[e,bR,bN,aO p16];rw[a79 (j:={j with Pc:=15,K:=0}) (aP3 _)];rfl
theorem aZS:xV t w=some (Z3 t w (aKU t.aA w (dP t w))):=by
 have hjob:=rU h3 hw;have hk:=hj.k;unfold xV zP aKU Z3;rw[hjob,aH,aH];generalize hjj:dP t w=j at *;by_cases hp:(j.bE.length:Int)<=j.K
 ·grind
 ·rw[aO aj,aO hp,aH,aHL hb hw,aH];generalize BZ t.aA w j.Sub=r;cases hd:r.2.jA
  ·simp
  ·simp only[hd,bV];grind[cO,a79]
theorem drop_eq:EF t w=some (Z3 t w (aKV t.aA w (dP t w))):=by
 have hjob:=rU h3 hw;have hn:=hj.new;unfold EF aKV Z3;rw[hjob,aH];generalize hjj:dP t w=j at *;by_cases hp:j.cT.length=0
 ·grind
 ·have hp0:0<j.cT.length:=aa
  have er:j.cT.getD 0 0=j.cT[0]:=aj
  have hh:=hn.2 j.cT[0] (cK hp0);rw[<-er] at hh;rw[aO aj,aO hp,show(0:Int)=((0:Nat):Int) from rfl,aT hp0,aH,<-er,show((0:Nat):Int)=0 from rfl,aW9 hp0 aa,aH,(kX.mod hh).1,XZ hb.1.2.2.1,aH];by_cases hl:aS t.aA.aV (j.cT.getD 0 0 % 32)
  ·grind
  ·rw[dU hl,aM ak,aO hl];obtain⟨c,e⟩:=aZR hb.1.1 hw (j.cT.getD 0 0);rw[e];rfl
theorem aZT(hl:t.Log.length<=1000000):vC t w=some {t with aK:=t.aK.set w.toNat eV,Log:=t.Log++[tlE w (dP t w)]}:=by
 have hjob:=rU h3 hw;unfold vC tlE;rw[hjob,aH];generalize hjj:dP t w=j at *;by_cases hc:j.Code=0
 ·have e:(j.Code == 0)=true:=aj
  simp only[e,bV,aM hc];rw[DE];rfl
 ·have e:(j.Code == 0)=false:=aj
  simp only[e,bR,bN,aO hc];rw[DE];rfl
end
theorem a3P{b:aA}(hb:nJ b)(hw:0<=w/\w<=2):∃c,EG b w=some (c,{b with aJ:=(aO2 b.aJ w).1}):=by obtain⟨r,e1,e2,_,_⟩:=aW2 hb.1.2.1 hw;rw[aHJ hb.1.2.1 hw] at e1;simp_all[EG]
section
variable {t:Table} {w:Int} (h3:t.aK.length=3) (h2:t.aR.length=2) (hb:nJ t.aA) (hw:0<=w/\w<=2)
include h3 h2 hb hw
theorem bBH(hq3:t.bK.length=3)(hqv:∀q∈t.bK,q.List.length<=12/\∀b∈q.List,Z0 b)(hs:0<=t.aI/\t.aI<=1000000)(hl:t.Log.length<=1000000) :
  A7 t w=some (if(IZ t w).length=0\/t.aI=1000000 then t else aU1 t w ((IZ t w).getD 0 ⟨false,[]⟩)):=by
 have hqi:w.toNat<t.bK.length:=aa
 have hq:idx t.bK w=some ⟨IZ t w⟩:=by simp_all[gI,IZ]
 have hqm:(⟨IZ t w⟩:aN)∈t.bK:=by unfold IZ;rw[TW,lH hqi];exact cK _
 have hqq:=hqv _ hqm;simp only at hqq;unfold A7;rw[hq,aH];simp only;by_cases h0:(IZ t w).length=0
 ·simp_all[mP]
 ·have e:(((IZ t w).length:Int) == 0)=false:=aj
  rw[aO (by rw[e];simp)];unfold mP;by_cases hm:t.aI=1000000
  ·grind
  ·have e:(t.aI == 1000000)=false:=aj
   have hp0:0<(IZ t w).length:=aa
   have er:(IZ t w).getD 0 ⟨false,[]⟩=(IZ t w)[0]:=aj
   have hbv:=hqq.2 (IZ t w)[0] (cK hp0);rw[<-er] at hbv;rw[aO (by rw[e];simp),hq,aH];simp only;have i0:idx (IZ t w) 0=some ((IZ t w)[0]):=aT hp0;rw[i0,aH,<-er,aO (λq=>q.elim h0 hm)];unfold M0;rw[SA,aH];generalize hbb:(IZ t w).getD 0 ⟨false,[]⟩=b at *;simp only[lK,aH];unfold B4;have fin:∀x:aG,x.aI=t.aI+1->x.Batch.Collect=b.Collect->mO t w ⟨IZ t w⟩ b x=some ⟨t.aA,t.aR,t.aK.set w.toNat {x with Batch:=⟨x.Batch.Collect,b.bD⟩,Reads:=[],aE:=[],cJ:=[],cT:=[],aS:=[],bE:=[]},t.bK.set w.toNat ⟨(IZ t w).drop 1⟩,t.Log++[⟨1,w,t.aI+1,0,b.bD,[]⟩],t.aI+1⟩:=λx hx _=>by unfold mO kR B3;rw[rU h3 hw,aH,cE (by have:=hbv.2.1;simp;omega),aH,DE,hx,cR];rfl
   have e1:bA (t.aI+1)=t.aI+1:=cR;unfold aU1 JD;cases hc:b.Collect
   ·rw[cZ,fin _ aa aj];simp only[e1,hc,bR,bN];have eb:(⟨false,b.bD⟩:Batch)=b:=by cases b;grind
    rw[eb];rfl
   ·rw[aM rfl];simp only[lK,aH];rw[fin _ aa aj];simp only[e1,hc,bV];have eb:(⟨true,b.bD⟩:Batch)=b:=by cases b;grind
    rw[eb];rfl
end
theorem WR(t:Table)(w:Int)(p:aA×aG):WQ t w ⟨p.1,t.aR,p.2,[]⟩=Z3 t w p:=by grind[WQ,Z3]
theorem aXA(hv:TV t)(hl:t.Log.length<=1000000)(hw:0<=w/\w<=2):wE t w=some (tZ t w):=by
 have h3:=hv.J2.1;have h2:=hv.bk.1;have hb:=hv.base;have hjob:=rU h3 hw;have hjv:=hv.J2.2 _ (SH h3 hw);unfold wE tZ;rw[hjob,aH];cases hbusy:(dP t w).kN
 ·simp only[I0,bV,bR,bN];rw[bBH h3 h2 hb hw hv.todo.1 hv.todo.2 hv.ser hl];rfl
 ·have hj : JB (dP t w):=hjv.resolve_left λe=>by rw[e] at hbusy; cases hbusy
  simp only[hU,bR,bN,bV];unfold doF;by_cases p0:(dP t w).Pc=0\/(dP t w).Pc=20\/(dP t w).Pc=21
  ·rw[aM p0,WR];have go:jF t w (dP t w) true=some (Z3 t w (aDG t.aA w (dP t w))):=by simp_all[jF,a77]
   grind
  ·rw[aO p0];have e0:((dP t w).Pc == 0)=false:=ah
   have e20:((dP t w).Pc == 20)=false:=ah
   have e21:((dP t w).Pc == 21)=false:=ah
   simp only[e0,e20,e21,bR,bN];unfold jF;simp only[bR,bN,dO,aH];by_cases p1:(dP t w).Pc=1
   ·have e:((dP t w).Pc == 1)=true:=aj
    simp_all[U8,a76,WQ]
   ·have e : ((dP t w).Pc == 1) = false:=aj
    simp only[e,bR,bN,aO p1];by_cases p2:2<=(dP t w).Pc/\(dP t w).Pc<=5
    ·simp_all[bBE,WQ,aW8]
    ·simp only[dU p2,bR,bN,aO p2];by_cases p6:(dP t w).Pc=6
     ·simp_all[a3N,WR]
     ·have e : ((dP t w).Pc == 6) = false:=aj
      simp only[e,bR,bN,aO p6];by_cases p7:(dP t w).Pc=7
      ·have e:((dP t w).Pc == 7)=true:=aj
       simp only[e,bV,aM p7];rw[bBF h3 h2 hb hw hj hl];rfl
      ·have e : ((dP t w).Pc == 7) = false:=aj
       simp only[e,bR,bN,aO p7];by_cases p8:(dP t w).Pc=8
       ·simp_all[a78,WQ,aW8]
       ·have e : ((dP t w).Pc == 8) = false:=aj
        simp only[e,bR,bN,aO p8];by_cases p9:9<=(dP t w).Pc/\(dP t w).Pc<=13
        ·simp_all[a8A,WQ,aZQ]
        ·simp only[dU p9,bR,bN,aO p9];by_cases p14:(dP t w).Pc=14\/(dP t w).Pc=16
         ·rw[aM p14];have go:kS t w (dP t w) true=some (a1Z t w (WO t.aR (dP t w))):=by unfold kS;rw[aM rfl,a3O h3 h2 hb hw hj hv.bk.2];rfl
          grind[a1Z,WQ]
         ·have e14:((dP t w).Pc == 14)=false:=ah
          have e16:((dP t w).Pc == 16)=false:=ah
          simp only[e14,e16,bR,bN,aO p14];unfold kS;simp only[bR,bN];by_cases p15:(dP t w).Pc=15
          ·simp_all[aZS,WR]
          ·have e:((dP t w).Pc == 15)=false:=aj
           simp only[e,bR,bN,aO p15];by_cases p17:(dP t w).Pc=17
           ·simp_all[drop_eq,WR]
           ·have e:((dP t w).Pc == 17)=false:=aj
            simp only[e,bR,bN,aO p17];by_cases p18:(dP t w).Pc=18
            ·have e:((dP t w).Pc == 18)=true:=aj
             simp only[e,bV,aM p18];grind[a3P,WQ]
            ·have e:((dP t w).Pc == 18)=false:=aj
             simp only[e,bR,bN,aO p18];by_cases p19:(dP t w).Pc=19
             ·have e:((dP t w).Pc == 19)=true:=aj
              simp only[e,bV,aM p19];rw[aZT h3 h2 hb hw hj hl];rfl
             simp_all[WQ,cW,OY]
def aXB(o:List aQ)(x:aQ):List aQ:=o.takeWhile (λy=>!decide (x.Key<y.Key))++[x]++o.dropWhile (λy=>!decide (x.Key<y.Key))
theorem aSZ(y:aQ)(r:List aQ)(x:aQ):aXB (y::r) x=if x.Key<y.Key then x::y::r else y::aXB r x:=by grind[aXB,List.takeWhile_cons,List.dropWhile_cons]
theorem aXC(o:List aQ)(x z:aQ):z∈aXB o x↔z=x\/z∈o:=by
 induction o with
 |nil=>simp[aXB]
 |cons y r ih=>
  grind[aSZ]
theorem aXD{o:List aQ}(hs:o.Pairwise (λa b=>a.Key<b.Key))(hx:∀y∈o,y.Key≠x.Key):(aXB o x).Pairwise (λa b=>a.Key<b.Key):=by
 induction o with
 |nil=>simp[aXB]
 |cons y r ih=>
  grind[aSZ,aZ7,aXC]
theorem a8B(h:WrV l)(hx:(0<=x.Key/\x.Key<=99)/\(0<=x.eN/\x.eN<=65535))(hl:(aCE l x).length<=6):WrV (aCE l x):=by
 refine⟨hl,λy hy=>?_,?_⟩
 ·rcases(aXC _ _ _).1 (show y∈aXB _ x from hy) with rfl|hy
  ·exact hx
  ·exact h.2.1 y (List.mem_filter.1 hy).1
 ·exact aXD (h.2.2.sublist List.filter_sublist) λy hy=>aj
theorem a8C{a b:Int}(ha:0<=a/\a<=4294967295)(hb:0<=b/\b<=65535):0<=aBE a b/\aBE a b<=65535:=by grind[aBE,cO]
section
variable {j:aG} (hj:JB j)
include hj
theorem JB.ab(c:Int):JB (OY j c):=⟨hj.busy,hj.bat,hj.h,hj.prev,hj.bkt,hj.at_,hj.k,hj.new,hj.old,hj.reads,hj.wr,hj.held,hj.res,hj.node⟩
theorem JB.pc(p:Int):JB {j with Pc:=p}:=⟨hj.busy,hj.bat,hj.h,hj.prev,hj.bkt,hj.at_,hj.k,hj.new,hj.old,hj.reads,hj.wr,hj.held,hj.res,hj.node⟩
theorem JB.sub(s:Sub):JB {j with Sub:=s}:=⟨hj.busy,hj.bat,hj.h,hj.prev,hj.bkt,hj.at_,hj.k,hj.new,hj.old,hj.reads,hj.wr,hj.held,hj.res,hj.node⟩
theorem JB.kk{k:Int}(h:0<=k/\k<=6):JB {j with K:=k}:=⟨hj.busy,hj.bat,hj.h,hj.prev,hj.bkt,hj.at_,h,hj.new,hj.old,hj.reads,hj.wr,hj.held,hj.res,hj.node⟩
theorem JB.nd{n:eD}(h:0<=n.eN/\n.eN<=4294967295):JB {j with Node:=n}:=⟨hj.busy,hj.bat,hj.h,hj.prev,hj.bkt,hj.at_,hj.k,hj.new,hj.old,hj.reads,hj.wr,hj.held,hj.res,h⟩
theorem JB.hh{x:Int}(h:jQ x):JB {j with H:=x}:=⟨hj.busy,hj.bat,h,hj.prev,hj.bkt,hj.at_,hj.k,hj.new,hj.old,hj.reads,hj.wr,hj.held,hj.res,hj.node⟩
theorem JB.pv{x:Int}(h:jQ x):JB {j with gT:=x}:=⟨hj.busy,hj.bat,hj.h,h,hj.bkt,hj.at_,hj.k,hj.new,hj.old,hj.reads,hj.wr,hj.held,hj.res,hj.node⟩
theorem JB.rd2:j.Reads.length<=2:=by
 have hn:=hj.reads.2;have hm:∀x∈j.Reads.map Seen.bZ,x=0\/x=1:=λx hx=>by obtain⟨s,hs,rfl⟩:=List.mem_map.1 hx;have:=hj.reads.1 s hs;omega
 have hl:(j.Reads.map Seen.bZ).length<=2:=by
  match h:j.Reads.map Seen.bZ,hn,hm with
  |[],_,_=>simp
  |[_],_,_=>simp
  |[_,_],_,_=>simp
  |x::y::z::r,hn,hm=>
   (simp_all;omega)
 grind
theorem JB.cmd(h:MW j):aBG (eC j):=by
 have ha:=hj.at_;have hi:j.At.toNat<j.Batch.bD.length:=by grind[MW]
 unfold eC;rw[TW,lH hi];exact hj.bat.2.2.1 _ (cK hi)
theorem JB.aHM(h:MW j)(is:Bool)(v:Int):JB (Gv.aHM j is v):=by have h':j.At<j.Batch.bD.length:=h;have ha:=hj.at_;have hr:=hj.res;exact⟨hj.busy,hj.bat,hj.h,hj.prev,hj.bkt,⟨by show 0<=j.At+1;omega,by show j.At+1<=(j.Batch.bD.length:Int);omega⟩,hj.k,hj.new,hj.old,hj.reads,hj.wr,hj.held,by show(((j.cJ++[_]).length:Nat):Int)=j.At+1;simp;omega,hj.node⟩
theorem JB.rcw(hx:(0<=x.Key/\x.Key<=99)/\(0<=x.eN/\x.eN<=65535)):JB (yH j x).2:=by
 unfold yH;split
 ·exact hj.ab 1
 ·exact⟨hj.busy,hj.bat,hj.h,hj.prev,hj.bkt,hj.at_,hj.k,hj.new,hj.old,hj.reads,a8B hj.wr hx aa,hj.held,hj.res,hj.node⟩
theorem aPF(x:aQ):(yH j x).2.Batch=j.Batch:=by grind[yH,OY]
theorem JB.ans(h:MW j){c:kG}(hc:aBG c){v:Int}(hv:0<=v/\v<=4294967295)(is:Bool):JB (aBF j c v is):=by
 unfold aBF;split
 ·have hv':0<=(if is then v else 0)/\(if is then v else 0)<=4294967295:=aa
  generalize (if is then v else 0)=u at hv';unfold aW6;have hr:=hj.rcw (x:=⟨c.Key,false,aBE u c.eN⟩) ⟨hc.2.1,a8C hv' hc.2.2.1⟩;split
  ·refine hr.aHM ?_ _ _;grind[MW,aPF,U7]
  ·exact hr
 ·exact hj.aHM h _ _
theorem JB.jnx:JB (aKS j):=by
 unfold aKS;split
 ·rename_i h;have hc:=hj.cmd h;have h':j.At<j.Batch.bD.length:=h;have ha:=hj.at_;have hr:=hj.res;split
  ·have hr':=hj.rcw (x:=⟨(eC j).Key,(eC j).Kind == 3,(eC j).eN⟩) ⟨hc.2.1,hc.2.2.1⟩;split
   ·refine⟨hr'.busy,hr'.bat,hr'.h,hr'.prev,hr'.bkt,⟨aj,?_⟩,hr'.k,hr'.new,hr'.old,hr'.reads,hr'.wr,hr'.held,aj,hr'.node⟩;grind[aPF]
   ·exact hr'
  ·split
   ·refine hj.ans h hc ?_ _;unfold YE;split
    ·rename_i x hf;have:=hj.wr.2.1 x (List.mem_of_find?_eq_some hf);grind
    simp
   ·exact⟨hj.busy,hj.bat,hj.h,hj.prev,by show 0<=rJ _/\rJ _<=1;unfold rJ;rw[aM hc.2.1];omega,hj.at_,hj.k,hj.new,hj.old,hj.reads,hj.wr,hj.held,hj.res,hj.node⟩
 ·exact((hj.pc 6).kk (k:=0) aa).sub _
theorem JB.spt(b v:Int)(hb:0<=b/\b<=1):JB {j with Reads:=(DI j.Reads b v).1}:=by
 refine⟨hj.busy,hj.bat,hj.h,hj.prev,hj.bkt,hj.at_,hj.k,hj.new,hj.old,?_,hj.wr,hj.held,hj.res,hj.node⟩;show(∀s∈(DI j.Reads b v).1,0<=s.bZ/\s.bZ<=1)/\((DI j.Reads b v).1.map Seen.bZ).Nodup;unfold DI;split
 ·exact hj.reads
 ·rename_i hf;refine⟨λs hs=>?_,?_⟩
  ·rcases iO.1 hs with hs|hs
   ·exact hj.reads.1 s hs
   grind
  ·rw[BR,List.nodup_append];refine⟨hj.reads.2,ae,λa ha c hc=>?_⟩;grind
theorem JB.pl(h:j.K<j.aE.length)(x:aQ):JB (plF j x):=by
 have hk:=hj.k;have hw:=hj.wr.1;unfold plF;split
 ·exact(hj.pc 9).kk (k:=j.K+1) aa
 ·exact hj.pc 12
theorem JB.bIW:JB (ZZ j):=by
 unfold ZZ;split
 ·rename_i h;refine⟨hj.busy,hj.bat,hj.h,hj.prev,hj.bkt,hj.at_,hj.k,hj.new,⟨aj,λx hx=>?_⟩,hj.reads,hj.wr,hj.held,hj.res,hj.node⟩;rcases iO.1 hx with hx|hx
  ·exact hj.old.2 x hx
  grind
 ·exact hj
theorem JB.rtn:JB (aKT j):=by
 unfold aKT;split
 ·exact hj.sub _
 ·exact hj
end
theorem bBI{l:List Int}(h:tW l){a:Nat}(ha:a+4<=l.length):0<=ld l a 4/\ld l a 4<=4294967295:=by
 rw[ld4 ha];have b:∀k,k<l.length->0<=bt l k/\bt l k<=255:=λk hk=>by rw[<-aZF hk];exact h _ (cK hk)
 grind
theorem aXE(hm:oP m)(x:Int):0<=(TP m.Heap x).eN/\(TP m.Heap x).eN<=4294967295:=by
 unfold TP;split
 ·rename_i h;have hr:=(WN h.2.1 h.2.2).1;have h1:=hm.1.1.1.1;exact bBI hm.1.1.1.2.2.1 aa
 ·show(0:Int)<=0/\(0:Int)<=4294967295;omega
theorem a8D(l:List aQ)(n:Int):kK l n<=l.length:=by grind[kK]
theorem a10{i:Int}(h2:k.length=2)(hi:0<=i/\i<=1):iT k i∈k:=by grind[iT]
theorem aLJ(h:k.length=2/\∀x∈k,BkV x)(i:Nat){y:bZ}(hy:BkV y):(k.set i y).length=2/\∀x∈k.set i y,BkV x:=
 ⟨aj,λx hx=>(rV hx).elim (h.2 x) λe=>e ▸ hy⟩
theorem bE9{b:aA}(hb:nJ b){x:Int}(hw:0<=w/\w<=2)(hx:kX x)(hn:¬aS b.aV (x % 32)):nJ {b with Mem:=aW7 b.Mem w x}:=by
 unfold aW7;by_cases hl:oJ b.Mem x
 ·obtain⟨m',e1,e2,_,h⟩:=aUW hb.1.1 hw hl;rw[aFR hb.1.1 hw hl] at e1;injection e1 with e1
  rw[aM hl,e1];refine⟨⟨h.1,hb.1.2⟩,λr hr=>⟨h.live (hb.2 r hr).1 ?_,(hb.2 r hr).2⟩⟩;intro e;exact hn ⟨r,hr,(hb.2 r hr).1.1,e⟩
 simp_all
structure TRV (r:TR):Prop where
 b:nJ r.b
 k:r.k.length=2/\∀x∈r.k,BkV x
 j:r.j=eV\/JB r.j
theorem aKX{c:Prop}[Decidable c]{a b:TR}(h1:c->TRV a)(h2:¬c->TRV b):TRV (if c then a else b):=aj
theorem bFA{b:aA}(hb:nJ b)(hk:k.length=2/\∀x∈k,BkV x)(hw:0<=w/\w<=2)(hj:JB j):TRV (doF b k w j):=by
 have hkk:=hj.k;have hwr:=hj.wr;have hrd:=hj.rd2;have hbs:=bBC hb hw j.Sub;have bkv:∀{i},0<=i/\i<=1->BkV (iT k i):=λhi=>hk.2 _ (a10 hk.1 hi);unfold doF;refine aKX (λ_=>?_) λ_=>?_
 ·refine⟨hbs,hk,.inr ?_⟩;unfold aDG;split
  ·exact hj.sub _
  ·split
   ·exact(hj.pc 1).sub _
   ·split
    ·exact(hj.pc 21).sub _
    ·exact(hj.pc 19).sub _
 refine aKX (λ_=>?_) λ_=>?_
 ·exact⟨hb,hk,.inr hj.jnx⟩
 refine aKX (λ_=>?_) λ_=>?_
 ·refine⟨hb,hk,.inr ?_⟩;unfold X3;have hbk:=bkv hj.bkt;split
  ·split
   ·exact hj.ab _
   ·have h1:JB {j with dZ:=(iT k j.bZ).dZ}:=⟨hj.busy,hj.bat,hj.h,hj.prev,hj.bkt,hj.at_,hj.k,hj.new,hj.old,hj.reads,hj.wr,hj.held,hj.res,hj.node⟩;have h2:JB {j with dZ:=(iT k j.bZ).dZ,Found:=false}:=⟨hj.busy,hj.bat,hj.h,hj.prev,hj.bkt,hj.at_,hj.k,hj.new,hj.old,hj.reads,hj.wr,hj.held,hj.res,hj.node⟩;exact((h2.hh hbk.1).nd (n:=aW3) (by show(0:Int)<=0/\(0:Int)<=4294967295;omega)).pc _
  ·split
   ·exact(hj.nd (aXE hb.1.1 _)).pc _
   ·split
    ·split
     ·exact hj.ab _
     ·split
      ·have h1:JB {j with Found:=j.Node.Key == (eC j).Key}:=⟨hj.busy,hj.bat,hj.h,hj.prev,hj.bkt,hj.at_,hj.k,hj.new,hj.old,hj.reads,hj.wr,hj.held,hj.res,hj.node⟩;exact(h1.hh (aHK _)).pc _
      ·exact hj.ab _
    ·split
     ·exact hj.ab _
     ·have hs:=hj.spt j.bZ j.dZ hj.bkt;split
      ·exact hs.ab _
      ·split
       ·rename_i h;exact hs.ans h (hj.cmd h) hj.node _
       ·exact hs.ab _
 refine aKX (λ_=>?_) λ_=>?_
 ·unfold aPB;split
  ·exact⟨hb,hk,.inr ((hj.pc 7).kk (k:=0) aa)⟩
  ·rename_i hp;have:=a8D j.aE j.aE.length;have:=hwr.1;refine⟨hbs,hk,.inr ?_⟩;simp only;split
   ·exact hj.sub _
   ·split
    ·exact(hj.sub _).ab _
    ·rename_i hq;have q1:kX (BZ b w j.Sub).2.Out:=Classical.byContradiction λq=>hq (.inr (.inl q));have q2:j.cT.length<6:=aa
     refine⟨hj.busy,hj.bat,hj.h,hj.prev,hj.bkt,hj.at_,⟨aj,aj⟩,⟨aj,λx hx=>?_⟩,hj.old,hj.reads,hj.wr,hj.held,hj.res,hj.node⟩;rcases iO.1 hx with hx|hx
     ·exact hj.new.2 x hx
     grind
 refine aKX (λ_=>?_) λ_=>?_
 ·have ht:=aUO j.aE;unfold ZY;split
  ·rename_i hp;have hi:j.K.toNat<(jS j.aE).length:=aa
   have er:eP j=(jS j.aE)[j.K.toNat]:=by grind[eP]
   have hbk:0<=eP j/\eP j<=1:=by grind[ZT,cK]
   have hbv:=bkv hbk;have hset:=aLJ hk (eP j).toNat (y:={iT k (eP j) with eA:=w+1}) ⟨hbv.1,hbv.2.1,aj⟩;have hlh:JB (YF j):=by
    refine⟨hj.busy,hj.bat,hj.h,hj.prev,hj.bkt,hj.at_,⟨by show 0<=j.K+1;omega,by show j.K+1<=6;omega⟩,hj.new,hj.old,hj.reads,hj.wr,?_,hj.res,hj.node⟩;show(∀x∈(if eP j∈j.aS then j.aS else j.aS++[eP j]),0<=x/\x<=1)/\(if eP j∈j.aS then j.aS else j.aS++[eP j]).Nodup;split
    ·exact hj.held
    ·rename_i hm;refine⟨λx hx=>?_,?_⟩
     ·rcases iO.1 hx with hx|hx
      ·exact hj.held.1 x hx
      grind
     ·rw[List.nodup_append];exact⟨hj.held.2,ae,λa ha c hc e=>aj⟩
   split
   ·exact⟨hb,hk,.inr (hj.ab _)⟩
   ·split
    ·exact⟨hb,hk,.inr (hj.ab _)⟩
    ·split
     ·exact⟨hb,hset,.inr ((hlh.pc 8).kk (k:=0) aa)⟩
     ·exact⟨hb,hset,.inr hlh⟩
  ·exact⟨hb,hk,.inr ((hj.pc 8).kk (k:=0) aa)⟩
 refine aKX (λ_=>?_) λ_=>?_
 ·refine⟨hb,hk,.inr ?_⟩;unfold aHN;split
  ·exact(hj.pc 9).kk (k:=0) aa
  ·split
   ·exact hj.ab _
   ·exact hj.kk (k:=j.K+1) aa
 refine aKX (λ_=>?_) λ_=>?_
 ·have hwl:=hwr.1;unfold QP;split
  ·exact⟨hb,hk,.inr (hj.pc 14)⟩
  ·rename_i hp;have hi:j.K.toNat<j.aE.length:=aa
   have er:QO j=j.aE[j.K.toNat]:=by grind[QO]
   have hx:=hwr.2.1 j.aE[j.K.toNat] (cK hi);rw[<-er] at hx;have hbk:0<=rJ (QO j).Key/\rJ (QO j).Key<=1:=by unfold rJ;omega
   have hbv:=bkv hbk;have l0:jQ 0:=.inl rfl;split
   ·have h1:=((hj.pc 10).hh hbv.1).pv l0;refine⟨hb,hk,.inr ?_⟩;simp only;split
    ·exact h1.pl aj _
    ·exact h1
   ·split
    ·have h1:=hj.nd (aXE hb.1.1 j.H);refine⟨hb,hk,.inr ?_⟩;simp only;split
     ·exact h1.pc 11
     ·split
      ·exact h1.pl aj _
      ·exact(h1.hh (aHK _)).pv hj.h
    ·split
     ·have h1:=hj.bIW;have hkl:(ZZ j).K<(ZZ j).aE.length:=by grind[ZZ]
      split
      ·exact⟨hb,aLJ hk _ ⟨aHK _,hbv.2⟩,.inr (h1.pl hkl _)⟩
      ·exact⟨hb.mem (a71 hb.1.1 _ _),hk,.inr (h1.pl hkl _)⟩
     ·split
      ·exact⟨hb,hk,.inr (hj.ab _)⟩
      ·rename_i hn;have hpn:0<=kK j.aE j.K:=by grind[kK]
       have hi2:(kK j.aE j.K).toNat<j.cT.length:=aa
       have en:aPC j=j.cT[(kK j.aE j.K).toNat]:=by grind[aPC]
       have hnew:kX (aPC j):=by rw[en];exact hj.new.2 _ (cK hi2)
       split
       ·exact⟨hb.mem (a70 hb.1.1 _ _),hk,.inr (hj.pc 13)⟩
       ·exact⟨hb,aLJ hk _ ⟨.inr hnew,hbv.2⟩,.inr ((hj.pc 9).kk (k:=j.K+1) aa)⟩
 refine aKX (λ_=>?_) λ_=>?_
 ·unfold WO;split
  ·rename_i hp;have er:oK j=j.aS[0]:=by grind[oK]
   have hbk:=hj.held.1 j.aS[0] (cK hp);rw[<-er] at hbk;have hbv:=bkv hbk;have hver:=hbv.2.1;refine⟨hb,aLJ hk _ ?_,.inr ⟨hj.busy,hj.bat,hj.h,hj.prev,hj.bkt,hj.at_,hj.k,hj.new,hj.old,hj.reads,hj.wr,⟨λx hx=>hj.held.1 x (aLW hx),hj.held.2.sublist (List.drop_sublist _ _)⟩,hj.res,hj.node⟩⟩;split
   ·refine⟨hbv.1,?_,ae⟩;grind
   ·exact⟨hbv.1,hbv.2.1,ae⟩
  ·split
   ·exact⟨hb,hk,.inr (hj.pc 17)⟩
   ·exact⟨hb,hk,.inr (((hj.pc 15).kk (k:=0) aa).rtn)⟩
 refine aKX (λ_=>?_) λ_=>?_
 ·have hol:=hj.old.1;unfold aKU;split
  ·exact⟨hb,hk,.inr (hj.pc 18)⟩
  ·refine⟨hbs,hk,.inr ?_⟩;simp only;split
   ·exact((hj.kk (k:=j.K+1) aa).sub _).rtn
   ·exact hj.sub _
 refine aKX (λ_=>?_) λ_=>?_
 ·unfold aKV;split
  ·exact⟨hb,hk,.inr (hj.pc 18)⟩
  ·rename_i hp;have hp0:0<j.cT.length:=aa
   have er:j.cT.getD 0 0=j.cT[0]:=aj
   have hh:=hj.new.2 j.cT[0] (cK hp0);rw[<-er] at hh;refine⟨?_,hk,.inr ⟨hj.busy,hj.bat,hj.h,hj.prev,hj.bkt,hj.at_,hj.k,⟨by show(j.cT.drop 1).length<=6;have:=hj.new.1;simp;omega,λx hx=>hj.new.2 x (aLW hx)⟩,hj.old,hj.reads,hj.wr,hj.held,hj.res,hj.node⟩⟩;grind[bE9]
 refine aKX (λ_=>?_) λ_=>?_
 ·obtain⟨r,e1,e2,h1,h2⟩:=aW2 hb.1.2.1 hw;rw[aHJ hb.1.2.1 hw] at e1;injection e1 with e1
  refine⟨hb.clock aj aj,hk,.inr (hj.pc 19)⟩
 refine aKX (λ_=>?_) λ_=>?_
 ·exact⟨hb,hk,.inl rfl⟩
 ·exact⟨hb,hk,.inr (hj.ab 1)⟩
theorem a8E{b:Batch}(hb:Z0 b)(s:Int):JB (JD b s):=
 ⟨rfl,hb,.inl rfl,.inl rfl,by simp[JD],by simp[JD],by simp[JD],by simp[JD],by simp[JD],by simp[JD],⟨by simp[JD],by simp[JD],by simp[JD]⟩,by simp[JD],by simp[JD],by show(0:Int)<=0/\(0:Int)<=4294967295;omega⟩
theorem TV.step(hv:TV t)(hw:0<=w/\w<=2):TV (tZ t w):=by
 have hjv:=hv.J2.2 _ (SH hv.J2.1 hw);have setj:∀{x:aG},(x=eV\/JB x)->(t.aK.set w.toNat x).length=3/\∀j∈t.aK.set w.toNat x,j=eV\/JB j:=λhx=>
  ⟨by simpa using hv.J2.1,λj hj=>(rV hj).elim (hv.J2.2 j) λe=>e ▸ hx⟩
 unfold tZ;split
 ·rename_i hbusy;have hj:JB (dP t w):=hjv.resolve_left λe=>by rw[e] at hbusy;cases hbusy
  have h:=bFA hv.base hv.bk hw hj;exact⟨h.b,h.k,setj h.j,hv.todo,hv.ser⟩
 ·split
  ·exact hv
  ·rename_i hq;have hqi:w.toNat<t.bK.length:=by have:=hv.todo.1;omega
   have hqm:(⟨IZ t w⟩:aN)∈t.bK:=by unfold IZ;rw[TW,lH hqi];exact cK _
   have hqq:(IZ t w).length<=12/\∀b∈IZ t w,Z0 b:=hv.todo.2 _ hqm;have hp0:0<(IZ t w).length:=aa
   have er:(IZ t w).getD 0 ⟨false,[]⟩=(IZ t w)[0]:=aj
   have hbv:=hqq.2 (IZ t w)[0] (cK hp0);rw[<-er] at hbv;have hs:=hv.ser;have hsn:t.aI≠1000000:=λe=>hq (.inr e);unfold aU1;refine⟨hv.base,hv.bk,setj (.inr (a8E hbv _)),⟨by simpa using hv.todo.1,λq hq'=>?_⟩,⟨aj,aj⟩⟩;rcases rV hq' with h|h
   ·exact hv.todo.2 q h
   ·subst h;exact⟨aj,λb hb=>hqq.2 b (aLW hb)⟩
theorem aZU(c:kG):VN c=some (decide (aBG c)):=by
 unfold VN J7 J6;simp only[cM,aH];by_cases h1:1<=c.Kind/\c.Kind<=4
 ·by_cases h2:0<=c.Key/\c.Key<=99
  ·simp only[bY h1,bY h2,hU,bR,bN];have dv:(c.Kind=2\/c.Kind=4)->decide (0<=c.eN/\c.eN<=65535)=decide (aBG c):=λk=>by rw[K7,decide_eq_true_eq,decide_eq_true_eq];exact⟨λh=>⟨h1,h2,h,aa⟩,λh=>h.2.2.1⟩
   by_cases k2:c.Kind=2
   ·grind
   ·have e:(c.Kind == 2)=false:=aj
    by_cases k4:c.Kind=4
    ·grind
    ·have e4:(c.Kind == 4)=false:=aj
     simp only[e,e4,bR,bN];congr 1;rw[K7,beq_iff_eq,decide_eq_true_eq];constructor
     ·intro h;exact⟨h1,h2,aa,.inr (.inr h)⟩
     ·rintro⟨_,_,_,h|h|h⟩<;>omega
  simp_all[dU,aBG]
 ·simp only[dU h1,I0,bV];grind[aBG]
theorem aZV(c:kG):VY c=some (decide (aBG c)):=by
 have key:∀B:Bool,xE c B=some (decide ((1<=c.Kind/\c.Kind<=4)/\(0<=c.Key/\c.Key<=99)/\((B=true/\(0<=c.eN/\c.eN<=65535))\/c.eN=0))):=λB=>by unfold xE rB;simp only[dO,aH];grind
 unfold VY;have fin:∀B:Bool,(B=true↔c.Kind=2\/c.Kind=4)->xE c B=some (decide (aBG c)):=λB hB=>by rw[key];congr 1;rw[K7,decide_eq_true_eq,decide_eq_true_eq];grind[aBG]
 grind
theorem aPG{b:Batch}(hl:b.bD.length<=1000):GI b=some (decide (Z0 b)):=by
 unfold GI;cases hc:b.Collect
 ·rw[cZ];have hs:∀k (hk:k<b.bD.length),oZ b (k:Int)=if aBG b.bD[k] then some (.next ((k+1:Nat):Int)) else some (.stop (Out.ret false)):=λk hk=>by simp only[oZ];rw[cQ,aT hk,aH,aZU,aH,cR];simp
  have key:loop (oZ b) 0=_:=kW (f:=oZ b) b.bD (λk=>(k:Int)) aBG (Out.brk ()) (Out.ret false) (λk hk hp=>aj) (λk hk hp=>aj) (by simp[oZ]);rw[key];by_cases q:∀x∈b.bD,aBG x
  ·rw[aM q];simp only[aH,WY,WX,cM];congr 1;rw[K7,decide_eq_true_eq,decide_eq_true_eq];exact⟨λa=>⟨λh=>aj,aa,q,λ_=>aa⟩,λa=>by have:=a.2.2.2 hc;have:=a.2.1;omega⟩
  ·rw[aO q,dU (show ¬Z0 b from λa=>q a.2.2.1)];rfl
 ·rw[aM rfl];congr 1;rw[K7,beq_iff_eq,decide_eq_true_eq];constructor
  ·intro h;have h0:b.bD=[]:=xL aa;exact⟨λ_=>h0,aa,aj,λh=>aj⟩
  ·intro h;rw[h.1 hc];rfl
def BsV(l:List Batch):Prop:=∀b∈l,Z0 b
instance (l:List Batch):Decidable (BsV l):=by unfold BsV;infer_instance
theorem aPH{l:List aN}(hl:l.length<=1000)(hb:∀q∈l,∀b∈q.List,b.bD.length<=1000):GJ l=some (decide (Z1 l)):=by
 unfold GJ;have inner:∀k (hk:k<l.length),l[k].List.length<=12->loop (o4 l (k:Int)) 0=some (if BsV l[k].List then Out.brk () else Out.ret false):=by
  intro k hk h12;have hs:∀j (hj:j<l[k].List.length),o4 l (k:Int) (j:Int)=if Z0 l[k].List[j] then some (.next ((j+1:Nat):Int)) else some (.stop (Out.ret false)):=by intro j hj;simp only[o4];rw[aT hk,aH,cQ,aH,aT hj,aH,aPG (hb _ (cK hk) _ (cK hj)),aH,cR];simp
  have:=kW (f:=o4 l (k:Int)) l[k].List (λj=>(j:Int)) Z0 (Out.brk ()) (Out.ret false) (λj hj hp=>aj) (λj hj hp=>aj) (by
   simp_all[o4,aT])
  refine Eq.trans this ?_;congr 1
 have hs:∀k (hk:k<l.length),o5 l (k:Int)=if QuV l[k] then some (.next ((k+1:Nat):Int)) else some (.stop (Out.ret false)):=by
  intro k hk;simp only[o5];rw[cQ,aT hk,aH];by_cases h12:l[k].List.length<=12
  ·rw[rK,inner k hk h12];by_cases q:BsV l[k].List
   ·rw[aM q,aM (show QuV l[k] from⟨h12,q⟩)];simp only[aH,W2,W0];grind[cO]
   ·rw[aO q,aO (show ¬QuV l[k] from λa=>q a.2)];rfl
  ·rw[cQ,aO (show ¬QuV l[k] from λa=>h12 a.1)]
 have key:loop (o5 l) 0=_:=kW (f:=o5 l) l (λk=>(k:Int)) QuV (Out.brk ()) (Out.ret false) (λk hk hp=>aj) (λk hk hp=>aj) (by simp[o5]);rw[key];by_cases q:∀x∈l,QuV x
 ·rw[aM q];simp only[aH,W3,WZ];congr 1;rw[K7];simp only[beq_iff_eq,decide_eq_true_eq];exact⟨λa=>⟨aa,q⟩,λa=>by have:=a.1;omega⟩
 ·rw[aO q,dU (show ¬Z1 l from λa=>q a.2)];rfl
theorem OZ{l:List O}{f:Int->Option (Step Int (Out Unit Int))}{p:O->Bool}{m:(Out Unit Int)->Option Int}(hl:l.length<=4611686018427387904)
  (hf:∀k:Nat,f (k:Int)=if h:k<l.length then(if p l[k] then some (.stop (Out.ret (k:Int))) else some (.next ((k+1:Nat):Int))) else some (.stop (Out.brk ()))) (m1:∀r,m (.ret r)=some r) (m2:m (.brk ())=some (-1)) :
  ((loop f 0).bind m).bind (λx1=>some (decide (0<=x1)))=some (l.any p):=by
 rcases aFG (f:=f) (p:=p) hl hf l.length 0 aa with ⟨j,h,_,h2,h3,h4⟩|⟨h1,h2⟩
 ·rw[show(0:Int)=((0:Nat):Int) from rfl,h4,aH,m1,aH,bY aa];grind
 ·rw[show(0:Int)=((0:Nat):Int) from rfl,h2,aH,m2,aH,dU aa];congr 1;refine(List.any_eq_false.2 λx hx=>?_).symm;obtain⟨i,hi,rfl⟩:=aDL hx;grind
theorem aU2{l:List kG}(hl:l.length<=1000){f:kG->Bool}{g:kG->Option Bool}(hg:∀x∈l,g x=some (f x)):tE l g=some (l.any f):=
 OZ (f:=tD l g) (m:=FQ) aa (λk=>by
  simp only[tD];by_cases h:k<l.length
  ·rw[dif_pos h,cQ,aT h,aH,hg _ (cK h),aH,cR];rfl
  grind) (λ_=>rfl) rfl
theorem aPI{l:List Batch}(hl:l.length<=1000){f:Batch->Bool}{g:Batch->Option Bool}(hg:∀x∈l,g x=some (f x)):oW l g=some (l.any f):=
 OZ (f:=oV l g) (m:=BX) aa (λk=>by
  simp only[oV];by_cases h:k<l.length
  ·rw[dif_pos h,cQ,aT h,aH,hg _ (cK h),aH,cR];rfl
  grind) (λ_=>rfl) rfl
theorem aKY{l:List aN}(hl:l.length<=1000){f:aN->Bool}{g:aN->Option Bool}(hg:∀x∈l,g x=some (f x)):nZ l g=some (l.any f):=
 OZ (f:=nY l g) (m:=zS) aa (λk=>by
  simp only[nY];by_cases h:k<l.length
  ·rw[dif_pos h,cQ,aT h,aH,hg _ (cK h),aH,cR];rfl
  grind) (λ_=>rfl) rfl
theorem aU3{l:List O}{P:O->Prop}[DecidablePred P]:(!(l.any λx=>!decide (P x)))=decide (∀x∈l,P x):=aj
theorem aPJ{b:Batch}(hl:b.bD.length<=1000):H7 b=some (decide (Z0 b)):=by
 unfold H7;cases hc:b.Collect
 ·rw[cZ,dO,aH];by_cases h:1<=(b.bD.length:Int)/\(b.bD.length:Int)<=6
  ·rw[bY h,aM rfl,aU2 hl (f:=λx=>!decide (aBG x)) (λx _=>by grind[PN,aZV]),aH,aU3];unfold wF;congr 1;rw[K7,decide_eq_true_eq,decide_eq_true_eq];exact⟨λa=>⟨λh=>aj,aa,a,λ_=>aa⟩,λa=>a.2.2.1⟩
  ·rw[dU h,cZ];grind[wF,Z0]
 ·rw[aM rfl];congr 1;rw[K7,beq_iff_eq,decide_eq_true_eq];constructor
  ·intro h;have h0:b.bD=[]:=xL aa;exact⟨λ_=>h0,aa,aj,λh=>aj⟩
  ·intro h;rw[h.1 hc];rfl
theorem aPK{l:List aN}(hl:l.length<=1000)(hq:∀q∈l,q.List.length<=1000)(hb:∀q∈l,∀b∈q.List,b.bD.length<=1000):H9 l=some (decide (Z1 l)):=by
 have e1:∀q∈l,H8 q=some (!decide (QuV q)):=λq hm=>by
  unfold H8 xW;by_cases h:q.List.length<=12
  ·rw[rK,aPI (hq q hm) (f:=λx=>!decide (Z0 x)) (λx hx=>by grind[JS,aPJ]),aH];congr 1;rw[<-Bool.not_not ((q.List.any λx=>!decide (Z0 x))),aU3];congr 1;rw[K7,decide_eq_true_eq,decide_eq_true_eq];exact⟨λa=>⟨h,a⟩,λa=>a.2⟩
  ·rw[cQ,dU (show ¬QuV q from λa=>h a.1)];rfl
 unfold H9 EH;by_cases h:l.length=3
 ·rw[cQ,aKY hl e1,aH,aU3];congr 1;rw[K7,decide_eq_true_eq,decide_eq_true_eq];exact⟨λa=>⟨h,a⟩,λa=>a.2⟩
 ·rw[rK,dU (show ¬Z1 l from λa=>h a.1)]
theorem aLK{b:Batch}(h:b.bD.length<=1000):qU b=some b/\zQ b=some b:=by unfold qU zQ pS kR;rw[DE];simp
theorem aFV{l:List aN}(hl:l.length<=1000)(hq:∀q∈l,q.List.length<=1000)(hb:∀q∈l,∀b∈q.List,b.bD.length<=1000):yN l=some l/\zR l=some l:=by
 constructor
 ·unfold yN;rw[U4 l]
  ·rfl
  ·intro k hk;have h1:=hq _ (cK hk);simp only[GM];rw[cQ,aAP l[k].List]
   ·simp only[aH,RD,RC];rw[DE,cR];rfl
   ·intro i hi;simp only[GL,GK];rw[aT hk,aH,cQ,aH,aT hi,aH,(aLK (hb _ (cK hk) _ (cK hi))).1,aH,DE,cR];rfl
   simp_all[GL,aT]
  grind[GM]
 ·unfold zR;rw[U4 l]
  ·rfl
  ·intro k hk;have h1:=hq _ (cK hk);simp only[HZ];rw[cQ,aT hk,aH,aAP l[k].List]
   ·simp only[aH,R3,R1];rw[DE,cR];rfl
   ·intro i hi;simp only[HY,HX];rw[cQ,aT hi,aH,(aLK (hb _ (cK hk) _ (cK hi))).2,aH,DE,cR];rfl
   grind[HY]
  grind[HZ]
def aLL:Table:=⟨⟨⟨⟨[],[]⟩,⟨[],[]⟩⟩,⟨0,[]⟩,[],[]⟩,[],[],[],[],0⟩
def oY(t:List aN):Table:=⟨aSV,List.replicate 2 ⟨0,0,0⟩,List.replicate 3 eV,t,[],0⟩
theorem Z4{t:List aN}(hl:t.length<=1000)(hq:∀q∈t,q.List.length<=1000)(hb:∀q∈t,∀b∈q.List,b.bD.length<=1000):CL t=some (if Z1 t then oY t else aLL)/\SX t=some (if Z1 t then oY t else aLL):=by
 unfold CL SX;rw[aPH hl hb,aPK hl hq hb];simp only[aH];by_cases h:Z1 t
 ·simp only[bY h,hU,bR,bN,aM h,aO9.1,aO9.2,aH,(aFV hl hq hb).1,(aFV hl hq hb).2];rw[SA,SA];exact⟨rfl,rfl⟩
 ·simp only[dU h,I0,bV,aO h];exact⟨rfl,rfl⟩
theorem aAR{t:List aN}(h:Z1 t):TV (oY t):=
 ⟨aPA,⟨rfl,λx hx=>by simp[oY] at hx;subst hx;exact⟨.inl rfl,ae,ae⟩⟩,⟨rfl,λj hj=>by grind[oY]⟩,h,by show(0:Int)<=0/\(0:Int)<=1000000;omega⟩
def X4(t:Table)(p:Int):Table:=if 0<=p/\p<=2 then tZ t p else t
def Z5(t:Table)(l:List Int):Table:=l.foldl X4 t
theorem hY{P:TR->Prop}{c:Prop}[Decidable c]{a b:TR}(h1:c->P a)(h2:¬c->P b):P (if c then a else b):=aj
theorem bBJ(b:aA)(k:List bZ)(w:Int)(j:aG):(doF b k w j).l.length<=1:=by unfold doF;refine hY (P:=λr=>r.l.length<=1) (λ_=>lX _) λ_=>hY (P:=λr=>r.l.length<=1) (λ_=>lX _) λ_=>hY (P:=λr=>r.l.length<=1) (λ_=>lX _) λ_=>hY (P:=λr=>r.l.length<=1) (λ_=>lX _) λ_=>hY (P:=λr=>r.l.length<=1) (λ_=>?_) λ_=>hY (P:=λr=>r.l.length<=1) (λ_=>lX _) λ_=>hY (P:=λr=>r.l.length<=1) (λ_=>lX _) λ_=>hY (P:=λr=>r.l.length<=1) (λ_=>lX _) λ_=>hY (P:=λr=>r.l.length<=1) (λ_=>lX _) λ_=>hY (P:=λr=>r.l.length<=1) (λ_=>lX _) λ_=>hY (P:=λr=>r.l.length<=1) (λ_=>lX _) λ_=>hY (P:=λr=>r.l.length<=1) (λ_=>kY _) λ_=>lX _;grind
theorem aHO(t:Table)(p:Int):(X4 t p).Log.length<=t.Log.length+1:=by
 unfold X4 tZ;split
 ·split
  ·have:=bBJ t.aA t.aR p (dP t p);show(t.Log++_).length<=_;grind
  ·split
   ·omega
   ·show(t.Log++_).length<=_;simp
 ·omega
theorem aPL(h:TV t)(p:Int):TV (X4 t p):=by
 unfold X4;split
 ·exact h.step (by assumption)
 ·exact h
theorem aDH{P:Table->Prop}(hs:∀t w,TV t->(0<=w/\w<=2)->P t->P (tZ t w)):∀(l:List Int) {t:Table},TV t->P t->TV (Z5 t l)/\P (Z5 t l)
 |[],t,h,hp=>⟨h,hp⟩
 |p::l,t,h,hp=>aDH hs l (aPL h p) (by grind[X4])
theorem aS0{x:pR}{n:Nat}(hn:((x.gN.take ((if 400<(x.gN.length:Int) then 400 else(x.gN.length:Int)).toNat)).drop 0)=x.gN.take n)(h400:(x.gN.take n).length<=400):∀(d k:Nat) (t:Table),k+d=(x.gN.take n).length->TV t->t.Log.length<=k->loop (qR x) ((k:Int),t)=some (Z5 t ((x.gN.take n).drop k))
 |0,k,t,hk,hv,hl=>by rw[List.drop_of_length_le aa];refine bG ?_;simp only[qR,hn];rw[aO aj];rfl
 |d + 1,k,t,hk,hv,hl=>by
  have hkl:k<(x.gN.take n).length:=aa
  have st:qR x ((k:Int),t)=some (.next (((k+1:Nat):Int),X4 t (x.gN.take n)[k])):=by
   simp only[qR,hn];rw[aM aj,aT hkl,aH,lU,aH];unfold IH X4;rw[cR];by_cases hp:0<=(x.gN.take n)[k]/\(x.gN.take n)[k]<=2
   ·rw[bY hp,aM rfl,aXA hv aa hp,aM hp];rfl
   grind
  rw[bW st,aS0 hn h400 d (k+1) _ aa (aPL hv _) (by grind[aHO]),FE hkl];rfl
theorem aFW{x:pR}(hl:x.bK.length<=1000)(hq:∀q∈x.bK,q.List.length<=1000)(hb:∀q∈x.bK,∀b∈q.List,b.bD.length<=1000)(ht:Z1 x.bK):II x=some (Z5 (oY x.bK) (x.gN.take 400)):=by
 unfold II;rw[(Z4 hl hq hb).2,aM ht,aH,aO (by simp[oY])];have hn:((x.gN.take ((if 400<(x.gN.length:Int) then 400 else(x.gN.length:Int)).toNat)).drop 0)=x.gN.take 400:=by
  (simp_all;omega)
 rw[SA,show(0:Int)=((0:Nat):Int) from rfl,aS0 hn aj (x.gN.take 400).length 0 _ aa (aAR ht) (by simp[oY]),aH];rfl
def QuS(m:Int)(q:aN):Prop:=(q.List.length:Int)<=m/\∀x∈q.List,x.bD.length<=1000
section
variable {b:List UInt8} {i h:Int} (hc:Cu b i)
include hc
theorem bG9:DK (LC ⟨b,i,h⟩) (λx=>Cu b x.2.1):=by
 unfold LC GG GF;refine .bind (aSW hc ai ai) λx1 ⟨_,h1⟩=>.bind (below h1 aa) λx2 ⟨_,h2⟩=>.ite (λ_=>.ite (λ_=>?_) λ_=>.ret h2) λ_=>.ite (λ_=>?_) λ_=>.ret h2
 ·exact .bind (below h2 aa) λx7 ⟨_,h7⟩=>.bind (aSW h7 ae ae) λx8 ⟨_,h8⟩=>.ret h8
 ·exact .bind (below h2 aa) λx7 ⟨_,h7⟩=>.bind (aSW h7 ae ae) λx8 ⟨_,h8⟩=>.ret h8
theorem bBK:DK (RB ⟨b,i,h⟩) (λx=>Cu b x.2.1):=by
 unfold RB rZ;refine .bind (bG9 hc) λx1 h1=>.bind (below h1 aa) λx7 ⟨_,h7⟩=>.ite (λ_=>?_) λ_=>.ite (λ_=>?_) λ_=>.ite (λ_=>?_) λ_=>.ret h7
 ·exact .bind (aSW h7 ai ai) λx8 ⟨_,h8⟩=>.ret h8
 ·exact .bind (aSW h7 ai ai) λx8 ⟨_,h8⟩=>.ret h8
 ·exact .bind (aSW h7 ai ai) λx8 ⟨_,h8⟩=>.ret h8
theorem bFB:DK (NJ ⟨b,i,h⟩) (λx=>x.1.bD.length<=1000/\Cu b x.2.1):=by unfold NJ;refine .bind (bG6 hc aa) λx1 h1=>.ite (λ_=>.ret ⟨ae,h1⟩) λ_=>.bind (below h1 aa) λx2 ⟨hx,h2⟩=>?_;rw[cR];refine .bind (P:=λx=>x.2.2.length<=1000/\Cu b x.1) (.loop (λs=>s.1.toNat) (λs=>(0<=s.1/\s.1+s.2.2.2.length<=10)/\Cu b s.2.1) ⟨⟨aa,ah⟩,h2⟩ ?_) λx hx=>.ret hx;rintro⟨n,i1,h1,l⟩ ⟨⟨n0,n1⟩,hi1⟩;simp only at n0 n1 hi1;simp only[WW,L5];refine .ite (λq=>?_) (λq=>.ret ⟨aj,hi1⟩);have q1:=of_decide_eq_true q;refine .bind (bG9 hi1) λo h3=>.need ah (.ret ?_);grind[cO]
theorem aXF{m:Int}(hm:0<=m/\m<=12):DK (yL ⟨b,i,h⟩ m) (λx=>(x.1.length=3/\∀q∈x.1,QuS m q)/\Cu b x.2.1):=by
 unfold yL;refine .bind (P:=λx=>(x.1.length=3/\∀q∈x.1,QuS m q)/\Cu b x.2.1) (.loop (λs=>3-s.2.1.toNat) (λs=>((s.1.length:Int)=s.2.1/\s.2.1<=3/\∀q∈s.1,QuS m q)/\Cu b s.2.2.1) ⟨⟨rfl,ae,ae⟩,hc⟩ ?_) λx hx=>.ret hx;rintro⟨l,k,i',h'⟩ ⟨⟨e,k3,hq⟩,hi⟩;simp only at e k3 hq hi;simp only[Q1];refine .ite (λq=>?_) (λq=>?_)
 ·have q':=of_decide_eq_true q;rw[cR (x:=m+1)];refine .bind (below hi aa) λn ⟨hn,h1⟩=>?_;refine .bind (P:=λx=>QuS m ⟨x.2.2⟩/\Cu b x.1) (.loop (λs=>s.1.toNat) (λs=>(0<=s.1/\s.1+s.2.2.2.length<=m/\∀o∈s.2.2.2,o.bD.length<=1000)/\Cu b s.2.1) ⟨⟨hn.1,ah,ae⟩,h1⟩ ?_) ?_
  ·rintro⟨n,i1,h1,ops⟩ ⟨⟨n0,n1,ho⟩,hi1⟩;simp only at n0 n1 ho hi1;simp only[QZ,GH];refine .ite (λq=>?_) (λq=>?_)
   ·have q1:=of_decide_eq_true q;refine .bind (bFB hi1) λo ⟨h2,h3⟩=>.need ah (.ret ?_);grind[cO]
   ·have q1:¬0<n:=aj
    exact .ret ⟨⟨aj,ho⟩,hi1⟩
  ·rintro⟨i1,h1,ops⟩ ⟨ho,hi1⟩;simp only[Q0,QY];refine .need ah (.ret ?_);grind[cO]
 ·have q':¬k<3:=aj
  exact .ret ⟨⟨aj,hq⟩,hi⟩
def aRV(l:List aN):Prop:=l.length<=3/\∀q∈l,QuS 100 q
omit hc in
theorem aXG{l:List aN}(hl:aRV l)(k:Nat){q:aN}(hq:QuS 100 q):aRV (l.set k q):=⟨by simpa using hl.1,λx hx=>(rV hx).elim (hl.2 x) (λe=>e ▸ hq)⟩
omit hc in
theorem aU4{l:List Batch}{m:Int}(h:QuS m ⟨l⟩)(hm:m+1<=n){x:Batch}(hx:x.bD.length<=1000):QuS n ⟨l++[x]⟩:=⟨by have:=h.1;grind,λy hy=>by
 rcases iO.1 hy with hy|hy
 ·exact h.2 y hy
 grind⟩
omit hc in
theorem aFX{m:Int}{q:aN}(h:QuS m q)(hm:m<=n):QuS n q:=⟨by have:=h.1;omega,h.2⟩
theorem a3Q:DK (DN ⟨b,i,h⟩) (λx=>aRV x.1/\Cu b x.2.1):=by
 unfold DN;refine .bind (aXF hc aa) λx1 ⟨⟨l3,hq⟩,h1⟩=>.bind (below h1 aa) λx5 ⟨_,h5⟩=>?_;have hT:aRV x1.1:=⟨aa,λq hq'=>aFX (hq q hq') aa⟩;simp only[kO,O5,ES];refine .ite (λ_=>?_) λ_=>.ite (λ_=>?_) λ_=>.ite (λ_=>?_) λ_=>.ite (λ_=>?_) λ_=>?_
 ·exact .need aa (.ret ⟨⟨ah,λq hq'=>hT.2 q (List.mem_of_mem_take (by simpa using hq'))⟩,h5⟩)
 ·refine .bind (.idx aa) λx6 h6=>?_;have h7:=hq _ h6;have:=h7.1;exact .need ah (.ret ⟨aXG hT _ (aU4 (m:=5) (l:=x6.List) h7 aa ae),h5⟩)
 ·refine .bind (P:=λx=>aRV x.1/\Cu b x.2.1) (.loop (λs=>20-((s.1.getD 1 ⟨[]⟩).List.length)) (λs=>(s.1.length=3/\∀q∈s.1,QuS 13 q)/\Cu b s.2.1) ⟨⟨l3,λq hq'=>aFX (hq q hq') aa⟩,h5⟩ ?_) ?_
  ·rintro⟨l,i1,h1⟩ ⟨⟨l3,hq⟩,hi1⟩;simp only at l3 hq hi1;simp only[O6,ER];have hx:idx l 1=some l[1]:=aT (k:=1) aa;have hm:=hq _ (cK (show 1<l.length by omega));have hm1:=hm.1;rw[hx];simp only[aH];refine .bind (below hi1 aa) λx ⟨hx2,hi2⟩=>.ite (λq=>?_) (λq=>?_)
   ·have q':=of_decide_eq_true q;rw[cR] at q';refine .need ah (.ret ?_);refine⟨⟨⟨by simp[l3],λx hx=>?_⟩,hi2⟩,?_⟩
    ·rcases rV hx with hx|hx
     ·grind
     ·rw[hx];exact⟨ah,(aU4 (m:=13) (n:=14) (l:=l[1].List) hm aa (x:=⟨true,[]⟩) ae).2⟩
    grind
   ·exact .ret ⟨⟨aj,λq hq'=>aFX (hq q hq') aa⟩,hi2⟩
  ·rintro⟨l,i1,h1⟩ hx;exact .ret hx
 ·refine .bind (.idx aa) λx25 h25=>.bind (bBK h5) λx26 h26=>?_;have h7:=hq _ h25;have:=h7.1;exact .need ah (.ret ⟨aXG hT _ (aU4 (m:=5) (l:=x25.List) h7 aa ae),h26⟩)
 ·exact .ret ⟨hT,h5⟩
theorem bBL{m:Int}(hm:m<=100):DK (J5 ⟨b,i,h⟩ m) (λx=>x.1.length<=4000/\Cu b x.2.1):=by
 unfold J5;refine .bind (below hc aa) λx1 ⟨hx1,h1⟩=>?_;refine .bind (P:=λx=>x.1.length<=4000/\Cu b x.2.1) (.loop (λs=>s.2.1.toNat) (λs=>(0<=s.2.1/\s.1.length+8*s.2.1<=4000)/\Cu b s.2.2.1) ⟨⟨hx1.1,ah⟩,h1⟩ ?_) λx hx=>.ret hx;rintro⟨l,n,i1,h1⟩ ⟨⟨n0,n1⟩,hi1⟩;simp only at n0 n1 hi1;simp only[UG];refine .ite (λq=>?_) (λq=>?_)
 ·have q':=of_decide_eq_true q;refine .bind (below hi1 aa) λx13 ⟨_,h13⟩=>.bind (below h13 aa) λx14 ⟨hx14,h14⟩=>?_;rw[cR];refine .bind (P:=λx=>(x.length:Int)<=l.length+8) (.loop (λs=>s.2.toNat) (λs=>0<=s.2/\(s.1.length:Int)+s.2<=l.length+8) ⟨aa,aj⟩ ?_) ?_
  ·rintro⟨r,k⟩ ⟨k0,k1⟩;simp only at k0 k1;simp only[UE];refine .ite (λq=>?_) (λq=>?_)
   ·have q2:=of_decide_eq_true q;refine .need ah (.ret ?_);grind[cO]
   ·exact .ret aa
  ·intro r hr;simp only[UF,UD];refine .ret ?_;grind[cO]
 ·exact .ret ⟨aj,hi1⟩
end
theorem aZW{code:List UInt8}(hl:code.length<=1048576):DK (uM code) (λx=>aRV x.bK/\x.gN.length<=5000):=by unfold uM;refine .bind (bIV hl) λx1 h1=>.bind (aXF h1 aa) λx2 ⟨⟨l3,hq⟩,h2⟩=>.bind (bBL h2 aa) λx3 ⟨p,h3⟩=>.bind (below h3 aa) λx6 ⟨_,h6⟩=>?_;have hT:aRV x2.1:=⟨aa,λq hq'=>aFX (hq q hq') aa⟩;simp only[kJ];refine .ite (λ_=>.bind (a3Q h6) λx7 ⟨h7,_⟩=>.ret ⟨h7,aj⟩) λ_=>.ite (λ_=>.need ah (.ret ⟨hT,ah⟩)) λ_=>.ret ⟨hT,aj⟩
theorem aRV.fit{l:List aN}(h:aRV l):l.length<=1000/\(∀q∈l,q.List.length<=1000)/\∀q∈l,∀b∈q.List,b.bD.length<=1000:=
 ⟨by have:=h.1;omega,λq hq=>by have:=(h.2 q hq).1;omega,λq hq=>(h.2 q hq).2⟩
theorem a3R{x:pR}(hx:aRV x.bK):RE x=some (decide (Z1 x.bK)):=by
 obtain⟨h1,h2,h3⟩:=hx.fit;unfold RE;rw[(Z4 h1 h2 h3).1,aH];by_cases h:Z1 x.bK
 ·rw[aM h,bY h];rfl
 ·rw[aO h,dU h];rfl
theorem aZX{b:bZ}(h:BkV b):V2 b=some true:=by unfold V2 C9;rw[IX,bY h.1,aH,aM rfl,cM,bY h.2.1,aH,aM rfl,cM,bY h.2.2];rfl
theorem aFY{l:List Int}(hl:l.length<=6)(h:∀x∈l,kX x):wJ l=some true:=by
 unfold wJ;have key:loop (oA l) 0=some (Out.brk ()):=fV (f:=oA l) l.length (λk=>(k:Int)) _ (λk hk=>by
  simp only[oA];rw[cQ,aT hk,aH,fO,bY (h _ (cK hk)),aH,cZ,cR];rfl) (by simp[oA])
 grind[PT,PR]
theorem aZY(h:JB j):KX j=some true:=by
 have hb:=h.bat.2.1;have hk:=h.k;have hw:=h.wr;have hh:=h.held;have hr2:=h.rd2;have hheld:j.aS.length<=2:=by
  match e:j.aS,hh with
  |[],_=>simp
  |[_],_=>simp
  |[_,_],_=>simp
  |x::y::z::r,⟨hm,hn⟩=>
   (simp_all;omega)
 have l4:JV j=some true:=by
  unfold JV;have key:loop (tK j) 0=some (Out.brk ()):=fV (f:=tK j) j.aE.length (λk=>(k:Int)) _ (λk hk=>by
   have hwl:=hw.1;have hx:=hw.2.1 _ (cK hk);simp only[tK,nH];rw[cQ,aT hk,aH,cM,bY hx.1,aH,cZ,aH,cM,bY hx.2,aH,cZ];by_cases k0:(0:Int)<k
   ·have hk1:k-1<j.aE.length:=aa
    have hlt:=List.pairwise_iff_getElem.1 hw.2.2 (k-1) k hk1 hk aa;rw[aM aj,aH,cR (x:=(k:Int)-1),show(k:Int)-1=((k-1:Nat):Int) by omega,aT hk1,aH,dU aa,cZ,cR];rfl
   simp_all[cO]) (by simp[tK])
  rw[key];rfl
 have l3:JW j=some true:=by
  unfold JW;have key:loop (tL j) 0=some (Out.brk ()):=fV (f:=tL j) j.Reads.length (λk=>(k:Int)) _ (λk hk=>by
   simp only[tL];rw[cQ,aT hk,aH,cM,bY (h.reads.1 _ (cK hk)),aH,cZ,cR];rfl) (by simp[tL])
  rw[key];exact l4
 have l2:fN j false=some true:=by
  unfold fN;have key:loop (tM j) 0=some (Out.brk ()):=fV (f:=tM j) j.aS.length (λk=>(k:Int)) _ (λk hk=>by
   simp only[tM,BL];rw[cQ,aT hk,aH,cM,bY (hh.1 _ (cK hk)),aH,cZ,SA,aH,F8,TU,DG (by grind[maxLen]),dU ((J0 _).1 hh.2 k hk),aH,cZ,cR];rfl) (by simp[tM])
  rw[cZ,key];exact l3
 unfold KX;rw[aPG aa,bY h.bat,IX,bY h.h,IX,bY h.prev,cM,bY h.bkt,cM,bY h.at_,cM,bY (show 0<=j.K/\j.K<=100 by omega),aFY h.new.1 h.new.2,aFY h.old.1 h.old.2];simp only[aH,hU,bR,bN];rw[dU (by have:=hw.1;omega)];exact l2
theorem aZZ:pK eV eV=some true:=by
 have c1:tN [] []=some true:=by unfold tN;rw[cZ,bG (r:=Out.brk ()) (by simp[M6])];rfl
 have c2:BM eV eV=some true:=by unfold BM rT;rw[cZ,cZ,bG (r:=Out.brk ()) (by simp[M9,eV]),aH];unfold NA M8;rw[bG (r:=Out.brk ()) (by simp[M7,eV])];rfl
 have c3:EK [] []=some true:=by unfold EK;rw[cZ,bG (r:=Out.brk ()) (by simp[PU])];rfl
 have c4:tO [] []=some true:=by unfold tO;rw[cZ,bG (r:=Out.brk ()) (by simp[R6])];rfl
 have c5:yA eV.Batch eV.Batch=some true:=by unfold yA;rw[aM ae];show(tN [] []).bind _=_;rw[c1];rfl
 unfold pK;rw[c5,c2,show eV.cJ=[] from rfl,show eV.cT=[] from rfl,show eV.aS=[] from rfl,show eV.bE=[] from rfl,c3,c4];simp[b9]
theorem aU5(hv:TV t):ON t=some true:=by
 have h2:=hv.bk.1;have h3:=hv.J2.1;have ht:=hv.todo;have hs:=hv.ser;have l3:MN t=some true:=by
  unfold MN;have key:loop (wK t) 0=some (Out.brk ()):=fV (f:=wK t) 3 (λk=>(k:Int)) _ (λk hk=>by
   have hkl:k<t.aK.length:=aa
   simp only[wK,mI];rw[cQ,aT hkl];simp only[aH];rcases hv.J2.2 _ (cK hkl) with e|hj
   ·rw[e];have:=aZZ;simp only[show eV.kN=false from rfl,I0,bR,bN,bV];rw[show(pK eV ⟨false,⟨false,[]⟩,0,0,0,0,0,0,0,0,⟨0,0,0⟩,false,0,⟨0,0,0,0,0,0,0,0,0,false⟩,[],[],[],[],[],[]⟩)=some true from this];simp only[aH,hU,bR,bN];grind[cO]
   ·have hb:=hj.busy;simp only[hb,bV,hU,bR,bN,aZY hj,aH];grind[cO]) (by simp[wK])
  rw[key];rfl
 have l2:j8 t false=some true:=by
  unfold j8;have key:loop (wL t) 0=some (Out.brk ()):=fV (f:=wL t) 2 (λk=>(k:Int)) _ (λk hk=>by
   have hkl:k<t.aR.length:=aa
   simp only[wL];rw[cQ,aT hkl,aH,aZX (hv.bk.2 _ (cK hkl)),aH,cZ,cR];rfl) (by simp[wL])
  rw[cZ,key];exact l3
 unfold ON;rw[aOS hv.base.small.fits,bY hv.base,aH,cZ,rK,rK,aPH (by have:=ht.1;omega) (λq hq b hb=>by have:=((ht.2 q hq).2 b hb).2.1;omega),bY ht,aH,cZ,cM,bY hs,aH];exact l2
def vI(p:Int):Prop:=(7<=p/\p<=14)\/p=16
structure LkJ (k:List bZ) (w:Int) (j:aG):Prop where
 iff:∀b,0<=b/\b<=1->(b∈j.aS↔(iT k b).eA=w+1)
 pc:j.aS≠[]->vI j.Pc
def aZ0(k k':List bZ)(w:Int):Prop:=∀b,0<=b/\b<=1->(iT k' b).eA=(iT k b).eA\/((iT k b).eA=0/\(iT k' b).eA=w+1)\/((iT k b).eA=w+1/\(iT k' b).eA=0)
theorem aAS{i b:Int}{y:bZ}(h2:k.length=2)(hi:0<=i/\i<=1)(hb:0<=b/\b<=1):iT (k.set i.toNat y) b=if b=i then y else iT k b:=by unfold iT;grind
def LkR(k:List bZ)(w:Int)(r:TR):Prop:=LkJ r.k w r.j/\aZ0 k r.k w
section
variable {k:List bZ} {w:Int} {j:aG} (h:LkJ k w j)
include h
theorem LkJ.same{j':aG}(e:j'.aS=j.aS)(hp:j.aS≠[]->vI j'.Pc):LkJ k w j':=⟨λb hb=>by rw[e];exact h.iff b hb,λq=>hp aj⟩
theorem LkJ.none(hp:¬vI j.Pc):j.aS=[]:=Classical.byContradiction λq=>hp (h.pc q)
end
theorem g8(k:List bZ)(w:Int):aZ0 k k w:=λ_ _=>.inl rfl
theorem aXH(j:aG)(x:aQ):(yH j x).2.aS=j.aS:=by grind[yH,OY]
theorem aXI(j:aG)(c:kG)(v:Int)(is:Bool):(aBF j c v is).aS=j.aS:=by
 unfold aBF;split
 ·generalize (if is then v else 0)=u;unfold aW6;have h:=aXH j ⟨c.Key,false,aBE u c.eN⟩;split
  ·exact h
  ·exact h
 ·rfl
theorem a8G(j:aG):(aKS j).aS=j.aS:=by grind[aKS,aXH,aXI]
theorem a3T(b:aA)(k:List bZ)(w:Int)(j:aG):(X3 b k w j).aS=j.aS:=by
 unfold X3;split
 ·split<;>rfl
 ·split
  ·rfl
  ·split
   ·split
    ·rfl
    ·split<;>rfl
   ·split
    ·rfl
    ·split
     ·rfl
     ·split
      ·grind[aXI]
      ·rfl
theorem a8H(b:aA)(w:Int)(j:aG):(aPB b w j).2.aS=j.aS:=by
 unfold aPB;split
 ·rfl
 ·simp only;split
  ·rfl
  ·split<;>rfl
theorem bBM(j:aG)(x:aQ):(plF j x).aS=j.aS/\((plF j x).Pc=9\/(plF j x).Pc=12):=by grind[plF]
theorem a8I(j:aG):(ZZ j).aS=j.aS:=by grind[ZZ]
theorem aXJ(j:aG):(aKT j).aS=j.aS:=by grind[aKT]
theorem a8J(b:aA)(w:Int)(j:aG):(aKU b w j).2.aS=j.aS:=by grind[aKU,aXJ]
theorem a8K(b:aA)(w:Int)(j:aG):(aKV b w j).2.aS=j.aS:=by grind[aKV]
theorem a8L(b:aA)(w:Int)(j:aG):(aDG b w j).2.aS=j.aS:=by grind[aDG]
theorem bBN(b:aA)(h2:k.length=2)(hj:JB j)(h:LkJ k w j)(hpc:9<=j.Pc/\j.Pc<=13):LkJ (QP b k j).2.1 w (QP b k j).2.2/\aZ0 k (QP b k j).2.1 w:=by
 have p14:vI 14:=.inl aa;have pl:∀(j':aG) (x:aQ),j'.aS=j.aS->LkJ k w (plF j' x):=λj' x e=>by obtain⟨e1,e2⟩:=bBM j' x;exact h.same (e1.trans e) λ_=>by rcases e2 with e2|e2<;>rw[e2]<;>exact .inl aa
 have head:∀{i:Int} {x:Int} {j':aG},0<=i/\i<=1->LkJ k w j'->LkJ (k.set i.toNat {iT k i with Head:=x}) w j'/\aZ0 k (k.set i.toNat {iT k i with Head:=x}) w:=λ{i x j'} hi hj'=>by
  have e:∀b,0<=b/\b<=1->(iT (k.set i.toNat {iT k i with Head:=x}) b).eA=(iT k b).eA:=λb hb=>by grind[aAS]
  exact⟨⟨λb hb=>by rw[e b hb];exact hj'.iff b hb,hj'.pc⟩,λb hb=>.inl (e b hb)⟩
 unfold QP;by_cases c1:(j.aE.length:Int)<=j.K
 ·rw[aM c1];exact⟨h.same rfl λ_=>p14,g8 _ _⟩
 rw[aO c1];have hk:=hj.k;have hi:j.K.toNat<j.aE.length:=aa
 have er:QO j=j.aE[j.K.toNat]:=by grind[QO]
 have hx:=hj.wr.2.1 j.aE[j.K.toNat] (cK hi);rw[<-er] at hx;have hbk:0<=rJ (QO j).Key/\rJ (QO j).Key<=1:=by unfold rJ;omega
 by_cases c2:j.Pc=9
 ·rw[aM c2];refine⟨?_,g8 _ _⟩;simp only;split
  ·grind
  ·exact h.same rfl λ_=>.inl ae
 rw[aO c2];by_cases c3:j.Pc=10
 ·rw[aM c3];refine⟨?_,g8 _ _⟩;simp only;split
  ·exact h.same rfl λ_=>.inl ae
  ·split
   ·grind
   ·exact h.same rfl λq=>h.pc q
 rw[aO c3];by_cases c4:j.Pc=11
 ·rw[aM c4];grind[a8I,g8]
 rw[aO c4];split
 ·exact⟨h.same rfl λ_=>.inr rfl,g8 _ _⟩
 ·split
  ·exact⟨h.same rfl λ_=>.inl ae,g8 _ _⟩
  ·exact head hbk (h.same rfl λ_=>.inl ae)
theorem bBO(h2:k.length=2)(hw:0<=w)(hj:JB j)(h:LkJ k w j)(hpc:j.Pc=7):LkJ (ZY k w j).1 w (ZY k w j).2.1/\aZ0 k (ZY k w j).1 w:=by
 have p8:vI 8:=.inl aa;unfold ZY;by_cases c1:j.K<(jS j.aE).length
 ·rw[aM c1];have hk:=hj.k;have hi:j.K.toNat<(jS j.aE).length:=aa
  have er:eP j=(jS j.aE)[j.K.toNat]:=by grind[eP]
  have hbk:0<=eP j/\eP j<=1:=by grind[ZT,cK]
  by_cases c2:(iT k (eP j)).eA≠0\/(j.Reads.any λs=>s.bZ == eP j && s.dZ != (iT k (eP j)).dZ)=true
  ·rw[aM c2];exact⟨h.same rfl λ_=>.inr rfl,g8 _ _⟩
  rw[aO c2];have c0:(iT k (eP j)).eA=0:=Classical.byContradiction λq=>c2 (.inl q);split
  ·exact⟨h.same rfl λ_=>.inr rfl,g8 _ _⟩
  have hnm:eP j∉j.aS:=λq=>by have:=(h.iff _ hbk).1 q;omega
  have hto:aZ0 k (k.set (eP j).toNat {iT k (eP j) with eA:=w+1}) w:=λb hb=>by grind[aAS]
  have hkeep:∀j':aG,j'.aS=j.aS++[eP j]->vI j'.Pc->LkJ (k.set (eP j).toNat {iT k (eP j) with eA:=w+1}) w j':=λj' e hp=>⟨λb hb=>by
   rw[e,iO,List.mem_singleton,aAS h2 hbk hb];split
   ·grind
   ·rename_i q;rw[h.iff b hb];omega,λ_=>hp⟩
  have hh:(YF j).aS=j.aS++[eP j]:=by simp_all[YF]
  split
  ·grind
  ·refine⟨hkeep _ hh ?_,hto⟩;show vI j.Pc;rw[hpc];exact .inl aa
 ·rw[aO c1];exact⟨h.same rfl λ_=>p8,g8 _ _⟩
theorem bBP(h2:k.length=2)(hw:0<=w)(hj:JB j)(h:LkJ k w j)(hpc:j.Pc=14\/j.Pc=16):LkJ (WO k j).1 w (WO k j).2/\aZ0 k (WO k j).1 w:=by
 have hp:vI j.Pc:=by rcases hpc with e|e<;>rw[e];exact .inl aa;exact .inr rfl
 unfold WO;by_cases c1:0<j.aS.length
 ·rw[aM c1];have er:oK j=j.aS[0]:=by grind[oK]
  have hm:oK j∈j.aS:=aj
  have hbk:=hj.held.1 _ hm;have hl:=(h.iff _ hbk).1 hm;obtain⟨y,hy,hy0⟩:∃y:bZ,(if j.Pc=14 then(⟨(iT k (oK j)).Head,if 1000000<(iT k (oK j)).dZ+1 then 1000000 else(iT k (oK j)).dZ+1,0⟩:bZ) else {iT k (oK j) with eA:=0})=y/\y.eA=0:=aj
  simp only;rw[hy];have hd:j.aS=oK j::j.aS.drop 1:=by rw[er];exact(FE (i:=0) c1)
  have hn:=hj.held.2;rw[hd,List.nodup_cons] at hn;refine⟨⟨λb hb=>?_,λ_=>hp⟩,λb hb=>?_⟩
  ·show b∈j.aS.drop 1↔_;rw[aAS h2 hbk hb];split
   ·grind
   ·rename_i e;have:=h.iff b hb;grind
  grind[aAS]
 ·rw[aO c1];have hnil:j.aS=[]:=xL aa;split
  ·exact⟨h.same rfl λq=>absurd hnil q,g8 _ _⟩
  ·exact⟨h.same (aXJ {j with Pc:=15,K:=0}) λq=>absurd hnil q,g8 _ _⟩
theorem bFC{b:aA}(h2:k.length=2)(hw:0<=w/\w<=2)(hj:JB j)(h:LkJ k w j):LkR k w (doF b k w j):=by
 have nh:∀{p:Int},¬vI p->j.Pc=p->j.aS=[]:=λhp e=>h.none aj;have no:∀{j':aG},j'.aS=j.aS->j.aS=[]->LkJ k w j':=λe e0=>h.same e λq=>absurd e0 q;have out:∀{p:Int},j.Pc=p->¬vI p->j.aS=[]:=λe hp=>nh hp e;unfold doF;refine hY (P:=LkR k w) (λp=>⟨no (a8L b w j) (h.none (by grind[vI])),g8 _ _⟩) λ_=>hY (P:=LkR k w) (λp=>⟨no (a8G j) (h.none (by grind[vI])),g8 _ _⟩) λ_=>
  hY (P:=LkR k w) (λp=>⟨no (a3T b k w j) (h.none (by grind[vI])),g8 _ _⟩) λ_=>hY (P:=LkR k w) (λp=>⟨no (a8H b w j) (h.none (by grind[vI])),g8 _ _⟩) λ_=>
  hY (P:=LkR k w) (λp=>bBO h2 hw.1 hj h p) λ_=>hY (P:=LkR k w) (λp=>⟨?_,g8 _ _⟩) λ_=>
  hY (P:=LkR k w) (λp=>bBN b h2 hj h p) λ_=>hY (P:=LkR k w) (λp=>bBP h2 hw.1 hj h p) λ_=>
  hY (P:=LkR k w) (λp=>⟨no (a8J b w j) (h.none (by grind[vI])),g8 _ _⟩) λ_=>hY (P:=LkR k w) (λp=>⟨no (a8K b w j) (h.none (by grind[vI])),g8 _ _⟩) λ_=>
  hY (P:=LkR k w) (λp=>⟨no rfl (h.none (by grind[vI])),g8 _ _⟩) λ_=>hY (P:=LkR k w) (λp=>⟨no (j':=eV) (h.none (by grind[vI])).symm (h.none (by grind[vI])),g8 _ _⟩) λ_=>⟨h.same rfl λ_=>.inr rfl,g8 _ _⟩
 show LkJ k w (aHN k w j);unfold aHN;split
 ·exact h.same rfl λ_=>.inl ae
 ·split
  ·exact h.same rfl λ_=>.inr rfl
  ·exact h.same rfl λq=>h.pc q
def aIH(t:Table):Prop:=∀w,0<=w/\w<=2->LkJ t.aR w (dP t w)
theorem U9{l:List aG}{v:Int}{x:aG}(h3:t.aK.length=3)(hl:l=t.aK.set w.toNat x)(hw:0<=w/\w<=2)(hv:0<=v/\v<=2):l.getD v.toNat eV=if v=w then x else dP t v:=by subst hl;unfold dP;grind
theorem aIH.step(hv:TV t)(hw:0<=w/\w<=2)(h:aIH t):aIH (tZ t w):=by
 have h3:=hv.J2.1;have hjv:=hv.J2.2 _ (SH h3 hw);unfold tZ;split
 ·rename_i hbusy;have hj:JB (dP t w):=hjv.resolve_left λe=>by rw[e] at hbusy;cases hbusy
  obtain⟨g1,g2⟩:=bFC (b:=t.aA) hv.bk.1 hw hj (h w hw);intro v hv';have ej:dP (WQ t w (doF t.aA t.aR w (dP t w))) v=if v=w then(doF t.aA t.aR w (dP t w)).j else dP t v:=U9 h3 rfl hw hv';rw[ej];show LkJ (doF t.aA t.aR w (dP t w)).k v _;split
  ·rename_i e;rw[e];exact g1
  ·rename_i e;refine⟨λb hb=>?_,(h v hv').pc⟩;rw[(h v hv').iff b hb];rcases g2 b hb with q|⟨q1,q2⟩|⟨q1,q2⟩
   ·rw[q]
   ·rw[q1,q2];omega
   ·rw[q1,q2];omega
 ·rename_i hbusy;split
  ·exact h
  ·intro v hv';generalize (IZ t w).getD 0 ⟨false,[]⟩=b;have ej:dP (aU1 t w b) v=if v=w then JD b (t.aI+1) else dP t v:=U9 h3 rfl hw hv';rw[ej];show LkJ t.aR v _;split
   ·rename_i e;subst e;have hn:(dP t v).aS=[]:=by
     rcases hjv with e|hj
     ·rw[e];rfl
     ·exact absurd hj.busy hbusy
    exact(h v hv').same hn.symm λq=>absurd hn q
   ·exact h v hv'
theorem aIH.zero(l:List aN):aIH (oY l):=λw hw=>by
 have e:dP (oY l) w=eV:=by
  have:w=0\/w=1\/w=2:=aa
  rcases this with rfl|rfl|rfl<;>rfl
 rw[e];refine⟨λb hb=>?_,λq=>absurd rfl q⟩;have eb:(iT (oY l).aR b).eA=0:=by
  have:b=0\/b=1:=aa
  rcases this with rfl|rfl<;>rfl
 rw[eb];exact⟨λq=>(by cases q),λq=>aa⟩
def aPM:List Int->Int->List Int
 |[],x=>[x]
 |a::t,x=>if a=x then a::t else if x<a then x::a::t else a::aPM t x
theorem aXK{x:Int}:∀{l:List Int},l.Pairwise (· < ·)->x∈l->aPM l x=l
 |[],_,h=>by cases h
 |a::t,hp,h=>by
  have h':=aZ7.1 hp;unfold aPM;split
  ·rfl
  ·rename_i ne;have ht:x∈t:=aj
   have:=h'.1 x ht;rw[xK,aXK h'.2 ht]
section
variable {l:List Int} (hl:l.length<=1000) {x:Int}
include hl
theorem aXL:∀d k:Nat,k+d=l.length->(∀y∈l.drop k,y≠x)->∀out:List Int,out.length<=100000+k->loop (jV l x) (out,true,(k:Int))=some (Out.brk (out++l.drop k,true))
 |0,k,hk,_,out,_=>by simp_all[bG,jV]
 |d + 1,k,hk,hy,out,ho=>by
  have hkl:k<l.length:=aa
  have hd:l.drop k=l[k]::l.drop (k+1):=FE hkl;have ne:(l[k] == x)=false:=aj
  rw[bW (s':=(out++[l[k]],true,((k+1:Nat):Int))) (by
   simp only[jV,sJ,sI];rw[cQ,aT hkl,aH,ne];simp only[bR,bN,hU,aH];grind[cE,cO]),aXL d (k+1) aa (λy h=>hy y aj) (out++[l[k]]) ah,hd,NG]
  rfl
theorem aXM:∀d k:Nat,k+d=l.length->(l.drop k).Pairwise (· < ·)->∀out:List Int,out.length<=50000+k->((loop (jV l x) (out,false,(k:Int))).bind λo=>yZ x o)=some (if x∈l.drop k then l else out++aPM (l.drop k) x)
 |0,k,hk,_,out,ho=>by rw[bG (r:=Out.brk (out,false)) (by simp_all[jV]),aH];simp only[yZ,PA,yY];rw[List.drop_of_length_le aa,aM ae,DE,cZ];rfl
 |d + 1,k,hk,hp,out,ho=>by
  have hkl:k<l.length:=aa
  have hd:l.drop k=l[k]::l.drop (k+1):=FE hkl;have hp':=hp;rw[hd] at hp';obtain⟨h1,h2⟩:=aZ7.1 hp';by_cases e:l[k]=x
  ·simp_all[bG,jV,aT,yZ]
  have ne:(l[k] == x)=false:=aj
  by_cases g:x<l[k]
  ·have hx:∀y∈l.drop (k+1),y≠x:=λy hy=>aj
   rw[bW (s':=(out++[x]++[l[k]],true,((k+1:Nat):Int))) (by
    simp only[jV,sJ,sI];rw[cQ,aT hkl,aH,ne,bY g];simp only[bR,bN,I0,bV,aH];grind[cE,cO]),aXL hl d (k+1) aa hx _ ah,aH]
   simp only[yZ,PA,yY,hU,bR,bN];rw[aO aj,hd];unfold aPM;grind
  ·rw[bW (s':=(out++[l[k]],false,((k+1:Nat):Int))) (by
    simp only[jV,sJ,sI];rw[cQ,aT hkl,aH,ne,dU g];simp only[bR,bN,I0,bV,aH];grind[cE,cO]),aXM d (k+1) aa h2 (out++[l[k]]) ah,hd]
   have eI:aPM (l[k]::l.drop (k+1)) x=l[k]::aPM (l.drop (k+1)) x:=by
    conv=>lhs;unfold aPM
    grind
   grind
theorem put_eq(hp:l.Pairwise (· < ·)):RI l x=some (aPM l x):=by have:=aXM hl (x:=x) l.length 0 aa aj [] ae;simp_all[RI,aXK]
end
theorem aS1{ρ:Type}{f:Int->Option (Step Int ρ)}(l:List O)(p:O->Bool)(g:O->ρ)(no:ρ)(h1:∀k (h:k<l.length),p l[k]=false->f (k:Int)=some (.next ((k+1:Nat):Int)))(h2:∀k (h:k<l.length),p l[k]=true->f (k:Int)=some (.stop (g l[k])))(h3:f (l.length:Int)=some (.stop no)) :
    loop f 0=some (match l.find? p with|some x=>g x|none=>no):=by
  have key:∀d k:Nat,k+d=l.length->loop f (k:Int)=some (match (l.drop k).find? p with|some x=>g x|none=>no):=by
    intro d;induction d with
    | zero => intro k hk; obtain rfl : k = l.length := by omega
              rw[bG h3,List.drop_length];rfl
    |succ d ih=>
      intro k hk;have hkl:k<l.length:=aa
      rw[FE hkl];cases hp:p l[k]
      · rw[bW (h1 k hkl hp),ih (k+1) aa,List.find?_cons_of_neg (by simp[hp])]
      · rw[bG (h2 k hkl hp),List.find?_cons_of_pos hp]
  exact key l.length 0 aa
theorem aXN(hl:l.length<=1000)(k:Int):NQ l k=some (YE l k):=by
 have key:=aS1 (f:=vQ l k) l (λy=>y.Key == k) (λx=>(Out.ret (x,true):Out Unit (aQ×Bool))) (Out.brk ()) (λi h hp=>by
  simp only[vQ];rw[cQ,aT h,aH,hp,cZ,cR];rfl) (λi h hp=>by
  simp only[vQ];rw[cQ,aT h,aH,aM hp,aH]) (by simp[vQ])
 unfold NQ YE;rw[key];cases l.find? (λy=>y.Key == k)<;>rfl
theorem aXO{l:List Seen}(hl:l.length<=1000)(b v:Int):NS l b v=some (DI l b v):=by
 have key:=aS1 (f:=vR l b v) l (λy=>y.bZ == b) (λx=>(Out.ret (l,x.dZ == v):Out Unit (List Seen×Bool))) (Out.brk ()) (λi h hp=>by
  simp only[vR];rw[cQ,aT h,aH,hp,cZ,cR];rfl) (λi h hp=>by
  simp only[vR];rw[cQ,aT h,aH,aM hp,aH];rfl) (by simp[vR])
 unfold NS DI;rw[DE,key];cases l.find? (λy=>y.bZ == b)
 ·simp only[aH,W6,W5,aRY];rw[DE]
 ·rfl
theorem a3U(hl:l.length<=1000)(x:aQ):∀d k:Nat,k+d=l.length->∀(out:List aQ) (b:Bool),out.length+(if b then 0 else 1)<=k+1 ->
  (loop (nB l x) (out,b,(k:Int))).bind (A4 x)=some (out++if b then(l.drop k).filter (λy=>!(y.Key == x.Key)) else((l.drop k).filter λy=>!(y.Key == x.Key)).takeWhile (λy=>!decide (x.Key<y.Key))++[x]++((l.drop k).filter λy=>!(y.Key == x.Key)).dropWhile (λy=>!decide (x.Key<y.Key))):=by
 intro d;induction d with
 |zero=>
  intro k hk out b ho;obtain rfl:k=l.length:=aa
  rw[bG (show nB l x (out,b,(l.length:Int))=some (.stop (out,b)) by simp[nB]),List.drop_length];cases b
  ·simp only[aH,A4,JL,sH,I0,bV];rw[DE];simp
  ·simp[A4,JL,sH]
 |succ d ih=>
  intro k hk out b ho;have hkl:k<l.length:=aa
  have ho':out.length<=k+1:=aa
  have hn:bA ((k:Int)+1)=((k+1:Nat):Int):=cR;rw[FE hkl];generalize hy:l[k]=y;have step:nB l x (out,b,(k:Int))=some (.next (if y.Key=x.Key then(out,b,((k+1:Nat):Int)) else if b then(out++[y],true,((k+1:Nat):Int)) else if x.Key<y.Key then(out++[x]++[y],true,((k+1:Nat):Int)) else(out++[y],false,((k+1:Nat):Int)))):=by
   simp only[nB,A1,A2,A3];rw[cQ,aT hkl];simp only[aH,hy,hn];by_cases e:y.Key=x.Key
   ·simp[e]
   ·rw[aO (by simpa using e),aO e];cases b
    ·simp only[I0,bV,bR,bN];by_cases lt:x.Key<y.Key
     ·rw[aM (by simpa using lt),DE,DE,aM lt]
     ·rw[aO (by simpa using lt),DE,aO lt]
    ·simp only[hU,bR,bN,bV];rw[DE]
  rw[bW step];by_cases e:y.Key=x.Key
  ·rw[aM e,ih (k+1) aa _ _ aj,List.filter_cons_of_neg (by simp[e])]
  ·rw[aO e,List.filter_cons_of_pos (by simpa using e)];cases b
   ·by_cases lt:x.Key<y.Key
    ·rw[cZ,aM lt,ih (k+1) aa _ _ aj];simp[List.takeWhile_cons,List.dropWhile_cons,lt]
    ·rw[cZ,aO lt,ih (k+1) aa _ _ aj];simp[List.takeWhile_cons,List.dropWhile_cons,lt]
   ·rw[aM rfl,ih (k+1) aa _ _ aj];simp
theorem aU6(hl:l.length<=1000)(x:aQ):KD l x=some (aCE l x):=by unfold KD aCE;rw[show(([]:List aQ),false,(0:Int))=(([]:List aQ),false,((0:Nat):Int)) from rfl,a3U hl x l.length 0 aa [] false ae];simp
theorem aAT(k:Int):ET k=some (rJ k):=by unfold ET rJ;rw[cM,aH];grind
theorem bFD(a b:Bool)(c:Int)(hc:c=0\/c=1):aPM ((if a then [0] else [])++(if b then [1] else [])) c=(if a || c == 0 then [0] else [])++(if b || c == 1 then [1] else []):=by rcases hc with rfl|rfl<;>cases a<;>cases b<;>rfl
theorem aXP(hl:l.length<=12)(hk:∀x∈l,0<=x.Key/\x.Key<=99):NV l=some (jS l):=by
 have key:loop (vT l) (([]:List Int),0)=some (jS l):=by
  have:=fV (f:=vT l) l.length (λk=>(jS (l.take k),(k:Int))) (jS l) (λk hkl=>by
   have ky:=hk l[k] (cK hkl);have hs:(jS (l.take k)).Pairwise (· < ·):=by unfold jS;split<;>split<;>simp
   have hln:=aUO (l.take k);have e:jS (l.take (k+1))=aPM (jS (l.take k)) (l[k].Key % 2):=by unfold jS;rw[bFD _ _ _ aa,O0 hkl,List.any_append,List.any_append];simp only[List.any_cons,List.any_nil,Bool.or_false]
   simp only[vT,DU];rw[cQ,aT hkl,aH,aAT,aH,show rJ l[k].Key=l[k].Key % 2 by grind[rJ],cQ,aH,aAT,aH,show rJ l[k].Key=l[k].Key % 2 by grind[rJ],put_eq aa hs,aH,e,cR];rfl) (by
   simp[vT])
  exact this
 unfold NV;rw[key];rfl
theorem aPN(hm:oP m)(x:Int):∃a c,A5 m x=some (a,c)/\(if kX x/\0<=cC m.Heap (x % 32)/\10<=kZ (cC m.Heap (x % 32)) then a=(J1 m.Heap (x % 32):Int)/\c=0 else c≠0):=by
 have hs:=hm.1.1.1;unfold A5;rw[fO,aH];by_cases hh:kX x
 ·rw[bY hh,cZ,eF,aM hh,aH,mL hs,aH];unfold DS;by_cases hc:cC m.Heap (x % 32)<0
  ·rw[bY hc,aM rfl];exact⟨_,_,rfl,by rw[xK];decide⟩
  ·rw[dU hc,cZ,eF,aM hh,aH,mL hs,aH,P7,aH];by_cases h10:10<=kZ (cC m.Heap (x % 32))
   ·rw[rK,aH,(start_eq hs aa).1,aH];refine⟨_,_,rfl,?_⟩;rw[aM ⟨hh,aa,h10⟩];have:=(IW (h:=m.Heap) (s:=x % 32) aa);grind[J1]
   ·rw[cQ];exact⟨_,_,rfl,by rw[xK];decide⟩
 ·rw[dU hh,aM ak];exact⟨_,_,rfl,by rw[aO (λq=>hh q.1)];decide⟩
theorem a11(hm:oP m)(x:Int):LD m x=some (TP m.Heap x):=by
 have hs:=hm.1.1.1;obtain⟨a,c,e,h⟩:=aPN hm x;unfold LD TP;rw[e,aH];by_cases q:kX x/\0<=cC m.Heap (x % 32)/\10<=kZ (cC m.Heap (x % 32))
 ·rw[aM q] at h;obtain⟨rfl,rfl⟩:=h;have hr:=(WN q.2.1 q.2.2).1;have h1:=hs.1;rw[cZ,aM q];unfold VO bBD;rw[show(2:Int)=((2:Nat):Int) from rfl,show(4:Int)=((4:Nat):Int) from rfl,AN hs.2.2.1 aa aa aa,aH,
   cR,show(J1 m.Heap (x % 32):Int)+((2:Nat):Int)=((J1 m.Heap (x % 32)+2:Nat):Int) by omega,AN hs.2.2.1 aa aa aa,aH,
   cR,show(J1 m.Heap (x % 32):Int)+6=((J1 m.Heap (x % 32)+6:Nat):Int) by omega,AN hs.2.2.1 aa aa aa];rfl
 ·rw[aO q] at h;rw[aM (by simpa using h),aO q];rfl
theorem bBQ{b:List Int}{a:Nat}(h:a+2<=b.length)(hl:b.length<=100000)(hn:0<=n/\n<=65535):iM b (a:Int) 2 n=some (lV b a (aCH n)):=by
 have st:∀(c:List Int) (m:Int) (i:Nat),c.length=b.length->0<=m->m<=4294967295->i<2->mD (a:Int) (c,m,(i:Int))=some (.next (c.set (a+i) (m % 256),m/256,(i:Int)-1)):=λc m i hc h0 h1 hi=>by simp only[mD];rw[aM ae,cR (x:=(a:Int)+i),show(a:Int)+i=((a+i:Nat):Int) by omega,TD,aH,AK h0,aOI h0,cR (x:=m/256),cR (x:=(i:Int)-1),F8]
 unfold iM;rw[show bA (2-1)=((1:Nat):Int) from by grind[cO],bW (st b n 1 rfl hn.1 aa aa),show((1:Nat):Int)-1=((0:Nat):Int) by rfl,
  bW (st _ _ 0 ae aa aa aa),bG (r:=lV b a (aCH n))]
 ·rfl
 ·simp only[mD];rw[cZ];simp only[aCH,lV,TL (show 0<=n/256 by omega),TL hn.1];rw[List.set_comm _ _ aa];rfl
theorem aU7{b:List Int}{a:Nat}(h:a+4<=b.length)(hl:b.length<=100000)(hn:0<=n/\n<=4294967295):iM b (a:Int) 4 n=some (lV b a (FW n)):=by
 rw[aSN h hl hn];have e:n/16777216 % 256=n/16777216:=aa
 simp only[QN,FW,lV,TL (show 0<=n/16777216 by omega),TL (show 0<=n/65536 by omega),TL (show 0<=n/256 by omega),TL hn.1,e]
theorem aHP:∀(s t:List UInt8) (b:List Int) (a:Nat),lV b a (s++t)=lV (lV b a s) (a+s.length) t
 |[],t,b,a=>rfl
 |c::s,t,b,a=>by show lV _ (a+1) (s++t)=lV (lV _ (a+1) s) _ t;rw[aHP s t];congr 1;simp;omega
theorem aZ1(n:eD):RO n=some (decide (aU0 n)):=by grind[RO,aU0,cM,IX,y7]
theorem aXQ(hm:oP m)(x:Int)(n:eD):∃c,N0 m x n=some (aO7 m x n,c):=by
 obtain⟨hcnt,h3,h9,h1,h2,hsm,hcp,hlo,hsG,hsO⟩:=oP.facts hm;have hs:=hm.1.1.1;have hbl:m.Heap.Bytes.length<=maxLen:=by grind[maxLen]
 unfold N0 aO7;rw[SC hsm,aH,K4 hbl aa,bY hm,aH,cZ,aZ1,aH];unfold DY;by_cases hn:aU0 n
 ·rw[bY hn,cZ,pL hs aa aa aa,aH];by_cases hl:oJ m x
  ·obtain⟨a,c,e,h⟩:=aPN hm x;have hcl:=kE hl.2.1;rw[bY hl,cZ,e,aH];by_cases h10:10<=kZ (cC m.Heap (x % 32))
   ·rw[aM ⟨hl.1,hcl,h10⟩] at h;obtain⟨rfl,rfl⟩:=h;have hr:=(WN hcl h10).1;have hnx:=aFU hn.2.2;have hk1:=hn.1.2;have hv1:=hn.2.1.2;rw[cZ,aM ⟨hn,hl,h10⟩];unfold YT;rw[bBQ aa aa ⟨hn.1.1,aa⟩,aH,cR,show(J1 m.Heap (x % 32):Int)+2=((J1 m.Heap (x % 32)+2:Nat):Int) by omega,aU7 (by rw[AP];omega) (by rw[AP];omega) ⟨hn.2.1.1,aa⟩,aH,
     cR,show(J1 m.Heap (x % 32):Int)+6=((J1 m.Heap (x % 32)+6:Nat):Int) by omega,aU7 (by rw[AP,AP];omega) (by rw[AP,AP];omega) ⟨hnx.1,aa⟩,aH,aH]
    exact⟨0,by rw[bE6,aHP,aHP];rfl⟩
   ·rw[aO (λq=>h10 q.2.2)] at h;rw[aM (by simpa using h),aO (λq=>h10 q.2.2)];exact⟨_,rfl⟩
  ·rw[dU hl,aM ak,aO (λq=>hl q.2.1)];exact⟨_,rfl⟩
 ·rw[dU hn,aM ak,aO (λq=>hn q.1)];exact⟨_,rfl⟩
theorem aZ2(hm:oP m)(x y:Int):∃c,RN m x y=some (Gv.aO8 m x y,c):=by
 obtain⟨hcnt,h3,h9,h1,h2,hsm,hcp,hlo,hsG,hsO⟩:=oP.facts hm;have hs:=hm.1.1.1;have hbl:m.Heap.Bytes.length<=maxLen:=by grind[maxLen]
 unfold RN Gv.aO8;rw[SC hsm,aH,K4 hbl aa,bY hm,aH,cZ,IX,aH];unfold GW;by_cases hn:jQ y
 ·rw[bY hn,cZ,pL hs aa aa aa,aH];by_cases hl:oJ m x
  ·obtain⟨a,c,e,h⟩:=aPN hm x;have hcl:=kE hl.2.1;rw[bY hl,cZ,e,aH];by_cases h10:10<=kZ (cC m.Heap (x % 32))
   ·rw[aM ⟨hl.1,hcl,h10⟩] at h;obtain⟨rfl,rfl⟩:=h;have hr:=(WN hcl h10).1;have hnx:=aFU hn;rw[cZ,aM ⟨hn,hl,h10⟩,cR,show(J1 m.Heap (x % 32):Int)+6=((J1 m.Heap (x % 32)+6:Nat):Int) by omega,aU7 aa aa ⟨hnx.1,aa⟩];exact⟨_,rfl⟩
   ·rw[aO (λq=>h10 q.2.2)] at h;rw[aM (by simpa using h),aO (λq=>h10 q.2.2)];exact⟨_,rfl⟩
  ·rw[dU hl,aM ak,aO (λq=>hl q.2.1)];exact⟨_,rfl⟩
 ·rw[dU hn,aM ak,aO (λq=>hn q.1)];exact⟨_,rfl⟩
theorem aXR(hm:oP m)(hw:0<=w/\w<=2)(x:Int):∃c,N2 m w x=some (aW7 m w x,c):=by
 obtain⟨hcnt,h3,h9,h1,h2,hsm,hcp,hlo,hsG,hsO⟩:=oP.facts hm;have hbl:m.Heap.Bytes.length<=maxLen:=by grind[maxLen]
 unfold N2 aW7;rw[SC hsm,aH,K4 hbl aa,bY hm,aH,cZ,cM,bY hw,aH];unfold D0;rw[cZ,pL hm.1.1.1 aa aa aa,aH];by_cases hl:oJ m x
 ·rw[bY hl,cZ,eF,aM hl.1,aH,aFR hm hw hl,aM hl];exact⟨_,rfl⟩
 ·rw[dU hl,aM ak,aO hl];exact⟨_,rfl⟩
theorem aFZ(n:eD):qA n=some (TQ n):=by unfold qA TQ;rw[fO,aH];grind
theorem aXS(hl:l.length<=1000)(hn:0<=n):UJ l n=some (kK l n):=by
 have le:∀k:Nat,0<=kK l k/\kK l k<=k:=λk=>by have:=List.length_filter_le (λx:aQ=>!x.GC) (l.take k);have:=List.length_take_le k l;unfold kK;rw[F8];omega
 have key:loop (GV l n) (0,0)=some (kK l n):=by
  have:=fV (f:=GV l n) (min l.length n.toNat) (λk=>(kK l k,(k:Int))) (kK l n) (λk hk=>by
   have hle:=le k;have hkl:k<l.length:=aa
   have e:kK l ((k+1:Nat):Int)=kK l k+if l[k].GC then 0 else 1:=by unfold kK;rw[F8,F8,O0 hkl,List.filter_append];cases h:l[k].GC<;>simp[h]
   simp only[GV,GU,NU];rw[cQ,bY aa,aM rfl,aT hkl,aH,e,cR (x:=(k:Int)+1),cR (x:=kK l k+1)];grind) (by
   simp only[GV,GU];by_cases g:l.length<=n.toNat
   ·rw[Nat.min_eq_left g,cZ,cZ];unfold kK;rw[F8,aHV (kY _),aHV g]
   ·rw[Nat.min_eq_right aa,cQ,dU aa,cZ];unfold kK;rw[F8])
  exact this
 unfold UJ;rw[key];rfl
theorem bBR{a b:Int}(ha:0<=a/\a<=4294967295)(hb:0<=b/\b<=65535):RH a b=some (aBE a b):=by unfold RH aBE;rw[AK ha.1,AK hb.1,cR (x:=a+b),cR (x:=a % 65536+b % 65536),cR,AK aa,AK aa];congr 1;omega
theorem aS2(hw:j.aE.length<=1000)(x:aQ):CR j x=some (yH j x).2:=by
 unfold CR yH;rw[aU6 hw,aH];by_cases h:6<(aCE j.aE x).length
 ·rw[cQ,aM h];rfl
 ·rw[rK,aO h]
theorem a12(hp:j.Pc≠16)(x:aQ):((yH j x).2.Pc == 16)=!(yH j x).1:=by
 unfold yH;split
 ·rfl
 ·simpa using hp
def a8M(j:aG):Prop:=j.aE.length<=1000/\j.cJ.length<=1000/\(0<=j.At/\j.At<=1000)/\j.Batch.bD.length<=1000/\(∀c∈j.Batch.bD,0<=c.eN/\c.eN<=65535)/\j.Pc≠16
theorem aU8(h:a8M j)(hc:MW j):idx j.Batch.bD j.At=some (eC j)/\0<=(eC j).eN/\(eC j).eN<=65535:=by
 have h1:j.At<j.Batch.bD.length:=hc;have h2:=h.2.2.1;have e:eC j=j.Batch.bD[j.At.toNat]' aa:=by grind[eC]
 rw[gI h2.1 h1,e];exact⟨rfl,h.2.2.2.2.1 _ (cK _)⟩
theorem aPO(h:a8M j)(hc:MW j){v:Int}(hv:0<=v/\v<=4294967295)(is:Bool):yX j is v=some (aBF j (eC j) v is):=by
 obtain⟨e,hcv⟩:=aU8 h hc;obtain⟨s1,s2,s3,s4,s5,s6⟩:=h;have key:∀u,(0<=u/\u<=4294967295)->p5 j is (eC j) u=some (if(eC j).Kind=4 then aW6 j (eC j) u else aHM j is u):=λu hu=>by
  unfold p5;by_cases hk:(eC j).Kind=4
  ·rw[aM (by simpa using hk),aM hk,bBR hu hcv,aH,aS2 s1,aH,a12 s6];obtain⟨e1,e2⟩:=U7 j ⟨(eC j).Key,false,aBE u (eC j).eN⟩;unfold aW6;cases h:(yH j ⟨(eC j).Key,false,aBE u (eC j).eN⟩).1
   ·simp
   ·rw[cZ,aM rfl];unfold pZ aHM;rw[cE (by rw[e1];simp;omega),cR]
  ·rw[aO (by simpa using hk),aO hk];unfold pZ aHM;rw[DE,cR]
 unfold yX aBF;rw[e,aH];cases is
 ·rw[aM ak,key 0 aa];rfl
 ·rw[cZ,key v hv];rfl
theorem bBS(h:∀x∈l,0<=x.eN/\x.eN<=65535)(k:Int):0<=(YE l k).1.eN/\(YE l k).1.eN<=65535:=by
 unfold YE;cases e:l.find? (λy=>y.Key == k)
 ·exact⟨aP3 _,ai⟩
 ·exact h _ (List.mem_of_find?_eq_some e)
theorem aXT(h:a8M j)(hwv:∀x∈j.aE,0<=x.eN/\x.eN<=65535):DR j=some (aKS j):=by
 have hh:=h;obtain⟨s1,s2,s3,s4,s5,s6⟩:=h;unfold DR aKS;by_cases hc:MW j
 ·have hc':j.At<j.Batch.bD.length:=hc;obtain⟨e,hcv⟩:=aU8 hh hc;rw[rK,aM hc,e,aH];have put:(eC j).Kind=2\/(eC j).Kind=3->kP j (eC j) true=some (if(yH j ⟨(eC j).Key,(eC j).Kind == 3,(eC j).eN⟩).1 then {(yH j ⟨(eC j).Key,(eC j).Kind == 3,(eC j).eN⟩).2 with At:=j.At+1,cJ:=j.cJ++[⟨false,0⟩]} else(yH j ⟨(eC j).Key,(eC j).Kind == 3,(eC j).eN⟩).2):=λ_=>by
   unfold kP;rw[aM rfl,aS2 s1,aH,a12 s6];obtain⟨e1,e2⟩:=U7 j ⟨(eC j).Key,(eC j).Kind == 3,(eC j).eN⟩;cases (yH j ⟨(eC j).Key,(eC j).Kind == 3,(eC j).eN⟩).1
   ·simp
   ·rw[cZ,aM rfl,cE (by rw[e1];simp;omega)];simp only[e1,e2];rw[cR]
  by_cases k2:(eC j).Kind=2
  ·have kk:(eC j).Kind=2\/(eC j).Kind=3:=.inl k2;rw[aM (by simpa using k2),put kk,aM kk]
  ·rw[aO (by simpa using k2)];by_cases k3:(eC j).Kind=3
   ·have kk:(eC j).Kind=2\/(eC j).Kind=3:=.inr k3;have e3:((eC j).Kind == 3)=true:=by simpa using k3
    rw[e3] at put ⊢;rw[put kk,aM kk]
   ·rw[show((eC j).Kind == 3)=false by simpa using k3,xK];unfold kP;rw[cZ,aXN s1,aH];have hv:=bBS hwv (eC j).Key;cases (YE j.aE (eC j).Key).2
    ·rw[cZ,cZ,aAT];rfl
    ·rw[aM rfl,aM rfl,aPO hh hc aa];rfl
 ·have hc':¬j.At<j.Batch.bD.length:=hc;rw[cQ,aO hc];rfl
section
variable {t:Table} {w:Int} {j:aG} (h2:t.aR.length=2) (hb:nJ t.aA) (hw:0<=w/\w<=2) (hj:JB j)
include h2 hb hw hj
theorem VA:j.Batch.bD.length<=1000/\j.aE.length<=1000/\j.cJ.length<=1000/\(0<=j.At/\j.At<=1000)/\j.Reads.length<=2:=
 U8 (t:={t with aK:=[j,j,j]}) (w:=0) rfl h2 hb aa hj
theorem a8N(hp:j.Pc≠16):a8M j:=by obtain⟨s1,s2,s3,s4,s5⟩:=VA h2 hb hw hj;exact⟨s2,s3,s4,s1,λc hc=>(hj.bat.2.2.1 c hc).2.2.1,hp⟩
theorem a8O(hp:2<=j.Pc/\j.Pc<=5):NT t w j=some (X3 t.aA t.aR w j):=by
 obtain⟨s1,s2,s3,s4,s5⟩:=VA h2 hb hw hj;have hcs:=a8N h2 hb hw hj aa;have hcr:∀l,a8M {j with Reads:=l}:=λl=>hcs;unfold NT X3;rw[CG h2 hj.bkt,aH,OX hb.1.2.1 hw,aH];by_cases p2:j.Pc=2
 ·rw[aM (by simpa using p2),aM p2];by_cases hl:(iT t.aR j.bZ).eA=0
  ·rw[aO (by simpa using hl),aO (not_not_intro hl)];by_cases hh:(iT t.aR j.bZ).Head=0
   ·rw[aM (by simpa using hh),aM hh];rfl
   ·rw[aO (by simpa using hh),aO hh];rfl
  ·rw[aM (by simpa using hl),aM hl];rfl
 ·rw[aO (by simpa using p2),aO p2];by_cases p3:j.Pc=3
  ·rw[aM (by simpa using p3),aM p3,a11 hb.1.1];rfl
  ·rw[aO (by simpa using p3),aO p3];by_cases p4:j.Pc=4
   ·rw[aM (by simpa using p4),aM p4];have off:pA j true=some (OY j 6):=rfl;have on:pA j false=some (if MW j then {j with Found:=j.Node.Key == (eC j).Key,H:=TQ j.Node,Pc:=if j.Node.Key=(eC j).Key\/TQ j.Node=0 then 5 else 3} else OY j 1):=by
     unfold pA;rw[cZ];by_cases hc:MW j
     ·have hc':j.At<j.Batch.bD.length:=hc;rw[rK,(aU8 hcs hc).1,aH,aM hc];unfold L8 DT mF;rw[aFZ,aH];by_cases hk:j.Node.Key=(eC j).Key
      ·simp[hk]
      ·have e:(j.Node.Key == (eC j).Key)=false:=by simpa using hk
       rw[e];by_cases hs:TQ j.Node=0
       ·simp[hs]
       ·simp[hs,hk]
     ·have hc':¬j.At<j.Batch.bD.length:=hc;rw[cQ,aO hc];rfl
    cases ho:(yE t.aA.aJ w).On
    ·rw[aM ak,off];simp
    ·rw[cZ];cases hm:(yE t.aA.aJ w).iV
     ·rw[on];simp
     ·rw[off];simp
   ·rw[aO (by simpa using p4),aO p4];have bad:vS j true=some (OY j 7):=rfl;by_cases hl:(iT t.aR j.bZ).eA=0
    ·rw[aO (by simpa using hl)];by_cases hv:(iT t.aR j.bZ).dZ=j.dZ
     ·rw[show((iT t.aR j.bZ).dZ != j.dZ)=false by simpa using hv,aO (by simp[hl,hv])];unfold vS;rw[cZ,aXO aa,aH];cases hs:(DI j.Reads j.bZ j.dZ).2
      ·rw[aM ak,aM rfl];rfl
      ·rw[cZ];by_cases hc:MW j
       ·have hc':j.At<j.Batch.bD.length:=hc;rw[rK,cZ,aM hc,aPO (hcr (DI j.Reads j.bZ j.dZ).1) hc hj.node];rfl
       ·have hc':¬j.At<j.Batch.bD.length:=hc;rw[cQ,cZ,aO hc];rfl
     ·rw[show((iT t.aR j.bZ).dZ != j.dZ)=true by simpa using hv,bad,aM (.inr hv)]
    ·rw[aM (by simpa using hl),bad,aM (.inl hl)]
end
section
variable {t:Table} {w:Int} {j:aG} (h2:t.aR.length=2) (hb:nJ t.aA) (hw:0<=w/\w<=2) (hj:JB j)
include h2 hb hw hj
def bT(t:Table)(p:aA×aG):Table×aG:=({t with aA:=p.1},p.2)
theorem aU9:FL t w j=some ({t with aA:=(BZ t.aA w j.Sub).1},{j with Sub:=(BZ t.aA w j.Sub).2},(BZ t.aA w j.Sub).2.jA):=by unfold FL;rw[aUY hb hw];rfl
theorem a3V:KC t w j=some (bT t (aDG t.aA w j)):=by
 unfold KC aDG bT;rw[aU9 h2 hb hw hj,aH];generalize BZ t.aA w j.Sub=r;cases hd:r.2.jA
 ·simp[hd]
 ·simp only[hd,hU,bR,Bool.true_eq_false,bN];by_cases p0:j.Pc=0
  ·rw[aM (by simpa using p0),aM p0];rfl
  ·rw[aO (by simpa using p0),aO p0];by_cases p20:j.Pc=20
   ·rw[aM (by simpa using p20),aM p20];rfl
   ·rw[aO (by simpa using p20),aO p20];rfl
theorem a3W:KE t w j=some (bT t (aPB t.aA w j)):=by
 obtain⟨s1,s2,s3,s4,s5⟩:=VA h2 hb hw hj;have hk:=hj.k;have hn:=hj.new.1;unfold KE aPB bT;rw[aXS s2 aa,aH];by_cases hp:kK j.aE j.aE.length<=j.K
 ·rw[aM (by simpa using hp),aM hp]
 ·rw[aO (by simpa using hp),aO hp,aU9 h2 hb hw hj,aH];generalize BZ t.aA w j.Sub=r;cases hd:r.2.jA
  ·simp[hd]
  ·simp only[hd,hU,bR,Bool.true_eq_false,bN];have bad:∀x:Table,nC t true ⟨r.1,t.aR,t.aK,t.bK,t.Log,t.aI⟩ {j with Sub:=r.2}=some ({t with aA:=r.1},OY {j with Sub:=r.2} r.2.Code):=λ_=>rfl;by_cases hc:r.2.Code=0
   ·rw[aO (by simpa using hc),fO,aH];by_cases hh:kX r.2.Out
    ·rw[bY hh,cZ];by_cases h6:6<=j.cT.length
     ·rw[show decide (6<=(j.cT.length:Int))=true by simp;omega,bad t,aM (.inr (.inr aa))]
     ·rw[show decide (6<=(j.cT.length:Int))=false by simp;omega,aO (by rintro(h|h|h);exact h hc;exact h hh;omega)];unfold nC;rw[cZ,DE,cR (x:=j.K+1)];rfl
    ·rw[dU hh,aM ak,bad t,aM (.inr (.inl hh))]
   ·rw[aM (by simpa using hc),bad t,aM (.inl hc)]
theorem aS3(hl:t.Log.length<=1000000)(k:List bZ)(y:aG):CS {t with aR:=k} w y=some ({t with aR:=k,Log:=t.Log++[⟨2,w,y.aI,0,[],[]⟩]},{y with Pc:=8,K:=0}):=by unfold CS;rw[DE]
def kT(t:Table)(w:Int)(s:Int)(p:List bZ×aG×Bool):Table×aG:=({t with aR:=p.1,Log:=t.Log++if p.2.2 then [⟨2,w,s,0,[],[]⟩] else []},p.2.1)
theorem a8P(hl:t.Log.length<=1000000):NW t w j=some (kT t w j.aI (ZY t.aR w j)):=by
 obtain⟨s1,s2,s3,s4,s5⟩:=VA h2 hb hw hj;have hk:=hj.k;have hwr:=hj.wr;have hln:=aUO j.aE;unfold NW ZY kT;have hw6:=hwr.1;rw[aXP aa (λx hx=>(hwr.2.1 x hx).1),aH];by_cases hp:j.K<(jS j.aE).length
 ·have hki:j.K.toNat<(jS j.aE).length:=aa
  have e:eP j=(jS j.aE)[j.K.toNat]:=by grind[eP]
  have hb01:=ZT (cK hki);rw[<-e] at hb01;rw[rK,aM hp,gI hk.1 hp,aH,<-e,CG h2 aa,aH];by_cases hlk:(iT t.aR (eP j)).eA=0
  ·rw[aO (by simpa using hlk)];have key:loop (pB t j (eP j)) 0=some (if ∀s∈j.Reads,¬((s.bZ == eP j && s.dZ != (iT t.aR (eP j)).dZ)=true) then Out.brk () else Out.ret (t,OY j 7)):=by
    refine kW (f:=pB t j (eP j)) j.Reads (λk=>(k:Int)) (λs=>¬((s.bZ == eP j && s.dZ != (iT t.aR (eP j)).dZ)=true)) _ _ (λk h hp=>?_) (λk h hp=>?_) ?_
    ·simp only[pB,vV];rw[cQ,aT h,aH,CG h2 aa,aH,cR];cases hx:j.Reads[k].bZ == eP j
     ·simp
     ·have hv:(j.Reads[k].dZ != (iT t.aR (eP j)).dZ)=false:=by
       cases q:(j.Reads[k].dZ != (iT t.aR (eP j)).dZ)
       ·rfl
       ·exact absurd (by simp[hx,q]) hp
      simp[hv]
    ·simp only[pB,vV];have hp:=Classical.not_not.1 hp;rw[FX] at hp;rw[cQ,aT h,aH,aM hp.1,CG h2 aa,aH,aM hp.2];rfl
    ·simp[pB]
   rw[key];by_cases ha:(j.Reads.any λs=>s.bZ == eP j && s.dZ != (iT t.aR (eP j)).dZ)=true
   ·rw[aO (λq=>by obtain⟨s,hs,h⟩:=List.any_eq_true.1 ha;exact q s hs h),aM (.inr ha)];simp[L9]
   ·rw[aM (λs hs h=>ha (List.any_eq_true.2 ⟨s,hs,h⟩)),aO (by rintro(h|h);exact h hlk;exact ha h)];simp only[aH,L9];unfold W7;rw[CG h2 aa,aH];by_cases hv:(iT t.aR (eP j)).dZ=1000000
    ·rw[aM (by simpa using hv),aM hv];simp[fP,OY]
    ·have hhl:j.aS.length<=2:=by
      have hd:=hj.held
      match h:j.aS,hd with
      |[],_=>simp
      |[_],_=>simp
      |[_,_],_=>simp
      |x::y::z::r,⟨hm,hn⟩=>(simp_all;omega)
     rw[aO (by simpa using hv),aO hv,DG (xM hhl ai),aH];have fin:∀hd:List Int,vU t w j (jS j.aE) (eP j) (iT t.aR (eP j)) hd=some (if(jS j.aE).length<=j.K+1 then({t with aR:=t.aR.set (eP j).toNat {iT t.aR (eP j) with eA:=w+1},Log:=t.Log++[⟨2,w,j.aI,0,[],[]⟩]},{j with aS:=hd,Pc:=8,K:=0}) else({t with aR:=t.aR.set (eP j).toNat {iT t.aR (eP j) with eA:=w+1}},{j with aS:=hd,K:=j.K+1})):=λhd=>by
      unfold vU;rw[cR (x:=j.K+1),cR (x:=w+1)];by_cases hq:(jS j.aE).length<=j.K+1
      ·rw[cQ,aS3 h2 hb hw hj hl,aM hq];rfl
      ·rw[rK,aO hq]
     by_cases hm:eP j∈j.aS
     ·rw[bY hm,cZ,fin];by_cases hq:(jS j.aE).length<=j.K+1
      ·rw[aM hq,aM hq];simp[YF,hm]
      ·rw[aO hq,aO hq];simp[YF,hm]
     ·rw[dU hm,aM ak,DE,fin];by_cases hq:(jS j.aE).length<=j.K+1
      ·rw[aM hq,aM hq];simp[YF,hm]
      ·rw[aO hq,aO hq];simp[YF,hm]
  ·rw[aM (by simpa using hlk),aM (.inl hlk)];simp[fP,OY]
 ·rw[cQ,aO hp,aS3 h2 hb hw hj hl t.aR j];rfl
theorem a3X:KF t w j=some (aHN t.aR w j):=by
 have hk:=hj.k;unfold KF aHN;by_cases hp:(j.Reads.length:Int)<=j.K
 ·rw[aM (by simpa using hp),aM hp]
 ·have hki:j.K.toNat<j.Reads.length:=aa
  have e:rdN j=j.Reads[j.K.toNat]:=by grind[rdN]
  have hbk:=hj.reads.1 _ (cK hki);rw[<-e] at hbk;rw[aO (by simpa using hp),aO hp,gI hk.1 aa,aH,<-e,CG h2 hbk,aH,cR (x:=w+1)];have bad:kQ j true=some (OY j 7):=rfl;have good:∀v u:Int,kQ j (v != u)=some (if v≠u then OY j 7 else {j with K:=j.K+1}):=λv u=>by
   by_cases q:v=u
   ·rw[show(v != u)=false by simpa using q,aO (by simpa using q)];unfold kQ;rw[cZ,cR]
   ·rw[show(v != u)=true by simpa using q,aM q];rfl
  generalize iT t.aR (rdN j).bZ=b;by_cases hl:b.eA=0
  ·rw[aO (by simpa using hl),good];by_cases q:b.dZ=(rdN j).dZ<;>simp[q,hl]
  ·rw[aM (by simpa using hl)];by_cases hl2:b.eA=w+1
   ·rw[aO (by simpa using hl2),good];by_cases q:b.dZ=(rdN j).dZ<;>simp[q,hl2]
   ·rw[aM (by simpa using hl2),bad,aM (.inl ⟨hl,hl2⟩)]
end
section
variable {t:Table} {w:Int} {j:aG} (h2:t.aR.length=2) (hb:nJ t.aA) (hw:0<=w/\w<=2) (hj:JB j)
include h2 hb hw hj
def wT(t:Table)(p:aA×List bZ×aG):Table×aG:=({t with aA:=p.1,aR:=p.2.1},p.2.2)
def uT(t:Table)(p:List bZ×aG):Table×aG:=({t with aR:=p.1},p.2)
omit h2 hb hw hj in
theorem a3Y{y:aG}(e:idx y.aE y.K=some x)(hk:0<=y.K/\y.K<=100):qW y=some (plF y x):=by
 unfold qW plF;rw[e,aH];cases x.GC
 ·rfl
 ·rw[aM rfl,aM rfl,cR]
theorem aXU(hp:9<=j.Pc/\j.Pc<=13):DZ t j=some (wT t (QP t.aA t.aR j)):=by
 obtain⟨s1,s2,s3,s4,s5⟩:=VA h2 hb hw hj;have hk:=hj.k;have ho:=hj.old.1;have hn:=hj.new.1;unfold DZ QP wT;by_cases hq:(j.aE.length:Int)<=j.K
 ·rw[aM (by simpa using hq),aM hq]
 ·have hki:j.K.toNat<j.aE.length:=aa
  have e:QO j=j.aE[j.K.toNat]:=by grind[QO]
  have hx:=hj.wr.2.1 _ (cK hki);rw[<-e] at hx;have ei:idx j.aE j.K=some (QO j):=by rw[gI hk.1 aa,e]
  have hbi:rJ (QO j).Key=0\/rJ (QO j).Key=1:=by grind[rJ]
  rw[aO (by simpa using hq),aO hq,ei,aH,aAT,aH];generalize hxx:QO j=x at *;generalize hbb:rJ x.Key=bi at *;have ib:idx t.aR bi=some (iT t.aR bi):=CG h2 aa;have pl:∀y:aG,y.aE=j.aE->y.K=j.K->qW y=some (plF y x):=λy h1 h2=>a3Y (by rw[h1,h2];exact ei) aa;by_cases p9:j.Pc=9
  ·rw[aM (by simpa using p9),aM p9,ib,aH];by_cases hh:(iT t.aR bi).Head=0
   ·rw[aM (by simpa using hh),pl {j with H:=(iT t.aR bi).Head,gT:=0} rfl rfl,aM hh];rfl
   ·rw[aO (by simpa using hh),aO hh];rfl
  ·rw[aO (by simpa using p9),aO p9];by_cases p10:j.Pc=10
   ·rw[aM (by simpa using p10),aM p10,a11 hb.1.1,aH];by_cases hky:(TP t.aA.Mem.Heap j.H).Key=x.Key
    ·rw[aM (by simpa using hky),aM hky];rfl
    ·rw[aO (by simpa using hky),aO hky,aFZ,aH];by_cases hs:TQ (TP t.aA.Mem.Heap j.H)=0
     ·rw[aM (by simpa using hs),aM hs,pl {j with Node:=TP t.aA.Mem.Heap j.H} rfl rfl];rfl
     ·rw[aO (by simpa using hs),aO hs];rfl
   ·rw[aO (by simpa using p10),aO p10];by_cases p11:j.Pc=11
    ·rw[aM (by simpa using p11),aM p11];have last:∀v:Table,v.aK=t.aK->v.bK=t.bK->nS t j v=some (v,plF (ZZ j) x):=λv h1 h2=>by
      obtain⟨b,k,js,td,l,s⟩:=v;simp only at h1 h2;subst h1 h2;have l3:∀l1:List Int,nR t j ⟨b,k,t.aK,t.bK,l,s⟩ l1=some (⟨b,k,t.aK,t.bK,l,s⟩,plF {j with bE:=l1} x):=λl1=>by unfold nR;rw[pl {j with bE:=l1} rfl rfl];rfl
      unfold nS uP ZZ;by_cases h6:j.bE.length<6
      ·rw[cQ,fO,aH];by_cases hh:kX j.H
       ·rw[bY hh,aM rfl,DE,aM ⟨hh,h6⟩];exact l3 _
       ·rw[dU hh,cZ,aO (λq=>hh q.1)];exact l3 _
      ·rw[rK,cZ,aO (λq=>h6 q.2)];exact l3 _
     by_cases hpv:j.gT=0
     ·rw[aM (by simpa using hpv),aM hpv,aFZ,aH,ib,aH];exact last {t with aR:=t.aR.set bi.toNat {iT t.aR bi with Head:=TQ j.Node}} rfl rfl
     ·rw[aO (by simpa using hpv),aO hpv,aFZ,aH];obtain⟨c,e⟩:=aZ2 hb.1.1 j.gT (TQ j.Node);rw[e,aH];unfold EV;exact last {t with aA:=⟨_,t.aA.aJ,t.aA.aV,t.aA.jJ⟩} rfl rfl
    ·rw[aO (by simpa using p11),aO p11,aXS s2 hk.1,aH];have hpn:0<=kK j.aE j.K:=by grind[kK]
     by_cases hnl:(j.cT.length:Int)<=kK j.aE j.K
     ·rw[aM (by simpa using hnl),aM hnl];rfl
     ·have hi2:(kK j.aE j.K).toNat<j.cT.length:=aa
      have en:aPC j=j.cT[(kK j.aE j.K).toNat]:=by grind[aPC]
      rw[aO (by simpa using hnl),aO hnl,gI hpn aa,<-en];by_cases p12:j.Pc=12
      ·rw[aM (by simpa using p12),aM p12,aH,ib,aH];obtain⟨c,e⟩:=aXQ hb.1.1 (aPC j) ⟨x.Key,x.eN,(iT t.aR bi).Head⟩;rw[e];rfl
      ·rw[aO (by simpa using p12),aO p12,aH,ib,aH,cR];rfl
theorem aZ3:j.aS.length<=2:=by
 have hd:=hj.held
 match h:j.aS,hd with
 |[],_=>simp
 |[_],_=>simp
 |[_,_],_=>simp
 |x::y::z::r,⟨hm,hn⟩=>(simp_all;omega)
theorem aZ4(hk1:∀x∈t.aR,BkV x):GY t j=some (uT t (WO t.aR j)):=by
 have hd:=hj.held;have hhl:=aZ3 h2 hb hw hj;unfold GY WO uT;by_cases hp:0<j.aS.length
 ·have er:oK j=j.aS[0]:=by grind[oK]
  have hbk:=hd.1 j.aS[0] (cK hp);rw[<-er] at hbk;have hbv:BkV (iT t.aR (oK j)):=by grind[iT]
  have hver:=hbv.2.1;have i0:idx j.aS 0=some (oK j):=by rw[er];exact aT hp
  have is:∀y,idx (t.aR.set (oK j).toNat y) (oK j)=some y:=λy=>Z2 aa;have e1:(j.aS.take j.aS.length).drop (1:Int).toNat=j.aS.drop 1:=ae
  rw[aO (λq=>by have:=eq_of_beq q;omega),aM hp,i0,aH,SA,e1,BQ ah,aH,CG h2 hbk,aH];by_cases p14:j.Pc=14
  ·rw[aM (by simpa using p14),aM p14,is,aH];unfold xP;simp only[aR0];rw[cR]
  ·rw[aO (by simpa using p14),aO p14];rfl
 ·have h0:j.aS.length=0:=aa
  rw[aM (by simp[h0]),aO hp];by_cases p16:j.Pc=16
  ·rw[aM (by simpa using p16),aM p16]
  ·rw[aO (by simpa using p16),aO p16];unfold aKT;by_cases hl:0<j.bE.length
   ·have i0:idx j.bE 0=some (j.bE.getD 0 0):=by grind[aT]
    rw[cQ,i0,aH,cQ];rfl
   ·rw[aO (λq=>by have:=of_decide_eq_true q;omega),aO (show ¬(0:Int)<(j.bE.length:Int) by omega)];rfl
theorem aZ5:GZ t w j=some (bT t (aKU t.aA w j)):=by
 have hk:=hj.k;unfold GZ aKU bT;by_cases hp:(j.bE.length:Int)<=j.K
 ·rw[aM (by simpa using hp),aM hp]
 ·rw[aO (by simpa using hp),aO hp,aU9 h2 hb hw hj,aH];generalize BZ t.aA w j.Sub=r;cases hd:r.2.jA
  ·simp only[hd,bR,bN];rfl
  ·simp only[hd,bV];rw[cR (x:=j.K+1)];unfold aKT;by_cases hl:j.K+1<j.bE.length
   ·have i0:idx j.bE (j.K+1)=some (j.bE.getD (j.K+1).toNat 0):=by rw[gI aa hl,TW,lH aa];rfl
    rw[cQ,i0,aH,cQ];rfl
   ·rw[rK,rK];rfl
theorem a8Q(hp:j.Pc=17):uG t w j=some (bT t (aKV t.aA w j)):=by
 have hn:=hj.new;unfold uG aKV bT;rw[aM (by simpa using hp)];by_cases h0:j.cT.length=0
 ·rw[aM (by simp[h0]),aM h0]
 ·have hp0:0<j.cT.length:=aa
  have er:j.cT.getD 0 0=j.cT[0]:=aj
  have hh:=hn.2 j.cT[0] (cK hp0);rw[<-er] at hh;have i0:idx j.cT 0=some (j.cT.getD 0 0):=by rw[er];exact aT hp0
  have e1:(j.cT.take j.cT.length).drop (1:Int).toNat=j.cT.drop 1:=ae
  rw[aO (λq=>by have:=eq_of_beq q;omega),aO h0,i0,aH];have fin:∀v:Table,v.aK=t.aK->v.bK=t.bK->G3 t j v=some (v,{j with cT:=j.cT.drop 1}):=λv h1 h2=>by obtain⟨b,k,js,td,l,s⟩:=v;simp only at h1 h2;subst h1 h2;unfold G3 G0;rw[SA,e1,BQ ah];rfl
  unfold VQ;rw[eF,aM hh,aH,MT hb.1.2.2.1,aH];by_cases hl:aS t.aA.aV (j.cT.getD 0 0 % 32)
  ·rw[bY hl,aM rfl,aM hl,aH];exact fin {t with aA:=⟨t.aA.Mem,t.aA.aJ,t.aA.aV,t.aA.jJ⟩} rfl rfl
  ·rw[dU hl,cZ,aO hl];obtain⟨c,e⟩:=aXR hb.1.1 hw (j.cT.getD 0 0);rw[e,aH,aH];exact fin {t with aA:=⟨aW7 t.aA.Mem w (j.cT.getD 0 0),t.aA.aJ,t.aA.aV,t.aA.jJ⟩} rfl rfl
theorem a3Z(hp:j.Pc=18):uG t w j=some ({t with aA:={t.aA with aJ:=(aO2 t.aA.aJ w).1}},{j with Pc:=19}):=by unfold uG;rw[rK,aM (by simpa using hp),aHJ hb.1.2.1 hw];rfl
theorem a8R(hp:j.Pc=19)(hl:t.Log.length<=1000000):uG t w j=some ({t with Log:=t.Log++[tlE w j]},eV):=by
 obtain⟨s1,s2,s3,s4,s5⟩:=VA h2 hb hw hj;unfold uG tlE;rw[rK,rK];have fin:∀r,y9 t w j r=some ({t with Log:=t.Log++[⟨3,w,j.aI,j.Code,[],r⟩]},eV):=λr=>by unfold y9;rw[DE];rfl
 by_cases hc:j.Code=0
 ·rw[aM (by simpa using hc)];unfold y8;rw[DE,aH,fin,aM hc];rfl
 ·rw[aO (by simpa using hc),fin,aO hc]
end
section
variable {t:Table} {w:Int} (h3:t.aK.length=3) (h2:t.aR.length=2) (hb:nJ t.aA) (hw:0<=w/\w<=2)
include h3 h2 hb hw
theorem a30(hq3:t.bK.length=3)(hqv:∀q∈t.bK,q.List.length<=12/\∀b∈q.List,Z0 b)(hs:0<=t.aI/\t.aI<=1000000)(hl:t.Log.length<=1000000) :
  J8 t w=some (if(IZ t w).length=0\/t.aI=1000000 then t else aU1 t w ((IZ t w).getD 0 ⟨false,[]⟩)):=by
 have hqi:w.toNat<t.bK.length:=aa
 have hq:idx t.bK w=some ⟨IZ t w⟩:=by simp_all[gI,IZ]
 have hqm:(⟨IZ t w⟩:aN)∈t.bK:=by unfold IZ;rw[TW,lH hqi];exact cK _
 have hqq:=hqv _ hqm;simp only at hqq;have stop:sB t w true=some t:=rfl;unfold J8;rw[hq,aH];simp only;by_cases h0:(IZ t w).length=0
 ·rw[aM (by simp[h0]),stop,aM (.inl h0)]
 ·rw[aO (λq=>by have:=eq_of_beq q;omega)];by_cases hm:t.aI=1000000
  ·rw[show(t.aI == 1000000)=true by simpa using hm,stop,aM (.inr hm)]
  ·have hp0:0<(IZ t w).length:=aa
   have er:(IZ t w).getD 0 ⟨false,[]⟩=(IZ t w)[0]:=aj
   have hbv:=hqq.2 (IZ t w)[0] (cK hp0);rw[<-er] at hbv;have i0:idx (IZ t w) 0=some ((IZ t w).getD 0 ⟨false,[]⟩):=by rw[er];exact aT hp0
   have e1:((IZ t w).take (IZ t w).length).drop (1:Int).toNat=(IZ t w).drop 1:=ae
   have es:bA (t.aI+1)=t.aI+1:=cR;rw[show(t.aI == 1000000)=false by simpa using hm,aO (λq=>q.elim h0 hm)];unfold sB;rw[cZ,hq,aH];simp only;rw[i0,aH,SA];generalize (IZ t w).getD 0 ⟨false,[]⟩=b at *;have hb6:=hbv.2.1;have cm:pS b.bD=some b.bD:=by unfold pS;rw[DE];rfl
   have fin:∀x:aG,sA t w ⟨IZ t w⟩ b x=some ⟨t.aA,t.aR,t.aK.set w.toNat {x with Reads:=[],aE:=[],cJ:=[],cT:=[],aS:=[],bE:=[]},t.bK.set w.toNat ⟨(IZ t w).drop 1⟩,t.Log++[⟨1,w,t.aI+1,0,b.bD,[]⟩],t.aI+1⟩:=λx=>by unfold sA JG;rw[rU h3 hw,aH,cm,aH,DE,es,e1]
   unfold qU;rw[cm,aH,aH];simp only[m4,aH];unfold JH aU1 JD;simp only[m4,aH];have eb:(⟨b.Collect,b.bD⟩:Batch)=b:=rfl;cases hc:b.Collect
   ·rw[cZ,fin,es,cZ,cZ];rw[hc] at eb;rw[eb];rfl
   ·rw[aM rfl,fin,es,aM rfl,aM rfl];rw[hc] at eb;rw[eb];rfl
end
theorem bFE(hv:TV t)(hl:t.Log.length<=1000000)(hw:0<=w/\w<=2):VR t w=some (tZ t w):=by
 have h3:=hv.J2.1;have h2:=hv.bk.1;have hb:=hv.base;have hjob:=rU h3 hw;have hjv:=hv.J2.2 _ (SH h3 hw);unfold VR tZ;rw[hjob,aH];cases hbusy:(dP t w).kN
 ·rw[aM ak,a30 h3 h2 hb hw hv.todo.1 hv.todo.2 hv.ser hl,aH];rfl
 ·have hj:JB (dP t w):=hjv.resolve_left λe=>by rw[e] at hbusy;cases hbusy
  rw[cZ,aM rfl];generalize dP t w=j at *;have eta:({j with Batch:=⟨j.Batch.Collect,j.Batch.bD⟩,Reads:=j.Reads,aE:=j.aE,cJ:=j.cJ,cT:=j.cT,aS:=j.aS,bE:=j.bE}:aG)=j:=rfl;have p1:∀(v:Table) (y:aG),v.aK=t.aK->v.bK=t.bK->v.aI=t.aI->∀l,v.Log=t.Log++l->gP t w v y=some (WQ t w ⟨v.aA,v.aR,y,l⟩):=λv y e1 e2 e3 l e4=>by obtain⟨b,k,js,td,lg,s⟩:=v;simp only at e1 e2 e3 e4;subst e1 e2 e3 e4;rfl
  have p1n:∀(v:Table) (y:aG),v.aK=t.aK->v.bK=t.bK->v.aI=t.aI->v.Log=t.Log->gP t w v y=some (WQ t w ⟨v.aA,v.aR,y,[]⟩):=λv y e1 e2 e3 e4=>p1 v y e1 e2 e3 [] (by rw[e4,uA]);unfold doF;have go0:qX t w j true j=some (WQ t w ⟨(aDG t.aA w j).1,t.aR,(aDG t.aA w j).2,[]⟩):=by unfold qX;rw[aM rfl,eta,a3V h2 hb hw hj,aH];exact p1n _ _ rfl rfl rfl rfl
  by_cases q0:j.Pc=0\/j.Pc=20\/j.Pc=21
  ·rw[aM q0];rcases q0 with q|q|q
   ·rw[aM (by simpa using q),go0]
   ·rw[aO (by simp[q]),aM (by simpa using q),go0]
   ·rw[aO (by simp[q]),aO (by simp[q]),show(j.Pc == 21)=true by simpa using q,go0]
  rw[rK,rK,show(j.Pc == 21)=false by simp;omega,aO q0];unfold qX;rw[cZ];by_cases q1:j.Pc=1
  ·rw[aM (by simpa using q1),aM q1,eta,aXT (a8N h2 hb hw hj aa) (λx hx=>(hj.wr.2.1 x hx).2),aH];exact p1n t _ rfl rfl rfl rfl
  rw[aO (by simpa using q1),aO q1,eta];have go3:2<=j.Pc/\j.Pc<=5->m6 t w j true j=some (WQ t w ⟨t.aA,t.aR,X3 t.aA t.aR w j,[]⟩):=λh=>by unfold m6;rw[aM rfl,eta,a8O h2 hb hw hj h,aH];exact p1n t _ rfl rfl rfl rfl
  by_cases q2:2<=j.Pc/\j.Pc<=5
  ·rw[aM q2];have:j.Pc=2\/j.Pc=3\/j.Pc=4\/j.Pc=5:=aa
   rcases this with q|q|q|q
   ·rw[aM (by simpa using q),go3 q2]
   ·rw[aO (by simp[q]),aM (by simpa using q),go3 q2]
   ·rw[aO (by simp[q]),aO (by simp[q]),aM (by simpa using q),go3 q2]
   ·rw[aO (by simp[q]),aO (by simp[q]),aO (by simp[q]),show(j.Pc == 5)=true by simpa using q,go3 q2]
  rw[rK,rK,rK,show(j.Pc == 5)=false by simp;omega,aO q2];unfold m6;rw[cZ];by_cases q6:j.Pc=6
  ·rw[aM (by simpa using q6),aM q6,eta,a3W h2 hb hw hj,aH];exact p1n _ _ rfl rfl rfl rfl
  rw[aO (by simpa using q6),aO q6];by_cases q7:j.Pc=7
  ·rw[aM (by simpa using q7),aM q7,eta,a8P h2 hb hw hj hl,aH];exact p1 (kT t w j.aI (ZY t.aR w j)).1 _ rfl rfl rfl _ rfl
  rw[aO (by simpa using q7),aO q7];by_cases q8:j.Pc=8
  ·rw[aM (by simpa using q8),aM q8,eta,a3X h2 hb hw hj,aH];exact p1n t _ rfl rfl rfl rfl
  rw[aO (by simpa using q8),aO q8,eta];have go4:9<=j.Pc/\j.Pc<=13->lA t w j true j=some (WQ t w ⟨(QP t.aA t.aR j).1,(QP t.aA t.aR j).2.1,(QP t.aA t.aR j).2.2,[]⟩):=λh=>by unfold lA;rw[aM rfl,eta,aXU h2 hb hw hj h,aH];exact p1n _ _ rfl rfl rfl rfl
  by_cases q9:9<=j.Pc/\j.Pc<=13
  ·rw[aM q9];have:j.Pc=9\/j.Pc=10\/j.Pc=11\/j.Pc=12\/j.Pc=13:=aa
   rcases this with q|q|q|q|q
   ·rw[aM (by simpa using q),go4 q9]
   ·rw[aO (by simp[q]),aM (by simpa using q),go4 q9]
   ·rw[aO (by simp[q]),aO (by simp[q]),aM (by simpa using q),go4 q9]
   ·rw[aO (by simp[q]),aO (by simp[q]),aO (by simp[q]),aM (by simpa using q),go4 q9]
   ·rw[aO (by simp[q]),aO (by simp[q]),aO (by simp[q]),aO (by simp[q]),show(j.Pc == 13)=true by simpa using q,go4 q9]
  rw[rK,rK,rK,rK,show(j.Pc == 13)=false by simp;omega,aO q9];unfold lA;rw[cZ,eta];have go5:wY t w j true j=some (WQ t w ⟨t.aA,(WO t.aR j).1,(WO t.aR j).2,[]⟩):=by unfold wY;rw[aM rfl,eta,aZ4 h2 hb hw hj hv.bk.2,aH];exact p1n _ _ rfl rfl rfl rfl
  by_cases q14:j.Pc=14\/j.Pc=16
  ·rw[aM q14];rcases q14 with q|q
   ·rw[aM (by simpa using q),go5]
   ·rw[aO (by simp[q]),show(j.Pc == 16)=true by simpa using q,go5]
  rw[rK,show(j.Pc == 16)=false by simp;omega,aO q14];unfold wY;rw[cZ];by_cases q15:j.Pc=15
  ·rw[aM (by simpa using q15),aM q15,eta,aZ5 h2 hb hw hj,aH];exact p1n _ _ rfl rfl rfl rfl
  rw[aO (by simpa using q15),aO q15,eta];by_cases q17:j.Pc=17
  ·rw[aM (by simpa using q17),aM q17];unfold m5;rw[aM rfl,eta,a8Q h2 hb hw hj q17,aH];exact p1n _ _ rfl rfl rfl rfl
  rw[aO (by simpa using q17),aO q17];by_cases q18:j.Pc=18
  ·rw[aM (by simpa using q18),aM q18];unfold m5;rw[aM rfl,eta,a3Z h2 hb hw hj q18,aH];exact p1n _ _ rfl rfl rfl rfl
  rw[aO (by simpa using q18),aO q18];by_cases q19:j.Pc=19
  ·rw[show(j.Pc == 19)=true by simpa using q19,aM q19];unfold m5;rw[aM rfl,eta,a8R h2 hb hw hj q19 hl,aH];exact p1 {t with Log:=t.Log++[tlE w j]} _ rfl rfl rfl _ rfl
  rw[show(j.Pc == 19)=false by simpa using q19,aO q19];unfold m5;rw[cZ,eta];exact p1n t _ rfl rfl rfl rfl
end Go.Gv
end
noncomputable section
set_option maxRecDepth 20000
namespace Go.Gv
variable{t:Table}{j:aG}
def Ev6(e:lG):Prop:=e.bD.length<=6/\e.cJ.length<=6
def a31(t:Table):Prop:=∀e∈t.Log,Ev6 e
theorem bFF{b:aA}{k:List bZ}{w:Int}(hj:JB j):∀e∈(doF b k w j).l,Ev6 e:=by
 have a1:=hj.bat.2.1;have a4:=hj.res;have a5:=hj.at_;have no:∀(x:aA) (y:List bZ) (z:aG),∀e∈(⟨x,y,z,[]⟩:TR).l,Ev6 e:=λ_ _ _ e h=>by cases h
 unfold doF;refine hY (P:=λr=>∀e∈r.l,Ev6 e) (λ_=>no _ _ _) λ_=>hY (P:=λr=>∀e∈r.l,Ev6 e) (λ_=>no _ _ _) λ_=>hY (P:=λr=>∀e∈r.l,Ev6 e) (λ_=>no _ _ _) λ_=>hY (P:=λr=>∀e∈r.l,Ev6 e) (λ_=>no _ _ _) λ_=>hY (P:=λr=>∀e∈r.l,Ev6 e) (λ_=>?_) λ_=>hY (P:=λr=>∀e∈r.l,Ev6 e) (λ_=>no _ _ _) λ_=>hY (P:=λr=>∀e∈r.l,Ev6 e) (λ_=>no _ _ _) λ_=>hY (P:=λr=>∀e∈r.l,Ev6 e) (λ_=>no _ _ _) λ_=>hY (P:=λr=>∀e∈r.l,Ev6 e) (λ_=>no _ _ _) λ_=>hY (P:=λr=>∀e∈r.l,Ev6 e) (λ_=>no _ _ _) λ_=>hY (P:=λr=>∀e∈r.l,Ev6 e) (λ_=>no _ _ _) λ_=>hY (P:=λr=>∀e∈r.l,Ev6 e) (λ_=>?_) λ_=>no _ _ _
 ·intro e he;simp only at he;split at he
  ·rw[List.mem_singleton] at he;subst he;exact⟨ae,ae⟩
  ·cases he
 ·intro e he;rw[List.mem_singleton] at he;subst he;refine⟨by simp[tlE],?_⟩;unfold tlE;show(if _ then _ else _:List cJ).length<=6;split
  ·omega
  ·simp
theorem a8S(t:Table)(w:Int)(hv:TV t)(hw:0<=w/\w<=2)(h:a31 t):a31 (tZ t w):=by
 have hjv:=hv.J2.2 _ (SH hv.J2.1 hw);unfold tZ;split
 ·rename_i hb;have hj:JB (dP t w):=hjv.resolve_left λe=>by rw[e] at hb;cases hb
  intro e he;rcases iO.1 (show e∈t.Log++_ from he) with he|he
  ·exact h e he
  ·exact bFF hj e he
 ·split
  ·exact h
  ·rename_i hq;intro e he;rcases iO.1 (show e∈t.Log++_ from he) with he|he
   ·exact h e he
   ·rw[List.mem_singleton] at he;subst he;have hp0:0<(IZ t w).length:=aa
    have hqi:w.toNat<t.bK.length:=by have:=hv.todo.1;omega
    have hqm:(⟨IZ t w⟩:aN)∈t.bK:=by unfold IZ;rw[TW,lH hqi];exact cK _
    have er:(IZ t w).getD 0 ⟨false,[]⟩=(IZ t w)[0]:=aj
    have hbv:=((hv.todo.2 _ hqm).2 (IZ t w)[0] (cK hp0)).2.1;rw[<-er] at hbv;exact⟨hbv,ae⟩
def bIX(l:List aN):Prop:=l.length<=1000/\(∀q∈l,q.List.length<=1000)/\∀q∈l,∀b∈q.List,b.bD.length<=1000
theorem aS4:∀(l:List Int) (t:Table),(Z5 t l).Log.length<=t.Log.length+l.length
 |[],t=>kY _
 |p::l,t=>by have h1:=aS4 l (X4 t p);have h2:=aHO t p;show(Z5 (X4 t p) l).Log.length<=_;simp only[aDM];omega
section
variable {x:pR}
theorem aPP:∀(d k:Nat) (t:Table),k+d=min x.gN.length 400->TV t->t.Log.length<=k->loop (qD x) ((k:Int),t)=some (Z5 t ((x.gN.take 400).drop k))
 |0,k,t,hk,hv,hl=>by
  rw[List.drop_of_length_le aj];refine bG ?_;simp only[qD,qC];by_cases q:(k:Int)<x.gN.length
  ·rw[aM (by simpa using q),dU aa];rfl
  ·rw[aO (by simpa using q)];rfl
 |d + 1,k,t,hk,hv,hl=>by
  have hkl:k<x.gN.length:=aa
  have hkt:k<(x.gN.take 400).length:=aj
  have hx:(x.gN.take 400)[k]=x.gN[k]:=List.getElem_take;have st:qD x ((k:Int),t)=some (.next (((k+1:Nat):Int),X4 t (x.gN.take 400)[k])):=by
   simp only[qD,qC,xR];rw[cQ,bY aa,aM rfl,aT hkl,aH,cM,aH,hx,cR];unfold X4;by_cases hp:0<=x.gN[k]/\x.gN[k]<=2
   ·rw[bY hp,aM rfl,aH,bFE hv aa hp,aM hp];rfl
   ·rw[dU hp,cZ,aO hp];rfl
  rw[bW st,aPP d (k+1) _ aa (aPL hv _) (by grind[aHO]),FE hkt];rfl
end
theorem a8T(h:j=eV\/JB j):RQ j=some j:=by
 have hl:j.Batch.bD.length<=1000/\j.Reads.length<=1000/\j.aE.length<=1000/\j.cJ.length<=1000/\j.cT.length<=1000/\j.aS.length<=1000/\j.bE.length<=1000:=by
  rcases h with rfl|h
  ·simp[eV]
  ·have a1:=h.bat.2.1;have a2:=h.rd2;have a3:=h.wr.1;have a4:=h.res;have a5:=h.at_;have a6:=h.new.1;have a8:=h.old.1;have a7:j.aS.length<=2:=aZ3 (t:=⟨aSV,List.replicate 2 ⟨0,0,0⟩,[],[],[],0⟩) (w:=0) rfl aPA aa h;omega
 obtain⟨h1,h2,h3,h4,h5,h6,h7⟩:=hl;unfold RQ y8;rw[(aLK aa).1,aH,DE,DE,DE,aH,BQ aa,BQ aa,BQ aa];rfl
theorem a8U{l:List lG}(hl:l.length<=1000000)(h:∀e∈l,Ev6 e):RP l=some l:=by
 unfold RP;rw[U4 l]
 ·rfl
 ·intro k hk;have he:=h _ (cK hk);have c1:=he.1;have c2:=he.2;simp only[PD,pS,y8];rw[cQ,aT hk,aH,DE,aH,DE,aH,DE,cR];rfl
 ·simp[PD]
theorem a8V(hv:TV t)(hl:t.Log.length<=1000000)(h:a31 t):N5 t=some t:=by
 have q3:=hv.todo.1;unfold N5;rw[aUR hv.base.small,aH,cE (by have:=hv.bk.1;simp;omega),(aFV aa (λq hq=>by have:=(hv.todo.2 q hq).1;omega) (λq hq b hb=>by have:=((hv.todo.2 q hq).2 b hb).2.1;omega)).1,aH,a8U hl h,aH];unfold MD;have k2:loop (pH t) (0,(⟨t.aA,t.aR,[],t.bK,t.Log,t.aI⟩:Table))=some t:=by
  have:=fV (f:=pH t) t.aK.length (λk=>((k:Int),(⟨t.aA,t.aR,t.aK.take k,t.bK,t.Log,t.aI⟩:Table))) t (λk hk=>by
   have h3:=hv.J2.1;simp only[pH,MC];rw[cQ,aT hk,aH,a8T (hv.J2.2 _ (cK hk)),aH,DE,cR,O0 hk];rfl) (by simp[pH])
  exact this
 show(loop (pH t) (0,(⟨t.aA,t.aR,[],t.bK,t.Log,t.aI⟩:Table))).bind _=_;rw[k2];rfl
theorem aXV{l:List aN}(ht:Z1 l)(p:List Int):TV (Z5 (oY l) (p.take 400))/\a31 (Z5 (oY l) (p.take 400))/\(Z5 (oY l) (p.take 400)).Log.length<=400:=by
 obtain⟨h1,h2⟩:=aDH (P:=a31) (λt w hv hw h=>a8S t w hv hw h) (p.take 400) (aAR ht) (λe he=>by cases he);have h3:=aS4 (p.take 400) (oY l);have h0:(oY l).Log.length=0:=rfl;have h4:(p.take 400).length<=400:=ah
 exact⟨h1,h2,aa⟩
theorem a8W{x:pR}(hf:bIX x.bK):∃t,zA x=some t/\II x=some t/\(t=aLL\/(TV t/\a31 t/\t.Log.length<=400)):=by
 obtain⟨e1,e2⟩:=Z4 hf.1 hf.2.1 hf.2.2;by_cases ht:Z1 x.bK
 ·obtain⟨o1,o2,o3⟩:=aXV ht x.gN;refine⟨_,?_,aFW hf.1 hf.2.1 hf.2.2 ht,.inr ⟨o1,o2,o3⟩⟩;unfold zA;rw[e1,aM ht,aH,aO (by simp[oY]),show(0:Int)=((0:Nat):Int) from rfl,aPP (min x.gN.length 400) 0 _ aa (aAR ht) (by simp[oY]),aH];simp only[TU,RS,RR];rw[a8V o1 aa o2];rfl
 ·rw[aO ht] at e1 e2;refine⟨aLL,?_,?_,.inl rfl⟩
  ·unfold zA;rw[e1,aH];rfl
  ·unfold II;rw[e2,aH];rfl
theorem bCQ(h:JB j):j.aS.length<=2:=aZ3 (t:=⟨aSV,List.replicate 2 ⟨0,0,0⟩,[],[],[],0⟩) (w:=0) rfl aPA aa h
theorem aRW{l:List aG}(hl:l.length<=1000){f:aG->Bool}{g:aG->Option Bool}(hg:∀x∈l,g x=some (f x)):rD l g=some (l.any f):=
 OZ (f:=rC l g) (m:=C7) aa (λk=>by
  simp only[rC];by_cases h:k<l.length
  ·rw[dif_pos h,cQ,aT h,aH,hg _ (cK h),aH,cR];rfl
  grind) (λ_=>rfl) rfl
theorem aVA{l:List bZ}(hl:l.length<=1000){f:bZ->Bool}{g:bZ->Option Bool}(hg:∀x∈l,g x=some (f x)):tH l g=some (l.any f):=
 OZ (f:=tG l g) (m:=FR) aa (λk=>by
  simp only[tG];by_cases h:k<l.length
  ·rw[dif_pos h,cQ,aT h,aH,hg _ (cK h),aH,cR];rfl
  grind) (λ_=>rfl) rfl
theorem aPQ{l:List Seen}(hl:l.length<=1000){f:Seen->Bool}{g:Seen->Option Bool}(hg:∀x∈l,g x=some (f x)):fZ l g=some (l.any f):=
 OZ (f:=iZ l g) (m:=C2) aa (λk=>by
  simp only[iZ];by_cases h:k<l.length
  ·rw[dif_pos h,cQ,aT h,aH,hg _ (cK h),aH,cR];rfl
  grind) (λ_=>rfl) rfl
theorem aPR(b:Int):JU b=some (decide (0<=b/\b<=1)):=by grind[JU,dO]
theorem aVB{O:Type}{l:List O}{f:O->Bool}(h:∀x∈l,f x=false):l.any f=false:=List.any_eq_false.2 λx hx=>aj
theorem aXW{l:List Int}(hl:l.length<=6)(h:∀x∈l,kX x):wG l=some true:=by unfold wG;rw[cQ,show(λy0=>xY y0)=λy0=>some (!decide (kX y0)) from funext λy=>by grind[xY,g7],IS (by grind[maxLen]),aVB λx hx=>aj];rfl
theorem aXX{l:List aQ}(h:WrV l):KV l=some true:=by
 have h6:=h.1;unfold KV;have key:loop (tI l) 0=some (Out.brk ()):=fV (f:=tI l) l.length (λk=>(k:Int)) _ (λk hk=>by
  have hx:=h.2.1 _ (cK hk);simp only[tI];rw[cQ,aT hk,aH,dO,bY hx.1,aH,cZ,dO,bY hx.2,aH,cZ];by_cases k0:(0:Int)<k
  ·have hk1:k-1<l.length:=aa
   have hlt:=List.pairwise_iff_getElem.1 h.2.2 (k-1) k hk1 hk aa;rw[aM aj,cR (x:=(k:Int)-1),show(k:Int)-1=((k-1:Nat):Int) by omega,aT hk1,aH,dU aa];unfold kU;rw[cZ,cR];rfl
  simp_all[kU,cO]) (by simp[tI])
 grind[UQ,UP]
theorem a8X(h:JB j):zU j=some true:=by
 have hb:=h.bat.2.1;have hk:=h.k;have hh:=h.held;have hheld:=bCQ h;have key:loop (zT j) 0=some (Out.brk ()):=fV (f:=zT j) j.aS.length (λk=>(k:Int)) _ (λk hk=>by
  simp only[zT,IC];rw[cQ,aT hk,aH,aPR,bY (hh.1 _ (cK hk)),aH,cZ,SA,F8,TU,contains_eq (by grind[maxLen]),dU ((J0 _).1 hh.2 k hk),aH,cZ,cR];rfl) (by simp[zT])
 unfold zU;rw[aO (by simp[h.busy]),key];simp only[aH,Y1];unfold Y0;rw[aPJ aa,bY h.bat,IY,bY h.h,IY,bY h.prev,aPR,bY h.bkt,dO,bY h.at_,dO,bY (show 0<=j.K/\j.K<=100 by omega),aXW h.new.1 h.new.2,aXW h.old.1 h.old.2,
  aPQ (f:=λ_=>false) (by have:=h.rd2;omega) (λs hs=>by unfold SW;rw[aPR,bY (h.reads.1 s hs)];rfl),aVB λ_ _=>rfl,aXX h.wr]
 rfl
theorem aZ6:zU eV=some true:=by
 have c1:IB eV.Batch eV.Batch=some true:=by unfold IB;rw[aM ak];unfold JT;rw[cZ,bG (r:=Out.brk ()) (by simp[M3,eV])];rfl
 have c2:xX [] []=some true:=by unfold xX;rw[cZ,bG (r:=Out.brk ()) (by simp[LP])];rfl
 have c3:vF [] []=some true:=by unfold vF;rw[cZ,bG (r:=Out.brk ()) (by simp[JC])];rfl
 have c4:BK [] []=some true:=by unfold BK;rw[cZ,bG (r:=Out.brk ()) (by simp[M4])];rfl
 have c5:nG [] []=some true:=by unfold nG;rw[cZ,bG (r:=Out.brk ()) (by simp[M5])];rfl
 unfold zU;rw[aM ak];show(KU eV eV).bind _=_;unfold KU;rw[c1,show eV.Reads=[] from rfl,show eV.aE=[] from rfl,show eV.cJ=[] from rfl,show eV.cT=[] from rfl,show eV.aS=[] from rfl,show eV.bE=[] from rfl,c2,c3,c4,c5];simp[cG]
theorem a32(hv:TV t):∀j∈t.aK,zU j=some true:=λj hj=>by
 rcases hv.J2.2 j hj with rfl|h
 ·exact aZ6
 ·exact a8X h
theorem aVC(hv:TV t):OL t=some true:=by
 have h2:=hv.bk.1;have h3:=hv.J2.1;have ht:=hv.todo;unfold OL;rw[aOT hv.base.small.fits,bY hv.base,aH,aM rfl,cQ,
  aVA (f:=λ_=>false) aa (λx hx=>by
   have hx:=hv.bk.2 x hx;unfold PO aCU;rw[IY,bY hx.1,aH,aM rfl,dO,bY hx.2.1,aH,aM rfl,dO,bY hx.2.2];rfl),aVB λ_ _=>rfl,aH,aM ak,cQ,
  aRW (f:=λ_=>false) aa (λj hj=>by grind[PQ,a32]),aVB λ_ _=>rfl,aH,aM ak,
  aPK (by have:=ht.1;omega) (λq hq=>by have:=(ht.2 q hq).1;omega) (λq hq b hb=>by have:=((ht.2 q hq).2 b hb).2.1;omega),bY ht,aH,aM rfl,dO,bY hv.ser]
 rfl
def EvS(e:lG):Prop:=e.bD.length<=1000/\e.cJ.length<=1000
theorem bFG{e:lG}(h:EvS e):OJ e=some e:=by obtain⟨h1,h2⟩:=h;unfold OJ kR tC;rw[DE,aH,DE];simp[MM]
theorem bBT(h:j=eV\/JB j):KQ j=some j:=by
 have hl:j.Batch.bD.length<=1000/\j.Reads.length<=1000/\j.aE.length<=1000/\j.cJ.length<=1000/\j.cT.length<=1000/\j.aS.length<=1000/\j.bE.length<=1000:=by
  rcases h with rfl|h
  ·simp[eV]
  ·have a1:=h.bat.2.1;have a2:=h.rd2;have a3:=h.wr.1;have a4:=h.res;have a5:=h.at_;have a6:=h.new.1;have a7:=bCQ h;have a8:=h.old.1;omega
 obtain⟨h1,h2,h3,h4,h5,h6,h7⟩:=hl;unfold KQ qN nT tC JR;rw[(aLK h1).2,aH,DE,aH,DE,aH,DE,aH,qT aa,qT aa,qT aa];rfl
theorem a33(hb:TF t.aA)(hk:t.aR.length<=1000)(hj:t.aK.length<=1000/\∀j∈t.aK,j=eV\/JB j)(ht:t.bK.length<=1000/\(∀q∈t.bK,q.List.length<=1000)/\∀q∈t.bK,∀b∈q.List,b.bD.length<=1000)(hl:t.Log.length<=1000000/\∀e∈t.Log,EvS e):H5 t=some t:=by
 unfold H5 JQ;rw[aUS hb,aH,DE,aH,(aFV ht.1 ht.2.1 ht.2.2).2,aH];unfold H4;have k2:loop (mA t) (0,(⟨t.aA,[]++t.aR,[],t.bK,[],t.aI⟩:Table))=some (⟨t.aA,t.aR,t.aK,t.bK,[],t.aI⟩:Table):=by
  have:=fV (f:=mA t) t.aK.length (λk=>((k:Int),(⟨t.aA,t.aR,t.aK.take k,t.bK,[],t.aI⟩:Table))) (⟨t.aA,t.aR,t.aK,t.bK,[],t.aI⟩:Table) (λk hk=>by
   simp only[mA];rw[cQ,aT hk,aH,bBT (hj.2 _ (cK hk)),aH,DE];grind[H3,cO,O0]) (by simp[mA])
  grind
 have k3:loop (l9 t) (0,(⟨t.aA,t.aR,t.aK,t.bK,[],t.aI⟩:Table))=some t:=by
  have:=fV (f:=l9 t) t.Log.length (λk=>((k:Int),(⟨t.aA,t.aR,t.aK,t.bK,t.Log.take k,t.aI⟩:Table))) t (λk hk=>by
   simp only[l9];rw[cQ,aT hk,aH,bFG (hl.2 _ (cK hk)),aH,DE];grind[H0,cO,O0]) (by simp[l9])
  grind
 show(loop (mA t) (0,(⟨t.aA,[]++t.aR,[],t.bK,[],t.aI⟩:Table))).bind _=_;rw[k2,aH];show(loop (l9 t) (0,(⟨t.aA,t.aR,t.aK,t.bK,[],t.aI⟩:Table))).bind _=_;rw[k3];rfl
end Go.Gv
end
noncomputable section
set_option maxRecDepth 20000
namespace Go.Gv
variable{w:Int}{k:List bZ}{j:aG}
structure TcJ (j:aG):Prop where
 some:j.Pc=7->∀i:Nat,(i:Int)<j.K->∀h:i<(jS j.aE).length,(jS j.aE)[i]∈j.aS
 all:8<=j.Pc/\j.Pc<=13->∀b∈jS j.aE,b∈j.aS
theorem TcJ.off(h:j.Pc<7\/13<j.Pc):TcJ j:=⟨λq=>aa,λq=>aa⟩
theorem TcJ.same{j':aG}(h:TcJ j)(h1:8<=j.Pc/\j.Pc<=13)(e1:j'.aE=j.aE)(e2:j'.aS=j.aS)(hp:j'.Pc≠7):TcJ j':=
 ⟨λq=>absurd q hp,λ_ b hb=>by rw[e2];exact h.all h1 b (by rw[<-e1];exact hb)⟩
theorem bFH(j:aG)(x:aQ):(yH j x).2.Pc=j.Pc\/(yH j x).2.Pc=16:=by grind[yH,OY]
theorem a8Y(j:aG)(c:kG)(v:Int)(is:Bool):(aBF j c v is).Pc=1\/(aBF j c v is).Pc=16\/(aBF j c v is).Pc=j.Pc:=by grind[aBF,aW6,aHM,yH,OY]
theorem bFI(h:j.Pc=1):(aKS j).Pc<7\/13<(aKS j).Pc:=by have:=bFH j ⟨(eC j).Key,(eC j).Kind == 3,(eC j).eN⟩;have:=a8Y j (eC j) (YE j.aE (eC j).Key).1.eN (!(YE j.aE (eC j).Key).1.GC);unfold aKS;grind
theorem bBU(b:aA)(k:List bZ)(w:Int)(h:2<=j.Pc/\j.Pc<=5):(X3 b k w j).Pc<7\/13<(X3 b k w j).Pc:=by have:=a8Y {j with Reads:=(DI j.Reads j.bZ j.dZ).1} (eC j) j.Node.eN j.Found;unfold X3;grind[OY]
theorem bFJ(b:aA)(w:Int)(h:j.Pc=6):TcJ (aPB b w j).2:=by
 unfold aPB;by_cases q:kK j.aE j.aE.length<=j.K
 ·rw[aM q];exact⟨λ_ i hi=>by simp at hi;omega,λq=>by simp at q⟩
 ·rw[aO q];exact .off (by grind[OY])
theorem bBV(j:aG)(x:aQ):(plF j x).aE=j.aE/\(plF j x).aS=j.aS/\(plF j x).Pc≠7:=by grind[plF]
theorem a8Z(j:aG):(ZZ j).aE=j.aE/\(ZZ j).aS=j.aS/\(ZZ j).Pc=j.Pc:=by grind[ZZ]
theorem bFK(b:aA)(k:List bZ)(h:TcJ j)(hp:9<=j.Pc/\j.Pc<=13):TcJ (QP b k j).2.2:=by
 have h1:8<=j.Pc/\j.Pc<=13:=aa
 have key:(QP b k j).2.2.aE=j.aE/\(QP b k j).2.2.aS=j.aS/\(QP b k j).2.2.Pc≠7:=by unfold QP;grind[bBV,a8Z,OY]
 exact h.same h1 key.1 key.2.1 key.2.2
theorem bFL(k:List bZ)(w:Int)(h:TcJ j)(hp:j.Pc=8):TcJ (aHN k w j):=by
 have key:(aHN k w j).aE=j.aE/\(aHN k w j).aS=j.aS/\(aHN k w j).Pc≠7:=by unfold aHN;grind[OY]
 exact h.same aa key.1 key.2.1 key.2.2
theorem bFM(k:List bZ)(w:Int)(hk:0<=j.K)(h:TcJ j)(hp:j.Pc=7):TcJ (ZY k w j).2.1:=by
 unfold ZY;by_cases q:j.K<(jS j.aE).length
 ·rw[aM q];have hki:j.K.toNat<(jS j.aE).length:=aa
  have e:eP j=(jS j.aE)[j.K.toNat]:=by grind[eP]
  have hm:∀i:Nat,(i:Int)<j.K+1->∀h:i<(jS j.aE).length,(jS j.aE)[i]∈(YF j).aS:=λi hi hl=>by
   unfold YF;by_cases q:(i:Int)<j.K
   ·have:=h.some hp i q hl;grind
   ·obtain rfl:i=j.K.toNat:=aa
    rw[<-e];grind
  split
  ·exact .off (by simp[OY])
  ·split
   ·exact .off (by simp[OY])
   ·split
    ·refine⟨λq=>by simp at q,λ_ b hb=>?_⟩;obtain⟨i,hi,rfl⟩:=aDL (show b∈jS j.aE from hb);exact hm i aa hi
    ·refine⟨λ_ i hi hl=>hm i hi hl,λq=>?_⟩;have:(YF j).Pc=7:=hp;simp only at q;omega
 ·rw[aO q];refine⟨λq=>by simp at q,λ_ b hb=>?_⟩;obtain⟨i,hi,rfl⟩:=aDL (show b∈jS j.aE from hb);exact h.some hp i aa hi
theorem bFN(b:aA)(k:List bZ)(w:Int)(hj:JB j)(h:TcJ j):TcJ (doF b k w j).j:=by
 unfold doF;refine hY (P:=λr=>TcJ r.j) (λq=>?_) λ_=>hY (P:=λr=>TcJ r.j) (λq=>.off (bFI q)) λ_=>hY (P:=λr=>TcJ r.j) (λq=>.off (bBU b k w q)) λ_=>hY (P:=λr=>TcJ r.j) (λq=>bFJ b w q) λ_=>hY (P:=λr=>TcJ r.j) (λq=>bFM k w hj.k.1 h q) λ_=>hY (P:=λr=>TcJ r.j) (λq=>bFL k w h q) λ_=>hY (P:=λr=>TcJ r.j) (λq=>bFK b k h q) λ_=>hY (P:=λr=>TcJ r.j) (λq=>?_) λ_=>hY (P:=λr=>TcJ r.j) (λq=>?_) λ_=>hY (P:=λr=>TcJ r.j) (λq=>?_) λ_=>hY (P:=λr=>TcJ r.j) (λq=>.off (.inr (by show(13:Int)<19;omega))) λ_=>hY (P:=λr=>TcJ r.j) (λq=>.off (.inl (by show(0:Int)<7;omega))) λ_=>.off (.inr (by show(13:Int)<16;omega))
 ·exact .off (by show(aDG b w j).2.Pc<7\/13<(aDG b w j).2.Pc;grind[aDG])
 ·exact .off (by show(WO k j).2.Pc<7\/13<(WO k j).2.Pc;grind[WO,aKT])
 ·exact .off (by show(aKU b w j).2.Pc<7\/13<(aKU b w j).2.Pc;grind[aKU,aKT])
 ·exact .off (by show(aKV b w j).2.Pc<7\/13<(aKV b w j).2.Pc;grind[aKV])
def NoW(k k':List bZ)(w:Int):Prop:=∀b,0<=b/\b<=1->((iT k b).eA≠0/\(iT k b).eA≠w+1->iT k' b=iT k b)/\(iT k b).dZ<=(iT k' b).dZ
theorem aPS(k:List bZ)(w:Int):NoW k k w:=λ_ _=>⟨λ_=>rfl,aP3 _⟩
theorem aLM(h2:k.length=2){i:Int}(hi:0<=i/\i<=1){y:bZ}(hl:(iT k i).eA=0\/(iT k i).eA=w+1)(hv:(iT k i).dZ<=y.dZ):NoW k (k.set i.toNat y) w:=λb hb=>by
 rw[aAS h2 hi hb];by_cases e:b=i
 ·subst e;rw[aM rfl];exact⟨λq=>absurd hl aa,hv⟩
 ·rw[aO e];exact⟨λ_=>rfl,aP3 _⟩
theorem wQ{O:Type}{g:O->List bZ}{c:Prop}[Decidable c]{p q:O}(h1:c->NoW k (g p) w)(h2:¬c->NoW k (g q) w):NoW k (g (if c then p else q)) w:=by
 split
 ·exact h1 (by assumption)
 ·exact h2 (by assumption)
theorem bBW{b:aA}(h2:k.length=2)(hv:∀x∈k,BkV x)(hw:0<=w/\w<=2)(hj:JB j)(hl:LkJ k w j)(h:TcJ j):NoW k (doF b k w j).k w:=by
 have r:=aPS k w;have hk:=hj.k;unfold doF;refine wQ (g:=TR.k) (λ_=>r) λ_=>wQ (g:=TR.k) (λ_=>r) λ_=>wQ (g:=TR.k) (λ_=>r) λ_=>wQ (g:=TR.k) (λ_=>r) λ_=>wQ (g:=TR.k) (λq7=>?_) λ_=>wQ (g:=TR.k) (λ_=>r) λ_=>wQ (g:=TR.k) (λq9=>?_) λ_=>wQ (g:=TR.k) (λq14=>?_) λ_=>wQ (g:=TR.k) (λ_=>r) λ_=>wQ (g:=TR.k) (λ_=>r) λ_=>wQ (g:=TR.k) (λ_=>r) λ_=>wQ (g:=TR.k) (λ_=>r) λ_=>r
 ·show NoW k (ZY k w j).1 w;unfold ZY;refine wQ (g:=Prod.fst) (λhp=>?_) λ_=>r;have hki:j.K.toNat<(jS j.aE).length:=aa
  have e:eP j=(jS j.aE)[j.K.toNat]:=by grind[eP]
  have hb01:=ZT (cK hki);rw[<-e] at hb01;refine wQ (g:=Prod.fst) (λ_=>r) λhn=>wQ (g:=Prod.fst) (λ_=>r) λ_=>?_;have h0:(iT k (eP j)).eA=0:=Classical.byContradiction λq=>hn (.inl q);exact wQ (g:=Prod.fst) (λ_=>aLM h2 aa (.inl h0) (aP3 _)) λ_=>aLM h2 aa (.inl h0) (aP3 _)
 ·show NoW k (QP b k j).2.1 w;unfold QP;refine wQ (g:=λq:aA×List bZ×aG=>q.2.1) (λ_=>r) λhq=>?_;have hki:j.K.toNat<j.aE.length:=aa
  have e:QO j=j.aE[j.K.toNat]:=by grind[QO]
  have hx:=(hj.wr.2.1 _ (cK hki)).1;have hm:=cK hki;rw[<-e] at hx hm;have eb:rJ (QO j).Key=(QO j).Key % 2:=by grind[rJ]
  have hbi:0<=rJ (QO j).Key/\rJ (QO j).Key<=1:=aa
  have hin:rJ (QO j).Key∈jS j.aE:=by
   rw[eb];unfold jS;rw[iO];have:(QO j).Key % 2=0\/(QO j).Key % 2=1:=aa
   rcases this with q|q
   ·left;rw[aM (List.any_eq_true.2 ⟨_,hm,by simpa using q⟩),q];simp
   ·right;rw[aM (List.any_eq_true.2 ⟨_,hm,by simpa using q⟩),q];simp
  have hlk:=(hl.iff _ hbi).1 (h.all aa _ hin);have st:∀y:bZ,(iT k (rJ (QO j).Key)).dZ<=y.dZ->NoW k (k.set (rJ (QO j).Key).toNat y) w:=λy hy=>aLM h2 hbi (.inr hlk) hy;exact wQ (g:=λq:aA×List bZ×aG=>q.2.1) (λ_=>r) λ_=>wQ (g:=λq:aA×List bZ×aG=>q.2.1) (λ_=>r) λ_=>wQ (g:=λq:aA×List bZ×aG=>q.2.1) (λ_=>wQ (g:=λq:aA×List bZ×aG=>q.2.1) (λ_=>st _ (aP3 _)) λ_=>r) λ_=>wQ (g:=λq:aA×List bZ×aG=>q.2.1) (λ_=>r) λ_=>wQ (g:=λq:aA×List bZ×aG=>q.2.1) (λ_=>r) λ_=>st _ (aP3 _)
 ·show NoW k (WO k j).1 w;unfold WO;refine wQ (g:=Prod.fst) (λhp=>?_) λ_=>wQ (g:=Prod.fst) (λ_=>r) λ_=>r;have er:oK j=j.aS[0]:=by grind[oK]
  have hm:oK j∈j.aS:=by rw[er];exact cK hp
  have hbk:=hj.held.1 _ hm;have hlk:=(hl.iff _ hbk).1 hm;have hbv:BkV (iT k (oK j)):=hv _ (a10 h2 hbk);have hver:=hbv.2.1;refine aLM h2 hbk (.inr hlk) ?_;by_cases p14:j.Pc=14
  ·rw[aM p14];show(iT k (oK j)).dZ<=if 1000000<(iT k (oK j)).dZ+1 then 1000000 else(iT k (oK j)).dZ+1;split<;>omega
  ·rw[aO p14];exact aP3 _
def TcI(t:Table):Prop:=∀w,0<=w/\w<=2->TcJ (dP t w)
theorem TcI.step{t:Table}(hv:TV t)(hw:0<=w/\w<=2)(h:TcI t):TcI (tZ t w):=by
 have h3:=hv.J2.1;have hjv:=hv.J2.2 _ (SH h3 hw);unfold tZ;split
 ·rename_i hbusy;have hj:JB (dP t w):=hjv.resolve_left λe=>by rw[e] at hbusy;cases hbusy
  intro v hv';have ej:dP (WQ t w (doF t.aA t.aR w (dP t w))) v=if v=w then(doF t.aA t.aR w (dP t w)).j else dP t v:=U9 h3 rfl hw hv';rw[ej];split
  ·exact bFN _ _ _ hj (h w hw)
  ·exact h v hv'
 ·split
  ·exact h
  ·intro v hv';have ej:dP (aU1 t w ((IZ t w).getD 0 ⟨false,[]⟩)) v=if v=w then JD ((IZ t w).getD 0 ⟨false,[]⟩) (t.aI+1) else dP t v:=U9 h3 rfl hw hv';rw[ej];split
   ·exact .off (by show(if _ then(20:Int) else 0)<7\/13<(if _ then(20:Int) else 0);split<;>omega)
   ·exact h v hv'
theorem TcI.zero(l:List aN):TcI (oY l):=λw hw=>by
 have:dP (oY l) w=eV:=by
  unfold dP oY;have:w=0\/w=1\/w=2:=aa
  rcases this with rfl|rfl|rfl<;>rfl
 rw[this];exact .off (by simp[eV])
theorem a81{t:Table}(hv:TV t)(hw:0<=w/\w<=2)(hl:aIH t)(hc:TcI t):(∀v,0<=v/\v<=2->v≠w->dP (tZ t w) v=dP t v)/\NoW t.aR (tZ t w).aR w:=by
 have h3:=hv.J2.1;have hjv:=hv.J2.2 _ (SH h3 hw);unfold tZ;split
 ·rename_i hbusy;have hj:JB (dP t w):=hjv.resolve_left λe=>by rw[e] at hbusy;cases hbusy
  refine⟨λv hv' hn=>?_,bBW hv.bk.1 hv.bk.2 hw hj (hl w hw) (hc w hw)⟩;have ej:dP (WQ t w (doF t.aA t.aR w (dP t w))) v=if v=w then(doF t.aA t.aR w (dP t w)).j else dP t v:=U9 h3 rfl hw hv';rw[ej,aO hn]
 ·split
  ·exact⟨λ_ _ _=>rfl,aPS _ _⟩
  ·refine⟨λv hv' hn=>?_,aPS _ _⟩;have ej:dP (aU1 t w ((IZ t w).getD 0 ⟨false,[]⟩)) v=if v=w then JD ((IZ t w).getD 0 ⟨false,[]⟩) (t.aI+1) else dP t v:=U9 h3 rfl hw hv';rw[ej,aO hn]
theorem a34{l:List Int}(hl:l.length<=1000000):KY l l=some true:=by
 unfold KY;rw[cZ];have:=fV (f:=BN l l) l.length (λk=>(k:Int)) (Out.brk ()) (λk hk=>by
  simp only[BN];rw[cQ,aT hk,aH,aH,cZ,cR];rfl) (by simp[BN])
 rw[show(0:Int)=((0:Nat):Int) from rfl,this];rfl
theorem aPT{code:List UInt8}(_:fit code):MO code=some true:=by
 unfold MO aMN;rw[aH];by_cases hcl:1048576<(code.length:Int)
 ·rw[aM (by simpa using hcl)]
 rw[aO (by simpa using hcl)];obtain⟨x,ex,hd,_⟩:=aZW (code:=code) aa;rw[ex,aH,a3R hd,aH];by_cases ht:Z1 x.bK
 rotate_left
 ·rw[dU ht,aM ak]
 rw[bY ht,cZ];obtain⟨t,e1,e2,ho⟩:=a8W (x:=x) hd.fit;have et:t=Z5 (oY x.bK) (x.gN.take 400):=by have:=aFW hd.fit.1 hd.fit.2.1 hd.fit.2.2 ht;rw[e2] at this;exact Option.some.inj this
 obtain⟨o1,o2,o3⟩:=aXV ht x.gN;have inv:=aDH (P:=λt=>aIH t/\TcI t) (λt w hv hw h=>⟨h.1.step hv hw,h.2.step hv hw⟩) (x.gN.take 400) (aAR ht) ⟨aIH.zero _,TcI.zero _⟩;rw[<-et] at o1 o2 o3 inv;obtain⟨hv,hl,hc⟩:=inv;obtain⟨v,ev,v0⟩:=at_eq (code:=code) aa (i:=0) aa;have hw:=a3M v0;rw[e1,aH,ev,aH];generalize hwd:Int.tmod v 3=w at *;have h4:=hv.todo;have stepI:IE t w=some (tZ t w):=by unfold IE;rw[a33 hv.base.small (by have:=hv.bk.1;omega) ⟨by have:=hv.J2.1;omega,hv.J2.2⟩ ⟨by have:=h4.1;omega,λq hq=>by have:=(h4.2 q hq).1;omega,λq hq b hb=>by have:=((h4.2 q hq).2 b hb).2.1;omega⟩ ⟨aa,λe he=>⟨by have:=(o2 e he).1;omega,by have:=(o2 e he).2;omega⟩⟩,aH,aVC hv,aH,aM rfl,lU,aH,bY hw];unfold xZ;rw[aM rfl,aXA hv aa hw];rfl
 have hy:=hv.step hw;obtain⟨n1,n2⟩:=a81 hv hw hl hc;have y3:=hy.J2.1;have y2:=hy.bk.1;have t3:=hv.J2.1;have t2:=hv.bk.1;rw[stepI,aH,aO (by simp[y3]),aO (by simp[y2]),aU5 hy,aH];unfold oD;rw[cZ];generalize hyy:tZ t w=y at *;have l2:loop (oC v) (0,t,y)=some (Out.brk (t,y)):=by
  have:=fV (f:=oC v) 3 (λk=>((k:Int),t,y)) (Out.brk (t,y)) (λk hk=>by
   simp only[oC,jG,hwd];rw[cQ,cR];by_cases e:(k:Int)=w
   ·rw[aO (by simp[e])];rfl
   ·have ej:=n1 k aa e;have hjv:=hv.J2.2 _ (SH t3 (w:=(k:Int)) aa);have hnl:(dP t (k:Int)).cT.length<=1000000:=by
     rcases hjv with q|q
     ·rw[q];simp[eV]
     ·have:=q.new.1;omega
    rw[aM (by simpa using e),rU y3 aa,aH,rU t3 aa,aH,ej,cZ,cZ,cZ,a34 hnl];rfl) (by simp[oC])
  exact this
 rw[l2,aH];simp only[PX];unfold PW;have l3:loop (oB v) (0,t,y)=some (Out.brk ()):=by
  have:=fV (f:=oB v) 2 (λk=>((k:Int),t,y)) (Out.brk ()) (λk hk=>by
   obtain⟨m1,m2⟩:=n2 k aa;have ver:decide ((iT y.aR (k:Int)).dZ<(iT t.aR (k:Int)).dZ)=false:=dU aa;simp only[oB,kV,hwd];rw[cQ,cR (x:=(k:Int)+1),cR (x:=w+1),CG t2 aa,aH,CG y2 aa];simp only[aH,ver];by_cases q0:(iT t.aR (k:Int)).eA=0
   ·rw[aO (by simp[q0])];rfl
   ·rw[aM (by simpa using q0)];by_cases qw:(iT t.aR (k:Int)).eA=w+1
    ·rw[aO (by simp[qw])];rfl
    ·rw[aM (by simpa using qw),aO (by simp[m1 ⟨q0,qw⟩])];rfl) (by simp[oB])
  exact this
 rw[l3];rfl
end Go.Gv
end
