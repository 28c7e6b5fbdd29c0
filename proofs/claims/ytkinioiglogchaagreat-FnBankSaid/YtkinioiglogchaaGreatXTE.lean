import Derived.Test.YtkinioiglogchaaGreatXTD
set_option linter.unusedVariables false
set_option linter.unusedSimpArgs false
set_option linter.unusedSectionVars false
set_option linter.constructorNameAsVariable false
set_option linter.unnecessarySimpa false
noncomputable section
namespace Go.Gv
variable{c i n s w x:Int}{l xs z:List Int}{m:Mem}{k p:Nat}{t:Table}{O:Type}{j:aI}
theorem X3(hl:l.length<=maxLen):JA l=some (decide (∀x∈l,x=0)):=by
 unfold JA;have e:(λy0=>IK y0)=λy:Int=>some (!decide (y=0)):=by grind[IK]
 simp_all[GM,YX]
section
variable {h:Heap} (hs:iC h) {p:Nat} (hp:p<6)
include hs hp
theorem bFW:(h.Bytes.take ((p+1)*64)).drop (p*64)=lI h p:=by grind[lI,List.drop_take]
theorem bDB{a:Nat}(ha:a+4<=64):ld (lI h p) a 4=ld h.Bytes (p*64+a) 4:=by grind[ld,lI,List.drop_take,List.drop_drop]
theorem aXU(hk:k<64):idx (lI h p) (k:Int)=some ((lI h p).getD k 0):=by grind[X2,aZ]
theorem X4:O0 h (p:Int)=some (decide (GN h p)):=by
 have hb:=hs.1;have hl:=X2 hs hp;have hm:(lI h p).length<=maxLen:=by grind[maxLen]
 have e0:aY ((p:Int)*64)=((p*64:Nat):Int):=by grind[cW]
 have e1:aY (aY ((p:Int)+1)*64)=(((p+1)*64:Nat):Int):=by grind[cW]
 have i0:=aXU hs hp (show 0<64 by omega);have i1:=aXU hs hp (show 1<64 by omega);have i2:=aXU hs hp (show 2<64 by omega);rw[show((0:Nat):Int)=0 from rfl] at i0;rw[show((1:Nat):Int)=1 from rfl] at i1;rw[show((2:Nat):Int)=2 from rfl] at i2;unfold O0;rw[aRQ hs hp];simp only[aM,e0,e1,K8,bFW hs hp];rw[SF];by_cases hc:cZ h p<0
 ·simp_all[GN,X3]
 ·have hP:GN h p↔((lI h p).getD 0 0=171/\(lI h p).getD 1 0=cZ h p/\(lI h p).getD 2 0=cJ (cZ h p))/\(∀x∈((lI h p).drop 3).take 5,x=0)/\∀i,i<(cJ (cZ h p)).toNat->1<=ld h.Bytes (p*64+8+i*(bD (cZ h p)).toNat) 4/\ld h.Bytes (p*64+8+i*(bD (cZ h p)).toNat) 4<=7:=by simp_all[GN,aP]
  simp only[hc,decide_false,bV,bR,i0,i1,i2,aM,CR];by_cases a0:(lI h p).getD 0 0=171
  ·by_cases a1:(lI h p).getD 1 0=cZ h p
   ·by_cases a2:(lI h p).getD 2 0=cJ (cZ h p)
    ·have n0:((lI h p).getD 0 0 != 171)=false:=aj
     have n1:((lI h p).getD 1 0 != cZ h p)=false:=aj
     have n2:((lI h p).getD 2 0 != cJ (cZ h p))=false:=aj
     have t8:((lI h p).take (8:Int).toNat).drop (3:Int).toNat=((lI h p).drop 3).take 5:=by grind[List.drop_take]
     simp only[n0,n1,n2,bV,bR,kC,t8];rw[SF,X3 aj];by_cases h4:∀x∈((lI h p).drop 3).take 5,x=0
     ·simp only[dA h4,aM,kY,bV,bR,CR];have key2:loop (rP h (p:Int) (cZ h p) (cJ (cZ h p))) 0=some (if ∀i,i<(cJ (cZ h p)).toNat->1<=ld h.Bytes (p*64+8+i*(bD (cZ h p)).toNat) 4/\ld h.Bytes (p*64+8+i*(bD (cZ h p)).toNat) 4<=7 then Out.brk () else Out.ret false):=by
       have hle:=pY (cZ h p);have hst:∀k:Nat,k<(cJ (cZ h p)).toNat->rP h (p:Int) (cZ h p) (cJ (cZ h p)) (k:Int)=if 1<=ld h.Bytes (p*64+8+k*(bD (cZ h p)).toNat) 4/\ld h.Bytes (p*64+8+k*(bD (cZ h p)).toNat) 4<=7 then some (.next ((k+1:Nat):Int)) else some (.stop (Out.ret false)):=by
        intro k hk;have hz:=zN hs hp rfl hk;have e5:aY (8+aY ((k:Int)*bD (cZ h p)))=((8+k*(bD (cZ h p)).toNat:Nat):Int):=by grind[cW]
        have l1:=vF (a3C hs hp) (a:=8+k*(bD (cZ h p)).toNat) (w:=4) aa aa aa;rw[show((4:Nat):Int)=4 from rfl,bDB hs hp aa] at l1;simp only[rP,R1,aM,e0,e1,K8,bFW hs hp,e5];rw[eV,l1,EB,dO (x:=(k:Int)+1)];simp only[aM,dP];grind
       refine XW (f:=rP h (p:Int) (cZ h p) (cJ (cZ h p))) (cJ (cZ h p)).toNat (λk=>(k:Int)) (λi=>1<=ld h.Bytes (p*64+8+i*(bD (cZ h p)).toNat) 4/\ld h.Bytes (p*64+8+i*(bD (cZ h p)).toNat) 4<=7) _ _ (λk hk hx=>?_) (λk hk hx=>?_) ?_
       ·grind
       ·simp_all
       ·simp only[rP];rw[aH0]
      rw[key2];by_cases h5:∀i,i<(cJ (cZ h p)).toNat->1<=ld h.Bytes (p*64+8+i*(bD (cZ h p)).toNat) 4/\ld h.Bytes (p*64+8+i*(bD (cZ h p)).toNat) 4<=7
      ·rw[aO h5,dA (hP.2 ⟨⟨a0,a1,a2⟩,h4,h5⟩)];rfl
      ·rw[aP h5,iD (λq=>h5 (hP.1 q).2.2)];rfl
     grind
    ·have n0:((lI h p).getD 0 0 != 171)=false:=aj
     have n1:((lI h p).getD 1 0 != cZ h p)=false:=aj
     have n2:((lI h p).getD 2 0 != cJ (cZ h p))=true:=aj
     simp_all[kC]
   simp_all[kC]
  simp_all[kC]
end
instance (h:Heap):Decidable (∀p,p<6->GN h p):=Nat.decidableBallLT 6 λp _=>GN h p
def HOk(h:Heap):Prop:=iC h/\∀p,p<6->GN h p
instance (h:Heap):Decidable (HOk h):=by unfold HOk;infer_instance
theorem NP{h:Heap}(hl:h.Bytes.length<=maxLen):JC h=some (decide (HOk h)):=by
 unfold JC;rw[NO hl];by_cases hs:iC h
 ·have key:loop (xF h) 0=some (if ∀p,p<6->GN h p then Out.brk () else Out.ret false):=by
   refine XW (f:=xF h) 6 (λk=>(k:Int)) (λp=>GN h p) _ _ (λk hk hx=>?_) (λk hk hx=>?_) ?_
   ·simp only[xF];rw[eV,X4 hs hk,dO,dA hx];rfl
   ·simp only[xF];rw[eV,X4 hs hk,iD hx];rfl
   ·rfl
  simp only[aM,dA hs,kY,bV,bR];rw[key];by_cases h4:∀p,p<6->GN h p
  ·rw[aO h4,dA (show HOk h from⟨hs,h4⟩)];rfl
  ·rw[aP h4,iD (λq:HOk h=>h4 q.2)];rfl
 grind[HOk]
def bM(h:Heap)(s:Int):Int:=if(0<=s/\s<=23)/\s % 4<cJ (cZ h (s/4).toNat) then cZ h (s/4).toNat else -1
theorem rE{h:Heap}(hc:0<=bM h s):(0<=s/\s<=23)/\s % 4<cJ (cZ h (s/4).toNat)/\bM h s=cZ h (s/4).toNat:=by unfold bM at hc ⊢;omega
theorem CS{h:Heap}(hs:iC h)(s:Int):F8 h s=some (bM h s):=by
 unfold F8 CJ bM;rw[X0,VC];by_cases h1:0<=s/\s<=23
 ·obtain⟨k,rfl⟩:=bA7 h1.1;have hk:k/4<6:=aa
  have e1:((k:Int)/4)=((k/4:Nat):Int):=aa
  have hi:=aRQ hs hk;have n1:¬((k/4:Nat):Int)<0:=aa
  simp only[h1,and_self,bT,aM,e1,n1,decide_false,bV,bR,hi,K8,true_and];grind[aRO,o6]
 ·simp[h1]
theorem kO{h:Heap}(hs:iC h)(s:Int):lL h s=some (bM h s):=by
 unfold lL BW bM;rw[yN];by_cases h1:0<=s/\s<=23
 ·obtain⟨k,rfl⟩:=bA7 h1.1;have hk:k/4<6:=aa
  have e1:((k:Int)/4)=((k/4:Nat):Int):=aa
  have hi:=aRQ hs hk;have e2:aY (Int.tdiv (k:Int) 4)=((k/4:Nat):Int):=by grind[cW]
  simp only[h1,and_self,decide_true,kY,bV,bT,aM,e1,e2,bR,hi,K8,true_and,BL];by_cases h3:(k:Int) % 4<cJ (cZ h (k/4))
  ·have hm:=T1 (c:=cZ h (k/4)) aa h3;have hg:¬jB (k:Int) (cZ h (k/4))<0:=by unfold jB;omega
   grind
  simp_all[jB,aP]
 ·simp[h1]
def kQ(h:Heap)(s:Int):Int:=ld h.Bytes (jB s (bM h s)).toNat 4
theorem YZ{h:Heap}(hc:0<=bM h s):0<=jB s (bM h s)/\jB s (bM h s)+4<=384:=by
 obtain⟨h1,h2,h3⟩:=rE hc;rw[h3];have hm:=T1 (c:=cZ h (s/4).toNat) aa h2;have hst:0<bD (cZ h (s/4).toNat):=by have:0<=cZ h (s/4).toNat/\cZ h (s/4).toNat<=2:=j4.1 aa;rcases nI this with e|e|e<;>rw[e]<;>decide
 have:4<=bD (cZ h (s/4).toNat):=by have:0<=cZ h (s/4).toNat/\cZ h (s/4).toNat<=2:=j4.1 aa;rcases nI this with e|e|e<;>rw[e]<;>decide
 unfold jB;omega
theorem wA{h:Heap}(hs:iC h)(hc:0<=bM h s):H4 h s=some (kQ h s):=by have hg:=YZ hc;unfold H4;rw[CS hs];simp only[aM,BK];have l1:=aLI hs.2.2.1 (a:=(jB s (bM h s)).toNat) (w:=4) aa (by have:=hs.1;omega) (by have:=hs.1;omega);rw[show((4:Nat):Int)=4 from rfl,Int.toNat_of_nonneg hg.1] at l1;rw[l1];rfl
theorem I3{h:Heap}(hs:iC h)(hc:0<=bM h s):C0 h s=some (kQ h s):=by
 have hg:=YZ hc;have hm:h.Bytes.length<=maxLen:=by rw[hs.1];simp[maxLen]
 unfold C0 E7;rw[NO hm,kO hs];have l1:=vF hs.2.2.1 (a:=(jB s (bM h s)).toNat) (w:=4) aa (by have:=hs.1;omega) (by have:=hs.1;omega);grind[BL,kQ]
def fJ(l:List bH):List Int:=l.flatMap bH.aV
def iF(l:aE):List Int:=fJ l.Global++fJ l.Own
def LOk(l:aE):Prop:=l.Global.length=3/\l.Own.length=9/\(∀s∈l.Own,s.aV.length<=2)/\(∀x∈iF l,0<=x/\x<=23)/\(iF l).Nodup
instance (l:aE):Decidable (LOk l):=by unfold LOk;infer_instance
theorem R3{l:List bH}(h:k<l.length):fJ (l.take (k+1))=fJ (l.take k)++l[k].aV:=by grind[fJ,EA]
theorem aRR(l:List bH)(k:Nat):(fJ (l.take k)).length<=(fJ l).length:=by grind[fJ,ZV]
theorem aLJ(l:List bH)(h:k<l.length):l[k].aV.length<=(fJ l).length:=by have h1:=aRR l (k+1);grind[R3]
theorem aOM{l:aE}(h:(iF l).length<=1073741824)(hg:l.Global.length<=maxLen)(ho:l.Own.length<=maxLen):aA2 l=some (iF l):=by
 have hsum:(fJ l.Global).length+(fJ l.Own).length<=1073741824:=by grind[iF]
 unfold aA2;have k1:loop (BC l) ([],0)=some (fJ l.Global):=by
  refine iW (f:=BC l) l.Global.length (λk=>(fJ (l.Global.take k),(k:Int))) _ (λk hk=>?_) ?_
  ·have h1:=aRR l.Global (k+1);rw[R3 hk] at h1;simp only[BC];rw[eV,aZ hk];grind[b7,R3,sV]
  grind[BC]
 rw[k1];simp only[aM,Z5,Z4];have k2:loop (BA l) (fJ l.Global,0)=some (iF l):=by
  have:=iW (f:=BA l) l.Own.length (λk=>(fJ l.Global++fJ (l.Own.take k),(k:Int))) (iF l) (λk hk=>?_) ?_
  ·grind[fJ]
  ·have h1:=aRR l.Own (k+1);rw[R3 hk] at h1;simp only[BA];rw[eV,aZ hk];grind[b7,R3,sV]
  grind[BA,iF]
 rw[k2];rfl
theorem aON(hl:l.length<=maxLen)(x:Int):aA1 l x=some (decide (x∈l)):=by
 unfold aA1;have key:loop (vX l x) 0=some (if ∀y∈l,y≠x then Out.brk () else Out.ret true):=by
  refine MF (f:=vX l x) l (λk=>(k:Int)) (λy=>y≠x) _ _ (λk h hp=>?_) (λk h hp=>?_) ?_
  ·simp only[vX];rw[eV,aZ h,sV (V7 h hl)];have:(l[k] == x)=false:=by simpa using hp
   simp only[aM,this,bV,bR]
  ·simp only[vX];rw[eV,aZ h];have:(l[k] == x)=true:=by simpa using hp
   simp only[aM,this,bT]
  ·simp[vX]
 rw[key];by_cases h:x∈l
 ·rw[aP (λq=>q x h rfl),dA h];rfl
 ·rw[aO (λy hy (e:y=x)=>h (e ▸ hy)),iD h];rfl
theorem aXV(l:List Int):l.Nodup↔∀k (h:k<l.length),l[k]∉l.take k:=by grind[bFC,List.mem_take_iff_getElem]
def BM:List Bool->List Int->Option (List Bool)
 |met,[]=>some met
 |met,x::r=>if(0<=x/\x<=23)/\met.getD x.toNat true=false then BM (met.set x.toNat true) r else none
theorem aPL:∀{xs:List Int} {met m:List Bool},BM met xs=some m->m.length=met.length
 |[],met,m,h=>by grind[BM]
 |x::r,met,m,h=>by
  simp only[BM] at h;split at h
  ·have:=aPL h;grind
  ·cases h
theorem aDP:∀(a b:List Int) (met:List Bool),BM met (a++b)=(BM met a).bind λm=>BM m b
 |[],b,met=>rfl
 |x::r,b,met=>by
  simp only[DM,BM];split
  ·exact aDP r b _
  ·rfl
theorem aBJ:∀(xs:List Int) (met:List Bool),met.length=24->((BM met xs).isSome=true↔(∀x∈xs,0<=x/\x<=23)/\xs.Nodup/\∀x∈xs,met.getD x.toNat true=false)
 |[],met,hm=>by simp[BM]
 |x::r,met,hm=>by
  simp only[BM];by_cases h:(0<=x/\x<=23)/\met.getD x.toNat true=false
  ·rw[aO h,aBJ r _ aj];grind
  grind
def aRS:Option (List Bool)->Out (List Bool) Bool
 |some m=>.brk m
 |none=>.ret false
theorem bK7{s:bH}(hl:s.aV.length<=maxLen):∀d k (met:List Bool),k+d=s.aV.length->met.length=24->loop (uQ s) ((k:Int),met)=some (aRS (BM met (s.aV.drop k))):=by
 intro d;induction d with
 |zero=>
  intro k met hk hm;rw[bB (r:=Out.brk met) (by grind[uQ]),aBY aa];rfl
 |succ d ih=>
  intro k met hk hm;have hk':k<s.aV.length:=aa
  have hd:s.aV.drop k=s.aV[k]::s.aV.drop (k+1):=uI hk';have hst:uQ s ((k:Int),met)=if(0<=s.aV[k]/\s.aV[k]<=23)/\met.getD s.aV[k].toNat true=false then some (.next (((k+1:Nat):Int),met.set s.aV[k].toNat true)) else some (.stop (Out.ret false)):=by
   simp only[uQ];rw[eV,aZ hk'];simp only[aM,yN];generalize s.aV[k]=x;by_cases q:0<=x/\x<=23
   ·obtain⟨j,rfl⟩:=bA7 q.1;have hj:j<met.length:=aa
    have e:met.getD j true=met[j]:=aj
    simp only[q,and_self,decide_true,kY,bV,bR,uP,K8,true_and,e];rw[SF,aZ hj];simp only[aM];cases met[j]
    ·simp only[bV,bR,bT];grind[b7,sV]
    ·simp
   ·rw[iD q];simp only[SG,bT,uP];grind
  rw[hd,BM];by_cases q:(0<=s.aV[k]/\s.aV[k]<=23)/\met.getD s.aV[k].toNat true=false
  ·rw[aO q] at hst ⊢;grind[bG]
  ·rw[aP q] at hst ⊢;rw[bB hst];rfl
def aGE(l:List bH):Prop:=∀s∈l,s.aV.length<=2
instance (l:List bH):Decidable (aGE l):=by unfold aGE;infer_instance
theorem bK8{l:aE}(ho:l.Own.length=9)(hn:(l.Own++l.Global).length<=1000)(hs:∀s∈l.Own++l.Global,s.aV.length<=maxLen):∀d k (met:List Bool),k+d=(l.Own++l.Global).length->met.length=24 ->
  loop (uR l) ((k:Int),met)=some (if aGE (((l.Own++l.Global).drop k).take (9-k))/\(BM met (fJ ((l.Own++l.Global).drop k))).isSome=true then Out.brk () else Out.ret false):=by
 intro d;induction d with
 |zero=>
  intro k met hk hm;rw[aBY aa,aO ⟨by simp[aGE],rfl⟩];simp_all[bB,uR]
 |succ d ih=>
  intro k met hk hm;have hk':k<(l.Own++l.Global).length:=aa
  have hd:(l.Own++l.Global).drop k=(l.Own++l.Global)[k]::(l.Own++l.Global).drop (k+1):=uI hk';have hsk:=hs _ (dF hk');have hf:fJ ((l.Own++l.Global).drop k)=(l.Own++l.Global)[k].aV++fJ ((l.Own++l.Global).drop (k+1)):=by grind[fJ]
  have hin:∀b:Bool,oX (k:Int) met (l.Own++l.Global)[k] b=if b then some (.stop (Out.ret false)) else(match BM met (l.Own++l.Global)[k].aV with|some m=>some (.next (((k+1:Nat):Int),m))|none=>some (.stop (Out.ret false))):=by
   intro b;have h4:=bK7 hsk _ 0 met (aB2 _) hm;rw[show((0:Nat):Int)=0 from rfl,UG] at h4;unfold oX;rw[h4];cases b
   ·simp only[bV,bR,aM];cases BM met (l.Own++l.Global)[k].aV with
    |none=>rfl
    |some m=>simp only[aRS,UU,UT];rw[dO];rfl
   ·rfl
  have hst:uR l ((k:Int),met)=oX (k:Int) met (l.Own++l.Global)[k] (decide (k<9/\2<(l.Own++l.Global)[k].aV.length)):=by
   simp only[uR];rw[aO aj,aZ hk'];simp only[aM];by_cases h9:k<9
   ·rw[eV];congr 1
    (simp_all;omega)
   grind
  rw[hin] at hst;by_cases h2:k<9/\2<(l.Own++l.Global)[k].aV.length
  ·rw[dA h2] at hst;simp only[bT] at hst;rw[bB hst,aP];rintro⟨q,_⟩;have e:9-k=(9-(k+1))+1:=aa
   rw[hd,e,List.take_succ_cons] at q;have:=q _ ZS;omega
  ·rw[iD h2] at hst;simp only[bV,bR] at hst;have hcond:aGE (((l.Own++l.Global).drop k).take (9-k))↔aGE (((l.Own++l.Global).drop (k+1)).take (9-(k+1))):=by
    unfold aGE;by_cases h9:k<9
    ·have e:9-k=(9-(k+1))+1:=aa
     simp_all
    ·have e:9-k=0:=aa
     have e':9-(k+1)=0:=aa
     simp_all
   rw[hf,aDP];cases hg:BM met (l.Own++l.Global)[k].aV with
   |none=>
    simp_all[bB]
   |some m=>
    rw[hg] at hst;rw[bG hst,ih (k+1) m aa (by grind[aPL])];simp_all
theorem VD{l:aE}(h:(iF l).length<=1073741824):pH l=some (decide (LOk l)):=by
 unfold pH BV;by_cases hg:l.Global.length=3
 ·by_cases ho:l.Own.length=9
  ·have n1:((l.Global.length:Int) != 3)=false:=ah
   have n2:((l.Own.length:Int) != 9)=false:=ah
   simp only[n1,n2,bV,bR];rw[SF];have hsl:∀s∈l.Own++l.Global,s.aV.length<=maxLen:=by grind[iF,maxLen,aF0,aLJ]
   have key:=bK8 ho ah hsl (l.Own++l.Global).length 0 (List.replicate 24 false) aa rfl;rw[show((0:Nat):Int)=0 from rfl,UG,Nat.sub_zero] at key;rw[key];have et:(l.Own++l.Global).take 9=l.Own:=aj
   have ef:fJ (l.Own++l.Global)=fJ l.Own++fJ l.Global:=by simp[fJ]
   have hm0:∀j:Nat,j<24->(List.replicate 24 false).getD j true=false:=ai
   have hiff:LOk l↔aGE ((l.Own++l.Global).take 9)/\(BM (List.replicate 24 false) (fJ (l.Own++l.Global))).isSome=true:=by
    rw[aBJ _ _ rfl,et,ef];have hp:(fJ l.Own++fJ l.Global).Perm (iF l):=List.perm_append_comm;constructor
    ·rintro⟨_,_,q1,q2,q3⟩;exact⟨q1,λx hx=>q2 x (hp.mem_iff.1 hx),hp.nodup_iff.2 q3,λx hx=>hm0 _ aj⟩
    ·rintro⟨q1,q2,q3,_⟩;exact⟨hg,ho,q1,λx hx=>q2 x (hp.mem_iff.2 hx),hp.nodup_iff.1 q3⟩
   by_cases q:LOk l
   ·rw[aO (hiff.1 q),dA q];rfl
   ·rw[aP (λx=>q (hiff.2 x)),iD q];rfl
  ·have n1:((l.Global.length:Int) != 3)=false:=ah
   have n2:((l.Own.length:Int) != 9)=true:=ah
   simp_all[LOk]
 ·have n1:((l.Global.length:Int) != 3)=true:=ah
  simp_all[LOk]
def R4(h:Heap)(l:List Int)(c:Int):Prop:=∀x∈l,bM h x=c/\kQ h x<=6
instance (h:Heap) (l:List Int) (c:Int):Decidable (R4 h l c):=by unfold R4;infer_instance
theorem R5{h:Heap}(hs:iC h){s:bH}(hl:s.aV.length<=maxLen)(hc:0<=c):A0 h s c=some (decide (R4 h s.aV c)):=by
 unfold A0;have key:loop (nE h s c) 0=some (if ∀x∈s.aV,bM h x=c/\kQ h x<=6 then Out.brk () else Out.ret false):=by
  have hst:∀k (hk:k<s.aV.length),nE h s c (k:Int)=if bM h s.aV[k]=c/\kQ h s.aV[k]<=6 then some (.next ((k+1:Nat):Int)) else some (.stop (Out.ret false)):=by
   intro k hk;simp only[nE];rw[eV,aZ hk];generalize s.aV[k]=x;simp only[aM,kO hs,yX];by_cases q:bM h x=c
   ·have n1:(bM h x != c)=false:=by simp only[bne_eq_false_iff_eq];exact q
    simp only[n1,bV,bR,I3 hs (show 0<=bM h x by omega),aM,sV (V7 hk hl)];by_cases q2:kQ h x<=6
    ·rw[aH0,aO ⟨q,q2⟩]
    ·rw[eV,aP (λx=>q2 x.2)]
   ·have n1:(bM h x != c)=true:=by simp only[bne_iff_ne];exact q
    simp only[n1,bT];rw[aP (λx=>q x.1)]
  refine MF (f:=nE h s c) s.aV (λk=>(k:Int)) (λx=>bM h x=c/\kQ h x<=6) _ _ (λk hk hp=>?_) (λk hk hp=>?_) ?_
  ·rw[hst k hk,aO hp]
  ·rw[hst k hk,aP hp]
  ·simp[nE]
 rw[key];by_cases q:∀x∈s.aV,bM h x=c/\kQ h x<=6
 ·rw[aO q,dA (show R4 h s.aV c from q)];rfl
 ·rw[aP q,iD (show ¬R4 h s.aV c from q)];rfl
def fO(l:List bH)(k:Nat):List Int:=(l.getD k ⟨[]⟩).aV
theorem eB{l:List bH}(h:k<l.length):l[k].aV=fO l k:=by grind[fO]
def aDQ(m:Mem)(k:Nat):Prop:=R4 m.Heap (fO m.aE.Global k) (k:Int)
def ZM(m:Mem)(k:Nat):Prop:=R4 m.Heap (fO m.aE.Own k) ((k % 3:Nat):Int)
instance (m:Mem) (k:Nat):Decidable (aDQ m k):=by unfold aDQ;infer_instance
instance (m:Mem) (k:Nat):Decidable (ZM m k):=by unfold ZM;infer_instance
instance (m:Mem):Decidable (∀k,k<3->aDQ m k):=Nat.decidableBallLT 3 λk _=>aDQ m k
instance (m:Mem):Decidable (∀k,k<9->ZM m k):=Nat.decidableBallLT 9 λk _=>ZM m k
instance (m:Mem) (c:Nat):Decidable (∀w,w<3->ZM m (w*3+c)):=Nat.decidableBallLT 3 λw _=>ZM m (w*3+c)
instance (m:Mem):Decidable (∀k,k<3->aDQ m k/\∀w,w<3->ZM m (w*3+k)):=Nat.decidableBallLT 3 λk _=>aDQ m k/\∀w,w<3->ZM m (w*3+k)
def lX(m:Mem):Prop:=(HOk m.Heap/\LOk m.aE)/\(∀k,k<3->aDQ m k)/\∀k,k<9->ZM m k
instance (m:Mem):Decidable (lX m):=by unfold lX;infer_instance
theorem LOk.aUN{l:aE}(h:LOk l)(hb:(iF l).length<=1073741824):(∀s∈l.Global,s.aV.length<=1073741824)/\∀s∈l.Own,s.aV.length<=1073741824:=by grind[iF,aF0,aLJ]
theorem BN(hb:m.Heap.Bytes.length<=maxLen)(hl:(iF m.aE).length<=1073741824):xH m=some (decide (lX m)):=by
 unfold xH IL;rw[NP hb,VD hl];by_cases h1:HOk m.Heap
 ·by_cases h2:LOk m.aE
  ·have hmx:(1073741824:Nat)<=maxLen:=by simp[maxLen]
   have hsl:=LOk.aUN h2 hl;simp only[dA h1,dA h2,aM,kY,bV,bR];have k3:loop (vS m) 0=some (if ∀k,k<9->ZM m k then Out.brk () else Out.ret false):=by
    have hst:∀w:Nat,w<9->vS m (w:Int)=if ZM m w then some (.next ((w+1:Nat):Int)) else some (.stop (Out.ret false)):=by
     intro w hw;have hk:w<m.aE.Own.length:=by rw[h2.2.1];omega
     have hlen:=hsl.2 _ (dF hk);have em:Int.tmod (w:Int) 3=((w % 3:Nat):Int):=aj
     simp only[vS];rw[eV];simp only[aM,aZ hk,em];rw[R5 h1.1 aa aa,eB hk,dO];by_cases q:ZM m w
     ·rw[aO q,dA (show R4 m.Heap (fO m.aE.Own w) ((w % 3:Nat):Int) from q)];rfl
     ·rw[aP q,iD (show ¬R4 m.Heap (fO m.aE.Own w) ((w % 3:Nat):Int) from q)];rfl
    refine XW (f:=vS m) 9 (λk=>(k:Int)) (λw=>ZM m w) _ _ (λk hk hx=>?_) (λk hk hx=>?_) ?_
    ·grind
    ·grind
    ·simp[vS,h2.2.1]
   have k2:loop (vT m) 0=some (if ∀k,k<3->aDQ m k then Out.brk () else Out.ret false):=by
    have hst:∀w:Nat,w<3->vT m (w:Int)=if aDQ m w then some (.next ((w+1:Nat):Int)) else some (.stop (Out.ret false)):=by
     intro w hw;have hk:w<m.aE.Global.length:=by rw[h2.1];omega
     have hlen:=hsl.1 _ (dF hk);simp only[vT];rw[eV];simp only[aM,aZ hk];rw[R5 h1.1 aa aa,eB hk,dO];by_cases q:aDQ m w
     ·rw[aO q,dA (show R4 m.Heap (fO m.aE.Global w) (w:Int) from q)];rfl
     ·rw[aP q,iD (show ¬R4 m.Heap (fO m.aE.Global w) (w:Int) from q)];rfl
    refine XW (f:=vT m) 3 (λk=>(k:Int)) (λw=>aDQ m w) _ _ (λk hk hx=>?_) (λk hk hx=>?_) ?_
    ·grind
    ·grind
    ·simp[vT,h2.1]
   rw[k2];by_cases q:∀k,k<3->aDQ m k
   ·rw[aO q];simp only[aM,Z3,Z2];rw[k3];by_cases q2:∀k,k<9->ZM m k
    ·rw[aO q2,dA (show lX m from⟨⟨h1,h2⟩,q,q2⟩)];rfl
    ·rw[aP q2,iD (λx:lX m=>q2 x.2.2)];rfl
   ·rw[aP q,iD (λx:lX m=>q x.2.1)];rfl
  grind[lX]
 grind[lX]
theorem JW{l:List bH}{s:bH}(h:s∈l):s.aV.length<=(fJ l).length:=by grind[aF0,aLJ]
theorem vG(l:aE):(iF l).length=(fJ l.Global).length+(fJ l.Own).length:=by simp[iF]
def DG(m:Mem):Prop:=m.Heap.Bytes.length<=1048576/\m.Heap.Class.length<=1048576/\m.aE.Global.length<=1048576/\m.aE.Own.length<=1048576/\(iF m.aE).length<=1048576
theorem DG.aUN(h:DG m):(∀s∈m.aE.Global,s.aV.length<=1048576)/\∀s∈m.aE.Own,s.aV.length<=1048576:=by have:=vG m.aE;have h5:=h.2.2.2.2;exact⟨λs hm=>by have:=JW hm;omega,λs hm=>by have:=JW hm;omega⟩
def POk(e:Int)(p:wU):Prop:=(0<=p.aL/\p.aL<=e)/\(0<=p.Seen/\p.Seen<=2)/\(p.On=false->p=⟨false,0,false,0⟩)
instance (e:Int) (p:wU):Decidable (POk e p):=by unfold POk;infer_instance
def KN(c:aC):Prop:=(0<=c.aL/\c.aL<=100000)/\c.cO.length=3/\∀p∈c.cO,POk c.aL p
instance (c:aC):Decidable (KN c):=by unfold KN;infer_instance
theorem kP(c:aC):zF c=some (decide (KN c)):=by
 unfold zF;rw[fX];by_cases h1:0<=c.aL/\c.aL<=100000
 ·by_cases h2:c.cO.length=3
  ·simp only[aM,h1,h2,vA];have key:∀k:Nat,k<=3->loop (uZ c) (k:Int)=some (if ∀p∈c.cO.drop k,POk c.aL p then Out.brk () else Out.ret false):=by
    refine aQL 3 _ λk hk=>?_;by_cases h3:k<3
    ·have hd:c.cO.drop k=c.cO[k]::c.cO.drop (k+1):=uI aa;simp only[uZ];rw[eV,XX];simp only[aM,fX,oZ,hd];rw[sV (by simp[maxLen];omega)];generalize c.cO[k]=p;have hp:POk c.aL p↔decide (0<=p.aL/\p.aL<=c.aL)=true/\decide (0<=p.Seen/\p.Seen<=2)=true/\(p.On=false->decide (p=⟨false,0,false,0⟩)=true):=by simp only[POk,decide_eq_true_eq]
     simp only[List.forall_mem_cons,hp];generalize decide (0<=p.aL/\p.aL<=c.aL)=b1;generalize decide (0<=p.Seen/\p.Seen<=2)=b2;generalize decide (p=⟨false,0,false,0⟩)=b3;generalize p.On=b4;cases b1<;>cases b2<;>cases b3<;>cases b4<;>simp[h3]
    ·left;obtain rfl:k=3:=aa
     simp[uZ,aBY (show c.cO.length<=3 by omega)]
   have:=key 0 aa;simp only[Int.ofNat_zero,UG] at this;have e:decide (KN c)=if ∀p∈c.cO,POk c.aL p then true else false:=by have:KN c↔∀p∈c.cO,POk c.aL p:=⟨λh=>h.2.2,λh=>⟨h1,h2,h⟩⟩;simp[this]
   rw[e];simp only[Int.cast_ofNat_Int] at *;have t0:loop (uZ c) 0=_:=this;by_cases h5:∀p∈c.cO,POk c.aL p
   ·rw[aO h5] at t0 ⊢;rw[t0];simp[KH,U6]
   ·rw[aP h5] at t0 ⊢;rw[t0];simp[KH]
  grind[vA,KN]
 grind[vA,KN]
theorem aUP(p:wU)(c:aC):xJ p c=some (!decide (POk c.aL p)):=by
 unfold xJ mA;rw[dP,dP];have hp:decide (POk c.aL p)=(decide (0<=p.aL/\p.aL<=c.aL) && (decide (0<=p.Seen/\p.Seen<=2) && (p.On || decide (p=⟨false,0,false,0⟩)))):=by rw[HM];simp only[POk,decide_eq_true_eq,uG,Bool.or_eq_true];grind
 grind
theorem aRT{l:List wU}(hl:l.length<=maxLen)(f:wU->Bool):l9 l (λx=>some (f x))=some (l.any f):=by
 unfold l9 xI;have key:∀k:Nat,k<=l.length->loop (jV l (λx=>some (f x))) (k:Int)=some (if(l.drop k).any f then Out.ret ((k+(l.drop k).findIdx f:Nat):Int) else Out.brk ()):=by
  refine aQL l.length _ λk hk=>?_;by_cases h3:k<l.length
  ·have hd:l.drop k=l[k]::l.drop (k+1):=uI h3;simp only[jV];rw[eV,aZ h3,sV (V7 h3 hl),hd];grind
  grind[jV]
 have t0:loop (jV l (λx=>some (f x))) 0=_:=key 0 aa;rw[t0];simp only[UG];by_cases h:l.any f=true
 ·simp[h,rQ]
 grind[rQ,DT]
theorem vH{c:aC}(hc:c.cO.length<=maxLen):pI c=some (decide (KN c)):=by
 unfold pI uS;rw[dP];have e:(λy0=>xJ y0 c)=λy0=>some (!decide (POk c.aL y0)):=funext λy=>aUP y c;rw[e,aRT hc];by_cases h1:0<=c.aL/\c.aL<=100000
 ·by_cases h2:c.cO.length=3
  ·have:KN c↔∀p∈c.cO,POk c.aL p:=⟨λh=>h.2.2,λh=>⟨h1,h2,h⟩⟩;grind
  grind[KN]
 grind[KN]
def dW(l:List bU):List eR:=l.flatMap bU.Rows
theorem NQ{l:List bU}(h:k<l.length):dW (l.take (k+1))=dW (l.take k)++l[k].Rows:=by grind[dW,EA]
theorem aLK(l:List bU)(k:Nat):(dW (l.take k)).length<=(dW l).length:=by grind[dW,ZV]
theorem a3D(l:List bU)(h:k<l.length):l[k].Rows.length<=(dW l).length:=by have h1:=aLK l (k+1);grind[NQ]
theorem Y0{l:List bU}{s:bU}(h:s∈l):s.Rows.length<=(dW l).length:=by grind[aF0,a3D]
theorem aLL{l:List bU}(h:(dW l).length<=1073741824)(hl:l.length<=maxLen):W6 l=some (dW l):=by
 unfold W6;have k1:loop (yD l) ([],0)=some (dW l):=by
  refine iW (f:=yD l) l.length (λk=>(dW (l.take k),(k:Int))) _ (λk hk=>?_) ?_
  ·have h1:=aLK l (k+1);rw[NQ hk] at h1;simp only[yD];rw[eV,aZ hk];grind[b7,NQ,sV]
  grind[yD]
 rw[k1];rfl
def lN(h:Int):Prop:=(32<=h/\h<=223)/\h % 32<24
instance (h:Int):Decidable (lN h):=by unfold lN;infer_instance
theorem sH(h:Int):vY h=some (decide (lN h)):=by grind[vY,H5,lN,fX,NN]
theorem g8(h:Int):iS h=some (decide (lN h)):=by grind[iS,yY,lN,dP,NN]
theorem lN.mod{h:Int}(q:lN h):Int.tmod h 32=h % 32/\0<=h % 32/\h % 32<=23:=by grind[lN]
theorem jS(h:Int):mK h=some (if lN h then h % 32 else -1):=by grind[mK,sH,lN]
def PE(r:eR):Prop:=lN r.Handle/\0<=r.aL/\r.aL<=100000
instance (r:eR):Decidable (PE r):=by unfold PE;infer_instance
def HK(r:eR):Int:=r.Handle % 32
def zY(l:List bU):Prop:=l.length=3/\(dW l).length<=24/\(∀r∈dW l,PE r)/\((dW l).map HK).Nodup
instance (l:List bU):Decidable (zY l):=by unfold zY;infer_instance
def goR:List Bool->List eR->Option (List Bool)
 |met,[]=>some met
 |met,r::t=>if PE r/\met.getD (HK r).toNat true=false then goR (met.set (HK r).toNat true) t else none
theorem a00:∀{xs:List eR} {met m:List Bool},goR met xs=some m->m.length=met.length
 |[],met,m,h=>by grind[goR]
 |x::r,met,m,h=>by
  simp only[goR] at h;split at h
  ·have:=a00 h;grind
  ·cases h
theorem aLM:∀(a b:List eR) (met:List Bool),goR met (a++b)=(goR met a).bind λm=>goR m b
 |[],b,met=>rfl
 |x::r,b,met=>by
  simp only[DM,goR];split
  ·exact aLM r b _
  ·rfl
theorem aUQ:∀(xs:List eR) (met:List Bool),(goR met xs).isSome=true↔(∀r∈xs,PE r)/\(BM met (xs.map HK)).isSome=true
 |[],met=>by simp[goR,BM]
 |x::r,met=>by
  simp only[goR,AT,BM];by_cases h:PE x
  ·have hm:=h.1.mod;have hs:0<=HK x/\HK x<=23:=hm.2;by_cases h2:met.getD (HK x).toNat true=false
   ·rw[aO ⟨h,h2⟩,aO ⟨hs,h2⟩,aUQ r _];simp[h]
   grind
  grind
theorem a3E{s:bU}(hl:s.Rows.length<=maxLen):∀d k (met:List Bool),k+d=s.Rows.length->met.length=24->loop (uT s) ((k:Int),met)=some (aRS (goR met (s.Rows.drop k))):=by
 intro d;induction d with
 |zero=>
  intro k met hk hm;rw[bB (r:=Out.brk met) (by grind[uT]),aBY aa];rfl
 |succ d ih=>
  intro k met hk hm;have hk':k<s.Rows.length:=aa
  have hd:s.Rows.drop k=s.Rows[k]::s.Rows.drop (k+1):=uI hk';have hst:uT s ((k:Int),met)=if PE s.Rows[k]/\met.getD (HK s.Rows[k]).toNat true=false then some (.next (((k+1:Nat):Int),met.set (HK s.Rows[k]).toNat true)) else some (.stop (Out.ret false)):=by
   simp only[uT];rw[eV,aZ hk'];simp only[aM,g8,dP];generalize s.Rows[k]=x;by_cases q:lN x.Handle
   ·by_cases q2:0<=x.aL/\x.aL<=100000
    ·have hm2:=q.mod;obtain⟨j,hj0⟩:=bA7 hm2.2.1;have hj:j<met.length:=aa
     have e:met.getD j true=met[j]:=aj
     have hr:PE x:=⟨q,q2⟩;simp only[q,q2,and_self,decide_true,kY,bV,bR,mI,hm2.1,hj0,K8,hr,true_and,HK,e];rw[SF,aZ hj];simp only[aM];cases met[j]
     ·simp only[bV,bR,bT];grind[b7,sV]
     ·simp
    ·rw[dA q,iD q2];simp only[kY,SG,bV,bR,bT,mI];rw[aP (λy:PE x/\_=>q2 y.1.2)]
   simp_all[mI,PE]
  rw[hd,goR];by_cases q:PE s.Rows[k]/\met.getD (HK s.Rows[k]).toNat true=false
  ·rw[aO q] at hst ⊢;grind[bG]
  ·rw[aP q] at hst ⊢;rw[bB hst];rfl
theorem a3F{l:List bU}(hn:l.length<=1000)(hs:∀s∈l,s.Rows.length<=maxLen):∀d k (met:List Bool),k+d=l.length->met.length=24 ->
  loop (uU l) ((k:Int),met)=some (if(goR met (dW (l.drop k))).isSome=true then Out.brk () else Out.ret false):=by
 intro d;induction d with
 |zero=>
  simp_all[goR,dW,bB,uU]
 |succ d ih=>
  intro k met hk hm;have hk':k<l.length:=aa
  have hd:l.drop k=l[k]::l.drop (k+1):=uI hk';have hsk:=hs _ (dF hk');have hf:dW (l.drop k)=l[k].Rows++dW (l.drop (k+1)):=by grind[dW]
  have h4:=a3E hsk _ 0 met (aB2 _) hm;rw[show((0:Nat):Int)=0 from rfl,UG] at h4;have hst:uU l ((k:Int),met)=(match goR met l[k].Rows with|some m=>some (.next (((k+1:Nat):Int),m))|none=>some (.stop (Out.ret false))):=by
   simp only[uU];rw[eV,aZ hk'];simp only[aM];rw[h4];cases goR met l[k].Rows with
   |none=>rfl
   |some m=>simp only[aM,aRS,UY,UX];grind[cW]
  rw[hf,aLM];cases hg:goR met l[k].Rows with
  |none=>
   simp_all[bB]
  |some m=>
   rw[hg] at hst;rw[bG hst,ih (k+1) m aa (by grind[a00])];simp
theorem aDR{l:List bU}(hn:l.length<=1000)(h:(dW l).length<=1073741824):E8 l=some ((dW l).length:Int):=by
 unfold E8;have key:loop (pJ l) (0,0)=some ((dW l).length:Int):=by
  refine iW (f:=pJ l) l.length (λk=>(((dW (l.take k)).length:Int),(k:Int))) _ (λk hk=>?_) ?_
  ·have h1:=aLK l (k+1);rw[NQ hk,D8] at h1;simp only[pJ];rw[eV,aZ hk];grind[cW,NQ]
  grind[pJ]
 rw[key];rfl
theorem CT{l:List bU}(h:(dW l).length<=1073741824):tC l=some (decide (zY l)):=by
 unfold tC;by_cases h3:l.length=3
 ·have n1:((l.length:Int) != 3)=false:=ah
  have hb:(1073741824:Nat)<=maxLen:=by simp[maxLen]
  simp only[n1,bV,bR];have key:=a3F (l:=l) aa (λs hs=>by have:=Y0 hs;omega) l.length 0 (List.replicate 24 false) aa rfl;rw[show((0:Nat):Int)=0 from rfl,UG] at key;rw[key];have hm0:∀j:Nat,j<24->(List.replicate 24 false).getD j true=false:=ai
  have hiff:zY l↔(dW l).length<=24/\(goR (List.replicate 24 false) (dW l)).isSome=true:=by
   rw[aUQ,aBJ _ _ rfl];have hr:(∀r∈dW l,PE r)->∀x∈(dW l).map HK,0<=x/\x<=23:=by intro q x hx;obtain⟨r,hr,rfl⟩:=AU.1 hx;exact(q r hr).1.mod.2
   constructor
   ·rintro⟨_,q1,q2,q3⟩;grind
   ·rintro⟨q1,q2,_,q3,_⟩;exact⟨h3,q1,q2,q3⟩
  by_cases q:(goR (List.replicate 24 false) (dW l)).isSome=true
  ·rw[aO q];simp only[aM,UZ,UW];rw[aDR aa h];grind
  ·rw[aP q,iD (λx=>q (hiff.1 x).2)];rfl
 ·have n1:((l.length:Int) != 3)=true:=ah
  simp_all[zY]
def oQ(h:Int):Prop:=h=0\/lN h
instance (h:Int):Decidable (oQ h):=by unfold oQ;infer_instance
def aH2(z:List Int):Prop:=z.length=3/\∀h∈z,oQ h
instance (z:List Int):Decidable (aH2 z):=by unfold aH2;infer_instance
theorem aOO(hl:z.length<=maxLen):S6 z=some (decide (aH2 z)):=by
 unfold S6 IM;have e:(λy0=>LF y0)=λy:Int=>some (!decide (oQ y)):=by
  funext y;unfold LF m8 xK;rw[g8];by_cases q:y=0
  ·simp_all[oQ]
  grind[oQ]
 rw[e,GM hl,YX];by_cases h3:z.length=3
 ·have n:((z.length:Int) == 3)=true:=ah
  have:aH2 z↔∀h∈z,oQ h:=⟨λa=>a.2,λa=>⟨h3,a⟩⟩;grind
 ·have n:((z.length:Int) == 3)=false:=ah
  simp_all[aH2]
theorem aDS(l:List O)(f:O->Bool){body:Int->Option (Step Int (Out Unit Int))}(hb:∀k (hk:k<l.length),body (k:Int)=if f l[k] then some (.stop (.ret (k:Int))) else some (.next ((k+1:Nat):Int)))(he:body (l.length:Int)=some (.stop (.brk ()))) :
  ∃o,loop body 0=some o/\match o with|.brk _=>l.any f=false|.ret r=>0<=r/\l.any f=true:=by
 have key:=a3A (f:=body) l.length (λk=>(k:Int)) (λk=>if(l.drop k).any f then Out.ret ((k+(l.drop k).findIdx f:Nat):Int) else Out.brk ()) (λk hk=>by
  by_cases h:k<l.length
  ·have hd:l.drop k=l[k]::l.drop (k+1):=uI h;grind
  grind) 0 (jD _)
 grind
theorem aAG{l:List eR}(hl:l.length<=maxLen)(f:eR->Bool):jG l (λx=>some (f x))=some (l.any f):=by
 obtain⟨o,e,h⟩:=aDS l f (body:=lM l (λx=>some (f x))) (λk hk=>by
  simp only[lM];rw[eV,aZ hk,sV (V7 hk hl)];rfl) (by simp[lM])
 grind[jG,wC,A2,A1]
theorem X5{l:List bU}(hl:l.length<=maxLen)(f:bU->Bool)(g:bU->Option Bool)(hg:∀x∈l,g x=some (f x)):i4 l g=some (l.any f):=by
 obtain⟨o,e,h⟩:=aDS l f (body:=kU l g) (λk hk=>by
  simp only[kU];rw[eV,aZ hk,sV (V7 hk hl)];grind) (by simp[kU])
 grind[i4,tD,zV,zU]
theorem X6{l:List bH}(hl:l.length<=maxLen)(f:bH->Bool)(g:bH->Option Bool)(hg:∀x∈l,g x=some (f x)):i5 l g=some (l.any f):=by
 obtain⟨o,e,h⟩:=aDS l f (body:=kV l g) (λk hk=>by
  simp only[kV];rw[eV,aZ hk,sV (V7 hk hl)];grind) (by simp[kV])
 grind[i5,tE,zX,zW]
theorem contains_eq(hl:l.length<=maxLen)(v:Int):i7 l v=some (decide (v∈l)):=by
 obtain⟨o,e,h⟩:=aDS l (λx=>v == x) (body:=fE l v) (λk hk=>by
  simp only[fE];rw[eV,aZ hk,sV (V7 hk hl)];rfl) (by simp[fE])
 have ha:l.any (λx=>v == x)=decide (v∈l):=aj
 grind[i7,nG,z7,KY]
theorem Y1{l:List bH}:x∈fJ l↔∃s∈l,x∈s.aV:=aFZ
section
variable {m:Mem} (hsh:iC m.Heap) (hl:(iF m.aE).length<=1073741824) (hg:m.aE.Global.length<=maxLen) (ho:m.aE.Own.length<=maxLen)
include hl hg ho
theorem aLN(s:Int):W7 m.aE s=some (decide (s∈iF m.aE)):=by grind[maxLen,W7,aOM,aON]
theorem X7(s:Int):JD m.aE s=some (decide (s∈iF m.aE)):=by
 have hb:(1073741824:Nat)<=maxLen:=by simp[maxLen]
 have hal:=vG m.aE;have e1:∀x∈m.aE.Global,qH x s=some (decide (s∈x.aV)):=λx hx=>by have:=JW hx;grind[qH,contains_eq]
 have e2:∀x∈m.aE.Own,qH x s=some (decide (s∈x.aV)):=λx hx=>by have:=JW hx;grind[qH,contains_eq]
 unfold JD E9;rw[X6 hg (λx=>decide (s∈x.aV)) _ e1,X6 ho (λx=>decide (s∈x.aV)) _ e2];have a1:(m.aE.Global.any λx=>decide (s∈x.aV))=decide (s∈fJ m.aE.Global):=by rw[HM];simp[Y1]
 have a2:(m.aE.Own.any λx=>decide (s∈x.aV))=decide (s∈fJ m.aE.Own):=by rw[HM];simp[Y1]
 grind[iF]
def eP(m:Mem)(s:Int):Int:=if bM m.Heap s<0 then 0 else if s∈iF m.aE then 1 else if 6<kQ m.Heap s then 2 else 3
include hsh
theorem aH3(s:Int):TE m s=some (eP m s):=by grind[TE,eP,CS,aLN,wA]
theorem aH4(s:Int):LG m s=some (eP m s):=by grind[LG,eP,kO,X7,I3]
def mU(m:Mem)(h:Int):Prop:=lN h/\eP m (h % 32)=3/\kQ m.Heap (h % 32)=h/32
instance (m:Mem) (h:Int):Decidable (mU m h):=by unfold mU;infer_instance
omit hl hg ho hsh in
theorem dQ{m:Mem}(h:eP m s=3):0<=bM m.Heap s:=by grind[eP]
theorem VE(h:Int):TF m h=some (decide (mU m h)):=by
 unfold TF CL;rw[sH,jS];by_cases q:lN h
 ·have hm:=q.mod;rw[dA q,aO q];simp only[aM,bT,aH3 hsh hl hg ho];by_cases q2:eP m (h % 32)=3
  ·have n:(eP m (h % 32) == 3)=true:=aj
   have eg:NA h=some (h/32):=by grind[NA,lN,sH,cW]
   rw[n,wA hsh (dQ q2),eg];simp only[bT,aM];congr 1;rw[HM];simp only[beq_iff_eq,decide_eq_true_eq];exact⟨λa=>⟨q,q2,a⟩,λa=>a.2.2⟩
  grind[mU]
 grind[mU]
theorem GO(h:Int):xM m h=some (decide (mU m h)):=by
 unfold xM xL;rw[g8];by_cases q:lN h
 ·have hm:=q.mod;rw[dA q,hm.1];simp only[aM,bT,aH4 hsh hl hg ho];by_cases q2:eP m (h % 32)=3
  ·have n:(eP m (h % 32) == 3)=true:=aj
   have eg:aY (Int.tdiv h 32)=h/32:=by grind[lN,cW]
   rw[n,I3 hsh (dQ q2),eg];simp only[bT,aM];congr 1;rw[HM];simp only[beq_iff_eq,decide_eq_true_eq];exact⟨λa=>⟨q,q2,a⟩,λa=>a.2.2⟩
  grind[mU]
 grind[mU]
end
def PF(b:aA)(r:eR):Prop:=mU b.Mem r.Handle/\r.aL<=b.aC.aL
instance (b:aA) (r:eR):Decidable (PF b r):=by unfold PF;infer_instance
def m5(b:aA):Prop:=(lX b.Mem/\KN b.aC/\zY b.aQ/\aH2 b.qT)/\∀r∈dW b.aQ,PF b r
instance (b:aA):Decidable (m5 b):=by unfold m5;infer_instance
def T2(b:aA):Prop:=DG b.Mem/\b.aC.cO.length<=1048576/\b.aQ.length<=1048576/\(dW b.aQ).length<=1048576/\b.qT.length<=1048576
theorem T2.rows{b:aA}(h:T2 b):∀s∈b.aQ,s.Rows.length<=1048576:=λs hs=>by have:=Y0 hs;have:=h.2.2.2.1;omega
section
variable {b:aA} (hf:b.Mem.Heap.Bytes.length<=maxLen/\(iF b.Mem.aE).length<=1073741824/\b.aC.cO.length<=maxLen/\b.aQ.length<=maxLen/\(dW b.aQ).length<=1073741824/\b.qT.length<=maxLen)
include hf
theorem aLO:O1 b=some (decide (m5 b)):=by
 obtain⟨f1,f2,f3,f4,f5,f6⟩:=hf;unfold O1 rR;rw[BN f1 f2,vH f3,CT f5,aOO f6];by_cases q1:lX b.Mem
 ·by_cases q2:KN b.aC
  ·by_cases q3:zY b.aQ
   ·by_cases q4:aH2 b.qT
    ·have hg:b.Mem.aE.Global.length<=maxLen:=by rw[q1.1.2.1];simp[maxLen]
     have ho:b.Mem.aE.Own.length<=maxLen:=by rw[q1.1.2.2.1];simp[maxLen]
     have hmx:(1073741824:Nat)<=maxLen:=by simp[maxLen]
     simp only[dA q1,dA q2,dA q3,dA q4,aM,kY,bV,bR];have e1:(λy0=>BX y0 b)=λr:eR=>some (!decide (PF b r)):=by funext r;unfold BX tF;rw[GO q1.1.1.1 f2 hg ho];grind[PF]
     have e2:∀l∈b.aQ,(λy0=>IN y0 b) l=some (!decide (∀r∈l.Rows,PF b r)):=λl hl=>by have:=Y0 hl;simp only[IN];rw[e1,aAG aa,YX];rfl
     rw[X5 f4 _ _ e2,YX];have hiff:m5 b↔∀l∈b.aQ,∀r∈l.Rows,PF b r:=by
      constructor
      ·intro x l hl r hr;exact x.2 r (aFZ.2 ⟨l,hl,hr⟩)
      ·intro x;refine⟨⟨q1,q2,q3,q4⟩,λr hr=>?_⟩;obtain⟨l,hl,hr⟩:=aFZ.1 hr;grind
     grind
    grind[m5]
   grind[m5]
  grind[m5]
 grind[m5]
end
theorem T3{s:List aU}{p:aU->Bool}(hl:s.length<=4611686018427387904) :
  (∃j,∃h:j<s.length,(∀i (h:i<s.length),i<j->p s[i]=false)/\p s[j]=true/\cV s (λy=>some (p y))=some (j:Int))\/((∀i (h:i<s.length),p s[i]=false)/\cV s (λy=>some (p y))=some (-1)):=by
 rcases R0 (f:=oN s (λy=>some (p y))) (p:=p) hl (λk=>by
  simp only[oN];by_cases h:k<s.length
  ·rw[dif_pos h,eV,aZ h,aM,aM,dO];rfl
  grind) s.length 0 aa with ⟨j,h,_,h2,h3,h4⟩|⟨h1,h2⟩
 ·refine .inl ⟨j,h,λi hi a=>h2 i hi (jD _) a,h3,?_⟩;unfold cV;rw[show(0:Int)=((0:Nat):Int) from rfl,h4];rfl
 ·refine .inr ⟨λi hi=>h1 i hi (jD _),?_⟩;unfold cV;rw[show(0:Int)=((0:Nat):Int) from rfl,h2];rfl
theorem aGF{s:List Seen}{p:Seen->Bool}(hl:s.length<=4611686018427387904) :
  (∃j,∃h:j<s.length,(∀i (h:i<s.length),i<j->p s[i]=false)/\p s[j]=true/\eY s (λy=>some (p y))=some (j:Int))\/((∀i (h:i<s.length),p s[i]=false)/\eY s (λy=>some (p y))=some (-1)):=by
 rcases R0 (f:=jH s (λy=>some (p y))) (p:=p) hl (λk=>by
  simp only[jH];by_cases h:k<s.length
  ·rw[dif_pos h,eV,aZ h,aM,aM,dO];rfl
  grind) s.length 0 aa with ⟨j,h,_,h2,h3,h4⟩|⟨h1,h2⟩
 ·refine .inl ⟨j,h,λi hi a=>h2 i hi (jD _) a,h3,?_⟩;unfold eY;rw[show(0:Int)=((0:Nat):Int) from rfl,h4];rfl
 ·refine .inr ⟨λi hi=>h1 i hi (jD _),?_⟩;unfold eY;rw[show(0:Int)=((0:Nat):Int) from rfl,h2];rfl
theorem aOP{s:List aU}{p:aU->Bool}(hl:s.length<=4611686018427387904):jW s (λy=>some (p y))=some (s.filter λx=>!p x):=by
 unfold jW;rcases T3 (p:=p) hl with ⟨j,h,h1,h2,h3⟩|⟨h1,h3⟩
 ·have ne:¬(((j:Int) == -1)=true):=ae
  rw[h3,aM,aP ne,dO];obtain⟨M,k,g1,g2,g3,g4⟩:=aIS (p:=p) (n:=s.length) (f:=kE (λy=>some (p y))) hl (λL i j h hn hi=>by
   simp only[kE];rw[eV,aZ h,aM,aM];by_cases hp:p L[j]=true
   ·rw[aO hp,aP (by simp[hp])];grind[iL,cW]
   ·rw[aP hp,aO aj,XX,aM];grind[iL,cW]) (λL i j h=>by
   simp_all[kE]) (s.length-(j+1)) s j (j+1) aa rfl aa
  grind[xQ,xP,b7,eZ,aPI,aUJ]
 ·rw[h3,aM,aO ak,List.filter_eq_self.2];grind[V4]
theorem aRU{O:Type}{q:O->Bool}:∀{s:List O} {j:Nat} (h:j<s.length),(∀i (h:i<s.length),i<j->q s[i]=true)->q s[j]=false->s.takeWhile q=s.take j/\s.dropWhile q=s.drop j
 |[],j,h,_,_=>by cases h
 |x::r,0,h,_,h2=>by simp_all
 |x::r,j + 1,h,h1,h2=>by have hx:q x=true:=h1 0 (Nat.zero_lt_succ _) (Nat.zero_lt_succ _);have:=aRU (s:=r) (j:=j) aj (λi hi hj=>h1 (i+1) aa aa) h2;simp_all
theorem bIA{q:O->Bool}{s:List O}(h:∀i (h:i<s.length),q s[i]=true):s.takeWhile q=s/\s.dropWhile q=[]:=by
 have h':∀x∈s,q x=true:=λx hx=>by grind[V4]
 clear h;induction s with
 |nil=>simp
 |cons x r ih=>
  simp_all
def vI(l:List aU)(x:aU):List aU:=(l.filter λy=>!(y.Key == x.Key)).takeWhile (λy=>!decide (x.Key<y.Key))++[x]++(l.filter λy=>!(y.Key == x.Key)).dropWhile (λy=>!decide (x.Key<y.Key))
theorem aFH{l:List aU}(hl:l.length<=1000)(x:aU):IX l x=some (vI l x):=by
 unfold IX nQ vI;rw[OD];simp only[aM,V5];have hd:jW l (λy0=>KA y0 x)=some (l.filter λy=>!(y.Key == x.Key)):=aOP (p:=λy=>y.Key == x.Key) aa;rw[hd,aM];have hlen:(l.filter λy=>!(y.Key == x.Key)).length<=1000:=lO (aSY _ _) hl;generalize (l.filter λy=>!(y.Key == x.Key))=o at hlen ⊢;have hi:(∃j,∃h:j<o.length,(∀i (h:i<o.length),i<j->decide (x.Key<o[i].Key)=false)/\decide (x.Key<o[j].Key)=true/\cV o (λy0=>B6 y0 x)=some (j:Int))\/((∀i (h:i<o.length),decide (x.Key<o[i].Key)=false)/\cV o (λy0=>B6 y0 x)=some (-1)):=T3 (p:=λy=>decide (x.Key<y.Key)) aa;rcases hi with ⟨j,h,h1,h2,h3⟩|⟨h1,h3⟩
 ·obtain⟨t1,t2⟩:=aRU (q:=λy:aU=>!decide (x.Key<y.Key)) h (λi hi a=>aj) (by simp[h2]);rw[h3,aM,gH,t1,t2];grind[rX,rA,b7]
 ·obtain⟨t1,t2⟩:=bIA (s:=o) (q:=λy:aU=>!decide (x.Key<y.Key)) (λi hi=>aj);rw[h3,aM,aO ai,t1,t2];grind[rX,rA,b7,List.drop_length]
def OE(l:List aU)(k:Int):aU×Bool:=match l.find? (λy=>y.Key == k) with|some x=>(x,true)|none=>(⟨0,false,0⟩,false)
theorem aLP{p:O->Bool}{s:List O}{j:Nat}(h:j<s.length)(h1:∀i (h:i<s.length),i<j->p s[i]=false)(h2:p s[j]=true):s.find? p=some s[j]:=by grind[List.find?_eq_some_iff_getElem]
theorem a01{p:O->Bool}{s:List O}(h1:∀i (h:i<s.length),p s[i]=false):s.find? p=none:=by grind[V4]
theorem aH5{l:List aU}(hl:l.length<=1000)(k:Int):LM l k=some (OE l k):=by
 unfold LM OE;have hi:(∃j,∃h:j<l.length,(∀i (h:i<l.length),i<j->(l[i].Key == k)=false)/\(l[j].Key == k)=true/\cV l (λy0=>FM y0 k)=some (j:Int))\/((∀i (h:i<l.length),(l[i].Key == k)=false)/\cV l (λy0=>FM y0 k)=some (-1)):=T3 (p:=λy=>y.Key == k) aa;rcases hi with ⟨j,h,h1,h2,h3⟩|⟨h1,h3⟩
 ·rw[h3,aM,gH,aZ h,aLP (p:=λy:aU=>y.Key == k) h h1 h2];rfl
 simp_all[a01]
def sI(l:List Seen)(b v:Int):List Seen×Bool:=match l.find? (λy=>y.bW == b) with|some x=>(l,x.eO == v)|none=>(l++[⟨b,v⟩],true)
theorem aH6{l:List Seen}(hl:l.length<=1000)(b v:Int):LO l b v=some (sI l b v):=by
 unfold LO pD sI;rw[OD];simp only[aM,V5];have hi:(∃j,∃h:j<l.length,(∀i (h:i<l.length),i<j->(l[i].bW == b)=false)/\(l[j].bW == b)=true/\eY l (λy0=>FR y0 b)=some (j:Int))\/((∀i (h:i<l.length),(l[i].bW == b)=false)/\eY l (λy0=>FR y0 b)=some (-1)):=aGF (p:=λy=>y.bW == b) aa;rcases hi with ⟨j,h,h1,h2,h3⟩|⟨h1,h3⟩
 ·rw[h3,aM,gH,aZ h,aLP (p:=λy:Seen=>y.bW == b) h h1 h2];rfl
 ·rw[h3,aM,aO ai,OD,a01 (p:=λy:Seen=>y.bW == b) h1]
def fQ(l:List aU)(n:Int):Int:=(((l.take n.toNat).filter λx=>!x.G6).length:Int)
theorem aXW(l:List aU)(n:Int):(l.take ((if(if(l.length:Int)<n then(l.length:Int) else n)<0 then 0 else(if(l.length:Int)<n then(l.length:Int) else n)).toNat)).drop 0=l.take n.toNat:=by (simp_all;omega)
theorem aDT{l:List aU}(hl:l.length<=1000)(n:Int):RO l n=some (fQ l n):=by
 unfold RO fQ;rw[SF];have hc:=aXW l n;obtain⟨s,hs⟩:∃s,s=l.take n.toNat:=⟨_,rfl⟩;have hsl:s.length<=1000:=aj
 rw[show((0:Int),(0:Int))=((((s.take 0).filter λx=>!x.G6).length:Int),((0:Nat):Int)) from rfl,
  iW s.length (λk=>((((s.take k).filter λx=>!x.G6).length:Int),(k:Int))) (((s.filter λx=>!x.G6).length:Nat):Int) (λk hk=>by
   have ht:s.take (k+1)=s.take k++[s[k]]:=EA hk;have hle:((s.take k).filter λx=>!x.G6).length<=1000:=lO (aSY _ _) aj;simp only[S8,hc,<-hs];rw[eV,aZ hk,aM,ht,List.filter_append];cases hd:s[k].G6
   ·rw[aO ak,dO];simp only[FT];rw[dO];simp[hd]
   ·rw[gH];grind[FT,cW]) (by
   simp only[S8,hc,<-hs];simp)]
 rw[hs];rfl
def jJ(k:Int):Int:=if 0<=k/\k<=99 then k % 2 else -1
theorem QI(k:Int):HW k=some (jJ k):=by unfold HW jJ;rw[dP,aM];grind
def pZ(l:List aU):List Int:=(if l.any (λx=>x.Key % 2 == 0) then [0] else [])++(if l.any (λx=>x.Key % 2 == 1) then [1] else [])
theorem aXX(hs:l.Pairwise (· < ·))(hm:∀x∈l,x=0\/x=1):l=(if 0∈l then [0] else [])++(if 1∈l then [1] else []):=by
 match l,hs,hm with
 |[],_,_=>rfl
 |[x],_,hm=>rcases hm x ae with rfl|rfl<;>rfl
 |[x,y],hs,hm=>
  have hxy:x<y:=aj
  rcases hm x ae with rfl|rfl<;>rcases hm y ae with rfl|rfl<;>first|omega|rfl
 |x::y::z::r,hs,hm=>
  (simp_all;omega)
theorem aH7{l:List aU}(hl:l.length<=12)(hk:∀x∈l,0<=x.Key/\x.Key<=99):LP l=some (pZ l):=by
 unfold LP;rw[show(([]:List Int),(0:Int))=((l.take 0).map (λx=>x.Key % 2),((0:Nat):Int)) from rfl,
  iW l.length (λk=>((l.take k).map (λx=>x.Key % 2),(k:Int))) (l.map λx=>x.Key % 2) (λk hlt=>by
   have ht:l.take (k+1)=l.take k++[l[k]]:=EA hlt;have hkk:=hk l[k] (dF hlt);simp only[KD];rw[eV,aZ hlt,aM,QI,aM];unfold jJ;rw[aO hkk,eV,OD,ht,m7];grind[B9,cW]) (by
   simp[KD]),aM]
 simp only[U1,KC];obtain⟨y,h1,h2,h3⟩:=a8C (x:=l.map λx=>x.Key % 2) aj (by grind[aXQ]);rw[h1,aM];obtain⟨c1,c2⟩:=aUM h3;have hmem:∀a,a∈D4 y↔∃x∈l,x.Key % 2=a:=λa=>aj
 have h01:∀a∈D4 y,a=0\/a=1:=λa ha=>aj
 show some (D4 y)=_;rw[aXX c1 h01];grind[pZ]
theorem aRV(l:List aU):(pZ l).length<=2:=by grind[pZ]
theorem R6{l:List aU}{b:Int}(h:b∈pZ l):b=0\/b=1:=by grind[pZ]
theorem aLQ{f:(List O×Int)->Option (Step (List O×Int) (List O))}(l:List O)
  (h:∀k (hk:k<l.length),f (l.take k,(k:Int))=some (.next (l.take k++[l[k]],((k+1:Nat):Int)))) (he:f (l,(l.length:Int))=some (.stop l)):loop f ([],0)=some l:=by have:=iW (f:=f) l.length (λk=>(l.take k,(k:Int))) l (λk hk=>by simp_all) aj;grind
theorem Y2{f:(Int×List O)->Option (Step (Int×List O) (List O))}(l:List O)
  (h:∀k (hk:k<l.length),f ((k:Int),l.take k)=some (.next (((k+1:Nat):Int),l.take k++[l[k]]))) (he:f ((l.length:Int),l)=some (.stop l)):loop f (0,[])=some l:=by have:=iW (f:=f) l.length (λk=>((k:Int),l.take k)) l (λk hk=>by simp_all) aj;grind
theorem qA(h:l.length<=1073741824):gD l=some l:=by grind[gD,b7]
theorem aRW{l:List wU}(h:l.length<=1073741824):yW l=some l:=by grind[yW,b7]
theorem aOQ{l:List eR}(h:l.length<=1073741824):wF l=some l:=by grind[wF,b7]
theorem QJ{l:aE}(h1:l.Global.length<=1048576)(h2:l.Own.length<=1048576)(h3:∀s∈l.Global,s.aV.length<=1048576)(h4:∀s∈l.Own,s.aV.length<=1048576):jF l=some l:=by
 unfold jF;rw[Y2 l.Global]
 ·simp only[aM,OZ,OY];rw[Y2 l.Own]
  ·rfl
  ·intro k hk;have:=h4 _ (dF hk);simp only[ER];rw[eV,aZ hk];simp only[aM];rw[qA aa,aM,OD,EP,dO];rfl
  grind[ER]
 ·intro k hk;have:=h3 _ (dF hk);simp only[ET];rw[eV,aZ hk];simp only[aM];rw[qA aa,aM,OD,ES,dO];rfl
 grind[ET]
theorem T4{h:Heap}(h1:h.Bytes.length<=1048576)(h2:h.Class.length<=1048576):vP h=some h:=by unfold vP;rw[qA aa,qA aa];rfl
theorem PG(h:DG m):pC m=some m:=by have a:=T4 h.1 h.2.1;have b:=QJ h.2.2.1 h.2.2.2.1 h.aUN.1 h.aUN.2;simp_all[pC]
theorem nB{c:aC}(h:c.cO.length<=1048576):zI c=some c:=by unfold zI;rw[OD];rfl
theorem BO{c:aC}(h:c.cO.length<=1048576):lQ c=some c:=by unfold lQ;rw[aRW aa];rfl
theorem QK{l:List bU}(hl:l.length<=1048576)(hs:∀s∈l,s.Rows.length<=1048576):lR l=some l:=by
 unfold lR;rw[aLQ l]
 ·rfl
 ·intro k hk;have:=hs _ (dF hk);simp only[EU];rw[eV,aZ hk];simp only[aM];rw[aOQ aa,aM,OD,dO];rfl
 grind[EU]
theorem aRX{b:aA}(h:T2 b):IH b=some b:=by have m:=PG h.1;have c:=BO h.2.1;have l:=QK h.2.2.1 h.rows;have:=h.2.2.2.2;unfold IH;rw[m,c,l,qA aa];rfl
theorem nC(w:Int):gZ w=some (decide (0<=w/\w<=2)):=by grind[gZ,dP]
section
variable {c:aC} (hc:KN c) {w:Int} (hw:0<=w/\w<=2)
include hc
theorem KN.small:c.cO.length<=1048576/\c.cO.length<=maxLen:=by have:=hc.2.1;grind[maxLen]
theorem KN.aRY{p:wU}(hp:POk c.aL p):KN ⟨c.aL,c.cO.set k p⟩:=⟨hc.1,by simpa using hc.2.1,λq hq=>(rG hq).elim (hc.2.2 q) (λe=>e ▸ hp)⟩
theorem KN.later(h:c.aL+1<=100000):KN ⟨c.aL+1,c.cO⟩:=by
 have h1:=hc.1;exact⟨⟨aj,h⟩,hc.2.1,λq hq=>by
  obtain⟨a,b,d⟩:=hc.2.2 q hq;exact⟨⟨a.1,aj⟩,b,d⟩⟩
include hw
theorem aXY:∃p,idx c.cO w=some p/\POk c.aL p:=by have h3:=hc.2.1;rw[gW hw.1 aa];exact⟨_,rfl,hc.2.2 _ (dF _)⟩
theorem a3G(e:Int):∃r,JQ c w e=some r/\O3 c w e=some r/\KN r.1/\r.1.aL=c.aL:=by
 obtain⟨p,hp,h1,⟨hs0,hs1⟩,h2⟩:=aXY hc hw;have h3:=hc.2.1;unfold JQ O3;rw[nB hc.small.1,BO hc.small.1,kP,vH hc.small.2,nC,fX,dA hc,dA hw];simp only[aM,kY,bV,bR,GD,FI,hp];cases h4:p.On
 ·exact⟨_,rfl,rfl,hc,rfl⟩
 ·cases h5:p.gP
  ·by_cases h6:p.aL=e
   ·simp_all[sB,rW]
   ·have h6':(p.aL == e)=false:=aj
    simp only[sB,rW,h6',kY,bV,bR,hp,aM];by_cases h7:p.Seen=2
    ·simp only[h7,beq_self_eq_true,bT,show ¬((2:Int)<2) by omega,decide_false,bV,bR];exact⟨_,rfl,rfl,hc.aRY ⟨h1,ae,λq=>aj⟩,rfl⟩
    ·have h7':(p.Seen == 2)=false:=aj
     simp only[h7',show p.Seen<2 by omega,decide_true,bT,bV,bR];have hw7:aY (p.Seen+1)=p.Seen+1:=dO;exact⟨_,rfl,rfl,hc.aRY ⟨h1,aj,λq=>aj⟩,rfl⟩
  ·exact⟨_,rfl,rfl,hc,rfl⟩
theorem a8H(e:Int):∃r,NF c w e=some r/\S7 c w e=some r/\(KN r.1/\r.1.aL=c.aL)/\(r.2=false->r.1=c):=by
 obtain⟨p,hp,hpk⟩:=aXY hc hw;have h3:=hc.2.1;unfold NF S7;rw[nB hc.small.1,BO hc.small.1,kP,vH hc.small.2,nC,fX,fX,dP,dA hc,dA hw];simp only[aM,kY,bV,bR,BF,A6,hp];by_cases h:0<=e/\e<=c.aL
 ·simp only[dA h,kY,bV,bR];exact⟨_,rfl,rfl,⟨hc.aRY ⟨h,ae,λq=>by cases q⟩,rfl⟩,λq=>by cases q⟩
 simp_all[iD]
omit hw in
theorem bDC(e:Int):∃r,RR c e=some r/\YW c e=some r/\KN r.1/\c.aL<=r.1.aL:=by
 have h3:=hc.2.1;unfold RR YW;rw[nB hc.small.1,BO hc.small.1,kP,vH hc.small.2,dA hc];simp only[aM,kY,bV,bR,GF,FJ];by_cases h:c.aL=e
 ·subst h;simp only[bne_self_eq_false,bV,bR];by_cases h:c.aL=100000
  ·simp_all
  ·have h':(c.aL == 100000)=false:=aj
   have hE:=hc.1;have hw7:aY (c.aL+1)=c.aL+1:=dO;simp only[h',bV,bR,hw7];exact⟨_,rfl,rfl,hc.later aa,aj⟩
 simp_all
end
theorem bIB{b:aA}(hc:KN b.aC)(hw:0<=w/\w<=2)(s:Sub) :
  ∃x y,JR b w s=some (x,y)/\zA s b w=some (y,x)/\∃cl,x=⟨b.Mem,cl,b.aQ,b.qT⟩/\KN cl/\b.aC.aL<=cl.aL:=by
 obtain⟨r,e1,e2,h3,h4⟩:=a8H hc hw s.E;unfold JR zA;rw[e1,e2];simp only[bO,bJ,AB,aM];by_cases p0:s.Pc=0
 ·simp only[p0,beq_self_eq_true,bT];exact⟨_,_,rfl,rfl,_,rfl,hc,aa⟩
 ·have p0':(s.Pc == 0)=false:=aj
  simp only[p0',bV,bR];by_cases p1:s.Pc=1
  ·simp only[p1,beq_self_eq_true,bT];cases h:r.2
   ·rw[h4 h];exact⟨_,_,rfl,rfl,_,rfl,hc,aa⟩
   ·exact⟨_,_,rfl,rfl,_,rfl,h3.1,aa⟩
  ·have p1':(s.Pc == 1)=false:=aj
   simp only[p1',bV,bR];by_cases p2:s.Pc=2
   ·simp only[p2,beq_self_eq_true,bT];by_cases q:b.aC.aL=s.E
    ·simp only[q,beq_self_eq_true,bT];exact⟨_,_,rfl,rfl,_,rfl,hc,aa⟩
    ·have q':(b.aC.aL == s.E)=false:=aj
     simp only[q',bV,bR];exact⟨_,_,rfl,rfl,_,rfl,hc,aa⟩
   ·have p2':(s.Pc == 2)=false:=aj
    simp only[p2',bV,bR];exact⟨_,_,rfl,rfl,_,rfl,hc,aa⟩
theorem aXZ{b:aA}(hc:KN b.aC)(s:Sub) :
  ∃x y,vB b s=some (x,y)/\pK s b=some (y,x)/\∃cl,x=⟨b.Mem,cl,b.aQ,b.qT⟩/\KN cl/\b.aC.aL<=cl.aL:=by
 obtain⟨r2,e3,e4,h4⟩:=bDC hc s.E;unfold vB pK mC;rw[e3,e4,fX,nC];simp only[bO,bJ,tV,tW,mB,aM];by_cases p0:s.Pc=0
 ·simp only[p0,beq_self_eq_true,bT];exact⟨_,_,rfl,rfl,_,rfl,hc,aa⟩
 ·have p0':(s.Pc == 0)=false:=aj
  simp only[p0',bV,bR];by_cases p1:s.Pc=1
  ·simp only[p1,beq_self_eq_true,bT,show((1:Int) == 2)=false from rfl,bV,bR];by_cases hB:0<=s.B/\s.B<=2
   ·obtain⟨r,e1,e2,h3,h3'⟩:=a3G hc hB s.E;simp only[dA hB,kY,bV,bR,bT,e1,e2,aM];cases h:r.2
    ·exact⟨_,_,rfl,rfl,_,rfl,h3,aa⟩
    ·by_cases q:aY (s.B+1)=3
     ·simp only[q,beq_self_eq_true,bT,kY,bV,bR];exact⟨_,_,rfl,rfl,_,rfl,h3,aa⟩
     ·have q':(aY (s.B+1) == 3)=false:=aj
      simp only[q',kY,bV,bR];exact⟨_,_,rfl,rfl,_,rfl,h3,aa⟩
   ·simp only[iD hB,SG,bV,bR,bT];exact⟨_,_,rfl,rfl,_,rfl,hc,aa⟩
  ·have p1':(s.Pc == 1)=false:=aj
   simp only[p1',bV,bR];by_cases p2:s.Pc=2
   ·simp only[p2,beq_self_eq_true,bT];cases h:r2.2
    ·simp only[bV,bR];exact⟨_,_,rfl,rfl,_,rfl,h4⟩
    ·simp only[bT];exact⟨_,_,rfl,rfl,_,rfl,h4⟩
   ·have p2':(s.Pc == 2)=false:=aj
    simp only[p2',bV,bR];exact⟨_,_,rfl,rfl,_,rfl,hc,aa⟩
theorem aX0:∀(n:Nat) (l:List Int),l.Nodup->(∀x∈l,0<=x/\x<(n:Int))->l.length<=n
 |0,l,_,h=>by
  cases l with
  |nil=>simp
  |cons a t=>(simp_all;omega)
 |n + 1,l,hn,h=>by
  have ih:=aX0 n (l.erase (n:Int)) (hn.erase _) (λx hx=>by
   grind)
  grind
theorem MG{l:List bU}(hk:k<l.length)(x:bU):dW (l.set k x)=dW (l.take k)++(x.Rows++dW (l.drop (k+1))):=by simp_all[List.set_eq_take_append_cons_drop,dW]
theorem JX{l:List bU}(hk:k<l.length):dW l=dW (l.take k)++(l[k].Rows++dW (l.drop (k+1))):=by grind[aOZ,MG]
theorem IA{l:List bH}(hk:k<l.length)(x:bH):fJ (l.set k x)=fJ (l.take k)++(x.aV++fJ (l.drop (k+1))):=by simp_all[List.set_eq_take_append_cons_drop,fJ]
theorem D1{l:List bH}(hk:k<l.length):fJ l=fJ (l.take k)++(l[k].aV++fJ (l.drop (k+1))):=by grind[aOZ,IA]
def bE(l:List bU)(s:Int):Prop:=∃r∈dW l,lN r.Handle/\r.Handle % 32=s
instance (l:List bU) (s:Int):Decidable (bE l s):=by unfold bE;infer_instance
section
variable {l:List bU} (hl:zY l)
include hl
theorem zY.small:(dW l).length<=1073741824/\l.length<=maxLen/\l.length<=1048576/\∀s∈l,s.Rows.length<=24:=by have:=hl.1;have h2:=hl.2.1;refine⟨aa,by grind[maxLen],aa,λs hs=>?_⟩;have:=Y0 hs;omega
theorem VF(s:Int):TG l s=some (decide (bE l s)):=by
 have hm:=hl.small;unfold TG;rw[aLL hm.1 hm.2.1,aM];have key:=MF (f:=o5 s (dW l)) (dW l) (λk=>(k:Int)) (λr=>¬(lN r.Handle/\r.Handle % 32=s)) (Out.brk ()) (Out.ret true)
  (λk hk hp=>by
   have hk':=hl.2.1;simp only[o5,CM];rw[eV,aZ hk,sV (show k<maxLen by grind[maxLen])];grind[sH,jS])
  (λk hk hp=>by
   simp_all[o5,CM,aZ,sH,jS])
  (by simp[o5])
 have key':loop (o5 s (dW l)) 0=_:=key;rw[key'];by_cases q:bE l s
 ·rw[aP (λa=>by obtain⟨r,hr,e⟩:=q;grind),dA q];rfl
 ·rw[aO (λr hr e=>q ⟨r,hr,e⟩),iD q];rfl
theorem VG(s:Int):FH l s=some (decide (bE l s)):=by
 have hm:=hl.small;unfold FH;have e1:∀(r:eR),rV r s=some (decide (lN r.Handle/\r.Handle % 32=s)):=by
  intro r;unfold rV qY;rw[g8];by_cases q:lN r.Handle
  ·rw[q.mod.1];grind
  ·simp[q]
 have e2:∀x∈l,FG x s=some (x.Rows.any λr=>decide (lN r.Handle/\r.Handle % 32=s)):=by
  intro x hx;unfold FG;have:x.Rows.length<=maxLen:=by grind[maxLen]
  rw[show(λy0=>rV y0 s)=λr=>some (decide (lN r.Handle/\r.Handle % 32=s)) from funext e1,aAG this];rfl
 rw[X5 hm.2.1 (λx=>x.Rows.any λr=>decide (lN r.Handle/\r.Handle % 32=s)) _ e2];simp only[aM];congr 1;rw[HM,decide_eq_true_iff];simp only[List.any_eq_true,decide_eq_true_eq,bE,dW,aFZ];grind
theorem zY.more(hk:k<l.length){r:eR}(hr:PE r)(hn:¬bE l (r.Handle % 32)):zY (l.set k ⟨l[k].Rows++[r]⟩):=by
 have e:=MG hk (⟨l[k].Rows++[r]⟩:bU);have p:(dW (l.set k ⟨l[k].Rows++[r]⟩)).Perm (r::dW l):=by grind[JX]
 have h1:∀x∈dW (l.set k ⟨l[k].Rows++[r]⟩),PE x:=λx hx=>by
  rcases iX.1 (p.mem_iff.1 hx) with rfl|h
  ·exact hr
  ·exact hl.2.2.1 x h
 have h2:((dW (l.set k ⟨l[k].Rows++[r]⟩)).map HK).Nodup:=by refine(List.Perm.nodup_iff (p.map HK)).2 ?_;rw[AT,ZU];refine⟨λh=>hn ?_,hl.2.2.2⟩;obtain⟨x,hx,e⟩:=AU.1 h;exact⟨x,hx,(hl.2.2.1 x hx).1,e⟩
 refine⟨by simpa using hl.1,?_,h1,h2⟩;have:=aX0 24 _ h2 (λx hx=>by
  obtain⟨y,hy,rfl⟩:=AU.1 hx;have:=(h1 y hy).1.mod;grind[HK])
 grind
end
theorem a3H{b:aA}(hb:m5 b)(hs:T2 b)(hw:0<=w/\w<=2)(s:Sub) :
  ∃x y,yE b w s=some (x,y)/\qZ s b w=some (y,x)/\∃L,x=⟨b.Mem,b.aC,L,b.qT⟩/\zY L/\∀r∈dW L,PF b r:=by
 have hL:=hb.1.2.2.1;have hm:=hb.1.1;have hlen:w.toNat<b.aQ.length:=by have:=hL.1;omega
 have hx:idx b.aQ w=some b.aQ[w.toNat]:=gW hw.1 aa;have hg:b.Mem.aE.Global.length<=maxLen:=by rw[hm.1.2.1];simp[maxLen]
 have ho:b.Mem.aE.Own.length<=maxLen:=by rw[hm.1.2.2.1];simp[maxLen]
 have hall:(iF b.Mem.aE).length<=1073741824:=by have:=hs.1.2.2.2.2;omega
 have hrow:=hL.small.2.2.2 _ (dF hlen);have he:=hb.1.2.1.1;unfold yE qZ m0;rw[fX,dP,VE hm.1.1.1 hall hg ho,GO hm.1.1.1 hall hg ho,jS];simp only[bO,bJ,aM,wP,GC,mZ];by_cases p0:s.Pc=0
 ·simp only[p0,beq_self_eq_true,bT];exact⟨_,_,rfl,rfl,_,rfl,hL,hb.2⟩
 ·have p0' : (s.Pc == 0) = false:=aj
  simp only[p0',bV,bR];by_cases p1:s.Pc=1
  ·simp only[p1,beq_self_eq_true,bne_self_eq_false,bV,bR,bT];by_cases q1:0<=s.E/\s.E<=b.aC.aL
   ·simp only[dA q1,kY,bV,bR];by_cases q2:mU b.Mem s.A
    ·have hh:=q2.1;simp only[dA q2,kY,bV,bR,aO hh,hh.mod.1,VF hL,VG hL,aM];by_cases q3:bE b.aQ (s.A % 32)
     ·simp only[dA q3,bT];exact⟨_,_,rfl,rfl,_,rfl,hL,hb.2⟩
     ·have hmore:=hL.more hlen (r:=⟨s.A,s.E⟩) ⟨hh,q1.1,aj⟩ q3;have e:IW b.aQ w s.A s.E=some (b.aQ.set w.toNat ⟨b.aQ[w.toNat].Rows++[⟨s.A,s.E⟩]⟩,true):=by unfold IW y8;rw[CT hL.small.1,nC,QK hL.small.2.2.1 (λs h=>by have:=hL.small.2.2.2 s h;omega)];simp only[dA hL,dA hw,aM,kY,bV,bR,hx];rw[OD,CT hmore.small.1,dA hmore];rfl
      simp only[iD q3,bV,bR,hx,e,aM];rw[OD];refine⟨_,_,rfl,rfl,_,rfl,hmore,λr hr=>?_⟩;rw[MG hlen] at hr;have hsp:=JX hlen;rcases cY.1 hr with h|h
      ·exact hb.2 r aj
      ·rcases cY.1 h with h|h
       ·rcases cY.1 h with h|h
        ·exact hb.2 r aj
        ·simp at h;subst h;exact⟨q2,q1.2⟩
       ·exact hb.2 r aj
    ·simp only[iD q2,SG,bT];exact⟨_,_,rfl,rfl,_,rfl,hL,hb.2⟩
   ·simp only[iD q1,SG,bT];exact⟨_,_,rfl,rfl,_,rfl,hL,hb.2⟩
  ·have p1':(s.Pc == 1)=false:=aj
   have p1'':(s.Pc != 1)=true:=aj
   simp only[p1',p1'',bV,bR,bT];exact⟨_,_,rfl,rfl,_,rfl,hL,hb.2⟩
def st4(b:List Int)(a:Nat)(n:Int):List Int:=(((b.set a 0).set (a+1) 0).set (a+2) 0).set (a+3) n
theorem GP(b:List Int)(a:Nat)(n:Int):(st4 b a n).length=b.length:=by simp[st4]
theorem aUR{b:List Int}(h:sQ b)(a:Nat)(hn:0<=n/\n<=255):sQ (st4 b a n):=by
 have key:∀{l:List Int} (i:Nat) (v:Int),sQ l->0<=v/\v<=255->sQ (l.set i v):=λi v hl hv x hx=>by
  rcases rG hx with h|rfl
  ·exact hl x h
  ·exact hv
 exact key _ _ (key _ _ (key _ _ (key _ _ h aa) aa) aa) hn
theorem a8I(hn:0<=n/\n<=255):((u8 n).toNat:Int)=n:=by grind[u8,UInt8.toNat_ofNat']
theorem aUS(i:Nat){v:Int}(hl:sQ l)(hv:0<=v/\v<=255):sQ (l.set i v):=λx hx=>by
 rcases rG hx with h|rfl
 ·exact hl x h
 ·exact hv
def QL(b:List Int)(a:Nat)(n:Int):List Int:=(((b.set a (n/16777216)).set (a+1) (n/65536 % 256)).set (a+2) (n/256 % 256)).set (a+3) (n % 256)
theorem aDU(b:List Int)(a:Nat)(n:Int):(QL b a n).length=b.length:=by simp[QL]
theorem a3I{b:List Int}(h:sQ b)(a:Nat)(hn:0<=n/\n<=4294967295):sQ (QL b a n):=by grind[QL,aUS]
theorem a3J(b:List Int)(a:Nat)(x y z u:Int):(((b.set (a+3) u).set (a+2) z).set (a+1) y).set a x=(((b.set a x).set (a+1) y).set (a+2) z).set (a+3) u:=by refine List.ext_getElem ae λj h1 h2=>?_;grind
theorem a3K{b:List Int}{a:Nat}(h:a+4<=b.length)(hl:b.length<=100000)(hn:0<=n/\n<=4294967295):GA b (a:Int) 4 n=some (QL b a n):=by
 have st:∀(c:List Int) (m:Int) (i:Nat),c.length=b.length->0<=m->m<=4294967295->i<4->CN (a:Int) (c,m,(i:Int))=some (.next (c.set (a+i) (m % 256),m/256,(i:Int)-1)):=λc m i hc h0 h1 hi=>by simp only[CN];rw[aO ae,dO (x:=(a:Int)+i),show(a:Int)+i=((a+i:Nat):Int) by omega,XX,aM,NN h0,aUI h0,dO (x:=m/256),dO (x:=(i:Int)-1),K8]
 unfold GA;rw[show aY (4-1)=((3:Nat):Int) from by grind[cW]];rw[bG (st b n 3 rfl hn.1 hn.2 aa),show((3:Nat):Int)-1=((2:Nat):Int) by rfl,
  bG (st _ _ 2 ae aa aa aa),show((2:Nat):Int)-1=((1:Nat):Int) by rfl,
  bG (st _ _ 1 ae aa aa aa),show((1:Nat):Int)-1=((0:Nat):Int) by rfl,
  bG (st _ _ 0 ae aa aa aa),bB (r:=QL b a n)]
 ·rfl
 ·simp only[CN];rw[gH];have e1:n/256/256=n/65536:=aa
  have e2:n/256/256/256=n/16777216:=aa
  have e3:n/16777216 % 256=n/16777216:=aa
  simp_all[QL,a3J]
def oF(n:Int):List UInt8:=[u8 (n/16777216),u8 (n/65536),u8 (n/256),u8 n]
theorem T5(hn:0<=n/\n<=4294967295):mJ n 4=some (oF n):=by
 have hw:y6 4=some true:=by grind[y6,dP]
 unfold mJ;rw[hw];have e1:IntKind.u64.wrap (aY (8*4))=32:=ai
 have e2:aJN .i64 1 32=4294967296:=ai
 simp only[aM,kY,bV,bR,e1,e2];rw[aH0,SF,iD aa];simp only[vU,bV,bR];rw[SF,show aY (4-1)=((3:Nat):Int) from by grind[cW]];have st:∀(m:Int) (c:List UInt8) (i:Nat),i<c.length->i<4->0<=m->qJ (m,c,(i:Int))=some (.next (m/256,c.set i (u8 m),(i:Int)-1)):=λm c i hc hi h0=>by simp only[qJ];rw[aO ae,aZ hc,aM,show(8:Int)=((8:Nat):Int) from rfl,a0X h0 aa,dO,K8];rfl
 rw[bG (st n _ 3 ae aa hn.1),show((3:Nat):Int)-1=((2:Nat):Int) by rfl,
  bG (st _ _ 2 ae aa aa),show((2:Nat):Int)-1=((1:Nat):Int) by rfl,
  bG (st _ _ 1 ae aa aa),show((1:Nat):Int)-1=((0:Nat):Int) by rfl,
  bG (st _ _ 0 ae aa aa),bB (r:=oF n)]
 ·rfl
 ·simp only[qJ];rw[gH];have e1:n/256/256=n/65536:=aa
  rw[e1,show n/65536/256=n/16777216 by omega];rfl
theorem aRZ(hn:0<=n):((u8 n).toNat:Int)=n % 256:=by
 have:u8 n=u8 (n % 256):=by grind[u8]
 grind[a8I]
theorem aX1{b:List Int}{a:Nat}(h:a+4<=b.length)(hl:b.length<=100000)(hn:0<=n/\n<=4294967295):m9 b (a:Int) (oF n)=some (QL b a n):=by
 have st:∀(c:List Int) (i:Nat) (v:UInt8),c.length=b.length->i<4->idx (oF n) (i:Int)=some v->lT b (a:Int) (oF n) (c,(i:Int))=some (.next (c.set (a+i) (v.toNat:Int),((i+1:Nat):Int))):=λc i v hc hi hv=>by simp only[lT];rw[b7 hc,aO (by grind[oF]),hv,aM,dO (x:=(a:Int)+i),show(a:Int)+i=((a+i:Nat):Int) by omega,XX,aM,dO,K8];rfl
 unfold m9;rw[show(0:Int)=((0:Nat):Int) from rfl,bG (st b 0 _ rfl aa rfl),bG (st _ 1 _ ae aa rfl),bG (st _ 2 _ ae aa rfl),bG (st _ 3 _ ae aa rfl),bB (r:=QL b a n)]
 ·grind[MV,MU,b7,aDU]
 ·simp only[lT];rw[b7 ae,aP (by simp[oF])];simp only[aRZ hn.1,aRZ (show 0<=n/16777216 by omega),aRZ (show 0<=n/65536 by omega),aRZ (show 0<=n/256 by omega)];rw[show n/16777216 % 256=n/16777216 by omega];rfl
theorem a8J{b:List Int}{a:Nat}(hn:0<=n/\n<=255):QL b a n=st4 b a n:=by grind[QL,st4]
theorem KO{b:List Int}{a:Nat}(h:a+4<=b.length)(hl:b.length<=100000)(hn:0<=n/\n<=255):GA b (a:Int) 4 n=some (st4 b a n):=by grind[a3K,a8J]
theorem bK9(hn:0<=n/\n<=255):oF n=[0,0,0,u8 n]:=by unfold oF;rw[show n/16777216=0 by omega,show n/65536=0 by omega,show n/256=0 by omega];rfl
theorem aAH(hn:0<=n/\n<=255):mJ n 4=some [0,0,0,u8 n]:=by grind[T5,bK9]
theorem X8{b:List Int}{a:Nat}(h:a+4<=b.length)(hl:b.length<=100000)(hn:0<=n/\n<=255):m9 b (a:Int) [0,0,0,u8 n]=some (st4 b a n):=by rw[<-bK9 hn,aX1 h hl ⟨hn.1,aa⟩,a8J hn]
theorem bFX{x y z:Int}:∀(a:Nat) (l:List Int),a+3<=l.length->cS l a [x,y,z]=((l.set a x).set (a+1) y).set (a+2) z
 |0,l,h=>by
  match l,h with
  |_::_::_::t,_=>simp[cS]
 |a + 1,l,h=>by
  match l,h with
  |u::t,h=>
   have ih:=bFX (x:=x) (y:=y) (z:=z) a t aj;grind[cS]
def a8K(p k:Nat)(c:Int):Nat:=(jB ((p:Int)*4+k) c).toNat
def gB(b:List Int)(p:Nat)(c:Int):Nat->List Int
 |0=>((b.set (p*64) 171).set (p*64+1) c).set (p*64+2) (cJ c)
 |k+1=>st4 (gB b p c k) (a8K p k c) 1
theorem KP(b:List Int)(p:Nat)(c:Int):∀k,(gB b p c k).length=b.length
 |0=>by simp[gB]
 |k+1=>by rw[gB,GP,KP b p c k]
theorem aLR(i:Nat){v:Int}(hl:sQ l)(hv:0<=v/\v<=255):sQ (l.set i v):=λx hx=>by
 rcases rG hx with h|rfl
 ·exact hl x h
 ·exact hv
theorem aR0{b:List Int}(hb:sQ b)(p:Nat){c:Int}(hc:0<=c/\c<=2):∀k,sQ (gB b p c k)
 |0=>by have:=pY c;exact aLR _ (aLR _ (aLR _ hb aa) aa) aa
 |k+1=>aUR (aR0 hb p hc k) _ aa
def gS(p:Nat)(n:Nat):List Int:=(List.range n).map λ(i:Nat)=>(p:Int)*4+(i:Int)
theorem aFI(p n:Nat):(gS p n).length=n:=by simp[gS]
theorem a02(p n:Nat):gS p (n+1)=gS p n++[(p:Int)*4+(n:Int)]:=by simp[gS,List.range_succ]
theorem aR1(hp:p<6)(hk:(k:Int)<cJ c):jB ((p:Int)*4+k) c=(a8K p k c:Int)/\a8K p k c+4<=384:=by
 have h4:=pY c;have hm:=T1 (c:=c) (i:=(k:Int)) aa hk;have hst:4<=bD c:=by have:0<=c/\c<=2:=j4.1 aa;rcases nI this with e|e|e<;>rw[e]<;>decide
 have e:jB ((p:Int)*4+k) c=(p:Int)*64+8+(k:Int)*bD c:=by unfold jB;grind
 grind[a8K]
theorem aPN(hp:p<6)(hk:k<4):O9 (p:Int) (k:Int)=some ((p:Int)*4+k)/\O2 (p:Int) (k:Int)=some ((p:Int)*4+k):=by grind[cW,O9,M9,fX,O2,FF,dP]
section
variable {b:List Int} (hb:b.length=384) {p:Nat} (hp:p<6) {c:Int} (hc:0<=c/\c<=2)
include hb hp hc
theorem aLS:loop (CP c (p:Int)) ([],0,gB b p c 0)=some (gS p (cJ c).toNat,gB b p c (cJ c).toNat):=by
 have h4:=pY c;refine iW (cJ c).toNat (λk=>(gS p k,(k:Int),gB b p c k)) _ (λk hk=>?_) ?_
 ·have ho:=aR1 (c:=c) hp (k:=k) aa;simp only[CP,U7,o6,aM];rw[eV,(aPN hp aa).1];simp only[aM,BK,ho.1];rw[KO (by grind[KP]) (by grind[KP]) aa];simp only[aM];rw[b7 (by grind[aFI]),dO,a02];rfl
 ·simp only[CP,o6,aM];grind
theorem aX2:loop (IU c (p:Int) (cJ c)) ([],0,gB b p c 0)=some (gS p (cJ c).toNat,gB b p c (cJ c).toNat):=by
 have h4:=pY c;refine iW (cJ c).toNat (λk=>(gS p k,(k:Int),gB b p c k)) _ (λk hk=>?_) ?_
 ·have ho:=aR1 (c:=c) hp (k:=k) aa;simp only[IU,PW];rw[eV,(aPN hp aa).2];simp only[aM,BL,ho.1];rw[aAH aa,aM,X8 (by grind[KP]) (by grind[KP]) aa];simp only[aM];rw[b7 (by grind[aFI]),dO,a02];rfl
 ·simp only[IU];grind
end
theorem a8L{h:Heap}(hh:HOk h)(hc:0<=c/\c<=2) :
  (tU h c=some (h,[])/\HV h c=some (h,[])) \/
  ∃p,p<6/\cZ h p<0/\tU h c=some (⟨gB h.Bytes p c (cJ c).toNat,h.Class.set p c⟩,gS p (cJ c).toNat)/\HV h c=some (⟨gB h.Bytes p c (cJ c).toNat,h.Class.set p c⟩,gS p (cJ c).toNat):=by
 have hs:=hh.1;have h6:=hs.2.1;have h384:=hs.1;have hp4:=pY c;have hcp:=T4 (h:=h) aa aa;have hne:∀j (hj:j<6),j<h.Class.findIdx (λx=>decide (x = -1))->h.Class[j]≠-1:=λj hj hlt=>aj
 generalize hq:h.Class.findIdx (λx=>decide (x = -1))=q at hne;have hq6:q<=6:=aj
 have s1:∀k (hk:k<q),fK h c (k:Int)=some (.next ((k+1:Nat):Int)):=λk hk=>by
  have:=hne k aa hk;have n:(h.Class[k] != -1)=true:=aj
  simp only[fK,KI];rw[eV,XX,aM,n,aO rfl,dO];rfl
 have s2:∀k (hk:k<q),fE h.Class (-1) (k:Int)=some (.next ((k+1:Nat):Int)):=λk hk=>by
  have:=hne k aa hk;have n:((-1:Int) == h.Class[k])=false:=aj
  simp only[fE];rw[eV,XX,aM,n,dO];rfl
 have hm:h.Bytes.length<=maxLen:=by grind[maxLen]
 by_cases h5:q=6
 ·left;have a1:loop (fK h c) 0=some (Out.brk ()):=iW q (λk=>(k:Int)) _ s1 (by simp_all[fK]);have a2:loop (fE h.Class (-1)) 0=some (Out.brk ()):=iW q (λk=>(k:Int)) _ s2 (by simp_all[fE]);constructor
  ·unfold tU;rw[a1];rfl
  ·unfold HV nG;rw[a2,hcp,NP hm,kN,dA hh,dA hc];rfl
 ·right;have hq5:q<6:=aa
  have he:h.Class[q] = -1:=aj
  refine⟨q,hq5,by grind[YY],?_,?_⟩
  ·have a1:loop (fK h c) 0=some (Out.ret (⟨gB h.Bytes q c (cJ c).toNat,h.Class.set q c⟩,gS q (cJ c).toNat)):=iW q (λk=>(k:Int)) _ s1 (by
    have e0:aY ((q:Int)*64)=((q*64:Nat):Int):=by grind[cW]
    have e1:aY (((q*64:Nat):Int)+1)=((q*64+1:Nat):Int):=by grind[cW]
    have e2:aY (((q*64:Nat):Int)+2)=((q*64+2:Nat):Int):=by grind[cW]
    have n:(h.Class[q] != -1)=false:=aj
    simp only[fK,e0,e1,e2,K8];rw[eV,XX,aM,n,gH,XX,aM,aZ ah,aM,o6,aM,aZ ah,aM];have:=aLS h384 hq5 hc;simp only[gB] at this;rw[this];rfl)
   unfold tU;rw[a1];rfl
  ·have a2:loop (fE h.Class (-1)) 0=some (Out.ret (q:Int)):=iW q (λk=>(k:Int)) _ s2 (by
    have n:((-1:Int) == h.Class[q])=true:=by rw[he];rfl
    simp only[fE];rw[eV,XX,aM,n];rfl)
   unfold HV nG;rw[a2,hcp,NP hm,kN,dA hh,dA hc];have e0:aY ((q:Int)*64)=((q*64:Nat):Int):=by grind[cW]
   simp only[aM,z7,kY,bV,bR,A5,e0,CR,PX,K8];rw[iD aa,gH,XX,aM,SF,bFX _ _ aa];have:=aX2 h384 hq5 hc;simp only[gB] at this;rw[this];rfl
theorem LOk.count{l:aE}(h:LOk l):(iF l).length<=24:=aX0 24 _ h.2.2.2.2 (λx hx=>by have:=h.2.2.2.1 x hx;omega)
theorem a3L(hs:iC m.Heap)(hc:0<=bM m.Heap s):∃h,BD m s=some h/\IV m s=some h:=by
 unfold BD IV QA PY zH y7;rw[wA hs hc,I3 hs hc,aM,aM,fX,fX,yN,dP];have h1:=(rE hc).1;simp only[dA h1,aM,kY,bV,bR];by_cases q:1<=kQ m.Heap s/\kQ m.Heap s<=6
 ·simp only[dA q,kY,bV,bR];exact⟨_,rfl,rfl⟩
 ·simp only[iD q,SG,bT];exact⟨_,rfl,rfl⟩
theorem aBK{l:List bH}(hk:k<l.length)(t:List Int):(fJ (l.set k ⟨l[k].aV++t⟩)).length=(fJ l).length+t.length:=by grind[IA,D1]
def bt(b:List Int)(i:Nat):Int:=b.getD i 0
theorem aLT{b:List Int}{i:Nat}(h:i<b.length):b[i]=bt b i:=by grind[bt]
theorem ld4{b:List Int}{a:Nat}(h:a+4<=b.length):ld b a 4=((bt b a*256+bt b (a+1))*256+bt b (a+2))*256+bt b (a+3):=by grind[ld,uI,ldF,aLT]
theorem NR{b:List Int}{i j:Nat}{v:Int}(hi:i<b.length):bt (b.set i v) j=if j=i then v else bt b j:=by grind[bt]
theorem IB{b:List Int}{a:Nat}(h:a+4<=b.length)(j:Nat):bt (st4 b a n) j=if j=a+3 then n else if a<=j/\j<a+3 then 0 else bt b j:=by unfold st4;rw[NR ah,NR ah,NR ah,NR aa];omega
theorem aX3{b:List Int}{a:Nat}(h:a+4<=b.length):ld (st4 b a n) a 4=n:=by simp_all[ld4,GP,IB]
theorem I4{b b':List Int}{a:Nat}(h:a+4<=b.length)(hl:b'.length=b.length)(hs:∀j,a<=j->j<a+4->bt b' j=bt b j):ld b' a 4=ld b a 4:=by simp_all[ld4]
def aBL(h:Heap)(p:Nat):Prop:=
 if cZ h p<0 then ∀k,k<64->bt h.Bytes (p*64+k)=0
 else((bt h.Bytes (p*64)=171/\bt h.Bytes (p*64+1)=cZ h p/\bt h.Bytes (p*64+2)=cJ (cZ h p))/\(∀k,3<=k->k<8->bt h.Bytes (p*64+k)=0)/\∀i,i<(cJ (cZ h p)).toNat->1<=ld h.Bytes (p*64+8+i*(bD (cZ h p)).toNat) 4/\ld h.Bytes (p*64+8+i*(bD (cZ h p)).toNat) 4<=7)
theorem aPO{h:Heap}(hs:iC h)(hp:p<6)(hk:k<64):(lI h p).getD k 0=bt h.Bytes (p*64+k):=by rw[<-a3B hs hp hk,aLT (by have:=hs.1;omega)]
theorem aDV:x∈l↔∃k,k<l.length/\l.getD k 0=x:=by
 rw[aF0];constructor
 ·rintro⟨k,hk,e⟩;exact⟨k,hk,aj⟩
 grind
theorem GQ{h:Heap}(hs:iC h)(hp:p<6):GN h p↔aBL h p:=by
 unfold GN aBL;have hl:=X2 hs hp;split
 ·constructor
  ·intro q k hk;rw[<-aPO hs hp hk];exact q _ (aDV.2 ⟨k,aa,rfl⟩)
  grind[aDV,aPO]
 ·rw[aPO hs hp aa,aPO hs hp aa,aPO hs hp aa];have e:(∀x∈((lI h p).drop 3).take 5,x=0)↔∀k,3<=k->k<8->bt h.Bytes (p*64+k)=0:=by
   have g:∀j,j<5->(((lI h p).drop 3).take 5).getD j 0=bt h.Bytes (p*64+(3+j)):=λj hj=>by rw[<-aPO hs hp aa,G9,G9,aBZ,aO hj,aFX]
   constructor
   ·intro q k h3 h8;have:=q _ (aDV.2 ⟨k-3,aj,rfl⟩);grind
   ·intro q x hx;obtain⟨k,hk,rfl⟩:=aDV.1 hx;simp[hl] at hk;rw[g _ hk];exact q _ aa aa
  rw[e];rfl
theorem aBL.same{h h':Heap}(hp:p<6)(hs:iC h)(hl:h'.Bytes.length=h.Bytes.length)(hc:cZ h' p=cZ h p)(hb:∀k,k<64->bt h'.Bytes (p*64+k)=bt h.Bytes (p*64+k))(q:aBL h p):aBL h' p:=by
 have h1:=hs.1;unfold aBL at q ⊢;rw[hc];split
 ·grind
 ·rename_i q0;rw[aP q0] at q;obtain⟨⟨a1,a2,a3⟩,a4,a5⟩:=q;have b0:=hb 0 aa;have b1:=hb 1 aa;have b2:=hb 2 aa;simp only[UJ] at b0;refine⟨⟨aa,aa,aa⟩,λk k3 k8=>aj,λi hi=>?_⟩;have hz:=zN hs hp (c:=cZ h p) rfl hi;rw[I4 (b:=h.Bytes) aa hl λj j1 j2=>by
   have:=hb (j-p*64) aa;grind]
  grind
theorem qB{h:Heap}(hc:0<=bM h s):∃p i,p<6/\i<(cJ (cZ h p)).toNat/\s=(p:Int)*4+i/\bM h s=cZ h p/\(jB s (bM h s)).toNat=p*64+8+i*(bD (cZ h p)).toNat/\(s/4).toNat=p:=by obtain⟨h1,h2,h3⟩:=rE hc;have hle:=pY (cZ h (s/4).toNat);refine⟨(s/4).toNat,(s % 4).toNat,aa,aa,aa,h3,?_,rfl⟩;rw[h3];unfold jB;rw[aO ⟨h1,aa⟩];grind[bD]
theorem T6{i j:Nat}(hi:i<(cJ c).toNat)(hj:j<(cJ c).toNat)(hn:i≠j):i*(bD c).toNat+4<=j*(bD c).toNat\/j*(bD c).toNat+4<=i*(bD c).toNat:=by
 have hc:0<=c/\c<=2:=j4.1 aa;have h12:12<=(bD c).toNat:=by rcases nI hc with rfl|rfl|rfl<;>decide
 rcases Nat.lt_or_gt_of_ne hn with q|q
 ·left;have:(i+1)*(bD c).toNat<=j*(bD c).toNat:=uK _ q;rw[oE] at this;omega
 ·right;have:(j+1)*(bD c).toNat<=i*(bD c).toNat:=uK _ q;rw[oE] at this;omega
theorem HOk.a8M{h:Heap}(hh:HOk h){g:Int}(hc:0<=bM h s)(hg:1<=g/\g<=7) :
  HOk ⟨st4 h.Bytes (jB s (bM h s)).toNat g,h.Class⟩/\∀t,0<=bM h t->kQ ⟨st4 h.Bytes (jB s (bM h s)).toNat g,h.Class⟩ t=if t=s then g else kQ h t:=by
 obtain⟨hs,hp⟩:=hh;have h384:=hs.1;have hs':iC ⟨st4 h.Bytes (jB s (bM h s)).toNat g,h.Class⟩:=⟨by grind[GP],hs.2.1,aUR hs.2.2.1 _ aa,hs.2.2.2⟩;obtain⟨p,i,p6,hi,es,ec,eo,ep⟩:=qB hc;have hz:=zN hs p6 rfl hi;have h4:=pY (cZ h p);refine⟨⟨hs',λq hq=>?_⟩,λt ht=>?_⟩
 ·rw[GQ hs' hq];have hold:=(GQ hs hq).1 (hp q hq);by_cases e:q=p
  ·subst e;have hpos:0<cJ (cZ h q):=aa
   have hcl:¬cZ h q<0:=aa
   unfold aBL at hold ⊢;have hcl':cZ ⟨st4 h.Bytes (jB s (bM h s)).toNat g,h.Class⟩ q=cZ h q:=rfl;rw[hcl'];rw[aP hcl] at hold ⊢;obtain⟨⟨a1,a2,a3⟩,a4,a5⟩:=hold;have bs:∀k,k<8->bt (st4 h.Bytes (jB s (bM h s)).toNat g) (q*64+k)=bt h.Bytes (q*64+k):=λk hk=>by rw[IB aa,iE,iE]
   have b0:=bs 0 aa;have b1:=bs 1 aa;have b2:=bs 2 aa;simp only[UJ] at b0;refine⟨⟨aj,aj,aj⟩,λk k3 k8=>aj,λj hj=>?_⟩;have hzj:=zN hs p6 rfl hj;by_cases ej:j=i
   ·grind[aX3]
   ·rw[I4 (b:=h.Bytes) aa (by grind[GP]) λk k1 k2=>?_]
    ·grind
    ·simp only[eo];have:=T6 hi hj (λq=>ej q.symm);rw[IB aa,iE,iE]
  ·refine aBL.same hq hs (by grind[GP]) rfl (λk hk=>?_) hold;rw[IB aa,iE,iE]
 ·have e2:bM ⟨st4 h.Bytes (jB s (bM h s)).toNat g,h.Class⟩ t=bM h t:=rfl;unfold kQ;rw[e2];by_cases e:t=s
  ·subst e;rw[aO rfl];grind[aX3]
  ·rw[aP e];obtain⟨p',i',p6',hi',es',ec',eo',ep'⟩:=qB ht;have hz':=zN hs p6' rfl hi';rw[I4 (b:=h.Bytes) aa (by grind[GP]) λk k1 k2=>?_];simp only;by_cases ee:p'=p
   ·subst ee;have:=T6 hi hi' (λq=>e aa);rw[IB aa,iE,iE]
   ·have h4':=pY (cZ h p');rw[IB aa,iE,iE]
theorem aIT(hp:p<6)(hk:(k:Int)<cJ c):a8K p k c=p*64+8+k*(bD c).toNat/\8+k*(bD c).toNat+4<=64:=by have hc:0<=c/\c<=2:=j4.1 aa;have h1:=aR1 (c:=c) hp hk;have hle:=pY c;have e:=h1.1;unfold jB at e;rw[aO aa] at e;grind[bD,cJ]
theorem a03{b:List Int}{p:Nat}{c:Int}(hl:b.length=384)(hp:p<6)(hc:0<=c/\c<=2):∀k:Nat,(k:Int)<=cJ c->∀j,(j<p*64\/p*64+64<=j->bt (gB b p c k) j=bt b j)/\(3<=j->j<8->bt (gB b p c k) (p*64+j)=bt b (p*64+j))/\bt (gB b p c k) (p*64)=171/\bt (gB b p c k) (p*64+1)=c/\bt (gB b p c k) (p*64+2)=cJ c
 |0,hk,j=>by
  have key:∀i,bt (gB b p c 0) i=if i=p*64+2 then cJ c else if i=p*64+1 then c else if i=p*64 then 171 else bt b i:=λi=>by grind[gB,NR]
  grind
 |k + 1,hk,j=>by
  have ih:=a03 hl hp hc k aa;have hoff:=aIT (c:=c) hp (by omega:(k:Int)<cJ c);have hbl:=KP b p c k;unfold gB;refine⟨λh=>?_,λh1 h2=>?_,?_,?_,?_⟩
  ·rw[IB aa,iE,iE];grind
  ·rw[IB aa,iE,iE];grind
  ·rw[IB aa,iE,iE];exact(ih j).2.2.1
  ·rw[IB aa,iE,iE];exact(ih j).2.2.2.1
  ·rw[IB aa,iE,iE];exact(ih j).2.2.2.2
theorem a8N{b:List Int}{p:Nat}{c:Int}(hl:b.length=384)(hp:p<6):∀k:Nat,(k:Int)<=cJ c->∀i,i<k->ld (gB b p c k) (p*64+8+i*(bD c).toNat) 4=1
 |0,_,i,h=>absurd h aa
 |k + 1,hk,i,h=>by
  have hbl:=KP b p c k;have ho:=aIT (c:=c) hp (by omega:(k:Int)<cJ c);unfold gB;by_cases e:i=k
  ·grind[aX3]
  ·have hoi:=aIT (c:=c) hp (by omega:(i:Int)<cJ c);have ha:=T6 (c:=c) (i:=i) (j:=k) aa aa e;rw[I4 (b:=gB b p c k) aa (by rw[GP]) λj j1 j2=>by rw[IB aa,iE,iE]];exact a8N hl hp k aa i aa
theorem X9{h:Heap}(hs:iC h){B:List Int}{q:Nat}(hq:q<6):cZ ⟨B,h.Class.set p c⟩ q=if q=p then c else cZ h q:=by have h6:=hs.2.1;grind[cZ]
theorem HOk.a8O{h:Heap}(hh:HOk h)(hp:p<6)(hun:cZ h p<0)(hc:0<=c/\c<=2) :
  HOk ⟨gB h.Bytes p c (cJ c).toNat,h.Class.set p c⟩/\(∀t,(t/4).toNat≠p->bM ⟨gB h.Bytes p c (cJ c).toNat,h.Class.set p c⟩ t=bM h t)/\(∀t,0<=bM h t->(t/4).toNat≠p/\kQ ⟨gB h.Bytes p c (cJ c).toNat,h.Class.set p c⟩ t=kQ h t) /\
   ∀i,i<(cJ c).toNat->bM ⟨gB h.Bytes p c (cJ c).toNat,h.Class.set p c⟩ ((p:Int)*4+i)=c/\kQ ⟨gB h.Bytes p c (cJ c).toNat,h.Class.set p c⟩ ((p:Int)*4+i)=1:=by
 obtain⟨hs,hpg⟩:=hh;have h384:=hs.1;have hle:=pY c;have hpn:((cJ c).toNat:Int)<=cJ c:=aa
 have hb:=a03 h384 hp hc (cJ c).toNat hpn;have hbl:=KP h.Bytes p c (cJ c).toNat;have hs':iC ⟨gB h.Bytes p c (cJ c).toNat,h.Class.set p c⟩:=⟨by simp only[hbl];exact h384,by simp only[cR];exact hs.2.1,aR0 hs.2.2.1 p hc _,λx hx=>by
  rcases rG hx with q|rfl
  ·exact hs.2.2.2 x q
  ·omega⟩
 have hcls:∀t:Int,(t/4).toNat≠p->bM ⟨gB h.Bytes p c (cJ c).toNat,h.Class.set p c⟩ t=bM h t:=λt ht=>by
  unfold bM;by_cases q:0<=t/\t<=23
  ·rw[X9 hs aa,aP ht]
  ·rw[aP (λz=>q z.1),aP (λz=>q z.1)]
 refine⟨⟨hs',λq hq=>?_⟩,hcls,λt ht=>?_,λi hi=>?_⟩
 ·rw[GQ hs' hq];have hold:=(GQ hs hq).1 (hpg q hq);by_cases e:q=p
  ·subst e;unfold aBL at hold ⊢;rw[aO hun] at hold;rw[X9 hs hq,aO rfl,iE];refine⟨(hb 0).2.2,λk k3 k8=>?_,λi hi=>?_⟩
   ·simp only;rw[(hb k).2.1 k3 k8];exact hold k aa
   ·simp only;rw[a8N h384 hp _ hpn i hi];omega
  ·refine aBL.same hq hs (by simp only[hbl]) (by rw[X9 hs hq,aP e]) (λk hk=>?_) hold;exact(hb _).1 aa
 ·obtain⟨p',i',p6',hi',es',ec',eo',ep'⟩:=qB ht;have hne:(t/4).toNat≠p:=λz=>by rw[ec',<-ep',z] at ht;omega
  refine⟨hne,?_⟩;have hz':=zN hs p6' rfl hi';unfold kQ;rw[hcls t hne,I4 (b:=h.Bytes) aa (by simp only[hbl]) λk k1 k2=>(hb k).1 aa]
 ·have e1:((p:Int)*4+i)/4=p:=aa
  have e2:((p:Int)*4+i) % 4=i:=aa
  have ec:bM ⟨gB h.Bytes p c (cJ c).toNat,h.Class.set p c⟩ ((p:Int)*4+i)=c:=by unfold bM;rw[e1,e2,K8,X9 hs hp,aO rfl,aO aa]
  refine⟨ec,?_⟩;unfold kQ;rw[ec];have ho:=aIT (c:=c) hp (by omega:(i:Int)<cJ c);have:(jB ((p:Int)*4+i) c).toNat=p*64+8+i*(bD c).toNat:=ho.1;rw[this];exact a8N h384 hp _ hpn i hi
def vJ(m m':Mem)(k:Int):Prop:=lX m'/\∀s,eP m s=3->s≠k->eP m' s=3/\kQ m'.Heap s=kQ m.Heap s/\bM m'.Heap s=bM m.Heap s
theorem vJ.refl(h:lX m)(k:Int):vJ m m k:=⟨h,λ_ h _=>⟨h,rfl,rfl⟩⟩
theorem vJ.live{m':Mem}{k h:Int}(q:vJ m m' k)(hl:mU m h)(hn:h % 32≠k):mU m' h:=by obtain⟨h1,h2,h3⟩:=hl;obtain⟨a,b,_⟩:=q.2 _ h2 hn;exact⟨h1,a,aa⟩
theorem PH{l:List bH}{j:Nat}(hk:k<l.length){t:bH}:fO (l.set k t) j=if j=k then t.aV else fO l j:=by grind[fO]
theorem aPP{l:List bH}(hk:k<l.length){t:bH}(ht:t.aV.Sublist l[k].aV):(fJ (l.set k t)).Sublist (fJ l):=by grind[IA,D1]
theorem GR{l:List bH}(hk:k<l.length):s∈fJ (l.set k ⟨l[k].aV++xs⟩)↔s∈fJ l\/s∈xs:=by grind[IA,D1]
theorem YA{l:List bH}(hk:k<l.length){r q:List Int}(h:(q++(fJ l++r)).Nodup)(hx:xs.Nodup)(hd:∀x∈xs,x∉q++(fJ l++r)):(q++(fJ (l.set k ⟨l[k].aV++xs⟩)++r)).Nodup:=by
 have hp:(q++(fJ (l.set k ⟨l[k].aV++xs⟩)++r)).Perm (xs++(q++(fJ l++r))):=by rw[IA hk,D1 hk];grind
 grind
theorem aDW{m':Mem}(h1:bM m'.Heap s=bM m.Heap s)(h2:kQ m'.Heap s=kQ m.Heap s)(h3:s∈iF m'.aE↔s∈iF m.aE):eP m' s=eP m s:=by simp_all[eP]
theorem iP:eP m s=3↔0<=bM m.Heap s/\s∉iF m.aE/\kQ m.Heap s<=6:=by unfold eP;grind
section
variable {m:Mem} (hm:lX m)
include hm
theorem lX.bIC(hk:k<9){t:bH}(ht:t.aV.Sublist (fO m.aE.Own k)):vJ m ⟨m.Heap,⟨m.aE.Global,m.aE.Own.set k t⟩⟩ (-1):=by
 obtain⟨⟨hh,h3,h9,h2,hr,hn⟩,hg,ho⟩:=hm;have hk':k<m.aE.Own.length:=aa
 have ht':t.aV.Sublist m.aE.Own[k].aV:=by grind[eB]
 have hsub:(iF ⟨m.aE.Global,m.aE.Own.set k t⟩).Sublist (iF m.aE):=(List.Sublist.refl _).append (aPP hk' ht');refine⟨⟨⟨hh,h3,aj,λs hs=>?_,λx hx=>hr x (hsub.subset hx),hsub.nodup hn⟩,hg,λj hj=>?_⟩,λs hs _=>⟨?_,rfl,rfl⟩⟩
 ·grind
 ·unfold ZM;simp only[PH hk'];split
  ·rename_i e;subst e;exact λx hx=>ho j hj x (ht.subset hx)
  ·exact ho j hj
 grind[iP]
theorem lX.a3M(hk:k<3){t:bH}(ht:t.aV.Sublist (fO m.aE.Global k)):vJ m ⟨m.Heap,⟨m.aE.Global.set k t,m.aE.Own⟩⟩ (-1):=by
 obtain⟨⟨hh,h3,h9,h2,hr,hn⟩,hg,ho⟩:=hm;have hk':k<m.aE.Global.length:=aa
 have ht':t.aV.Sublist m.aE.Global[k].aV:=by grind[eB]
 have hsub:(iF ⟨m.aE.Global.set k t,m.aE.Own⟩).Sublist (iF m.aE):=(aPP hk' ht').append (List.Sublist.refl _);refine⟨⟨⟨hh,aj,h9,h2,λx hx=>hr x (hsub.subset hx),hsub.nodup hn⟩,λj hj=>?_,ho⟩,λs hs _=>⟨?_,rfl,rfl⟩⟩
 ·unfold aDQ;simp only[PH hk'];split
  ·rename_i e;subst e;exact λx hx=>hg j hj x (ht.subset hx)
  ·exact hg j hj
 grind[iP]
theorem lX.bDD(hk:k<9)(hl:(fO m.aE.Own k).length+xs.length<=2)(hx:xs.Nodup)(hf:R4 m.Heap xs ((k % 3:Nat):Int))(hd:∀x∈xs,x∉iF m.aE)(hk':k<m.aE.Own.length) :
  lX ⟨m.Heap,⟨m.aE.Global,m.aE.Own.set k ⟨m.aE.Own[k].aV++xs⟩⟩⟩/\∀s,s∉xs->eP m s=3->eP ⟨m.Heap,⟨m.aE.Global,m.aE.Own.set k ⟨m.aE.Own[k].aV++xs⟩⟩⟩ s=3:=by
 obtain⟨⟨hh,h3,h9,h2,hr,hn⟩,hg,ho⟩:=hm;have hmem:∀s,s∈iF ⟨m.aE.Global,m.aE.Own.set k ⟨m.aE.Own[k].aV++xs⟩⟩↔s∈iF m.aE\/s∈xs:=λs=>by simp[iF,GR,or_assoc]
 have hcl:∀x∈xs,0<=x/\x<=23:=λx h=>by have:=(hf x h).1;exact(rE (h:=m.Heap) (s:=x) aa).1
 refine⟨⟨⟨hh,h3,aj,λs hs=>?_,λx hx=>?_,?_⟩,hg,λj hj=>?_⟩,λs hs h3=>?_⟩
 ·grind[eB]
 ·grind
 ·have:=YA (q:=fJ m.aE.Global) (r:=[]) hk' (by grind[iF]) hx (by grind[iF]);grind[iF]
 ·unfold ZM;simp only[PH hk'];split
  ·rename_i e;subst e;intro x hx;rcases cY.1 hx with q|q
   ·rw[eB hk'] at q;exact ho j hj x q
   ·exact hf x q
  ·exact ho j hj
 grind[iP]
theorem lX.aLU(hk:k<3)(hx:xs.Nodup)(hf:R4 m.Heap xs (k:Int))(hd:∀x∈xs,x∉iF m.aE)(hk':k<m.aE.Global.length) :
  lX ⟨m.Heap,⟨m.aE.Global.set k ⟨m.aE.Global[k].aV++xs⟩,m.aE.Own⟩⟩/\∀s,s∉xs->eP m s=3->eP ⟨m.Heap,⟨m.aE.Global.set k ⟨m.aE.Global[k].aV++xs⟩,m.aE.Own⟩⟩ s=3:=by
 obtain⟨⟨hh,h3,h9,h2,hr,hn⟩,hg,ho⟩:=hm;have hmem:∀s,s∈iF ⟨m.aE.Global.set k ⟨m.aE.Global[k].aV++xs⟩,m.aE.Own⟩↔s∈iF m.aE\/s∈xs:=λs=>by simp[iF,GR,or_right_comm]
 have hcl:∀x∈xs,0<=x/\x<=23:=λx h=>by have:=(hf x h).1;exact(rE (h:=m.Heap) (s:=x) aa).1
 refine⟨⟨⟨hh,aj,h9,h2,λx hx=>?_,?_⟩,λj hj=>?_,ho⟩,λs hs h3=>?_⟩
 ·grind
 ·have:=YA (q:=[]) (r:=fJ m.aE.Own) hk' (by grind[iF]) hx (by grind[iF]);grind[iF]
 ·unfold aDQ;simp only[PH hk'];split
  ·rename_i e;subst e;intro x hx;rcases cY.1 hx with q|q
   ·rw[eB hk'] at q;exact hg j hj x q
   ·exact hf x q
  ·exact hg j hj
 grind[iP]
theorem lX.oR(hx:x∈iF m.aE):0<=bM m.Heap x/\kQ m.Heap x<=6:=by
 obtain⟨⟨hh,h3,h9,h2,hr,hn⟩,hg,ho⟩:=hm;have key:∀(l:List bH),x∈fJ l->∃k,k<l.length/\x∈fO l k:=λl h=>by grind[Y1,aF0,eB]
 rcases cY.1 hx with q|q
 ·obtain⟨k,hk,h⟩:=key _ q;have:=hg k aa x h;omega
 ·obtain⟨k,hk,h⟩:=key _ q;have:=ho k aa x h;omega
theorem lX.heap{h':Heap}(hh:HOk h')(hs:∀x∈iF m.aE,bM h' x=bM m.Heap x/\kQ h' x=kQ m.Heap x):lX ⟨h',m.aE⟩:=by
 obtain⟨⟨_,hl⟩,hg,ho⟩:=hm;have key:∀(l:List bH) k x,x∈fO l k->x∈fJ l:=λl k x h=>by grind[fO,Y1]
 refine⟨⟨hh,hl⟩,λk hk x hx=>?_,λk hk x hx=>?_⟩
 ·obtain⟨a,b⟩:=hs x (QT _ (key _ k x hx));show bM h' x=_/\kQ h' x<=6;rw[a,b];exact hg k hk x hx
 ·obtain⟨a,b⟩:=hs x (aB0 _ (key _ k x hx));show bM h' x=_/\kQ h' x<=6;rw[a,b];exact ho k hk x hx
theorem lX.bNR{g:Int}(hu:eP m s=3)(hg:1<=g/\g<=7):vJ m ⟨⟨st4 m.Heap.Bytes (jB s (bM m.Heap s)).toNat g,m.Heap.Class⟩,m.aE⟩ s/\kQ ⟨st4 m.Heap.Bytes (jB s (bM m.Heap s)).toNat g,m.Heap.Class⟩ s=g:=by
 have hu':=iP.1 hu;obtain⟨a,b⟩:=HOk.a8M hm.1.1 hu'.1 hg;refine⟨⟨lX.heap hm a λx hx=>⟨rfl,?_⟩,λt ht hn=>?_⟩,aj⟩
 ·rw[b x (lX.oR hm hx).1,aP (show ¬x=s from λe=>hu'.2.1 (e ▸ hx))]
 ·have ht':=iP.1 ht;have e:kQ ⟨st4 m.Heap.Bytes (jB s (bM m.Heap s)).toNat g,m.Heap.Class⟩ t=kQ m.Heap t:=aj
  exact⟨iP.2 ⟨ht'.1,ht'.2.1,aj⟩,e,rfl⟩
theorem lX.bLA(hp:p<6)(hun:cZ m.Heap p<0)(hc:0<=c/\c<=2)(hxs:∀x∈xs,∃i,i<(cJ c).toNat/\x=(p:Int)*4+(i:Nat))(hx:xs.Nodup)(hk':c.toNat<m.aE.Global.length) :
  vJ m ⟨⟨gB m.Heap.Bytes p c (cJ c).toNat,m.Heap.Class.set p c⟩,⟨m.aE.Global.set c.toNat ⟨m.aE.Global[c.toNat].aV++xs⟩,m.aE.Own⟩⟩ (-1):=by
 obtain⟨a,b,d,e⟩:=HOk.a8O hm.1.1 hp hun hc;have h1:lX ⟨⟨gB m.Heap.Bytes p c (cJ c).toNat,m.Heap.Class.set p c⟩,m.aE⟩:=lX.heap hm a λx hx=>by grind[lX.oR]
 have hno:∀x∈xs,¬0<=bM m.Heap x:=λx h q=>by obtain⟨i,hi,rfl⟩:=hxs x h;have h4:=pY c;exact(d _ q).1 aa
 obtain⟨f,g⟩:=lX.aLU h1 (k:=c.toNat) aa hx (λx h=>by
  obtain⟨i,hi,rfl⟩:=hxs x h
  (simp_all;omega)) (λx h q=>hno x h (lX.oR hm q).1) hk'
 refine⟨f,λs hs _=>?_⟩;grind[iP]
end
theorem a8P{n:Nat}(h:x∈gS p n):∃i,i<n/\x=(p:Int)*4+(i:Nat):=by grind[gS]
theorem aUT(p n:Nat):(gS p n).Nodup:=by grind[gS,List.nodup_range]
theorem aUU(hm:lX m)(hc:0<=c/\c<=2) :
  ∃m' s,GB m c=some (m',s)/\LJ m c=some (m',s)/\DG m'/\(0<=s->iC m'.Heap/\0<=bM m'.Heap s)/\vJ m m' (-1):=by
 have hl:=hm.1.2;have hcnt:=hl.count;have hs:=hm.1.1.1;have hsl:=hl.aUN aa;have hp4:=pY c;have hpp:0<cJ c:=j4.2 hc;have hall:=vG m.aE;have hsG:∀s∈m.aE.Global,s.aV.length<=24:=λs h=>by have:=JW h;omega
 have hsO:∀s∈m.aE.Own,s.aV.length<=24:=λs h=>by have:=JW h;omega
 have h3:=hl.1;have h9:=hl.2.1;have hcpl:=QJ (l:=m.aE) aa aa (λs h=>aj) (λs h=>aj);unfold GB LJ;rcases a8L hm.1.1 hc with ⟨e1,e2⟩|⟨p,hp,hun,e1,e2⟩
 ·rw[e1,e2,hcpl];have h1:=hs.1;have h2:=hs.2.1;exact⟨_,_,rfl,rfl,⟨aj,aj,aj,aj,aj⟩,λh=>absurd h aa,vJ.refl hm _⟩
 ·rw[e1,e2,hcpl];simp only[aM,J9,J8,KJ,aFI];have hn:(((cJ c).toNat:Int) == 0)=false:=aj
  have hk:c.toNat<m.aE.Global.length:=aa
  have hg0:=hsG _ (dF hk);have hx:idx m.aE.Global c=some m.aE.Global[c.toNat]:=gW hc.1 aa;have hz:idx (gS p (cJ c).toNat) 0=some ((p:Int)*4):=by grind[aZ,gS]
  have hlen:(List.drop (1:Int).toNat (List.take (cJ c).toNat (gS p (cJ c).toNat))).length<=4:=aj
  simp only[hn,bV,bR,hx,aM,hz];rw[SF,SF];have hcl:cZ ⟨gB m.Heap.Bytes p c (cJ c).toNat,m.Heap.Class.set p c⟩ p=c:=by grind[cZ]
  refine⟨_,_,rfl,rfl,⟨by simp only[KP];have:=hs.1;omega,by simp only[cR];have:=hs.2.1;omega,aj,aj,?_⟩,λ_=>⟨⟨by simp only[KP];exact hs.1,by simp only[cR];exact hs.2.1,aR0 hs.2.2.1 p hc _,λx hx=>?_⟩,?_⟩,?_⟩
  ·grind[vG,aBK]
  ·rcases rG hx with h|rfl
   ·exact hs.2.2.2 x h
   ·omega
  ·unfold bM
   (simp_all;omega)
  grind[lX.bLA,a8P,aUT]
theorem aX4(n:Int):∃c,F9 n=some c/\LH n=some c/\(c = -1\/(0<=c/\c<=2)):=by
 have s1:∀k,0<=k/\k<=2->gA n k=some (if 1<=n/\n<=jI k then .stop (Out.ret k) else .next (k+1)):=λk hk=>by simp only[gA];rw[eV,XY,aM,fX,aM,dO];grind
 have s2:∀k,0<=k/\k<=2->kM n k=some (if 1<=n/\n<=jI k then .stop (Out.ret k) else .next (k+1)):=λk hk=>by simp only[kM,BY];rw[eV,XZ,aM,dO];grind
 have st:∀k,0<=k/\k<=2->1<=n/\n<=jI k->loop (gA n) k=some (Out.ret k)/\loop (kM n) k=some (Out.ret k):=λk hk h=>
  ⟨bB aj,bB aj⟩
 have nx:∀k,0<=k/\k<=2->¬(1<=n/\n<=jI k)->loop (gA n) k=loop (gA n) (k+1)/\loop (kM n) k=loop (kM n) (k+1):=λk hk h=>
  ⟨bG aj,bG aj⟩
 unfold F9 LH;by_cases q0:1<=n/\n<=jI 0
 ·have:=st 0 aa q0;rw[this.1,this.2];exact⟨_,rfl,rfl,.inr aa⟩
 ·have h0:=nx 0 aa q0;rw[h0.1,h0.2,show(0:Int)+1=1 from rfl];by_cases q1:1<=n/\n<=jI 1
  ·have:=st 1 aa q1;rw[this.1,this.2];exact⟨_,rfl,rfl,.inr aa⟩
  ·have h1:=nx 1 aa q1;rw[h1.1,h1.2,show(1:Int)+1=2 from rfl];by_cases q2:1<=n/\n<=jI 2
   ·have:=st 2 aa q2;rw[this.1,this.2];exact⟨_,rfl,rfl,.inr aa⟩
   ·have h2:=nx 2 aa q2;rw[h2.1,h2.2,show(2:Int)+1=3 from rfl,bB (body:=gA n) (r:=Out.brk ()) (by simp[gA]),bB (body:=kM n) (r:=Out.brk ()) (by simp[kM])];exact⟨_,rfl,rfl,.inl rfl⟩
theorem a8Q{s:bH}(hl:s.aV.length<=1048576):∃t x,tT s=some (t,x)/\xO s=some (x,t)/\t.aV.length<=s.aV.length/\(0<=x->x∈s.aV)/\t.aV.Sublist s.aV:=by
 unfold tT xO P9;rw[dO];by_cases q:s.aV.length=0
 ·rw[aO aj,eV];grind
 ·have hx:idx s.aV ((s.aV.length:Int)-1)=some (s.aV[s.aV.length-1]' aa):=by grind[aZ]
  rw[aP aj,aH0,SF,hx];simp only[aM];grind[b7]
theorem R7(hw:0<=w/\w<=2)(hc:0<=c/\c<=2):TD w c=some (w*3+c)/\MS w c=some (w*3+c):=by grind[cW,TD,P8,fX,MS,IT,nC,kN]
theorem aLV{l:List bH}(hk:k<l.length){t:bH}(ht:t.aV.length<=l[k].aV.length):(fJ (l.set k t)).length<=(fJ l).length:=by grind[IA,D1]
section
variable {m:Mem} (hm:lX m)
include hm
theorem lX.facts:(iF m.aE).length<=24/\m.aE.Global.length=3/\m.aE.Own.length=9/\m.Heap.Bytes.length=384/\m.Heap.Class.length=6/\DG m/\jF m.aE=some m.aE/\pH m.aE=some true /\
  (∀s∈m.aE.Global,s.aV.length<=24)/\(∀s∈m.aE.Own,s.aV.length<=24):=by
 have hl:=hm.1.2;have hcnt:=hl.count;have hall:=vG m.aE;have hsG:∀s∈m.aE.Global,s.aV.length<=24:=λs h=>by have:=JW h;omega
 have hsO:∀s∈m.aE.Own,s.aV.length<=24:=λs h=>by have:=JW h;omega
 have h3:=hl.1;have h9:=hl.2.1;have h1:=hm.1.1.1.1;have h2:=hm.1.1.1.2.1;refine⟨hcnt,h3,h9,h1,h2,⟨aa,aa,aa,aa,aa⟩,QJ aa aa (λs h=>aj) (λs h=>aj),by grind[VD],hsG,hsO⟩
theorem aLW(hw:0<=w/\w<=2)(hc:0<=c/\c<=2) :
  ∃l t x,idx m.aE.Own (w*3+c)=some l/\tT l=some (t,x)/\LI m.aE w c=some (⟨m.aE.Global,m.aE.Own.set (w*3+c).toNat t⟩,x) /\
   DG ⟨m.Heap,⟨m.aE.Global,m.aE.Own.set (w*3+c).toNat t⟩⟩/\(0<=x->0<=bM m.Heap x)/\vJ m ⟨m.Heap,⟨m.aE.Global,m.aE.Own.set (w*3+c).toNat t⟩⟩ (-1):=by
 obtain⟨hcnt,h3,h9,h1,h2,hsm,hcp,hlo,hsG,hsO⟩:=lX.facts hm;have hk:(w*3+c).toNat<m.aE.Own.length:=aa
 have hx:idx m.aE.Own (w*3+c)=some m.aE.Own[(w*3+c).toNat]:=gW aa aa;have h24:=hsO _ (dF hk);obtain⟨t,x,e1,e2,ht,hmem,hsub⟩:=a8Q (s:=m.aE.Own[(w*3+c).toNat]) aa;have hall:=vG m.aE;refine⟨_,t,x,hx,e1,?_,⟨aj,aj,aj,aj,?_⟩,λh0=>?_,lX.bIC hm aa (by grind[eB])⟩
 ·unfold LI BZ;rw[hcp,(R7 hw hc).2,hlo];grind
 ·grind[aLV,vG]
 ·have:=hm.2.2 (w*3+c).toNat aa x (by grind[eB]);omega
theorem aAI(hc:0<=c/\c<=2) :
  ∃l t x,idx m.aE.Global c=some l/\tT l=some (t,x)/\B4 m.aE c=some (⟨m.aE.Global.set c.toNat t,m.aE.Own⟩,x) /\
   DG ⟨m.Heap,⟨m.aE.Global.set c.toNat t,m.aE.Own⟩⟩/\(0<=x->0<=bM m.Heap x)/\vJ m ⟨m.Heap,⟨m.aE.Global.set c.toNat t,m.aE.Own⟩⟩ (-1):=by
 obtain⟨hcnt,h3,h9,h1,h2,hsm,hcp,hlo,hsG,hsO⟩:=lX.facts hm;have hk:c.toNat<m.aE.Global.length:=aa
 have hx:idx m.aE.Global c=some m.aE.Global[c.toNat]:=gW aa aa;have h24:=hsG _ (dF hk);obtain⟨t,x,e1,e2,ht,hmem,hsub⟩:=a8Q (s:=m.aE.Global[c.toNat]) aa;have hall:=vG m.aE;refine⟨_,t,x,hx,e1,?_,⟨aj,aj,aj,aj,?_⟩,λh0=>?_,lX.a3M hm aa (by grind[eB])⟩
 ·simp_all[B4,tH,kN]
 ·grind[aLV,vG]
 ·have:=hm.2.1 c.toNat aa x (by grind[eB]);omega
theorem aIU{h:Int}(hw:0<=w/\w<=2)(hv:mU m h):∃m',JO m w (h % 32)=some m'/\MY m w h=some m'/\DG m'/\vJ m m' (h % 32):=by
 obtain⟨hcnt,h3,h9,h1,h2,hsm,hcp,hlo,hsG,hsO⟩:=lX.facts hm;have hs:=hm.1.1.1;have hh:=hv.1;have hhm:=hh.mod;have hcl:=dQ hv.2.1;have hgo:=YZ hcl;have hc2:0<=bM m.Heap (h % 32)/\bM m.Heap (h % 32)<=2:=by obtain⟨_,q,e⟩:=rE hcl;rw[e];exact j4.1 aa
 have hg6:1<=h/32/\h/32<=6:=by grind[lN]
 have hbl:m.Heap.Bytes.length<=maxLen:=by grind[maxLen]
 have hnot:h % 32∉iF m.aE:=λq=>by have:=hv.2.1;simp_all[eP,aP]
 have hcpH:=T4 (h:=m.Heap) aa aa;have eo:jB (h % 32) (bM m.Heap (h % 32))=(((jB (h % 32) (bM m.Heap (h % 32))).toNat:Nat):Int):=aa
 have ew:aY (h/32+1)=h/32+1:=dO;have ed:aY (Int.tdiv h 32)=h/32:=by grind[cW]
 have hall:=vG m.aE;obtain⟨hr1,hr2⟩:=lX.bNR hm hv.2.1 (g:=h/32+1) aa;have hu:=iP.1 hv.2.1;unfold JO MY WN E7;rw[hhm.1,CS hs,hcpH,NO hbl,dA hs,kO hs,ed,ew,hcp];simp only[aM,kY,bV,bR,MX,FK,MW];rw[wA hs hcl,hv.2.2,dP,iD (show ¬bM m.Heap (h % 32)<0 by omega),dA (show 1<=h/32+1/\h/32+1<=7 by omega)];simp only[aM,kY,bV,bR,BK,BL,ew];generalize hgn:(jB (h % 32) (bM m.Heap (h % 32))).toNat=a at eo;rw[hgn] at hr1 hr2;rw[eo,KO aa aa aa,aAH aa];simp only[aM];rw[X8 aa aa aa];simp only[aM,ND,P0,ed,ew,hhm.1];by_cases q:h/32+1<=6
 ·have hk:(w*3+bM m.Heap (h % 32)).toNat<m.aE.Own.length:=aa
  have hx:idx m.aE.Own (w*3+bM m.Heap (h % 32))=some m.aE.Own[(w*3+bM m.Heap (h % 32)).toNat]:=gW aa aa;have hk2:(bM m.Heap (h % 32)).toNat<m.aE.Global.length:=aa
  have hx2:idx m.aE.Global (bM m.Heap (h % 32))=some m.aE.Global[(bM m.Heap (h % 32)).toNat]:=gW aa aa;have b1:=hsO _ (dF hk);have b2:=hsG _ (dF hk2);rw[dA q,aO rfl,aO rfl];unfold XA aEZ y9;rw[kO hs,aM,hcp,(R7 hw hc2).1,(R7 hw hc2).2,hlo,yN,dA (show 0<=h % 32/\h % 32<=23 by omega),X7 aa aa aa,iD hnot];simp only[aM,kY,bV,bR,hx,hx2];have nz:¬w*3+bM m.Heap (h % 32)<0:=aa
  simp only[iD nz,bV,bR];by_cases q2:m.aE.Own[(w*3+bM m.Heap (h % 32)).toNat].aV.length<2
  ·have y1:(m.aE.Own[(w*3+bM m.Heap (h % 32)).toNat].aV.length:Int)<2:=aa
   have y2:¬(2:Int)<=m.aE.Own[(w*3+bM m.Heap (h % 32)).toNat].aV.length:=aa
   simp only[dA y1,iD y2,bV,bR,bT];rw[OD,OD];refine⟨_,rfl,rfl,⟨by grind[GP],aj,aj,aj,?_⟩,?_⟩
   ·grind[vG,aBK]
   ·have hmod:((w*3+bM m.Heap (h % 32)).toNat % 3:Nat)=(bM m.Heap (h % 32)).toNat:=aa
    obtain⟨z1,z2⟩:=lX.bDD hr1.1 (k:=(w*3+bM m.Heap (h % 32)).toNat) aa (xs:=[h % 32]) (by grind[eB]) ae (λx hx=>by
     simp at hx;subst hx;exact⟨by rw[hmod];show bM m.Heap (h % 32)=_;omega,aj⟩) (λx hx=>aj) hk
    refine⟨z1,λs h1 h2=>?_⟩;obtain⟨y1,y2,y3⟩:=hr1.2 s h1 h2;grind
  ·have y1:¬(m.aE.Own[(w*3+bM m.Heap (h % 32)).toNat].aV.length:Int)<2:=aa
   have y2:(2:Int)<=m.aE.Own[(w*3+bM m.Heap (h % 32)).toNat].aV.length:=aa
   simp only[dA y2,iD y1,bV,bR,bT];rw[OD,OD];refine⟨_,rfl,rfl,⟨by grind[GP],aj,aj,aj,?_⟩,?_⟩
   ·grind[vG,aBK]
   ·obtain⟨z1,z2⟩:=lX.aLU hr1.1 (k:=(bM m.Heap (h % 32)).toNat) aa (xs:=[h % 32]) ae (λx hx=>by
     simp at hx;subst hx;exact⟨by show bM m.Heap (h % 32)=_;omega,aj⟩) (λx hx=>aj) hk2
    refine⟨z1,λs h1 h2=>?_⟩;obtain⟨y1,y2,y3⟩:=hr1.2 s h1 h2;grind
 ·rw[iD q,gH,gH];refine⟨_,rfl,rfl,⟨by grind[GP],aj,aj,aj,by(simp_all;omega)⟩,hr1⟩
end
theorem alloc_eq{b:aA}(hm:lX b.Mem)(hw:0<=w/\w<=2)(s:Sub) :
  ∃x y,BE b w s=some (x,y)/\tI s b w=some (y,x)/\∃m',x=⟨m',b.aC,b.aQ,b.qT⟩/\DG m'/\vJ b.Mem m' (-1):=by
 have hsm:=(lX.facts hm).2.2.2.2.2.1;have hs:=hm.1.1.1;obtain⟨c,ec,ei,hcc⟩:=aX4 s.A;unfold BE tI;rw[ec,ei];simp only[aM];by_cases c0:c<0
 ·simp only[dA c0,bT,bO,bJ];exact⟨_,_,rfl,rfl,_,rfl,hsm,vJ.refl hm _⟩
 have hc:0<=c/\c<=2:=aa
 simp only[iD c0,bV,bR];have fin:∀(m':Mem) (x:Int),DG m'->vJ b.Mem m' (-1)->(0<=x->iC m'.Heap/\0<=bM m'.Heap x) ->
   ∃X Y,jY s x ⟨m',b.aC,b.aQ,b.qT⟩=some (X,Y)/\jE s x ⟨m',b.aC,b.aQ,b.qT⟩=some (Y,X)/\∃m',X=⟨m',b.aC,b.aQ,b.qT⟩/\DG m'/\vJ b.Mem m' (-1):=by
  intro m' x hs' hst hx;unfold jY jE;simp only[zJ,TH,bO,bJ];by_cases x0:0<=x
  ·obtain⟨h,e1,e2⟩:=a3L (m:=m') (hx x0).1 (hx x0).2;rw[iD (show ¬x<0 by omega),dA x0];simp only[bV,bR,bT,e1,e2,aM];grind
  ·rw[dA (show x<0 by omega),iD x0];by_cases p3:s.Pc=3
   ·simp only[p3,beq_self_eq_true,bT,bV,bR,aM];grind
   ·have p3':(s.Pc == 3)=false:=aj
    simp only[p3',bT,bV,bR,aM];grind
 by_cases p0:s.Pc=0
 ·obtain⟨l,t,x,e1,e2,e3,h1,h2,h3⟩:=aLW hm hw hc;simp_all[R7]
 ·have p0':(s.Pc == 0)=false:=aj
  simp only[p0',bV,bR,zK,oA];obtain⟨l,t,x,e1,e2,e3,h1,h2,h3⟩:=aAI hm hc;by_cases p1:s.Pc=1
  ·simp_all
  ·have p1':(s.Pc == 1)=false:=aj
   simp only[p1',bV,bR];by_cases p3:s.Pc=3
   ·simp_all
   ·have p3':(s.Pc == 3)=false:=aj
    simp only[p3',bV,bR];by_cases p2:s.Pc=2
    ·obtain⟨m',x,e1,e2,h1,h2,h3⟩:=aUU hm hc;simp_all
    ·have p2':(s.Pc == 2)=false:=aj
     simp only[p2',bV,bR,bO,bJ];exact⟨_,_,rfl,rfl,_,rfl,hsm,vJ.refl hm _⟩
theorem a04(r:eR)(e:Int):∃v,ME r e=some v/\RN r e=some v:=by
 unfold ME RN LW LK;by_cases h:2<=e
 ·simp only[dA h,bT];exact⟨_,rfl,rfl⟩
 ·simp only[iD h,bV,bR];exact⟨_,rfl,rfl⟩
theorem bDE{b:aA}{l:bU}(hx:idx b.aQ w=some l)(hl:l.Rows.length<=1000)(s:Sub) :
  (zL l.Rows s.Row s.E=some (-1)/\pL s b w=(bJ s 0).bind λx=>some (x,b)) \/
  ∃k,∃h:k<l.Rows.length,zL l.Rows s.Row s.E=some (k:Int)/\pL s b w=some (⟨s.Kind,s.A,2,s.E,(k:Int),0,l.Rows[k].Handle,s.Out,s.Code,s.gX⟩,b):=by
 have key:∀d k,k+d=l.Rows.length ->
   (loop (fL l.Rows s.E) (k:Int)=some (Out.brk ())/\loop (fM s b w) (k:Int)=some (Out.brk ())) \/
   ∃j,∃h:j<l.Rows.length,loop (fL l.Rows s.E) (k:Int)=some (Out.ret (j:Int))/\loop (fM s b w) (k:Int)=some (Out.ret (⟨s.Kind,s.A,2,s.E,(j:Int),0,l.Rows[j].Handle,s.Out,s.Code,s.gX⟩,b)):=by
  intro d;induction d with
  |zero=>
   simp_all[bB,fL,fM]
  |succ d ih=>
   intro k hk;have hk':k<l.Rows.length:=aa
   obtain⟨v,e1,e2⟩:=a04 l.Rows[k] s.E;cases v with
   |true=>
    right;refine⟨k,hk',bB ?_,bB ?_⟩
    ·simp only[fL];rw[eV,aZ hk',aM,e1];rfl
    ·simp only[fM,hx,aM];rw[eV,aZ hk',aM,e2];rfl
   |false=>
    have n1:fL l.Rows s.E (k:Int)=some (.next ((k+1:Nat):Int)):=by simp only[fL];rw[eV,aZ hk',aM,e1,aM,dO];rfl
    have n2:fM s b w (k:Int)=some (.next ((k+1:Nat):Int)):=by simp only[fM,hx,aM];rw[eV,aZ hk',aM,e2,aM,dO];rfl
    rw[bG n1,bG n2];exact ih (k+1) aa
 unfold zL pL;have hst:∃i:Nat,(if 0<s.Row then s.Row else 0)=(i:Int)/\(if s.Row<0 then 0 else s.Row)=(i:Int):=by refine⟨s.Row.toNat,?_,?_⟩<;>split<;>omega
 obtain⟨i,i1,i2⟩:=hst;rw[i1,i2];by_cases hi:i<=l.Rows.length
 ·rcases key (l.Rows.length-i) i aa with ⟨a,c⟩|⟨j,hj,a,c⟩
  ·left;rw[a,c];exact⟨rfl,rfl⟩
  ·right;rw[a,c];exact⟨j,hj,rfl,rfl⟩
 ·left;rw[bB (body:=fL l.Rows s.E) (r:=Out.brk ()) (by simp only[fL];grind),
   bB (body:=fM s b w) (r:=Out.brk ()) (by simp only[fM,hx,aM];grind)]
  exact⟨rfl,rfl⟩
theorem del_eq{l:List O}(h:k<l.length):((cS l k (l.drop (k+1))).take (k+(l.length-(k+1)))).drop 0=l.eraseIdx k:=by grind[cS,aF2]
theorem aLX{l:List O}(h:k<l.length):l.Perm (l[k]::l.eraseIdx k):=by grind[uI,ZV,List.eraseIdx_eq_take_drop_succ,List.perm_middle]
theorem zY.drop{b:List bU}(hL:zY b){w:Nat}(hw:w<b.length):∀k (hk:k<b[w].Rows.length),zY (b.set w ⟨b[w].Rows.eraseIdx k⟩)/\∀r∈dW (b.set w ⟨b[w].Rows.eraseIdx k⟩),r∈dW b/\r.Handle % 32≠b[w].Rows[k].Handle % 32:=by
 intro k hk;have hsub:(dW (b.set w ⟨b[w].Rows.eraseIdx k⟩)).Sublist (dW b):=by grind[MG,JX]
 have hnd:=hL.2.2.2;refine⟨⟨by simpa using hL.1,lO hsub.length_le hL.2.1,λr hr=>hL.2.2.1 r (hsub.subset hr),(hsub.map HK).nodup hnd⟩,λr hr=>⟨hsub.subset hr,?_⟩⟩;have hp:(dW b).Perm (b[w].Rows[k]::dW (b.set w ⟨b[w].Rows.eraseIdx k⟩)):=by rw[MG hw,JX hw];refine List.Perm.trans (List.Perm.append_left _ (List.Perm.append_right _ (aLX hk))) ?_;simp
 grind[HK]
theorem aX5{b:aA}(hb:m5 b)(hw:0<=w/\w<=2)(s:Sub) :
  ∃x y,vC b w s=some (x,y)/\pM s b w=some (y,x)/\∃m' L,x=⟨m',b.aC,L,b.qT⟩/\DG m'/\lX m'/\zY L/\∀r∈dW L,mU m' r.Handle/\r.aL<=b.aC.aL:=by
 have hm:=hb.1.1;have hL:=hb.1.2.2.1;have hZ:=hb.1.2.2.2;have hsm:=(lX.facts hm).2.2.2.2.2.1;have hlen:w.toNat<b.aQ.length:=by have:=hL.1;omega
 have hx:idx b.aQ w=some b.aQ[w.toNat]:=gW hw.1 aa;have hrow:=hL.small.2.2.2 _ (dF hlen);have hmemL:b.aQ[w.toNat]∈b.aQ:=dF hlen;have hset:=zY.drop hL hlen;generalize b.aQ[w.toNat]=l at hx hrow hset hmemL;have done:∀y:Sub,∃x z,(some (b,y):Option (aA×Sub))=some (x,z)/\(some (y,b):Option (Sub×aA))=some (z,x)/\∃m' L,x=⟨m',b.aC,L,b.qT⟩/\DG m'/\lX m'/\zY L/\∀r∈dW L,mU m' r.Handle/\r.aL<=b.aC.aL:=
  λy=>⟨_,_,rfl,rfl,b.Mem,b.aQ,rfl,hsm,hm,hL,hb.2⟩
 have hw1:aY ((l.Rows.length:Int)-1)=(l.Rows.length:Int)-1:=dO;have hhas:JG b.aQ w s.Row=some (decide (0<=s.Row/\s.Row<=(l.Rows.length:Int)-1)):=by simp_all[JG,FL,nC,dP]
 unfold vC pM;rw[hhas,hx];simp only[aM,bO,fX,hw1];have hat:∃a:Bool,(if decide (0<=s.Row/\s.Row<=(l.Rows.length:Int)-1)=true then(idx l.Rows s.Row).bind λx15=>gE s b w (x15.Handle == s.H) else gE s b w false)=gE s b w a /\
   (if(!decide (0<=s.Row/\s.Row<=(l.Rows.length:Int)-1))=true then fT b s true else(idx l.Rows s.Row).bind λx11=>fT b s (x11.Handle != s.H))=fT b s (!a) /\
   (a=true->∃r,r∈l.Rows/\idx l.Rows s.Row=some r/\r.Handle=s.H/\0<=s.Row/\s.Row<l.Rows.length) /\
   (a=false->∀f:eR->Option (aA×Sub),(if(!decide (0<=s.Row/\s.Row<=(l.Rows.length:Int)-1))=true then fU b w s l true else(idx l.Rows s.Row).bind λx=>if(x.Handle != s.H)=true then fU b w s l true else f x)=fU b w s l true):=by
  by_cases q:0<=s.Row/\s.Row<=(l.Rows.length:Int)-1
  ·have hr:idx l.Rows s.Row=some (l.Rows[s.Row.toNat]' aa):=gW q.1 aa;by_cases q2:(l.Rows[s.Row.toNat]' aa).Handle=s.H
   ·refine⟨true,?_,?_,λ_=>⟨_,dF _,hr,q2,q.1,aa⟩,λh=>by cases h⟩
    ·rw[dA q,aO rfl,hr,aM,q2,beq_self_eq_true]
    ·rw[dA q,gH,hr,aM,q2,bne_self_eq_false];rfl
   ·have n1:((l.Rows[s.Row.toNat]' aa).Handle == s.H)=false:=by simpa using q2
    have n2:((l.Rows[s.Row.toNat]' aa).Handle != s.H)=true:=by simpa using q2
    refine⟨false,?_,?_,(λh=>by cases h),λ_ f=>?_⟩
    ·rw[dA q,aO rfl,hr,aM,n1]
    ·rw[dA q,gH,hr,aM,n2];rfl
    ·rw[dA q,gH,hr,aM,n2,aO rfl]
  simp_all[iD]
 obtain⟨a,ha1,ha2,ha3,ha4⟩:=hat;rw[ha1,ha2];unfold gE;by_cases p0:s.Pc=0
 ·simp_all
 have p0':(s.Pc == 0)=false:=aj
 simp only[p0',bV,bR];by_cases p1:s.Pc=1
 ·simp only[p1,beq_self_eq_true,bT];rcases bDE hx aa s with ⟨e1,e2⟩|⟨k,hk,e1,e2⟩
  ·simp_all[bJ]
  simp_all[aP,aZ]
 have p1':(s.Pc == 1)=false:=aj
 simp only[p1',bV,bR];by_cases p2:s.Pc=2
 ·simp only[p2,beq_self_eq_true,bT,nC,aM];by_cases hB:0<=s.B/\s.B<=2
  ·rw[dA hB];simp only[kY,bV,bR,bT];cases a with
   |true=>
    have hz:idx b.qT s.B=some (b.qT[s.B.toNat]'(by have:=hZ.1;omega)):=gW hB.1 (by have:=hZ.1;omega);simp only[fT,fB,kY,bV,bR,bT,hz,aM,tX];by_cases q:(b.qT[s.B.toNat]' aj)=s.H
    ·simp_all
    ·have q':((b.qT[s.B.toNat]' aj) == s.H)=false:=aj
     simp only[q',bV,bR];by_cases q3:aY (s.B+1)=3
     ·simp_all
     simp_all
   |false=>
    simp_all[fT,fB,dR,bO,bJ]
  simp_all[iD,fT,fB,dR,bO,bJ]
 have p2':(s.Pc == 2)=false:=aj
 simp only[p2',bV,bR,fB];by_cases p3:s.Pc=3
 ·simp only[p3,beq_self_eq_true,bT];cases a with
  |false=>
   rw[ha4 rfl];simp_all[fU,dR,bO,bJ]
  |true=>
   obtain⟨r,hrm,hr,hrH,r0,r1⟩:=ha3 rfl;obtain⟨v,e1,e2⟩:=a04 r s.E;rw[dA (show 0<=s.Row/\s.Row<=(l.Rows.length:Int)-1 by omega)];simp only[kY,bV,bR,bT,hr,aM,hrH,bne_self_eq_false,hx,e1,e2];cases v with
   |false=>
    simp_all[fU,dR,bO,bJ]
   |true=>
    have hlive:mU b.Mem s.H:=by have:r∈dW b.aQ:=aFZ.2 ⟨l,hmemL,hrm⟩;have:=(hb.2 r this).1;grind
    obtain⟨m',f1,f2,f3,f4⟩:=aIU hm hw hlive;have ew:aY (s.Row+1)=s.Row+1:=dO;have hdrop:LL b.aQ w s.Row=some (b.aQ.set w.toNat ⟨((cS l.Rows s.Row.toNat (l.Rows.drop (s.Row+1).toNat)).take (s.Row.toNat+(l.Rows.length-(s.Row+1).toNat))).drop 0⟩,true):=by
     unfold LL B5;rw[QK hL.small.2.2.1 (λs h=>by have:=hL.small.2.2.2 s h;omega),CT hL.small.1,dA hL,hhas,dA (show 0<=s.Row/\s.Row<=(l.Rows.length:Int)-1 by omega)];simp only[aM,kY,bV,bR,hx,ew];unfold C2;rw[SF,aH0,SF,SF,SF,b7]
     ·rfl
     grind[eZ]
    simp only[fU,dR,DC,ew,kY,bV,bR,bT];rw[SF,SF,SF,jS,aO hlive.1,aM,f1,f2,hdrop];have hk:s.Row.toNat<l.Rows.length:=aa
    have eL:((cS l.Rows s.Row.toNat (l.Rows.drop (s.Row+1).toNat)).take (s.Row.toNat+(l.Rows.length-(s.Row+1).toNat))).drop 0=l.Rows.eraseIdx s.Row.toNat:=by rw[show(s.Row+1).toNat=s.Row.toNat+1 by omega];exact del_eq hk
    have er:l.Rows[s.Row.toNat]=r:=by grind[aZ]
    rw[eL] at hdrop ⊢;obtain⟨g1,g2⟩:=hset s.Row.toNat hk;refine⟨_,_,rfl,rfl,m',_,rfl,f3,f4.1,g1,λq hq=>?_⟩;obtain⟨g3,g4⟩:=g2 q hq;obtain⟨g5,g6⟩:=hb.2 q g3;refine⟨f4.live g5 λe=>?_,g6⟩;grind
 simp_all[dR,bJ]
theorem T2.fits{b:aA}(h:T2 b):b.Mem.Heap.Bytes.length<=maxLen/\(iF b.Mem.aE).length<=1073741824/\b.aC.cO.length<=maxLen/\b.aQ.length<=maxLen/\(dW b.aQ).length<=1073741824/\b.qT.length<=maxLen:=by
 have hb:(1048576:Nat)<=maxLen:=by simp[maxLen]
 have g1:=h.1.1;have g2:=h.1.2.2.2.2;have g3:=h.2.1;have g4:=h.2.2.1;have g5:=h.2.2.2.1;have g6:=h.2.2.2.2;omega
theorem step_eq{b:aA}(hb:m5 b)(hs:T2 b)(hw:0<=w/\w<=2)(s:Sub) :
  ∃x y,TJ b w s=some (x,y)/\qK s b w=some (y,x)/\m5 x:=by
 have hz:=hb.1.2.2.2.1;have hl:=hb.1.2.2.1;unfold TJ qK;cases hd:s.gX with
 |true=>grind
 |false=>
  simp only[bV,bR];by_cases k1:s.Kind=1
  ·obtain⟨x,y,e1,e2,m,rfl,h1,h2⟩:=alloc_eq hb.1.1 hw s;simp only[k1,beq_self_eq_true,bT,e1,e2,aM];exact⟨_,_,rfl,rfl,⟨h2.1,hb.1.2⟩,λr hr=>⟨h2.live (hb.2 r hr).1 aa,(hb.2 r hr).2⟩⟩
  have k1':(s.Kind == 1)=false:=aj
  simp only[k1',bV,bR];by_cases k2:s.Kind=2
  ·obtain⟨x,y,e1,e2,L,rfl,h1,h2⟩:=a3H hb hs hw s;simp only[k2,beq_self_eq_true,bT,e1,e2,aM];exact⟨_,_,rfl,rfl,⟨hb.1.1,hb.1.2.1,h1,hb.1.2.2.2⟩,h2⟩
  have k2':(s.Kind == 2)=false:=aj
  simp only[k2',bV,bR];by_cases k3:s.Kind=3
  ·obtain⟨x,y,e1,e2,c,rfl,h1,h2⟩:=aXZ hb.1.2.1 s;simp only[k3,beq_self_eq_true,bT,e1,e2,aM];exact⟨_,_,rfl,rfl,⟨hb.1.1,h1,hb.1.2.2⟩,λr hr=>⟨(hb.2 r hr).1,aJJ (hb.2 r hr).2 h2⟩⟩
  have k3':(s.Kind == 3)=false:=aj
  simp only[k3',bV,bR];by_cases k4:s.Kind=4
  ·obtain⟨x,y,e1,e2,m,L,rfl,h1,h2,h3,h4⟩:=aX5 hb hw s;simp only[k4,beq_self_eq_true,bT,e1,e2,aM];exact⟨_,_,rfl,rfl,⟨h2,hb.1.2.1,h3,hb.1.2.2.2⟩,h4⟩
  have k4':(s.Kind == 4)=false:=aj
  simp only[k4',bV,bR];by_cases k5:s.Kind=5
  ·obtain⟨x,y,e1,e2,c,rfl,h1,h2⟩:=bIB hb.1.2.1 hw s;simp only[k5,beq_self_eq_true,bT,e1,e2,aM];exact⟨_,_,rfl,rfl,⟨hb.1.1,h1,hb.1.2.2⟩,λr hr=>⟨(hb.2 r hr).1,aJJ (hb.2 r hr).2 h2⟩⟩
  have k5':(s.Kind == 5)=false:=aj
  simp only[k5',bV,bR,bO,bJ,aM];grind
theorem m5.small{b:aA}(hb:m5 b):T2 b:=by have h1:=hb.1.2.1.2.1;have h2:=hb.1.2.2.1.1;have h3:=hb.1.2.2.1.2.1;have h4:=hb.1.2.2.2.1;exact⟨(lX.facts hb.1.1).2.2.2.2.2.1,aa,aa,aa,aa⟩
def yO(s:Sub)(code:Int):Sub:={s with Code:=code,gX:=true}
def KQ(n:Int):Int:=if 1<=n/\n<=8 then 0 else if 1<=n/\n<=16 then 1 else if 1<=n/\n<=40 then 2 else -1
theorem aX6(n:Int):-1<=KQ n/\KQ n<=2:=by grind[KQ]
theorem a3N(n:Int):F9 n=some (KQ n):=by
 have s1:∀k,0<=k/\k<=2->gA n k=some (if 1<=n/\n<=jI k then .stop (Out.ret k) else .next (k+1)):=λk hk=>by simp only[gA];rw[eV,XY,aM,fX,aM,dO];grind
 have z0:jI 0=8:=rfl;have z1:jI 1=16:=rfl;have z2:jI 2=40:=rfl;unfold F9 KQ;by_cases q0:1<=n/\n<=8
 ·rw[bB (by rw[s1 0 aa,aO aa]),aO q0];rfl
 ·rw[bG (by rw[s1 0 aa,iE]),aP q0,show(0:Int)+1=1 from rfl];by_cases q1:1<=n/\n<=16
  ·rw[bB (by rw[s1 1 aa,aO aa]),aO q1];rfl
  ·rw[bG (by rw[s1 1 aa,iE]),aP q1,show(1:Int)+1=2 from rfl];by_cases q2:1<=n/\n<=40
   ·rw[bB (by rw[s1 2 aa,aO aa]),aO q2];rfl
   ·rw[bG (by rw[s1 2 aa,iE]),aP q2,show(2:Int)+1=3 from rfl,bB (body:=gA n) (r:=Out.brk ()) (by simp[gA])];rfl
def NS(l:List Int):List Int×Int:=(l.dropLast,l.getLastD (-1))
theorem aIV{s:bH}(h:s.aV.length<=1048576):tT s=some (⟨(NS s.aV).1⟩,(NS s.aV).2):=by
 unfold tT P9 NS;obtain⟨l⟩:=s;rcases ZP l with rfl|⟨L,b,rfl⟩
 ·rfl
 ·simp only[aJK] at h ⊢;have hl:(L++[b]).length=L.length+1:=ae
  rw[hl,dO,show((L.length+1:Nat):Int)-1=(L.length:Int) by omega,aH0,SF,XX];simp
def GS(m:Mem)(w c:Int):Mem×Int:=(⟨m.Heap,⟨m.aE.Global,m.aE.Own.set (w*3+c).toNat ⟨(NS (fO m.aE.Own (w*3+c).toNat)).1⟩⟩⟩,(NS (fO m.aE.Own (w*3+c).toNat)).2)
def zO(m:Mem)(c:Int):Mem×Int:=(⟨m.Heap,⟨m.aE.Global.set c.toNat ⟨(NS (fO m.aE.Global c.toNat)).1⟩,m.aE.Own⟩⟩,(NS (fO m.aE.Global c.toNat)).2)
def pgF(h:Heap):Nat:=h.Class.findIdx (λx=>decide (x = -1))
def yP(m:Mem)(c:Int):Mem×Int:=if pgF m.Heap=6 then(m,-1) else
 (⟨⟨gB m.Heap.Bytes (pgF m.Heap) c (cJ c).toNat,m.Heap.Class.set (pgF m.Heap) c⟩,⟨m.aE.Global.set c.toNat ⟨fO m.aE.Global c.toNat++(gS (pgF m.Heap) (cJ c).toNat).drop 1⟩,m.aE.Own⟩⟩,(pgF m.Heap:Int)*4)
theorem a8R{h:Heap}(hs:iC h):pgF h<=6:=by rw[<-hs.2.1];exact List.findIdx_le_length
theorem aX7{h:Heap}(hs:iC h)(hq:pgF h≠6):pgF h<6/\cZ h (pgF h) = -1:=by
 have h6:=hs.2.1;have hlt:pgF h<6:=by grind[a8R]
 refine⟨hlt,?_⟩;rw[<-YY hs hlt];have:=aSX (xs:=h.Class) (p:=λx=>decide (x = -1)) (w:=by grind[pgF]);exact of_decide_eq_true this
theorem bDF{h:Heap}(hs:iC h):∀j (hj:j<6),j<pgF h->cZ h j≠-1:=λj hj hlt=>by have:=List.not_of_lt_findIdx hlt;grind[YY]
theorem bID{h:Heap}(hh:HOk h)(hc:0<=c/\c<=2):tU h c=some (if pgF h=6 then(h,[]) else(⟨gB h.Bytes (pgF h) c (cJ c).toNat,h.Class.set (pgF h) c⟩,gS (pgF h) (cJ c).toNat)):=by
 have hs:=hh.1;have h6:=hs.2.1;have h384:=hs.1;have hle:=a8R hs;have s1:∀k (hk:k<pgF h),fK h c (k:Int)=some (.next ((k+1:Nat):Int)):=λk hk=>by
  have n:(h.Class[k] != -1)=true:=by grind[bDF,YY]
  simp only[fK,KI];rw[eV,XX,aM,n,aO rfl,dO];rfl
 unfold tU;by_cases hq:pgF h=6
 ·have a1:loop (fK h c) 0=some (Out.brk ()):=iW (pgF h) (λk=>(k:Int)) _ s1 (by simp_all[fK]);rw[a1,aO hq];rfl
 ·obtain⟨hlt,he⟩:=aX7 hs hq;rw[<-YY hs hlt] at he;generalize hqq:pgF h=q at *;have a1:loop (fK h c) 0=some (Out.ret (⟨gB h.Bytes q c (cJ c).toNat,h.Class.set q c⟩,gS q (cJ c).toNat)):=iW q (λk=>(k:Int)) _ s1 (by
   have e0:aY ((q:Int)*64)=((q*64:Nat):Int):=by grind[cW]
   have e1:aY (((q*64:Nat):Int)+1)=((q*64+1:Nat):Int):=by grind[cW]
   have e2:aY (((q*64:Nat):Int)+2)=((q*64+2:Nat):Int):=by grind[cW]
   have n:(h.Class[q] != -1)=false:=aj
   simp only[fK,e0,e1,e2,K8];rw[eV,XX,aM,n,gH,XX,aM,aZ ah,aM,o6,aM,aZ ah,aM];have:=aLS h384 hlt hc;simp only[gB] at this;rw[this];rfl)
  rw[a1,aP hq];rfl
theorem a3O(hm:lX m)(hc:0<=c/\c<=2):GB m c=some (yP m c):=by
 have h3:=hm.1.2.1;have hpp:0<cJ c:=j4.2 hc;have hp4:=pY c;obtain⟨_,_,_,_,_,_,_,_,hsG,_⟩:=lX.facts hm;unfold GB yP;rw[bID hm.1.1 hc];by_cases hq:pgF m.Heap=6
 ·simp_all
 ·have hk:c.toNat<m.aE.Global.length:=aa
  have hg0:=hsG _ (dF hk);have hx:idx m.aE.Global c=some m.aE.Global[c.toNat]:=gW hc.1 aa;have hz:idx (gS (pgF m.Heap) (cJ c).toNat) 0=some ((pgF m.Heap:Int)*4):=by grind[aZ,gS]
  have hn:(((cJ c).toNat:Int) == 0)=false:=aj
  have ht:(gS (pgF m.Heap) (cJ c).toNat).take (cJ c).toNat=gS (pgF m.Heap) (cJ c).toNat:=aF2 (by grind[aFI]);have hd:((gS (pgF m.Heap) (cJ c).toNat).drop 1).length<=4:=aj
  simp only[aP hq,aM,aFI,hn,bV,bR,hx,hz,KJ,ht];grind[b7,eB]
def aX8(m:Mem)(s:Int):Int:=if 1<=kQ m.Heap s/\kQ m.Heap s<=6 then kQ m.Heap s*32+s else 0
theorem bDG(hs:iC m.Heap)(hc:0<=bM m.Heap s):BD m s=some (aX8 m s):=by
 unfold BD QA zH aX8;rw[wA hs hc,aM,fX,fX];have h1:=(rE hc).1;simp only[dA h1,aM,kY,bV,bR];by_cases q:1<=kQ m.Heap s/\kQ m.Heap s<=6
 ·simp only[dA q,kY,bV,bR,aO q];grind[cW]
 grind
def NT(b:aA)(s:Sub)(p:Mem×Int):aA×Sub:=if 0<=p.2 then({b with Mem:=p.1},yO {s with Out:=aX8 p.1 p.2} 0) else if s.Pc=3 then({b with Mem:=p.1},yO s 3) else({b with Mem:=p.1},{s with Pc:=s.Pc+1})
def YB(b:aA)(w:Int)(s:Sub):aA×Sub:=
 if KQ s.A<0 then(b,yO s 2)
 else if s.Pc=0 then NT b s (GS b.Mem w (KQ s.A))
 else if s.Pc=1\/s.Pc=3 then NT b s (zO b.Mem (KQ s.A))
 else if s.Pc=2 then NT b s (yP b.Mem (KQ s.A))
 else(b,yO s 1)
theorem a3P{b:aA}(hm:lX b.Mem)(hw:0<=w/\w<=2)(s:Sub):BE b w s=some (YB b w s):=by
 obtain⟨hcnt,h3,h9,h1,h2,hsm,hcp,hlo,hsG,hsO⟩:=lX.facts hm;have hs:=hm.1.1.1;have hr:=aX6 s.A;unfold BE YB;rw[a3N];simp only[aM];by_cases c0:KQ s.A<0
 ·simp only[dA c0,bT,bO,aO c0];rfl
 generalize KQ s.A=c at *;have hc:0<=c/\c<=2:=aa
 simp only[iD c0,bV,bR,aP c0];have fin:∀(p:Mem×Int),-1<=p.2->(0<=p.2->iC p.1.Heap/\0<=bM p.1.Heap p.2)->s.Pc<=3/\0<=s.Pc->jY s p.2 ⟨p.1,b.aC,b.aQ,b.qT⟩=some (NT b s p):=by
  intro p hp hx hpc;unfold jY NT;simp only[zJ,TH,bO];by_cases x0:0<=p.2
  ·rw[iD (show ¬p.2<0 by omega),dA x0];simp only[bV,bR,bT,aO x0,bDG (hx x0).1 (hx x0).2,aM];rfl
  ·rw[dA (show p.2<0 by omega),iD x0];by_cases p3:s.Pc=3
   ·have p3':(s.Pc == 3)=true:=aj
    simp only[p3',bT,aP x0,aO p3,aM];rfl
   ·have p3':(s.Pc == 3)=false:=aj
    have e:aY (s.Pc+1)=s.Pc+1:=dO;grind
 have popL:∀l:List Int,-1<=(NS l).2\/(NS l).2∈l:=λl=>by unfold NS;grind
 by_cases p0:s.Pc=0
 ·have hk:(w*3+c).toNat<b.Mem.aE.Own.length:=aa
  have hx:idx b.Mem.aE.Own (w*3+c)=some b.Mem.aE.Own[(w*3+c).toNat]:=gW aa aa;obtain⟨l,t,x,e1,e2,e3,g1,g2,g3⟩:=aLW hm hw hc;have hl:=hsO _ (dF hk);rw[hx] at e1;cases e1;rw[aIV aa] at e2;have ep:GS b.Mem w c=(⟨b.Mem.Heap,⟨b.Mem.aE.Global,b.Mem.aE.Own.set (w*3+c).toNat t⟩⟩,x):=by grind[GS,eB]
  have hx0:-1<=x:=by
   injection e2 with e2;injection e2 with e4 e5
   rcases popL b.Mem.aE.Own[(w*3+c).toNat].aV with h|h
   ·omega
   ·rw[<-e5];have:=hm.1.2.2.2.2.1 _ (aB0 _ (aFZ.2 ⟨_,dF hk,h⟩));omega
  have p0':(s.Pc == 0)=true:=aj
  have:=fin (GS b.Mem w c) aj aj aa;rw[ep] at this;simp only[p0',bT,aO p0,(R7 hw hc).1,aM,hx];grind[aIV]
 ·have p0':(s.Pc == 0)=false:=aj
  simp only[p0',bV,bR,zK,aP p0];have hk:c.toNat<b.Mem.aE.Global.length:=aa
  have hx:idx b.Mem.aE.Global c=some b.Mem.aE.Global[c.toNat]:=gW aa aa;obtain⟨l,t,x,e1,e2,e3,g1,g2,g3⟩:=aAI hm hc;have hl:=hsG _ (dF hk);rw[hx] at e1;cases e1;rw[aIV aa] at e2;have ep:zO b.Mem c=(⟨b.Mem.Heap,⟨b.Mem.aE.Global.set c.toNat t,b.Mem.aE.Own⟩⟩,x):=by grind[zO,eB]
  have hx0:-1<=x:=by
   injection e2 with e2;injection e2 with e4 e5
   rcases popL b.Mem.aE.Global[c.toNat].aV with h|h
   ·omega
   ·rw[<-e5];have:=hm.1.2.2.2.2.1 _ (QT _ (aFZ.2 ⟨_,dF hk,h⟩));omega
  have tg:0<=s.Pc/\s.Pc<=3->(idx b.Mem.aE.Global c).bind (λx13=>(tT x13).bind λx14=>jY s x14.2 ({b with Mem:=(⟨b.Mem.Heap,(⟨b.Mem.aE.Global.set c.toNat x14.1,b.Mem.aE.Own⟩:aE)⟩:Mem)}:aA))=some (NT b s (zO b.Mem c)):=λhpc=>by grind[aIV]
  by_cases p1:s.Pc=1
  ·grind
  ·have p1':(s.Pc == 1)=false:=aj
   simp only[p1',bV,bR];by_cases p3:s.Pc=3
   ·grind
   ·have p3':(s.Pc == 3)=false:=aj
    have n13:¬(s.Pc=1\/s.Pc=3):=aa
    simp only[p3',bV,bR,aP n13];by_cases p2:s.Pc=2
    ·obtain⟨m',y,f1,f2,k1,k2,k3⟩:=aUU hm hc;have hg:=a3O hm hc;rw[f1] at hg;have hg':yP b.Mem c=(m',y):=aj
     have hy:-1<=(yP b.Mem c).2:=by grind[yP]
     grind
    ·have p2':(s.Pc == 2)=false:=aj
     simp only[p2',bV,bR,bO,aP p2,aM];rfl
def cT(c:aC)(w:Int):wU:=c.cO.getD w.toNat ⟨false,0,false,0⟩
theorem R8{c:aC}(hc:KN c)(hw:0<=w/\w<=2):idx c.cO w=some (cT c w):=by have:=hc.2.1;grind[gW,cT]
def HL(c:aC)(w e:Int):aC×Bool:=
 if(cT c w).On=false\/(cT c w).gP=true\/(cT c w).aL=e then(c,true)
 else if(cT c w).Seen=2 then(⟨c.aL,c.cO.set w.toNat {cT c w with gP:=true,Seen:=0}⟩,true)
 else(⟨c.aL,c.cO.set w.toNat {cT c w with Seen:=(cT c w).Seen+1}⟩,false)
theorem aLY{c:aC}(hc:KN c)(hw:0<=w/\w<=2):POk c.aL (cT c w):=by
 have:=R8 hc hw;have h2:=hc.2.1;rw[gW hw.1 aa] at this;injection this with this
 rw[<-this];exact hc.2.2 _ (dF _)
theorem a8S{c:aC}(hc:KN c)(hw:0<=w/\w<=2)(e:Int):JQ c w e=some (HL c w e):=by have hp:=aLY hc hw;have hx:=R8 hc hw;have hsm:=hc.small;unfold JQ GD HL;rw[nB hsm.1,kP,dA hc,fX,dA hw,hx];simp only[aM,kY,bV,bR,sB,hx];generalize cT c w=p at *;have ew:aY (p.Seen+1)=p.Seen+1:=cW (by have:=hp.2.1;omega) (by have:=hp.2.1;omega);grind
def aGG(c:aC)(e:Int):aC×Bool:=if c.aL=e/\e≠100000 then(⟨e+1,c.cO⟩,true) else(c,false)
theorem a8T{c:aC}(hc:KN c)(e:Int):RR c e=some (aGG c e):=by
 have hsm:=hc.small;unfold RR GF aGG;rw[nB hsm.1,kP,dA hc];simp only[aM,kY,bV,bR];by_cases h1:c.aL=e
 ·have he:=hc.1;grind[cW]
 ·simp[h1]
def QM(c:aC)(w e:Int):aC×Bool:=if 0<=e/\e<=c.aL then(⟨c.aL,c.cO.set w.toNat ⟨true,e,false,0⟩⟩,true) else(c,false)
theorem a3Q{c:aC}(hc:KN c)(hw:0<=w/\w<=2)(e:Int):NF c w e=some (QM c w e):=by have hsm:=hc.small;unfold NF BF QM;rw[nB hsm.1,kP,dA hc,fX,dA hw,fX];simp only[aM,kY,bV,bR];grind[R8]
def KR(c:aC)(w:Int):aC×Bool:=if(cT c w).On then(⟨c.aL,c.cO.set w.toNat ⟨false,0,false,0⟩⟩,true) else(c,false)
theorem aPQ{c:aC}(hc:KN c)(hw:0<=w/\w<=2):TL c w=some (KR c w):=by have hsm:=hc.small;have hx:=R8 hc hw;unfold TL BG KR;rw[nB hsm.1,kP,dA hc,fX,dA hw,hx];grind
def fF(b:aA)(s:Sub):aA×Sub:=
 if s.Pc=0 then(b,{s with Pc:=1,E:=b.aC.aL,B:=0})
 else if s.Pc=1 then
  if 0<=s.B/\s.B<=2 then
   if(HL b.aC s.B s.E).2 then({b with aC:=(HL b.aC s.B s.E).1},{s with Pc:=if s.B=2 then 2 else 1,B:=s.B+1})
   else({b with aC:=(HL b.aC s.B s.E).1},yO s 8)
  else(b,yO s 1)
 else if s.Pc=2 then({b with aC:=(aGG b.aC s.E).1},yO {s with Out:=if(aGG b.aC s.E).2 then 1 else s.Out} 0)
 else(b,yO s 1)
theorem aUV{b:aA}(hc:KN b.aC)(s:Sub):vB b s=some (fF b s):=by
 unfold vB fF;rw[a8T hc,fX];simp only[bO,tV,tW,aM];by_cases p0:s.Pc=0
 ·grind
 ·have p0':(s.Pc == 0)=false:=aj
  simp only[p0',bV,bR,aP p0];by_cases p1:s.Pc=1
  ·have p1':(s.Pc == 1)=true:=aj
   simp only[p1',bT,aO p1];by_cases hB:0<=s.B/\s.B<=2
   ·have ew:aY (s.B+1)=s.B+1:=dO;simp only[dA hB,kY,bV,bR,aO hB,a8S hc hB,aM,ew];grind[yO]
   ·simp only[iD hB,SG,bT,aP hB];rfl
  ·have p1':(s.Pc == 1)=false:=aj
   simp only[p1',bV,bR,aP p1];by_cases p2:s.Pc=2
   ·have p2':(s.Pc == 2)=true:=aj
    simp only[p2',bT,aO p2];cases h:(aGG b.aC s.E).2<;>rfl
   ·have p2':(s.Pc == 2)=false:=aj
    simp only[p2',bV,bR,aP p2];rfl
def zP(b:aA)(w:Int)(s:Sub):aA×Sub:=
 if s.Pc=0 then(b,{s with Pc:=1,E:=b.aC.aL})
 else if s.Pc=1 then
  if(QM b.aC w s.E).2 then({b with aC:=(QM b.aC w s.E).1},{s with Pc:=2}) else({b with aC:=(QM b.aC w s.E).1},yO s 1)
 else if s.Pc=2 then if b.aC.aL=s.E then(b,yO s 0) else(b,{s with Pc:=0})
 else(b,yO s 1)
theorem bDH{b:aA}(hc:KN b.aC)(hw:0<=w/\w<=2)(s:Sub):JR b w s=some (zP b w s):=by
 unfold JR zP;rw[a3Q hc hw];simp only[bO,aM];by_cases p0:s.Pc=0
 ·grind
 ·have p0':(s.Pc == 0)=false:=aj
  simp only[p0',bV,bR,aP p0];by_cases p1:s.Pc=1
  ·have p1':(s.Pc == 1)=true:=aj
   simp only[p1',bT,aO p1];cases h:(QM b.aC w s.E).2<;>rfl
  ·have p1':(s.Pc == 1)=false:=aj
   simp only[p1',bV,bR,aP p1];by_cases p2:s.Pc=2
   ·have p2':(s.Pc == 2)=true:=aj
    simp only[p2',bT,aO p2];by_cases q:b.aC.aL=s.E
    ·have q':(b.aC.aL == s.E)=true:=aj
     simp only[q',bT,aO q];rfl
    grind
   ·have p2':(s.Pc == 2)=false:=aj
    simp only[p2',bV,bR,aP p2];rfl
def dK(l:List bU)(w:Int):List eR:=(l.getD w.toNat ⟨[]⟩).Rows
theorem NU{l:List bU}(hl:zY l)(hw:0<=w/\w<=2):idx l w=some ⟨dK l w⟩:=by have:=hl.1;rw[gW hw.1 aa];simp[dK,G9,jC (show w.toNat<l.length by omega)]
theorem aPR{l:List bU}(hl:zY l)(hw:0<=w/\w<=2):(dK l w).length<=24:=by
 have h:=NU hl hw;have h3:=hl.1;rw[gW hw.1 aa] at h;injection h with h
 have:=hl.small.2.2.2 _ (dF (show w.toNat<l.length by omega));grind
def uA(b:aA)(w:Int)(s:Sub):aA×Sub:=
 if s.Pc=0 then(b,{s with Pc:=1,E:=b.aC.aL})
 else if s.Pc=1 then
  if 0<=s.E/\s.E<=b.aC.aL then
   if mU b.Mem s.A/\¬bE b.aQ (s.A % 32) then({b with aQ:=b.aQ.set w.toNat ⟨dK b.aQ w++[⟨s.A,s.E⟩]⟩},yO s 0) else(b,yO s 4)
  else(b,yO s 1)
 else(b,yO s 1)
theorem aX9{b:aA}(hb:m5 b)(hw:0<=w/\w<=2)(s:Sub):yE b w s=some (uA b w s):=by
 have hL:=hb.1.2.2.1;have hm:=hb.1.1;obtain⟨h1,h2,h3,_⟩:=lX.facts hm;have hx:=NU hL hw;have hrow:=aPR hL hw;unfold yE uA;rw[fX,VE hm.1.1.1 aa (by grind[maxLen]) (by grind[maxLen]),jS];simp only[bO,aM,wP,GC];by_cases p0:s.Pc=0
 ·grind
 ·have p0':(s.Pc == 0)=false:=aj
  simp only[p0',bV,bR,aP p0];by_cases p1:s.Pc=1
  ·have p1':(s.Pc == 1)=true:=aj
   simp only[p1',bT,aO p1];by_cases q1:0<=s.E/\s.E<=b.aC.aL
   ·simp only[dA q1,kY,bV,bR,aO q1];by_cases q2:mU b.Mem s.A
    ·have hh:=q2.1;simp only[dA q2,kY,bV,bR,aO hh,VF hL,aM];by_cases q3:bE b.aQ (s.A % 32)
     ·simp only[dA q3,bT,aP (show ¬(mU b.Mem s.A/\¬bE b.aQ (s.A % 32)) from λh=>h.2 q3)];rfl
     ·simp only[iD q3,bV,bR,hx,aM,aO (show mU b.Mem s.A/\¬bE b.aQ (s.A % 32) from⟨q2,q3⟩)];rw[OD];rfl
    ·simp only[iD q2,SG,bT,aP (show ¬(mU b.Mem s.A/\¬bE b.aQ (s.A % 32)) from λh=>q2 h.1)];rfl
   ·simp only[iD q1,SG,bT,aP q1];rfl
  ·have p1':(s.Pc == 1)=false:=aj
   simp only[p1',bV,bR,aP p1];rfl
def JY(r:eR)(e:Int):Prop:=2<=e/\r.aL<=aY (e-2)
instance (r:eR) (e:Int):Decidable (JY r e):=by unfold JY;infer_instance
theorem aLZ(r:eR)(e:Int):ME r e=some (decide (JY r e)):=by unfold ME LW JY;grind
def sJ(l:List eR)(e:Int)(k:Nat):Nat:=k+(l.drop k).findIdx (λr=>decide (JY r e))
theorem a8U{l:List eR}(hl:l.length<=1000){from_ e:Int}:zL l from_ e=some (if sJ l e from_.toNat<l.length then(sJ l e from_.toNat:Int) else -1):=by
 have hst:(if 0<from_ then from_ else 0)=(from_.toNat:Int):=aa
 unfold zL;rw[hst];have key:∀d k:Nat,l.length<=k+d->loop (fL l e) (k:Int)=some (if sJ l e k<l.length then Out.ret (sJ l e k:Int) else Out.brk ()):=by
  intro d;induction d with
  |zero=>
   intro k hk;rw[bB (r:=Out.brk ()) (by simp_all[fL,aP]),aP (by grind[sJ])]
  |succ d ih=>
   intro k hk;by_cases hkl:k<l.length
   ·have hd:l.drop k=l[k]::l.drop (k+1):=uI hkl;by_cases hr:JY l[k] e
    ·have hs:sJ l e k=k:=by grind[sJ]
     simp_all[bB,fL,aZ,aLZ]
    ·have hs:sJ l e k=sJ l e (k+1):=by unfold sJ;grind
     rw[bG (s':=((k+1:Nat):Int)) (by simp only[fL];rw[eV,aZ hkl,aM,aLZ _ e,aM,iD hr,gH,dO];rfl),ih (k+1) aa,hs]
   grind
 rw[key l.length from_.toNat aa];split<;>rfl
theorem aYA{l:List eR}{e:Int}(h:sJ l e k<l.length):k<=sJ l e k/\JY l[sJ l e k] e:=by
 refine⟨by grind[sJ],?_⟩;have h1:(l.drop k).findIdx (λr=>decide (JY r e))<(l.drop k).length:=by grind[sJ]
 have:=aSX (xs:=l.drop k) (p:=λr=>decide (JY r e)) (w:=h1);rw[List.getElem_drop] at this;exact of_decide_eq_true this
def qC(m:Mem)(w h:Int):Mem:=
 if h/32+1<=6 then
  if(fO m.aE.Own (w*3+bM m.Heap (h % 32)).toNat).length<2 then⟨⟨st4 m.Heap.Bytes (jB (h % 32) (bM m.Heap (h % 32))).toNat (h/32+1),m.Heap.Class⟩,⟨m.aE.Global,m.aE.Own.set (w*3+bM m.Heap (h % 32)).toNat ⟨fO m.aE.Own (w*3+bM m.Heap (h % 32)).toNat++[h % 32]⟩⟩⟩
  else⟨⟨st4 m.Heap.Bytes (jB (h % 32) (bM m.Heap (h % 32))).toNat (h/32+1),m.Heap.Class⟩,⟨m.aE.Global.set (bM m.Heap (h % 32)).toNat ⟨fO m.aE.Global (bM m.Heap (h % 32)).toNat++[h % 32]⟩,m.aE.Own⟩⟩
 else⟨⟨st4 m.Heap.Bytes (jB (h % 32) (bM m.Heap (h % 32))).toNat (h/32+1),m.Heap.Class⟩,m.aE⟩
theorem aDX(hm:lX m){h:Int}(hw:0<=w/\w<=2)(hv:mU m h):JO m w (h % 32)=some (qC m w h):=by
 obtain⟨hcnt,h3,h9,h1,h2,hsm,hcp,hlo,hsG,hsO⟩:=lX.facts hm;have hs:=hm.1.1.1;have hh:=hv.1;have hcl:=dQ hv.2.1;have hgo:=YZ hcl;have hc2:0<=bM m.Heap (h % 32)/\bM m.Heap (h % 32)<=2:=by obtain⟨_,q,e⟩:=rE hcl;rw[e];exact j4.1 aa
 have hg6:1<=h/32/\h/32<=6:=by grind[lN]
 have eo:jB (h % 32) (bM m.Heap (h % 32))=(((jB (h % 32) (bM m.Heap (h % 32))).toNat:Nat):Int):=aa
 have ew:aY (h/32+1)=h/32+1:=dO;unfold JO qC;rw[CS hs,aM,wA hs hcl,hv.2.2,aM,BK,aM,ew];generalize hgn:(jB (h % 32) (bM m.Heap (h % 32))).toNat=a at eo;rw[eo,KO aa aa aa];simp only[aM,ND,NC,ew];generalize bM m.Heap (h % 32)=c at *;by_cases q:h/32+1<=6
 ·have hk:(w*3+c).toNat<m.aE.Own.length:=aa
  have hx:idx m.aE.Own (w*3+c)=some m.aE.Own[(w*3+c).toNat]:=gW aa aa;have hk2:c.toNat<m.aE.Global.length:=aa
  have hx2:idx m.aE.Global c=some m.aE.Global[c.toNat]:=gW aa aa;have b1:=hsO _ (dF hk);have b2:=hsG _ (dF hk2);rw[dA q,aO rfl,aO q];unfold XA;rw[(R7 hw hc2).1];simp only[aM,hx,hx2,NB,W8,W9,<-eB hk,<-eB hk2];by_cases q2:m.aE.Own[(w*3+c).toNat].aV.length<2
  ·have y1:(m.aE.Own[(w*3+c).toNat].aV.length:Int)<2:=aa
   simp only[dA y1,bT,aO q2];grind[b7]
  ·have y1:¬(m.aE.Own[(w*3+c).toNat].aV.length:Int)<2:=aa
   simp only[iD y1,bV,bR,aP q2];grind[b7]
 simp_all[aP]
def a05(z:List Int)(w:Int):Int:=z.getD w.toNat 0
theorem a3R(hz:aH2 z)(hw:0<=w/\w<=2):idx z w=some (a05 z w):=by have:=hz.1;grind[gW,a05]
def L4(l:List eR)(k:Int):eR:=l.getD k.toNat ⟨0,0⟩
theorem YC{l:List eR}{k:Int}(h:0<=k/\k<l.length):idx l k=some (L4 l k):=by grind[gW,L4]
def NV(l:List eR)(s:Sub):Prop:=0<=s.Row/\s.Row<l.length/\(L4 l s.Row).Handle=s.H
instance (l:List eR) (s:Sub):Decidable (NV l s):=by unfold NV;infer_instance
def cQ(b:aA)(w:Int)(s:Sub):aA×Sub:=
 if s.Pc=0 then(b,{s with Pc:=1,E:=b.aC.aL,Row:=0})
 else if s.Pc=1 then
  if sJ (dK b.aQ w) s.E s.Row.toNat<(dK b.aQ w).length then(b,{s with Pc:=2,Row:=(sJ (dK b.aQ w) s.E s.Row.toNat:Int),B:=0,H:=(L4 (dK b.aQ w) (sJ (dK b.aQ w) s.E s.Row.toNat:Int)).Handle})
  else(b,yO s 0)
 else if s.Pc=2 then
  if(0<=s.B/\s.B<=2)/\NV (dK b.aQ w) s then
   if a05 b.qT s.B=s.H then(b,{s with Pc:=1,Row:=s.Row+1}) else(b,{s with Pc:=if s.B=2 then 3 else 2,B:=s.B+1})
  else(b,yO s 1)
 else if s.Pc=3 then
  if NV (dK b.aQ w) s/\JY (L4 (dK b.aQ w) s.Row) s.E then({b with Mem:=qC b.Mem w s.H,aQ:=b.aQ.set w.toNat ⟨(dK b.aQ w).eraseIdx s.Row.toNat⟩},{s with Pc:=1,Out:=aY (s.Out+1)})
  else(b,yO s 1)
 else(b,yO s 1)
theorem PI{l:List bU}(hl:zY l)(hw:0<=w/\w<=2){r:eR}(hr:r∈dK l w):r∈dW l:=by
 have h:=NU hl hw;have h3:=hl.1;rw[gW hw.1 aa] at h;injection h with h
 exact aFZ.2 ⟨l[w.toNat],dF _,aj⟩
theorem aDY{l:List eR}{k:Int}(h:0<=k/\k<l.length):L4 l k∈l:=by have:=YC h;grind[gW]
theorem aUW{b:aA}(hb:m5 b)(hw:0<=w/\w<=2)(s:Sub):vC b w s=some (cQ b w s):=by
 have hL:=hb.1.2.2.1;have hm:=hb.1.1;have hx:=NU hL hw;have hrow:=aPR hL hw;have hfl:=λr hr=>PI hL hw (r:=r) hr;unfold vC cQ;rw[hx];simp only[aM,bO];generalize dK b.aQ w=l at *;by_cases p0:s.Pc=0
 ·grind
 have p0':(s.Pc == 0)=false:=aj
 simp only[p0',bV,bR,aP p0];by_cases p1:s.Pc=1
 ·have p1':(s.Pc == 1)=true:=aj
  simp only[p1',bT,aO p1,a8U (show l.length<=1000 by omega),aM];by_cases q:sJ l s.E s.Row.toNat<l.length
  ·have n:¬(sJ l s.E s.Row.toNat:Int)<0:=aa
   simp only[aO q,iD n,bV,bR,YC (l:=l) (k:=(sJ l s.E s.Row.toNat:Int)) aa,aM]
  ·simp only[aP q,dA (show(-1:Int)<0 by omega),bT];rfl
 have p1':(s.Pc == 1)=false:=aj
 simp only[p1',bV,bR,aP p1];have el:aY ((l.length:Int)-1)=(l.length:Int)-1:=dO;by_cases p2:s.Pc=2
 ·have p2':(s.Pc == 2)=true:=aj
  simp only[p2',bT,aO p2,fX,el,aM,fT,tX,bO];by_cases hB:0<=s.B/\s.B<=2
  ·simp only[dA hB,kY,bV,bR];by_cases hR:0<=s.Row/\s.Row<=(l.length:Int)-1
   ·simp only[dA hR,kY,bV,bR,YC (l:=l) (k:=s.Row) aa,aM];by_cases hH:(L4 l s.Row).Handle=s.H
    ·have hH':((L4 l s.Row).Handle != s.H)=false:=aj
     have ha:(0<=s.B/\s.B<=2)/\NV l s:=⟨hB,hR.1,aa,hH⟩;have e1:aY (s.B+1)=s.B+1:=dO;have e2:aY (s.Row+1)=s.Row+1:=dO;simp only[hH',bV,bR,aO ha,a3R hb.1.2.2.2 hB,aM,e1,e2];grind
    ·have hH':((L4 l s.Row).Handle != s.H)=true:=aj
     have ha:¬((0<=s.B/\s.B<=2)/\NV l s):=λh=>hH h.2.2.2;simp only[hH',bT,aP ha,aM];rfl
   ·have ha:¬((0<=s.B/\s.B<=2)/\NV l s):=λh=>hR ⟨h.2.1,by have:=h.2.2.1;omega⟩;simp only[iD hR,SG,bT,aP ha,aM];rfl
  ·have ha:¬((0<=s.B/\s.B<=2)/\NV l s):=λh=>hB h.1;simp only[iD hB,SG,bT,aP ha,aM];rfl
 have p2':(s.Pc == 2)=false:=aj
 simp only[p2',bV,bR,aP p2];by_cases p3:s.Pc=3
 ·have p3':(s.Pc == 3)=true:=aj
  simp only[p3',bT,aO p3,fX,el,aM,fU,DC,bO];by_cases hR:0<=s.Row/\s.Row<=(l.length:Int)-1
  ·simp only[dA hR,kY,bV,bR,YC (l:=l) (k:=s.Row) aa,aM];by_cases hH:(L4 l s.Row).Handle=s.H
   ·have hH':((L4 l s.Row).Handle != s.H)=false:=aj
    simp only[hH',bV,bR,aLZ,aM];by_cases hr:JY (L4 l s.Row) s.E
    ·have ha:NV l s/\JY (L4 l s.Row) s.E:=⟨⟨hR.1,aa,hH⟩,hr⟩;have e2:aY (s.Row+1)=s.Row+1:=dO;have hlive:=(hb.2 _ (hfl _ (aDY (l:=l) (k:=s.Row) aa))).1;rw[hH] at hlive;have et:(s.Row+1).toNat=s.Row.toNat+1:=aa
     simp only[dA hr,kY,bV,bR,aO ha,e2,jS,aO hlive.1,aM,aDX hm hw hlive,et];grind[b7,del_eq]
    ·have ha:¬(NV l s/\JY (L4 l s.Row) s.E):=λh=>hr h.2;simp only[iD hr,SG,bT,aP ha,aM];rfl
   ·have hH':((L4 l s.Row).Handle != s.H)=true:=aj
    have ha:¬(NV l s/\JY (L4 l s.Row) s.E):=λh=>hH h.1.2.2;simp only[hH',bT,aP ha,aM];rfl
  ·have ha:¬(NV l s/\JY (L4 l s.Row) s.E):=λh=>hR ⟨h.1.1,by have:=h.1.2.1;omega⟩;simp only[iD hR,SG,bT,aP ha,aM];rfl
 ·have p3':(s.Pc == 3)=false:=aj
  simp only[p3',bV,bR,aP p3];rfl
def iJ(b:aA)(w:Int)(s:Sub):aA×Sub:=if s.gX then(b,s) else if s.Kind=1 then YB b w s else if s.Kind=2 then uA b w s else if s.Kind=3 then fF b s else if s.Kind=4 then cQ b w s else if s.Kind=5 then zP b w s else(b,yO s 1)
theorem a06{b:aA}(hb:m5 b)(hw:0<=w/\w<=2)(s:Sub):TJ b w s=some (iJ b w s):=by
 unfold TJ iJ;rw[a3P hb.1.1 hw,aX9 hb hw,aUV hb.1.2.1,aUW hb hw,bDH hb.1.2.1 hw];simp only[aM,bO];cases s.gX
 ·simp only[bV,bR,beq_iff_eq];split<;>(try rfl);split<;>(try rfl);split<;>(try rfl);split<;>(try rfl);split<;>rfl
 ·rfl
theorem bDI{b:aA}(hb:m5 b)(hw:0<=w/\w<=2)(s:Sub):m5 (iJ b w s).1:=by obtain⟨x,y,e1,_,h⟩:=step_eq hb hb.small hw s;grind[a06]
theorem aIW{b:List Int}{a:Nat}(h:a+4<=b.length){j:Nat}(hj:j<a\/a+4<=j):bt (QL b a n) j=bt b j:=by unfold QL;rw[NR ah,NR ah,NR ah,NR aa,iE,iE,iE,iE]
theorem HOk.put{h:Heap}(hh:HOk h)(hc:0<=bM h s)(hn:0<=n/\n<=4294967295) :
  HOk ⟨QL h.Bytes ((jB s (bM h s)).toNat+4) n,h.Class⟩/\∀t,0<=bM h t->kQ ⟨QL h.Bytes ((jB s (bM h s)).toNat+4) n,h.Class⟩ t=kQ h t:=by
 obtain⟨hs,hp⟩:=hh;have h384:=hs.1;have hs':iC ⟨QL h.Bytes ((jB s (bM h s)).toNat+4) n,h.Class⟩:=⟨by grind[aDU],hs.2.1,a3I hs.2.2.1 _ hn,hs.2.2.2⟩;obtain⟨p,i,p6,hi,es,ec,eo,ep⟩:=qB hc;have hcl:0<=cZ h p/\cZ h p<=2:=j4.1 aa;have hroom:8+i*(bD (cZ h p)).toNat+8<=64/\∀j,j<(cJ (cZ h p)).toNat->j*(bD (cZ h p)).toNat+4<=i*(bD (cZ h p)).toNat+4\/i*(bD (cZ h p)).toNat+12<=j*(bD (cZ h p)).toNat:=by grind[cJ,bD]
 have hgen:∀q j,q<6->j<(cJ (cZ h q)).toNat->ld (QL h.Bytes ((jB s (bM h s)).toNat+4) n) (q*64+8+j*(bD (cZ h q)).toNat) 4=ld h.Bytes (q*64+8+j*(bD (cZ h q)).toNat) 4:=λq j hq hj=>by
  have hz:=zN hs hq rfl hj;refine I4 aa (by grind[aDU]) λk k1 k2=>?_;by_cases e:q=p
  ·grind[aIW]
  grind[aIW]
 refine⟨⟨hs',λq hq=>?_⟩,λt ht=>?_⟩
 ·rw[GQ hs' hq];have hold:=(GQ hs hq).1 (hp q hq);by_cases e:q=p
  ·subst e;have hcl':¬cZ h q<0:=aa
   unfold aBL at hold ⊢;have hcc:cZ ⟨QL h.Bytes ((jB s (bM h s)).toNat+4) n,h.Class⟩ q=cZ h q:=rfl;rw[hcc];rw[aP hcl'] at hold ⊢;obtain⟨⟨a1,a2,a3⟩,a4,a5⟩:=hold;have bs:∀k,k<8->bt (QL h.Bytes ((jB s (bM h s)).toNat+4) n) (q*64+k)=bt h.Bytes (q*64+k):=λk hk=>aIW aa aa;have b0:=bs 0 aa;grind
  ·refine aBL.same hq hs (by grind[aDU]) rfl (λk hk=>aIW aa aa) hold
 ·obtain⟨p',i',p6',hi',es',ec',eo',ep'⟩:=qB ht;have e2:bM ⟨QL h.Bytes ((jB s (bM h s)).toNat+4) n,h.Class⟩ t=bM h t:=rfl;grind[kQ]
theorem lX.put(hm:lX m)(hc:0<=bM m.Heap s)(hn:0<=n/\n<=4294967295):vJ m ⟨⟨QL m.Heap.Bytes ((jB s (bM m.Heap s)).toNat+4) n,m.Heap.Class⟩,m.aE⟩ (-1):=by obtain⟨a,b⟩:=HOk.put hm.1.1 hc hn;refine⟨lX.heap hm a λx hx=>⟨rfl,b x (lX.oR hm hx).1⟩,λt ht _=>?_⟩;have ht':=iP.1 ht;have e:=b t ht'.1;exact⟨iP.2 ⟨ht'.1,ht'.2.1,aj⟩,e,rfl⟩
theorem start_eq{h:Heap}(hs:iC h)(hc:0<=bM h s):aC3 s (bM h s)=some (jB s (bM h s)+4)/\LN s (bM h s)=some (jB s (bM h s)+4):=by have hg:=YZ hc;unfold aC3 LN;rw[BK,BL,aM,aH0,dO];simp
theorem hb0(x:Int):(x == 0)=decide (x=0):=aj
theorem GU(h:Int):m8 h=some (decide (oQ h)):=by grind[m8,xK,oQ,g8]
theorem aUX{c:aC}(hc:KN c)(hw:0<=w/\w<=2):∃r,TL c w=some r/\S9 c w=some r/\KN r.1/\r.1.aL=c.aL:=by
 obtain⟨p,hp,hpk⟩:=aXY hc hw;unfold TL S9;rw[nB hc.small.1,BO hc.small.1,kP,vH hc.small.2,nC,fX,dA hc,dA hw];simp only[aM,kY,bV,bR,hp,BG,A8];cases p.On with
 |true=>
  simp only[kY,bV,bR];have h0:=hc.1;exact⟨_,rfl,rfl,hc.aRY ⟨aj,ae,λ_=>rfl⟩,rfl⟩
 |false=>simp_all
theorem aH2.set(hz:aH2 z)(k:Nat){h:Int}(hh:oQ h):aH2 (z.set k h):=⟨by simpa using hz.1,λq hq=>(rG hq).elim (hz.2 q) (λe=>e ▸ hh)⟩
theorem m5.clock{b:aA}(hb:m5 b){cl:aC}(h:KN cl)(e:b.aC.aL<=cl.aL):m5 ⟨b.Mem,cl,b.aQ,b.qT⟩:=⟨⟨hb.1.1,h,hb.1.2.2⟩,λr hr=>⟨(hb.2 r hr).1,aJJ (hb.2 r hr).2 e⟩⟩
theorem m5.haz{b:aA}(hb:m5 b)(h:aH2 z):m5 ⟨b.Mem,b.aC,b.aQ,z⟩:=⟨⟨hb.1.1,hb.1.2.1,hb.1.2.2.1,h⟩,hb.2⟩
theorem m5.mem{b:aA}(hb:m5 b)(h:vJ b.Mem m (-1)):m5 ⟨m,b.aC,b.aQ,b.qT⟩:=⟨⟨h.1,hb.1.2⟩,λr hr=>⟨h.live (hb.2 r hr).1 aa,(hb.2 r hr).2⟩⟩
theorem bLB{h:Heap}(hcl:0<=bM h s):(jB s (bM h s)).toNat+8<=384/\8<=jI (bM h s)/\jI (bM h s)<=40:=by
 have hc2:0<=bM h s/\bM h s<=2:=by obtain⟨_,q,e⟩:=rE hcl;rw[e];exact j4.1 aa
 grind[jI,bM,qB,cJ,bD]
def zQ(kind a:Int):Sub:=⟨kind,a,0,0,0,0,0,0,0,false⟩
def j5:List Int->Nat->List UInt8->List Int
 |b,_,[]=>b
 |b,a,c::t=>j5 (b.set a (c.toNat:Int)) (a+1) t
theorem BP:∀(t:List UInt8) (b:List Int) (a:Nat),(j5 b a t).length=b.length
 |[],b,a=>rfl
 |c::t,b,a=>by rw[j5,BP];simp
theorem aPS:∀(t:List UInt8) {b:List Int} (a:Nat),sQ b->sQ (j5 b a t)
 |[],b,a,h=>h
 |c::t,b,a,h=>aPS t (a+1) (aUS a h ⟨aa,by have:=c.toNat_lt;omega⟩)
theorem L5:∀(t:List UInt8) {b:List Int} {a:Nat},a+t.length<=b.length->∀{j:Nat},(j<a\/a+t.length<=j)->bt (j5 b a t) j=bt b j
 |[],b,a,h,j,hj=>rfl
 |c::t,b,a,h,j,hj=>by simp only[HA] at h hj;rw[j5,L5 t ah aa,NR aa,iE]
theorem aL0:∀(t:List UInt8) {b:List Int} {a:Nat},a+t.length<=b.length->∀{j:Nat} (hj:j<t.length),bt (j5 b a t) (a+j)=(t[j].toNat:Int)
 |c::t,b,a,h,j,hj=>by
  simp only[HA] at h hj;rw[j5];cases j with
  |zero=>rw[L5 t ah aa,NR aa,aO aa];rfl
  |succ j=>
   have:=aL0 t (b:=b.set a (c.toNat:Int)) (a:=a+1) ah (j:=j) aa;grind
theorem aGH(b:List Int)(a:Nat)(t:List UInt8)(hl:b.length<=100000)(h:a+t.length<=b.length):∀(r:List UInt8) (k:Nat) (c:List Int),c.length=b.length->t.drop k=r->k+r.length=t.length->loop (lT b (a:Int) t) (c,(k:Int))=some (j5 c (a+k) r)
 |[],k,c,hc,hr,hk=>by refine bB ?_;simp only[lT];rw[b7 hc,aP aj];rfl
 |x::r,k,c,hc,hr,hk=>by
  simp only[HA] at hk;have hkt:k<t.length:=aa
  have e:=uI hkt;rw[hr] at e;injection e with e1 e2
  have st:lT b (a:Int) t (c,(k:Int))=some (.next (c.set (a+k) (x.toNat:Int),((k+1:Nat):Int))):=by simp only[lT];rw[b7 hc,eV,aZ hkt,aM,dO (x:=(a:Int)+k),show(a:Int)+k=((a+k:Nat):Int) by omega,XX,aM,dO,<-e1];rfl
  rw[bG st,aGH b a t hl h r (k+1) _ aj e2.symm aa,j5];rfl
theorem aPT{b:List Int}{a:Nat}{t:List UInt8}(hl:b.length<=100000)(h:a+t.length<=b.length):m9 b (a:Int) t=some (j5 b a t):=by unfold m9;rw[show(0:Int)=((0:Nat):Int) from rfl,aGH b a t hl h t 0 b rfl rfl aa,aM];grind[MV,MU,b7,BP]
theorem HOk.j5{h:Heap}(hh:HOk h)(hc:0<=bM h s){o:Nat}{t:List UInt8}(ht:((o+t.length:Nat):Int)<=jI (bM h s)) :
  HOk ⟨Gv.j5 h.Bytes ((jB s (bM h s)).toNat+4+o) t,h.Class⟩/\∀u,0<=bM h u->kQ ⟨Gv.j5 h.Bytes ((jB s (bM h s)).toNat+4+o) t,h.Class⟩ u=kQ h u:=by
 obtain⟨hs,hp⟩:=hh;have h384:=hs.1;have hs':iC ⟨Gv.j5 h.Bytes ((jB s (bM h s)).toNat+4+o) t,h.Class⟩:=⟨by grind[BP],hs.2.1,aPS _ _ hs.2.2.1,hs.2.2.2⟩;obtain⟨p,i,p6,hi,es,ec,eo,ep⟩:=qB hc;have hcl:0<=cZ h p/\cZ h p<=2:=j4.1 aa;rw[ec] at ht;have hroom:8+i*(bD (cZ h p)).toNat+4+(jI (cZ h p)).toNat<=64/\∀j,j<(cJ (cZ h p)).toNat->j*(bD (cZ h p)).toNat+4<=i*(bD (cZ h p)).toNat+4\/i*(bD (cZ h p)).toNat+4+(jI (cZ h p)).toNat<=j*(bD (cZ h p)).toNat:=by grind[cJ,bD,jI]
 have hot:o+t.length<=(jI (cZ h p)).toNat:=aa
 have hgen:∀q j,q<6->j<(cJ (cZ h q)).toNat->ld (Gv.j5 h.Bytes ((jB s (bM h s)).toNat+4+o) t) (q*64+8+j*(bD (cZ h q)).toNat) 4=ld h.Bytes (q*64+8+j*(bD (cZ h q)).toNat) 4:=λq j hq hj=>by
  have hz:=zN hs hq rfl hj;refine I4 aa (by grind[BP]) λk k1 k2=>?_;by_cases e:q=p
  ·subst e;have:=hroom.2 j hj;exact L5 _ aa aa
  ·exact L5 _ aa aa
 refine⟨⟨hs',λq hq=>?_⟩,λu hu=>?_⟩
 ·rw[GQ hs' hq];have hold:=(GQ hs hq).1 (hp q hq);by_cases e:q=p
  ·subst e;have hcl':¬cZ h q<0:=aa
   unfold aBL at hold ⊢;have hcc:cZ ⟨Gv.j5 h.Bytes ((jB s (bM h s)).toNat+4+o) t,h.Class⟩ q=cZ h q:=rfl;rw[hcc];rw[aP hcl'] at hold ⊢;obtain⟨⟨a1,a2,a3⟩,a4,a5⟩:=hold;have bs:∀k,k<8->bt (Gv.j5 h.Bytes ((jB s (bM h s)).toNat+4+o) t) (q*64+k)=bt h.Bytes (q*64+k):=λk hk=>L5 _ aa aa;have b0:=bs 0 aa;grind
  ·refine aBL.same hq hs (by grind[BP]) rfl (λk hk=>L5 _ aa aa) hold
 ·obtain⟨p',i',p6',hi',es',ec',eo',ep'⟩:=qB hu;have e2:bM ⟨Gv.j5 h.Bytes ((jB s (bM h s)).toNat+4+o) t,h.Class⟩ u=bM h u:=rfl;grind[kQ]
theorem lX.j5(hm:lX m)(hc:0<=bM m.Heap s){o:Nat}{t:List UInt8}(ht:((o+t.length:Nat):Int)<=jI (bM m.Heap s)):vJ m ⟨⟨Gv.j5 m.Heap.Bytes ((jB s (bM m.Heap s)).toNat+4+o) t,m.Heap.Class⟩,m.aE⟩ (-1):=by obtain⟨a,b⟩:=HOk.j5 hm.1.1 hc ht;refine⟨lX.heap hm a λx hx=>⟨rfl,b x (lX.oR hm hx).1⟩,λt ht _=>?_⟩;have ht':=iP.1 ht;have e:=b t ht'.1;exact⟨iP.2 ⟨ht'.1,ht'.2.1,aj⟩,e,rfl⟩
def aPU:gR:=⟨0,0,0⟩
def AP(h:Heap)(s:Int):Nat:=(jB s (bM h s)).toNat+4
def ZN(h:Heap)(s:Int):gR:=⟨ld h.Bytes (AP h s) 2,ld h.Bytes (AP h s+2) 4,ld h.Bytes (AP h s+6) 4⟩
def VV(h:Heap)(x:Int):gR:=if lN x/\0<=bM h (x % 32)/\10<=jI (bM h (x % 32)) then ZN h (x % 32) else aPU
theorem DH{h:Heap}(hcl:0<=bM h s)(h10:10<=jI (bM h s)):AP h s+10<=384/\16<=jI (bM h s):=by grind[bM,AP,qB,jI,cJ,bD]
theorem aL1{h:Heap}(hs:iC h)(s:Int):FP h s=some (decide (10<=jI (bM h s))):=by grind[FP,kO,XZ]
theorem aBM{h:Heap}(hs:iC h)(hc:0<=bM h s):zC h s=some (AP h s:Int):=by have:=YZ hc;grind[zC,AP,kO,start_eq]
theorem aFJ{h:Heap}(hs:iC h)(hc:0<=bM h s)(h10:10<=jI (bM h s)):pO h s=some (ZN h s):=by
 have hr:=(DH hc h10).1;have h1:=hs.1;unfold pO ZN;rw[aBM hs hc,aM,show(2:Int)=((2:Nat):Int) from rfl,show(4:Int)=((4:Nat):Int) from rfl,vF hs.2.2.1 aa aa aa,aM,
  dO,show(AP h s:Int)+((2:Nat):Int)=((AP h s+2:Nat):Int) by omega,vF hs.2.2.1 aa aa aa,aM,
  dO,show(AP h s:Int)+6=((AP h s+6:Nat):Int) by omega,vF hs.2.2.1 aa aa aa];rfl
theorem aPV(hm:lX m)(x:Int):∃c,JJ m x=some (VV m.Heap x,c):=by
 have hs:=hm.1.1.1;unfold JJ VV;rw[g8,aM];by_cases hh:lN x
 ·rw[dA hh,gH,(lN.mod hh).1,kO hs,aM];unfold FQ;by_cases hc:bM m.Heap (x % 32)<0
  ·rw[dA hc,aO rfl,iE];exact⟨_,rfl⟩
  ·rw[iD hc,gH,(lN.mod hh).1,aL1 hs,aM];by_cases h10:10<=jI (bM m.Heap (x % 32))
   ·simp_all[aFJ]
   ·rw[iD h10,aO ak,iE];exact⟨_,rfl⟩
 ·rw[iD hh,aO ak,aP (λq=>hh q.1)];exact⟨_,rfl⟩
def L6(n:gR):Int:=if lN n.Next then n.Next else 0
theorem aR2(n:gR):iA n=some (L6 n):=by unfold iA L6;rw[g8,aM];grind
theorem aFK(n:gR):oQ (L6 n):=by
 unfold L6;split
 ·exact .inr (by assumption)
 ·exact .inl rfl
def kJ(m:Mem)(x:Int):Prop:=mU m x/\10<=jI (bM m.Heap (x % 32))
instance (m:Mem) (x:Int):Decidable (kJ m x):=by unfold kJ;infer_instance
theorem YD(hm:lX m)(x:Int):∃c,vV m x=some c/\(c=0↔kJ m x):=by
 obtain⟨hcnt,h3,h9,h1,h2,hsm,hcp,hlo,hsG,hsO⟩:=lX.facts hm;have hs:=hm.1.1.1;unfold vV kJ;rw[GO hs aa (by rw[h3];simp[maxLen]) (by rw[h9];simp[maxLen]),aM];by_cases hl:mU m x
 ·rw[dA hl,gH,(lN.mod hl.1).1,aL1 hs,aM];by_cases h10:10<=jI (bM m.Heap (x % 32))
  ·rw[dA h10,gH];exact⟨_,rfl,by simp[hl,h10]⟩
  ·rw[iD h10,aO ak];exact⟨_,rfl,by simp[hl,h10]⟩
 simp_all
def R9(n:Int):List UInt8:=[u8 (n/256),u8 n]
theorem aYB(hn:0<=n/\n<=65535):mJ n 2=some (R9 n):=by
 have hw:y6 2=some true:=by grind[y6,dP]
 unfold mJ;rw[hw];have e1:IntKind.u64.wrap (aY (8*2))=16:=ai
 have e2:aJN .i64 1 16=65536:=ai
 simp only[aM,kY,bV,bR,e1,e2];rw[aH0,SF,iD aa];simp only[vU,bV,bR];rw[SF,show aY (2-1)=((1:Nat):Int) from by grind[cW]];have st:∀(m:Int) (c:List UInt8) (i:Nat),i<c.length->i<4->0<=m->qJ (m,c,(i:Int))=some (.next (m/256,c.set i (u8 m),(i:Int)-1)):=λm c i hc hi h0=>by simp only[qJ];rw[aO ae,aZ hc,aM,show(8:Int)=((8:Nat):Int) from rfl,a0X h0 aa,dO,K8];rfl
 rw[bG (st n _ 1 ae aa hn.1),show((1:Nat):Int)-1=((0:Nat):Int) by rfl,
  bG (st _ _ 0 ae aa aa),bB (r:=R9 n)]
 ·rfl
 ·simp only[qJ];rw[gH];rfl
def aOR(n:gR):List UInt8:=R9 n.Key++oF n.dC++oF n.Next
def aBN(n:gR):Prop:=(0<=n.Key/\n.Key<=99)/\(0<=n.dC/\n.dC<=65535)/\oQ n.Next
instance (n:gR):Decidable (aBN n):=by unfold aBN;infer_instance
theorem aPW(n:gR):JK n=some (decide (aBN n)):=by grind[JK,aBN,dP,GU,xR]
theorem aDZ(h:oQ x):0<=x/\x<=223:=by
 rcases h with h|h
 ·omega
 ·have:=h.1;omega
def aAJ(m:Mem)(x:Int)(n:gR):Mem:=if aBN n/\kJ m x then⟨⟨j5 m.Heap.Bytes (AP m.Heap (x % 32)) (aOR n),m.Heap.Class⟩,m.aE⟩ else m
theorem aYC(hm:lX m)(x:Int)(n:gR):∃c,LQ m x n=some (aAJ m x n,c):=by
 obtain⟨hcnt,h3,h9,h1,h2,hsm,hcp,hlo,hsG,hsO⟩:=lX.facts hm;have hs:=hm.1.1.1;have hbl:m.Heap.Bytes.length<=maxLen:=by grind[maxLen]
 unfold LQ aAJ;rw[PG hsm,aM,BN hbl aa,dA hm,aM,gH,aPW,aM];unfold CB;by_cases hn:aBN n
 ·rw[dA hn,gH];obtain⟨c,e,hc⟩:=YD hm x;rw[e,aM];by_cases hw:kJ m x
  ·have hcl:=dQ hw.1.2.1;have hr:=(DH hcl hw.2).1;have hnx:=aDZ hn.2.2;have hk1:=hn.1.2;have hv1:=hn.2.1.2;obtain rfl:=hc.2 hw;rw[aO ak,(lN.mod hw.1.1).1,aBM hs hcl,aM,aYB ⟨hn.1.1,aa⟩,aM,T5 ⟨hn.2.1.1,aa⟩,aM,b7 (by simp[R9,oF]),
    T5 ⟨hnx.1,aa⟩,aM,b7 (by simp[R9,oF]),aPT aa (by grind[R9,oF]),aM,aO ⟨hn,hw⟩]
   exact⟨_,rfl⟩
  ·rw[aP aj,aP (λq=>hw q.2)];exact⟨_,rfl⟩
 simp_all
def aGI(m:Mem)(x y:Int):Mem:=if oQ y/\kJ m x then⟨⟨j5 m.Heap.Bytes (AP m.Heap (x % 32)+6) (oF y),m.Heap.Class⟩,m.aE⟩ else m
theorem a3S(hm:lX m)(x y:Int):∃c,O4 m x y=some (Gv.aGI m x y,c):=by
 obtain⟨hcnt,h3,h9,h1,h2,hsm,hcp,hlo,hsG,hsO⟩:=lX.facts hm;have hs:=hm.1.1.1;have hbl:m.Heap.Bytes.length<=maxLen:=by grind[maxLen]
 unfold O4 Gv.aGI;rw[PG hsm,aM,BN hbl aa,dA hm,aM,gH,GU,aM];unfold FU;by_cases hn:oQ y
 ·rw[dA hn,gH];obtain⟨c,e,hc⟩:=YD hm x;rw[e,aM];by_cases hw:kJ m x
  ·have hcl:=dQ hw.1.2.1;have hr:=(DH hcl hw.2).1;have hnx:=aDZ hn;obtain rfl:=hc.2 hw;rw[aO ak,(lN.mod hw.1.1).1,aBM hs hcl,aM,T5 ⟨hnx.1,aa⟩,aM,dO,show(AP m.Heap (x % 32):Int)+6=((AP m.Heap (x % 32)+6:Nat):Int) by omega,
    aPT aa (by grind[oF]),aM,aO ⟨hn,hw⟩]
   exact⟨_,rfl⟩
  ·rw[aP aj,aP (λq=>hw q.2)];exact⟨_,rfl⟩
 simp_all
theorem a8V(hm:lX m)(x:Int)(n:gR):vJ m (aAJ m x n) (-1):=by
 unfold aAJ;split
 ·rename_i h;have:=DH (dQ h.2.1.2.1) h.2.2;exact lX.j5 hm (dQ h.2.1.2.1) (o:=0) (by grind[aOR,R9,oF])
 ·exact⟨hm,λs h _=>⟨h,rfl,rfl⟩⟩
theorem a8W(hm:lX m)(x y:Int):vJ m (Gv.aGI m x y) (-1):=by
 unfold Gv.aGI;split
 ·rename_i h;have:=DH (dQ h.2.1.2.1) h.2.2;exact lX.j5 hm (dQ h.2.1.2.1) (o:=6) (by grind[oF])
 ·exact⟨hm,λs h _=>⟨h,rfl,rfl⟩⟩
def a07:Heap:=⟨List.replicate 384 0,[-1,-1,-1,-1,-1,-1]⟩
def bIE:aE:=⟨List.replicate 3 ⟨[]⟩,List.replicate 9 ⟨[]⟩⟩
def a08:aA:=⟨⟨a07,bIE⟩,⟨0,List.replicate 3 ⟨false,0,false,0⟩⟩,List.replicate 3 ⟨[]⟩,List.replicate 3 0⟩
theorem aH9:SZ=some a07:=by
 unfold SZ;have key:loop uM (0,[])=some (List.replicate 6 (-1)):=iW (f:=uM) 6 (λk=>((k:Int),List.replicate k (-1))) _ (λk hk=>by
  simp only[uM];rw[eV,OD,dO,List.replicate_succ'];rfl) (by simp[uM])
 rw[SF,key];rfl
theorem bIF:wM [-1] 6=some [-1,-1,-1,-1,-1,-1]:=by
 unfold wM;rw[gH,show P1 (IntKind.u64.wrap (([-1]:List Int).length:Int)) (IntKind.u64.wrap 6)=some (0,6) by kernel_rfl];simp only[aM];rw[gH,iD aa];simp only[pR,bV,bR];rw[show IntKind.i64.wrap 6=6 from wrap_i64 aa aa,SF,
  show(cS (List.replicate (Int.toNat 6) 0) 0 [-1],((min ([-1]:List Int).length ((List.replicate (Int.toNat 6) (0:Int)).length-0):Nat):Int))=([-1,0,0,0,0,0],1) by kernel_rfl,
  bG (body:=lW) (s':=([-1,-1,0,0,0,0],2)) (by kernel_rfl),bG (body:=lW) (s':=([-1,-1,-1,-1,0,0],4)) (by kernel_rfl),
  bG (body:=lW) (s':=([-1,-1,-1,-1,-1,-1],6)) (by kernel_rfl),bB (body:=lW) (r:=[-1,-1,-1,-1,-1,-1]) (by kernel_rfl)]
 rfl
theorem aIA:LS=some a07:=by unfold LS;rw[SF,bIF];rfl
theorem aL2:S1=some a08/\LU=some a08:=by unfold S1 LU aF9 WT ZY P2 ZZ P3 Z0 P4 aGA WU;rw[aH9,aIA,SF,SF,SF,SF,SF];exact⟨rfl,rfl⟩
theorem a8X:m5 a08:=of_decide_eq_true (by kernel_rfl)
def DI{O:Type}(o:Option O)(Q:O->Prop):Prop:=∃x,o=some x/\Q x
abbrev bFY{σ ρ:Type}(I:σ->Prop)(Q:ρ->Prop):Step σ ρ->Prop
 |.next s=>I s
 |.stop r=>Q r
namespace DI
variable {O β σ ρ:Type} {Q:O->Prop}
theorem ret{x:O}(h:Q x):DI (some x) Q:=⟨x,rfl,h⟩
theorem bind{P:β->Prop}{o:Option β}{f:β->Option O}(h:DI o P)(hf:∀x,P x->DI (f x) Q):DI (o.bind f) Q:=by obtain⟨x,e,hx⟩:=h;grind
theorem need{p:Prop}[Decidable p]{k:Option O}(h:p)(hk:DI k Q):DI (Gv.need p k) Q:=by grind[b7]
theorem ite{c:Prop}[Decidable c]{a b:Option O}(h1:c->DI a Q)(h2:¬c->DI b Q):DI (if c then a else b) Q:=aj
theorem mono{P:O->Prop}{o:Option O}(h:DI o P)(hf:∀x,P x->Q x):DI o Q:=by obtain⟨x,e,hx⟩:=h;exact⟨x,e,hf x hx⟩
theorem idx{l:List β}{i:Int}(h:0<=i/\i<l.length):DI (Gv.idx l i) (λx=>x∈l):=⟨_,gW h.1 h.2,dF _⟩
theorem loop{Q:ρ->Prop}{f:σ->Option (Step σ ρ)}{s:σ}(μ:σ->Nat)(Inv:σ->Prop)(h0:Inv s)(hb:∀s,Inv s->DI (f s) (bFY (λs'=>Inv s'/\μ s'<μ s) (λr=>Q r))):DI (Gv.loop f s) Q:=by
 have key:∀n s,μ s<n->Inv s->DI (Gv.loop f s) Q:=by
  intro n;induction n with
  |zero=>omega
  |succ n ih=>
   intro s h hs;obtain⟨q,e,hq⟩:=hb s hs;cases q with
   |next s'=>grind[bG]
   |stop r=>rw[bB e];exact⟨r,rfl,hq⟩
 exact key _ s (Nat.lt_succ_self _) h0
theorem of{o:Option O}{x:O}(h:o=some x):DI o (λy=>y=x):=⟨x,h,rfl⟩
end DI
def Cu(b:List UInt8)(i:Int):Prop:=(0<=i/\i<=b.length)/\b.length<=1048576
theorem a8Y(x:Int):0<=iI .and .i64 x 255/\iI .and .i64 x 255<=255:=by have e:iI .and .i64 x 255=IntKind.i64.wrap ((BitVec.ofInt 64 x &&& BitVec.ofInt 64 255).toNat:Int):=rfl;grind[Nat.and_le_right,wrap_i64]
section
variable {b:List UInt8} {i h:Int} (hc:Cu b i)
include hc
theorem aUY:DI (sN ⟨b,i,h⟩) (λx=>(0<=x.1/\x.1<=255)/\Cu b x.2.1):=by
 unfold sN EF;obtain⟨⟨a1,a2⟩,a3⟩:=hc;refine .ite (λq=>?_) (λq=>?_)
 ·have q':=of_decide_eq_true q;simp only at q';refine .bind (.idx ⟨a1,q'⟩) λx _=>.ret ⟨a8Y _,?_⟩;grind[Cu,cW]
 ·exact .ret ⟨a8Y _,⟨a1,a2⟩,a3⟩
theorem below(hn:n<=1000000):DI (fZ ⟨b,i,h⟩ n) (λx=>(0<=x.1/\(x.1<n\/n<=0/\x.1=0))/\Cu b x.2.1):=by
 unfold fZ;refine .ite (λq=>?_) (λq=>?_)
 ·have q':=of_decide_eq_true q;exact .ret ⟨ah,hc⟩
 ·have q0:0<n:=aj
  refine .ite (λq=>?_) (λq=>?_)
  ·refine .bind (aUY hc) λx ⟨hx,h1⟩=>.need aa (.ret ⟨?_,h1⟩);simp only[NN hx.1];exact⟨Int.emod_nonneg _ aa,.inl (Int.emod_lt_of_pos _ q0)⟩
  ·refine .bind (aUY hc) λx ⟨hx,h1⟩=>.bind (aUY h1) λy ⟨hy,h2⟩=>.bind (aUY h2) λz ⟨hz,h3⟩=>.bind (aUY h3) λw ⟨hw,h4⟩=>.need aa (.ret ⟨?_,h4⟩);have e:aY (aY (aY (aY (x.1*16777216)+aY (y.1*65536))+aY (z.1*256))+w.1)=x.1*16777216+y.1*65536+z.1*256+w.1:=by grind[cW]
   simp only[e];rw[NN aa];exact⟨Int.emod_nonneg _ aa,.inl (Int.emod_lt_of_pos _ q0)⟩
theorem bLC(hn:n<=1000000):DI (WH ⟨b,i,h⟩ n) (λx=>Cu b x.2.1):=.bind (below hc hn) λ_ ⟨_,h1⟩=>.ret h1
theorem aPX(hl:0<l.length)(hl2:l.length<=1000):DI (nN ⟨b,i,h⟩ l) (λx=>x.1∈l/\Cu b x.2.1):=.bind (below hc aa) λx ⟨hx,h1⟩=>.bind (.idx aa) λy hy=>.ret ⟨hy,h1⟩
end
theorem bNS{code:List UInt8}(hl:code.length<=1048576):DI (SU code) (λx=>Cu code x.1):=by
 unfold SU;refine .bind (P:=λ_=>True) (.loop (λs=>code.length-s.2.toNat) (λs=>0<=s.2/\s.2<=code.length) ⟨ae,ae⟩ ?_) λx _=>.ret ⟨⟨ae,ae⟩,hl⟩;rintro⟨a,k⟩ ⟨h1,h2⟩;simp only[ZX,IF];simp only at h1 h2;have nx:k<code.length->DI ((idx code k).bind λx7=>some (Step.next (iI .and .i64 (aY ((aY ((aY (a*131))+(x7.toNat:Int)))+7)) 1073741823,aY (k+1)))) (bFY (ρ:=Int) (λs'=>(0<=s'.2/\s'.2<=code.length)/\code.length-s'.2.toNat<code.length-k.toNat) (λr=>True)):=λhk=>by refine .bind (.idx ⟨h1,hk⟩) λx _=>.ret ?_;grind[cW]
 refine .ite (λq=>?_) (λq=>?_)
 ·have q':=of_decide_eq_true q;exact .ite (λ_=>nx q') (λ_=>.ret trivial)
 ·rw[gH];exact .ret trivial
def Hk(h:Heap):Prop:=h.Bytes.length=384/\h.Class.length=6
def Wk(m:Mem):Prop:=Hk m.Heap/\m.aE.Global.length=3/\m.aE.Own.length=9/\(iF m.aE).length<=24
theorem lX.wk(hm:lX m):Wk m:=by obtain⟨a,b,c,d,e,_⟩:=lX.facts hm;exact⟨⟨d,e⟩,b,c,a⟩
theorem Wk.small(h:Wk m):DG m:=by obtain⟨⟨a,b⟩,c,d,e⟩:=h;exact⟨aa,aa,aa,aa,aa⟩
theorem a3T(b:aA)(w:Int)(s:Sub):(iJ b w s).2.Kind=s.Kind:=by unfold iJ YB NT uA fF cQ zP yO;grind
theorem NW{b:aA}{s:Sub}(h:s.Kind=1\/s.Kind=2\/s.Kind=4):(iJ b w s).1.aC=b.aC:=by
 unfold iJ;rcases h with k|k|k
 ·simp only[k,bT];unfold YB NT;grind
 ·simp only[k];unfold uA;grind
 ·simp only[k];unfold cQ;grind
theorem zR{c:aC}(hc:KN c){v:Int}(hw:0<=w/\w<=2)(hv:0<=v/\v<=2)(e:Int)(x:wU):cT ⟨e,c.cO.set w.toNat x⟩ v=if v=w then x else cT c v:=by have h3:=hc.2.1;unfold cT;grind
def qD(j:Job):Prop:=j.bQ=true/\(j.Op.Kind=2\/j.Op.Kind=5)/\j.Pc=0
def Adv(j:Job):Prop:=j.bQ=true/\j.Op.Kind=4/\j.Pc=0
def JI(e:Int)(p:wU)(j:Job):Prop:=j.bQ=true ->
 (j.Op.Kind=1->j.Sub.Kind=1\/j.Sub.Kind=2)/\(j.Op.Kind=4->j.Pc=1->j.Sub.Kind=4) /\
 (Adv j->j.Sub.Kind=3/\j.Sub.gX=false/\(j.Sub.Pc=0\/j.Sub.E<=e/\(j.Sub.Pc=1/\(0<=j.Sub.B/\j.Sub.B<=2)\/j.Sub.Pc=2/\j.Sub.B=3))) /\
 (qD j->j.Sub.Kind=5/\j.Sub.gX=false/\(j.Sub.Pc=0\/j.Sub.Pc=1/\(0<=j.Sub.E/\j.Sub.E<=e)\/j.Sub.Pc=2/\p.aL=j.Sub.E))
def Calm(j:Job):Prop:=¬qD j/\¬Adv j/\(j.Op.Kind=1->j.Sub.Kind=1\/j.Sub.Kind=2)/\(j.Op.Kind=4->j.Pc=1->j.Sub.Kind=4)
theorem Calm.ji{j:Job}(h:Calm j)(e:Int)(p:wU):JI e p j:=λ_=>⟨h.2.2.1,h.2.2.2,λq=>absurd q h.2.1,λq=>absurd q h.1⟩
def Ep(c:aC)(J:Int->Job):Prop:=(∀w,0<=w/\w<=2->JI c.aL (cT c w) (J w))/\∀p,0<=p/\p<=2->¬qD (J p)->(cT c p).On=true->(cT c p).gP=false->c.aL<=(cT c p).aL+1/\(c.aL=(cT c p).aL+1->∀a,0<=a/\a<=2->Adv (J a)->(J a).Sub.Pc≠0->(J a).Sub.E=c.aL->(J a).Sub.B<=p)
def upJ(J:Int->Job)(w:Int)(j:Job):Int->Job:=λv=>if v=w then j else J v
theorem GV(J:Int->Job)(w:Int)(j:Job):upJ J w j w=j:=aO rfl
theorem o7(J:Int->Job){v:Int}(j:Job)(h:v≠w):upJ J w j v=J v:=aP h
section
variable {c:aC} {J:Int->Job} (h:Ep c J)
include h
theorem Ep.congr{J':Int->Job}(e:∀v,0<=v/\v<=2->J' v=J v):Ep c J':=by refine⟨λw hw=>by rw[e w hw];exact h.1 w hw,λp hp hn h1 h2=>?_⟩;rw[e p hp] at hn;obtain⟨a1,a2⟩:=h.2 p hp hn h1 h2;grind
variable {w:Int} (hw:0<=w/\w<=2) {j:Job}
include hw
theorem Ep.step{c':aC}(he:c'.aL=c.aL)(hp:∀v,0<=v/\v<=2->v≠w->cT c' v=cT c v)(hj:JI c.aL (cT c' w) j)
  (h2:¬qD j->(cT c' w).On=true->(cT c' w).gP=false->c.aL<=(cT c' w).aL+1/\(c.aL=(cT c' w).aL+1->∀a,0<=a/\a<=2->a≠w->Adv (J a)->(J a).Sub.Pc≠0->(J a).Sub.E=c.aL->(J a).Sub.B<=w))
  (ha:Adv j->j.Sub.Pc=0\/j.Sub.B=0):Ep c' (upJ J w j):=by
 constructor
 ·intro v hv;rw[he];by_cases q:v=w
  ·grind[GV]
  ·rw[o7 _ _ q,hp v hv q];exact h.1 v hv
 ·intro p hpr hn o1 o2;rw[he];have hadv:∀a,0<=a/\a<=2->(∀q:a≠w,Adv (J a)->(J a).Sub.Pc≠0->(J a).Sub.E=c.aL->(J a).Sub.B<=p)->Adv (upJ J w j a)->(upJ J w j a).Sub.Pc≠0->(upJ J w j a).Sub.E=c.aL->(upJ J w j a).Sub.B<=p:=by grind[GV,o7]
  by_cases q:p=w
  ·grind[GV]
  ·rw[o7 _ _ q] at hn;rw[hp p hpr q] at o1 o2 ⊢;obtain⟨a1,a2⟩:=h.2 p hpr hn o1 o2;grind
theorem Ep.still(hn:¬qD (J w))(hj:Calm j):Ep c (upJ J w j):=
 h.step hw rfl (λ_ _ _=>rfl) (hj.ji _ _) (λ_ o1 o2=>by
  obtain⟨a1,a2⟩:=h.2 w hw hn o1 o2;grind) (λq=>absurd q hj.2.1)
theorem Ep.bLD(hc:KN c)(hn:¬qD (J w))(hj:Calm j):Ep (KR c w).1 (upJ J w j):=by
 unfold KR;by_cases q:(cT c w).On
 ·rw[aO q];refine h.step hw rfl (λv hv hvw=>by simp_all[zR]) (hj.ji _ _) (λ_ o1=>?_) (λq=>absurd q hj.2.1);simp_all[zR]
 ·rw[aP q];exact h.still hw hn hj
theorem Ep.pin{b:aA}(hb:b.aC=c)(hc:KN c)(hj:J w=j)(hP:qD j){fin:Job}(hf:Calm fin) :
  Ep (zP b w j.Sub).1.aC (upJ J w (if(zP b w j.Sub).2.gX then fin else {j with Sub:=(zP b w j.Sub).2})):=by
 have hji:=h.1 w hw;rw[hj] at hji;have hk5:=hP.2.1;obtain⟨k,d,hpc⟩:=(hji hP.1).2.2.2 hP;have noadv:∀s:Sub,¬Adv {j with Sub:=s}:=λs q=>by have:=q.2.1;grind
 have hP':∀s:Sub,qD {j with Sub:=s}:=λs=>hP;have mk:∀(s:Sub) (p:wU),(s.Kind=5/\s.gX=false/\(s.Pc=0\/s.Pc=1/\(0<=s.E/\s.E<=c.aL)\/s.Pc=2/\p.aL=s.E))->JI c.aL p {j with Sub:=s}:=λs p hs _=>⟨λq=>aj,λq=>aj,λq=>absurd q (noadv s),λ_=>hs⟩;unfold zP;rw[hb];rcases hpc with p0|⟨p1,e0,e1⟩|⟨p2,pe⟩
 ·simp only[aO p0,d,bV,bR,hb];exact h.step hw rfl (λ_ _ _=>rfl) (mk _ _ ⟨k,rfl,.inr (.inl ⟨rfl,hc.1.1,J2 _⟩)⟩) (λq=>absurd (hP' _) q) (λq=>absurd q (noadv _))
 ·have hpt:QM c w j.Sub.E=(⟨c.aL,c.cO.set w.toNat ⟨true,j.Sub.E,false,0⟩⟩,true):=by simp_all[QM]
  simp only[aP (show ¬j.Sub.Pc=0 by omega),aO p1,hpt,bT,d,bV,bR];exact h.step hw rfl (λv hv hvw=>by simp_all[zR]) (mk _ _ ⟨k,rfl,.inr (.inr ⟨rfl,by simp_all[zR]⟩)⟩) (λq=>absurd (hP' _) q) (λq=>absurd q (noadv _))
 ·simp only[aP (show ¬j.Sub.Pc=0 by omega),aP (show ¬j.Sub.Pc=1 by omega),aO p2];by_cases q:c.aL=j.Sub.E
  ·simp only[aO q,yO,bT,hb];exact h.step hw rfl (λ_ _ _=>rfl) (hf.ji _ _) (λ_ _ _=>⟨aa,λe=>aa⟩) (λq=>absurd q hf.2.1)
  ·simp only[aP q,d,bV,bR,hb];exact h.step hw rfl (λ_ _ _=>rfl) (mk _ _ ⟨k,rfl,.inl rfl⟩) (λq=>absurd (hP' _) q) (λq=>absurd q (noadv _))
omit h hw in
theorem aL3(hc:KN c){q:Int}(hq:0<=q/\q<=2)(e:Int):(HL c q e).1.aL=c.aL/\(∀v,0<=v/\v<=2->(cT (HL c q e).1 v).On=(cT c v).On/\(cT (HL c q e).1 v).aL=(cT c v).aL/\((cT (HL c q e).1 v).gP=false->(cT c v).gP=false)) /\
  ((HL c q e).2=true->(cT (HL c q e).1 q).On=true->(cT (HL c q e).1 q).gP=false->(cT c q).aL=e):=by
 unfold HL;by_cases k1:(cT c q).On=false\/(cT c q).gP=true\/(cT c q).aL=e
 ·grind
 ·rw[aP k1];by_cases k2:(cT c q).Seen=2
  ·rw[aO k2];refine⟨rfl,λv hv=>?_,λ_ _ o2=>?_⟩
   ·rw[zR hc hq hv];grind
   simp_all[zR]
  ·rw[aP k2];refine⟨rfl,λv hv=>?_,λx=>by cases x⟩;rw[zR hc hq hv];grind
theorem Ep.advance{b:aA}(hb:b.aC=c)(hc:KN c)(hj:J w=j)(hA:Adv j){fin:Job}(hf:Calm fin) :
  Ep (fF b j.Sub).1.aC (upJ J w (if(fF b j.Sub).2.gX then fin else {j with Sub:=(fF b j.Sub).2})):=by
 have hji:=h.1 w hw;rw[hj] at hji;have hk4:=hA.2.1;obtain⟨k,d,hpc⟩:=(hji hA.1).2.2.1 hA;have nopin:∀s:Sub,¬qD {j with Sub:=s}:=λs q=>by have:=q.2.1;grind
 have nopw:¬qD (J w):=by simp_all
 have mk:∀(s:Sub) (p:wU) (e:Int),(s.Kind=3/\s.gX=false/\(s.Pc=0\/s.E<=e/\(s.Pc=1/\(0<=s.B/\s.B<=2)\/s.Pc=2/\s.B=3)))->JI e p {j with Sub:=s}:=λs p e hs _=>⟨λq=>aj,λ_ q=>by simp only at q;have:=hA.2.2;omega,λ_=>hs,λq=>absurd q (nopin s)⟩;unfold fF;rw[hb];rcases hpc with p0|⟨el,⟨p1,B0,B2⟩|⟨p2,B3⟩⟩
 ·simp only[aO p0,d,bV,bR,hb];refine h.step hw rfl (λ_ _ _=>rfl) (mk _ _ _ ⟨k,rfl,.inr ⟨J2 _,.inl ⟨rfl,ae,ae⟩⟩⟩) (λ_ o1 o2=>?_) (λ_=>.inr rfl);obtain⟨a1,a2⟩:=h.2 w hw nopw o1 o2;grind
 ·obtain⟨le,lv,lq⟩:=aL3 hc (q:=j.Sub.B) ⟨B0,B2⟩ j.Sub.E;simp only[aP (show ¬j.Sub.Pc=0 by omega),aO p1,aO (show 0<=j.Sub.B/\j.Sub.B<=2 from⟨B0,B2⟩)];have others:∀v,0<=v/\v<=2->JI (HL c j.Sub.B j.Sub.E).1.aL (cT (HL c j.Sub.B j.Sub.E).1 v) (J v):=λv hv=>by have:=h.1 v hv;rw[le];intro hbv;obtain⟨x1,x2,x3,x4⟩:=this hbv;grind
  cases hl:(HL c j.Sub.B j.Sub.E).2
  ·simp only[bV,bR,yO,bT];refine⟨λv hv=>?_,λp hp hn o1 o2=>?_⟩
   ·by_cases q:v=w
    ·subst q;rw[GV];exact hf.ji _ _
    grind[o7]
   ·have hn':¬qD (J p):=by grind[o7]
    obtain⟨y1,y2,y3⟩:=lv p hp;rw[y1] at o1;obtain⟨a1,a2⟩:=h.2 p hp hn' o1 (y3 o2);rw[le,y2];refine⟨a1,λe a har=>?_⟩;by_cases q:a=w
    ·subst q;rw[GV];exact λq=>absurd q hf.2.1
    grind[o7]
  ·simp only[bT,d,bV,bR];refine⟨λv hv=>?_,λp hp hn o1 o2=>?_⟩
   ·by_cases q:v=w
    ·subst q;rw[GV,le];grind
    grind[o7]
   ·have hn':¬qD (J p):=by grind[o7]
    obtain⟨y1,y2,y3⟩:=lv p hp;have o1':=o1;rw[y1] at o1';obtain⟨a1,a2⟩:=h.2 p hp hn' o1' (y3 o2);grind[GV,o7]
 ·simp only[aP (show ¬j.Sub.Pc=0 by omega),aP (show ¬j.Sub.Pc=1 by omega),aO p2,yO,bT];unfold aGG;by_cases q:c.aL=j.Sub.E/\j.Sub.E≠100000
  ·simp only[aO q];refine⟨λv hv=>?_,λp hp hn o1 o2=>?_⟩
   ·by_cases z:v=w
    ·subst z;rw[GV];exact hf.ji _ _
    ·rw[o7 _ _ z];intro hbv;obtain⟨x1,x2,x3,x4⟩:=h.1 v hv hbv;refine⟨x1,x2,λq=>?_,λq=>?_⟩
     ·grind
     ·obtain⟨z1,z2,z3⟩:=x4 q;exact⟨z1,z2,z3.imp id λz4=>z4.imp (λz5=>⟨z5.1,z5.2.1,aj⟩) id⟩
   ·have hn':¬qD (J p):=by grind[o7]
    have o1':(cT c p).On=true:=o1;have o2':(cT c p).gP=false:=o2;obtain⟨a1,a2⟩:=h.2 p hp hn' o1' o2';have hpk:=(aLY hc hp).1.2;have hne:c.aL≠(cT c p).aL+1:=λe=>aj
    have hep:cT ⟨j.Sub.E+1,c.cO⟩ p=cT c p:=rfl;rw[hep];refine⟨aj,λe a har hA' hp' hE'=>?_⟩;exfalso;by_cases z:a=w
    ·subst z;rw[GV] at hA';exact hf.2.1 hA'
    ·rw[o7 _ _ z] at hA' hp' hE';obtain⟨_,_,z3⟩:=(h.1 a har hA'.1).2.2.1 hA';omega
  ·simp only[aP q];exact h.still hw nopw hf
end
theorem aFL{b:aA}(hb:m5 b)(hw:0<=w/\w<=2)(s:Sub):qK s b w=some ((iJ b w s).2,(iJ b w s).1):=by obtain⟨x,y,e1,e2,h⟩:=step_eq hb hb.small hw s;grind[a06]
def cX:aI:=⟨false,⟨false,[]⟩,0,0,0,0,0,0,0,0,aPU,false,0,⟨0,0,0,0,0,0,0,0,0,false⟩,[],[],[],[],[],[]⟩
def dX(k:List bW)(i:Int):bW:=k.getD i.toNat ⟨0,0,0⟩
def sL(j:aI)(c:Int):aI:={j with Pc:=16,Code:=c}
def vK(a b:Int):Int:=Int.tmod (aY (a+b)) 65536
def oD(j:aI)(x:aU):Bool×aI:=if 6<(vI j.aH x).length then(false,sL j 1) else(true,{j with aH:=vI j.aH x})
def T7(j:aI)(is:Bool)(v:Int):aI:={j with hU:=j.hU++[⟨is,v⟩],Pc:=1,At:=j.At+1}
def VW(j:aI)(c:eJ)(v:Int):aI:=if(oD j ⟨c.Key,false,vK v c.dC⟩).1 then T7 (oD j ⟨c.Key,false,vK v c.dC⟩).2 true (vK v c.dC) else(oD j ⟨c.Key,false,vK v c.dC⟩).2
def qU(j:aI)(c:eJ)(v:Int)(is:Bool):aI:=if c.Kind=4 then VW j c (if is then v else 0) else T7 j is (if is then v else 0)
def cG(j:aI):eJ:=j.Batch.bN.getD j.At.toNat ⟨0,0,0⟩
def uB(j:aI):Prop:=j.At<j.Batch.bN.length
instance (j:aI):Decidable (uB j):=by unfold uB;infer_instance
def qP(j:aI):aI:=
 if uB j then
  if(cG j).Kind=2\/(cG j).Kind=3 then
   if(oD j ⟨(cG j).Key,(cG j).Kind == 3,(cG j).dC⟩).1 then {(oD j ⟨(cG j).Key,(cG j).Kind == 3,(cG j).dC⟩).2 with At:=j.At+1,hU:=j.hU++[⟨false,0⟩]}
   else(oD j ⟨(cG j).Key,(cG j).Kind == 3,(cG j).dC⟩).2
  else if(OE j.aH (cG j).Key).2 then qU j (cG j) (OE j.aH (cG j).Key).1.dC (!(OE j.aH (cG j).Key).1.G6)
  else {j with Pc:=2,bW:=jJ (cG j).Key}
 else {j with Pc:=6,K:=0,Sub:=zQ 1 16}
def iQ(b:aA)(k:List bW)(w:Int)(j:aI):aI:=
 if j.Pc=2 then
  if(dX k j.bW).eM≠0 then sL j 7
  else {j with eO:=(dX k j.bW).eO,H:=(dX k j.bW).Head,Found:=false,Node:=aPU,Pc:=if(dX k j.bW).Head=0 then 5 else 3}
 else if j.Pc=3 then {j with Node:=VV b.Mem.Heap j.H,Pc:=4}
 else if j.Pc=4 then
  if ¬((cT b.aC w).On=true/\(cT b.aC w).gP=false) then sL j 6
  else if uB j then {j with Found:=j.Node.Key == (cG j).Key,H:=L6 j.Node,Pc:=if j.Node.Key=(cG j).Key\/L6 j.Node=0 then 5 else 3}
  else sL j 1
 else
  if(dX k j.bW).eM≠0\/(dX k j.bW).eO≠j.eO then sL j 7
  else if(sI j.Reads j.bW j.eO).2=false then sL {j with Reads:=(sI j.Reads j.bW j.eO).1} 7
  else if uB j then qU {j with Reads:=(sI j.Reads j.bW j.eO).1} (cG j) j.Node.dC j.Found
  else sL {j with Reads:=(sI j.Reads j.bW j.eO).1} 1
def vL(b:aA)(w:Int)(j:aI):aA×aI:=
 if fQ j.aH j.aH.length<=j.K then(b,{j with Pc:=7,K:=0})
 else((iJ b w j.Sub).1,
  if(iJ b w j.Sub).2.gX=false then {j with Sub:=(iJ b w j.Sub).2}
  else if(iJ b w j.Sub).2.Code≠0\/¬lN (iJ b w j.Sub).2.Out\/6<=j.gL.length then sL {j with Sub:=(iJ b w j.Sub).2} (iJ b w j.Sub).2.Code
  else {j with gL:=j.gL++[(iJ b w j.Sub).2.Out],K:=j.K+1,Sub:=zQ 1 16})
def fV(j:aI):Int:=(pZ j.aH).getD j.K.toNat 0
def IC(j:aI):aI:={j with bE:=if fV j∈j.bE then j.bE else j.bE++[fV j],K:=j.K+1}
def oS(k:List bW)(w:Int)(j:aI):List bW×aI×Bool:=
 if j.K<(pZ j.aH).length then
  if(dX k (fV j)).eM≠0\/(j.Reads.any λs=>s.bW == fV j && s.eO != (dX k (fV j)).eO)=true then(k,sL j 7,false)
  else if(dX k (fV j)).eO=1000000 then(k,sL j 3,false)
  else if(pZ j.aH).length<=j.K+1 then(k.set (fV j).toNat {dX k (fV j) with eM:=w+1},{IC j with Pc:=8,K:=0},true)
  else(k.set (fV j).toNat {dX k (fV j) with eM:=w+1},IC j,false)
 else(k,{j with Pc:=8,K:=0},true)
def rdN(j:aI):Seen:=j.Reads.getD j.K.toNat ⟨0,0⟩
def JZ(k:List bW)(w:Int)(j:aI):aI:=
 if j.Reads.length<=j.K then {j with Pc:=9,K:=0}
 else if((dX k (rdN j).bW).eM≠0/\(dX k (rdN j).bW).eM≠w+1)\/(dX k (rdN j).bW).eO≠(rdN j).eO then sL j 7
 else {j with K:=j.K+1}
def L7(j:aI)(x:aU):aI:=if x.G6 then {j with Pc:=9,K:=j.K+1} else {j with Pc:=12}
def mV(j:aI):aU:=j.aH.getD j.K.toNat ⟨0,false,0⟩
def GW(j:aI):Int:=j.gL.getD (fQ j.aH j.K).toNat 0
def L8(j:aI):aI:=if lN j.H/\j.cB.length<6 then {j with cB:=j.cB++[j.H]} else j
def lY(b:aA)(k:List bW)(j:aI):aA×List bW×aI:=
 if j.aH.length<=j.K then(b,k,{j with Pc:=14})
 else if j.Pc=9 then(b,k,if(dX k (jJ (mV j).Key)).Head=0 then L7 {j with Pc:=10,H:=(dX k (jJ (mV j).Key)).Head,gT:=0} (mV j) else {j with Pc:=10,H:=(dX k (jJ (mV j).Key)).Head,gT:=0})
 else if j.Pc=10 then
  (b,k,if(VV b.Mem.Heap j.H).Key=(mV j).Key then {j with Pc:=11,Node:=VV b.Mem.Heap j.H}
   else if L6 (VV b.Mem.Heap j.H)=0 then L7 {j with Node:=VV b.Mem.Heap j.H} (mV j)
   else {j with H:=L6 (VV b.Mem.Heap j.H),gT:=j.H,Node:=VV b.Mem.Heap j.H})
 else if j.Pc=11 then
  if j.gT=0 then(b,k.set (jJ (mV j).Key).toNat {dX k (jJ (mV j).Key) with Head:=L6 j.Node},L7 (L8 j) (mV j))
  else({b with Mem:=Gv.aGI b.Mem j.gT (L6 j.Node)},k,L7 (L8 j) (mV j))
 else if j.gL.length<=fQ j.aH j.K then(b,k,sL j 1)
 else if j.Pc=12 then({b with Mem:=aAJ b.Mem (GW j) ⟨(mV j).Key,(mV j).dC,(dX k (jJ (mV j).Key)).Head⟩},k,{j with Pc:=13})
 else(b,k.set (jJ (mV j).Key).toNat {dX k (jJ (mV j).Key) with Head:=GW j},{j with Pc:=9,K:=j.K+1})
def J0(j:aI):aI:=if j.K<j.cB.length then {j with Sub:=zQ 2 (j.cB.getD j.K.toNat 0)} else j
def wS(j:aI):Int:=j.bE.getD 0 0
def AQ(k:List bW)(j:aI):List bW×aI:=
 if 0<j.bE.length then
  (k.set (wS j).toNat (if j.Pc=14 then⟨(dX k (wS j)).Head,if 1000000<(dX k (wS j)).eO+1 then 1000000 else(dX k (wS j)).eO+1,0⟩ else {dX k (wS j) with eM:=0}),{j with bE:=j.bE.drop 1})
 else if j.Pc=16 then(k,{j with Pc:=17})
 else(k,J0 {j with Pc:=15,K:=0})
def DJ(b:aA)(w:Int)(j:aI):aA×aI:=
 if j.cB.length<=j.K then(b,{j with Pc:=18})
 else((iJ b w j.Sub).1,if(iJ b w j.Sub).2.gX then J0 {j with K:=j.K+1,Sub:=(iJ b w j.Sub).2} else {j with Sub:=(iJ b w j.Sub).2})
def aUZ(m:Mem)(w x:Int):Mem:=if mU m x then qC m w x else m
def DK(b:aA)(w:Int)(j:aI):aA×aI:=
 if j.gL.length=0 then(b,{j with Pc:=18})
 else(if bE b.aQ (j.gL.getD 0 0 % 32) then b else {b with Mem:=aUZ b.Mem w (j.gL.getD 0 0)},{j with gL:=j.gL.drop 1})
def nZ(b:aA)(w:Int)(j:aI):aA×aI:=
 ((iJ b w j.Sub).1,if(iJ b w j.Sub).2.gX = false then {j with Sub:=(iJ b w j.Sub).2}
  else if j.Pc=0 then {j with Pc:=1,Sub:=(iJ b w j.Sub).2}
  else if j.Pc=20 then {j with Pc:=21,Sub:=zQ 4 0}
  else {j with Pc:=19,Sub:=(iJ b w j.Sub).2})
def tlE(w:Int)(j:aI):j7:=⟨3,w,j.aG,j.Code,[],if j.Code=0 then j.hU else []⟩
structure TR where
 b:aA
 k:List bW
 j:aI
 l:List j7
def eX(b:aA)(k:List bW)(w:Int)(j:aI):TR:=
 if j.Pc=0\/j.Pc=20\/j.Pc=21 then⟨(nZ b w j).1,k,(nZ b w j).2,[]⟩
 else if j.Pc=1 then⟨b,k,qP j,[]⟩
 else if 2<=j.Pc/\j.Pc<=5 then⟨b,k,iQ b k w j,[]⟩
 else if j.Pc=6 then⟨(vL b w j).1,k,(vL b w j).2,[]⟩
 else if j.Pc=7 then⟨b,(oS k w j).1,(oS k w j).2.1,if(oS k w j).2.2 then [⟨2,w,j.aG,0,[],[]⟩] else []⟩
 else if j.Pc=8 then⟨b,k,JZ k w j,[]⟩
 else if 9<=j.Pc/\j.Pc<=13 then⟨(lY b k j).1,(lY b k j).2.1,(lY b k j).2.2,[]⟩
 else if j.Pc=14\/j.Pc=16 then⟨b,(AQ k j).1,(AQ k j).2,[]⟩
 else if j.Pc=15 then⟨(DJ b w j).1,k,(DJ b w j).2,[]⟩
 else if j.Pc=17 then⟨(DK b w j).1,k,(DK b w j).2,[]⟩
 else if j.Pc=18 then⟨{b with aC:=(KR b.aC w).1},k,{j with Pc:=19},[]⟩
 else if j.Pc=19 then⟨b,k,cX,[tlE w j]⟩
 else⟨b,k,sL j 1,[]⟩
def aD(t:Table)(w:Int):aI:=t.aS.getD w.toNat cX
def m6(t:Table)(w:Int):List Batch:=(t.fI.getD w.toNat ⟨[]⟩).List
def iU(b:Batch)(s:Int):aI:=⟨true,b,s,if b.Collect then 20 else 0,0,0,0,0,0,0,aPU,false,0,if b.Collect then zQ 3 0 else zQ 5 0,[],[],[],[],[],[]⟩
def qQ(t:Table)(w:Int)(b:Batch):Table:=⟨t.aA,t.aR,t.aS.set w.toNat (iU b (t.aG+1)),t.fI.set w.toNat ⟨(m6 t w).drop 1⟩,t.Log++[⟨1,w,t.aG+1,0,b.bN,[]⟩],t.aG+1⟩
def yQ(t:Table)(w:Int)(r:TR):Table:=⟨r.b,r.k,t.aS.set w.toNat r.j,t.fI,t.Log++r.l,t.aG⟩
def aW(t:Table)(w:Int):Table:=
 if(aD t w).bQ then yQ t w (eX t.aA t.aR w (aD t w))
 else if(m6 t w).length=0\/t.aG=1000000 then t else qQ t w ((m6 t w).getD 0 ⟨false,[]⟩)
def QN(c:eJ):Prop:=(1<=c.Kind/\c.Kind<=4)/\(0<=c.Key/\c.Key<=99)/\(0<=c.dC/\c.dC<=65535)/\(c.Kind=2\/c.Kind=4\/c.dC=0)
instance (c:eJ):Decidable (QN c):=by unfold QN;infer_instance
def OF(b:Batch):Prop:=(b.Collect=true->b.bN=[])/\b.bN.length<=6/\(∀c∈b.bN,QN c)/\(b.Collect=false->1<=b.bN.length)
instance (b:Batch):Decidable (OF b):=by unfold OF;infer_instance
def QuV(q:aJ):Prop:=q.List.length<=12/\∀b∈q.List,OF b
instance (q:aJ):Decidable (QuV q):=by unfold QuV;infer_instance
def T8(l:List aJ):Prop:=l.length=3/\∀q∈l,QuV q
instance (l:List aJ):Decidable (T8 l):=by unfold T8;infer_instance
def BkV(b:bW):Prop:=oQ b.Head/\(0<=b.eO/\b.eO<=1000000)/\(0<=b.eM/\b.eM<=3)
def WrV(l:List aU):Prop:=l.length<=6/\(∀x∈l,(0<=x.Key/\x.Key<=99)/\(0<=x.dC/\x.dC<=65535))/\l.Pairwise (λx y=>x.Key<y.Key)
structure JB (j:aI):Prop where
 busy:j.bQ=true
 VZ:OF j.Batch
 h:oQ j.H
 prev:oQ j.gT
 bkt:0<=j.bW/\j.bW<=1
 at_:0<=j.At/\j.At<=j.Batch.bN.length
 k:0<=j.K/\j.K<=6
 new:j.gL.length<=6/\∀x∈j.gL,lN x
 old:j.cB.length<=6/\∀x∈j.cB,lN x
 reads:(∀s∈j.Reads,0<=s.bW/\s.bW<=1)/\(j.Reads.map Seen.bW).Nodup
 wr:WrV j.aH
 held:(∀x∈j.bE,0<=x/\x<=1)/\j.bE.Nodup
 res:(j.hU.length:Int)=j.At
 node:0<=j.Node.dC/\j.Node.dC<=4294967295
structure TV (t:Table):Prop where
 base:m5 t.aA
 bk:t.aR.length=2/\∀x∈t.aR,BkV x
 wV:t.aS.length=3/\∀j∈t.aS,j=cX\/JB j
 todo:T8 t.fI
 ser:0<=t.aG/\t.aG<=1000000
theorem aPY(hw:j.aH.length<=1000)(x:aU):rY j x=some (oD j x):=by
 unfold rY oD;rw[aFH hw,aM];by_cases h:6<(vI j.aH x).length
 ·rw[eV,aO h];rfl
 grind
theorem aFN(j:aI)(x:aU):(oD j x).2.hU=j.hU/\(oD j x).2.At=j.At:=by grind[oD,sL]
theorem aPZ(hw:j.aH.length<=1000)(hr:j.hU.length<=1000)(ha:0<=j.At/\j.At<=1000)(c:eJ)(v:Int)(is:Bool):rZ j c v is=some (qU j c v is):=by
 have key:∀u,mP j c is u=some (if c.Kind=4 then VW j c u else T7 j is u):=λu=>by
  unfold mP;by_cases hk:c.Kind=4
  ·rw[aO aj,aO hk];unfold aAY VW;rw[aM,show Int.tmod (aY (u+c.dC)) 65536=vK u c.dC from rfl,aPY hw,aM];obtain⟨e1,e2⟩:=aFN j ⟨c.Key,false,vK u c.dC⟩;cases h:(oD j ⟨c.Key,false,vK u c.dC⟩).1
   ·simp
   ·rw[gH,aO rfl];grind[mO,rB,T7,b7,cW]
  ·rw[aP aj,aP hk];grind[mO,rB,T7,b7,cW]
 unfold rZ qU;grind
theorem aL4(hl:j.Batch.bN.length<=1000)(ha:0<=j.At):pN j=some (if uB j then(cG j,true,j) else(⟨0,0,0⟩,false,j)):=by
 unfold pN cG;rw[dP,aM,dO];by_cases hc:uB j
 ·have h:j.At<j.Batch.bN.length:=hc;rw[dA aa,gH,aO hc,gW ha h,aM];grind
 ·have h:¬j.At<j.Batch.bN.length:=hc;grind
theorem a8Z(hl:j.Batch.bN.length<=1000)(hw:j.aH.length<=1000)(hr:j.hU.length<=1000)(ha:0<=j.At/\j.At<=1000):FO j=some (qP j):=by
 unfold FO qP;rw[aL4 hl ha.1,aM];by_cases h:uB j
 ·rw[aO h,aO h];have put:kG (cG j,true,j) true j=some (if(oD j ⟨(cG j).Key,(cG j).Kind == 3,(cG j).dC⟩).1 then {(oD j ⟨(cG j).Key,(cG j).Kind == 3,(cG j).dC⟩).2 with At:=j.At+1,hU:=j.hU++[⟨false,0⟩]} else(oD j ⟨(cG j).Key,(cG j).Kind == 3,(cG j).dC⟩).2):=by
   unfold kG;rw[aO rfl,aPY hw,aM];obtain⟨e1,e2⟩:=aFN j ⟨(cG j).Key,(cG j).Kind == 3,(cG j).dC⟩;cases (oD j ⟨(cG j).Key,(cG j).Kind == 3,(cG j).dC⟩).1
   ·rw[gH,gH]
   ·rw[aO rfl,aO rfl,b7 (by rw[e1];simp;omega)];simp only[e1,e2];rw[dO]
  have get:kG (cG j,true,j) false j=some (if(OE j.aH (cG j).Key).2 then qU j (cG j) (OE j.aH (cG j).Key).1.dC (!(OE j.aH (cG j).Key).1.G6) else {j with Pc:=2,bW:=jJ (cG j).Key}):=by
   unfold kG FN;rw[gH,aH5 hw,aM];cases (OE j.aH (cG j).Key).2
   ·rw[gH,gH,QI];rfl
   ·rw[aO rfl,aO rfl,aPZ hw hr ha];rfl
  grind
 ·rw[aP h,aP h];rfl
theorem CU(h3:t.aS.length=3)(hw:0<=w/\w<=2):idx t.aS w=some (aD t w):=by grind[gW,aD]
theorem aFO{k:List bW}(h2:k.length=2)(hi:0<=i/\i<=1):idx k i=some (dX k i):=by grind[gW,dX]
theorem aD0{l:List O}{x:O}(h:0<=i/\i<l.length):idx (l.set i.toNat x) i=some x:=by grind[gW]
theorem zS(h3:t.aS.length=3)(hw:0<=w/\w<=2):aD t w∈t.aS:=by grind[aD]
def aU0(t:Table)(w:Int)(j:aI):Table:={t with aS:=t.aS.set w.toNat j}
section
variable {t:Table} {w:Int} (h3:t.aS.length=3) (h2:t.aR.length=2) (hb:m5 t.aA) (hw:0<=w/\w<=2) (hj:JB (aD t w))
include h3 h2 hb hw hj
theorem YE:(aD t w).Batch.bN.length<=1000/\(aD t w).aH.length<=1000/\(aD t w).hU.length<=1000/\(0<=(aD t w).At/\(aD t w).At<=1000)/\(aD t w).Reads.length<=2:=by
 have h1:=hj.VZ.2.1;have h4:=hj.at_;have h5:=hj.res;have h6:=hj.wr.1;refine⟨aa,aa,aa,aa,?_⟩;have hn:=hj.reads.2;have hm:∀x∈(aD t w).Reads.map Seen.bW,x=0\/x=1:=λx hx=>by obtain⟨s,hs,rfl⟩:=AU.1 hx;have:=hj.reads.1 s hs;omega
 have hl:((aD t w).Reads.map Seen.bW).length<=2:=by
  match h:(aD t w).Reads.map Seen.bW,hn,hm with
  |[],_,_=>simp
  |[_],_,_=>simp
  |[_,_],_,_=>simp
  |x::y::z::r,hn,hm=>
   (simp_all;omega)
 grind
theorem bDL:B7 t w=some (aU0 t w (iQ t.aA t.aR w (aD t w))):=by
 obtain⟨s1,s2,s3,s4,s5⟩:=YE h3 h2 hb hw hj;have hjob:=CU h3 hw;unfold B7 C6 iQ aU0;rw[hjob,aM,aFO h2 hj.bkt,aM,aM,aL4 s1 s4.1,aM];generalize hjj:aD t w=j at *;have e62:(if uB j then(cG j,true,j) else((⟨0,0,0⟩:eJ),false,j)).2.2=j:=aj
 have set2:∀x y:aI,(t.aS.set w.toNat x).set w.toNat y=t.aS.set w.toNat y:=λx y=>aSZ ..;have iset:∀x:aI,idx (t.aS.set w.toNat x) w=some x:=λx=>aD0 ⟨hw.1,aa⟩;simp only[e62];by_cases p2:j.Pc=2
 ·have p2':(j.Pc == 2)=true:=aj
  simp only[p2',bT,aO p2];by_cases hl:(dX t.aR j.bW).eM=0
  ·have e:((dX t.aR j.bW).eM != 0)=false:=aj
   simp only[e,bV,bR,aP (not_not_intro hl)];by_cases hh:(dX t.aR j.bW).Head=0
   ·have e:((dX t.aR j.bW).Head == 0)=true:=aj
    simp only[e,bT,aO hh];rfl
   ·have e:((dX t.aR j.bW).Head == 0)=false:=aj
    simp only[e,bV,bR,aP hh];rfl
  ·have e:((dX t.aR j.bW).eM != 0)=true:=aj
   simp only[e,bT,aO hl];rfl
 ·have p2':(j.Pc == 2)=false:=aj
  simp only[p2',bV,bR,aP p2];by_cases p3:j.Pc=3
  ·have p3':(j.Pc == 3)=true:=aj
   simp only[p3',bT,aO p3];obtain⟨c,e⟩:=aPV hb.1.1 j.H;rw[e];rfl
  ·have p3':(j.Pc == 3)=false:=aj
   simp only[p3',bV,bR,aP p3];by_cases p4:j.Pc=4
   ·have p4':(j.Pc == 4)=true:=aj
    simp only[p4',bT,aO p4];rw[R8 hb.1.2.1 hw,aM];simp only[C3,oB];have hp:(if(cT t.aA.aC w).On=true then some (!(cT t.aA.aC w).gP) else some false)=some (decide ((cT t.aA.aC w).On=true/\(cT t.aA.aC w).gP=false)):=by cases (cT t.aA.aC w).On<;>cases (cT t.aA.aC w).gP<;>rfl
    rw[hp,aM];by_cases hpin:(cT t.aA.aC w).On=true/\(cT t.aA.aC w).gP=false
    ·simp only[dA hpin,kY,bV,bR,aP (not_not_intro hpin)];by_cases hc:uB j
     ·simp only[aO hc,kY,bV,bR,aR2,aM,C4,tK,iset,set2];grind
     ·simp only[aP hc,SG,bT];rfl
    ·simp only[iD hpin,SG,bT,aO hpin];rfl
   ·have p4':(j.Pc == 4)=false:=aj
    simp only[p4',bV,bR,aP p4];have tail:jN t w (if uB j then(cG j,true,j) else((⟨0,0,0⟩:eJ),false,j)) false=some (aU0 t w (if(sI j.Reads j.bW j.eO).2=false then sL {j with Reads:=(sI j.Reads j.bW j.eO).1} 7
      else if uB j then qU {j with Reads:=(sI j.Reads j.bW j.eO).1} (cG j) j.Node.dC j.Found
      else sL {j with Reads:=(sI j.Reads j.bW j.eO).1} 1)):=by
     simp only[jN,C5,e62,iset,aM,set2,bV,bR];rw[aH6 aa,aM];cases hs:(sI j.Reads j.bW j.eO).2
     ·rfl
     ·simp only[kY,bV,bR,reduceCtorEq];by_cases hc:uB j
      ·simp only[aO hc,kY,bV,bR];rw[aPZ (j:={j with Reads:=(sI j.Reads j.bW j.eO).1}) s2 s3 s4];rfl
      ·simp only[aP hc,SG,bT];rfl
    have ab:jN t w (if uB j then(cG j,true,j) else((⟨0,0,0⟩:eJ),false,j)) true=some (aU0 t w (sL j 7)):=by simp only[jN,e62,iset,aM,set2,bT];rfl
    by_cases hl:(dX t.aR j.bW).eM=0
    ·have e:((dX t.aR j.bW).eM != 0)=false:=aj
     simp only[e,bV,bR];by_cases hv:(dX t.aR j.bW).eO=j.eO
     ·have e:((dX t.aR j.bW).eO != j.eO)=false:=aj
      rw[e,tail,aP (show ¬((dX t.aR j.bW).eM≠0\/(dX t.aR j.bW).eO≠j.eO) from λq=>q.elim (λh=>h hl) λh=>h hv)];rfl
     ·have e:((dX t.aR j.bW).eO != j.eO)=true:=aj
      rw[e,ab,aO (.inr hv)];rfl
    ·have e:((dX t.aR j.bW).eM != 0)=true:=aj
     simp only[e,bT];rw[ab,aO (.inl hl)];rfl
end
def YF(t:Table)(w:Int)(p:aA×aI):Table:={t with aA:=p.1,aS:=t.aS.set w.toNat p.2}
section
variable {t:Table} {w:Int} (h3:t.aS.length=3) (h2:t.aR.length=2) (hb:m5 t.aA) (hw:0<=w/\w<=2) (hj:JB (aD t w))
include h3 h2 hb hw hj
theorem a80:tJ t w=some (YF t w (nZ t.aA w (aD t w))):=by
 unfold tJ nZ YF;rw[CU h3 hw,aM,aFL hb hw,aM];generalize aD t w=j at *;generalize iJ t.aA w j.Sub=r;cases hd:r.2.gX
 ·rfl
 ·simp only[hd,kY,bV,bR,reduceCtorEq];by_cases p0:j.Pc=0
  ·grind
  ·have e:(j.Pc == 0)=false:=aj
   simp only[e,bV,bR,aP p0];by_cases p20:j.Pc=20
   ·have e:(j.Pc == 20)=true:=aj
    simp only[e,bT,aO p20];rfl
   grind
theorem a3V:zD t w=some (YF t w (vL t.aA w (aD t w))):=by
 obtain⟨s1,s2,s3,s4,s5⟩:=YE h3 h2 hb hw hj;have hjob:=CU h3 hw;have hk:=hj.k;have hn:=hj.new.1;unfold zD vL YF;rw[hjob,aM,aDT s2,aM];generalize hjj:aD t w=j at *;have set2:∀x y:aI,(t.aS.set w.toNat x).set w.toNat y=t.aS.set w.toNat y:=λx y=>aSZ ..;have iset:∀x:aI,idx (t.aS.set w.toNat x) w=some x:=λx=>aD0 ⟨hw.1,aa⟩;unfold AF;by_cases hp:fQ j.aH j.aH.length<=j.K
 ·grind
 ·rw[iD hp,gH,aP hp,hjob,aM,aFL hb hw,aM];generalize iJ t.aA w j.Sub=r;cases hd:r.2.gX
  ·rfl
  ·have ab:iB w true {t with aA:=r.1,aS:=t.aS.set w.toNat {j with Sub:=r.2}}=some {t with aA:=r.1,aS:=t.aS.set w.toNat (sL {j with Sub:=r.2} r.2.Code)}:=by simp_all[iB,cK,sL]
   have go:j.gL.length<6->iB w false {t with aA:=r.1,aS:=t.aS.set w.toNat {j with Sub:=r.2}}=some {t with aA:=r.1,aS:=t.aS.set w.toNat {j with gL:=j.gL++[r.2.Out],K:=j.K+1,Sub:=zQ 1 16}}:=λh6=>by simp only[iB,bV,bR,iset,aM,set2,AE,lS,AD];rw[OD,dO];rfl
   simp only[hd,kY,bV,bR,reduceCtorEq];by_cases hc:r.2.Code=0
   ·have e:(r.2.Code != 0)=false:=aj
    simp only[e,bV,bR,g8,aM];grind
   grind
theorem a81:rC t w=some (aU0 t w (JZ t.aR w (aD t w))):=by
 have hjob:=CU h3 hw;have hk:=hj.k;have hr:=hj.reads.1;unfold rC tO JZ aU0;rw[hjob,aM,aM];generalize hjj:aD t w=j at *;by_cases hp:(j.Reads.length:Int)<=j.K
 ·grind
 ·have hi:j.K.toNat<j.Reads.length:=aa
  have er:rdN j=j.Reads[j.K.toNat]:=by grind[rdN]
  have hbk:=hr j.Reads[j.K.toNat] (dF hi);rw[aP aj,aP hp,aM,gW hk.1 aa,aM,<-er];rw[<-er] at hbk;unfold tN tM;rw[aFO h2 hbk,aM,dO];have ab:fN t w true=some {t with aS:=t.aS.set w.toNat (sL j 7)}:=by simp_all[fN,cK,sL]
  have go:fN t w false=some {t with aS:=t.aS.set w.toNat {j with K:=j.K+1}}:=by simp only[fN,bV,bR,hjob,aM];grind[cW]
  grind
theorem aOS{l:List Seen}(hl:l.length<=1000)(f:Seen->Bool)(g:Seen->Option Bool)(hg:∀x,g x=some (f x)):fS l g=some (l.any f):=by
 have e:g=λx=>some (f x):=funext hg;rw[e];unfold fS;rcases aGF (s:=l) (p:=f) aa with ⟨j,h,h1,h2,h3⟩|⟨h1,h3⟩
 ·rw[h3,aM,dA aa];congr 1;exact(List.any_eq_true.2 ⟨l[j],dF h,h2⟩).symm
 ·rw[h3,aM,iD aa];congr 1;refine(aSW.2 λx hx=>?_).symm;obtain⟨i,hi,rfl⟩:=V4 hx;simp[h1 i hi]
def bLE(t:Table)(w:Int)(p:List bW×aI×Bool):Table:={t with aR:=p.1,aS:=t.aS.set w.toNat p.2.1,Log:=t.Log++if p.2.2 then [⟨2,w,(aD t w).aG,0,[],[]⟩] else []}
theorem bDM(hl:t.Log.length<=1000000):CA t w=some (bLE t w (oS t.aR w (aD t w))):=by
 obtain⟨s1,s2,s3,s4,s5⟩:=YE h3 h2 hb hw hj;have hjob:=CU h3 hw;have hk:=hj.k;have hd:=hj.held;have hwr:=hj.wr;unfold CA oS bLE;rw[hjob,aM,aH7 (by have:=hwr.1;omega) (λx hx=>(hwr.2.1 x hx).1),aM];generalize hjj:aD t w=j at *;have set2:∀x y:aI,(t.aS.set w.toNat x).set w.toNat y=t.aS.set w.toNat y:=λx y=>aSZ ..;have iset:∀x:aI,idx (t.aS.set w.toNat x) w=some x:=λx=>aD0 ⟨hw.1,aa⟩;have hheld:j.bE.length<=2:=by
  match h:j.bE,hd with
  |[],_=>simp
  |[_],_=>simp
  |[_,_],_=>simp
  |x::y::z::r,⟨hm,hn⟩=>
   (simp_all;omega)
 by_cases hp:j.K<(pZ j.aH).length
 ·have hi:j.K.toNat<(pZ j.aH).length:=aa
  have er:fV j=(pZ j.aH)[j.K.toNat]:=by grind[fV]
  have hbk:0<=fV j/\fV j<=1:=by grind[R6,dF]
  rw[aO aj,aO hp,gW hk.1 hp,aM,<-er,aFO h2 hbk,aM];have ab:iM t w (pZ j.aH) (fV j) true=some {t with aS:=t.aS.set w.toNat (sL j 7)}:=by simp_all[iM,cK,sL]
  have en:∀x:aI,x.K=j.K->x.aG=j.aG->nV t w (pZ j.aH) (fV j) (dX t.aR (fV j)) (t.aS.set w.toNat x) =
    some {t with aR:=t.aR.set (fV j).toNat {dX t.aR (fV j) with eM:=w+1},aS:=t.aS.set w.toNat (if(pZ j.aH).length<=j.K+1 then {x with K:=0,Pc:=8} else {x with K:=j.K+1}),Log:=t.Log++if(pZ j.aH).length<=j.K+1 then [⟨2,w,j.aG,0,[],[]⟩] else []}:=λx hx hs=>by
   simp only[nV,nU,tL,iset,set2,aM,hx,hs];rw[dO,dO];by_cases hq:((pZ j.aH).length:Int)<=j.K+1
   ·rw[aO aj,OD,aO hq,aO hq]
   grind
  have go:iM t w (pZ j.aH) (fV j) false=some (if(dX t.aR (fV j)).eO=1000000 then {t with aS:=t.aS.set w.toNat (sL j 3)} else
    {t with aR:=t.aR.set (fV j).toNat {dX t.aR (fV j) with eM:=w+1},aS:=t.aS.set w.toNat (if(pZ j.aH).length<=j.K+1 then {IC j with K:=0,Pc:=8} else IC j),Log:=t.Log++if(pZ j.aH).length<=j.K+1 then [⟨2,w,j.aG,0,[],[]⟩] else []}):=by
   unfold iM;rw[gH,aFO h2 hbk,aM];by_cases hv:(dX t.aR (fV j)).eO=1000000
   ·simp_all[cK,sL]
   ·have e:((dX t.aR (fV j)).eO == 1000000)=false:=aj
    simp only[e,bV,bR,aP hv,hjob,aM];rw[contains_eq (by grind[maxLen]),aM];by_cases hm:fV j∈j.bE
    ·rw[dA hm,gH];have:=en j rfl rfl;rw[show t.aS.set w.toNat j=t.aS by
      rw[<-hjj];unfold aD;rw[G9,jC (show w.toNat<t.aS.length by omega)];simp] at this
     simp_all[IC]
    ·rw[iD hm,aO ak,OD];unfold DA;rw[en {j with bE:=j.bE++[fV j]} rfl rfl];unfold IC;rw[aP hm]
  have fin:∀B:Bool,iM t w (pZ j.aH) (fV j) B=some (if B=true then {t with aS:=t.aS.set w.toNat (sL j 7)} else if(dX t.aR (fV j)).eO=1000000 then {t with aS:=t.aS.set w.toNat (sL j 3)} else
    {t with aR:=t.aR.set (fV j).toNat {dX t.aR (fV j) with eM:=w+1},aS:=t.aS.set w.toNat (if(pZ j.aH).length<=j.K+1 then {IC j with K:=0,Pc:=8} else IC j),Log:=t.Log++if(pZ j.aH).length<=j.K+1 then [⟨2,w,j.aG,0,[],[]⟩] else []}):=λB=>by
   cases B
   ·simp only[bV,bR];exact go
   ·simp only[bT];exact ab
  have cf:fS j.Reads (λy0=>wJ y0 (fV j) (dX t.aR (fV j)))=some (j.Reads.any λs=>s.bW == fV j && s.eO != (dX t.aR (fV j)).eO):=
   aOS h3 h2 hb hw aj aa _ _ λx=>by unfold wJ pP;cases x.bW == fV j<;>rfl
  by_cases hl0:(dX t.aR (fV j)).eM=0
  ·have e:((dX t.aR (fV j)).eM != 0)=false:=aj
   simp only[e,bV,bR];rw[cf,aM,fin];by_cases hany:(j.Reads.any λs=>s.bW == fV j && s.eO != (dX t.aR (fV j)).eO)=true
   ·grind
   ·rw[aP hany,aP (show ¬((dX t.aR (fV j)).eM≠0\/(j.Reads.any λs=>s.bW == fV j && s.eO != (dX t.aR (fV j)).eO)=true) from λq=>q.elim (λa=>a hl0) hany)];by_cases hv:(dX t.aR (fV j)).eO=1000000
    ·rw[aO hv,aO hv];simp
    ·rw[aP hv,aP hv];by_cases hq:((pZ j.aH).length:Int)<=j.K+1
     ·simp only[aO hq];rfl
     ·simp only[aP hq];rfl
  grind
 ·rw[aP aj,aP hp];unfold nU tL;rw[hjob,aM,eV,OD,aM];rfl
end
def aYD(t:Table)(w:Int)(p:aA×List bW×aI):Table:={t with aA:=p.1,aR:=p.2.1,aS:=t.aS.set w.toNat p.2.2}
theorem aL5(hk:0<=j.K/\j.K<=100)(x:aU):oY j x=some (L7 j x):=by
 unfold oY L7;cases x.G6
 ·rfl
 ·simp only[bT];grind[cW]
theorem a82(hk:0<=j.K):lU j=some (J0 j):=by
 unfold lU J0;by_cases h:j.K<j.cB.length
 ·have hi:j.K.toNat<j.cB.length:=aa
  rw[aO aj,aO h,gW hk h,aM];simp only[lS,aM,sA,G9,jC hi,aF3];rfl
 grind
theorem aYE(hm:lX m)(hw:0<=w/\w<=2)(x:Int):∃c,LR m w x=some (aUZ m w x,c):=by
 obtain⟨hcnt,h3,h9,h1,h2,hsm,hcp,hlo,hsG,hsO⟩:=lX.facts hm;have hbl:m.Heap.Bytes.length<=maxLen:=by grind[maxLen]
 unfold LR aUZ;rw[BN hbl aa,dA hm,aM,gH,nC,dA hw,aM];unfold CC;rw[gH,GO hm.1.1.1 aa aa aa,aM];by_cases hl:mU m x
 ·obtain⟨m',e1,e2,_,_⟩:=aIU hm hw hl;simp_all[aDX]
 simp_all[PG]
theorem bDN{l:List O}{a b:Nat}(hab:a<=b)(hb:b<=l.length):((cS l a (l.drop b)).take (a+(l.length-b))).drop 0=l.take a++l.drop b:=by
 have h1:(l.take a).length=a:=aj
 have h2:(l.drop b).length=l.length-b:=ae
 unfold cS;rw[UG,aF2 (l:=l.drop b) aa,<-nL,show a+(l.length-b)=(l.take a++l.drop b).length by grind];grind
theorem aU1(h:0<l.length)(hl:l.length<=1000):pQ l 0 1=some (l.drop 1):=by
 unfold pQ;rw[SF,gH,SF,SF,b7 ai,bDN ai (show Int.toNat 1<=l.length from h),b7]
 ·rfl
 ·rw[eZ ae];simp only[D8,ZR,UH,Int.toNat_zero];omega
section
variable {t:Table} {w:Int} (h3:t.aS.length=3) (h2:t.aR.length=2) (hb:m5 t.aA) (hw:0<=w/\w<=2) (hj:JB (aD t w))
include h3 h2 hb hw hj
theorem a83:zE t w=some (aYD t w (lY t.aA t.aR (aD t w))):=by
 obtain⟨s1,s2,s3,s4,s5⟩:=YE h3 h2 hb hw hj;have hjob:=CU h3 hw;have hk:=hj.k;have hwr:=hj.wr;have hol:=hj.old.1;unfold zE AL lY aYD;rw[hjob,aM,aM];generalize hjj:aD t w=j at *;have set2:∀x y:aI,(t.aS.set w.toNat x).set w.toNat y=t.aS.set w.toNat y:=λx y=>aSZ ..;have iset:∀x:aI,idx (t.aS.set w.toNat x) w=some x:=λx=>aD0 ⟨hw.1,aa⟩;by_cases hp:(j.aH.length:Int)<=j.K
 ·grind
 ·have hi:j.K.toNat<j.aH.length:=aa
  have er:mV j=j.aH[j.K.toNat]:=by grind[mV]
  have hx:=hwr.2.1 j.aH[j.K.toNat] (dF hi);rw[<-er] at hx;have hbk:0<=jJ (mV j).Key/\jJ (mV j).Key<=1:=by unfold jJ;omega
  rw[aP aj,aP hp,aM,gW hk.1 aa,aM,<-er];unfold AK;rw[QI,aM,aFO h2 hbk,aM,hjob,aM];generalize mV j=x at *;generalize hbb:jJ x.Key=bi at *;have ex:(⟨x.Key,x.G6,x.dC⟩:aU)=x:=rfl;rw[ex];by_cases p9:j.Pc=9
  ·have e:(j.Pc == 9)=true:=aj
   simp only[e,bT,aO p9];by_cases hh:(dX t.aR bi).Head=0
   ·have e:((dX t.aR bi).Head == 0)=true:=aj
    simp only[e,bT,aO hh];grind[aL5]
   grind
  ·have e : (j.Pc == 9) = false:=aj
   simp only[e,bV,bR,aP p9];by_cases p10:j.Pc=10
   ·have e:(j.Pc == 10)=true:=aj
    simp only[e,bT,aO p10];obtain⟨c,e⟩:=aPV hb.1.1 j.H;rw[e,aM];simp only;by_cases hkey:(VV t.aA.Mem.Heap j.H).Key=x.Key
    ·grind
    ·have e:((VV t.aA.Mem.Heap j.H).Key == x.Key)=false:=aj
     simp only[e,bV,bR,aP hkey,aR2,aM];by_cases hs:L6 (VV t.aA.Mem.Heap j.H)=0
     ·have e:(L6 (VV t.aA.Mem.Heap j.H) == 0)=true:=aj
      simp only[e,bT,aO hs];grind[aL5]
     simp_all[AG]
   ·have e:(j.Pc == 10)=false:=aj
    simp only[e,bV,bR,aP p10];by_cases p11:j.Pc=11
    ·have e:(j.Pc == 11)=true:=aj
     simp only[e,bT,aO p11];have cut:∀u:Table,u.aS=t.aS->mR w x.Key x.G6 x.dC u=some {u with aS:=t.aS.set w.toNat (L7 (L8 j) x)}:=λu hu=>by
      have hju:idx u.aS w=some j:=aj
      have last:∀v:Table,∀y:aI,idx v.aS w=some y->(0<=y.K/\y.K<=100)->mQ w x.Key x.G6 x.dC v=some {v with aS:=v.aS.set w.toNat (L7 y x)}:=λv y hy hyk=>by simp_all[mQ,aL5]
      unfold mR rD AI L8;rw[hju,aM,g8,aM];by_cases hh:lN j.H
      ·rw[dA hh,aO rfl];by_cases h6:j.cB.length<6
       ·rw[dA aa,aO rfl,aM,OD,last _ {j with cB:=j.cB++[j.H]} aj aj,aO ⟨hh,h6⟩];grind
       grind
      grind
     by_cases hpv:j.gT=0
     ·simp_all[aR2]
     ·have e:(j.gT == 0)=false:=aj
      simp only[e,bV,bR,aP hpv,aR2,aM];obtain⟨c,e⟩:=a3S hb.1.1 j.gT (L6 j.Node);grind[AJ]
    ·have e:(j.Pc == 11)=false:=aj
     simp only[e,bV,bR,aP p11];have hpn:0<=fQ j.aH j.K:=by grind[fQ]
     have hbs:t.aR.set bi.toNat (dX t.aR bi)=t.aR:=by grind[dX,aOZ]
     unfold KF;rw[aDT s2,aM];by_cases hn:(j.gL.length:Int)<=fQ j.aH j.K
     ·rw[aO aj,aO hn];simp only[cK,aM,hbs];rfl
     ·have hi2:(fQ j.aH j.K).toNat<j.gL.length:=aa
      have en:GW j=j.gL[(fQ j.aH j.K).toNat]:=by grind[GW]
      rw[aP aj,aP hn,gW hpn aa,<-en];by_cases p12:j.Pc=12
      ·have e:(j.Pc == 12)=true:=aj
       simp only[e,bT,aO p12,aM];obtain⟨c,e⟩:=aYC hb.1.1 (GW j) ⟨x.Key,x.dC,(dX t.aR bi).Head⟩;grind[DB]
      ·have e:(j.Pc == 12)=false:=aj
       simp only[e,bV,bR,aP p12,aM];grind[cW]
def a1B(t:Table)(w:Int)(p:List bW×aI):Table:={t with aR:=p.1,aS:=t.aS.set w.toNat p.2}
theorem a3W(hk1:∀x∈t.aR,BkV x):wK t w=some (a1B t w (AQ t.aR (aD t w))):=by
 have hjob:=CU h3 hw;have hd:=hj.held;unfold wK AQ a1B;rw[hjob,aM];generalize hjj:aD t w=j at *;have hheld:j.bE.length<=2:=by
  match h:j.bE,hd with
  |[],_=>simp
  |[_],_=>simp
  |[_,_],_=>simp
  |x::y::z::r,⟨hm,hn⟩=>
   (simp_all;omega)
 by_cases hp:0<j.bE.length
 ·have er:wS j=j.bE[0]:=by grind[wS]
  have hbk:=hd.1 j.bE[0] (dF hp);rw[<-er] at hbk;have hbv:BkV (dX t.aR (wS j)):=by grind[dX]
  have hver:=hbv.2.1;rw[aO aj,aO hp,show(0:Int)=((0:Nat):Int) from rfl,aZ hp,aM,<-er,aFO h2 hbk,aM];have un:∀k,lV t w k=some {t with aR:=k,aS:=t.aS.set w.toNat {j with bE:=j.bE.drop 1}}:=λk=>by grind[lV,aU1]
  by_cases p14:j.Pc=14
  ·have e:(j.Pc == 14)=true:=aj
   simp only[e,bT,aO p14];grind[cW]
  ·have e:(j.Pc == 14)=false:=by simpa using p14
   simp only[e,bV,bR,aP p14];rw[un]
 ·rw[aP (by simpa using hp),aP hp];by_cases p16:j.Pc=16
  ·have e:(j.Pc == 16)=true:=by simpa using p16
   simp only[e,bT,aO p16]
  ·have e:(j.Pc == 16)=false:=by simpa using p16
   simp only[e,bV,bR,aP p16];rw[a82 (j:={j with Pc:=15,K:=0}) (J2 _)];rfl
theorem aYF:wL t w=some (YF t w (DJ t.aA w (aD t w))):=by
 have hjob:=CU h3 hw;have hk:=hj.k;unfold wL xS DJ YF;rw[hjob,aM,aM];generalize hjj:aD t w=j at *;by_cases hp:(j.cB.length:Int)<=j.K
 ·grind
 ·rw[aP aj,aP hp,aM,aFL hb hw,aM];generalize iJ t.aA w j.Sub=r;cases hd:r.2.gX
  ·simp
  ·simp only[hd,bT];grind[cW,a82]
theorem drop_eq:CD t w=some (YF t w (DK t.aA w (aD t w))):=by
 have hjob:=CU h3 hw;have hn:=hj.new;unfold CD DK YF;rw[hjob,aM];generalize hjj:aD t w=j at *;by_cases hp:j.gL.length=0
 ·grind
 ·have hp0:0<j.gL.length:=aa
  have er:j.gL.getD 0 0=j.gL[0]:=aj
  have hh:=hn.2 j.gL[0] (dF hp0);rw[<-er] at hh;rw[aP aj,aP hp,show(0:Int)=((0:Nat):Int) from rfl,aZ hp0,aM,<-er,show((0:Nat):Int)=0 from rfl,aU1 hp0 aa,aM,(lN.mod hh).1,VG hb.1.2.2.1,aM];by_cases hl:bE t.aA.aQ (j.gL.getD 0 0 % 32)
  ·grind
  ·rw[iD hl,aO ak,aP hl];obtain⟨c,e⟩:=aYE hb.1.1 hw (j.gL.getD 0 0);rw[e];rfl
theorem aYG(hl:t.Log.length<=1000000):tP t w=some {t with aS:=t.aS.set w.toNat cX,Log:=t.Log++[tlE w (aD t w)]}:=by
 have hjob:=CU h3 hw;unfold tP tlE;rw[hjob,aM];generalize hjj:aD t w=j at *;by_cases hc:j.Code=0
 ·have e:(j.Code == 0)=true:=aj
  simp only[e,bT,aO hc];rw[OD];rfl
 ·have e:(j.Code == 0)=false:=aj
  simp only[e,bV,bR,aP hc];rw[OD];rfl
end
theorem a3X{b:aA}(hb:m5 b)(hw:0<=w/\w<=2):∃c,CE b w=some (c,{b with aC:=(KR b.aC w).1}):=by obtain⟨r,e1,e2,_,_⟩:=aUX hb.1.2.1 hw;rw[aPQ hb.1.2.1 hw] at e1;simp_all[CE]
section
variable {t:Table} {w:Int} (h3:t.aS.length=3) (h2:t.aR.length=2) (hb:m5 t.aA) (hw:0<=w/\w<=2)
include h3 h2 hb hw
theorem bDO(hq3:t.fI.length=3)(hqv:∀q∈t.fI,q.List.length<=12/\∀b∈q.List,OF b)(hs:0<=t.aG/\t.aG<=1000000)(hl:t.Log.length<=1000000) :
  y5 t w=some (if(m6 t w).length=0\/t.aG=1000000 then t else qQ t w ((m6 t w).getD 0 ⟨false,[]⟩)):=by
 have hqi:w.toNat<t.fI.length:=aa
 have hq:idx t.fI w=some ⟨m6 t w⟩:=by simp_all[gW,m6]
 have hqm:(⟨m6 t w⟩:aJ)∈t.fI:=by unfold m6;rw[G9,jC hqi];exact dF _
 have hqq:=hqv _ hqm;simp only at hqq;unfold y5;rw[hq,aM];simp only;by_cases h0:(m6 t w).length=0
 ·simp_all[mN]
 ·have e:(((m6 t w).length:Int) == 0)=false:=aj
  rw[aP (by rw[e];simp)];unfold mN;by_cases hm:t.aG=1000000
  ·grind
  ·have e:(t.aG == 1000000)=false:=aj
   have hp0:0<(m6 t w).length:=aa
   have er:(m6 t w).getD 0 ⟨false,[]⟩=(m6 t w)[0]:=aj
   have hbv:=hqq.2 (m6 t w)[0] (dF hp0);rw[<-er] at hbv;rw[aP (by rw[e];simp),hq,aM];simp only;have i0:idx (m6 t w) 0=some ((m6 t w)[0]):=aZ hp0;rw[i0,aM,<-er,aP (λq=>q.elim h0 hm)];unfold K3;rw[SF,aM];generalize hbb:(m6 t w).getD 0 ⟨false,[]⟩=b at *;simp only[lS,aM];unfold AA;have fin:∀x:aI,x.aG=t.aG+1->x.Batch.Collect=b.Collect->mM t w ⟨m6 t w⟩ b x=some ⟨t.aA,t.aR,t.aS.set w.toNat {x with Batch:=⟨x.Batch.Collect,b.bN⟩,Reads:=[],aH:=[],hU:=[],gL:=[],bE:=[],cB:=[]},t.fI.set w.toNat ⟨(m6 t w).drop 1⟩,t.Log++[⟨1,w,t.aG+1,0,b.bN,[]⟩],t.aG+1⟩:=λx hx _=>by unfold mM lB z8;rw[CU h3 hw,aM,b7 (by have:=hbv.2.1;simp;omega),aM,OD,hx,dO];rfl
   have e1:aY (t.aG+1)=t.aG+1:=dO;unfold qQ iU;cases hc:b.Collect
   ·rw[gH,fin _ aa aj];simp only[e1,hc,bV,bR];have eb:(⟨false,b.bN⟩:Batch)=b:=by cases b;grind
    rw[eb];rfl
   ·rw[aO rfl];simp only[lS,aM];rw[fin _ aa aj];simp only[e1,hc,bT];have eb:(⟨true,b.bN⟩:Batch)=b:=by cases b;grind
    rw[eb];rfl
end
theorem T9(t:Table)(w:Int)(p:aA×aI):yQ t w ⟨p.1,t.aR,p.2,[]⟩=YF t w p:=by grind[yQ,YF]
theorem aU2(hv:TV t)(hl:t.Log.length<=1000000)(hw:0<=w/\w<=2):uY t w=some (aW t w):=by
 have h3:=hv.wV.1;have h2:=hv.bk.1;have hb:=hv.base;have hjob:=CU h3 hw;have hjv:=hv.wV.2 _ (zS h3 hw);unfold uY aW;rw[hjob,aM];cases hbusy:(aD t w).bQ
 ·simp only[SG,bT,bV,bR];rw[bDO h3 h2 hb hw hv.todo.1 hv.todo.2 hv.ser hl];rfl
 ·have hj : JB (aD t w):=hjv.resolve_left λe=>by rw[e] at hbusy; cases hbusy
  simp only[kY,bV,bR,bT];unfold eX;by_cases p0:(aD t w).Pc=0\/(aD t w).Pc=20\/(aD t w).Pc=21
  ·rw[aO p0,T9];have go:jR t w (aD t w) true=some (YF t w (nZ t.aA w (aD t w))):=by simp_all[jR,a80]
   grind
  ·rw[aP p0];have e0:((aD t w).Pc == 0)=false:=ah
   have e20:((aD t w).Pc == 20)=false:=ah
   have e21:((aD t w).Pc == 21)=false:=ah
   simp only[e0,e20,e21,bV,bR];unfold jR;simp only[bV,bR,dP,aM];by_cases p1:(aD t w).Pc=1
   ·have e:((aD t w).Pc == 1)=true:=aj
    simp_all[YE,a8Z,yQ]
   ·have e : ((aD t w).Pc == 1) = false:=aj
    simp only[e,bV,bR,aP p1];by_cases p2:2<=(aD t w).Pc/\(aD t w).Pc<=5
    ·simp_all[bDL,yQ,aU0]
    ·simp only[iD p2,bV,bR,aP p2];by_cases p6:(aD t w).Pc=6
     ·simp_all[a3V,T9]
     ·have e : ((aD t w).Pc == 6) = false:=aj
      simp only[e,bV,bR,aP p6];by_cases p7:(aD t w).Pc=7
      ·have e:((aD t w).Pc == 7)=true:=aj
       simp only[e,bT,aO p7];rw[bDM h3 h2 hb hw hj hl];rfl
      ·have e : ((aD t w).Pc == 7) = false:=aj
       simp only[e,bV,bR,aP p7];by_cases p8:(aD t w).Pc=8
       ·simp_all[a81,yQ,aU0]
       ·have e : ((aD t w).Pc == 8) = false:=aj
        simp only[e,bV,bR,aP p8];by_cases p9:9<=(aD t w).Pc/\(aD t w).Pc<=13
        ·simp_all[a83,yQ,aYD]
        ·simp only[iD p9,bV,bR,aP p9];by_cases p14:(aD t w).Pc=14\/(aD t w).Pc=16
         ·rw[aO p14];have go:lD t w (aD t w) true=some (a1B t w (AQ t.aR (aD t w))):=by unfold lD;rw[aO rfl,a3W h3 h2 hb hw hj hv.bk.2];rfl
          grind[a1B,yQ]
         ·have e14:((aD t w).Pc == 14)=false:=ah
          have e16:((aD t w).Pc == 16)=false:=ah
          simp only[e14,e16,bV,bR,aP p14];unfold lD;simp only[bV,bR];by_cases p15:(aD t w).Pc=15
          ·simp_all[aYF,T9]
          ·have e:((aD t w).Pc == 15)=false:=aj
           simp only[e,bV,bR,aP p15];by_cases p17:(aD t w).Pc=17
           ·simp_all[drop_eq,T9]
           ·have e:((aD t w).Pc == 17)=false:=aj
            simp only[e,bV,bR,aP p17];by_cases p18:(aD t w).Pc=18
            ·have e:((aD t w).Pc == 18)=true:=aj
             simp only[e,bT,aO p18];grind[a3X,yQ]
            ·have e:((aD t w).Pc == 18)=false:=aj
             simp only[e,bV,bR,aP p18];by_cases p19:(aD t w).Pc=19
             ·have e:((aD t w).Pc == 19)=true:=aj
              simp only[e,bT,aO p19];rw[aYG h3 h2 hb hw hj hl];rfl
             simp_all[yQ,cK,sL]
def aR3(o:List aU)(x:aU):List aU:=o.takeWhile (λy=>!decide (x.Key<y.Key))++[x]++o.dropWhile (λy=>!decide (x.Key<y.Key))
theorem aP0(y:aU)(r:List aU)(x:aU):aR3 (y::r) x=if x.Key<y.Key then x::y::r else y::aR3 r x:=by grind[aR3,List.takeWhile_cons,List.dropWhile_cons]
theorem aL6(o:List aU)(x z:aU):z∈aR3 o x↔z=x\/z∈o:=by
 induction o with
 |nil=>simp[aR3]
 |cons y r ih=>
  grind[aP0]
theorem aU3{o:List aU}{x:aU}(hs:o.Pairwise (λa b=>a.Key<b.Key))(hx:∀y∈o,y.Key≠x.Key):(aR3 o x).Pairwise (λa b=>a.Key<b.Key):=by
 induction o with
 |nil=>simp[aR3]
 |cons y r ih=>
  grind[aP0,aJL,aL6]
theorem a84{l:List aU}(h:WrV l){x:aU}(hx:(0<=x.Key/\x.Key<=99)/\(0<=x.dC/\x.dC<=65535))(hl:(vI l x).length<=6):WrV (vI l x):=by
 refine⟨hl,λy hy=>?_,?_⟩
 ·rcases(aL6 _ _ _).1 (show y∈aR3 _ x from hy) with rfl|hy
  ·exact hx
  ·exact h.2.1 y (ZT.1 hy).1
 ·exact aU3 (h.2.2.sublist List.filter_sublist) λy hy=>aj
theorem a85{a b:Int}(ha:0<=a/\a<=4294967295)(hb:0<=b/\b<=65535):0<=vK a b/\vK a b<=65535:=by grind[vK,cW]
section
variable {j:aI} (hj:JB j)
include hj
theorem JB.ab(c:Int):JB (sL j c):=⟨hj.busy,hj.VZ,hj.h,hj.prev,hj.bkt,hj.at_,hj.k,hj.new,hj.old,hj.reads,hj.wr,hj.held,hj.res,hj.node⟩
theorem JB.pc(p:Int):JB {j with Pc:=p}:=⟨hj.busy,hj.VZ,hj.h,hj.prev,hj.bkt,hj.at_,hj.k,hj.new,hj.old,hj.reads,hj.wr,hj.held,hj.res,hj.node⟩
theorem JB.sub(s:Sub):JB {j with Sub:=s}:=⟨hj.busy,hj.VZ,hj.h,hj.prev,hj.bkt,hj.at_,hj.k,hj.new,hj.old,hj.reads,hj.wr,hj.held,hj.res,hj.node⟩
theorem JB.kk{k:Int}(h:0<=k/\k<=6):JB {j with K:=k}:=⟨hj.busy,hj.VZ,hj.h,hj.prev,hj.bkt,hj.at_,h,hj.new,hj.old,hj.reads,hj.wr,hj.held,hj.res,hj.node⟩
theorem JB.nd{n:gR}(h:0<=n.dC/\n.dC<=4294967295):JB {j with Node:=n}:=⟨hj.busy,hj.VZ,hj.h,hj.prev,hj.bkt,hj.at_,hj.k,hj.new,hj.old,hj.reads,hj.wr,hj.held,hj.res,h⟩
theorem JB.hh(h:oQ x):JB {j with H:=x}:=⟨hj.busy,hj.VZ,h,hj.prev,hj.bkt,hj.at_,hj.k,hj.new,hj.old,hj.reads,hj.wr,hj.held,hj.res,hj.node⟩
theorem JB.pv(h:oQ x):JB {j with gT:=x}:=⟨hj.busy,hj.VZ,hj.h,h,hj.bkt,hj.at_,hj.k,hj.new,hj.old,hj.reads,hj.wr,hj.held,hj.res,hj.node⟩
theorem JB.rd2:j.Reads.length<=2:=by
 have hn:=hj.reads.2;have hm:∀x∈j.Reads.map Seen.bW,x=0\/x=1:=λx hx=>by obtain⟨s,hs,rfl⟩:=AU.1 hx;have:=hj.reads.1 s hs;omega
 have hl:(j.Reads.map Seen.bW).length<=2:=by
  match h:j.Reads.map Seen.bW,hn,hm with
  |[],_,_=>simp
  |[_],_,_=>simp
  |[_,_],_,_=>simp
  |x::y::z::r,hn,hm=>
   (simp_all;omega)
 grind
theorem JB.cmd(h:uB j):QN (cG j):=by
 have ha:=hj.at_;have hi:j.At.toNat<j.Batch.bN.length:=by grind[uB]
 unfold cG;rw[G9,jC hi];exact hj.VZ.2.2.1 _ (dF hi)
theorem JB.T7(h:uB j)(is:Bool)(v:Int):JB (Gv.T7 j is v):=by have h':j.At<j.Batch.bN.length:=h;have ha:=hj.at_;have hr:=hj.res;exact⟨hj.busy,hj.VZ,hj.h,hj.prev,hj.bkt,⟨by show 0<=j.At+1;omega,by show j.At+1<=(j.Batch.bN.length:Int);omega⟩,hj.k,hj.new,hj.old,hj.reads,hj.wr,hj.held,by show(((j.hU++[_]).length:Nat):Int)=j.At+1;simp;omega,hj.node⟩
theorem JB.rcw{x:aU}(hx:(0<=x.Key/\x.Key<=99)/\(0<=x.dC/\x.dC<=65535)):JB (oD j x).2:=by
 unfold oD;split
 ·exact hj.ab 1
 ·exact⟨hj.busy,hj.VZ,hj.h,hj.prev,hj.bkt,hj.at_,hj.k,hj.new,hj.old,hj.reads,a84 hj.wr hx aa,hj.held,hj.res,hj.node⟩
theorem aL7(x:aU):(oD j x).2.Batch=j.Batch:=by grind[oD,sL]
theorem JB.ans(h:uB j){c:eJ}(hc:QN c){v:Int}(hv:0<=v/\v<=4294967295)(is:Bool):JB (qU j c v is):=by
 unfold qU;split
 ·have hv':0<=(if is then v else 0)/\(if is then v else 0)<=4294967295:=aa
  generalize (if is then v else 0)=u at hv';unfold VW;have hr:=hj.rcw (x:=⟨c.Key,false,vK u c.dC⟩) ⟨hc.2.1,a85 hv' hc.2.2.1⟩;split
  ·refine hr.T7 ?_ _ _;grind[uB,aL7,aFN]
  ·exact hr
 ·exact hj.T7 h _ _
theorem JB.jnx:JB (qP j):=by
 unfold qP;split
 ·rename_i h;have hc:=hj.cmd h;have h':j.At<j.Batch.bN.length:=h;have ha:=hj.at_;have hr:=hj.res;split
  ·have hr':=hj.rcw (x:=⟨(cG j).Key,(cG j).Kind == 3,(cG j).dC⟩) ⟨hc.2.1,hc.2.2.1⟩;split
   ·refine⟨hr'.busy,hr'.VZ,hr'.h,hr'.prev,hr'.bkt,⟨aj,?_⟩,hr'.k,hr'.new,hr'.old,hr'.reads,hr'.wr,hr'.held,aj,hr'.node⟩;grind[aL7]
   ·exact hr'
  ·split
   ·refine hj.ans h hc ?_ _;unfold OE;split
    ·rename_i x hf;have:=hj.wr.2.1 x (List.mem_of_find?_eq_some hf);grind
    simp
   ·exact⟨hj.busy,hj.VZ,hj.h,hj.prev,by show 0<=jJ _/\jJ _<=1;unfold jJ;rw[aO hc.2.1];omega,hj.at_,hj.k,hj.new,hj.old,hj.reads,hj.wr,hj.held,hj.res,hj.node⟩
 ·exact((hj.pc 6).kk (k:=0) aa).sub _
theorem JB.spt(b v:Int)(hb:0<=b/\b<=1):JB {j with Reads:=(sI j.Reads b v).1}:=by
 refine⟨hj.busy,hj.VZ,hj.h,hj.prev,hj.bkt,hj.at_,hj.k,hj.new,hj.old,?_,hj.wr,hj.held,hj.res,hj.node⟩;show(∀s∈(sI j.Reads b v).1,0<=s.bW/\s.bW<=1)/\((sI j.Reads b v).1.map Seen.bW).Nodup;unfold sI;split
 ·exact hj.reads
 ·rename_i hf;refine⟨λs hs=>?_,?_⟩
  ·rcases cY.1 hs with hs|hs
   ·exact hj.reads.1 s hs
   grind
  ·rw[m7,aF1];refine⟨hj.reads.2,ae,λa ha c hc=>?_⟩;grind
theorem JB.pl(h:j.K<j.aH.length)(x:aU):JB (L7 j x):=by
 have hk:=hj.k;have hw:=hj.wr.1;unfold L7;split
 ·exact(hj.pc 9).kk (k:=j.K+1) aa
 ·exact hj.pc 12
theorem JB.bNU:JB (L8 j):=by
 unfold L8;split
 ·rename_i h;refine⟨hj.busy,hj.VZ,hj.h,hj.prev,hj.bkt,hj.at_,hj.k,hj.new,⟨aj,λx hx=>?_⟩,hj.reads,hj.wr,hj.held,hj.res,hj.node⟩;rcases cY.1 hx with hx|hx
  ·exact hj.old.2 x hx
  grind
 ·exact hj
theorem JB.rtn:JB (J0 j):=by
 unfold J0;split
 ·exact hj.sub _
 ·exact hj
end
theorem bDP(h:sQ l){a:Nat}(ha:a+4<=l.length):0<=ld l a 4/\ld l a 4<=4294967295:=by
 rw[ld4 ha];have b:∀k,k<l.length->0<=bt l k/\bt l k<=255:=λk hk=>by rw[<-aLT hk];exact h _ (dF hk)
 grind
theorem aU4(hm:lX m)(x:Int):0<=(VV m.Heap x).dC/\(VV m.Heap x).dC<=4294967295:=by
 unfold VV;split
 ·rename_i h;have hr:=(DH h.2.1 h.2.2).1;have h1:=hm.1.1.1.1;exact bDP hm.1.1.1.2.2.1 aa
 ·show(0:Int)<=0/\(0:Int)<=4294967295;omega
theorem SA(l:List aU)(n:Int):fQ l n<=l.length:=by grind[fQ]
theorem aR4{k:List bW}(h2:k.length=2)(hi:0<=i/\i<=1):dX k i∈k:=by grind[dX]
theorem aIX{k:List bW}(h:k.length=2/\∀x∈k,BkV x)(i:Nat){y:bW}(hy:BkV y):(k.set i y).length=2/\∀x∈k.set i y,BkV x:=⟨aj,λx hx=>(rG hx).elim (h.2 x) λe=>e ▸ hy⟩
theorem bIG{b:aA}(hb:m5 b)(hw:0<=w/\w<=2)(hx:lN x)(hn:¬bE b.aQ (x % 32)):m5 {b with Mem:=aUZ b.Mem w x}:=by
 unfold aUZ;by_cases hl:mU b.Mem x
 ·obtain⟨m',e1,e2,_,h⟩:=aIU hb.1.1 hw hl;rw[aDX hb.1.1 hw hl] at e1;injection e1 with e1
  rw[aO hl,e1];refine⟨⟨h.1,hb.1.2⟩,λr hr=>⟨h.live (hb.2 r hr).1 ?_,(hb.2 r hr).2⟩⟩;intro e;exact hn ⟨r,hr,(hb.2 r hr).1.1,e⟩
 simp_all
structure TRV (r:TR):Prop where
 b:m5 r.b
 k:r.k.length=2/\∀x∈r.k,BkV x
 j:r.j=cX\/JB r.j
theorem aIB{c:Prop}[Decidable c]{a b:TR}(h1:c->TRV a)(h2:¬c->TRV b):TRV (if c then a else b):=aj
theorem bIH{b:aA}{k:List bW}(hb:m5 b)(hk:k.length=2/\∀x∈k,BkV x)(hw:0<=w/\w<=2)(hj:JB j):TRV (eX b k w j):=by
 have hkk:=hj.k;have hwr:=hj.wr;have hrd:=hj.rd2;have hbs:=bDI hb hw j.Sub;have bkv:∀{i},0<=i/\i<=1->BkV (dX k i):=λhi=>hk.2 _ (aR4 hk.1 hi);unfold eX;refine aIB (λ_=>?_) λ_=>?_
 ·refine⟨hbs,hk,.inr ?_⟩;unfold nZ;split
  ·exact hj.sub _
  ·split
   ·exact(hj.pc 1).sub _
   ·split
    ·exact(hj.pc 21).sub _
    ·exact(hj.pc 19).sub _
 refine aIB (λ_=>?_) λ_=>?_
 ·exact⟨hb,hk,.inr hj.jnx⟩
 refine aIB (λ_=>?_) λ_=>?_
 ·refine⟨hb,hk,.inr ?_⟩;unfold iQ;have hbk:=bkv hj.bkt;split
  ·split
   ·exact hj.ab _
   ·have h1:JB {j with eO:=(dX k j.bW).eO}:=⟨hj.busy,hj.VZ,hj.h,hj.prev,hj.bkt,hj.at_,hj.k,hj.new,hj.old,hj.reads,hj.wr,hj.held,hj.res,hj.node⟩;have h2:JB {j with eO:=(dX k j.bW).eO,Found:=false}:=⟨hj.busy,hj.VZ,hj.h,hj.prev,hj.bkt,hj.at_,hj.k,hj.new,hj.old,hj.reads,hj.wr,hj.held,hj.res,hj.node⟩;exact((h2.hh hbk.1).nd (n:=aPU) (by show(0:Int)<=0/\(0:Int)<=4294967295;omega)).pc _
  ·split
   ·exact(hj.nd (aU4 hb.1.1 _)).pc _
   ·split
    ·split
     ·exact hj.ab _
     ·split
      ·have h1:JB {j with Found:=j.Node.Key == (cG j).Key}:=⟨hj.busy,hj.VZ,hj.h,hj.prev,hj.bkt,hj.at_,hj.k,hj.new,hj.old,hj.reads,hj.wr,hj.held,hj.res,hj.node⟩;exact(h1.hh (aFK _)).pc _
      ·exact hj.ab _
    ·split
     ·exact hj.ab _
     ·have hs:=hj.spt j.bW j.eO hj.bkt;split
      ·exact hs.ab _
      ·split
       ·rename_i h;exact hs.ans h (hj.cmd h) hj.node _
       ·exact hs.ab _
 refine aIB (λ_=>?_) λ_=>?_
 ·unfold vL;split
  ·exact⟨hb,hk,.inr ((hj.pc 7).kk (k:=0) aa)⟩
  ·rename_i hp;have:=SA j.aH j.aH.length;have:=hwr.1;refine⟨hbs,hk,.inr ?_⟩;simp only;split
   ·exact hj.sub _
   ·split
    ·exact(hj.sub _).ab _
    ·rename_i hq;have q1:lN (iJ b w j.Sub).2.Out:=Classical.byContradiction λq=>hq (.inr (.inl q));have q2:j.gL.length<6:=aa
     refine⟨hj.busy,hj.VZ,hj.h,hj.prev,hj.bkt,hj.at_,⟨aj,aj⟩,⟨aj,λx hx=>?_⟩,hj.old,hj.reads,hj.wr,hj.held,hj.res,hj.node⟩;rcases cY.1 hx with hx|hx
     ·exact hj.new.2 x hx
     grind
 refine aIB (λ_=>?_) λ_=>?_
 ·have ht:=aRV j.aH;unfold oS;split
  ·rename_i hp;have hi:j.K.toNat<(pZ j.aH).length:=aa
   have er:fV j=(pZ j.aH)[j.K.toNat]:=by grind[fV]
   have hbk:0<=fV j/\fV j<=1:=by grind[R6,dF]
   have hbv:=bkv hbk;have hset:=aIX hk (fV j).toNat (y:={dX k (fV j) with eM:=w+1}) ⟨hbv.1,hbv.2.1,aj⟩;have hlh:JB (IC j):=by
    refine⟨hj.busy,hj.VZ,hj.h,hj.prev,hj.bkt,hj.at_,⟨by show 0<=j.K+1;omega,by show j.K+1<=6;omega⟩,hj.new,hj.old,hj.reads,hj.wr,?_,hj.res,hj.node⟩;show(∀x∈(if fV j∈j.bE then j.bE else j.bE++[fV j]),0<=x/\x<=1)/\(if fV j∈j.bE then j.bE else j.bE++[fV j]).Nodup;split
    ·exact hj.held
    ·rename_i hm;refine⟨λx hx=>?_,?_⟩
     ·rcases cY.1 hx with hx|hx
      ·exact hj.held.1 x hx
      grind
     ·rw[aF1];exact⟨hj.held.2,ae,λa ha c hc e=>aj⟩
   split
   ·exact⟨hb,hk,.inr (hj.ab _)⟩
   ·split
    ·exact⟨hb,hk,.inr (hj.ab _)⟩
    ·split
     ·exact⟨hb,hset,.inr ((hlh.pc 8).kk (k:=0) aa)⟩
     ·exact⟨hb,hset,.inr hlh⟩
  ·exact⟨hb,hk,.inr ((hj.pc 8).kk (k:=0) aa)⟩
 refine aIB (λ_=>?_) λ_=>?_
 ·refine⟨hb,hk,.inr ?_⟩;unfold JZ;split
  ·exact(hj.pc 9).kk (k:=0) aa
  ·split
   ·exact hj.ab _
   ·exact hj.kk (k:=j.K+1) aa
 refine aIB (λ_=>?_) λ_=>?_
 ·have hwl:=hwr.1;unfold lY;split
  ·exact⟨hb,hk,.inr (hj.pc 14)⟩
  ·rename_i hp;have hi:j.K.toNat<j.aH.length:=aa
   have er:mV j=j.aH[j.K.toNat]:=by grind[mV]
   have hx:=hwr.2.1 j.aH[j.K.toNat] (dF hi);rw[<-er] at hx;have hbk:0<=jJ (mV j).Key/\jJ (mV j).Key<=1:=by unfold jJ;omega
   have hbv:=bkv hbk;have l0:oQ 0:=.inl rfl;split
   ·have h1:=((hj.pc 10).hh hbv.1).pv l0;refine⟨hb,hk,.inr ?_⟩;simp only;split
    ·exact h1.pl aj _
    ·exact h1
   ·split
    ·have h1:=hj.nd (aU4 hb.1.1 j.H);refine⟨hb,hk,.inr ?_⟩;simp only;split
     ·exact h1.pc 11
     ·split
      ·exact h1.pl aj _
      ·exact(h1.hh (aFK _)).pv hj.h
    ·split
     ·have h1:=hj.bNU;have hkl:(L8 j).K<(L8 j).aH.length:=by grind[L8]
      split
      ·exact⟨hb,aIX hk _ ⟨aFK _,hbv.2⟩,.inr (h1.pl hkl _)⟩
      ·exact⟨hb.mem (a8W hb.1.1 _ _),hk,.inr (h1.pl hkl _)⟩
     ·split
      ·exact⟨hb,hk,.inr (hj.ab _)⟩
      ·rename_i hn;have hpn:0<=fQ j.aH j.K:=by grind[fQ]
       have hi2:(fQ j.aH j.K).toNat<j.gL.length:=aa
       have en:GW j=j.gL[(fQ j.aH j.K).toNat]:=by grind[GW]
       have hnew:lN (GW j):=by rw[en];exact hj.new.2 _ (dF hi2)
       split
       ·exact⟨hb.mem (a8V hb.1.1 _ _),hk,.inr (hj.pc 13)⟩
       ·exact⟨hb,aIX hk _ ⟨.inr hnew,hbv.2⟩,.inr ((hj.pc 9).kk (k:=j.K+1) aa)⟩
 refine aIB (λ_=>?_) λ_=>?_
 ·unfold AQ;split
  ·rename_i hp;have er:wS j=j.bE[0]:=by grind[wS]
   have hbk:=hj.held.1 j.bE[0] (dF hp);rw[<-er] at hbk;have hbv:=bkv hbk;have hver:=hbv.2.1;refine⟨hb,aIX hk _ ?_,.inr ⟨hj.busy,hj.VZ,hj.h,hj.prev,hj.bkt,hj.at_,hj.k,hj.new,hj.old,hj.reads,hj.wr,⟨λx hx=>hj.held.1 x (OH hx),hj.held.2.sublist (List.drop_sublist _ _)⟩,hj.res,hj.node⟩⟩;split
   ·refine⟨hbv.1,?_,ae⟩;grind
   ·exact⟨hbv.1,hbv.2.1,ae⟩
  ·split
   ·exact⟨hb,hk,.inr (hj.pc 17)⟩
   ·exact⟨hb,hk,.inr (((hj.pc 15).kk (k:=0) aa).rtn)⟩
 refine aIB (λ_=>?_) λ_=>?_
 ·have hol:=hj.old.1;unfold DJ;split
  ·exact⟨hb,hk,.inr (hj.pc 18)⟩
  ·refine⟨hbs,hk,.inr ?_⟩;simp only;split
   ·exact((hj.kk (k:=j.K+1) aa).sub _).rtn
   ·exact hj.sub _
 refine aIB (λ_=>?_) λ_=>?_
 ·unfold DK;split
  ·exact⟨hb,hk,.inr (hj.pc 18)⟩
  ·rename_i hp;have hp0:0<j.gL.length:=aa
   have er:j.gL.getD 0 0=j.gL[0]:=aj
   have hh:=hj.new.2 j.gL[0] (dF hp0);rw[<-er] at hh;refine⟨?_,hk,.inr ⟨hj.busy,hj.VZ,hj.h,hj.prev,hj.bkt,hj.at_,hj.k,⟨by show(j.gL.drop 1).length<=6;have:=hj.new.1;simp;omega,λx hx=>hj.new.2 x (OH hx)⟩,hj.old,hj.reads,hj.wr,hj.held,hj.res,hj.node⟩⟩;grind[bIG]
 refine aIB (λ_=>?_) λ_=>?_
 ·obtain⟨r,e1,e2,h1,h2⟩:=aUX hb.1.2.1 hw;rw[aPQ hb.1.2.1 hw] at e1;injection e1 with e1
  refine⟨hb.clock aj aj,hk,.inr (hj.pc 19)⟩
 refine aIB (λ_=>?_) λ_=>?_
 ·exact⟨hb,hk,.inl rfl⟩
 ·exact⟨hb,hk,.inr (hj.ab 1)⟩
theorem a86{b:Batch}(hb:OF b)(s:Int):JB (iU b s):=⟨rfl,hb,.inl rfl,.inl rfl,by simp[iU],by simp[iU],by simp[iU],by simp[iU],by simp[iU],by simp[iU],⟨by simp[iU],by simp[iU],by simp[iU]⟩,by simp[iU],by simp[iU],by show(0:Int)<=0/\(0:Int)<=4294967295;omega⟩
theorem TV.step(hv:TV t)(hw:0<=w/\w<=2):TV (aW t w):=by
 have hjv:=hv.wV.2 _ (zS hv.wV.1 hw);have setj:∀{x:aI},(x=cX\/JB x)->(t.aS.set w.toNat x).length=3/\∀j∈t.aS.set w.toNat x,j=cX\/JB j:=λhx=>
  ⟨by simpa using hv.wV.1,λj hj=>(rG hj).elim (hv.wV.2 j) λe=>e ▸ hx⟩
 unfold aW;split
 ·rename_i hbusy;have hj:JB (aD t w):=hjv.resolve_left λe=>by rw[e] at hbusy;cases hbusy
  have h:=bIH hv.base hv.bk hw hj;exact⟨h.b,h.k,setj h.j,hv.todo,hv.ser⟩
 ·split
  ·exact hv
  ·rename_i hq;have hqi:w.toNat<t.fI.length:=by have:=hv.todo.1;omega
   have hqm:(⟨m6 t w⟩:aJ)∈t.fI:=by unfold m6;rw[G9,jC hqi];exact dF _
   have hqq:(m6 t w).length<=12/\∀b∈m6 t w,OF b:=hv.todo.2 _ hqm;have hp0:0<(m6 t w).length:=aa
   have er:(m6 t w).getD 0 ⟨false,[]⟩=(m6 t w)[0]:=aj
   have hbv:=hqq.2 (m6 t w)[0] (dF hp0);rw[<-er] at hbv;have hs:=hv.ser;have hsn:t.aG≠1000000:=λe=>hq (.inr e);unfold qQ;refine⟨hv.base,hv.bk,setj (.inr (a86 hbv _)),⟨by simpa using hv.todo.1,λq hq'=>?_⟩,⟨aj,aj⟩⟩;rcases rG hq' with h|h
   ·exact hv.todo.2 q h
   ·subst h;exact⟨aj,λb hb=>hqq.2 b (OH hb)⟩
theorem aYH(c:eJ):aAW c=some (decide (QN c)):=by
 unfold aAW PO PN;simp only[fX,aM];by_cases h1:1<=c.Kind/\c.Kind<=4
 ·by_cases h2:0<=c.Key/\c.Key<=99
  ·simp only[dA h1,dA h2,kY,bV,bR];have dv:(c.Kind=2\/c.Kind=4)->decide (0<=c.dC/\c.dC<=65535)=decide (QN c):=λk=>by rw[HM,decide_eq_true_eq,decide_eq_true_eq];exact⟨λh=>⟨h1,h2,h,aa⟩,λh=>h.2.2.1⟩
   by_cases k2:c.Kind=2
   ·grind
   ·have e:(c.Kind == 2)=false:=aj
    by_cases k4:c.Kind=4
    ·grind
    ·have e4:(c.Kind == 4)=false:=aj
     simp only[e,e4,bV,bR];congr 1;rw[HM,beq_iff_eq,decide_eq_true_eq];constructor
     ·intro h;exact⟨h1,h2,aa,.inr (.inr h)⟩
     ·rintro⟨_,_,_,h|h|h⟩<;>omega
  simp_all[iD,QN]
 ·simp only[iD h1,SG,bT];grind[QN]
theorem aYI(c:eJ):S3 c=some (decide (QN c)):=by
 have key:∀B:Bool,vQ c B=some (decide ((1<=c.Kind/\c.Kind<=4)/\(0<=c.Key/\c.Key<=99)/\((B=true/\(0<=c.dC/\c.dC<=65535))\/c.dC=0))):=λB=>by unfold vQ qG;simp only[dP,aM];grind
 unfold S3;have fin:∀B:Bool,(B=true↔c.Kind=2\/c.Kind=4)->vQ c B=some (decide (QN c)):=λB hB=>by rw[key];congr 1;rw[HM,decide_eq_true_eq,decide_eq_true_eq];grind[QN]
 grind
theorem aYJ{b:Batch}(hl:b.bN.length<=1000):SX b=some (decide (OF b)):=by
 unfold SX;cases hc:b.Collect
 ·rw[gH];have hs:∀k (hk:k<b.bN.length),oT b (k:Int)=if QN b.bN[k] then some (.next ((k+1:Nat):Int)) else some (.stop (Out.ret false)):=λk hk=>by simp only[oT];rw[eV,aZ hk,aM,aYH,aM,dO];simp
  have key:loop (oT b) 0=_:=MF (f:=oT b) b.bN (λk=>(k:Int)) QN (Out.brk ()) (Out.ret false) (λk hk hp=>aj) (λk hk hp=>aj) (by simp[oT]);rw[key];by_cases q:∀x∈b.bN,QN x
  ·rw[aO q];simp only[aM,UO,UN,fX];congr 1;rw[HM,decide_eq_true_eq,decide_eq_true_eq];exact⟨λa=>⟨λh=>aj,aa,q,λ_=>aa⟩,λa=>by have:=a.2.2.2 hc;have:=a.2.1;omega⟩
  ·rw[aP q,iD (show ¬OF b from λa=>q a.2.2.1)];rfl
 ·rw[aO rfl];congr 1;rw[HM,beq_iff_eq,decide_eq_true_eq];constructor
  ·intro h;have h0:b.bN=[]:=uJ aa;exact⟨λ_=>h0,aa,aj,λh=>aj⟩
  ·intro h;rw[h.1 hc];rfl
def BsV(l:List Batch):Prop:=∀b∈l,OF b
instance (l:List Batch):Decidable (BsV l):=by unfold BsV;infer_instance
theorem aYK{l:List aJ}(hl:l.length<=1000)(hb:∀q∈l,∀b∈q.List,b.bN.length<=1000):SY l=some (decide (T8 l)):=by
 unfold SY;have inner:∀k (hk:k<l.length),l[k].List.length<=12->loop (oV l (k:Int)) 0=some (if BsV l[k].List then Out.brk () else Out.ret false):=by
  intro k hk h12;have hs:∀j (hj:j<l[k].List.length),oV l (k:Int) (j:Int)=if OF l[k].List[j] then some (.next ((j+1:Nat):Int)) else some (.stop (Out.ret false)):=by intro j hj;simp only[oV];rw[aZ hk,aM,eV,aM,aZ hj,aM,aYJ (hb _ (dF hk) _ (dF hj)),aM,dO];simp
  have:=MF (f:=oV l (k:Int)) l[k].List (λj=>(j:Int)) OF (Out.brk ()) (Out.ret false) (λj hj hp=>aj) (λj hj hp=>aj) (by
   simp_all[oV,aZ])
  refine Eq.trans this ?_;congr 1
 have hs:∀k (hk:k<l.length),oW l (k:Int)=if QuV l[k] then some (.next ((k+1:Nat):Int)) else some (.stop (Out.ret false)):=by
  intro k hk;simp only[oW];rw[eV,aZ hk,aM];by_cases h12:l[k].List.length<=12
  ·rw[aH0,inner k hk h12];by_cases q:BsV l[k].List
   ·rw[aO q,aO (show QuV l[k] from⟨h12,q⟩)];simp only[aM,UR,UQ];grind[cW]
   ·rw[aP q,aP (show ¬QuV l[k] from λa=>q a.2)];rfl
  ·rw[eV,aP (show ¬QuV l[k] from λa=>h12 a.1)]
 have key:loop (oW l) 0=_:=MF (f:=oW l) l (λk=>(k:Int)) QuV (Out.brk ()) (Out.ret false) (λk hk hp=>aj) (λk hk hp=>aj) (by simp[oW]);rw[key];by_cases q:∀x∈l,QuV x
 ·rw[aO q];simp only[aM,US,UP];congr 1;rw[HM];simp only[beq_iff_eq,decide_eq_true_eq];exact⟨λa=>⟨aa,q⟩,λa=>by have:=a.1;omega⟩
 ·rw[aP q,iD (show ¬T8 l from λa=>q a.2)];rfl
theorem MH{l:List O}{f:Int->Option (Step Int (Out Unit Int))}{p:O->Bool}{m:(Out Unit Int)->Option Int}(hl:l.length<=4611686018427387904)
  (hf:∀k:Nat,f (k:Int)=if h:k<l.length then(if p l[k] then some (.stop (Out.ret (k:Int))) else some (.next ((k+1:Nat):Int))) else some (.stop (Out.brk ()))) (m1:∀r,m (.ret r)=some r) (m2:m (.brk ())=some (-1)) :
  ((loop f 0).bind m).bind (λx1=>some (decide (0<=x1)))=some (l.any p):=by
 rcases R0 (f:=f) (p:=p) hl hf l.length 0 aa with ⟨j,h,_,h2,h3,h4⟩|⟨h1,h2⟩
 ·rw[show(0:Int)=((0:Nat):Int) from rfl,h4,aM,m1,aM,dA aa];grind
 ·rw[show(0:Int)=((0:Nat):Int) from rfl,h2,aM,m2,aM,iD aa];congr 1;refine(aSW.2 λx hx=>?_).symm;obtain⟨i,hi,rfl⟩:=V4 hx;grind
theorem aR5{l:List eJ}(hl:l.length<=1000){f:eJ->Bool}{g:eJ->Option Bool}(hg:∀x∈l,g x=some (f x)):rM l g=some (l.any f):=
 MH (f:=rL l g) (m:=DQ) aa (λk=>by
  simp only[rL];by_cases h:k<l.length
  ·rw[dif_pos h,eV,aZ h,aM,hg _ (dF h),aM,dO];rfl
  grind) (λ_=>rfl) rfl
theorem aL8{l:List Batch}(hl:l.length<=1000){f:Batch->Bool}{g:Batch->Option Bool}(hg:∀x∈l,g x=some (f x)):oK l g=some (l.any f):=
 MH (f:=oJ l g) (m:=zT) aa (λk=>by
  simp only[oJ];by_cases h:k<l.length
  ·rw[dif_pos h,eV,aZ h,aM,hg _ (dF h),aM,dO];rfl
  grind) (λ_=>rfl) rfl
theorem VH{l:List aJ}(hl:l.length<=1000){f:aJ->Bool}{g:aJ->Option Bool}(hg:∀x∈l,g x=some (f x)):j9 l g=some (l.any f):=
 MH (f:=nR l g) (m:=xD) aa (λk=>by
  simp only[nR];by_cases h:k<l.length
  ·rw[dif_pos h,eV,aZ h,aM,hg _ (dF h),aM,dO];rfl
  grind) (λ_=>rfl) rfl
theorem aR6{l:List O}{P:O->Prop}[DecidablePred P]:(!(l.any λx=>!decide (P x)))=decide (∀x∈l,P x):=aj
theorem aL9{b:Batch}(hl:b.bN.length<=1000):E1 b=some (decide (OF b)):=by
 unfold E1;cases hc:b.Collect
 ·rw[gH,dP,aM];by_cases h:1<=(b.bN.length:Int)/\(b.bN.length:Int)<=6
  ·rw[dA h,aO rfl,aR5 hl (f:=λx=>!decide (QN x)) (λx _=>by grind[MP,aYI]),aM,aR6];unfold uN;congr 1;rw[HM,decide_eq_true_eq,decide_eq_true_eq];exact⟨λa=>⟨λh=>aj,aa,a,λ_=>aa⟩,λa=>a.2.2.1⟩
  ·rw[iD h,gH];grind[uN,OF]
 ·rw[aO rfl];congr 1;rw[HM,beq_iff_eq,decide_eq_true_eq];constructor
  ·intro h;have h0:b.bN=[]:=uJ aa;exact⟨λ_=>h0,aa,aj,λh=>aj⟩
  ·intro h;rw[h.1 hc];rfl
theorem aMA{l:List aJ}(hl:l.length<=1000)(hq:∀q∈l,q.List.length<=1000)(hb:∀q∈l,∀b∈q.List,b.bN.length<=1000):E3 l=some (decide (T8 l)):=by
 have e1:∀q∈l,E2 q=some (!decide (QuV q)):=λq hm=>by
  unfold E2 wG;by_cases h:q.List.length<=12
  ·rw[aH0,aL8 (hq q hm) (f:=λx=>!decide (OF x)) (λx hx=>by grind[HR,aL9]),aM];congr 1;rw[<-Bool.not_not ((q.List.any λx=>!decide (OF x))),aR6];congr 1;rw[HM,decide_eq_true_eq,decide_eq_true_eq];exact⟨λa=>⟨h,a⟩,λa=>a.2⟩
  ·rw[eV,iD (show ¬QuV q from λa=>h a.1)];rfl
 unfold E3 BT;by_cases h:l.length=3
 ·rw[eV,VH hl e1,aM,aR6];congr 1;rw[HM,decide_eq_true_eq,decide_eq_true_eq];exact⟨λa=>⟨h,a⟩,λa=>a.2⟩
 ·rw[aH0,iD (show ¬T8 l from λa=>h a.1)]
theorem aR7{b:Batch}(h:b.bN.length<=1000):PQ b=some b/\xB b=some b:=by unfold PQ xB aCM lB;rw[OD];simp
theorem aMB{l:List aJ}(hl:l.length<=1000)(hq:∀q∈l,q.List.length<=1000)(hb:∀q∈l,∀b∈q.List,b.bN.length<=1000):MN l=some l/\xC l=some l:=by
 constructor
 ·unfold MN;rw[aLQ l]
  ·rfl
  ·intro k hk;have h1:=hq _ (dF hk);simp only[EK];rw[eV,Y2 l[k].List]
   ·simp only[aM,OV,OT];rw[OD,dO];rfl
   ·intro i hi;simp only[EJ,OU];rw[aZ hk,aM,eV,aM,aZ hi,aM,(aR7 (hb _ (dF hk) _ (dF hi))).1,aM,OD,dO];rfl
   simp_all[EJ,aZ]
  grind[EK]
 ·unfold xC;rw[aLQ l]
  ·rfl
  ·intro k hk;have h1:=hq _ (dF hk);simp only[EO];rw[eV,aZ hk,aM,Y2 l[k].List]
   ·simp only[aM,OX,OW];rw[OD,dO];rfl
   ·intro i hi;simp only[EN,EM];rw[eV,aZ hi,aM,(aR7 (hb _ (dF hk) _ (dF hi))).2,aM,OD,dO];rfl
   grind[EN]
  grind[EO]
def a1C:Table:=⟨⟨⟨⟨[],[]⟩,⟨[],[]⟩⟩,⟨0,[]⟩,[],[]⟩,[],[],[],[],0⟩
def b9(t:List aJ):Table:=⟨a08,List.replicate 2 ⟨0,0,0⟩,List.replicate 3 cX,t,[],0⟩
theorem aU5{t:List aJ}(hl:t.length<=1000)(hq:∀q∈t,q.List.length<=1000)(hb:∀q∈t,∀b∈q.List,b.bN.length<=1000):Z1 t=some (if T8 t then b9 t else a1C)/\IY t=some (if T8 t then b9 t else a1C):=by
 unfold Z1 IY;rw[aYK hl hb,aMA hl hq hb];simp only[aM];by_cases h:T8 t
 ·simp only[dA h,kY,bV,bR,aO h,aL2.1,aL2.2,aM,(aMB hl hq hb).1,(aMB hl hq hb).2];rw[SF,SF];exact⟨rfl,rfl⟩
 ·simp only[iD h,SG,bT,aP h];exact⟨rfl,rfl⟩
theorem aFP{t:List aJ}(h:T8 t):TV (b9 t):=⟨a8X,⟨rfl,λx hx=>by simp[b9] at hx;subst hx;exact⟨.inl rfl,ae,ae⟩⟩,⟨rfl,λj hj=>by grind[b9]⟩,h,by show(0:Int)<=0/\(0:Int)<=1000000;omega⟩
def PJ(t:Table)(p:Int):Table:=if 0<=p/\p<=2 then aW t p else t
def BQ(t:Table)(l:List Int):Table:=l.foldl PJ t
theorem dM{P:TR->Prop}{c:Prop}[Decidable c]{a b:TR}(h1:c->P a)(h2:¬c->P b):P (if c then a else b):=aj
theorem bDQ(b:aA)(k:List bW)(w:Int)(j:aI):(eX b k w j).l.length<=1:=by unfold eX;refine dM (P:=λr=>r.l.length<=1) (λ_=>jD _) λ_=>dM (P:=λr=>r.l.length<=1) (λ_=>jD _) λ_=>dM (P:=λr=>r.l.length<=1) (λ_=>jD _) λ_=>dM (P:=λr=>r.l.length<=1) (λ_=>jD _) λ_=>dM (P:=λr=>r.l.length<=1) (λ_=>?_) λ_=>dM (P:=λr=>r.l.length<=1) (λ_=>jD _) λ_=>dM (P:=λr=>r.l.length<=1) (λ_=>jD _) λ_=>dM (P:=λr=>r.l.length<=1) (λ_=>jD _) λ_=>dM (P:=λr=>r.l.length<=1) (λ_=>jD _) λ_=>dM (P:=λr=>r.l.length<=1) (λ_=>jD _) λ_=>dM (P:=λr=>r.l.length<=1) (λ_=>jD _) λ_=>dM (P:=λr=>r.l.length<=1) (λ_=>iZ _) λ_=>jD _;grind
theorem Y3(t:Table)(p:Int):(PJ t p).Log.length<=t.Log.length+1:=by
 unfold PJ aW;split
 ·split
  ·have:=bDQ t.aA t.aR p (aD t p);show(t.Log++_).length<=_;grind
  ·split
   ·omega
   ·show(t.Log++_).length<=_;simp
 ·omega
theorem aU6(h:TV t)(p:Int):TV (PJ t p):=by
 unfold PJ;split
 ·exact h.step (by assumption)
 ·exact h
theorem aMC{P:Table->Prop}(hs:∀t w,TV t->(0<=w/\w<=2)->P t->P (aW t w)):∀(l:List Int) {t:Table},TV t->P t->TV (BQ t l)/\P (BQ t l)
 |[],t,h,hp=>⟨h,hp⟩
 |p::l,t,h,hp=>aMC hs l (aU6 h p) (by grind[PJ])
theorem aP1{x:pB}{n:Nat}(hn:((x.fY.take ((if 400<(x.fY.length:Int) then 400 else(x.fY.length:Int)).toNat)).drop 0)=x.fY.take n)(h400:(x.fY.take n).length<=400):∀(d k:Nat) (t:Table),k+d=(x.fY.take n).length->TV t->t.Log.length<=k->loop (pS x) ((k:Int),t)=some (BQ t ((x.fY.take n).drop k))
 |0,k,t,hk,hv,hl=>by rw[List.drop_of_length_le aa];refine bB ?_;simp only[pS,hn];rw[aP aj];rfl
 |d + 1,k,t,hk,hv,hl=>by
  have hkl:k<(x.fY.take n).length:=aa
  have st:pS x ((k:Int),t)=some (.next (((k+1:Nat):Int),PJ t (x.fY.take n)[k])):=by
   simp only[pS,hn];rw[aO aj,aZ hkl,aM,nC,aM];unfold wN PJ;rw[dO];by_cases hp:0<=(x.fY.take n)[k]/\(x.fY.take n)[k]<=2
   ·rw[dA hp,aO rfl,aU2 hv aa hp,aO hp];rfl
   grind
  rw[bG st,aP1 hn h400 d (k+1) _ aa (aU6 hv _) (by grind[Y3]),uI hkl];rfl
theorem aD1{x:pB}(hl:x.fI.length<=1000)(hq:∀q∈x.fI,q.List.length<=1000)(hb:∀q∈x.fI,∀b∈q.List,b.bN.length<=1000)(ht:T8 x.fI):xT x=some (BQ (b9 x.fI) (x.fY.take 400)):=by
 unfold xT;rw[(aU5 hl hq hb).2,aO ht,aM,aP (by simp[b9])];have hn:((x.fY.take ((if 400<(x.fY.length:Int) then 400 else(x.fY.length:Int)).toNat)).drop 0)=x.fY.take 400:=by
  (simp_all;omega)
 rw[SF,show(0:Int)=((0:Nat):Int) from rfl,aP1 hn aj (x.fY.take 400).length 0 _ aa (aFP ht) (by simp[b9]),aM];rfl
def QuS(m:Int)(q:aJ):Prop:=(q.List.length:Int)<=m/\∀x∈q.List,x.bN.length<=1000
section
variable {b:List UInt8} {i h:Int} (hc:Cu b i)
include hc
def bII(l:List aJ):Prop:=l.length<=3/\∀q∈l,QuS 100 q
theorem bDR{m:Int}(hm:m<=100):DI (IG ⟨b,i,h⟩ m) (λx=>x.1.length<=4000/\Cu b x.2.1):=by
 unfold IG;refine .bind (below hc aa) λx1 ⟨hx1,h1⟩=>?_;refine .bind (P:=λx=>x.1.length<=4000/\Cu b x.2.1) (.loop (λs=>s.2.1.toNat) (λs=>(0<=s.2.1/\s.1.length+8*s.2.1<=4000)/\Cu b s.2.2.1) ⟨⟨hx1.1,ah⟩,h1⟩ ?_) λx hx=>.ret hx;rintro⟨l,n,i1,h1⟩ ⟨⟨n0,n1⟩,hi1⟩;simp only at n0 n1 hi1;simp only[RH];refine .ite (λq=>?_) (λq=>?_)
 ·have q':=of_decide_eq_true q;refine .bind (below hi1 aa) λx13 ⟨_,h13⟩=>.bind (below h13 aa) λx14 ⟨hx14,h14⟩=>?_;rw[dO];refine .bind (P:=λx=>(x.length:Int)<=l.length+8) (.loop (λs=>s.2.toNat) (λs=>0<=s.2/\(s.1.length:Int)+s.2<=l.length+8) ⟨aa,aj⟩ ?_) ?_
  ·rintro⟨r,k⟩ ⟨k0,k1⟩;simp only at k0 k1;simp only[RF];refine .ite (λq=>?_) (λq=>?_)
   ·have q2:=of_decide_eq_true q;refine .need ah (.ret ?_);grind[cW]
   ·exact .ret aa
  ·intro r hr;simp only[RG,RE];refine .ret ?_;grind[cW]
 ·exact .ret ⟨aj,hi1⟩
end
theorem bII.fit{l:List aJ}(h:bII l):l.length<=1000/\(∀q∈l,q.List.length<=1000)/\∀q∈l,∀b∈q.List,b.bN.length<=1000:=⟨by have:=h.1;omega,λq hq=>by have:=(h.2 q hq).1;omega,λq hq=>(h.2 q hq).2⟩
def uC(p:Int):Prop:=(7<=p/\p<=14)\/p=16
structure Y4 (k:List bW) (w:Int) (j:aI):Prop where
 iff:∀b,0<=b/\b<=1->(b∈j.bE↔(dX k b).eM=w+1)
 pc:j.bE≠[]->uC j.Pc
def aYL(k k':List bW)(w:Int):Prop:=∀b,0<=b/\b<=1->(dX k' b).eM=(dX k b).eM\/((dX k b).eM=0/\(dX k' b).eM=w+1)\/((dX k b).eM=w+1/\(dX k' b).eM=0)
theorem rF{k:List bW}{b:Int}{y:bW}(h2:k.length=2)(hi:0<=i/\i<=1)(hb:0<=b/\b<=1):dX (k.set i.toNat y) b=if b=i then y else dX k b:=by unfold dX;grind
def LkR(k:List bW)(w:Int)(r:TR):Prop:=Y4 r.k w r.j/\aYL k r.k w
section
variable {k:List bW} {w:Int} {j:aI} (h:Y4 k w j)
include h
theorem Y4.same{j':aI}(e:j'.bE=j.bE)(hp:j.bE≠[]->uC j'.Pc):Y4 k w j':=⟨λb hb=>by rw[e];exact h.iff b hb,λq=>hp aj⟩
theorem Y4.none(hp:¬uC j.Pc):j.bE=[]:=Classical.byContradiction λq=>hp (h.pc q)
end
theorem g9(k:List bW)(w:Int):aYL k k w:=λ_ _=>.inl rfl
theorem aU7(j:aI)(x:aU):(oD j x).2.bE=j.bE:=by grind[oD,sL]
theorem aU8(j:aI)(c:eJ)(v:Int)(is:Bool):(qU j c v is).bE=j.bE:=by
 unfold qU;split
 ·generalize (if is then v else 0)=u;unfold VW;have h:=aU7 j ⟨c.Key,false,vK u c.dC⟩;split
  ·exact h
  ·exact h
 ·rfl
theorem a87(j:aI):(qP j).bE=j.bE:=by grind[qP,aU7,aU8]
theorem a3Z(b:aA)(k:List bW)(w:Int)(j:aI):(iQ b k w j).bE=j.bE:=by
 unfold iQ;split
 ·split<;>rfl
 ·split
  ·rfl
  ·split
   ·split
    ·rfl
    ·split<;>rfl
   ·split
    ·rfl
    ·split
     ·rfl
     ·split
      ·grind[aU8]
      ·rfl
theorem a88(b:aA)(w:Int)(j:aI):(vL b w j).2.bE=j.bE:=by
 unfold vL;split
 ·rfl
 ·simp only;split
  ·rfl
  ·split<;>rfl
theorem bDS(j:aI)(x:aU):(L7 j x).bE=j.bE/\((L7 j x).Pc=9\/(L7 j x).Pc=12):=by grind[L7]
theorem a89(j:aI):(L8 j).bE=j.bE:=by grind[L8]
theorem aU9(j:aI):(J0 j).bE=j.bE:=by grind[J0]
theorem a9A(b:aA)(w:Int)(j:aI):(DJ b w j).2.bE=j.bE:=by grind[DJ,aU9]
theorem a9B(b:aA)(w:Int)(j:aI):(DK b w j).2.bE=j.bE:=by grind[DK]
theorem a9C(b:aA)(w:Int)(j:aI):(nZ b w j).2.bE=j.bE:=by grind[nZ]
theorem bDT(b:aA){k:List bW}(h2:k.length=2)(hj:JB j)(h:Y4 k w j)(hpc:9<=j.Pc/\j.Pc<=13):Y4 (lY b k j).2.1 w (lY b k j).2.2/\aYL k (lY b k j).2.1 w:=by
 have p14:uC 14:=.inl aa;have pl:∀(j':aI) (x:aU),j'.bE=j.bE->Y4 k w (L7 j' x):=λj' x e=>by obtain⟨e1,e2⟩:=bDS j' x;exact h.same (e1.trans e) λ_=>by rcases e2 with e2|e2<;>rw[e2]<;>exact .inl aa
 have head:∀{i:Int} {x:Int} {j':aI},0<=i/\i<=1->Y4 k w j'->Y4 (k.set i.toNat {dX k i with Head:=x}) w j'/\aYL k (k.set i.toNat {dX k i with Head:=x}) w:=λ{i x j'} hi hj'=>by
  have e:∀b,0<=b/\b<=1->(dX (k.set i.toNat {dX k i with Head:=x}) b).eM=(dX k b).eM:=λb hb=>by grind[rF]
  exact⟨⟨λb hb=>by rw[e b hb];exact hj'.iff b hb,hj'.pc⟩,λb hb=>.inl (e b hb)⟩
 unfold lY;by_cases c1:(j.aH.length:Int)<=j.K
 ·rw[aO c1];exact⟨h.same rfl λ_=>p14,g9 _ _⟩
 rw[aP c1];have hk:=hj.k;have hi:j.K.toNat<j.aH.length:=aa
 have er:mV j=j.aH[j.K.toNat]:=by grind[mV]
 have hx:=hj.wr.2.1 j.aH[j.K.toNat] (dF hi);rw[<-er] at hx;have hbk:0<=jJ (mV j).Key/\jJ (mV j).Key<=1:=by unfold jJ;omega
 by_cases c2:j.Pc=9
 ·rw[aO c2];refine⟨?_,g9 _ _⟩;simp only;split
  ·grind
  ·exact h.same rfl λ_=>.inl ae
 rw[aP c2];by_cases c3:j.Pc=10
 ·rw[aO c3];refine⟨?_,g9 _ _⟩;simp only;split
  ·exact h.same rfl λ_=>.inl ae
  ·split
   ·grind
   ·exact h.same rfl λq=>h.pc q
 rw[aP c3];by_cases c4:j.Pc=11
 ·rw[aO c4];grind[a89,g9]
 rw[aP c4];split
 ·exact⟨h.same rfl λ_=>.inr rfl,g9 _ _⟩
 ·split
  ·exact⟨h.same rfl λ_=>.inl ae,g9 _ _⟩
  ·exact head hbk (h.same rfl λ_=>.inl ae)
theorem bDU{k:List bW}(h2:k.length=2)(hw:0<=w)(hj:JB j)(h:Y4 k w j)(hpc:j.Pc=7):Y4 (oS k w j).1 w (oS k w j).2.1/\aYL k (oS k w j).1 w:=by
 have p8:uC 8:=.inl aa;unfold oS;by_cases c1:j.K<(pZ j.aH).length
 ·rw[aO c1];have hk:=hj.k;have hi:j.K.toNat<(pZ j.aH).length:=aa
  have er:fV j=(pZ j.aH)[j.K.toNat]:=by grind[fV]
  have hbk:0<=fV j/\fV j<=1:=by grind[R6,dF]
  by_cases c2:(dX k (fV j)).eM≠0\/(j.Reads.any λs=>s.bW == fV j && s.eO != (dX k (fV j)).eO)=true
  ·rw[aO c2];exact⟨h.same rfl λ_=>.inr rfl,g9 _ _⟩
  rw[aP c2];have c0:(dX k (fV j)).eM=0:=Classical.byContradiction λq=>c2 (.inl q);split
  ·exact⟨h.same rfl λ_=>.inr rfl,g9 _ _⟩
  have hnm:fV j∉j.bE:=λq=>by have:=(h.iff _ hbk).1 q;omega
  have hto:aYL k (k.set (fV j).toNat {dX k (fV j) with eM:=w+1}) w:=λb hb=>by grind[rF]
  have hkeep:∀j':aI,j'.bE=j.bE++[fV j]->uC j'.Pc->Y4 (k.set (fV j).toNat {dX k (fV j) with eM:=w+1}) w j':=λj' e hp=>⟨λb hb=>by
   rw[e,cY,iY,rF h2 hbk hb];split
   ·grind
   ·rename_i q;rw[h.iff b hb];omega,λ_=>hp⟩
  have hh:(IC j).bE=j.bE++[fV j]:=by simp_all[IC]
  split
  ·grind
  ·refine⟨hkeep _ hh ?_,hto⟩;show uC j.Pc;rw[hpc];exact .inl aa
 ·rw[aP c1];exact⟨h.same rfl λ_=>p8,g9 _ _⟩
theorem bDV{k:List bW}(h2:k.length=2)(hw:0<=w)(hj:JB j)(h:Y4 k w j)(hpc:j.Pc=14\/j.Pc=16):Y4 (AQ k j).1 w (AQ k j).2/\aYL k (AQ k j).1 w:=by
 have hp:uC j.Pc:=by rcases hpc with e|e<;>rw[e];exact .inl aa;exact .inr rfl
 unfold AQ;by_cases c1:0<j.bE.length
 ·rw[aO c1];have er:wS j=j.bE[0]:=by grind[wS]
  have hm:wS j∈j.bE:=aj
  have hbk:=hj.held.1 _ hm;have hl:=(h.iff _ hbk).1 hm;obtain⟨y,hy,hy0⟩:∃y:bW,(if j.Pc=14 then(⟨(dX k (wS j)).Head,if 1000000<(dX k (wS j)).eO+1 then 1000000 else(dX k (wS j)).eO+1,0⟩:bW) else {dX k (wS j) with eM:=0})=y/\y.eM=0:=aj
  simp only;rw[hy];have hd:j.bE=wS j::j.bE.drop 1:=by rw[er];exact(uI (i:=0) c1)
  have hn:=hj.held.2;rw[hd,ZU] at hn;refine⟨⟨λb hb=>?_,λ_=>hp⟩,λb hb=>?_⟩
  ·show b∈j.bE.drop 1↔_;rw[rF h2 hbk hb];split
   ·grind
   ·rename_i e;have:=h.iff b hb;grind
  grind[rF]
 ·rw[aP c1];have hnil:j.bE=[]:=uJ aa;split
  ·exact⟨h.same rfl λq=>absurd hnil q,g9 _ _⟩
  ·exact⟨h.same (aU9 {j with Pc:=15,K:=0}) λq=>absurd hnil q,g9 _ _⟩
theorem bIJ{b:aA}{k:List bW}(h2:k.length=2)(hw:0<=w/\w<=2)(hj:JB j)(h:Y4 k w j):LkR k w (eX b k w j):=by
 have nh:∀{p:Int},¬uC p->j.Pc=p->j.bE=[]:=λhp e=>h.none aj;have no:∀{j':aI},j'.bE=j.bE->j.bE=[]->Y4 k w j':=λe e0=>h.same e λq=>absurd e0 q;have out:∀{p:Int},j.Pc=p->¬uC p->j.bE=[]:=λe hp=>nh hp e;unfold eX;refine dM (P:=LkR k w) (λp=>⟨no (a9C b w j) (h.none (by grind[uC])),g9 _ _⟩) λ_=>dM (P:=LkR k w) (λp=>⟨no (a87 j) (h.none (by grind[uC])),g9 _ _⟩) λ_=>
  dM (P:=LkR k w) (λp=>⟨no (a3Z b k w j) (h.none (by grind[uC])),g9 _ _⟩) λ_=>dM (P:=LkR k w) (λp=>⟨no (a88 b w j) (h.none (by grind[uC])),g9 _ _⟩) λ_=>
  dM (P:=LkR k w) (λp=>bDU h2 hw.1 hj h p) λ_=>dM (P:=LkR k w) (λp=>⟨?_,g9 _ _⟩) λ_=>
  dM (P:=LkR k w) (λp=>bDT b h2 hj h p) λ_=>dM (P:=LkR k w) (λp=>bDV h2 hw.1 hj h p) λ_=>
  dM (P:=LkR k w) (λp=>⟨no (a9A b w j) (h.none (by grind[uC])),g9 _ _⟩) λ_=>dM (P:=LkR k w) (λp=>⟨no (a9B b w j) (h.none (by grind[uC])),g9 _ _⟩) λ_=>
  dM (P:=LkR k w) (λp=>⟨no rfl (h.none (by grind[uC])),g9 _ _⟩) λ_=>dM (P:=LkR k w) (λp=>⟨no (j':=cX) (h.none (by grind[uC])).symm (h.none (by grind[uC])),g9 _ _⟩) λ_=>⟨h.same rfl λ_=>.inr rfl,g9 _ _⟩
 show Y4 k w (JZ k w j);unfold JZ;split
 ·exact h.same rfl λ_=>.inl ae
 ·split
  ·exact h.same rfl λ_=>.inr rfl
  ·exact h.same rfl λq=>h.pc q
def aMD(t:Table):Prop:=∀w,0<=w/\w<=2->Y4 t.aR w (aD t w)
theorem aME{l:List aI}{v:Int}{x:aI}(h3:t.aS.length=3)(hl:l=t.aS.set w.toNat x)(hw:0<=w/\w<=2)(hv:0<=v/\v<=2):l.getD v.toNat cX=if v=w then x else aD t v:=by subst hl;unfold aD;grind
theorem aMD.step(hv:TV t)(hw:0<=w/\w<=2)(h:aMD t):aMD (aW t w):=by
 have h3:=hv.wV.1;have hjv:=hv.wV.2 _ (zS h3 hw);unfold aW;split
 ·rename_i hbusy;have hj:JB (aD t w):=hjv.resolve_left λe=>by rw[e] at hbusy;cases hbusy
  obtain⟨g1,g2⟩:=bIJ (b:=t.aA) hv.bk.1 hw hj (h w hw);intro v hv';have ej:aD (yQ t w (eX t.aA t.aR w (aD t w))) v=if v=w then(eX t.aA t.aR w (aD t w)).j else aD t v:=aME h3 rfl hw hv';rw[ej];show Y4 (eX t.aA t.aR w (aD t w)).k v _;split
  ·rename_i e;rw[e];exact g1
  ·rename_i e;refine⟨λb hb=>?_,(h v hv').pc⟩;rw[(h v hv').iff b hb];rcases g2 b hb with q|⟨q1,q2⟩|⟨q1,q2⟩
   ·rw[q]
   ·rw[q1,q2];omega
   ·rw[q1,q2];omega
 ·rename_i hbusy;split
  ·exact h
  ·intro v hv';generalize (m6 t w).getD 0 ⟨false,[]⟩=b;have ej:aD (qQ t w b) v=if v=w then iU b (t.aG+1) else aD t v:=aME h3 rfl hw hv';rw[ej];show Y4 t.aR v _;split
   ·rename_i e;subst e;have hn:(aD t v).bE=[]:=by
     rcases hjv with e|hj
     ·rw[e];rfl
     ·exact absurd hj.busy hbusy
    exact(h v hv').same hn.symm λq=>absurd hn q
   ·exact h v hv'
theorem aMD.zero(l:List aJ):aMD (b9 l):=λw hw=>by
 have e:aD (b9 l) w=cX:=by
  have:w=0\/w=1\/w=2:=aa
  rcases this with rfl|rfl|rfl<;>rfl
 rw[e];refine⟨λb hb=>?_,λq=>absurd rfl q⟩;have eb:(dX (b9 l).aR b).eM=0:=by
  have:b=0\/b=1:=aa
  rcases this with rfl|rfl<;>rfl
 rw[eb];exact⟨λq=>(by cases q),λq=>aa⟩
def aR8(l:List j7):Prop:=∀A e B,l=A++e::B->e.Kind=2->(∃c∈A,c.Kind=1/\c.aG=e.aG)/\∀x∈A,x.Kind=3->x.aG≠e.aG
theorem aR8.nil:aR8 []:=λA e B h=>by simp_all
theorem aYM{l A B:List O}{x e:O}(h:l++[x]=A++e::B):(l=A/\x=e/\B=[])\/∃B',B=B'++[x]/\l=A++e::B':=by
 rcases ZP B with rfl|⟨B',y,hB⟩
 ·have:=List.append_inj' h rfl;simp at this;exact .inl ⟨this.1,this.2,rfl⟩
 ·rw[aJK] at hB;subst hB;rw[<-DM,<-nL] at h;have:=List.append_inj' h rfl;simp at this;exact .inr ⟨B',by rw[this.2],this.1⟩
theorem aR8.app{l:List j7}(h:aR8 l){x:j7}(hx:x.Kind=2->(∃c∈l,c.Kind=1/\c.aG=x.aG)/\∀y∈l,y.Kind=3->y.aG≠x.aG):aR8 (l++[x]):=λA e B he hk=>by
 rcases aYM he with ⟨rfl,rfl,_⟩|⟨B',_,h2⟩
 ·exact hx hk
 ·exact h A e B' h2 hk
structure JL (l:List j7) (s:Int):Prop where
 call:∃c∈l,c.Kind=1/\c.aG=s
 tell:∀x∈l,x.Kind=3->x.aG≠s
structure a30 (t:Table):Prop where
 le:∀e∈t.Log,e.aG<=t.aG
 jle:∀w,0<=w/\w<=2->(aD t w).bQ=true->(aD t w).aG<=t.aG
 job:∀w,0<=w/\w<=2->(aD t w).bQ=true->JL t.Log (aD t w).aG
 ne:∀v w,0<=v/\v<=2->0<=w/\w<=2->v≠w->(aD t v).bQ=true->(aD t w).bQ=true->(aD t v).aG≠(aD t w).aG
 pt:aR8 t.Log
theorem a1D(j:aI)(x:aU):(oD j x).2.aG=j.aG/\(oD j x).2.bQ=j.bQ:=by grind[oD,sL]
theorem a1E(j:aI)(c:eJ)(v:Int)(is:Bool):(qU j c v is).aG=j.aG/\(qU j c v is).bQ=j.bQ:=by
 unfold qU;split
 ·generalize (if is then v else 0)=u;unfold VW;have h:=a1D j ⟨c.Key,false,vK u c.dC⟩;split
  ·exact h
  ·exact h
 ·exact⟨rfl,rfl⟩
theorem aIY(j:aI):(qP j).aG=j.aG/\(qP j).bQ=j.bQ:=by grind[qP,a1D,a1E]
theorem aD2(b:aA)(k:List bW)(w:Int)(j:aI):(iQ b k w j).aG=j.aG/\(iQ b k w j).bQ=j.bQ:=by
 unfold iQ;split
 ·split<;>exact⟨rfl,rfl⟩
 ·split
  ·simp
  ·split
   ·split
    ·exact⟨rfl,rfl⟩
    ·split<;>exact⟨rfl,rfl⟩
   ·split
    ·exact⟨rfl,rfl⟩
    ·split
     ·exact⟨rfl,rfl⟩
     ·split
      ·grind[a1E]
      ·exact⟨rfl,rfl⟩
theorem aIZ(b:aA)(w:Int)(j:aI):(vL b w j).2.aG=j.aG/\(vL b w j).2.bQ=j.bQ:=by
 unfold vL;split
 ·simp
 ·simp only;split
  ·simp
  ·split<;>exact⟨rfl,rfl⟩
theorem aI0(k:List bW)(w:Int)(j:aI):(oS k w j).2.1.aG=j.aG/\(oS k w j).2.1.bQ=j.bQ:=by
 unfold oS;split
 ·split
  ·exact⟨rfl,rfl⟩
  ·split
   ·exact⟨rfl,rfl⟩
   ·split<;>exact⟨rfl,rfl⟩
 simp
theorem aI1(k:List bW)(w:Int)(j:aI):(JZ k w j).aG=j.aG/\(JZ k w j).bQ=j.bQ:=by
 unfold JZ;split
 ·simp
 ·split<;>exact⟨rfl,rfl⟩
theorem aYN(j:aI)(x:aU):(L7 j x).aG=j.aG/\(L7 j x).bQ=j.bQ:=by grind[L7]
theorem bDW(j:aI):(L8 j).aG=j.aG/\(L8 j).bQ=j.bQ:=by grind[L8]
theorem aI2(b:aA)(k:List bW)(j:aI):(lY b k j).2.2.aG=j.aG/\(lY b k j).2.2.bQ=j.bQ:=by
 unfold lY;split
 ·simp
 ·split
  ·grind[aYN]
  ·split
   ·grind[aYN]
   ·split
    ·grind[aYN,bDW]
    ·split
     ·exact⟨rfl,rfl⟩
     grind
theorem a1F(j:aI):(J0 j).aG=j.aG/\(J0 j).bQ=j.bQ:=by grind[J0]
theorem aI3(k:List bW)(j:aI):(AQ k j).2.aG=j.aG/\(AQ k j).2.bQ=j.bQ:=by grind[AQ,a1F]
theorem aI4(b:aA)(w:Int)(j:aI):(DJ b w j).2.aG=j.aG/\(DJ b w j).2.bQ=j.bQ:=by grind[DJ,a1F]
theorem aI5(b:aA)(w:Int)(j:aI):(DK b w j).2.aG=j.aG/\(DK b w j).2.bQ=j.bQ:=by grind[DK]
theorem aI6(b:aA)(w:Int)(j:aI):(nZ b w j).2.aG=j.aG/\(nZ b w j).2.bQ=j.bQ:=by grind[nZ]
def SB(w:Int)(j:aI)(r:TR):Prop:=(r.j.aG=j.aG/\r.j.bQ=j.bQ/\(r.l=[]\/r.l=[⟨2,w,j.aG,0,[],[]⟩]))\/(r.j=cX/\r.l=[tlE w j])
theorem aVA(b:aA)(k:List bW)(w:Int)(j:aI):SB w j (eX b k w j):=by
 unfold eX;refine dM (P:=SB w j) (λ_=>.inl ⟨(aI6 b w j).1,(aI6 b w j).2,.inl rfl⟩) λ_=>dM (P:=SB w j) (λ_=>.inl ⟨(aIY j).1,(aIY j).2,.inl rfl⟩) λ_=>
  dM (P:=SB w j) (λ_=>.inl ⟨(aD2 b k w j).1,(aD2 b k w j).2,.inl rfl⟩) λ_=>dM (P:=SB w j) (λ_=>.inl ⟨(aIZ b w j).1,(aIZ b w j).2,.inl rfl⟩) λ_=>
  dM (P:=SB w j) (λ_=>.inl ⟨(aI0 k w j).1,(aI0 k w j).2,?_⟩) λ_=>dM (P:=SB w j) (λ_=>.inl ⟨(aI1 k w j).1,(aI1 k w j).2,.inl rfl⟩) λ_=>
  dM (P:=SB w j) (λ_=>.inl ⟨(aI2 b k j).1,(aI2 b k j).2,.inl rfl⟩) λ_=>dM (P:=SB w j) (λ_=>.inl ⟨(aI3 k j).1,(aI3 k j).2,.inl rfl⟩) λ_=>
  dM (P:=SB w j) (λ_=>.inl ⟨(aI4 b w j).1,(aI4 b w j).2,.inl rfl⟩) λ_=>dM (P:=SB w j) (λ_=>.inl ⟨(aI5 b w j).1,(aI5 b w j).2,.inl rfl⟩) λ_=>
  dM (P:=SB w j) (λ_=>.inl ⟨rfl,rfl,.inl rfl⟩) λ_=>dM (P:=SB w j) (λ_=>.inr ⟨rfl,rfl⟩) λ_=>.inl ⟨rfl,rfl,.inl rfl⟩
 simp
theorem aR9{l:List aI}{v:Int}{x:aI}(h3:t.aS.length=3)(hl:l=t.aS.set w.toNat x)(hw:0<=w/\w<=2)(hv:0<=v/\v<=2):l.getD v.toNat cX=if v=w then x else aD t v:=by subst hl;unfold aD;grind
theorem a30.step(hv:TV t)(hw:0<=w/\w<=2)(h:a30 t):a30 (aW t w):=by
 have h3:=hv.wV.1;unfold aW;split
 ·rename_i hb;have hJ:=h.job w hw hb;have hS:=h.jle w hw hb;rcases aVA t.aA t.aR w (aD t w) with ⟨s1,s2,hl⟩|⟨s1,hl⟩
  ·
   have hjob:∀v,0<=v/\v<=2->(aD (yQ t w (eX t.aA t.aR w (aD t w))) v).aG=(aD t v).aG/\(aD (yQ t w (eX t.aA t.aR w (aD t w))) v).bQ=(aD t v).bQ:=λv hv'=>by grind[aD,yQ]
   have hnot:∀x∈(eX t.aA t.aR w (aD t w)).l,x.Kind=2/\x.aG=(aD t w).aG:=λx hx=>aj
   have keepJ:∀s,JL t.Log s->JL (t.Log++(eX t.aA t.aR w (aD t w)).l) s:=λs ⟨⟨c,hc,h1⟩,h2⟩=>⟨⟨c,QT _ hc,h1⟩,λx hx hk=>by
    grind⟩
   refine⟨λe he=>?_,λv hv' hb'=>?_,λv hv' hb'=>?_,λv u hv' hu hne hb1 hb2=>?_,?_⟩
   ·rcases cY.1 he with he|he
    ·exact h.le e he
    ·rw[(hnot e he).2];exact hS
   ·rw[(hjob v hv').1];exact h.jle v hv' aj
   ·rw[(hjob v hv').1];exact keepJ _ (h.job v hv' aj)
   ·rw[(hjob v hv').1,(hjob u hu).1];exact h.ne v u hv' hu hne aj aj
   ·show aR8 (t.Log++_);rcases hl with hl|hl
    ·rw[hl,uH];exact h.pt
    ·rw[hl];exact h.pt.app λ_=>⟨hJ.call,hJ.tell⟩
  ·
   have hjob:∀v,0<=v/\v<=2->v≠w->aD (yQ t w (eX t.aA t.aR w (aD t w))) v=aD t v:=λv hv' hne=>by unfold aD yQ;grind
   have hidle:(aD (yQ t w (eX t.aA t.aR w (aD t w))) w).bQ=false:=by have e:aD (yQ t w (eX t.aA t.aR w (aD t w))) w=(eX t.aA t.aR w (aD t w)).j:=(aR9 h3 rfl hw hw).trans (aO rfl);rw[e,s1];rfl
   have hne':∀v,(aD (yQ t w (eX t.aA t.aR w (aD t w))) v).bQ=true->v≠w:=λv hb' e=>aj
   refine⟨λe he=>?_,λv hv' hb'=>?_,λv hv' hb'=>?_,λv u hv' hu hne hb1 hb2=>?_,?_⟩
   ·rcases cY.1 he with he|he
    ·exact h.le e he
    ·rw[hl,iY] at he;rw[he];exact hS
   ·have hn:=hne' v hb';rw[hjob v hv' hn] at hb' ⊢;exact h.jle v hv' hb'
   ·have hn:=hne' v hb';rw[hjob v hv' hn] at hb' ⊢;obtain⟨⟨c,hc,h1⟩,h2⟩:=h.job v hv' hb';refine⟨⟨c,QT _ hc,h1⟩,λx hx hk=>?_⟩;rcases cY.1 hx with hx|hx
    ·grind
    ·rw[hl,iY] at hx;rw[hx];exact h.ne w v hw hv' (λe=>hn e.symm) hb hb'
   ·have hn1:=hne' v hb1;have hn2:=hne' u hb2;rw[hjob v hv' hn1] at hb1 ⊢;rw[hjob u hu hn2] at hb2 ⊢;exact h.ne v u hv' hu hne hb1 hb2
   ·show aR8 (t.Log++_);rw[hl];exact h.pt.app λq=>by simp[tlE] at q
 ·split
  ·exact h
  ·rename_i hb hq;have hfresh:∀e∈t.Log,e.aG≠t.aG+1:=λe he q=>by have:=h.le e he;omega
   generalize (m6 t w).getD 0 ⟨false,[]⟩=b;have hjob:∀v,0<=v/\v<=2->aD (qQ t w b) v=if v=w then iU b (t.aG+1) else aD t v:=λv hv'=>by grind[aD,qQ]
   have hser:(qQ t w b).aG=t.aG+1:=rfl;refine⟨λe he=>?_,λv hv' hb'=>?_,λv hv' hb'=>?_,λv u hv' hu hne hb1 hb2=>?_,?_⟩
   ·rw[hser];rcases cY.1 he with he|he
    ·have:=h.le e he;omega
    grind
   ·rw[hjob v hv'] at hb' ⊢;rw[hser];split
    ·exact J2 _
    ·rename_i e;rw[aP e] at hb';have:=h.jle v hv' hb';omega
   ·rw[hjob v hv'] at hb' ⊢;split
    ·refine⟨⟨_,aB0 _ (iY.2 rfl),rfl,rfl⟩,λx hx hk=>?_⟩;rcases cY.1 hx with hx|hx
     ·exact hfresh x hx
     ·rw[iY] at hx;rw[hx] at hk;cases hk
    ·rename_i e;rw[aP e] at hb';obtain⟨⟨c,hc,h1⟩,h2⟩:=h.job v hv' hb';refine⟨⟨c,QT _ hc,h1⟩,λx hx hk=>?_⟩;rcases cY.1 hx with hx|hx
     ·exact h2 x hx hk
     ·rw[iY] at hx;rw[hx] at hk;cases hk
   ·rw[hjob v hv'] at hb1 ⊢;rw[hjob u hu] at hb2 ⊢;by_cases e1:v=w
    ·rw[aO e1];have e2:u≠w:=λe=>hne (e1.trans e.symm);rw[aP e2] at hb2 ⊢;have:=h.jle u hu hb2;show t.aG+1≠_;omega
    ·rw[aP e1] at hb1 ⊢;by_cases e2:u=w
     ·rw[aO e2];have:=h.jle v hv' hb1;show _≠t.aG+1;omega
     ·rw[aP e2] at hb2 ⊢;exact h.ne v u hv' hu hne hb1 hb2
   ·exact h.pt.app λq=>by cases q
theorem a30.zero(l:List aJ):a30 (b9 l):=by
 have hj:∀w,0<=w/\w<=2->(aD (b9 l) w).bQ=false:=λw hw=>by
  have:w=0\/w=1\/w=2:=aa
  rcases this with rfl|rfl|rfl<;>rfl
 exact⟨λe he=>(by grind[b9]),λw hw h=>aj,λw hw h=>aj,λv w hv _ _ h=>aj,aR8.nil⟩
theorem aP2:∀(l:List Int) (t:Table),(BQ t l).Log.length<=t.Log.length+l.length
 |[],t=>iZ _
 |p::l,t=>by have h1:=aP2 l (PJ t p);grind[Y3,BQ]
def isE(kind s:Int)(e:j7):Bool:=e.Kind == kind && e.aG == s
def ID(l:List j7)(kind s:Int):Int:=if l.findIdx (isE kind s)<l.length then(l.findIdx (isE kind s):Int) else -1
theorem a9D{l:List j7}{p:j7->Bool}{f:Int->Option (Step Int (Out Unit Int))}{m:(Out Unit Int)->Option Int}(hl:l.length<=1000000)
  (hf:∀k:Nat,f (k:Int)=if h:k<l.length then(if p l[k] then some (.stop (Out.ret (k:Int))) else some (.next ((k+1:Nat):Int))) else some (.stop (Out.brk ()))) (m1:∀r,m (.ret r)=some r) (m2:m (.brk ())=some (-1)) :
  (loop f 0).bind m=some (if l.findIdx p<l.length then(l.findIdx p:Int) else -1):=by
 rcases R0 (f:=f) (p:=p) aa hf l.length 0 aa with ⟨j,h,_,h2,h3,h4⟩|⟨h1,h2⟩
 ·have e:l.findIdx p=j:=by rw[List.findIdx_eq h];exact⟨h3,λi hi=>h2 i aa (jD _) hi⟩
  rw[show(0:Int)=((0:Nat):Int) from rfl,h4,aM,m1,e,aO h]
 ·have e:¬l.findIdx p<l.length:=λq=>by have:=aSX (w:=q);rw[h1 _ q (jD _)] at this;cases this
  rw[show(0:Int)=((0:Nat):Int) from rfl,h2,aM,m2,aP e]
theorem aSA{l:List j7}(hl:l.length<=1000000)(kind s:Int):LV l kind s=some (ID l kind s):=by
 unfold LV ID;refine a9D hl (λk=>?_) (λ_=>rfl) rfl;simp only[U5,CG];by_cases h:k<l.length
 ·rw[dif_pos h,eV,aZ h];grind[cW,isE]
 grind
def bIK(l:List j7)(s:Int):Bool:=decide (0<=ID l 3 s) && ((l.getD (ID l 3 s).toNat ⟨0,0,0,0,[],[]⟩).Code == 0)
def a31(l:List j7)(out:List Int)(e:j7):List Int:=if e.Kind=2/\e.aG∉out/\bIK l e.aG=true then out++[e.aG] else out
def aBO(l:List j7):List Int:=l.foldl (a31 l) []
theorem aMF{l:List j7}{k:Int}(h:0<=ID l k s):(ID l k s).toNat<l.length:=by unfold ID at h ⊢;omega
theorem bDX{l:List j7}{k:Int}(h:0<=ID l k s):idx l (ID l k s)=some (l.getD (ID l k s).toNat ⟨0,0,0,0,[],[]⟩):=by grind[aMF,gW]
section
variable {b:aA} (hb:m5 b)
include hb
theorem m5.fits:b.Mem.Heap.Bytes.length<=maxLen/\(iF b.Mem.aE).length<=1073741824/\b.aC.cO.length<=maxLen/\b.aQ.length<=maxLen/\(dW b.aQ).length<=1073741824/\b.qT.length<=maxLen:=by obtain⟨h1,h2,h3,h4,_⟩:=lX.facts hb.1.1;have a:=hb.1.2.1.2.1;have c:=hb.1.2.2.1.1;have d:=hb.1.2.2.1.2.1;have e:=hb.1.2.2.2.1;grind[maxLen]
end
def bDY(p:Nat->Bool)(n:Nat):Nat:=((List.range n).filter p).length
theorem yR:∀{l m:List Int},l.Nodup->(∀x∈l,x∈m)->l.length<=m.length
 |[],_,_,_=>jD _
 |a::t,m,hn,h=>by rw[ZU] at hn;have ha:a∈m:=h a (ZS ..);have ih:=yR (l:=t) (m:=m.erase a) hn.2 (λx hx=>(List.mem_erase_of_ne (λe:x=a=>hn.1 aj)).2 (h x (lH _ hx)));grind
theorem a32{p:Nat->Bool}{n:Nat}(hn:l.Nodup)(hr:∀x∈l,0<=x/\x<(n:Int))(hp:∀i:Nat,i<n->(p i=true↔(i:Int)∈l)):bDY p n=l.length:=by
 have e:bDY p n=(((List.range n).filter p).map (λi:Nat=>(i:Int))).length:=by simp[bDY]
 have nd:(((List.range n).filter p).map (λi:Nat=>(i:Int))).Nodup:=by rw[List.nodup_iff_pairwise_ne];refine List.Pairwise.map (R:=λa b:Nat=>a≠b) _ (λa b h=>aa) ?_;grind[List.nodup_range]
 have a:=yR (m:=l) nd (λx hx=>by
  grind)
 have b:=yR (l:=l) (m:=((List.range n).filter p).map (λi:Nat=>(i:Int))) hn (λx hx=>by
  have:=hr x hx;refine AU.2 ⟨x.toNat,ZT.2 ⟨List.mem_range.2 aa,(hp _ aa).2 aj⟩,aa⟩)
 omega
end Go.Gv
end
