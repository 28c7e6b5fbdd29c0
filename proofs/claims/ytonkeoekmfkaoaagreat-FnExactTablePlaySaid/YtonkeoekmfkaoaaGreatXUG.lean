import Derived.Test.YtonkeoekmfkaoaaGreatXUF
set_option linter.unusedVariables false
set_option linter.unusedSimpArgs false
set_option linter.unusedSectionVars false
set_option linter.constructorNameAsVariable false
set_option linter.unnecessarySimpa false
noncomputable section
namespace Go.Gv
variable{h:Heap}{c n s w x:Int}{xs:List Int}{t:List UInt8}{l:List aU}{m:Mem}{i j k p:Nat}{O:Type}
def fX(h:Heap)(p:Nat):List Int:=(h.Bytes.drop (p*64)).take 64
def cJ(h:Heap)(p:Nat):Int:=h.Class.getD p 0
def pB(h:Heap)(p:Nat):Prop:=
 if cJ h p<0 then ∀x∈fX h p,x=0
 else((fX h p).getD 0 0=171/\(fX h p).getD 1 0=cJ h p/\(fX h p).getD 2 0=dK (cJ h p))/\(∀x∈((fX h p).drop 3).take 5,x=0)/\∀i,i<(dK (cJ h p)).toNat->1<=ld h.Bytes (p*64+8+i*(bM (cJ h p)).toNat) 4/\ld h.Bytes (p*64+8+i*(bM (cJ h p)).toNat) 4<=7
instance (h:Heap) (p:Nat):Decidable (pB h p):=by unfold pB;infer_instance
section
variable {h:Heap} (hs:fM h) {p:Nat} (hp:p<6)
include hs hp
theorem W4:(fX h p).length=64:=a2U (by have:=hs.1;omega)
theorem aCJ(hk:k<64):h.Bytes[p*64+k]'(by have:=hs.1;omega)=(fX h p)[k]'(by grind[W4]):=(aRL (show k<((h.Bytes.drop (p*64)).take 64).length by have:=W4 hs hp;grind[fX]) _).symm
theorem aVW(hk:k<64):h.Bytes[p*64+k]'(by have:=hs.1;omega)=(fX h p).getD k 0:=by grind[aCJ]
theorem aC9:h.Class[p]'(by have:=hs.2.1;omega)=cJ h p:=by grind[cJ]
theorem aOE:idx h.Class (p:Int)=some (cJ h p):=by rw[aT (by have:=hs.2.1;omega),aC9 hs hp]
theorem aRM(hk:k<64):idx h.Bytes (((p*64+k:Nat)):Int)=some ((fX h p).getD k 0):=by rw[aT (by have:=hs.1;omega),aVW hs hp hk]
theorem a7C:tU (fX h p):=aX2 hs.2.2.1 _ _
theorem xN(hc:cJ h p=c)(hi:i<(dK c).toNat):(8+i*(bM c).toNat)+4<=64/\0<=(i:Int)*bM c/\((8+i*(bM c).toNat:Nat):Int)=8+(i:Int)*bM c:=by grind[dK,bM]
theorem bB3(hi:i<(dK (cJ h p)).toNat):jP ((p:Int)*4+i) (cJ h p)=((p*64+(8+i*(bM (cJ h p)).toNat):Nat):Int):=by have hz:=xN hs hp rfl hi;have hle:=oW (cJ h p);unfold jP;grind
theorem aCK:SR h (p:Int)=some (decide (pB h p)):=by
 have hb:=hs.1;have hl:=W4 hs hp;have e0:aE ((p:Int)*64)=((p*64+0:Nat):Int):=by grind[dJ]
 have e1:aE (((p*64+0:Nat):Int)+1)=((p*64+1:Nat):Int):=by grind[dJ]
 have e2:aE (((p*64+0:Nat):Int)+2)=((p*64+2:Nat):Int):=by grind[dJ]
 have e3:aE (((p*64+0:Nat):Int)+3)=((p*64+3:Nat):Int):=by grind[dJ]
 have e8:aE (((p*64+0:Nat):Int)+8)=((p*64+8:Nat):Int):=by grind[dJ]
 have e64:aE (((p*64+0:Nat):Int)+64)=((p*64+64:Nat):Int):=by grind[dJ]
 unfold SR;rw[aOE hs hp];simp only[aG];by_cases hc:cJ h p<0
 ·simp only[hc,decide_true,bY,e0];have key:loop (sP h (p:Int)) (((p*64+0:Nat)):Int)=some (if ∀x∈fX h p,x=0 then Out.brk () else Out.ret false):=by
   refine nQ (f:=sP h (p:Int)) (fX h p) (λk=>((p*64+k:Nat):Int)) (λx=>x=0) _ _ (λk hk hx=>?_) (λk hk hx=>?_) ?_
   ·simp only[sP,e0,e64];rw[b8,vN,aCJ hs hp aa,bX];grind
   ·simp only[sP,e0,e64];rw[b8,vN,aCJ hs hp aa];grind
   simp_all[sP]
  rw[key];have hP:pB h p↔∀x∈fX h p,x=0:=by simp_all[pB]
  by_cases h4:∀x∈fX h p,x=0
  ·rw[aN h4,cP (hP.2 h4)];rfl
  ·rw[aS h4,cX (λq=>h4 (hP.1 q))];rfl
 ·have hP:pB h p↔((fX h p).getD 0 0=171/\(fX h p).getD 1 0=cJ h p/\(fX h p).getD 2 0=dK (cJ h p))/\(∀x∈((fX h p).drop 3).take 5,x=0)/\∀i,i<(dK (cJ h p)).toNat->1<=ld h.Bytes (p*64+8+i*(bM (cJ h p)).toNat) 4/\ld h.Bytes (p*64+8+i*(bM (cJ h p)).toNat) 4<=7:=by simp_all[pB,aS]
  simp only[hc,decide_false,bO,bN,e0,e1,e2,aRM hs hp (show 0<64 by omega),aRM hs hp (show 1<64 by omega),aRM hs hp (show 2<64 by omega),aG,i4];by_cases a0:(fX h p).getD 0 0=171
  ·by_cases a1:(fX h p).getD 1 0=cJ h p
   ·by_cases a2:(fX h p).getD 2 0=dK (cJ h p)
    ·have n0:((fX h p).getD 0 0 != 171)=false:=aj
     have n1:((fX h p).getD 1 0 != cJ h p)=false:=aj
     have n2:((fX h p).getD 2 0 != dK (cJ h p))=false:=aj
     simp only[n0,n1,n2,bO,bN,lQ,e0,e3];have hl5:(((fX h p).drop 3).take 5).length=5:=by simp[hl]
     have key:loop (sS h (p:Int)) (((p*64+3:Nat)):Int)=some (if ∀x∈((fX h p).drop 3).take 5,x=0 then Out.brk () else Out.ret false):=by
      refine nQ (f:=sS h (p:Int)) (((fX h p).drop 3).take 5) (λk=>((p*64+(3+k):Nat):Int)) (λx=>x=0) _ _ (λk hk hx=>?_) (λk hk hx=>?_) ?_
      ·simp only[sS,e0,e8];rw[b8,vN,aCJ hs hp aa,bX,<-aRL hk aa,hx];simp;omega
      ·simp only[sS,e0,e8];rw[b8,vN,aCJ hs hp aa,<-aRL hk aa];grind
      simp_all[sS]
     rw[key];by_cases h4:∀x∈((fX h p).drop 3).take 5,x=0
     ·rw[aN h4];simp only[aG,aBK,aBJ];have key2:loop (sQ h (p:Int) (cJ h p)) 0=some (if ∀i,i<(dK (cJ h p)).toNat->1<=ld h.Bytes (p*64+8+i*(bM (cJ h p)).toNat) 4/\ld h.Bytes (p*64+8+i*(bM (cJ h p)).toNat) 4<=7 then Out.brk () else Out.ret false):=by
       have hle:=oW (cJ h p);have hst:∀k:Nat,k<(dK (cJ h p)).toNat->sQ h (p:Int) (cJ h p) (k:Int)=if 1<=ld h.Bytes (p*64+8+k*(bM (cJ h p)).toNat) 4/\ld h.Bytes (p*64+8+k*(bM (cJ h p)).toNat) 4<=7 then some (.next ((k+1:Nat):Int)) else some (.stop (Out.ret false)):=by
        intro k hk;have hz:=xN hs hp rfl hk;have s1:uA (p:Int) (k:Int)=some ((p:Int)*4+k):=by
         unfold uA y6;rw[dI,dI];have g1:(0:Int)<=p/\(p:Int)<=5:=aa
         have g2:(0:Int)<=k/\(k:Int)<=3:=aa
         simp only[aG,g1,g2,and_self,decide_true,gC,bO,bN];grind[dJ]
        have l1:=AL hs.2.2.1 (a:=p*64+(8+k*(bM (cJ h p)).toNat)) (w:=4) aa aa aa;simp only[sQ,i4,aG];rw[b8,s1];simp only[aG,xM,bB3 hs hp hk];rw[show((4:Nat):Int)=4 from rfl] at l1;rw[l1,aAZ,bX (x:=(k:Int)+1)];simp only[aG,dI];grind
       refine DQ (f:=sQ h (p:Int) (cJ h p)) (dK (cJ h p)).toNat (λk=>(k:Int)) (λi=>1<=ld h.Bytes (p*64+8+i*(bM (cJ h p)).toNat) 4/\ld h.Bytes (p*64+8+i*(bM (cJ h p)).toNat) 4<=7) _ _ (λk hk hx=>?_) (λk hk hx=>?_) ?_
       ·grind
       ·rw[hst k hk,aS hx]
       ·simp only[sQ,i4,aG];rw[lA]
      rw[key2];by_cases h5:∀i,i<(dK (cJ h p)).toNat->1<=ld h.Bytes (p*64+8+i*(bM (cJ h p)).toNat) 4/\ld h.Bytes (p*64+8+i*(bM (cJ h p)).toNat) 4<=7
      ·rw[aN h5,cP (hP.2 ⟨⟨a0,a1,a2⟩,h4,h5⟩)];rfl
      ·rw[aS h5,cX (λq=>h5 (hP.1 q).2.2)];rfl
     ·rw[aS h4,cX (λq=>h4 (hP.1 q).2.1)];rfl
    simp_all[lQ]
   simp_all[lQ]
  simp_all[lQ]
end
theorem aCL{l:List Int}(hl:l.length<=maxLen):L4 l=some (decide (∀x∈l,x=0)):=by
 unfold L4;have e:(λy0=>K1 y0)=λy:Int=>some (!decide (y=0)):=by grind[K1]
 simp_all[YM,aX3]
section
variable {h:Heap} (hs:fM h) {p:Nat} (hp:p<6)
include hs hp
theorem bHG:(h.Bytes.take ((p+1)*64)).drop (p*64)=fX h p:=by grind[fX,List.drop_take]
theorem bFU{a:Nat}(ha:a+4<=64):ld (fX h p) a 4=ld h.Bytes (p*64+a) 4:=by grind[ld,fX,List.drop_take,List.drop_drop]
theorem a2V(hk:k<64):idx (fX h p) (k:Int)=some ((fX h p).getD k 0):=by grind[W4,aT]
theorem aCM:S9 h (p:Int)=some (decide (pB h p)):=by
 have hb:=hs.1;have hl:=W4 hs hp;have hm:(fX h p).length<=maxLen:=by grind[maxLen]
 have e0:aE ((p:Int)*64)=((p*64:Nat):Int):=by grind[dJ]
 have e1:aE (aE ((p:Int)+1)*64)=(((p+1)*64:Nat):Int):=by grind[dJ]
 have i0:=a2V hs hp (show 0<64 by omega);have i1:=a2V hs hp (show 1<64 by omega);have i2:=a2V hs hp (show 2<64 by omega);rw[show((0:Nat):Int)=0 from rfl] at i0;rw[show((1:Nat):Int)=1 from rfl] at i1;rw[show((2:Nat):Int)=2 from rfl] at i2;unfold S9;rw[aOE hs hp];simp only[aG,e0,e1,oZ,bHG hs hp];rw[RP];by_cases hc:cJ h p<0
 ·simp_all[pB,aCL]
 ·have hP:pB h p↔((fX h p).getD 0 0=171/\(fX h p).getD 1 0=cJ h p/\(fX h p).getD 2 0=dK (cJ h p))/\(∀x∈((fX h p).drop 3).take 5,x=0)/\∀i,i<(dK (cJ h p)).toNat->1<=ld h.Bytes (p*64+8+i*(bM (cJ h p)).toNat) 4/\ld h.Bytes (p*64+8+i*(bM (cJ h p)).toNat) 4<=7:=by simp_all[pB,aS]
  simp only[hc,decide_false,bO,bN,i0,i1,i2,aG,EX];by_cases a0:(fX h p).getD 0 0=171
  ·by_cases a1:(fX h p).getD 1 0=cJ h p
   ·by_cases a2:(fX h p).getD 2 0=dK (cJ h p)
    ·have n0:((fX h p).getD 0 0 != 171)=false:=aj
     have n1:((fX h p).getD 1 0 != cJ h p)=false:=aj
     have n2:((fX h p).getD 2 0 != dK (cJ h p))=false:=aj
     have t8:((fX h p).take (8:Int).toNat).drop (3:Int).toNat=((fX h p).drop 3).take 5:=by grind[List.drop_take]
     simp only[n0,n1,n2,bO,bN,jU,t8];rw[RP,aCL aj];by_cases h4:∀x∈((fX h p).drop 3).take 5,x=0
     ·simp only[cP h4,aG,gC,bO,bN,EX];have key2:loop (tC h (p:Int) (cJ h p) (dK (cJ h p))) 0=some (if ∀i,i<(dK (cJ h p)).toNat->1<=ld h.Bytes (p*64+8+i*(bM (cJ h p)).toNat) 4/\ld h.Bytes (p*64+8+i*(bM (cJ h p)).toNat) 4<=7 then Out.brk () else Out.ret false):=by
       have hle:=oW (cJ h p);have hst:∀k:Nat,k<(dK (cJ h p)).toNat->tC h (p:Int) (cJ h p) (dK (cJ h p)) (k:Int)=if 1<=ld h.Bytes (p*64+8+k*(bM (cJ h p)).toNat) 4/\ld h.Bytes (p*64+8+k*(bM (cJ h p)).toNat) 4<=7 then some (.next ((k+1:Nat):Int)) else some (.stop (Out.ret false)):=by
        intro k hk;have hz:=xN hs hp rfl hk;have e5:aE (8+aE ((k:Int)*bM (cJ h p)))=((8+k*(bM (cJ h p)).toNat:Nat):Int):=by grind[dJ]
        have l1:=wS (a7C hs hp) (a:=8+k*(bM (cJ h p)).toNat) (w:=4) aa aa aa;rw[show((4:Nat):Int)=4 from rfl,bFU hs hp aa] at l1;simp only[tC,W3,aG,e0,e1,oZ,bHG hs hp,e5];rw[b8,l1,aAZ,bX (x:=(k:Int)+1)];simp only[aG,fH];grind
       refine DQ (f:=tC h (p:Int) (cJ h p) (dK (cJ h p))) (dK (cJ h p)).toNat (λk=>(k:Int)) (λi=>1<=ld h.Bytes (p*64+8+i*(bM (cJ h p)).toNat) 4/\ld h.Bytes (p*64+8+i*(bM (cJ h p)).toNat) 4<=7) _ _ (λk hk hx=>?_) (λk hk hx=>?_) ?_
       ·grind
       ·simp_all
       ·simp only[tC];rw[lA]
      rw[key2];by_cases h5:∀i,i<(dK (cJ h p)).toNat->1<=ld h.Bytes (p*64+8+i*(bM (cJ h p)).toNat) 4/\ld h.Bytes (p*64+8+i*(bM (cJ h p)).toNat) 4<=7
      ·rw[aN h5,cP (hP.2 ⟨⟨a0,a1,a2⟩,h4,h5⟩)];rfl
      ·rw[aS h5,cX (λq=>h5 (hP.1 q).2.2)];rfl
     grind
    ·have n0:((fX h p).getD 0 0 != 171)=false:=aj
     have n1:((fX h p).getD 1 0 != cJ h p)=false:=aj
     have n2:((fX h p).getD 2 0 != dK (cJ h p))=true:=aj
     simp_all[jU]
   simp_all[jU]
  simp_all[jU]
end
instance (h:Heap):Decidable (∀p,p<6->pB h p):=Nat.decidableBallLT 6 λp _=>pB h p
def HOk(h:Heap):Prop:=fM h/\∀p,p<6->pB h p
instance (h:Heap):Decidable (HOk h):=by unfold HOk;infer_instance
theorem aRN(hl:h.Bytes.length<=maxLen):SS h=some (decide (HOk h)):=by
 unfold SS;rw[aNE hl];by_cases hs:fM h
 ·have key:loop (zG h) 0=some (if ∀p,p<6->pB h p then Out.brk () else Out.ret false):=by
   refine DQ (f:=zG h) 6 (λk=>(k:Int)) (λp=>pB h p) _ _ (λk hk hx=>?_) (λk hk hx=>?_) ?_
   ·simp only[zG];rw[b8,aCK hs hk,bX,cP hx];rfl
   ·simp only[zG];rw[b8,aCK hs hk,cX hx];rfl
   ·rfl
  simp only[aG,cP hs,gC,bO,bN];rw[key];by_cases h4:∀p,p<6->pB h p
  ·rw[aN h4,cP (show HOk h from⟨hs,h4⟩)];rfl
  ·rw[aS h4,cX (λq:HOk h=>h4 q.2)];rfl
 grind[HOk]
theorem RI(hl:h.Bytes.length<=maxLen):L5 h=some (decide (HOk h)):=by
 unfold L5;rw[RH hl];by_cases hs:fM h
 ·have key:loop (zQ h) 0=some (if ∀p,p<6->pB h p then Out.brk () else Out.ret false):=by
   refine DQ (f:=zQ h) 6 (λk=>(k:Int)) (λp=>pB h p) _ _ (λk hk hx=>?_) (λk hk hx=>?_) ?_
   ·simp only[zQ];rw[b8,aCM hs hk,bX,cP hx];rfl
   ·simp only[zQ];rw[b8,aCM hs hk,cX hx];rfl
   ·rfl
  simp only[aG,cP hs,gC,bO,bN];rw[key];by_cases h4:∀p,p<6->pB h p
  ·rw[aN h4,cP (show HOk h from⟨hs,h4⟩)];rfl
  ·rw[aS h4,cX (λq:HOk h=>h4 q.2)];rfl
 grind[HOk]
def cA(h:Heap)(s:Int):Int:=if(0<=s/\s<=23)/\s % 4<dK (cJ h (s/4).toNat) then cJ h (s/4).toNat else -1
theorem T2(hc:0<=cA h s):(0<=s/\s<=23)/\s % 4<dK (cJ h (s/4).toNat)/\cA h s=cJ h (s/4).toNat:=by unfold cA at hc ⊢;omega
theorem mJ(hs:fM h)(s:Int):mW h s=some (cA h s):=by
 unfold mW vT cA;rw[aCI,Z7];by_cases h1:0<=s/\s<=23
 ·obtain⟨k,rfl⟩:=bDY h1.1;have hk:k/4<6:=aa
  have e1:((k:Int)/4)=((k/4:Nat):Int):=aa
  have hi:=aOE hs hk;have n1:¬((k/4:Nat):Int)<0:=aa
  simp only[h1,and_self,bY,aG,e1,n1,decide_false,bO,bN,hi,oZ,true_and];grind[aX1,i4]
 ·simp[h1]
theorem kG(hs:fM h)(s:Int):lI h s=some (cA h s):=by
 unfold lI ED cA;rw[AK];by_cases h1:0<=s/\s<=23
 ·obtain⟨k,rfl⟩:=bDY h1.1;have hk:k/4<6:=aa
  have e1:((k:Int)/4)=((k/4:Nat):Int):=aa
  have hi:=aOE hs hk;have e2:aE (Int.tdiv (k:Int) 4)=((k/4:Nat):Int):=by grind[dJ]
  simp only[h1,and_self,decide_true,gC,bO,bY,aG,e1,e2,bN,hi,oZ,true_and,DR];by_cases h3:(k:Int) % 4<dK (cJ h (k/4))
  ·have hm:=YL (c:=cJ h (k/4)) aa h3;have hg:¬jP (k:Int) (cJ h (k/4))<0:=by unfold jP;omega
   grind
  simp_all[jP,aS]
 ·simp[h1]
def nR(h:Heap)(s:Int):Int:=ld h.Bytes (jP s (cA h s)).toNat 4
theorem aDA(hc:0<=cA h s):0<=jP s (cA h s)/\jP s (cA h s)+4<=384:=by
 obtain⟨h1,h2,h3⟩:=T2 hc;rw[h3];have hm:=YL (c:=cJ h (s/4).toNat) aa h2;have hst:0<bM (cJ h (s/4).toNat):=by have:0<=cJ h (s/4).toNat/\cJ h (s/4).toNat<=2:=AJ.1 aa;rcases BX this with e|e|e<;>rw[e]<;>decide
 have:4<=bM (cJ h (s/4).toNat):=by have:0<=cJ h (s/4).toNat/\cJ h (s/4).toNat<=2:=AJ.1 aa;rcases BX this with e|e|e<;>rw[e]<;>decide
 unfold jP;omega
theorem rM(hs:fM h)(hc:0<=cA h s):y8 h s=some (nR h s):=by have hg:=aDA hc;unfold y8;rw[mJ hs];simp only[aG,xM];have l1:=AL hs.2.2.1 (a:=(jP s (cA h s)).toNat) (w:=4) aa (by have:=hs.1;omega) (by have:=hs.1;omega);rw[show((4:Nat):Int)=4 from rfl,Int.toNat_of_nonneg hg.1] at l1;rw[l1];rfl
theorem LM(hs:fM h)(hc:0<=cA h s):E2 h s=some (nR h s):=by
 have hg:=aDA hc;have hm:h.Bytes.length<=maxLen:=by rw[hs.1];simp[maxLen]
 unfold E2 H0;rw[RH hm,kG hs];have l1:=wS hs.2.2.1 (a:=(jP s (cA h s)).toNat) (w:=4) aa (by have:=hs.1;omega) (by have:=hs.1;omega);grind[DR,nR]
def fO(l:List aU):List Int:=l.flatMap aU.aV
def gE(l:aD):List Int:=fO l.Global++fO l.Own
def LOk(l:aD):Prop:=l.Global.length=3/\l.Own.length=9/\(∀s∈l.Own,s.aV.length<=2)/\(∀x∈gE l,0<=x/\x<=23)/\(gE l).Nodup
instance (l:aD):Decidable (LOk l):=by unfold LOk;infer_instance
theorem W5(h:k<l.length):fO (l.take (k+1))=fO (l.take k)++l[k].aV:=by grind[fO,R0]
theorem aX4(l:List aU)(k:Nat):(fO (l.take k)).length<=(fO l).length:=by grind[fO,aDY]
theorem aRO(l:List aU)(h:k<l.length):l[k].aV.length<=(fO l).length:=by have h1:=aX4 l (k+1);grind[W5]
theorem aEO{l:aD}(h:(gE l).length<=1073741824)(hg:l.Global.length<=maxLen)(ho:l.Own.length<=maxLen):P4 l=some (gE l):=by
 have hsum:(fO l.Global).length+(fO l.Own).length<=1073741824:=by grind[gE]
 unfold P4;have k1:loop (C4 l) ([],0)=some (fO l.Global):=by
  refine eS (f:=C4 l) l.Global.length (λk=>(fO (l.Global.take k),(k:Int))) _ (λk hk=>?_) ?_
  ·have h1:=aX4 l.Global (k+1);rw[W5 hk] at h1;simp only[C4];rw[b8,aT hk];grind[aZ,W5,mU]
  grind[C4]
 rw[k1];simp only[aG,aD5,aD4];have k2:loop (C3 l) (fO l.Global,0)=some (gE l):=by
  have:=eS (f:=C3 l) l.Own.length (λk=>(fO l.Global++fO (l.Own.take k),(k:Int))) (gE l) (λk hk=>?_) ?_
  ·grind[fO]
  ·have h1:=aX4 l.Own (k+1);rw[W5 hk] at h1;simp only[C3];rw[b8,aT hk];grind[aZ,W5,mU]
  grind[C3,gE]
 rw[k2];rfl
theorem U2{l:List Int}(hl:l.length<=maxLen)(x:Int):JW l x=some (decide (x∈l)):=by
 unfold JW;have key:loop (xA l x) 0=some (if ∀y∈l,y≠x then Out.brk () else Out.ret true):=by
  refine nQ (f:=xA l x) l (λk=>(k:Int)) (λy=>y≠x) _ _ (λk h hp=>?_) (λk h hp=>?_) ?_
  ·simp only[xA];rw[b8,aT h,mU (MO h hl)];have:(l[k] == x)=false:=by simpa using hp
   simp only[aG,this,bO,bN]
  ·simp only[xA];rw[b8,aT h];have:(l[k] == x)=true:=by simpa using hp
   simp only[aG,this,bY]
  ·simp[xA]
 rw[key];by_cases h:x∈l
 ·rw[aS (λq=>q x h rfl),cP h];rfl
 ·rw[aN (λy hy (e:y=x)=>h (e ▸ hy)),cX h];rfl
theorem aRP(l:List Int):l.Nodup↔∀k (h:k<l.length),l[k]∉l.take k:=by grind[List.pairwise_iff_getElem,List.mem_take_iff_getElem]
theorem aNF{l:aD}(h:(gE l).length<=1073741824):OK l=some (decide (LOk l)):=by
 unfold OK D2;by_cases hg:l.Global.length=3
 ·by_cases ho:l.Own.length=9
  ·have n1:((l.Global.length:Int) != 3)=false:=ah
   have n2:((l.Own.length:Int) != 9)=false:=ah
   simp only[n1,n2,bO,bN];have k1:loop (pQ l) 0=some (if ∀s∈l.Own,s.aV.length<=2 then Out.brk () else Out.ret false):=by
    refine nQ (f:=pQ l) l.Own (λk=>(k:Int)) (λs=>s.aV.length<=2) _ _ (λk hk hp=>?_) (λk hk hp=>?_) ?_
    ·simp only[pQ];rw[b8,aT hk,bX];simp only[aG];rw[lA];rfl
    ·simp only[pQ];rw[b8,aT hk];simp only[aG];rw[b8]
    ·simp[pQ]
   rw[k1];by_cases h2:∀s∈l.Own,s.aV.length<=2
   ·rw[aN h2];simp only[aG,ZE,ZD];rw[aEO h (by rw[hg];simp[maxLen]) (by rw[ho];simp[maxLen])];simp only[aG];have k2:loop (pP (gE l)) 0=some (if ∀k,k<(gE l).length->(0<=(gE l).getD k 0/\(gE l).getD k 0<=23)/\(gE l).getD k 0∉(gE l).take k then Out.brk () else Out.ret false):=by
     have hst:∀k,k<(gE l).length->pP (gE l) (k:Int)=if(0<=(gE l).getD k 0/\(gE l).getD k 0<=23)/\(gE l).getD k 0∉(gE l).take k then some (.next ((k+1:Nat):Int)) else some (.stop (Out.ret false)):=by
      intro k hk;have e:(gE l).getD k 0=(gE l)[k]:=by rw[VG,lO hk];rfl
      rw[e];simp only[pP];rw[b8,aT hk];simp only[aG,dI,D1];by_cases q:0<=(gE l)[k]/\(gE l)[k]<=23
      ·rw[cP q];simp only[gC,bO,bN,oZ,aAX];rw[RP,U2 (by simp[maxLen];omega),bX];by_cases q2:(gE l)[k]∈(gE l).take k
       ·rw[aS (λx=>x.2 q2),cP q2];rfl
       ·rw[aN ⟨q,q2⟩,cX q2];rfl
      ·rw[cX q];simp only[ML,bY];rw[aS (λx=>q x.1)]
     refine DQ (f:=pP (gE l)) (gE l).length (λk=>(k:Int)) (λk=>(0<=(gE l).getD k 0/\(gE l).getD k 0<=23)/\(gE l).getD k 0∉(gE l).take k) _ _ (λk hk hx=>?_) (λk hk hx=>?_) ?_
     ·rw[hst k hk,aN hx]
     ·rw[hst k hk,aS hx]
     ·simp[pP]
    rw[k2];have hiff:LOk l↔∀k,k<(gE l).length->(0<=(gE l).getD k 0/\(gE l).getD k 0<=23)/\(gE l).getD k 0∉(gE l).take k:=by
     have e:∀k (hk:k<(gE l).length),(gE l).getD k 0=(gE l)[k]:=λk hk=>aj
     constructor
     ·rintro⟨_,_,_,q1,q2⟩ k hk;rw[e k hk];exact⟨q1 _ (cM hk),(aRP _).1 q2 k hk⟩
     ·intro q;refine⟨hg,ho,h2,λx hx=>?_,(aRP _).2 λk hk=>?_⟩
      ·obtain⟨k,hk,rfl⟩:=aFW.1 hx;have:=(q k hk).1;rw[e k hk] at this;exact this
      ·have:=(q k hk).2;rw[e k hk] at this;exact this
    by_cases q:LOk l
    ·rw[aN (hiff.1 q),cP q];rfl
    ·rw[aS (λx=>q (hiff.2 x)),cX q];rfl
   ·rw[aS h2,cX (λq:LOk l=>h2 q.2.2.1)];rfl
  ·have n1:((l.Global.length:Int) != 3)=false:=ah
   have n2:((l.Own.length:Int) != 9)=true:=ah
   simp_all[LOk]
 ·have n1:((l.Global.length:Int) != 3)=true:=ah
  simp_all[LOk]
def DS:List Bool->List Int->Option (List Bool)
 |met,[]=>some met
 |met,x::r=>if(0<=x/\x<=23)/\met.getD x.toNat true=false then DS (met.set x.toNat true) r else none
theorem aVX:∀{xs:List Int} {met m:List Bool},DS met xs=some m->m.length=met.length
 |[],met,m,h=>by grind[DS]
 |x::r,met,m,h=>by
  simp only[DS] at h;split at h
  ·have:=aVX h;grind
  ·cases h
theorem aHX:∀(a b:List Int) (met:List Bool),DS met (a++b)=(DS met a).bind λm=>DS m b
 |[],b,met=>rfl
 |x::r,b,met=>by
  simp only[aDW,DS];split
  ·exact aHX r b _
  ·rfl
theorem aFO:∀(xs:List Int) (met:List Bool),met.length=24->((DS met xs).isSome=true↔(∀x∈xs,0<=x/\x<=23)/\xs.Nodup/\∀x∈xs,met.getD x.toNat true=false)
 |[],met,hm=>by simp[DS]
 |x::r,met,hm=>by
  simp only[DS];by_cases h:(0<=x/\x<=23)/\met.getD x.toNat true=false
  ·rw[aN h,aFO r _ aj];grind
  grind
def aX5:Option (List Bool)->Out (List Bool) Bool
 |some m=>.brk m
 |none=>.ret false
theorem bLO{s:aU}(hl:s.aV.length<=maxLen):∀d k (met:List Bool),k+d=s.aV.length->met.length=24->loop (wE s) ((k:Int),met)=some (aX5 (DS met (s.aV.drop k))):=by
 intro d;induction d with
 |zero=>
  intro k met hk hm;rw[bQ (r:=Out.brk met) (by grind[wE]),List.drop_eq_nil_of_le aa];rfl
 |succ d ih=>
  intro k met hk hm;have hk':k<s.aV.length:=aa
  have hd:s.aV.drop k=s.aV[k]::s.aV.drop (k+1):=B6 hk';have hst:wE s ((k:Int),met)=if(0<=s.aV[k]/\s.aV[k]<=23)/\met.getD s.aV[k].toNat true=false then some (.next (((k+1:Nat):Int),met.set s.aV[k].toNat true)) else some (.stop (Out.ret false)):=by
   simp only[wE];rw[b8,aT hk'];simp only[aG,AK];generalize s.aV[k]=x;by_cases q:0<=x/\x<=23
   ·obtain⟨j,rfl⟩:=bDY q.1;have hj:j<met.length:=aa
    have e:met.getD j true=met[j]:=aj
    simp only[q,and_self,decide_true,gC,bO,bN,wD,oZ,true_and,e];rw[RP,aT hj];simp only[aG];cases met[j]
    ·simp only[bO,bN,bY];grind[aZ,mU]
    ·simp
   ·rw[cX q];simp only[ML,bY,wD];grind
  rw[hd,DS];by_cases q:(0<=s.aV[k]/\s.aV[k]<=23)/\met.getD s.aV[k].toNat true=false
  ·rw[aN q] at hst ⊢;grind[bU]
  ·rw[aS q] at hst ⊢;rw[bQ hst];rfl
def aK0(l:List aU):Prop:=∀s∈l,s.aV.length<=2
instance (l:List aU):Decidable (aK0 l):=by unfold aK0;infer_instance
theorem bLP{l:aD}(ho:l.Own.length=9)(hn:(l.Own++l.Global).length<=1000)(hs:∀s∈l.Own++l.Global,s.aV.length<=maxLen):∀d k (met:List Bool),k+d=(l.Own++l.Global).length->met.length=24 ->
  loop (wF l) ((k:Int),met)=some (if aK0 (((l.Own++l.Global).drop k).take (9-k))/\(DS met (fO ((l.Own++l.Global).drop k))).isSome=true then Out.brk () else Out.ret false):=by
 intro d;induction d with
 |zero=>
  intro k met hk hm;rw[List.drop_eq_nil_of_le aa,aN ⟨by simp[aK0],rfl⟩];simp_all[bQ,wF]
 |succ d ih=>
  intro k met hk hm;have hk':k<(l.Own++l.Global).length:=aa
  have hd:(l.Own++l.Global).drop k=(l.Own++l.Global)[k]::(l.Own++l.Global).drop (k+1):=B6 hk';have hsk:=hs _ (cM hk');have hf:fO ((l.Own++l.Global).drop k)=(l.Own++l.Global)[k].aV++fO ((l.Own++l.Global).drop (k+1)):=by grind[fO]
  have hin:∀b:Bool,pS (k:Int) met (l.Own++l.Global)[k] b=if b then some (.stop (Out.ret false)) else(match DS met (l.Own++l.Global)[k].aV with|some m=>some (.next (((k+1:Nat):Int),m))|none=>some (.stop (Out.ret false))):=by
   intro b;have h4:=bLO hsk _ 0 met (aD0 _) hm;rw[show((0:Nat):Int)=0 from rfl,aAX] at h4;unfold pS;rw[h4];cases b
   ·simp only[bO,bN,aG];cases DS met (l.Own++l.Global)[k].aV with
    |none=>rfl
    |some m=>simp only[aX5,ZI,ZH];rw[bX];rfl
   ·rfl
  have hst:wF l ((k:Int),met)=pS (k:Int) met (l.Own++l.Global)[k] (decide (k<9/\2<(l.Own++l.Global)[k].aV.length)):=by
   simp only[wF];rw[aN aj,aT hk'];simp only[aG];by_cases h9:k<9
   ·rw[b8];congr 1
    (simp_all;omega)
   grind
  rw[hin] at hst;by_cases h2:k<9/\2<(l.Own++l.Global)[k].aV.length
  ·rw[cP h2] at hst;simp only[bY] at hst;rw[bQ hst,aS];rintro⟨q,_⟩;have e:9-k=(9-(k+1))+1:=aa
   rw[hd,e,List.take_succ_cons] at q;have:=q _ List.mem_cons_self;omega
  ·rw[cX h2] at hst;simp only[bO,bN] at hst;have hcond:aK0 (((l.Own++l.Global).drop k).take (9-k))↔aK0 (((l.Own++l.Global).drop (k+1)).take (9-(k+1))):=by
    unfold aK0;by_cases h9:k<9
    ·have e:9-k=(9-(k+1))+1:=aa
     simp_all
    ·have e:9-k=0:=aa
     have e':9-(k+1)=0:=aa
     simp_all
   rw[hf,aHX];cases hg:DS met (l.Own++l.Global)[k].aV with
   |none=>
    simp_all[bQ]
   |some m=>
    rw[hg] at hst;rw[bU hst,ih (k+1) m aa (by grind[aVX])];simp_all
theorem Z8{l:aD}(h:(gE l).length<=1073741824):qJ l=some (decide (LOk l)):=by
 unfold qJ D9;by_cases hg:l.Global.length=3
 ·by_cases ho:l.Own.length=9
  ·have n1:((l.Global.length:Int) != 3)=false:=ah
   have n2:((l.Own.length:Int) != 9)=false:=ah
   simp only[n1,n2,bO,bN];rw[RP];have hsl:∀s∈l.Own++l.Global,s.aV.length<=maxLen:=by grind[gE,maxLen,aFW,aRO]
   have key:=bLP ho ah hsl (l.Own++l.Global).length 0 (List.replicate 24 false) aa rfl;rw[show((0:Nat):Int)=0 from rfl,aAX,Nat.sub_zero] at key;rw[key];have et:(l.Own++l.Global).take 9=l.Own:=aj
   have ef:fO (l.Own++l.Global)=fO l.Own++fO l.Global:=by simp[fO]
   have hm0:∀j:Nat,j<24->(List.replicate 24 false).getD j true=false:=ai
   have hiff:LOk l↔aK0 ((l.Own++l.Global).take 9)/\(DS (List.replicate 24 false) (fO (l.Own++l.Global))).isSome=true:=by
    rw[aFO _ _ rfl,et,ef];have hp:(fO l.Own++fO l.Global).Perm (gE l):=List.perm_append_comm;constructor
    ·rintro⟨_,_,q1,q2,q3⟩;exact⟨q1,λx hx=>q2 x (hp.mem_iff.1 hx),hp.nodup_iff.2 q3,λx hx=>hm0 _ aj⟩
    ·rintro⟨q1,q2,q3,_⟩;exact⟨hg,ho,q1,λx hx=>q2 x (hp.mem_iff.2 hx),hp.nodup_iff.1 q3⟩
   by_cases q:LOk l
   ·rw[aN (hiff.1 q),cP q];rfl
   ·rw[aS (λx=>q (hiff.2 x)),cX q];rfl
  ·have n1:((l.Global.length:Int) != 3)=false:=ah
   have n2:((l.Own.length:Int) != 9)=true:=ah
   simp_all[LOk]
 ·have n1:((l.Global.length:Int) != 3)=true:=ah
  simp_all[LOk]
def I8(h:Heap)(l:List Int)(c:Int):Prop:=∀x∈l,cA h x=c/\nR h x<=6
instance (h:Heap) (l:List Int) (c:Int):Decidable (I8 h l c):=by unfold I8;infer_instance
theorem W6(hs:fM h){l:List Int}(hl:l.length<=maxLen)(hc:0<=c):C7 h l c=some (decide (I8 h l c)):=by
 unfold C7;have key:loop (nH h l c) 0=some (if ∀x∈l,cA h x=c/\nR h x<=6 then Out.brk () else Out.ret false):=by
  have hst:∀k (hk:k<l.length),nH h l c (k:Int)=if cA h l[k]=c/\nR h l[k]<=6 then some (.next ((k+1:Nat):Int)) else some (.stop (Out.ret false)):=by
   intro k hk;simp only[nH];rw[b8,aT hk];generalize l[k]=x;simp only[aG,mJ hs,A6];by_cases q:cA h x=c
   ·have n1:(cA h x != c)=false:=by simp only[bne_eq_false_iff_eq];exact q
    simp only[n1,bO,bN,rM hs (show 0<=cA h x by omega),aG,mU (MO hk hl)];by_cases q2:nR h x<=6
    ·rw[lA,aN ⟨q,q2⟩]
    ·rw[b8,aS (λx=>q2 x.2)]
   ·have n1:(cA h x != c)=true:=by simp only[bne_iff_ne];exact q
    simp only[n1,bY];rw[aS (λx=>q x.1)]
  refine nQ (f:=nH h l c) l (λk=>(k:Int)) (λx=>cA h x=c/\nR h x<=6) _ _ (λk hk hp=>?_) (λk hk hp=>?_) ?_
  ·rw[hst k hk,aN hp]
  ·rw[hst k hk,aS hp]
  ·simp[nH]
 rw[key];by_cases q:∀x∈l,cA h x=c/\nR h x<=6
 ·rw[aN q,cP (show I8 h l c from q)];rfl
 ·rw[aS q,cX (show ¬I8 h l c from q)];rfl
theorem W7(hs:fM h){s:aU}(hl:s.aV.length<=maxLen)(hc:0<=c):DG h s c=some (decide (I8 h s.aV c)):=by
 unfold DG;have key:loop (nJ h s c) 0=some (if ∀x∈s.aV,cA h x=c/\nR h x<=6 then Out.brk () else Out.ret false):=by
  have hst:∀k (hk:k<s.aV.length),nJ h s c (k:Int)=if cA h s.aV[k]=c/\nR h s.aV[k]<=6 then some (.next ((k+1:Nat):Int)) else some (.stop (Out.ret false)):=by
   intro k hk;simp only[nJ];rw[b8,aT hk];generalize s.aV[k]=x;simp only[aG,kG hs,BJ];by_cases q:cA h x=c
   ·have n1:(cA h x != c)=false:=by simp only[bne_eq_false_iff_eq];exact q
    simp only[n1,bO,bN,LM hs (show 0<=cA h x by omega),aG,mU (MO hk hl)];by_cases q2:nR h x<=6
    ·rw[lA,aN ⟨q,q2⟩]
    ·rw[b8,aS (λx=>q2 x.2)]
   ·have n1:(cA h x != c)=true:=by simp only[bne_iff_ne];exact q
    simp only[n1,bY];rw[aS (λx=>q x.1)]
  refine nQ (f:=nJ h s c) s.aV (λk=>(k:Int)) (λx=>cA h x=c/\nR h x<=6) _ _ (λk hk hp=>?_) (λk hk hp=>?_) ?_
  ·rw[hst k hk,aN hp]
  ·rw[hst k hk,aS hp]
  ·simp[nJ]
 rw[key];by_cases q:∀x∈s.aV,cA h x=c/\nR h x<=6
 ·rw[aN q,cP (show I8 h s.aV c from q)];rfl
 ·rw[aS q,cX (show ¬I8 h s.aV c from q)];rfl
def hY(l:List aU)(k:Nat):List Int:=(l.getD k ⟨[]⟩).aV
theorem eU(h:k<l.length):l[k].aV=hY l k:=by grind[hY]
def U3(m:Mem)(k:Nat):Prop:=I8 m.Heap (hY m.aD.Global k) (k:Int)
def JH(m:Mem)(k:Nat):Prop:=I8 m.Heap (hY m.aD.Own k) ((k % 3:Nat):Int)
instance (m:Mem) (k:Nat):Decidable (U3 m k):=by unfold U3;infer_instance
instance (m:Mem) (k:Nat):Decidable (JH m k):=by unfold JH;infer_instance
instance (m:Mem):Decidable (∀k,k<3->U3 m k):=Nat.decidableBallLT 3 λk _=>U3 m k
instance (m:Mem):Decidable (∀k,k<9->JH m k):=Nat.decidableBallLT 9 λk _=>JH m k
instance (m:Mem) (c:Nat):Decidable (∀w,w<3->JH m (w*3+c)):=Nat.decidableBallLT 3 λw _=>JH m (w*3+c)
instance (m:Mem):Decidable (∀k,k<3->U3 m k/\∀w,w<3->JH m (w*3+k)):=Nat.decidableBallLT 3 λk _=>U3 m k/\∀w,w<3->JH m (w*3+k)
def pC(m:Mem):Prop:=(HOk m.Heap/\LOk m.aD)/\(∀k,k<3->U3 m k)/\∀k,k<9->JH m k
instance (m:Mem):Decidable (pC m):=by unfold pC;infer_instance
theorem LOk.aK1{l:aD}(h:LOk l)(hb:(gE l).length<=1073741824):(∀s∈l.Global,s.aV.length<=1073741824)/\∀s∈l.Own,s.aV.length<=1073741824:=by grind[gE,aFW,aRO]
theorem a50:(∀k,k<3->U3 m k/\∀w,w<3->JH m (w*3+k))↔(∀k,k<3->U3 m k)/\∀k,k<9->JH m k:=by
 constructor
 ·intro h;refine⟨λk hk=>(h k hk).1,λk hk=>?_⟩;have:=(h (k % 3) aa).2 (k/3) aa;grind
 grind
theorem U4(hb:m.Heap.Bytes.length<=maxLen)(hl:(gE m.aD).length<=1073741824):J1 m=some (decide (pC m)):=by
 unfold J1 KX;rw[aRN hb,aNF hl];by_cases h1:HOk m.Heap
 ·by_cases h2:LOk m.aD
  ·have hmx:(1073741824:Nat)<=maxLen:=by simp[maxLen]
   have hsl:=LOk.aK1 h2 hl;simp only[cP h1,cP h2,aG,gC,bO,bN];have k3:∀c:Nat,c<3->loop (C8 m (c:Int)) 0=some (if ∀w,w<3->JH m (w*3+c) then Out.brk () else Out.ret false):=by
    intro c hc;have hst:∀w:Nat,w<3->C8 m (c:Int) (w:Int)=if JH m (w*3+c) then some (.next ((w+1:Nat):Int)) else some (.stop (Out.ret false)):=by
     intro w hw;have hk:w*3+c<m.aD.Own.length:=by rw[h2.2.1];omega
     have e:yZ (w:Int) (c:Int)=some ((w*3+c:Nat):Int):=by unfold yZ C1;rw[dI,dI,cP aa,cP aa];simp only[aG,gC,bO,bN];grind[dJ]
     have hlen:=hsl.2 _ (cM hk);simp only[C8];rw[b8,e];simp only[aG,aT hk];rw[W6 h1.1 aa aa,eU hk];have em:(w*3+c) % 3=c:=aa
     have ho:JH m (w*3+c)↔I8 m.Heap (hY m.aD.Own (w*3+c)) (c:Int):=by grind[JH]
     rw[bX];grind
    refine DQ (f:=C8 m (c:Int)) 3 (λk=>(k:Int)) (λw=>JH m (w*3+c)) _ _ (λk hk hx=>?_) (λk hk hx=>?_) ?_
    ·grind
    ·grind
    ·rfl
   have k2:loop (C9 m) 0=some (if ∀k,k<3->U3 m k/\∀w,w<3->JH m (w*3+k) then Out.brk () else Out.ret false):=by
    have hst:∀c:Nat,c<3->C9 m (c:Int)=if U3 m c/\∀w,w<3->JH m (w*3+c) then some (.next ((c+1:Nat):Int)) else some (.stop (Out.ret false)):=by
     intro c hc;have hk:c<m.aD.Global.length:=by rw[h2.1];omega
     have hlen:=hsl.1 _ (cM hk);simp only[C9];rw[b8];simp only[aG,aT hk];rw[W6 h1.1 aa aa,eU hk,k3 c hc];by_cases q:U3 m c
     ·have q':I8 m.Heap (hY m.aD.Global c) (c:Int):=q;rw[cP q'];simp only[aG,gC,bO,bN];by_cases q2:∀w,w<3->JH m (w*3+c)
      ·rw[aN q2,aN ⟨q,q2⟩];simp only[aD7,aD6];grind[dJ]
      ·rw[aS q2,aS (λx=>q2 x.2)];rfl
     ·have q':¬I8 m.Heap (hY m.aD.Global c) (c:Int):=q;grind
    refine DQ (f:=C9 m) 3 (λk=>(k:Int)) (λk=>U3 m k/\∀w,w<3->JH m (w*3+k)) _ _ (λk hk hx=>?_) (λk hk hx=>?_) ?_
    ·grind
    ·grind
    ·rfl
   rw[k2];by_cases q:∀k,k<3->U3 m k/\∀w,w<3->JH m (w*3+k)
   ·rw[aN q,cP (show pC m from⟨⟨h1,h2⟩,a50.1 q⟩)];rfl
   ·rw[aS q,cX (λx:pC m=>q (a50.2 x.2))];rfl
  grind[pC]
 grind[pC]
theorem U5(hb:m.Heap.Bytes.length<=maxLen)(hl:(gE m.aD).length<=1073741824):J6 m=some (decide (pC m)):=by
 unfold J6 K6;rw[RI hb,Z8 hl];by_cases h1:HOk m.Heap
 ·by_cases h2:LOk m.aD
  ·have hmx:(1073741824:Nat)<=maxLen:=by simp[maxLen]
   have hsl:=LOk.aK1 h2 hl;simp only[cP h1,cP h2,aG,gC,bO,bN];have k3:loop (xI m) 0=some (if ∀k,k<9->JH m k then Out.brk () else Out.ret false):=by
    have hst:∀w:Nat,w<9->xI m (w:Int)=if JH m w then some (.next ((w+1:Nat):Int)) else some (.stop (Out.ret false)):=by
     intro w hw;have hk:w<m.aD.Own.length:=by rw[h2.2.1];omega
     have hlen:=hsl.2 _ (cM hk);have em:Int.tmod (w:Int) 3=((w % 3:Nat):Int):=aj
     simp only[xI];rw[b8];simp only[aG,aT hk,em];rw[W7 h1.1 aa aa,eU hk,bX];by_cases q:JH m w
     ·rw[aN q,cP (show I8 m.Heap (hY m.aD.Own w) ((w % 3:Nat):Int) from q)];rfl
     ·rw[aS q,cX (show ¬I8 m.Heap (hY m.aD.Own w) ((w % 3:Nat):Int) from q)];rfl
    refine DQ (f:=xI m) 9 (λk=>(k:Int)) (λw=>JH m w) _ _ (λk hk hx=>?_) (λk hk hx=>?_) ?_
    ·grind
    ·grind
    ·simp[xI,h2.2.1]
   have k2:loop (xJ m) 0=some (if ∀k,k<3->U3 m k then Out.brk () else Out.ret false):=by
    have hst:∀w:Nat,w<3->xJ m (w:Int)=if U3 m w then some (.next ((w+1:Nat):Int)) else some (.stop (Out.ret false)):=by
     intro w hw;have hk:w<m.aD.Global.length:=by rw[h2.1];omega
     have hlen:=hsl.1 _ (cM hk);simp only[xJ];rw[b8];simp only[aG,aT hk];rw[W7 h1.1 aa aa,eU hk,bX];by_cases q:U3 m w
     ·rw[aN q,cP (show I8 m.Heap (hY m.aD.Global w) (w:Int) from q)];rfl
     ·rw[aS q,cX (show ¬I8 m.Heap (hY m.aD.Global w) (w:Int) from q)];rfl
    refine DQ (f:=xJ m) 3 (λk=>(k:Int)) (λw=>U3 m w) _ _ (λk hk hx=>?_) (λk hk hx=>?_) ?_
    ·grind
    ·grind
    ·simp[xJ,h2.1]
   rw[k2];by_cases q:∀k,k<3->U3 m k
   ·rw[aN q];simp only[aG,aD9,aD8];rw[k3];by_cases q2:∀k,k<9->JH m k
    ·rw[aN q2,cP (show pC m from⟨⟨h1,h2⟩,q,q2⟩)];rfl
    ·rw[aS q2,cX (λx:pC m=>q2 x.2.2)];rfl
   ·rw[aS q,cX (λx:pC m=>q x.2.1)];rfl
  grind[pC]
 grind[pC]
theorem MD{s:aU}(h:s∈l):s.aV.length<=(fO l).length:=by grind[aFW,aRO]
theorem wU(l:aD):(gE l).length=(fO l.Global).length+(fO l.Own).length:=by simp[gE]
def FG(m:Mem):Prop:=m.Heap.Bytes.length<=1048576/\m.Heap.Class.length<=1048576/\m.aD.Global.length<=1048576/\m.aD.Own.length<=1048576/\(gE m.aD).length<=1048576
theorem FG.aK1(h:FG m):(∀s∈m.aD.Global,s.aV.length<=1048576)/\∀s∈m.aD.Own,s.aV.length<=1048576:=by have:=wU m.aD;have h5:=h.2.2.2.2;exact⟨λs hm=>by have:=MD hm;omega,λs hm=>by have:=MD hm;omega⟩
def POk(e:Int)(p:lF):Prop:=(0<=p.aQ/\p.aQ<=e)/\(0<=p.Seen/\p.Seen<=2)/\(p.On=false->p=⟨false,0,false,0⟩)
instance (e:Int) (p:lF):Decidable (POk e p):=by unfold POk;infer_instance
def COk(c:aJ):Prop:=(0<=c.aQ/\c.aQ<=100000)/\c.bS.length=3/\∀p∈c.bS,POk c.aQ p
instance (c:aJ):Decidable (COk c):=by unfold COk;infer_instance
theorem kH(c:aJ):uM c=some (decide (COk c)):=by
 unfold uM;rw[dI];by_cases h1:0<=c.aQ/\c.aQ<=100000
 ·by_cases h2:c.bS.length=3
  ·simp only[aG,h1,h2,pI];have key:∀k:Nat,k<=3->loop (vW c) (k:Int)=some (if ∀p∈c.bS.drop k,POk c.aQ p then Out.brk () else Out.ret false):=by
    refine aWM 3 _ λk hk=>?_;by_cases h3:k<3
    ·have hd:c.bS.drop k=c.bS[k]::c.bS.drop (k+1):=B6 aa;simp only[vW];rw[b8,vN];simp only[aG,dI,mE,hd];rw[mU (by simp[maxLen];omega)];generalize c.bS[k]=p;have hp:POk c.aQ p↔decide (0<=p.aQ/\p.aQ<=c.aQ)=true/\decide (0<=p.Seen/\p.Seen<=2)=true/\(p.On=false->decide (p=⟨false,0,false,0⟩)=true):=by simp only[POk,decide_eq_true_eq]
     simp only[List.forall_mem_cons,hp];generalize decide (0<=p.aQ/\p.aQ<=c.aQ)=b1;generalize decide (0<=p.Seen/\p.Seen<=2)=b2;generalize decide (p=⟨false,0,false,0⟩)=b3;generalize p.On=b4;cases b1<;>cases b2<;>cases b3<;>cases b4<;>simp[h3]
    ·left;obtain rfl:k=3:=aa
     simp[vW,List.drop_eq_nil_of_le (show c.bS.length<=3 by omega)]
   have:=key 0 aa;simp only[Int.ofNat_zero,aAX] at this;have e:decide (COk c)=if ∀p∈c.bS,POk c.aQ p then true else false:=by have:COk c↔∀p∈c.bS,POk c.aQ p:=⟨λh=>h.2.2,λh=>⟨h1,h2,h⟩⟩;simp[this]
   rw[e];simp only[Int.cast_ofNat_Int] at *;have t0:loop (vW c) 0=_:=this;by_cases h5:∀p∈c.bS,POk c.aQ p
   ·rw[aN h5] at t0 ⊢;rw[t0];simp[MR,Y8]
   ·rw[aS h5] at t0 ⊢;rw[t0];simp[MR]
  grind[pI,COk]
 grind[pI,COk]
theorem a0E(p:lF)(c:aJ):zU p c=some (!decide (POk c.aQ p)):=by
 unfold zU l6;rw[fH,fH];have hp:decide (POk c.aQ p)=(decide (0<=p.aQ/\p.aQ<=c.aQ) && (decide (0<=p.Seen/\p.Seen<=2) && (p.On || decide (p=⟨false,0,false,0⟩)))):=by rw[XF];simp only[POk,decide_eq_true_eq,GF,Bool.or_eq_true];grind
 grind
theorem aX6{l:List lF}(hl:l.length<=maxLen)(f:lF->Bool):l5 l (λx=>some (f x))=some (l.any f):=by
 unfold l5 zT;have key:∀k:Nat,k<=l.length->loop (jI l (λx=>some (f x))) (k:Int)=some (if(l.drop k).any f then Out.ret ((k+(l.drop k).findIdx f:Nat):Int) else Out.brk ()):=by
  refine aWM l.length _ λk hk=>?_;by_cases h3:k<l.length
  ·have hd:l.drop k=l[k]::l.drop (k+1):=B6 h3;simp only[jI];rw[b8,aT h3,mU (MO h3 hl),hd];grind
  grind[jI]
 have t0:loop (jI l (λx=>some (f x))) 0=_:=key 0 aa;rw[t0];simp only[aAX];by_cases h:l.any f=true
 ·simp[h,tE]
 grind[tE,FX]
theorem EY{c:aJ}(hc:c.bS.length<=maxLen):uV c=some (decide (COk c)):=by
 unfold uV wJ;rw[fH];have e:(λy0=>zU y0 c)=λy0=>some (!decide (POk c.aQ y0)):=funext λy=>a0E y c;rw[e,aX6 hc];by_cases h1:0<=c.aQ/\c.aQ<=100000
 ·by_cases h2:c.bS.length=3
  ·have:COk c↔∀p∈c.bS,POk c.aQ p:=⟨λh=>h.2.2,λh=>⟨h1,h2,h⟩⟩;grind
  grind[COk]
 grind[COk]
def fA(l:List bE):List cQ:=l.flatMap bE.Rows
theorem RJ{l:List bE}(h:k<l.length):fA (l.take (k+1))=fA (l.take k)++l[k].Rows:=by grind[fA,R0]
theorem aRQ(l:List bE)(k:Nat):(fA (l.take k)).length<=(fA l).length:=by grind[fA,aDY]
theorem a7D(l:List bE)(h:k<l.length):l[k].Rows.length<=(fA l).length:=by have h1:=aRQ l (k+1);grind[RJ]
theorem aJ4{l:List bE}{s:bE}(h:s∈l):s.Rows.length<=(fA l).length:=by grind[aFW,a7D]
theorem aRR{l:List bE}(h:(fA l).length<=1073741824)(hl:l.length<=maxLen):SN l=some (fA l):=by
 unfold SN;have k1:loop (y9 l) ([],0)=some (fA l):=by
  refine eS (f:=y9 l) l.length (λk=>(fA (l.take k),(k:Int))) _ (λk hk=>?_) ?_
  ·have h1:=aRQ l (k+1);rw[RJ hk] at h1;simp only[y9];rw[b8,aT hk];grind[aZ,RJ,mU]
  grind[y9]
 rw[k1];rfl
def mT(h:Int):Prop:=(32<=h/\h<=223)/\h % 32<24
instance (h:Int):Decidable (mT h):=by unfold mT;infer_instance
theorem gP(h:Int):iG h=some (decide (mT h)):=by grind[iG,AY,mT,dI,I7]
theorem jL(h:Int):iW h=some (decide (mT h)):=by grind[iW,BA,mT,fH,I7]
theorem mT.mod{h:Int}(q:mT h):Int.tmod h 32=h % 32/\0<=h % 32/\h % 32<=23:=by grind[mT]
theorem eN(h:Int):fE h=some (if mT h then h % 32 else -1):=by grind[fE,gP,mT]
def T3(r:cQ):Prop:=mT r.Handle/\0<=r.aQ/\r.aQ<=100000
instance (r:cQ):Decidable (T3 r):=by unfold T3;infer_instance
def ME(r:cQ):Int:=r.Handle % 32
def F6(l:List bE):Prop:=l.length=3/\(fA l).length<=24/\(∀r∈fA l,T3 r)/\((fA l).map ME).Nodup
instance (l:List bE):Decidable (F6 l):=by unfold F6;infer_instance
def goR:List Bool->List cQ->Option (List Bool)
 |met,[]=>some met
 |met,r::t=>if T3 r/\met.getD (ME r).toNat true=false then goR (met.set (ME r).toNat true) t else none
theorem a51:∀{xs:List cQ} {met m:List Bool},goR met xs=some m->m.length=met.length
 |[],met,m,h=>by grind[goR]
 |x::r,met,m,h=>by
  simp only[goR] at h;split at h
  ·have:=a51 h;grind
  ·cases h
theorem aRS:∀(a b:List cQ) (met:List Bool),goR met (a++b)=(goR met a).bind λm=>goR m b
 |[],b,met=>rfl
 |x::r,b,met=>by
  simp only[aDW,goR];split
  ·exact aRS r b _
  ·rfl
theorem a0F:∀(xs:List cQ) (met:List Bool),(goR met xs).isSome=true↔(∀r∈xs,T3 r)/\(DS met (xs.map ME)).isSome=true
 |[],met=>by simp[goR,DS]
 |x::r,met=>by
  simp only[goR,PY,DS];by_cases h:T3 x
  ·have hm:=h.1.mod;have hs:0<=ME x/\ME x<=23:=hm.2;by_cases h2:met.getD (ME x).toNat true=false
   ·rw[aN ⟨h,h2⟩,aN ⟨hs,h2⟩,a0F r _];simp[h]
   grind
  grind
theorem a7E{s:bE}(hl:s.Rows.length<=maxLen):∀d k (met:List Bool),k+d=s.Rows.length->met.length=24->loop (wH s) ((k:Int),met)=some (aX5 (goR met (s.Rows.drop k))):=by
 intro d;induction d with
 |zero=>
  intro k met hk hm;rw[bQ (r:=Out.brk met) (by grind[wH]),List.drop_eq_nil_of_le aa];rfl
 |succ d ih=>
  intro k met hk hm;have hk':k<s.Rows.length:=aa
  have hd:s.Rows.drop k=s.Rows[k]::s.Rows.drop (k+1):=B6 hk';have hst:wH s ((k:Int),met)=if T3 s.Rows[k]/\met.getD (ME s.Rows[k]).toNat true=false then some (.next (((k+1:Nat):Int),met.set (ME s.Rows[k]).toNat true)) else some (.stop (Out.ret false)):=by
   simp only[wH];rw[b8,aT hk'];simp only[aG,jL,fH];generalize s.Rows[k]=x;by_cases q:mT x.Handle
   ·by_cases q2:0<=x.aQ/\x.aQ<=100000
    ·have hm2:=q.mod;obtain⟨j,hj0⟩:=bDY hm2.2.1;have hj:j<met.length:=aa
     have e:met.getD j true=met[j]:=aj
     have hr:T3 x:=⟨q,q2⟩;simp only[q,q2,and_self,decide_true,gC,bO,bN,mH,hm2.1,hj0,oZ,hr,true_and,ME,e];rw[RP,aT hj];simp only[aG];cases met[j]
     ·simp only[bO,bN,bY];grind[aZ,mU]
     ·simp
    ·rw[cP q,cX q2];simp only[gC,ML,bO,bN,bY,mH];rw[aS (λy:T3 x/\_=>q2 y.1.2)]
   simp_all[mH,T3]
  rw[hd,goR];by_cases q:T3 s.Rows[k]/\met.getD (ME s.Rows[k]).toNat true=false
  ·rw[aN q] at hst ⊢;grind[bU]
  ·rw[aS q] at hst ⊢;rw[bQ hst];rfl
theorem a7F{l:List bE}(hn:l.length<=1000)(hs:∀s∈l,s.Rows.length<=maxLen):∀d k (met:List Bool),k+d=l.length->met.length=24 ->
  loop (wI l) ((k:Int),met)=some (if(goR met (fA (l.drop k))).isSome=true then Out.brk () else Out.ret false):=by
 intro d;induction d with
 |zero=>
  simp_all[goR,fA,bQ,wI]
 |succ d ih=>
  intro k met hk hm;have hk':k<l.length:=aa
  have hd:l.drop k=l[k]::l.drop (k+1):=B6 hk';have hsk:=hs _ (cM hk');have hf:fA (l.drop k)=l[k].Rows++fA (l.drop (k+1)):=by grind[fA]
  have h4:=a7E hsk _ 0 met (aD0 _) hm;rw[show((0:Nat):Int)=0 from rfl,aAX] at h4;have hst:wI l ((k:Int),met)=(match goR met l[k].Rows with|some m=>some (.next (((k+1:Nat):Int),m))|none=>some (.stop (Out.ret false))):=by
   simp only[wI];rw[b8,aT hk'];simp only[aG];rw[h4];cases goR met l[k].Rows with
   |none=>rfl
   |some m=>simp only[aG,aX5,ZL,ZK];grind[dJ]
  rw[hf,aRS];cases hg:goR met l[k].Rows with
  |none=>
   simp_all[bQ]
  |some m=>
   rw[hg] at hst;rw[bU hst,ih (k+1) m aa (by grind[a51])];simp
theorem aHY{l:List bE}(hn:l.length<=1000)(h:(fA l).length<=1073741824):H7 l=some ((fA l).length:Int):=by
 unfold H7;have key:loop (qM l) (0,0)=some ((fA l).length:Int):=by
  refine eS (f:=qM l) l.length (λk=>(((fA (l.take k)).length:Int),(k:Int))) _ (λk hk=>?_) ?_
  ·have h1:=aRQ l (k+1);rw[RJ hk,LQ] at h1;simp only[qM];rw[b8,aT hk];grind[dJ,RJ]
  grind[qM]
 rw[key];rfl
theorem NF{l:List bE}(h:(fA l).length<=1073741824):BC l=some (decide (F6 l)):=by
 unfold BC;by_cases h3:l.length=3
 ·have n1:((l.length:Int) != 3)=false:=ah
  have hb:(1073741824:Nat)<=maxLen:=by simp[maxLen]
  simp only[n1,bO,bN];have key:=a7F (l:=l) aa (λs hs=>by have:=aJ4 hs;omega) l.length 0 (List.replicate 24 false) aa rfl;rw[show((0:Nat):Int)=0 from rfl,aAX] at key;rw[key];have hm0:∀j:Nat,j<24->(List.replicate 24 false).getD j true=false:=ai
  have hiff:F6 l↔(fA l).length<=24/\(goR (List.replicate 24 false) (fA l)).isSome=true:=by
   rw[a0F,aFO _ _ rfl];have hr:(∀r∈fA l,T3 r)->∀x∈(fA l).map ME,0<=x/\x<=23:=by intro q x hx;obtain⟨r,hr,rfl⟩:=List.mem_map.1 hx;exact(q r hr).1.mod.2
   constructor
   ·rintro⟨_,q1,q2,q3⟩;grind
   ·rintro⟨q1,q2,_,q3,_⟩;exact⟨h3,q1,q2,q3⟩
  by_cases q:(goR (List.replicate 24 false) (fA l)).isSome=true
  ·rw[aN q];simp only[aG,ZM,ZJ];rw[aHY aa h];grind
  ·rw[aS q,cX (λx=>q (hiff.1 x).2)];rfl
 ·have n1:((l.length:Int) != 3)=true:=ah
  simp_all[F6]
def tV(h:Int):Prop:=h=0\/mT h
instance (h:Int):Decidable (tV h):=by unfold tV;infer_instance
def a2W(z:List Int):Prop:=z.length=3/\∀h∈z,tV h
instance (z:List Int):Decidable (a2W z):=by unfold a2W;infer_instance
theorem aHZ(l:List O)(f:O->Bool){body:Int->Option (Step Int (Out Unit Int))}(hb:∀k (hk:k<l.length),body (k:Int)=if f l[k] then some (.stop (.ret (k:Int))) else some (.next ((k+1:Nat):Int)))(he:body (l.length:Int)=some (.stop (.brk ()))) :
  ∃o,loop body 0=some o/\match o with|.brk _=>l.any f=false|.ret r=>0<=r/\l.any f=true:=by
 have key:=a7A (f:=body) l.length (λk=>(k:Int)) (λk=>if(l.drop k).any f then Out.ret ((k+(l.drop k).findIdx f:Nat):Int) else Out.brk ()) (λk hk=>by
  by_cases h:k<l.length
  ·have hd:l.drop k=l[k]::l.drop (k+1):=B6 h;grind
  grind) 0 (lB _)
 grind
theorem aUT{l:List cQ}(hl:l.length<=maxLen)(f:cQ->Bool):lK l (λx=>some (f x))=some (l.any f):=by
 obtain⟨o,e,h⟩:=aHZ l f (body:=lJ l (λx=>some (f x))) (λk hk=>by
  simp only[lJ];rw[b8,aT hk,mU (MO hk hl)];rfl) (by simp[lJ])
 grind[lK,xO,DD,DC]
theorem aRT{l:List bE}(hl:l.length<=maxLen)(f:bE->Bool)(g:bE->Option Bool)(hg:∀x∈l,g x=some (f x)):kL l g=some (l.any f):=by
 obtain⟨o,e,h⟩:=aHZ l f (body:=kK l g) (λk hk=>by
  simp only[kK];rw[b8,aT hk,mU (MO hk hl)];grind) (by simp[kK])
 grind[kL,uS,CC,CB]
theorem aCN(hl:l.length<=maxLen)(f:aU->Bool)(g:aU->Option Bool)(hg:∀x∈l,g x=some (f x)):iN l g=some (l.any f):=by
 obtain⟨o,e,h⟩:=aHZ l f (body:=kM l g) (λk hk=>by
  simp only[kM];rw[b8,aT hk,mU (MO hk hl)];grind) (by simp[kM])
 grind[iN,uU,CE,CD]
theorem contains_eq{l:List Int}(hl:l.length<=maxLen)(v:Int):mO l v=some (decide (v∈l)):=by
 obtain⟨o,e,h⟩:=aHZ l (λx=>v == x) (body:=eV l v) (λk hk=>by
  simp only[eV];rw[b8,aT hk,mU (MO hk hl)];rfl) (by simp[eV])
 have ha:l.any (λx=>v == x)=decide (v∈l):=aj
 grind[mO,nI,CK,NQ]
theorem aDB:x∈fO l↔∃s∈l,x∈s.aV:=aU9
section
variable {m:Mem} (hsh:fM m.Heap) (hl:(gE m.aD).length<=1073741824) (hg:m.aD.Global.length<=maxLen) (ho:m.aD.Own.length<=maxLen)
include hl hg ho
theorem aRU(s:Int):SM m.aD s=some (decide (s∈gE m.aD)):=by grind[maxLen,SM,aEO,U2]
theorem aCO(s:Int):L6 m.aD s=some (decide (s∈gE m.aD)):=by
 have hb:(1073741824:Nat)<=maxLen:=by simp[maxLen]
 have hal:=wU m.aD;have e1:∀x∈m.aD.Global,rF x s=some (decide (s∈x.aV)):=λx hx=>by have:=MD hx;grind[rF,contains_eq]
 have e2:∀x∈m.aD.Own,rF x s=some (decide (s∈x.aV)):=λx hx=>by have:=MD hx;grind[rF,contains_eq]
 unfold L6 H5;rw[aCN hg (λx=>decide (s∈x.aV)) _ e1,aCN ho (λx=>decide (s∈x.aV)) _ e2];have a1:(m.aD.Global.any λx=>decide (s∈x.aV))=decide (s∈fO m.aD.Global):=by rw[XF];simp[aDB]
 have a2:(m.aD.Own.any λx=>decide (s∈x.aV))=decide (s∈fO m.aD.Own):=by rw[XF];simp[aDB]
 grind[gE]
def rN(m:Mem)(s:Int):Int:=if cA m.Heap s<0 then 0 else if s∈gE m.aD then 1 else if 6<nR m.Heap s then 2 else 3
include hsh
theorem aNG(s:Int):OA m s=some (rN m s):=by grind[OA,rN,mJ,aRU,rM]
theorem aNH(s:Int):OZ m s=some (rN m s):=by grind[OZ,rN,kG,aCO,LM]
def oY(m:Mem)(h:Int):Prop:=mT h/\rN m (h % 32)=3/\nR m.Heap (h % 32)=h/32
instance (m:Mem) (h:Int):Decidable (oY m h):=by unfold oY;infer_instance
omit hl hg ho hsh in
theorem kI{m:Mem}(h:rN m s=3):0<=cA m.Heap s:=by grind[rN]
theorem wV(h:Int):uL m h=some (decide (oY m h)):=by
 unfold uL vU;rw[gP,eN];by_cases q:mT h
 ·have hm:=q.mod;rw[cP q,aN q];simp only[aG,bY,aNG hsh hl hg ho];by_cases q2:rN m (h % 32)=3
  ·have n:(rN m (h % 32) == 3)=true:=aj
   have eg:G3 h=some (h/32):=by grind[G3,mT,gP,dJ]
   rw[n,rM hsh (kI q2),eg];simp only[bY,aG];congr 1;rw[XF];simp only[beq_iff_eq,decide_eq_true_eq];exact⟨λa=>⟨q,q2,a⟩,λa=>a.2.2⟩
  grind[oY]
 grind[oY]
theorem RK(h:Int):FW m h=some (decide (oY m h)):=by
 unfold FW zS;rw[jL];by_cases q:mT h
 ·have hm:=q.mod;rw[cP q,hm.1];simp only[aG,bY,aNH hsh hl hg ho];by_cases q2:rN m (h % 32)=3
  ·have n:(rN m (h % 32) == 3)=true:=aj
   have eg:aE (Int.tdiv h 32)=h/32:=by grind[mT,dJ]
   rw[n,LM hsh (kI q2),eg];simp only[bY,aG];congr 1;rw[XF];simp only[beq_iff_eq,decide_eq_true_eq];exact⟨λa=>⟨q,q2,a⟩,λa=>a.2.2⟩
  grind[oY]
 grind[oY]
end
def aOF(b:aA)(r:cQ):Prop:=oY b.Mem r.Handle/\r.aQ<=b.aJ.aQ
instance (b:aA) (r:cQ):Decidable (aOF b r):=by unfold aOF;infer_instance
def yQ(b:aA):Prop:=(pC b.Mem/\COk b.aJ/\F6 b.bB/\a2W b.i5)/\∀r∈fA b.bB,aOF b r
instance (b:aA):Decidable (yQ b):=by unfold yQ;infer_instance
def aJ5(b:aA):Prop:=FG b.Mem/\b.aJ.bS.length<=1048576/\b.bB.length<=1048576/\(fA b.bB).length<=1048576/\b.i5.length<=1048576
theorem aJ5.rows{b:aA}(h:aJ5 b):∀s∈b.bB,s.Rows.length<=1048576:=λs hs=>by have:=aJ4 hs;have:=h.2.2.2.1;omega
theorem YN{s:List aP}{p:aP->Bool}(hl:s.length<=4611686018427387904) :
  (∃j,∃h:j<s.length,(∀i (h:i<s.length),i<j->p s[i]=false)/\p s[j]=true/\cZ s (λy=>some (p y))=some (j:Int))\/((∀i (h:i<s.length),p s[i]=false)/\cZ s (λy=>some (p y))=some (-1)):=by
 rcases aHW (f:=o7 s (λy=>some (p y))) (p:=p) hl (λk=>by
  simp only[o7];by_cases h:k<s.length
  ·rw[dif_pos h,b8,aT h,aG,aG,bX];rfl
  grind) s.length 0 aa with ⟨j,h,_,h2,h3,h4⟩|⟨h1,h2⟩
 ·refine .inl ⟨j,h,λi hi a=>h2 i hi (lB _) a,h3,?_⟩;unfold cZ;rw[show(0:Int)=((0:Nat):Int) from rfl,h4];rfl
 ·refine .inr ⟨λi hi=>h1 i hi (lB _),?_⟩;unfold cZ;rw[show(0:Int)=((0:Nat):Int) from rfl,h2];rfl
theorem aK2{s:List Seen}{p:Seen->Bool}(hl:s.length<=4611686018427387904) :
  (∃j,∃h:j<s.length,(∀i (h:i<s.length),i<j->p s[i]=false)/\p s[j]=true/\eR s (λy=>some (p y))=some (j:Int))\/((∀i (h:i<s.length),p s[i]=false)/\eR s (λy=>some (p y))=some (-1)):=by
 rcases aHW (f:=rH s (λy=>some (p y))) (p:=p) hl (λk=>by
  simp only[rH];by_cases h:k<s.length
  ·rw[dif_pos h,b8,aT h,aG,aG,bX];rfl
  grind) s.length 0 aa with ⟨j,h,_,h2,h3,h4⟩|⟨h1,h2⟩
 ·refine .inl ⟨j,h,λi hi a=>h2 i hi (lB _) a,h3,?_⟩;unfold eR;rw[show(0:Int)=((0:Nat):Int) from rfl,h4];rfl
 ·refine .inr ⟨λi hi=>h1 i hi (lB _),?_⟩;unfold eR;rw[show(0:Int)=((0:Nat):Int) from rfl,h2];rfl
theorem aUU{s:List aP}{p:aP->Bool}(hl:s.length<=4611686018427387904):jJ s (λy=>some (p y))=some (s.filter λx=>!p x):=by
 unfold jJ;rcases YN (p:=p) hl with ⟨j,h,h1,h2,h3⟩|⟨h1,h3⟩
 ·have ne:¬(((j:Int) == -1)=true):=ae
  rw[h3,aG,aS ne,bX];obtain⟨M,k,g1,g2,g3,g4⟩:=aXZ (p:=p) (n:=s.length) (f:=jV (λy=>some (p y))) hl (λL i j h hn hi=>by
   simp only[jV];rw[b8,aT h,aG,aG];by_cases hp:p L[j]=true
   ·rw[aN hp,aS (by simp[hp])];grind[iC,dJ]
   ·rw[aS hp,aN aj,vN,aG];grind[iC,dJ]) (λL i j h=>by
   simp_all[jV]) (s.length-(j+1)) s j (j+1) aa rfl aa
  grind[zW,zV,aZ,fQ,a7B,bBZ]
 ·rw[h3,aG,aN ak,List.filter_eq_self.2];grind[aKN]
theorem a52{O:Type}{q:O->Bool}:∀{s:List O} {j:Nat} (h:j<s.length),(∀i (h:i<s.length),i<j->q s[i]=true)->q s[j]=false->s.takeWhile q=s.take j/\s.dropWhile q=s.drop j
 |[],j,h,_,_=>by cases h
 |x::r,0,h,_,h2=>by simp_all
 |x::r,j + 1,h,h1,h2=>by have hx:q x=true:=h1 0 (Nat.zero_lt_succ _) (Nat.zero_lt_succ _);have:=a52 (s:=r) (j:=j) aj (λi hi hj=>h1 (i+1) aa aa) h2;simp_all
theorem bJK{q:O->Bool}{s:List O}(h:∀i (h:i<s.length),q s[i]=true):s.takeWhile q=s/\s.dropWhile q=[]:=by
 have h':∀x∈s,q x=true:=λx hx=>by grind[aKN]
 clear h;induction s with
 |nil=>simp
 |cons x r ih=>
  simp_all
def aEP(l:List aP)(x:aP):List aP:=
 (l.filter λy=>!(y.Key == x.Key)).takeWhile (λy=>!decide (x.Key<y.Key))++[x]++(l.filter λy=>!(y.Key == x.Key)).dropWhile (λy=>!decide (x.Key<y.Key))
theorem aJ6{l:List aP}(hl:l.length<=1000)(x:aP):K5 l x=some (aEP l x):=by
 unfold K5 E4 aEP;rw[JN];simp only[aG,aVA];have hd:jJ l (λy0=>M0 y0 x)=some (l.filter λy=>!(y.Key == x.Key)):=aUU (p:=λy=>y.Key == x.Key) aa;rw[hd,aG];have hlen:(l.filter λy=>!(y.Key == x.Key)).length<=1000:=iI (List.length_filter_le _ _) hl;generalize (l.filter λy=>!(y.Key == x.Key))=o at hlen ⊢;have hi:(∃j,∃h:j<o.length,(∀i (h:i<o.length),i<j->decide (x.Key<o[i].Key)=false)/\decide (x.Key<o[j].Key)=true/\cZ o (λy0=>EF y0 x)=some (j:Int))\/((∀i (h:i<o.length),decide (x.Key<o[i].Key)=false)/\cZ o (λy0=>EF y0 x)=some (-1)):=YN (p:=λy=>decide (x.Key<y.Key)) aa;rcases hi with ⟨j,h,h1,h2,h3⟩|⟨h1,h3⟩
 ·obtain⟨t1,t2⟩:=a52 (q:=λy:aP=>!decide (x.Key<y.Key)) h (λi hi a=>aj) (by simp[h2]);rw[h3,aG,eG,t1,t2];grind[tG,rV,aZ]
 ·obtain⟨t1,t2⟩:=bJK (s:=o) (q:=λy:aP=>!decide (x.Key<y.Key)) (λi hi=>aj);rw[h3,aG,aN ai,t1,t2];grind[tG,rV,aZ,List.drop_length]
def aDT(l:List aP)(k:Int):aP×Bool:=match l.find? (λy=>y.Key == k) with|some x=>(x,true)|none=>(⟨0,false,0⟩,false)
theorem aRV{p:O->Bool}{s:List O}(h:j<s.length)(h1:∀i (h:i<s.length),i<j->p s[i]=false)(h2:p s[j]=true):s.find? p=some s[j]:=by grind[List.find?_eq_some_iff_getElem]
theorem a53{p:O->Bool}{s:List O}(h1:∀i (h:i<s.length),p s[i]=false):s.find? p=none:=by grind[aKN]
theorem aNI{l:List aP}(hl:l.length<=1000)(k:Int):O2 l k=some (aDT l k):=by
 unfold O2 aDT;have hi:(∃j,∃h:j<l.length,(∀i (h:i<l.length),i<j->(l[i].Key == k)=false)/\(l[j].Key == k)=true/\cZ l (λy0=>IC y0 k)=some (j:Int))\/((∀i (h:i<l.length),(l[i].Key == k)=false)/\cZ l (λy0=>IC y0 k)=some (-1)):=YN (p:=λy=>y.Key == k) aa;rcases hi with ⟨j,h,h1,h2,h3⟩|⟨h1,h3⟩
 ·rw[h3,aG,eG,aT h,aRV (p:=λy:aP=>y.Key == k) h h1 h2];rfl
 simp_all[a53]
def F7(l:List Seen)(b v:Int):List Seen×Bool:=match l.find? (λy=>y.cD == b) with|some x=>(l,x.eX == v)|none=>(l++[⟨b,v⟩],true)
theorem aNJ{l:List Seen}(hl:l.length<=1000)(b v:Int):O4 l b v=some (F7 l b v):=by
 unfold O4 IH F7;rw[JN];simp only[aG,aVA];have hi:(∃j,∃h:j<l.length,(∀i (h:i<l.length),i<j->(l[i].cD == b)=false)/\(l[j].cD == b)=true/\eR l (λy0=>II y0 b)=some (j:Int))\/((∀i (h:i<l.length),(l[i].cD == b)=false)/\eR l (λy0=>II y0 b)=some (-1)):=aK2 (p:=λy=>y.cD == b) aa;rcases hi with ⟨j,h,h1,h2,h3⟩|⟨h1,h3⟩
 ·rw[h3,aG,eG,aT h,aRV (p:=λy:Seen=>y.cD == b) h h1 h2];rfl
 ·rw[h3,aG,aN ai,JN,a53 (p:=λy:Seen=>y.cD == b) h1]
def lE(l:List aP)(n:Int):Int:=(((l.take n.toNat).filter λx=>!x.GQ).length:Int)
theorem a2X(l:List aP)(n:Int):(l.take ((if(if(l.length:Int)<n then(l.length:Int) else n)<0 then 0 else(if(l.length:Int)<n then(l.length:Int) else n)).toNat)).drop 0=l.take n.toNat:=by
 (simp_all;omega)
theorem aH0{l:List aP}(hl:l.length<=1000)(n:Int):V5 l n=some (lE l n):=by
 unfold V5 lE;rw[RP];have hc:=a2X l n;obtain⟨s,hs⟩:∃s,s=l.take n.toNat:=⟨_,rfl⟩;have hsl:s.length<=1000:=aj
 rw[show((0:Int),(0:Int))=((((s.take 0).filter λx=>!x.GQ).length:Int),((0:Nat):Int)) from rfl,
  eS s.length (λk=>((((s.take k).filter λx=>!x.GQ).length:Int),(k:Int))) (((s.filter λx=>!x.GQ).length:Nat):Int) (λk hk=>by
   have ht:s.take (k+1)=s.take k++[s[k]]:=R0 hk;have hle:((s.take k).filter λx=>!x.GQ).length<=1000:=iI (List.length_filter_le _ _) aj;simp only[X0,hc,<-hs];rw[b8,aT hk,aG,ht,List.filter_append];cases hd:s[k].GQ
   ·rw[aN ak,bX];simp only[IJ];rw[bX];simp[hd]
   ·rw[eG];grind[IJ,dJ]) (by
   simp only[X0,hc,<-hs];simp)]
 rw[hs];rfl
def CX(k:Int):Int:=if 0<=k/\k<=99 then k % 2 else -1
theorem U6(k:Int):J5 k=some (CX k):=by unfold J5 CX;rw[fH,aG];grind
def rO(l:List aP):List Int:=(if l.any (λx=>x.Key % 2 == 0) then [0] else [])++(if l.any (λx=>x.Key % 2 == 1) then [1] else [])
theorem a2Y{l:List Int}(hs:l.Pairwise (· < ·))(hm:∀x∈l,x=0\/x=1):l=(if 0∈l then [0] else [])++(if 1∈l then [1] else []):=by
 match l,hs,hm with
 |[],_,_=>rfl
 |[x],_,hm=>rcases hm x ae with rfl|rfl<;>rfl
 |[x,y],hs,hm=>
  have hxy:x<y:=aj
  rcases hm x ae with rfl|rfl<;>rcases hm y ae with rfl|rfl<;>first|omega|rfl
 |x::y::z::r,hs,hm=>
  (simp_all;omega)
theorem aNK{l:List aP}(hl:l.length<=12)(hk:∀x∈l,0<=x.Key/\x.Key<=99):O5 l=some (rO l):=by
 unfold O5;rw[show(([]:List Int),(0:Int))=((l.take 0).map (λx=>x.Key % 2),((0:Nat):Int)) from rfl,
  eS l.length (λk=>((l.take k).map (λx=>x.Key % 2),(k:Int))) (l.map λx=>x.Key % 2) (λk hlt=>by
   have ht:l.take (k+1)=l.take k++[l[k]]:=R0 hlt;have hkk:=hk l[k] (cM hlt);simp only[M4];rw[b8,aT hlt,aG,U6,aG];unfold CX;rw[aN hkk,b8,JN,ht,xR];grind[EI,dJ]) (by
   simp[M4]),aG]
 simp only[ZO,M3];obtain⟨y,h1,h2,h3⟩:=bB0 (x:=l.map λx=>x.Key % 2) aj (by grind[a2S]);rw[h1,aG];obtain⟨c1,c2⟩:=a0C h3;have hmem:∀a,a∈GG y↔∃x∈l,x.Key % 2=a:=λa=>aj
 have h01:∀a∈GG y,a=0\/a=1:=λa ha=>aj
 show some (GG y)=_;rw[a2Y c1 h01];grind[rO]
theorem aX7(l:List aP):(rO l).length<=2:=by grind[rO]
theorem aRW{l:List aP}{b:Int}(h:b∈rO l):b=0\/b=1:=by grind[rO]
theorem W8{f:(List O×Int)->Option (Step (List O×Int) (List O))}(l:List O)
  (h:∀k (hk:k<l.length),f (l.take k,(k:Int))=some (.next (l.take k++[l[k]],((k+1:Nat):Int)))) (he:f (l,(l.length:Int))=some (.stop l)):loop f ([],0)=some l:=by
 have:=eS (f:=f) l.length (λk=>(l.take k,(k:Int))) l (λk hk=>by simp_all) aj;grind
theorem aDC{f:(Int×List O)->Option (Step (Int×List O) (List O))}(l:List O)
  (h:∀k (hk:k<l.length),f ((k:Int),l.take k)=some (.next (((k+1:Nat):Int),l.take k++[l[k]]))) (he:f ((l.length:Int),l)=some (.stop l)):loop f (0,[])=some l:=by
 have:=eS (f:=f) l.length (λk=>((k:Int),l.take k)) l (λk hk=>by simp_all) aj;grind
theorem BY{l:List Int}(h:l.length<=1073741824):j8 l=some l:=by grind[j8,aZ]
theorem PN{l:List Int}(h:l.length<=1073741824):kU l=some l:=by grind[kU,aZ]
theorem aX8{l:List lF}(h:l.length<=1073741824):BE l=some l:=by grind[BE,aZ]
theorem aUV{l:List cQ}(h:l.length<=1073741824):yD l=some l:=by grind[yD,aZ]
theorem a7G(hl:l.length<=1048576)(hs:∀s∈l,s.aV.length<=1048576):LX l=some l:=by
 unfold LX;rw[W8 l]
 ·rfl
 ·intro k hk;have:=hs _ (cM hk);simp only[P8];rw[b8,aT hk];simp only[aG];rw[BY aa,aG,JN,bX];rfl
 grind[P8]
theorem aUW{l:aD}(h1:l.Global.length<=1048576)(h2:l.Own.length<=1048576)(h3:∀s∈l.Global,s.aV.length<=1048576)(h4:∀s∈l.Own,s.aV.length<=1048576):SW l=some l:=by simp_all[SW,a7G]
theorem U7{l:aD}(h1:l.Global.length<=1048576)(h2:l.Own.length<=1048576)(h3:∀s∈l.Global,s.aV.length<=1048576)(h4:∀s∈l.Own,s.aV.length<=1048576):iV l=some l:=by
 unfold iV;rw[aDC l.Global]
 ·simp only[aG,S8,S7];rw[aDC l.Own]
  ·rfl
  ·intro k hk;have:=h4 _ (cM hk);simp only[HT];rw[b8,aT hk];simp only[aG];rw[PN aa,aG,JN,HR,bX];rfl
  grind[HT]
 ·intro k hk;have:=h3 _ (cM hk);simp only[HV];rw[b8,aT hk];simp only[aG];rw[PN aa,aG,JN,HU,bX];rfl
 grind[HV]
theorem aX9(h1:h.Bytes.length<=1048576)(h2:h.Class.length<=1048576):SU h=some h:=by unfold SU;rw[BY aa,BY aa];rfl
theorem YO(h1:h.Bytes.length<=1048576)(h2:h.Class.length<=1048576):xG h=some h:=by unfold xG;rw[PN aa,PN aa];rfl
theorem T4(h:FG m):zH m=some m:=by have a:=aX9 h.1 h.2.1;have b:=aUW h.2.2.1 h.2.2.2.1 h.aK1.1 h.aK1.2;simp_all[zH]
theorem aCP(h:FG m):vC m=some m:=by have a:=YO h.1 h.2.1;have b:=U7 h.2.2.1 h.2.2.2.1 h.aK1.1 h.aK1.2;simp_all[vC]
theorem lN{c:aJ}(h:c.bS.length<=1048576):qC c=some c:=by unfold qC;rw[JN];rfl
theorem LN{c:aJ}(h:c.bS.length<=1048576):oG c=some c:=by unfold oG;rw[aX8 aa];rfl
theorem aUX{l:List bE}(hl:l.length<=1048576)(hs:∀s∈l,s.Rows.length<=1048576):ON l=some l:=by
 unfold ON;rw[W8 l]
 ·rfl
 ·intro k hk;have:=hs _ (cM hk);simp only[MV];rw[b8,aT hk];simp only[aG];rw[JN,JN,bX];rfl
 grind[MV]
theorem aEQ{l:List bE}(hl:l.length<=1048576)(hs:∀s∈l,s.Rows.length<=1048576):oF l=some l:=by
 unfold oF;rw[W8 l]
 ·rfl
 ·intro k hk;have:=hs _ (cM hk);simp only[H6];rw[b8,aT hk];simp only[aG];rw[aUV aa,aG,JN,bX];rfl
 grind[H6]
theorem aYA{b:aA}(h:aJ5 b):OO b=some b:=by have m:=T4 h.1;have c:=lN h.2.1;have l:=aUX h.2.2.1 h.rows;have:=h.2.2.2.2;unfold OO;rw[m,c,l,BY aa];rfl
theorem nC(w:Int):gO w=some (decide (0<=w/\w<=2)):=by grind[gO,fH]
section
variable {c:aJ} (hc:COk c) {w:Int} (hw:0<=w/\w<=2)
include hc
theorem COk.small:c.bS.length<=1048576/\c.bS.length<=maxLen:=by have:=hc.2.1;grind[maxLen]
theorem COk.aYB{p:lF}(hp:POk c.aQ p):COk ⟨c.aQ,c.bS.set k p⟩:=⟨hc.1,by simpa using hc.2.1,λq hq=>(tY hq).elim (hc.2.2 q) (λe=>e ▸ hp)⟩
theorem COk.later(h:c.aQ+1<=100000):COk ⟨c.aQ+1,c.bS⟩:=by
 have h1:=hc.1;exact⟨⟨aj,h⟩,hc.2.1,λq hq=>by
  obtain⟨a,b,d⟩:=hc.2.2 q hq;exact⟨⟨a.1,aj⟩,b,d⟩⟩
include hw
theorem a2Z:∃p,idx c.bS w=some p/\POk c.aQ p:=by have h3:=hc.2.1;rw[gD hw.1 aa];exact⟨_,rfl,hc.2.2 _ (cM _)⟩
theorem a7H(e:Int):∃r,FO c w e=some r/\TB c w e=some r/\COk r.1/\r.1.aQ=c.aQ:=by
 obtain⟨p,hp,h1,⟨hs0,hs1⟩,h2⟩:=a2Z hc hw;have h3:=hc.2.1;unfold FO TB;rw[lN hc.small.1,LN hc.small.1,kH,EY hc.small.2,nC,dI,cP hc,cP hw];simp only[aG,gC,bO,bN,zA,H8,hp];cases h4:p.On
 ·exact⟨_,rfl,rfl,hc,rfl⟩
 ·cases h5:p.gN
  ·by_cases h6:p.aQ=e
   ·simp_all[nW,tF]
   ·have h6':(p.aQ == e)=false:=aj
    simp only[nW,tF,h6',gC,bO,bN,hp,aG];by_cases h7:p.Seen=2
    ·simp only[h7,beq_self_eq_true,bY,show ¬((2:Int)<2) by omega,decide_false,bO,bN];exact⟨_,rfl,rfl,hc.aYB ⟨h1,ae,λq=>aj⟩,rfl⟩
    ·have h7':(p.Seen == 2)=false:=aj
     simp only[h7',show p.Seen<2 by omega,decide_true,bY,bO,bN];have hw7:aE (p.Seen+1)=p.Seen+1:=bX;exact⟨_,rfl,rfl,hc.aYB ⟨h1,aj,λq=>aj⟩,rfl⟩
  ·exact⟨_,rfl,rfl,hc,rfl⟩
theorem bB4(e:Int):∃r,JY c w e=some r/\XZ c w e=some r/\(COk r.1/\r.1.aQ=c.aQ)/\(r.2=false->r.1=c):=by
 obtain⟨p,hp,hpk⟩:=a2Z hc hw;have h3:=hc.2.1;unfold JY XZ;rw[lN hc.small.1,LN hc.small.1,kH,EY hc.small.2,nC,dI,dI,fH,cP hc,cP hw];simp only[aG,gC,bO,bN,xB,DE,hp];by_cases h:0<=e/\e<=c.aQ
 ·simp only[cP h,gC,bO,bN];exact⟨_,rfl,rfl,⟨hc.aYB ⟨h,ae,λq=>by cases q⟩,rfl⟩,λq=>by cases q⟩
 simp_all[cX]
omit hw in
theorem bFV(e:Int):∃r,PQ c e=some r/\aC8 c e=some r/\COk r.1/\c.aQ<=r.1.aQ:=by
 have h3:=hc.2.1;unfold PQ aC8;rw[lN hc.small.1,LN hc.small.1,kH,EY hc.small.2,cP hc];simp only[aG,gC,bO,bN,AZ,H9];by_cases h:c.aQ=e
 ·subst h;simp only[bne_self_eq_false,bO,bN];by_cases h:c.aQ=100000
  ·simp_all
  ·have h':(c.aQ == 100000)=false:=aj
   have hE:=hc.1;have hw7:aE (c.aQ+1)=c.aQ+1:=bX;simp only[h',bO,bN,hw7];exact⟨_,rfl,rfl,hc.later aa,aj⟩
 simp_all
end
theorem bJL{b:aA}(hc:COk b.aJ)(hw:0<=w/\w<=2)(s:Sub) :
  ∃x y,FP b w s=some (x,y)/\BG s b w=some (y,x)/\∃cl,x=⟨b.Mem,cl,b.bB,b.i5⟩/\COk cl/\b.aJ.aQ<=cl.aQ:=by
 obtain⟨r,e1,e2,h3,h4⟩:=bB4 hc hw s.E;unfold FP BG;rw[e1,e2];simp only[bV,bR,CL,aG];by_cases p0:s.Pc=0
 ·simp only[p0,beq_self_eq_true,bY];exact⟨_,_,rfl,rfl,_,rfl,hc,aa⟩
 ·have p0':(s.Pc == 0)=false:=aj
  simp only[p0',bO,bN];by_cases p1:s.Pc=1
  ·simp only[p1,beq_self_eq_true,bY];cases h:r.2
   ·rw[h4 h];exact⟨_,_,rfl,rfl,_,rfl,hc,aa⟩
   ·exact⟨_,_,rfl,rfl,_,rfl,h3.1,aa⟩
  ·have p1':(s.Pc == 1)=false:=aj
   simp only[p1',bO,bN];by_cases p2:s.Pc=2
   ·simp only[p2,beq_self_eq_true,bY];by_cases q:b.aJ.aQ=s.E
    ·simp only[q,beq_self_eq_true,bY];exact⟨_,_,rfl,rfl,_,rfl,hc,aa⟩
    ·have q':(b.aJ.aQ == s.E)=false:=aj
     simp only[q',bO,bN];exact⟨_,_,rfl,rfl,_,rfl,hc,aa⟩
   ·have p2':(s.Pc == 2)=false:=aj
    simp only[p2',bO,bN];exact⟨_,_,rfl,rfl,_,rfl,hc,aa⟩
theorem a21{b:aA}(hc:COk b.aJ)(s:Sub) :
  ∃x y,pJ b s=some (x,y)/\qN s b=some (y,x)/\∃cl,x=⟨b.Mem,cl,b.bB,b.i5⟩/\COk cl/\b.aJ.aQ<=cl.aQ:=by
 obtain⟨r2,e3,e4,h4⟩:=bFV hc s.E;unfold pJ qN l8;rw[e3,e4,dI,nC];simp only[bV,bR,nX,nY,l7,aG];by_cases p0:s.Pc=0
 ·simp only[p0,beq_self_eq_true,bY];exact⟨_,_,rfl,rfl,_,rfl,hc,aa⟩
 ·have p0':(s.Pc == 0)=false:=aj
  simp only[p0',bO,bN];by_cases p1:s.Pc=1
  ·simp only[p1,beq_self_eq_true,bY,show((1:Int) == 2)=false from rfl,bO,bN];by_cases hB:0<=s.B/\s.B<=2
   ·obtain⟨r,e1,e2,h3,h3'⟩:=a7H hc hB s.E;simp only[cP hB,gC,bO,bN,bY,e1,e2,aG];cases h:r.2
    ·exact⟨_,_,rfl,rfl,_,rfl,h3,aa⟩
    ·by_cases q:aE (s.B+1)=3
     ·simp only[q,beq_self_eq_true,bY,gC,bO,bN];exact⟨_,_,rfl,rfl,_,rfl,h3,aa⟩
     ·have q':(aE (s.B+1) == 3)=false:=aj
      simp only[q',gC,bO,bN];exact⟨_,_,rfl,rfl,_,rfl,h3,aa⟩
   ·simp only[cX hB,ML,bO,bN,bY];exact⟨_,_,rfl,rfl,_,rfl,hc,aa⟩
  ·have p1':(s.Pc == 1)=false:=aj
   simp only[p1',bO,bN];by_cases p2:s.Pc=2
   ·simp only[p2,beq_self_eq_true,bY];cases h:r2.2
    ·simp only[bO,bN];exact⟨_,_,rfl,rfl,_,rfl,h4⟩
    ·simp only[bY];exact⟨_,_,rfl,rfl,_,rfl,h4⟩
   ·have p2':(s.Pc == 2)=false:=aj
    simp only[p2',bO,bN];exact⟨_,_,rfl,rfl,_,rfl,hc,aa⟩
theorem a23:∀(n:Nat) (l:List Int),l.Nodup->(∀x∈l,0<=x/\x<(n:Int))->l.length<=n
 |0,l,_,h=>by
  cases l with
  |nil=>simp
  |cons a t=>(simp_all;omega)
 |n + 1,l,hn,h=>by
  have ih:=a23 n (l.erase (n:Int)) (hn.erase _) (λx hx=>by
   grind)
  grind
theorem W9{l:List bE}(hk:k<l.length)(x:bE):fA (l.set k x)=fA (l.take k)++(x.Rows++fA (l.drop (k+1))):=by simp_all[List.set_eq_take_append_cons_drop,fA]
theorem T5{l:List bE}(hk:k<l.length):fA l=fA (l.take k)++(l[k].Rows++fA (l.drop (k+1))):=by grind[aVB,W9]
theorem PR(hk:k<l.length)(x:aU):fO (l.set k x)=fO (l.take k)++(x.aV++fO (l.drop (k+1))):=by simp_all[List.set_eq_take_append_cons_drop,fO]
theorem MF(hk:k<l.length):fO l=fO (l.take k)++(l[k].aV++fO (l.drop (k+1))):=by grind[aVB,PR]
def bC(l:List bE)(s:Int):Prop:=∃r∈fA l,mT r.Handle/\r.Handle % 32=s
instance (l:List bE) (s:Int):Decidable (bC l s):=by unfold bC;infer_instance
section
variable {l:List bE} (hl:F6 l)
include hl
theorem F6.small:(fA l).length<=1073741824/\l.length<=maxLen/\l.length<=1048576/\∀s∈l,s.Rows.length<=24:=by have:=hl.1;have h2:=hl.2.1;refine⟨aa,by grind[maxLen],aa,λs hs=>?_⟩;have:=aJ4 hs;omega
theorem NG(s:Int):G4 l s=some (decide (bC l s)):=by
 have hm:=hl.small;unfold G4;rw[aRR hm.1 hm.2.1,aG];have key:=nQ (f:=pH s (fA l)) (fA l) (λk=>(k:Int)) (λr=>¬(mT r.Handle/\r.Handle % 32=s)) (Out.brk ()) (Out.ret true)
  (λk hk hp=>by
   have hk':=hl.2.1;simp only[pH,vV];rw[b8,aT hk,mU (show k<maxLen by grind[maxLen])];grind[gP,eN])
  (λk hk hp=>by
   simp_all[pH,vV,aT,gP,eN])
  (by simp[pH])
 have key':loop (pH s (fA l)) 0=_:=key;rw[key'];by_cases q:bC l s
 ·rw[aS (λa=>by obtain⟨r,hr,e⟩:=q;grind),cP q];rfl
 ·rw[aN (λr hr e=>q ⟨r,hr,e⟩),cX q];rfl
theorem Z9(s:Int):H4 l s=some (decide (bC l s)):=by
 have hm:=hl.small;unfold H4;have e1:∀(r:cQ),tD r s=some (decide (mT r.Handle/\r.Handle % 32=s)):=by
  intro r;unfold tD rT;rw[jL];by_cases q:mT r.Handle
  ·rw[q.mod.1];grind
  ·simp[q]
 have e2:∀x∈l,H3 x s=some (x.Rows.any λr=>decide (mT r.Handle/\r.Handle % 32=s)):=by
  intro x hx;unfold H3;have:x.Rows.length<=maxLen:=by grind[maxLen]
  rw[show(λy0=>tD y0 s)=λr=>some (decide (mT r.Handle/\r.Handle % 32=s)) from funext e1,aUT this];rfl
 rw[aRT hm.2.1 (λx=>x.Rows.any λr=>decide (mT r.Handle/\r.Handle % 32=s)) _ e2];simp only[aG];congr 1;rw[XF,decide_eq_true_iff];simp only[List.any_eq_true,decide_eq_true_eq,bC,fA,aU9];grind
theorem F6.more(hk:k<l.length){r:cQ}(hr:T3 r)(hn:¬bC l (r.Handle % 32)):F6 (l.set k ⟨l[k].Rows++[r]⟩):=by
 have e:=W9 hk (⟨l[k].Rows++[r]⟩:bE);have p:(fA (l.set k ⟨l[k].Rows++[r]⟩)).Perm (r::fA l):=by grind[T5]
 have h1:∀x∈fA (l.set k ⟨l[k].Rows++[r]⟩),T3 x:=λx hx=>by
  rcases xS.1 (p.mem_iff.1 hx) with rfl|h
  ·exact hr
  ·exact hl.2.2.1 x h
 have h2:((fA (l.set k ⟨l[k].Rows++[r]⟩)).map ME).Nodup:=by refine(List.Perm.nodup_iff (p.map ME)).2 ?_;rw[PY,List.nodup_cons];refine⟨λh=>hn ?_,hl.2.2.2⟩;obtain⟨x,hx,e⟩:=List.mem_map.1 h;exact⟨x,hx,(hl.2.2.1 x hx).1,e⟩
 refine⟨by simpa using hl.1,?_,h1,h2⟩;have:=a23 24 _ h2 (λx hx=>by
  obtain⟨y,hy,rfl⟩:=List.mem_map.1 hx;have:=(h1 y hy).1.mod;grind[ME])
 grind
end
theorem a7I{b:aA}(hb:yQ b)(hs:aJ5 b)(hw:0<=w/\w<=2)(s:Sub) :
  ∃x y,sL b w s=some (x,y)/\rU s b w=some (y,x)/\∃L,x=⟨b.Mem,b.aJ,L,b.i5⟩/\F6 L/\∀r∈fA L,aOF b r:=by
 have hL:=hb.1.2.2.1;have hm:=hb.1.1;have hlen:w.toNat<b.bB.length:=by have:=hL.1;omega
 have hx:idx b.bB w=some b.bB[w.toNat]:=gD hw.1 aa;have hg:b.Mem.aD.Global.length<=maxLen:=by rw[hm.1.2.1];simp[maxLen]
 have ho:b.Mem.aD.Own.length<=maxLen:=by rw[hm.1.2.2.1];simp[maxLen]
 have hall:(gE b.Mem.aD).length<=1073741824:=by have:=hs.1.2.2.2.2;omega
 have hrow:=hL.small.2.2.2 _ (cM hlen);have he:=hb.1.2.1.1;unfold sL rU mZ;rw[dI,fH,wV hm.1.1.1 hall hg ho,RK hm.1.1.1 hall hg ho,eN];simp only[bV,bR,aG,qB,xW,mY];by_cases p0:s.Pc=0
 ·simp only[p0,beq_self_eq_true,bY];exact⟨_,_,rfl,rfl,_,rfl,hL,hb.2⟩
 ·have p0' : (s.Pc == 0) = false:=aj
  simp only[p0',bO,bN];by_cases p1:s.Pc=1
  ·simp only[p1,beq_self_eq_true,bne_self_eq_false,bO,bN,bY];by_cases q1:0<=s.E/\s.E<=b.aJ.aQ
   ·simp only[cP q1,gC,bO,bN];by_cases q2:oY b.Mem s.A
    ·have hh:=q2.1;simp only[cP q2,gC,bO,bN,aN hh,hh.mod.1,NG hL,Z9 hL,aG];by_cases q3:bC b.bB (s.A % 32)
     ·simp only[cP q3,bY];exact⟨_,_,rfl,rfl,_,rfl,hL,hb.2⟩
     ·have hmore:=hL.more hlen (r:=⟨s.A,s.E⟩) ⟨hh,q1.1,aj⟩ q3;have e:K4 b.bB w s.A s.E=some (b.bB.set w.toNat ⟨b.bB[w.toNat].Rows++[⟨s.A,s.E⟩]⟩,true):=by unfold K4 BD;rw[NF hL.small.1,nC,aEQ hL.small.2.2.1 (λs h=>by have:=hL.small.2.2.2 s h;omega)];simp only[cP hL,cP hw,aG,gC,bO,bN,hx];rw[JN,NF hmore.small.1,cP hmore];rfl
      simp only[cX q3,bO,bN,hx,e,aG];rw[JN];refine⟨_,_,rfl,rfl,_,rfl,hmore,λr hr=>?_⟩;rw[W9 hlen] at hr;have hsp:=T5 hlen;rcases jG.1 hr with h|h
      ·exact hb.2 r aj
      ·rcases jG.1 h with h|h
       ·rcases jG.1 h with h|h
        ·exact hb.2 r aj
        ·simp at h;subst h;exact⟨q2,q1.2⟩
       ·exact hb.2 r aj
    ·simp only[cX q2,ML,bY];exact⟨_,_,rfl,rfl,_,rfl,hL,hb.2⟩
   ·simp only[cX q1,ML,bY];exact⟨_,_,rfl,rfl,_,rfl,hL,hb.2⟩
  ·have p1':(s.Pc == 1)=false:=aj
   have p1'':(s.Pc != 1)=true:=aj
   simp only[p1',p1'',bO,bN,bY];exact⟨_,_,rfl,rfl,_,rfl,hL,hb.2⟩
def st4(b:List Int)(a:Nat)(n:Int):List Int:=(((b.set a 0).set (a+1) 0).set (a+2) 0).set (a+3) n
theorem LO(b:List Int)(a:Nat)(n:Int):(st4 b a n).length=b.length:=by simp[st4]
theorem a0G{b:List Int}(h:tU b)(a:Nat)(hn:0<=n/\n<=255):tU (st4 b a n):=by
 have key:∀{l:List Int} (i:Nat) (v:Int),tU l->0<=v/\v<=255->tU (l.set i v):=λi v hl hv x hx=>by
  rcases tY hx with h|rfl
  ·exact hl x h
  ·exact hv
 exact key _ _ (key _ _ (key _ _ (key _ _ h aa) aa) aa) hn
theorem bB5(hn:0<=n/\n<=255):((u8 n).toNat:Int)=n:=by grind[u8,UInt8.toNat_ofNat']
theorem a0H{l:List Int}(i:Nat){v:Int}(hl:tU l)(hv:0<=v/\v<=255):tU (l.set i v):=λx hx=>by
 rcases tY hx with h|rfl
 ·exact hl x h
 ·exact hv
def RZ(b:List Int)(a:Nat)(n:Int):List Int:=(((b.set a (n/16777216)).set (a+1) (n/65536 % 256)).set (a+2) (n/256 % 256)).set (a+3) (n % 256)
theorem aH1(b:List Int)(a:Nat)(n:Int):(RZ b a n).length=b.length:=by simp[RZ]
theorem a7J{b:List Int}(h:tU b)(a:Nat)(hn:0<=n/\n<=4294967295):tU (RZ b a n):=by grind[RZ,a0H]
theorem a7K(b:List Int)(a:Nat)(x y z u:Int):(((b.set (a+3) u).set (a+2) z).set (a+1) y).set a x=(((b.set a x).set (a+1) y).set (a+2) z).set (a+3) u:=by refine List.ext_getElem ae λj h1 h2=>?_;grind
theorem aVZ{b:List Int}{a:Nat}(h:a+4<=b.length)(hl:b.length<=100000)(hn:0<=n/\n<=4294967295):iK b (a:Int) 4 n=some (RZ b a n):=by
 have st:∀(c:List Int) (m:Int) (i:Nat),c.length=b.length->0<=m->m<=4294967295->i<4->mD (a:Int) (c,m,(i:Int))=some (.next (c.set (a+i) (m % 256),m/256,(i:Int)-1)):=λc m i hc h0 h1 hi=>by simp only[mD];rw[aN ae,bX (x:=(a:Int)+i),show(a:Int)+i=((a+i:Nat):Int) by omega,vN,aG,I7 h0,aRI h0,bX (x:=m/256),bX (x:=(i:Int)-1),oZ]
 unfold iK;rw[show aE (4-1)=((3:Nat):Int) from by grind[dJ]];rw[bU (st b n 3 rfl hn.1 hn.2 aa),show((3:Nat):Int)-1=((2:Nat):Int) by rfl,
  bU (st _ _ 2 ae aa aa aa),show((2:Nat):Int)-1=((1:Nat):Int) by rfl,
  bU (st _ _ 1 ae aa aa aa),show((1:Nat):Int)-1=((0:Nat):Int) by rfl,
  bU (st _ _ 0 ae aa aa aa),bQ (r:=RZ b a n)]
 ·rfl
 ·simp only[mD];rw[eG];have e1:n/256/256=n/65536:=aa
  have e2:n/256/256/256=n/16777216:=aa
  have e3:n/16777216 % 256=n/16777216:=aa
  simp_all[RZ,a7K]
def F8(n:Int):List UInt8:=[u8 (n/16777216),u8 (n/65536),u8 (n/256),u8 n]
theorem YP(hn:0<=n/\n<=4294967295):mG n 4=some (F8 n):=by
 have hw:A8 4=some true:=by grind[A8,fH]
 unfold mG;rw[hw];have e1:IntKind.u64.wrap (aE (8*4))=32:=ai
 have e2:aOO .i64 1 32=4294967296:=ai
 simp only[aG,gC,bO,bN,e1,e2];rw[lA,RP,cX aa];simp only[xF,bO,bN];rw[RP,show aE (4-1)=((3:Nat):Int) from by grind[dJ]];have st:∀(m:Int) (c:List UInt8) (i:Nat),i<c.length->i<4->0<=m->rE (m,c,(i:Int))=some (.next (m/256,c.set i (u8 m),(i:Int)-1)):=λm c i hc hi h0=>by simp only[rE];rw[aN ae,aT hc,aG,show(8:Int)=((8:Nat):Int) from rfl,a5Y h0 aa,bX,oZ];rfl
 rw[bU (st n _ 3 ae aa hn.1),show((3:Nat):Int)-1=((2:Nat):Int) by rfl,
  bU (st _ _ 2 ae aa aa),show((2:Nat):Int)-1=((1:Nat):Int) by rfl,
  bU (st _ _ 1 ae aa aa),show((1:Nat):Int)-1=((0:Nat):Int) by rfl,
  bU (st _ _ 0 ae aa aa),bQ (r:=F8 n)]
 ·rfl
 ·simp only[rE];rw[eG];have e1:n/256/256=n/65536:=aa
  rw[e1,show n/65536/256=n/16777216 by omega];rfl
theorem U8(hn:0<=n):((u8 n).toNat:Int)=n % 256:=by
 have:u8 n=u8 (n % 256):=by grind[u8]
 grind[bB5]
theorem a25{b:List Int}{a:Nat}(h:a+4<=b.length)(hl:b.length<=100000)(hn:0<=n/\n<=4294967295):m7 b (a:Int) (F8 n)=some (RZ b a n):=by
 have st:∀(c:List Int) (i:Nat) (v:UInt8),c.length=b.length->i<4->idx (F8 n) (i:Int)=some v->lT b (a:Int) (F8 n) (c,(i:Int))=some (.next (c.set (a+i) (v.toNat:Int),((i+1:Nat):Int))):=λc i v hc hi hv=>by simp only[lT];rw[aZ hc,aN (by grind[F8]),hv,aG,bX (x:=(a:Int)+i),show(a:Int)+i=((a+i:Nat):Int) by omega,vN,aG,bX,oZ];rfl
 unfold m7;rw[show(0:Int)=((0:Nat):Int) from rfl,bU (st b 0 _ rfl aa rfl),bU (st _ 1 _ ae aa rfl),bU (st _ 2 _ ae aa rfl),bU (st _ 3 _ ae aa rfl),bQ (r:=RZ b a n)]
 ·grind[QF,QE,aZ,aH1]
 ·simp only[lT];rw[aZ ae,aS (by simp[F8])];simp only[U8 hn.1,U8 (show 0<=n/16777216 by omega),U8 (show 0<=n/65536 by omega),U8 (show 0<=n/256 by omega)];rw[show n/16777216 % 256=n/16777216 by omega];rfl
theorem bB6{b:List Int}{a:Nat}(hn:0<=n/\n<=255):RZ b a n=st4 b a n:=by grind[RZ,st4]
theorem NH{b:List Int}{a:Nat}(h:a+4<=b.length)(hl:b.length<=100000)(hn:0<=n/\n<=255):iK b (a:Int) 4 n=some (st4 b a n):=by grind[aVZ,bB6]
theorem bLQ(hn:0<=n/\n<=255):F8 n=[0,0,0,u8 n]:=by unfold F8;rw[show n/16777216=0 by omega,show n/65536=0 by omega,show n/256=0 by omega];rfl
theorem aER(hn:0<=n/\n<=255):mG n 4=some [0,0,0,u8 n]:=by grind[YP,bLQ]
theorem aCQ{b:List Int}{a:Nat}(h:a+4<=b.length)(hl:b.length<=100000)(hn:0<=n/\n<=255):m7 b (a:Int) [0,0,0,u8 n]=some (st4 b a n):=by rw[<-bLQ hn,a25 h hl ⟨hn.1,aa⟩,bB6 hn]
theorem bHH{x y z:Int}:∀(a:Nat) (l:List Int),a+3<=l.length->cW l a [x,y,z]=((l.set a x).set (a+1) y).set (a+2) z
 |0,l,h=>by
  match l,h with
  |_::_::_::t,_=>simp[cW]
 |a + 1,l,h=>by
  match l,h with
  |u::t,h=>
   have ih:=bHH (x:=x) (y:=y) (z:=z) a t aj;grind[cW]
def bB7(p k:Nat)(c:Int):Nat:=(jP ((p:Int)*4+k) c).toNat
def gB(b:List Int)(p:Nat)(c:Int):Nat->List Int
 |0=>((b.set (p*64) 171).set (p*64+1) c).set (p*64+2) (dK c)
 |k+1=>st4 (gB b p c k) (bB7 p k c) 1
theorem U9(b:List Int)(p:Nat)(c:Int):∀k,(gB b p c k).length=b.length
 |0=>by simp[gB]
 |k+1=>by rw[gB,LO,U9 b p c k]
theorem aRY{l:List Int}(i:Nat){v:Int}(hl:tU l)(hv:0<=v/\v<=255):tU (l.set i v):=λx hx=>by
 rcases tY hx with h|rfl
 ·exact hl x h
 ·exact hv
theorem aYC{b:List Int}(hb:tU b)(p:Nat){c:Int}(hc:0<=c/\c<=2):∀k,tU (gB b p c k)
 |0=>by have:=oW c;exact aRY _ (aRY _ (aRY _ hb aa) aa) aa
 |k+1=>a0G (aYC hb p hc k) _ aa
def gS(p:Nat)(n:Nat):List Int:=(List.range n).map λ(i:Nat)=>(p:Int)*4+(i:Int)
theorem aRZ(p n:Nat):(gS p n).length=n:=by simp[gS]
theorem a54(p n:Nat):gS p (n+1)=gS p n++[(p:Int)*4+(n:Int)]:=by simp[gS,List.range_succ]
theorem aYD(hp:p<6)(hk:(k:Int)<dK c):jP ((p:Int)*4+k) c=(bB7 p k c:Int)/\bB7 p k c+4<=384:=by
 have h4:=oW c;have hm:=YL (c:=c) (i:=(k:Int)) aa hk;have hst:4<=bM c:=by have:0<=c/\c<=2:=AJ.1 aa;rcases BX this with e|e|e<;>rw[e]<;>decide
 have e:jP ((p:Int)*4+k) c=(p:Int)*64+8+(k:Int)*bM c:=by unfold jP;grind
 grind[bB7]
theorem aV0(hp:p<6)(hk:k<4):uA (p:Int) (k:Int)=some ((p:Int)*4+k)/\TA (p:Int) (k:Int)=some ((p:Int)*4+k):=by grind[dJ,uA,y6,dI,TA,HZ,fH]
section
variable {b:List Int} (hb:b.length=384) {p:Nat} (hp:p<6) {c:Int} (hc:0<=c/\c<=2)
include hb hp hc
theorem aR0:loop (DV c (p:Int)) ([],0,gB b p c 0)=some (gS p (dK c).toNat,gB b p c (dK c).toNat):=by
 have h4:=oW c;refine eS (dK c).toNat (λk=>(gS p k,(k:Int),gB b p c k)) _ (λk hk=>?_) ?_
 ·have ho:=aYD (c:=c) hp (k:=k) aa;simp only[DV,MQ,i4,aG];rw[b8,(aV0 hp aa).1];simp only[aG,xM,ho.1];rw[NH (by grind[U9]) (by grind[U9]) aa];simp only[aG];rw[aZ (by grind[aRZ]),bX,a54];rfl
 ·simp only[DV,i4,aG];grind
theorem a26:loop (K2 c (p:Int) (dK c)) ([],0,gB b p c 0)=some (gS p (dK c).toNat,gB b p c (dK c).toNat):=by
 have h4:=oW c;refine eS (dK c).toNat (λk=>(gS p k,(k:Int),gB b p c k)) _ (λk hk=>?_) ?_
 ·have ho:=aYD (c:=c) hp (k:=k) aa;simp only[K2,UJ];rw[b8,(aV0 hp aa).2];simp only[aG,DR,ho.1];rw[aER aa,aG,aCQ (by grind[U9]) (by grind[U9]) aa];simp only[aG];rw[aZ (by grind[aRZ]),bX,a54];rfl
 ·simp only[K2];grind
end
theorem bB8(hh:HOk h)(hc:0<=c/\c<=2) :
  (qA h c=some (h,[])/\J4 h c=some (h,[])) \/
  ∃p,p<6/\cJ h p<0/\qA h c=some (⟨gB h.Bytes p c (dK c).toNat,h.Class.set p c⟩,gS p (dK c).toNat)/\J4 h c=some (⟨gB h.Bytes p c (dK c).toNat,h.Class.set p c⟩,gS p (dK c).toNat):=by
 have hs:=hh.1;have h6:=hs.2.1;have h384:=hs.1;have hp4:=oW c;have hcp:=YO (h:=h) aa aa;have hne:∀j (hj:j<6),j<h.Class.findIdx (λx=>decide (x = -1))->h.Class[j]≠-1:=λj hj hlt=>aj
 generalize hq:h.Class.findIdx (λx=>decide (x = -1))=q at hne;have hq6:q<=6:=aj
 have s1:∀k (hk:k<q),fC h c (k:Int)=some (.next ((k+1:Nat):Int)):=λk hk=>by
  have:=hne k aa hk;have n:(h.Class[k] != -1)=true:=aj
  simp only[fC,DU];rw[b8,vN,aG,n,aN rfl,bX];rfl
 have s2:∀k (hk:k<q),eV h.Class (-1) (k:Int)=some (.next ((k+1:Nat):Int)):=λk hk=>by
  have:=hne k aa hk;have n:((-1:Int) == h.Class[k])=false:=aj
  simp only[eV];rw[b8,vN,aG,n,bX];rfl
 have hm:h.Bytes.length<=maxLen:=by grind[maxLen]
 by_cases h5:q=6
 ·left;have a1:loop (fC h c) 0=some (Out.brk ()):=eS q (λk=>(k:Int)) _ s1 (by simp_all[fC]);have a2:loop (eV h.Class (-1)) 0=some (Out.brk ()):=eS q (λk=>(k:Int)) _ s2 (by simp_all[eV]);constructor
  ·unfold qA;rw[a1];rfl
  ·unfold J4 nI;rw[a2,hcp,RI hm,kE,cP hh,cP hc];rfl
 ·right;have hq5:q<6:=aa
  have he:h.Class[q] = -1:=aj
  refine⟨q,hq5,by grind[aC9],?_,?_⟩
  ·have a1:loop (fC h c) 0=some (Out.ret (⟨gB h.Bytes q c (dK c).toNat,h.Class.set q c⟩,gS q (dK c).toNat)):=eS q (λk=>(k:Int)) _ s1 (by
    have e0:aE ((q:Int)*64)=((q*64:Nat):Int):=by grind[dJ]
    have e1:aE (((q*64:Nat):Int)+1)=((q*64+1:Nat):Int):=by grind[dJ]
    have e2:aE (((q*64:Nat):Int)+2)=((q*64+2:Nat):Int):=by grind[dJ]
    have n:(h.Class[q] != -1)=false:=aj
    simp only[fC,e0,e1,e2,oZ];rw[b8,vN,aG,n,eG,vN,aG,aT ah,aG,i4,aG,aT ah,aG];have:=aR0 h384 hq5 hc;simp only[gB] at this;rw[this];rfl)
   unfold qA;rw[a1];rfl
  ·have a2:loop (eV h.Class (-1)) 0=some (Out.ret (q:Int)):=eS q (λk=>(k:Int)) _ s2 (by
    have n:((-1:Int) == h.Class[q])=true:=by rw[he];rfl
    simp only[eV];rw[b8,vN,aG,n];rfl)
   unfold J4 nI;rw[a2,hcp,RI hm,kE,cP hh,cP hc];have e0:aE ((q:Int)*64)=((q*64:Nat):Int):=by grind[dJ]
   simp only[aG,CK,gC,bO,bN,DB,e0,EX,UK,oZ];rw[cX aa,eG,vN,aG,RP,bHH _ _ aa];have:=a26 h384 hq5 hc;simp only[gB] at this;rw[this];rfl
theorem LOk.count{l:aD}(h:LOk l):(gE l).length<=24:=a23 24 _ h.2.2.2.2 (λx hx=>by have:=h.2.2.2.1 x hx;omega)
theorem a7L(hs:fM m.Heap)(hc:0<=cA m.Heap s):∃h,wY m s=some h/\K3 m s=some h:=by
 unfold wY K3 KS UL sI A9;rw[rM hs hc,LM hs hc,aG,aG,dI,dI,AK,fH];have h1:=(T2 hc).1;simp only[cP h1,aG,gC,bO,bN];by_cases q:1<=nR m.Heap s/\nR m.Heap s<=6
 ·simp only[cP q,gC,bO,bN];exact⟨_,rfl,rfl⟩
 ·simp only[cX q,ML,bY];exact⟨_,rfl,rfl⟩
theorem aFP(hk:k<l.length)(t:List Int):(fO (l.set k ⟨l[k].aV++t⟩)).length=(fO l).length+t.length:=by grind[PR,MF]
def bt(b:List Int)(i:Nat):Int:=b.getD i 0
theorem a27{b:List Int}(h:i<b.length):b[i]=bt b i:=by grind[bt]
theorem ld4{b:List Int}{a:Nat}(h:a+4<=b.length):ld b a 4=((bt b a*256+bt b (a+1))*256+bt b (a+2))*256+bt b (a+3):=by grind[ld,B6,ldF,a27]
theorem VA{b:List Int}{v:Int}(hi:i<b.length):bt (b.set i v) j=if j=i then v else bt b j:=by grind[bt]
theorem NI{b:List Int}{a:Nat}(h:a+4<=b.length)(j:Nat):bt (st4 b a n) j=if j=a+3 then n else if a<=j/\j<a+3 then 0 else bt b j:=by unfold st4;rw[VA ah,VA ah,VA ah,VA aa];omega
theorem a28{b:List Int}{a:Nat}(h:a+4<=b.length):ld (st4 b a n) a 4=n:=by simp_all[ld4,LO,NI]
theorem YQ{b b':List Int}{a:Nat}(h:a+4<=b.length)(hl:b'.length=b.length)(hs:∀j,a<=j->j<a+4->bt b' j=bt b j):ld b' a 4=ld b a 4:=by simp_all[ld4]
def aH2(h:Heap)(p:Nat):Prop:=
 if cJ h p<0 then ∀k,k<64->bt h.Bytes (p*64+k)=0
 else((bt h.Bytes (p*64)=171/\bt h.Bytes (p*64+1)=cJ h p/\bt h.Bytes (p*64+2)=dK (cJ h p))/\(∀k,3<=k->k<8->bt h.Bytes (p*64+k)=0)/\∀i,i<(dK (cJ h p)).toNat->1<=ld h.Bytes (p*64+8+i*(bM (cJ h p)).toNat) 4/\ld h.Bytes (p*64+8+i*(bM (cJ h p)).toNat) 4<=7)
theorem aV1(hs:fM h)(hp:p<6)(hk:k<64):(fX h p).getD k 0=bt h.Bytes (p*64+k):=by rw[<-aVW hs hp hk,a27 (by have:=hs.1;omega)]
theorem aH3{l:List Int}:x∈l↔∃k,k<l.length/\l.getD k 0=x:=by
 rw[aFW];constructor
 ·rintro⟨k,hk,e⟩;exact⟨k,hk,aj⟩
 grind
theorem MG(hs:fM h)(hp:p<6):pB h p↔aH2 h p:=by
 unfold pB aH2;have hl:=W4 hs hp;split
 ·constructor
  ·intro q k hk;rw[<-aV1 hs hp hk];exact q _ (aH3.2 ⟨k,aa,rfl⟩)
  grind[aH3,aV1]
 ·rw[aV1 hs hp aa,aV1 hs hp aa,aV1 hs hp aa];have e:(∀x∈((fX h p).drop 3).take 5,x=0)↔∀k,3<=k->k<8->bt h.Bytes (p*64+k)=0:=by
   have g:∀j,j<5->(((fX h p).drop 3).take 5).getD j 0=bt h.Bytes (p*64+(3+j)):=λj hj=>by rw[<-aV1 hs hp aa,VG,VG,aKM,aN hj,List.getElem?_drop]
   constructor
   ·intro q k h3 h8;have:=q _ (aH3.2 ⟨k-3,aj,rfl⟩);grind
   ·intro q x hx;obtain⟨k,hk,rfl⟩:=aH3.1 hx;simp[hl] at hk;rw[g _ hk];exact q _ aa aa
  rw[e];rfl
theorem aH2.same{h':Heap}(hp:p<6)(hs:fM h)(hl:h'.Bytes.length=h.Bytes.length)(hc:cJ h' p=cJ h p)(hb:∀k,k<64->bt h'.Bytes (p*64+k)=bt h.Bytes (p*64+k))(q:aH2 h p):aH2 h' p:=by
 have h1:=hs.1;unfold aH2 at q ⊢;rw[hc];split
 ·grind
 ·rename_i q0;rw[aS q0] at q;obtain⟨⟨a1,a2,a3⟩,a4,a5⟩:=q;have b0:=hb 0 aa;have b1:=hb 1 aa;have b2:=hb 2 aa;simp only[aDZ] at b0;refine⟨⟨aa,aa,aa⟩,λk k3 k8=>aj,λi hi=>?_⟩;have hz:=xN hs hp (c:=cJ h p) rfl hi;rw[YQ (b:=h.Bytes) aa hl λj j1 j2=>by
   have:=hb (j-p*64) aa;grind]
  grind
theorem I9(hc:0<=cA h s):∃p i,p<6/\i<(dK (cJ h p)).toNat/\s=(p:Int)*4+i/\cA h s=cJ h p/\(jP s (cA h s)).toNat=p*64+8+i*(bM (cJ h p)).toNat/\(s/4).toNat=p:=by obtain⟨h1,h2,h3⟩:=T2 hc;have hle:=oW (cJ h (s/4).toNat);refine⟨(s/4).toNat,(s % 4).toNat,aa,aa,aa,h3,?_,rfl⟩;rw[h3];unfold jP;rw[aN ⟨h1,aa⟩];grind[bM]
theorem YR(hi:i<(dK c).toNat)(hj:j<(dK c).toNat)(hn:i≠j):i*(bM c).toNat+4<=j*(bM c).toNat\/j*(bM c).toNat+4<=i*(bM c).toNat:=by
 have hc:0<=c/\c<=2:=AJ.1 aa;have h12:12<=(bM c).toNat:=by rcases BX hc with rfl|rfl|rfl<;>decide
 rcases Nat.lt_or_gt_of_ne hn with q|q
 ·left;have:(i+1)*(bM c).toNat<=j*(bM c).toNat:=vR _ q;rw[nU] at this;omega
 ·right;have:(j+1)*(bM c).toNat<=i*(bM c).toNat:=vR _ q;rw[nU] at this;omega
theorem HOk.bJM(hh:HOk h){g:Int}(hc:0<=cA h s)(hg:1<=g/\g<=7) :
  HOk ⟨st4 h.Bytes (jP s (cA h s)).toNat g,h.Class⟩/\∀t,0<=cA h t->nR ⟨st4 h.Bytes (jP s (cA h s)).toNat g,h.Class⟩ t=if t=s then g else nR h t:=by
 obtain⟨hs,hp⟩:=hh;have h384:=hs.1;have hs':fM ⟨st4 h.Bytes (jP s (cA h s)).toNat g,h.Class⟩:=⟨by grind[LO],hs.2.1,a0G hs.2.2.1 _ aa,hs.2.2.2⟩;obtain⟨p,i,p6,hi,es,ec,eo,ep⟩:=I9 hc;have hz:=xN hs p6 rfl hi;have h4:=oW (cJ h p);refine⟨⟨hs',λq hq=>?_⟩,λt ht=>?_⟩
 ·rw[MG hs' hq];have hold:=(MG hs hq).1 (hp q hq);by_cases e:q=p
  ·subst e;have hpos:0<dK (cJ h q):=aa
   have hcl:¬cJ h q<0:=aa
   unfold aH2 at hold ⊢;have hcl':cJ ⟨st4 h.Bytes (jP s (cA h s)).toNat g,h.Class⟩ q=cJ h q:=rfl;rw[hcl'];rw[aS hcl] at hold ⊢;obtain⟨⟨a1,a2,a3⟩,a4,a5⟩:=hold;have bs:∀k,k<8->bt (st4 h.Bytes (jP s (cA h s)).toNat g) (q*64+k)=bt h.Bytes (q*64+k):=λk hk=>by rw[NI aa,pA,pA]
   have b0:=bs 0 aa;have b1:=bs 1 aa;have b2:=bs 2 aa;simp only[aDZ] at b0;refine⟨⟨aj,aj,aj⟩,λk k3 k8=>aj,λj hj=>?_⟩;have hzj:=xN hs p6 rfl hj;by_cases ej:j=i
   ·grind[a28]
   ·rw[YQ (b:=h.Bytes) aa (by grind[LO]) λk k1 k2=>?_]
    ·grind
    ·simp only[eo];have:=YR hi hj (λq=>ej q.symm);rw[NI aa,pA,pA]
  ·refine aH2.same hq hs (by grind[LO]) rfl (λk hk=>?_) hold;rw[NI aa,pA,pA]
 ·have e2:cA ⟨st4 h.Bytes (jP s (cA h s)).toNat g,h.Class⟩ t=cA h t:=rfl;unfold nR;rw[e2];by_cases e:t=s
  ·subst e;rw[aN rfl];grind[a28]
  ·rw[aS e];obtain⟨p',i',p6',hi',es',ec',eo',ep'⟩:=I9 ht;have hz':=xN hs p6' rfl hi';rw[YQ (b:=h.Bytes) aa (by grind[LO]) λk k1 k2=>?_];simp only;by_cases ee:p'=p
   ·subst ee;have:=YR hi hi' (λq=>e aa);rw[NI aa,pA,pA]
   ·have h4':=oW (cJ h p');rw[NI aa,pA,pA]
theorem aOG(hp:p<6)(hk:(k:Int)<dK c):bB7 p k c=p*64+8+k*(bM c).toNat/\8+k*(bM c).toNat+4<=64:=by have hc:0<=c/\c<=2:=AJ.1 aa;have h1:=aYD (c:=c) hp hk;have hle:=oW c;have e:=h1.1;unfold jP at e;rw[aN aa] at e;grind[bM,dK]
theorem bHI{b:List Int}{p:Nat}{c:Int}(hl:b.length=384)(hp:p<6)(hc:0<=c/\c<=2):∀k:Nat,(k:Int)<=dK c->∀j,(j<p*64\/p*64+64<=j->bt (gB b p c k) j=bt b j)/\(3<=j->j<8->bt (gB b p c k) (p*64+j)=bt b (p*64+j))/\bt (gB b p c k) (p*64)=171/\bt (gB b p c k) (p*64+1)=c/\bt (gB b p c k) (p*64+2)=dK c
 |0,hk,j=>by
  have key:∀i,bt (gB b p c 0) i=if i=p*64+2 then dK c else if i=p*64+1 then c else if i=p*64 then 171 else bt b i:=λi=>by grind[gB,VA]
  grind
 |k + 1,hk,j=>by
  have ih:=bHI hl hp hc k aa;have hoff:=aOG (c:=c) hp (by omega:(k:Int)<dK c);have hbl:=U9 b p c k;unfold gB;refine⟨λh=>?_,λh1 h2=>?_,?_,?_,?_⟩
  ·rw[NI aa,pA,pA];grind
  ·rw[NI aa,pA,pA];grind
  ·rw[NI aa,pA,pA];exact(ih j).2.2.1
  ·rw[NI aa,pA,pA];exact(ih j).2.2.2.1
  ·rw[NI aa,pA,pA];exact(ih j).2.2.2.2
theorem bB9{b:List Int}{p:Nat}{c:Int}(hl:b.length=384)(hp:p<6):∀k:Nat,(k:Int)<=dK c->∀i,i<k->ld (gB b p c k) (p*64+8+i*(bM c).toNat) 4=1
 |0,_,i,h=>absurd h aa
 |k + 1,hk,i,h=>by
  have hbl:=U9 b p c k;have ho:=aOG (c:=c) hp (by omega:(k:Int)<dK c);unfold gB;by_cases e:i=k
  ·grind[a28]
  ·have hoi:=aOG (c:=c) hp (by omega:(i:Int)<dK c);have ha:=YR (c:=c) (i:=i) (j:=k) aa aa e;rw[YQ (b:=gB b p c k) aa (by rw[LO]) λj j1 j2=>by rw[NI aa,pA,pA]];exact bB9 hl hp k aa i aa
theorem aH4(hs:fM h){B:List Int}{q:Nat}(hq:q<6):cJ ⟨B,h.Class.set p c⟩ q=if q=p then c else cJ h q:=by have h6:=hs.2.1;grind[cJ]
theorem HOk.bLR(hh:HOk h)(hp:p<6)(hun:cJ h p<0)(hc:0<=c/\c<=2) :
  HOk ⟨gB h.Bytes p c (dK c).toNat,h.Class.set p c⟩/\(∀t,(t/4).toNat≠p->cA ⟨gB h.Bytes p c (dK c).toNat,h.Class.set p c⟩ t=cA h t)/\(∀t,0<=cA h t->(t/4).toNat≠p/\nR ⟨gB h.Bytes p c (dK c).toNat,h.Class.set p c⟩ t=nR h t) /\
   ∀i,i<(dK c).toNat->cA ⟨gB h.Bytes p c (dK c).toNat,h.Class.set p c⟩ ((p:Int)*4+i)=c/\nR ⟨gB h.Bytes p c (dK c).toNat,h.Class.set p c⟩ ((p:Int)*4+i)=1:=by
 obtain⟨hs,hpg⟩:=hh;have h384:=hs.1;have hle:=oW c;have hpn:((dK c).toNat:Int)<=dK c:=aa
 have hb:=bHI h384 hp hc (dK c).toNat hpn;have hbl:=U9 h.Bytes p c (dK c).toNat;have hs':fM ⟨gB h.Bytes p c (dK c).toNat,h.Class.set p c⟩:=⟨by simp only[hbl];exact h384,by simp only[b9];exact hs.2.1,aYC hs.2.2.1 p hc _,λx hx=>by
  rcases tY hx with q|rfl
  ·exact hs.2.2.2 x q
  ·omega⟩
 have hcls:∀t:Int,(t/4).toNat≠p->cA ⟨gB h.Bytes p c (dK c).toNat,h.Class.set p c⟩ t=cA h t:=λt ht=>by
  unfold cA;by_cases q:0<=t/\t<=23
  ·rw[aH4 hs aa,aS ht]
  ·rw[aS (λz=>q z.1),aS (λz=>q z.1)]
 refine⟨⟨hs',λq hq=>?_⟩,hcls,λt ht=>?_,λi hi=>?_⟩
 ·rw[MG hs' hq];have hold:=(MG hs hq).1 (hpg q hq);by_cases e:q=p
  ·subst e;unfold aH2 at hold ⊢;rw[aN hun] at hold;rw[aH4 hs hq,aN rfl,pA];refine⟨(hb 0).2.2,λk k3 k8=>?_,λi hi=>?_⟩
   ·simp only;rw[(hb k).2.1 k3 k8];exact hold k aa
   ·simp only;rw[bB9 h384 hp _ hpn i hi];omega
  ·refine aH2.same hq hs (by simp only[hbl]) (by rw[aH4 hs hq,aS e]) (λk hk=>?_) hold;exact(hb _).1 aa
 ·obtain⟨p',i',p6',hi',es',ec',eo',ep'⟩:=I9 ht;have hne:(t/4).toNat≠p:=λz=>by rw[ec',<-ep',z] at ht;omega
  refine⟨hne,?_⟩;have hz':=xN hs p6' rfl hi';unfold nR;rw[hcls t hne,YQ (b:=h.Bytes) aa (by simp only[hbl]) λk k1 k2=>(hb k).1 aa]
 ·have e1:((p:Int)*4+i)/4=p:=aa
  have e2:((p:Int)*4+i) % 4=i:=aa
  have ec:cA ⟨gB h.Bytes p c (dK c).toNat,h.Class.set p c⟩ ((p:Int)*4+i)=c:=by unfold cA;rw[e1,e2,oZ,aH4 hs hp,aN rfl,aN aa]
  refine⟨ec,?_⟩;unfold nR;rw[ec];have ho:=aOG (c:=c) hp (by omega:(i:Int)<dK c);have:(jP ((p:Int)*4+i) c).toNat=p*64+8+i*(bM c).toNat:=ho.1;rw[this];exact bB9 h384 hp _ hpn i hi
def AM(m m':Mem)(k:Int):Prop:=pC m'/\∀s,rN m s=3->s≠k->rN m' s=3/\nR m'.Heap s=nR m.Heap s/\cA m'.Heap s=cA m.Heap s
theorem AM.refl(h:pC m)(k:Int):AM m m k:=⟨h,λ_ h _=>⟨h,rfl,rfl⟩⟩
theorem AM.live{m':Mem}{k h:Int}(q:AM m m' k)(hl:oY m h)(hn:h % 32≠k):oY m' h:=by obtain⟨h1,h2,h3⟩:=hl;obtain⟨a,b,_⟩:=q.2 _ h2 hn;exact⟨h1,a,aa⟩
theorem T6(hk:k<l.length){t:aU}:hY (l.set k t) j=if j=k then t.aV else hY l j:=by grind[hY]
theorem aV2(hk:k<l.length){t:aU}(ht:t.aV.Sublist l[k].aV):(fO (l.set k t)).Sublist (fO l):=by grind[PR,MF]
theorem aH5(hk:k<l.length):s∈fO (l.set k ⟨l[k].aV++xs⟩)↔s∈fO l\/s∈xs:=by grind[PR,MF]
theorem aCR(hk:k<l.length){r q:List Int}(h:(q++(fO l++r)).Nodup)(hx:xs.Nodup)(hd:∀x∈xs,x∉q++(fO l++r)):(q++(fO (l.set k ⟨l[k].aV++xs⟩)++r)).Nodup:=by
 have hp:(q++(fO (l.set k ⟨l[k].aV++xs⟩)++r)).Perm (xs++(q++(fO l++r))):=by rw[PR hk,MF hk];grind
 grind
theorem tW:rN m s=3↔0<=cA m.Heap s/\s∉gE m.aD/\nR m.Heap s<=6:=by unfold rN;grind
section
variable {m:Mem} (hm:pC m)
include hm
theorem pC.bJN(hk:k<9){t:aU}(ht:t.aV.Sublist (hY m.aD.Own k)):AM m ⟨m.Heap,⟨m.aD.Global,m.aD.Own.set k t⟩⟩ (-1):=by
 obtain⟨⟨hh,h3,h9,h2,hr,hn⟩,hg,ho⟩:=hm;have hk':k<m.aD.Own.length:=aa
 have ht':t.aV.Sublist m.aD.Own[k].aV:=by grind[eU]
 have hsub:(gE ⟨m.aD.Global,m.aD.Own.set k t⟩).Sublist (gE m.aD):=(List.Sublist.refl _).append (aV2 hk' ht');refine⟨⟨⟨hh,h3,aj,λs hs=>?_,λx hx=>hr x (hsub.subset hx),hsub.nodup hn⟩,hg,λj hj=>?_⟩,λs hs _=>⟨?_,rfl,rfl⟩⟩
 ·grind
 ·unfold JH;simp only[T6 hk'];split
  ·rename_i e;subst e;exact λx hx=>ho j hj x (ht.subset hx)
  ·exact ho j hj
 grind[tW]
theorem pC.a7M(hk:k<3){t:aU}(ht:t.aV.Sublist (hY m.aD.Global k)):AM m ⟨m.Heap,⟨m.aD.Global.set k t,m.aD.Own⟩⟩ (-1):=by
 obtain⟨⟨hh,h3,h9,h2,hr,hn⟩,hg,ho⟩:=hm;have hk':k<m.aD.Global.length:=aa
 have ht':t.aV.Sublist m.aD.Global[k].aV:=by grind[eU]
 have hsub:(gE ⟨m.aD.Global.set k t,m.aD.Own⟩).Sublist (gE m.aD):=(aV2 hk' ht').append (List.Sublist.refl _);refine⟨⟨⟨hh,aj,h9,h2,λx hx=>hr x (hsub.subset hx),hsub.nodup hn⟩,λj hj=>?_,ho⟩,λs hs _=>⟨?_,rfl,rfl⟩⟩
 ·unfold U3;simp only[T6 hk'];split
  ·rename_i e;subst e;exact λx hx=>hg j hj x (ht.subset hx)
  ·exact hg j hj
 grind[tW]
theorem pC.bFW(hk:k<9)(hl:(hY m.aD.Own k).length+xs.length<=2)(hx:xs.Nodup)(hf:I8 m.Heap xs ((k % 3:Nat):Int))(hd:∀x∈xs,x∉gE m.aD)(hk':k<m.aD.Own.length) :
  pC ⟨m.Heap,⟨m.aD.Global,m.aD.Own.set k ⟨m.aD.Own[k].aV++xs⟩⟩⟩/\∀s,s∉xs->rN m s=3->rN ⟨m.Heap,⟨m.aD.Global,m.aD.Own.set k ⟨m.aD.Own[k].aV++xs⟩⟩⟩ s=3:=by
 obtain⟨⟨hh,h3,h9,h2,hr,hn⟩,hg,ho⟩:=hm;have hmem:∀s,s∈gE ⟨m.aD.Global,m.aD.Own.set k ⟨m.aD.Own[k].aV++xs⟩⟩↔s∈gE m.aD\/s∈xs:=λs=>by simp[gE,aH5,or_assoc]
 have hcl:∀x∈xs,0<=x/\x<=23:=λx h=>by have:=(hf x h).1;exact(T2 (h:=m.Heap) (s:=x) aa).1
 refine⟨⟨⟨hh,h3,aj,λs hs=>?_,λx hx=>?_,?_⟩,hg,λj hj=>?_⟩,λs hs h3=>?_⟩
 ·grind[eU]
 ·grind
 ·have:=aCR (q:=fO m.aD.Global) (r:=[]) hk' (by grind[gE]) hx (by grind[gE]);grind[gE]
 ·unfold JH;simp only[T6 hk'];split
  ·rename_i e;subst e;intro x hx;rcases jG.1 hx with q|q
   ·rw[eU hk'] at q;exact ho j hj x q
   ·exact hf x q
  ·exact ho j hj
 grind[tW]
theorem pC.aR1(hk:k<3)(hx:xs.Nodup)(hf:I8 m.Heap xs (k:Int))(hd:∀x∈xs,x∉gE m.aD)(hk':k<m.aD.Global.length) :
  pC ⟨m.Heap,⟨m.aD.Global.set k ⟨m.aD.Global[k].aV++xs⟩,m.aD.Own⟩⟩/\∀s,s∉xs->rN m s=3->rN ⟨m.Heap,⟨m.aD.Global.set k ⟨m.aD.Global[k].aV++xs⟩,m.aD.Own⟩⟩ s=3:=by
 obtain⟨⟨hh,h3,h9,h2,hr,hn⟩,hg,ho⟩:=hm;have hmem:∀s,s∈gE ⟨m.aD.Global.set k ⟨m.aD.Global[k].aV++xs⟩,m.aD.Own⟩↔s∈gE m.aD\/s∈xs:=λs=>by simp[gE,aH5,or_right_comm]
 have hcl:∀x∈xs,0<=x/\x<=23:=λx h=>by have:=(hf x h).1;exact(T2 (h:=m.Heap) (s:=x) aa).1
 refine⟨⟨⟨hh,aj,h9,h2,λx hx=>?_,?_⟩,λj hj=>?_,ho⟩,λs hs h3=>?_⟩
 ·grind
 ·have:=aCR (q:=[]) (r:=fO m.aD.Own) hk' (by grind[gE]) hx (by grind[gE]);grind[gE]
 ·unfold U3;simp only[T6 hk'];split
  ·rename_i e;subst e;intro x hx;rcases jG.1 hx with q|q
   ·rw[eU hk'] at q;exact hg j hj x q
   ·exact hf x q
  ·exact hg j hj
 grind[tW]
theorem pC.aCS(hx:x∈gE m.aD):0<=cA m.Heap x/\nR m.Heap x<=6:=by
 obtain⟨⟨hh,h3,h9,h2,hr,hn⟩,hg,ho⟩:=hm;have key:∀(l:List aU),x∈fO l->∃k,k<l.length/\x∈hY l k:=λl h=>by grind[aDB,aFW,eU]
 rcases jG.1 hx with q|q
 ·obtain⟨k,hk,h⟩:=key _ q;have:=hg k aa x h;omega
 ·obtain⟨k,hk,h⟩:=key _ q;have:=ho k aa x h;omega
theorem pC.heap{h':Heap}(hh:HOk h')(hs:∀x∈gE m.aD,cA h' x=cA m.Heap x/\nR h' x=nR m.Heap x):pC ⟨h',m.aD⟩:=by
 obtain⟨⟨_,hl⟩,hg,ho⟩:=hm;have key:∀(l:List aU) k x,x∈hY l k->x∈fO l:=λl k x h=>by grind[hY,aDB]
 refine⟨⟨hh,hl⟩,λk hk x hx=>?_,λk hk x hx=>?_⟩
 ·obtain⟨a,b⟩:=hs x (List.mem_append_left _ (key _ k x hx));show cA h' x=_/\nR h' x<=6;rw[a,b];exact hg k hk x hx
 ·obtain⟨a,b⟩:=hs x (List.mem_append_right _ (key _ k x hx));show cA h' x=_/\nR h' x<=6;rw[a,b];exact ho k hk x hx
theorem pC.bNE{g:Int}(hu:rN m s=3)(hg:1<=g/\g<=7):AM m ⟨⟨st4 m.Heap.Bytes (jP s (cA m.Heap s)).toNat g,m.Heap.Class⟩,m.aD⟩ s/\nR ⟨st4 m.Heap.Bytes (jP s (cA m.Heap s)).toNat g,m.Heap.Class⟩ s=g:=by
 have hu':=tW.1 hu;obtain⟨a,b⟩:=HOk.bJM hm.1.1 hu'.1 hg;refine⟨⟨pC.heap hm a λx hx=>⟨rfl,?_⟩,λt ht hn=>?_⟩,aj⟩
 ·rw[b x (pC.aCS hm hx).1,aS (show ¬x=s from λe=>hu'.2.1 (e ▸ hx))]
 ·have ht':=tW.1 ht;have e:nR ⟨st4 m.Heap.Bytes (jP s (cA m.Heap s)).toNat g,m.Heap.Class⟩ t=nR m.Heap t:=aj
  exact⟨tW.2 ⟨ht'.1,ht'.2.1,aj⟩,e,rfl⟩
theorem pC.bLS(hp:p<6)(hun:cJ m.Heap p<0)(hc:0<=c/\c<=2)(hxs:∀x∈xs,∃i,i<(dK c).toNat/\x=(p:Int)*4+(i:Nat))(hx:xs.Nodup)(hk':c.toNat<m.aD.Global.length) :
  AM m ⟨⟨gB m.Heap.Bytes p c (dK c).toNat,m.Heap.Class.set p c⟩,⟨m.aD.Global.set c.toNat ⟨m.aD.Global[c.toNat].aV++xs⟩,m.aD.Own⟩⟩ (-1):=by
 obtain⟨a,b,d,e⟩:=HOk.bLR hm.1.1 hp hun hc;have h1:pC ⟨⟨gB m.Heap.Bytes p c (dK c).toNat,m.Heap.Class.set p c⟩,m.aD⟩:=pC.heap hm a λx hx=>by grind[pC.aCS]
 have hno:∀x∈xs,¬0<=cA m.Heap x:=λx h q=>by obtain⟨i,hi,rfl⟩:=hxs x h;have h4:=oW c;exact(d _ q).1 aa
 obtain⟨f,g⟩:=pC.aR1 h1 (k:=c.toNat) aa hx (λx h=>by
  obtain⟨i,hi,rfl⟩:=hxs x h
  (simp_all;omega)) (λx h q=>hno x h (pC.aCS hm q).1) hk'
 refine⟨f,λs hs _=>?_⟩;grind[tW]
end
theorem bJO{n:Nat}(h:x∈gS p n):∃i,i<n/\x=(p:Int)*4+(i:Nat):=by grind[gS]
theorem bCA(p n:Nat):(gS p n).Nodup:=by grind[gS,List.nodup_range]
theorem a0I(hm:pC m)(hc:0<=c/\c<=2) :
  ∃m' s,AX m c=some (m',s)/\OY m c=some (m',s)/\FG m'/\(0<=s->fM m'.Heap/\0<=cA m'.Heap s)/\AM m m' (-1):=by
 have hl:=hm.1.2;have hcnt:=hl.count;have hs:=hm.1.1.1;have hsl:=hl.aK1 aa;have hp4:=oW c;have hpp:0<dK c:=AJ.2 hc;have hall:=wU m.aD;have hsG:∀s∈m.aD.Global,s.aV.length<=24:=λs h=>by have:=MD h;omega
 have hsO:∀s∈m.aD.Own,s.aV.length<=24:=λs h=>by have:=MD h;omega
 have h3:=hl.1;have h9:=hl.2.1;have hcpl:=U7 (l:=m.aD) aa aa (λs h=>aj) (λs h=>aj);unfold AX OY;rcases bB8 hm.1.1 hc with ⟨e1,e2⟩|⟨p,hp,hun,e1,e2⟩
 ·rw[e1,e2,hcpl];have h1:=hs.1;have h2:=hs.2.1;exact⟨_,_,rfl,rfl,⟨aj,aj,aj,aj,aj⟩,λh=>absurd h aa,AM.refl hm _⟩
 ·rw[e1,e2,hcpl];simp only[aG,MZ,MY,DW,aRZ];have hn:(((dK c).toNat:Int) == 0)=false:=aj
  have hk:c.toNat<m.aD.Global.length:=aa
  have hg0:=hsG _ (cM hk);have hx:idx m.aD.Global c=some m.aD.Global[c.toNat]:=gD hc.1 aa;have hz:idx (gS p (dK c).toNat) 0=some ((p:Int)*4):=by grind[aT,gS]
  have hlen:(List.drop (1:Int).toNat (List.take (dK c).toNat (gS p (dK c).toNat))).length<=4:=aj
  simp only[hn,bO,bN,hx,aG,hz];rw[RP,RP];have hcl:cJ ⟨gB m.Heap.Bytes p c (dK c).toNat,m.Heap.Class.set p c⟩ p=c:=by grind[cJ]
  refine⟨_,_,rfl,rfl,⟨by simp only[U9];have:=hs.1;omega,by simp only[b9];have:=hs.2.1;omega,aj,aj,?_⟩,λ_=>⟨⟨by simp only[U9];exact hs.1,by simp only[b9];exact hs.2.1,aYC hs.2.2.1 p hc _,λx hx=>?_⟩,?_⟩,?_⟩
  ·grind[wU,aFP]
  ·rcases tY hx with h|rfl
   ·exact hs.2.2.2 x h
   ·omega
  ·unfold cA
   (simp_all;omega)
  grind[pC.bLS,bJO,bCA]
theorem a29(n:Int):∃c,AV n=some c/\OV n=some c/\(c = -1\/(0<=c/\c<=2)):=by
 have s1:∀k,0<=k/\k<=2->fV n k=some (if 1<=n/\n<=lD k then .stop (Out.ret k) else .next (k+1)):=λk hk=>by simp only[fV];rw[b8,RG,aG,dI,aG,bX];grind
 have s2:∀k,0<=k/\k<=2->j9 n k=some (if 1<=n/\n<=lD k then .stop (Out.ret k) else .next (k+1)):=λk hk=>by simp only[j9,D8];rw[b8,aCH,aG,bX];grind
 have st:∀k,0<=k/\k<=2->1<=n/\n<=lD k->loop (fV n) k=some (Out.ret k)/\loop (j9 n) k=some (Out.ret k):=λk hk h=>
  ⟨bQ aj,bQ aj⟩
 have nx:∀k,0<=k/\k<=2->¬(1<=n/\n<=lD k)->loop (fV n) k=loop (fV n) (k+1)/\loop (j9 n) k=loop (j9 n) (k+1):=λk hk h=>
  ⟨bU aj,bU aj⟩
 unfold AV OV;by_cases q0:1<=n/\n<=lD 0
 ·have:=st 0 aa q0;rw[this.1,this.2];exact⟨_,rfl,rfl,.inr aa⟩
 ·have h0:=nx 0 aa q0;rw[h0.1,h0.2,show(0:Int)+1=1 from rfl];by_cases q1:1<=n/\n<=lD 1
  ·have:=st 1 aa q1;rw[this.1,this.2];exact⟨_,rfl,rfl,.inr aa⟩
  ·have h1:=nx 1 aa q1;rw[h1.1,h1.2,show(1:Int)+1=2 from rfl];by_cases q2:1<=n/\n<=lD 2
   ·have:=st 2 aa q2;rw[this.1,this.2];exact⟨_,rfl,rfl,.inr aa⟩
   ·have h2:=nx 2 aa q2;rw[h2.1,h2.2,show(2:Int)+1=3 from rfl,bQ (body:=fV n) (r:=Out.brk ()) (by simp[fV]),bQ (body:=j9 n) (r:=Out.brk ()) (by simp[j9])];exact⟨_,rfl,rfl,.inl rfl⟩
theorem bCB{s:aU}(hl:s.aV.length<=1048576):∃t x,rA s=some (t,x)/\zO s=some (x,t)/\t.aV.length<=s.aV.length/\(0<=x->x∈s.aV)/\t.aV.Sublist s.aV:=by
 unfold rA zO KQ;rw[bX];by_cases q:s.aV.length=0
 ·rw[aN aj,b8];grind
 ·have hx:idx s.aV ((s.aV.length:Int)-1)=some (s.aV[s.aV.length-1]' aa):=by grind[aT]
  rw[aS aj,lA,RP,hx];simp only[aG];grind[aZ]
theorem XA(hw:0<=w/\w<=2)(hc:0<=c/\c<=2):yZ w c=some (w*3+c)/\QD w c=some (w*3+c):=by grind[dJ,yZ,C1,dI,QD,KZ,nC,kE]
theorem aR2(hk:k<l.length){t:aU}(ht:t.aV.length<=l[k].aV.length):(fO (l.set k t)).length<=(fO l).length:=by grind[PR,MF]
section
variable {m:Mem} (hm:pC m)
include hm
theorem pC.facts:(gE m.aD).length<=24/\m.aD.Global.length=3/\m.aD.Own.length=9/\m.Heap.Bytes.length=384/\m.Heap.Class.length=6/\FG m/\iV m.aD=some m.aD/\qJ m.aD=some true /\
  (∀s∈m.aD.Global,s.aV.length<=24)/\(∀s∈m.aD.Own,s.aV.length<=24):=by
 have hl:=hm.1.2;have hcnt:=hl.count;have hall:=wU m.aD;have hsG:∀s∈m.aD.Global,s.aV.length<=24:=λs h=>by have:=MD h;omega
 have hsO:∀s∈m.aD.Own,s.aV.length<=24:=λs h=>by have:=MD h;omega
 have h3:=hl.1;have h9:=hl.2.1;have h1:=hm.1.1.1.1;have h2:=hm.1.1.1.2.1;refine⟨hcnt,h3,h9,h1,h2,⟨aa,aa,aa,aa,aa⟩,U7 aa aa (λs h=>aj) (λs h=>aj),by grind[Z8],hsG,hsO⟩
theorem aR3(hw:0<=w/\w<=2)(hc:0<=c/\c<=2) :
  ∃l t x,idx m.aD.Own (w*3+c)=some l/\rA l=some (t,x)/\OW m.aD w c=some (⟨m.aD.Global,m.aD.Own.set (w*3+c).toNat t⟩,x) /\
   FG ⟨m.Heap,⟨m.aD.Global,m.aD.Own.set (w*3+c).toNat t⟩⟩/\(0<=x->0<=cA m.Heap x)/\AM m ⟨m.Heap,⟨m.aD.Global,m.aD.Own.set (w*3+c).toNat t⟩⟩ (-1):=by
 obtain⟨hcnt,h3,h9,h1,h2,hsm,hcp,hlo,hsG,hsO⟩:=pC.facts hm;have hk:(w*3+c).toNat<m.aD.Own.length:=aa
 have hx:idx m.aD.Own (w*3+c)=some m.aD.Own[(w*3+c).toNat]:=gD aa aa;have h24:=hsO _ (cM hk);obtain⟨t,x,e1,e2,ht,hmem,hsub⟩:=bCB (s:=m.aD.Own[(w*3+c).toNat]) aa;have hall:=wU m.aD;refine⟨_,t,x,hx,e1,?_,⟨aj,aj,aj,aj,?_⟩,λh0=>?_,pC.bJN hm aa (by grind[eU])⟩
 ·unfold OW EA;rw[hcp,(XA hw hc).2,hlo];grind
 ·grind[aR2,wU]
 ·have:=hm.2.2 (w*3+c).toNat aa x (by grind[eU]);omega
theorem aES(hc:0<=c/\c<=2) :
  ∃l t x,idx m.aD.Global c=some l/\rA l=some (t,x)/\EB m.aD c=some (⟨m.aD.Global.set c.toNat t,m.aD.Own⟩,x) /\
   FG ⟨m.Heap,⟨m.aD.Global.set c.toNat t,m.aD.Own⟩⟩/\(0<=x->0<=cA m.Heap x)/\AM m ⟨m.Heap,⟨m.aD.Global.set c.toNat t,m.aD.Own⟩⟩ (-1):=by
 obtain⟨hcnt,h3,h9,h1,h2,hsm,hcp,hlo,hsG,hsO⟩:=pC.facts hm;have hk:c.toNat<m.aD.Global.length:=aa
 have hx:idx m.aD.Global c=some m.aD.Global[c.toNat]:=gD aa aa;have h24:=hsG _ (cM hk);obtain⟨t,x,e1,e2,ht,hmem,hsub⟩:=bCB (s:=m.aD.Global[c.toNat]) aa;have hall:=wU m.aD;refine⟨_,t,x,hx,e1,?_,⟨aj,aj,aj,aj,?_⟩,λh0=>?_,pC.a7M hm aa (by grind[eU])⟩
 ·simp_all[EB,uQ,kE]
 ·grind[aR2,wU]
 ·have:=hm.2.1 c.toNat aa x (by grind[eU]);omega
theorem aYE{h:Int}(hw:0<=w/\w<=2)(hv:oY m h):∃m',zC m w (h % 32)=some m'/\QI m w h=some m'/\FG m'/\AM m m' (h % 32):=by
 obtain⟨hcnt,h3,h9,h1,h2,hsm,hcp,hlo,hsG,hsO⟩:=pC.facts hm;have hs:=hm.1.1.1;have hh:=hv.1;have hhm:=hh.mod;have hcl:=kI hv.2.1;have hgo:=aDA hcl;have hc2:0<=cA m.Heap (h % 32)/\cA m.Heap (h % 32)<=2:=by obtain⟨_,q,e⟩:=T2 hcl;rw[e];exact AJ.1 aa
 have hg6:1<=h/32/\h/32<=6:=by grind[mT]
 have hbl:m.Heap.Bytes.length<=maxLen:=by grind[maxLen]
 have hnot:h % 32∉gE m.aD:=λq=>by have:=hv.2.1;simp_all[rN,aS]
 have hcpH:=YO (h:=m.Heap) aa aa;have eo:jP (h % 32) (cA m.Heap (h % 32))=(((jP (h % 32) (cA m.Heap (h % 32))).toNat:Nat):Int):=aa
 have ew:aE (h/32+1)=h/32+1:=bX;have ed:aE (Int.tdiv h 32)=h/32:=by grind[dJ]
 have hall:=wU m.aD;obtain⟨hr1,hr2⟩:=pC.bNE hm hv.2.1 (g:=h/32+1) aa;have hu:=tW.1 hv.2.1;unfold zC QI aBR H0;rw[hhm.1,mJ hs,hcpH,RH hbl,cP hs,kG hs,ed,ew,hcp];simp only[aG,gC,bO,bN,QH,IA,QG];rw[rM hs hcl,hv.2.2,fH,cX (show ¬cA m.Heap (h % 32)<0 by omega),cP (show 1<=h/32+1/\h/32+1<=7 by omega)];simp only[aG,gC,bO,bN,xM,DR,ew];generalize hgn:(jP (h % 32) (cA m.Heap (h % 32))).toNat=a at eo;rw[hgn] at hr1 hr2;rw[eo,NH aa aa aa,aER aa];simp only[aG];rw[aCQ aa aa aa];simp only[aG,G7,UN,ed,ew,hhm.1];by_cases q:h/32+1<=6
 ·have hk:(w*3+cA m.Heap (h % 32)).toNat<m.aD.Own.length:=aa
  have hx:idx m.aD.Own (w*3+cA m.Heap (h % 32))=some m.aD.Own[(w*3+cA m.Heap (h % 32)).toNat]:=gD aa aa;have hk2:(cA m.Heap (h % 32)).toNat<m.aD.Global.length:=aa
  have hx2:idx m.aD.Global (cA m.Heap (h % 32))=some m.aD.Global[(cA m.Heap (h % 32)).toNat]:=gD aa aa;have b1:=hsO _ (cM hk);have b2:=hsG _ (cM hk2);rw[cP q,aN rfl,aN rfl];unfold SO aIU BF;rw[kG hs,aG,hcp,(XA hw hc2).1,(XA hw hc2).2,hlo,AK,cP (show 0<=h % 32/\h % 32<=23 by omega),aCO aa aa aa,cX hnot];simp only[aG,gC,bO,bN,hx,hx2];have nz:¬w*3+cA m.Heap (h % 32)<0:=aa
  simp only[cX nz,bO,bN];by_cases q2:m.aD.Own[(w*3+cA m.Heap (h % 32)).toNat].aV.length<2
  ·have y1:(m.aD.Own[(w*3+cA m.Heap (h % 32)).toNat].aV.length:Int)<2:=aa
   have y2:¬(2:Int)<=m.aD.Own[(w*3+cA m.Heap (h % 32)).toNat].aV.length:=aa
   simp only[cP y1,cX y2,bO,bN,bY];rw[JN,JN];refine⟨_,rfl,rfl,⟨by grind[LO],aj,aj,aj,?_⟩,?_⟩
   ·grind[wU,aFP]
   ·have hmod:((w*3+cA m.Heap (h % 32)).toNat % 3:Nat)=(cA m.Heap (h % 32)).toNat:=aa
    obtain⟨z1,z2⟩:=pC.bFW hr1.1 (k:=(w*3+cA m.Heap (h % 32)).toNat) aa (xs:=[h % 32]) (by grind[eU]) ae (λx hx=>by
     simp at hx;subst hx;exact⟨by rw[hmod];show cA m.Heap (h % 32)=_;omega,aj⟩) (λx hx=>aj) hk
    refine⟨z1,λs h1 h2=>?_⟩;obtain⟨y1,y2,y3⟩:=hr1.2 s h1 h2;grind
  ·have y1:¬(m.aD.Own[(w*3+cA m.Heap (h % 32)).toNat].aV.length:Int)<2:=aa
   have y2:(2:Int)<=m.aD.Own[(w*3+cA m.Heap (h % 32)).toNat].aV.length:=aa
   simp only[cP y2,cX y1,bO,bN,bY];rw[JN,JN];refine⟨_,rfl,rfl,⟨by grind[LO],aj,aj,aj,?_⟩,?_⟩
   ·grind[wU,aFP]
   ·obtain⟨z1,z2⟩:=pC.aR1 hr1.1 (k:=(cA m.Heap (h % 32)).toNat) aa (xs:=[h % 32]) ae (λx hx=>by
     simp at hx;subst hx;exact⟨by show cA m.Heap (h % 32)=_;omega,aj⟩) (λx hx=>aj) hk2
    refine⟨z1,λs h1 h2=>?_⟩;obtain⟨y1,y2,y3⟩:=hr1.2 s h1 h2;grind
 ·rw[cX q,eG,eG];refine⟨_,rfl,rfl,⟨by grind[LO],aj,aj,aj,by(simp_all;omega)⟩,hr1⟩
end
theorem alloc_eq{b:aA}(hm:pC b.Mem)(hw:0<=w/\w<=2)(s:Sub) :
  ∃x y,wZ b w s=some (x,y)/\uR s b w=some (y,x)/\∃m',x=⟨m',b.aJ,b.bB,b.i5⟩/\FG m'/\AM b.Mem m' (-1):=by
 have hsm:=(pC.facts hm).2.2.2.2.2.1;have hs:=hm.1.1.1;obtain⟨c,ec,ei,hcc⟩:=a29 s.A;unfold wZ uR;rw[ec,ei];simp only[aG];by_cases c0:c<0
 ·simp only[cP c0,bY,bV,bR];exact⟨_,_,rfl,rfl,_,rfl,hsm,AM.refl hm _⟩
 have hc:0<=c/\c<=2:=aa
 simp only[cX c0,bO,bN];have fin:∀(m':Mem) (x:Int),FG m'->AM b.Mem m' (-1)->(0<=x->fM m'.Heap/\0<=cA m'.Heap x) ->
   ∃X Y,iL s x ⟨m',b.aJ,b.bB,b.i5⟩=some (X,Y)/\iT s x ⟨m',b.aJ,b.bB,b.i5⟩=some (Y,X)/\∃m',X=⟨m',b.aJ,b.bB,b.i5⟩/\FG m'/\AM b.Mem m' (-1):=by
  intro m' x hs' hst hx;unfold iL iT;simp only[sJ,N9,bV,bR];by_cases x0:0<=x
  ·obtain⟨h,e1,e2⟩:=a7L (m:=m') (hx x0).1 (hx x0).2;rw[cX (show ¬x<0 by omega),cP x0];simp only[bO,bN,bY,e1,e2,aG];grind
  ·rw[cP (show x<0 by omega),cX x0];by_cases p3:s.Pc=3
   ·simp only[p3,beq_self_eq_true,bY,bO,bN,aG];grind
   ·have p3':(s.Pc == 3)=false:=aj
    simp only[p3',bY,bO,bN,aG];grind
 by_cases p0:s.Pc=0
 ·obtain⟨l,t,x,e1,e2,e3,h1,h2,h3⟩:=aR3 hm hw hc;simp_all[XA]
 ·have p0':(s.Pc == 0)=false:=aj
  simp only[p0',bO,bN,sK,oT];obtain⟨l,t,x,e1,e2,e3,h1,h2,h3⟩:=aES hm hc;by_cases p1:s.Pc=1
  ·simp_all
  ·have p1':(s.Pc == 1)=false:=aj
   simp only[p1',bO,bN];by_cases p3:s.Pc=3
   ·simp_all
   ·have p3':(s.Pc == 3)=false:=aj
    simp only[p3',bO,bN];by_cases p2:s.Pc=2
    ·obtain⟨m',x,e1,e2,h1,h2,h3⟩:=a0I hm hc;simp_all
    ·have p2':(s.Pc == 2)=false:=aj
     simp only[p2',bO,bN,bV,bR];exact⟨_,_,rfl,rfl,_,rfl,hsm,AM.refl hm _⟩
theorem a55(r:cQ)(e:Int):∃v,JX r e=some v/\V4 r e=some v:=by
 unfold JX V4 G8 O0;by_cases h:2<=e
 ·simp only[cP h,bY];exact⟨_,rfl,rfl⟩
 ·simp only[cX h,bO,bN];exact⟨_,rfl,rfl⟩
theorem bFX{b:aA}{l:bE}(hx:idx b.bB w=some l)(hl:l.Rows.length<=1000)(s:Sub) :
  (uN l.Rows s.Row s.E=some (-1)/\qO s b w=(bR s 0).bind λx=>some (x,b)) \/
  ∃k,∃h:k<l.Rows.length,uN l.Rows s.Row s.E=some (k:Int)/\qO s b w=some (⟨s.Kind,s.A,2,s.E,(k:Int),0,l.Rows[k].Handle,s.Out,s.Code,s.jN⟩,b):=by
 have key:∀d k,k+d=l.Rows.length ->
   (loop (fF l.Rows s.E) (k:Int)=some (Out.brk ())/\loop (fJ s b w) (k:Int)=some (Out.brk ())) \/
   ∃j,∃h:j<l.Rows.length,loop (fF l.Rows s.E) (k:Int)=some (Out.ret (j:Int))/\loop (fJ s b w) (k:Int)=some (Out.ret (⟨s.Kind,s.A,2,s.E,(j:Int),0,l.Rows[j].Handle,s.Out,s.Code,s.jN⟩,b)):=by
  intro d;induction d with
  |zero=>
   simp_all[bQ,fF,fJ]
  |succ d ih=>
   intro k hk;have hk':k<l.Rows.length:=aa
   obtain⟨v,e1,e2⟩:=a55 l.Rows[k] s.E;cases v with
   |true=>
    right;refine⟨k,hk',bQ ?_,bQ ?_⟩
    ·simp only[fF];rw[b8,aT hk',aG,e1];rfl
    ·simp only[fJ,hx,aG];rw[b8,aT hk',aG,e2];rfl
   |false=>
    have n1:fF l.Rows s.E (k:Int)=some (.next ((k+1:Nat):Int)):=by simp only[fF];rw[b8,aT hk',aG,e1,aG,bX];rfl
    have n2:fJ s b w (k:Int)=some (.next ((k+1:Nat):Int)):=by simp only[fJ,hx,aG];rw[b8,aT hk',aG,e2,aG,bX];rfl
    rw[bU n1,bU n2];exact ih (k+1) aa
 unfold uN qO;have hst:∃i:Nat,(if 0<s.Row then s.Row else 0)=(i:Int)/\(if s.Row<0 then 0 else s.Row)=(i:Int):=by refine⟨s.Row.toNat,?_,?_⟩<;>split<;>omega
 obtain⟨i,i1,i2⟩:=hst;rw[i1,i2];by_cases hi:i<=l.Rows.length
 ·rcases key (l.Rows.length-i) i aa with ⟨a,c⟩|⟨j,hj,a,c⟩
  ·left;rw[a,c];exact⟨rfl,rfl⟩
  ·right;rw[a,c];exact⟨j,hj,rfl,rfl⟩
 ·left;rw[bQ (body:=fF l.Rows s.E) (r:=Out.brk ()) (by simp only[fF];grind),
   bQ (body:=fJ s b w) (r:=Out.brk ()) (by simp only[fJ,hx,aG];grind)]
  exact⟨rfl,rfl⟩
theorem del_eq{l:List O}(h:k<l.length):((cW l k (l.drop (k+1))).take (k+(l.length-(k+1)))).drop 0=l.eraseIdx k:=by grind[cW,aFX]
theorem a3A{l:List O}(h:k<l.length):l.Perm (l[k]::l.eraseIdx k):=by grind[B6,aDY,List.eraseIdx_eq_take_drop_succ,List.perm_middle]
theorem F6.drop{b:List bE}(hL:F6 b){w:Nat}(hw:w<b.length):∀k (hk:k<b[w].Rows.length),F6 (b.set w ⟨b[w].Rows.eraseIdx k⟩)/\∀r∈fA (b.set w ⟨b[w].Rows.eraseIdx k⟩),r∈fA b/\r.Handle % 32≠b[w].Rows[k].Handle % 32:=by
 intro k hk;have hsub:(fA (b.set w ⟨b[w].Rows.eraseIdx k⟩)).Sublist (fA b):=by grind[W9,T5]
 have hnd:=hL.2.2.2;refine⟨⟨by simpa using hL.1,iI hsub.length_le hL.2.1,λr hr=>hL.2.2.1 r (hsub.subset hr),(hsub.map ME).nodup hnd⟩,λr hr=>⟨hsub.subset hr,?_⟩⟩;have hp:(fA b).Perm (b[w].Rows[k]::fA (b.set w ⟨b[w].Rows.eraseIdx k⟩)):=by rw[W9 hw,T5 hw];refine List.Perm.trans (List.Perm.append_left _ (List.Perm.append_right _ (a3A hk))) ?_;simp
 grind[ME]
theorem a3B{b:aA}(hb:yQ b)(hw:0<=w/\w<=2)(s:Sub) :
  ∃x y,pK b w s=some (x,y)/\qP s b w=some (y,x)/\∃m' L,x=⟨m',b.aJ,L,b.i5⟩/\FG m'/\pC m'/\F6 L/\∀r∈fA L,oY m' r.Handle/\r.aQ<=b.aJ.aQ:=by
 have hm:=hb.1.1;have hL:=hb.1.2.2.1;have hZ:=hb.1.2.2.2;have hsm:=(pC.facts hm).2.2.2.2.2.1;have hlen:w.toNat<b.bB.length:=by have:=hL.1;omega
 have hx:idx b.bB w=some b.bB[w.toNat]:=gD hw.1 aa;have hrow:=hL.small.2.2.2 _ (cM hlen);have hmemL:b.bB[w.toNat]∈b.bB:=cM hlen;have hset:=F6.drop hL hlen;generalize b.bB[w.toNat]=l at hx hrow hset hmemL;have done:∀y:Sub,∃x z,(some (b,y):Option (aA×Sub))=some (x,z)/\(some (y,b):Option (Sub×aA))=some (z,x)/\∃m' L,x=⟨m',b.aJ,L,b.i5⟩/\FG m'/\pC m'/\F6 L/\∀r∈fA L,oY m' r.Handle/\r.aQ<=b.aJ.aQ:=
  λy=>⟨_,_,rfl,rfl,b.Mem,b.bB,rfl,hsm,hm,hL,hb.2⟩
 have hw1:aE ((l.Rows.length:Int)-1)=(l.Rows.length:Int)-1:=bX;have hhas:L7 b.bB w s.Row=some (decide (0<=s.Row/\s.Row<=(l.Rows.length:Int)-1)):=by simp_all[L7,IB,nC,fH]
 unfold pK qP;rw[hhas,hx];simp only[aG,bV,dI,hw1];have hat:∃a:Bool,(if decide (0<=s.Row/\s.Row<=(l.Rows.length:Int)-1)=true then(idx l.Rows s.Row).bind λx15=>fW s b w (x15.Handle == s.H) else fW s b w false)=fW s b w a /\
   (if(!decide (0<=s.Row/\s.Row<=(l.Rows.length:Int)-1))=true then eK b s true else(idx l.Rows s.Row).bind λx11=>eK b s (x11.Handle != s.H))=eK b s (!a) /\
   (a=true->∃r,r∈l.Rows/\idx l.Rows s.Row=some r/\r.Handle=s.H/\0<=s.Row/\s.Row<l.Rows.length) /\
   (a=false->∀f:cQ->Option (aA×Sub),(if(!decide (0<=s.Row/\s.Row<=(l.Rows.length:Int)-1))=true then eM b w s l true else(idx l.Rows s.Row).bind λx=>if(x.Handle != s.H)=true then eM b w s l true else f x)=eM b w s l true):=by
  by_cases q:0<=s.Row/\s.Row<=(l.Rows.length:Int)-1
  ·have hr:idx l.Rows s.Row=some (l.Rows[s.Row.toNat]' aa):=gD q.1 aa;by_cases q2:(l.Rows[s.Row.toNat]' aa).Handle=s.H
   ·refine⟨true,?_,?_,λ_=>⟨_,cM _,hr,q2,q.1,aa⟩,λh=>by cases h⟩
    ·rw[cP q,aN rfl,hr,aG,q2,beq_self_eq_true]
    ·rw[cP q,eG,hr,aG,q2,bne_self_eq_false];rfl
   ·have n1:((l.Rows[s.Row.toNat]' aa).Handle == s.H)=false:=by simpa using q2
    have n2:((l.Rows[s.Row.toNat]' aa).Handle != s.H)=true:=by simpa using q2
    refine⟨false,?_,?_,(λh=>by cases h),λ_ f=>?_⟩
    ·rw[cP q,aN rfl,hr,aG,n1]
    ·rw[cP q,eG,hr,aG,n2];rfl
    ·rw[cP q,eG,hr,aG,n2,aN rfl]
  simp_all[cX]
 obtain⟨a,ha1,ha2,ha3,ha4⟩:=hat;rw[ha1,ha2];unfold fW;by_cases p0:s.Pc=0
 ·simp_all
 have p0':(s.Pc == 0)=false:=aj
 simp only[p0',bO,bN];by_cases p1:s.Pc=1
 ·simp only[p1,beq_self_eq_true,bY];rcases bFX hx aa s with ⟨e1,e2⟩|⟨k,hk,e1,e2⟩
  ·simp_all[bR]
  simp_all[aS,aT]
 have p1':(s.Pc == 1)=false:=aj
 simp only[p1',bO,bN];by_cases p2:s.Pc=2
 ·simp only[p2,beq_self_eq_true,bY,nC,aG];by_cases hB:0<=s.B/\s.B<=2
  ·rw[cP hB];simp only[gC,bO,bN,bY];cases a with
   |true=>
    have hz:idx b.i5 s.B=some (b.i5[s.B.toNat]'(by have:=hZ.1;omega)):=gD hB.1 (by have:=hZ.1;omega);simp only[eK,eT,gC,bO,bN,bY,hz,aG,nZ];by_cases q:(b.i5[s.B.toNat]' aj)=s.H
    ·simp_all
    ·have q':((b.i5[s.B.toNat]' aj) == s.H)=false:=aj
     simp only[q',bO,bN];by_cases q3:aE (s.B+1)=3
     ·simp_all
     simp_all
   |false=>
    simp_all[eK,eT,dM,bV,bR]
  simp_all[cX,eK,eT,dM,bV,bR]
 have p2':(s.Pc == 2)=false:=aj
 simp only[p2',bO,bN,eT];by_cases p3:s.Pc=3
 ·simp only[p3,beq_self_eq_true,bY];cases a with
  |false=>
   rw[ha4 rfl];simp_all[eM,dM,bV,bR]
  |true=>
   obtain⟨r,hrm,hr,hrH,r0,r1⟩:=ha3 rfl;obtain⟨v,e1,e2⟩:=a55 r s.E;rw[cP (show 0<=s.Row/\s.Row<=(l.Rows.length:Int)-1 by omega)];simp only[gC,bO,bN,bY,hr,aG,hrH,bne_self_eq_false,hx,e1,e2];cases v with
   |false=>
    simp_all[eM,dM,bV,bR]
   |true=>
    have hlive:oY b.Mem s.H:=by have:r∈fA b.bB:=aU9.2 ⟨l,hmemL,hrm⟩;have:=(hb.2 r this).1;grind
    obtain⟨m',f1,f2,f3,f4⟩:=aYE hm hw hlive;have ew:aE (s.Row+1)=s.Row+1:=bX;have hdrop:O1 b.bB w s.Row=some (b.bB.set w.toNat ⟨((cW l.Rows s.Row.toNat (l.Rows.drop (s.Row+1).toNat)).take (s.Row.toNat+(l.Rows.length-(s.Row+1).toNat))).drop 0⟩,true):=by
     unfold O1 EE;rw[aEQ hL.small.2.2.1 (λs h=>by have:=hL.small.2.2.2 s h;omega),NF hL.small.1,cP hL,hhas,cP (show 0<=s.Row/\s.Row<=(l.Rows.length:Int)-1 by omega)];simp only[aG,gC,bO,bN,hx,ew];unfold E3;rw[RP,lA,RP,RP,RP,aZ]
     ·rfl
     grind[fQ]
    simp only[eM,dM,uO,ew,gC,bO,bN,bY];rw[RP,RP,RP,eN,aN hlive.1,aG,f1,f2,hdrop];have hk:s.Row.toNat<l.Rows.length:=aa
    have eL:((cW l.Rows s.Row.toNat (l.Rows.drop (s.Row+1).toNat)).take (s.Row.toNat+(l.Rows.length-(s.Row+1).toNat))).drop 0=l.Rows.eraseIdx s.Row.toNat:=by rw[show(s.Row+1).toNat=s.Row.toNat+1 by omega];exact del_eq hk
    have er:l.Rows[s.Row.toNat]=r:=by grind[aT]
    rw[eL] at hdrop ⊢;obtain⟨g1,g2⟩:=hset s.Row.toNat hk;refine⟨_,_,rfl,rfl,m',_,rfl,f3,f4.1,g1,λq hq=>?_⟩;obtain⟨g3,g4⟩:=g2 q hq;obtain⟨g5,g6⟩:=hb.2 q g3;refine⟨f4.live g5 λe=>?_,g6⟩;grind
 simp_all[dM,bR]
theorem step_eq{b:aA}(hb:yQ b)(hs:aJ5 b)(hw:0<=w/\w<=2)(s:Sub) :
  ∃x y,JZ b w s=some (x,y)/\rG s b w=some (y,x)/\yQ x:=by
 have hz:=hb.1.2.2.2.1;have hl:=hb.1.2.2.1;unfold JZ rG;cases hd:s.jN with
 |true=>grind
 |false=>
  simp only[bO,bN];by_cases k1:s.Kind=1
  ·obtain⟨x,y,e1,e2,m,rfl,h1,h2⟩:=alloc_eq hb.1.1 hw s;simp only[k1,beq_self_eq_true,bY,e1,e2,aG];exact⟨_,_,rfl,rfl,⟨h2.1,hb.1.2⟩,λr hr=>⟨h2.live (hb.2 r hr).1 aa,(hb.2 r hr).2⟩⟩
  have k1':(s.Kind == 1)=false:=aj
  simp only[k1',bO,bN];by_cases k2:s.Kind=2
  ·obtain⟨x,y,e1,e2,L,rfl,h1,h2⟩:=a7I hb hs hw s;simp only[k2,beq_self_eq_true,bY,e1,e2,aG];exact⟨_,_,rfl,rfl,⟨hb.1.1,hb.1.2.1,h1,hb.1.2.2.2⟩,h2⟩
  have k2':(s.Kind == 2)=false:=aj
  simp only[k2',bO,bN];by_cases k3:s.Kind=3
  ·obtain⟨x,y,e1,e2,c,rfl,h1,h2⟩:=a21 hb.1.2.1 s;simp only[k3,beq_self_eq_true,bY,e1,e2,aG];exact⟨_,_,rfl,rfl,⟨hb.1.1,h1,hb.1.2.2⟩,λr hr=>⟨(hb.2 r hr).1,Int.le_trans (hb.2 r hr).2 h2⟩⟩
  have k3':(s.Kind == 3)=false:=aj
  simp only[k3',bO,bN];by_cases k4:s.Kind=4
  ·obtain⟨x,y,e1,e2,m,L,rfl,h1,h2,h3,h4⟩:=a3B hb hw s;simp only[k4,beq_self_eq_true,bY,e1,e2,aG];exact⟨_,_,rfl,rfl,⟨h2,hb.1.2.1,h3,hb.1.2.2.2⟩,h4⟩
  have k4':(s.Kind == 4)=false:=aj
  simp only[k4',bO,bN];by_cases k5:s.Kind=5
  ·obtain⟨x,y,e1,e2,c,rfl,h1,h2⟩:=bJL hb.1.2.1 hw s;simp only[k5,beq_self_eq_true,bY,e1,e2,aG];exact⟨_,_,rfl,rfl,⟨hb.1.1,h1,hb.1.2.2⟩,λr hr=>⟨(hb.2 r hr).1,Int.le_trans (hb.2 r hr).2 h2⟩⟩
  have k5':(s.Kind == 5)=false:=aj
  simp only[k5',bO,bN,bV,bR,aG];grind
theorem yQ.small{b:aA}(hb:yQ b):aJ5 b:=by have h1:=hb.1.2.1.2.1;have h2:=hb.1.2.2.1.1;have h3:=hb.1.2.2.1.2.1;have h4:=hb.1.2.2.2.1;exact⟨(pC.facts hb.1.1).2.2.2.2.2.1,aa,aa,aa,aa⟩
def VB(s:Sub)(code:Int):Sub:={s with Code:=code,jN:=true}
def RL(n:Int):Int:=if 1<=n/\n<=8 then 0 else if 1<=n/\n<=16 then 1 else if 1<=n/\n<=40 then 2 else -1
theorem a3C(n:Int):-1<=RL n/\RL n<=2:=by grind[RL]
theorem a7N(n:Int):AV n=some (RL n):=by
 have s1:∀k,0<=k/\k<=2->fV n k=some (if 1<=n/\n<=lD k then .stop (Out.ret k) else .next (k+1)):=λk hk=>by simp only[fV];rw[b8,RG,aG,dI,aG,bX];grind
 have z0:lD 0=8:=rfl;have z1:lD 1=16:=rfl;have z2:lD 2=40:=rfl;unfold AV RL;by_cases q0:1<=n/\n<=8
 ·rw[bQ (by rw[s1 0 aa,aN aa]),aN q0];rfl
 ·rw[bU (by rw[s1 0 aa,pA]),aS q0,show(0:Int)+1=1 from rfl];by_cases q1:1<=n/\n<=16
  ·rw[bQ (by rw[s1 1 aa,aN aa]),aN q1];rfl
  ·rw[bU (by rw[s1 1 aa,pA]),aS q1,show(1:Int)+1=2 from rfl];by_cases q2:1<=n/\n<=40
   ·rw[bQ (by rw[s1 2 aa,aN aa]),aN q2];rfl
   ·rw[bU (by rw[s1 2 aa,pA]),aS q2,show(2:Int)+1=3 from rfl,bQ (body:=fV n) (r:=Out.brk ()) (by simp[fV])];rfl
def aUY(l:List Int):List Int×Int:=(l.dropLast,l.getLastD (-1))
theorem aOH{s:aU}(h:s.aV.length<=1048576):rA s=some (⟨(aUY s.aV).1⟩,(aUY s.aV).2):=by
 unfold rA KQ aUY;obtain⟨l⟩:=s;rcases List.eq_nil_or_concat l with rfl|⟨L,b,rfl⟩
 ·rfl
 ·simp only[List.concat_eq_append] at h ⊢;have hl:(L++[b]).length=L.length+1:=ae
  rw[hl,bX,show((L.length+1:Nat):Int)-1=(L.length:Int) by omega,lA,RP,vN];simp
def aH6(m:Mem)(w c:Int):Mem×Int:=(⟨m.Heap,⟨m.aD.Global,m.aD.Own.set (w*3+c).toNat ⟨(aUY (hY m.aD.Own (w*3+c).toNat)).1⟩⟩⟩,(aUY (hY m.aD.Own (w*3+c).toNat)).2)
def aDD(m:Mem)(c:Int):Mem×Int:=(⟨m.Heap,⟨m.aD.Global.set c.toNat ⟨(aUY (hY m.aD.Global c.toNat)).1⟩,m.aD.Own⟩⟩,(aUY (hY m.aD.Global c.toNat)).2)
def pgF(h:Heap):Nat:=h.Class.findIdx (λx=>decide (x = -1))
def aJ7(m:Mem)(c:Int):Mem×Int:=if pgF m.Heap=6 then(m,-1) else
 (⟨⟨gB m.Heap.Bytes (pgF m.Heap) c (dK c).toNat,m.Heap.Class.set (pgF m.Heap) c⟩,⟨m.aD.Global.set c.toNat ⟨hY m.aD.Global c.toNat++(gS (pgF m.Heap) (dK c).toNat).drop 1⟩,m.aD.Own⟩⟩,(pgF m.Heap:Int)*4)
theorem bCC(hs:fM h):pgF h<=6:=by rw[<-hs.2.1];exact List.findIdx_le_length
theorem bJP(hs:fM h)(hq:pgF h≠6):pgF h<6/\cJ h (pgF h) = -1:=by
 have h6:=hs.2.1;have hlt:pgF h<6:=by grind[bCC]
 refine⟨hlt,?_⟩;rw[<-aC9 hs hlt];have:=List.findIdx_getElem (xs:=h.Class) (p:=λx=>decide (x = -1)) (w:=by grind[pgF]);exact of_decide_eq_true this
theorem bFY(hs:fM h):∀j (hj:j<6),j<pgF h->cJ h j≠-1:=λj hj hlt=>by have:=List.not_of_lt_findIdx hlt;grind[aC9]
theorem bJQ(hh:HOk h)(hc:0<=c/\c<=2):qA h c=some (if pgF h=6 then(h,[]) else(⟨gB h.Bytes (pgF h) c (dK c).toNat,h.Class.set (pgF h) c⟩,gS (pgF h) (dK c).toNat)):=by
 have hs:=hh.1;have h6:=hs.2.1;have h384:=hs.1;have hle:=bCC hs;have s1:∀k (hk:k<pgF h),fC h c (k:Int)=some (.next ((k+1:Nat):Int)):=λk hk=>by
  have n:(h.Class[k] != -1)=true:=by grind[bFY,aC9]
  simp only[fC,DU];rw[b8,vN,aG,n,aN rfl,bX];rfl
 unfold qA;by_cases hq:pgF h=6
 ·have a1:loop (fC h c) 0=some (Out.brk ()):=eS (pgF h) (λk=>(k:Int)) _ s1 (by simp_all[fC]);rw[a1,aN hq];rfl
 ·obtain⟨hlt,he⟩:=bJP hs hq;rw[<-aC9 hs hlt] at he;generalize hqq:pgF h=q at *;have a1:loop (fC h c) 0=some (Out.ret (⟨gB h.Bytes q c (dK c).toNat,h.Class.set q c⟩,gS q (dK c).toNat)):=eS q (λk=>(k:Int)) _ s1 (by
   have e0:aE ((q:Int)*64)=((q*64:Nat):Int):=by grind[dJ]
   have e1:aE (((q*64:Nat):Int)+1)=((q*64+1:Nat):Int):=by grind[dJ]
   have e2:aE (((q*64:Nat):Int)+2)=((q*64+2:Nat):Int):=by grind[dJ]
   have n:(h.Class[q] != -1)=false:=aj
   simp only[fC,e0,e1,e2,oZ];rw[b8,vN,aG,n,eG,vN,aG,aT ah,aG,i4,aG,aT ah,aG];have:=aR0 h384 hlt hc;simp only[gB] at this;rw[this];rfl)
  rw[a1,aS hq];rfl
theorem a7O(hm:pC m)(hc:0<=c/\c<=2):AX m c=some (aJ7 m c):=by
 have h3:=hm.1.2.1;have hpp:0<dK c:=AJ.2 hc;have hp4:=oW c;obtain⟨_,_,_,_,_,_,_,_,hsG,_⟩:=pC.facts hm;unfold AX aJ7;rw[bJQ hm.1.1 hc];by_cases hq:pgF m.Heap=6
 ·simp_all
 ·have hk:c.toNat<m.aD.Global.length:=aa
  have hg0:=hsG _ (cM hk);have hx:idx m.aD.Global c=some m.aD.Global[c.toNat]:=gD hc.1 aa;have hz:idx (gS (pgF m.Heap) (dK c).toNat) 0=some ((pgF m.Heap:Int)*4):=by grind[aT,gS]
  have hn:(((dK c).toNat:Int) == 0)=false:=aj
  have ht:(gS (pgF m.Heap) (dK c).toNat).take (dK c).toNat=gS (pgF m.Heap) (dK c).toNat:=aFX (by grind[aRZ]);have hd:((gS (pgF m.Heap) (dK c).toNat).drop 1).length<=4:=aj
  simp only[aS hq,aG,aRZ,hn,bO,bN,hx,hz,DW,ht];grind[aZ,eU]
def bJR(m:Mem)(s:Int):Int:=if 1<=nR m.Heap s/\nR m.Heap s<=6 then nR m.Heap s*32+s else 0
theorem bFZ(hs:fM m.Heap)(hc:0<=cA m.Heap s):wY m s=some (bJR m s):=by
 unfold wY KS sI bJR;rw[rM hs hc,aG,dI,dI];have h1:=(T2 hc).1;simp only[cP h1,aG,gC,bO,bN];by_cases q:1<=nR m.Heap s/\nR m.Heap s<=6
 ·simp only[cP q,gC,bO,bN,aN q];grind[dJ]
 grind
def aJ8(b:aA)(s:Sub)(p:Mem×Int):aA×Sub:=
 if 0<=p.2 then({b with Mem:=p.1},VB {s with Out:=bJR p.1 p.2} 0) else if s.Pc=3 then({b with Mem:=p.1},VB s 3) else({b with Mem:=p.1},{s with Pc:=s.Pc+1})
def a3D(b:aA)(w:Int)(s:Sub):aA×Sub:=
 if RL s.A<0 then(b,VB s 2)
 else if s.Pc=0 then aJ8 b s (aH6 b.Mem w (RL s.A))
 else if s.Pc=1\/s.Pc=3 then aJ8 b s (aDD b.Mem (RL s.A))
 else if s.Pc=2 then aJ8 b s (aJ7 b.Mem (RL s.A))
 else(b,VB s 1)
theorem a7P{b:aA}(hm:pC b.Mem)(hw:0<=w/\w<=2)(s:Sub):wZ b w s=some (a3D b w s):=by
 obtain⟨hcnt,h3,h9,h1,h2,hsm,hcp,hlo,hsG,hsO⟩:=pC.facts hm;have hs:=hm.1.1.1;have hr:=a3C s.A;unfold wZ a3D;rw[a7N];simp only[aG];by_cases c0:RL s.A<0
 ·simp only[cP c0,bY,bV,aN c0];rfl
 generalize RL s.A=c at *;have hc:0<=c/\c<=2:=aa
 simp only[cX c0,bO,bN,aS c0];have fin:∀(p:Mem×Int),-1<=p.2->(0<=p.2->fM p.1.Heap/\0<=cA p.1.Heap p.2)->s.Pc<=3/\0<=s.Pc->iL s p.2 ⟨p.1,b.aJ,b.bB,b.i5⟩=some (aJ8 b s p):=by
  intro p hp hx hpc;unfold iL aJ8;simp only[sJ,N9,bV];by_cases x0:0<=p.2
  ·rw[cX (show ¬p.2<0 by omega),cP x0];simp only[bO,bN,bY,aN x0,bFZ (hx x0).1 (hx x0).2,aG];rfl
  ·rw[cP (show p.2<0 by omega),cX x0];by_cases p3:s.Pc=3
   ·have p3':(s.Pc == 3)=true:=aj
    simp only[p3',bY,aS x0,aN p3,aG];rfl
   ·have p3':(s.Pc == 3)=false:=aj
    have e:aE (s.Pc+1)=s.Pc+1:=bX;grind
 have popL:∀l:List Int,-1<=(aUY l).2\/(aUY l).2∈l:=λl=>by unfold aUY;grind
 by_cases p0:s.Pc=0
 ·have hk:(w*3+c).toNat<b.Mem.aD.Own.length:=aa
  have hx:idx b.Mem.aD.Own (w*3+c)=some b.Mem.aD.Own[(w*3+c).toNat]:=gD aa aa;obtain⟨l,t,x,e1,e2,e3,g1,g2,g3⟩:=aR3 hm hw hc;have hl:=hsO _ (cM hk);rw[hx] at e1;cases e1;rw[aOH aa] at e2;have ep:aH6 b.Mem w c=(⟨b.Mem.Heap,⟨b.Mem.aD.Global,b.Mem.aD.Own.set (w*3+c).toNat t⟩⟩,x):=by grind[aH6,eU]
  have hx0:-1<=x:=by
   injection e2 with e2;injection e2 with e4 e5
   rcases popL b.Mem.aD.Own[(w*3+c).toNat].aV with h|h
   ·omega
   ·rw[<-e5];have:=hm.1.2.2.2.2.1 _ (List.mem_append_right _ (aU9.2 ⟨_,cM hk,h⟩));omega
  have p0':(s.Pc == 0)=true:=aj
  have:=fin (aH6 b.Mem w c) aj aj aa;rw[ep] at this;simp only[p0',bY,aN p0,(XA hw hc).1,aG,hx];grind[aOH]
 ·have p0':(s.Pc == 0)=false:=aj
  simp only[p0',bO,bN,sK,aS p0];have hk:c.toNat<b.Mem.aD.Global.length:=aa
  have hx:idx b.Mem.aD.Global c=some b.Mem.aD.Global[c.toNat]:=gD aa aa;obtain⟨l,t,x,e1,e2,e3,g1,g2,g3⟩:=aES hm hc;have hl:=hsG _ (cM hk);rw[hx] at e1;cases e1;rw[aOH aa] at e2;have ep:aDD b.Mem c=(⟨b.Mem.Heap,⟨b.Mem.aD.Global.set c.toNat t,b.Mem.aD.Own⟩⟩,x):=by grind[aDD,eU]
  have hx0:-1<=x:=by
   injection e2 with e2;injection e2 with e4 e5
   rcases popL b.Mem.aD.Global[c.toNat].aV with h|h
   ·omega
   ·rw[<-e5];have:=hm.1.2.2.2.2.1 _ (List.mem_append_left _ (aU9.2 ⟨_,cM hk,h⟩));omega
  have tg:0<=s.Pc/\s.Pc<=3->(idx b.Mem.aD.Global c).bind (λx13=>(rA x13).bind λx14=>iL s x14.2 ({b with Mem:=(⟨b.Mem.Heap,(⟨b.Mem.aD.Global.set c.toNat x14.1,b.Mem.aD.Own⟩:aD)⟩:Mem)}:aA))=some (aJ8 b s (aDD b.Mem c)):=λhpc=>by grind[aOH]
  by_cases p1:s.Pc=1
  ·grind
  ·have p1':(s.Pc == 1)=false:=aj
   simp only[p1',bO,bN];by_cases p3:s.Pc=3
   ·grind
   ·have p3':(s.Pc == 3)=false:=aj
    have n13:¬(s.Pc=1\/s.Pc=3):=aa
    simp only[p3',bO,bN,aS n13];by_cases p2:s.Pc=2
    ·obtain⟨m',y,f1,f2,k1,k2,k3⟩:=a0I hm hc;have hg:=a7O hm hc;rw[f1] at hg;have hg':aJ7 b.Mem c=(m',y):=aj
     have hy:-1<=(aJ7 b.Mem c).2:=by grind[aJ7]
     grind
    ·have p2':(s.Pc == 2)=false:=aj
     simp only[p2',bO,bN,bV,aS p2,aG];rfl
def yN(c:aJ)(w:Int):lF:=c.bS.getD w.toNat ⟨false,0,false,0⟩
theorem PT{c:aJ}(hc:COk c)(hw:0<=w/\w<=2):idx c.bS w=some (yN c w):=by have:=hc.2.1;grind[gD,yN]
def a0J(c:aJ)(w e:Int):aJ×Bool:=
 if(yN c w).On=false\/(yN c w).gN=true\/(yN c w).aQ=e then(c,true)
 else if(yN c w).Seen=2 then(⟨c.aQ,c.bS.set w.toNat {yN c w with gN:=true,Seen:=0}⟩,true)
 else(⟨c.aQ,c.bS.set w.toNat {yN c w with Seen:=(yN c w).Seen+1}⟩,false)
theorem bCD{c:aJ}(hc:COk c)(hw:0<=w/\w<=2):POk c.aQ (yN c w):=by
 have:=PT hc hw;have h2:=hc.2.1;rw[gD hw.1 aa] at this;injection this with this
 rw[<-this];exact hc.2.2 _ (cM _)
theorem bCE{c:aJ}(hc:COk c)(hw:0<=w/\w<=2)(e:Int):FO c w e=some (a0J c w e):=by have hp:=bCD hc hw;have hx:=PT hc hw;have hsm:=hc.small;unfold FO zA a0J;rw[lN hsm.1,kH,cP hc,dI,cP hw,hx];simp only[aG,gC,bO,bN,nW,hx];generalize yN c w=p at *;have ew:aE (p.Seen+1)=p.Seen+1:=dJ (by have:=hp.2.1;omega) (by have:=hp.2.1;omega);grind
def a0K(c:aJ)(e:Int):aJ×Bool:=if c.aQ=e/\e≠100000 then(⟨e+1,c.bS⟩,true) else(c,false)
theorem bCF{c:aJ}(hc:COk c)(e:Int):PQ c e=some (a0K c e):=by
 have hsm:=hc.small;unfold PQ AZ a0K;rw[lN hsm.1,kH,cP hc];simp only[aG,gC,bO,bN];by_cases h1:c.aQ=e
 ·have he:=hc.1;grind[dJ]
 ·simp[h1]
def aJ9(c:aJ)(w e:Int):aJ×Bool:=if 0<=e/\e<=c.aQ then(⟨c.aQ,c.bS.set w.toNat ⟨true,e,false,0⟩⟩,true) else(c,false)
theorem a7Q{c:aJ}(hc:COk c)(hw:0<=w/\w<=2)(e:Int):JY c w e=some (aJ9 c w e):=by have hsm:=hc.small;unfold JY xB aJ9;rw[lN hsm.1,kH,cP hc,dI,cP hw,dI];simp only[aG,gC,bO,bN];grind[PT]
def aR4(c:aJ)(w:Int):aJ×Bool:=if(yN c w).On then(⟨c.aQ,c.bS.set w.toNat ⟨false,0,false,0⟩⟩,true) else(c,false)
theorem aKA{c:aJ}(hc:COk c)(hw:0<=w/\w<=2):J2 c w=some (aR4 c w):=by have hsm:=hc.small;have hx:=PT hc hw;unfold J2 xC aR4;rw[lN hsm.1,kH,cP hc,dI,cP hw,hx];grind
def aR5(b:aA)(s:Sub):aA×Sub:=
 if s.Pc=0 then(b,{s with Pc:=1,E:=b.aJ.aQ,B:=0})
 else if s.Pc=1 then
  if 0<=s.B/\s.B<=2 then
   if(a0J b.aJ s.B s.E).2 then({b with aJ:=(a0J b.aJ s.B s.E).1},{s with Pc:=if s.B=2 then 2 else 1,B:=s.B+1})
   else({b with aJ:=(a0J b.aJ s.B s.E).1},VB s 8)
  else(b,VB s 1)
 else if s.Pc=2 then({b with aJ:=(a0K b.aJ s.E).1},VB {s with Out:=if(a0K b.aJ s.E).2 then 1 else s.Out} 0)
 else(b,VB s 1)
theorem a0L{b:aA}(hc:COk b.aJ)(s:Sub):pJ b s=some (aR5 b s):=by
 unfold pJ aR5;rw[bCF hc,dI];simp only[bV,nX,nY,aG];by_cases p0:s.Pc=0
 ·grind
 ·have p0':(s.Pc == 0)=false:=aj
  simp only[p0',bO,bN,aS p0];by_cases p1:s.Pc=1
  ·have p1':(s.Pc == 1)=true:=aj
   simp only[p1',bY,aN p1];by_cases hB:0<=s.B/\s.B<=2
   ·have ew:aE (s.B+1)=s.B+1:=bX;simp only[cP hB,gC,bO,bN,aN hB,bCE hc hB,aG,ew];grind[VB]
   ·simp only[cX hB,ML,bY,aS hB];rfl
  ·have p1':(s.Pc == 1)=false:=aj
   simp only[p1',bO,bN,aS p1];by_cases p2:s.Pc=2
   ·have p2':(s.Pc == 2)=true:=aj
    simp only[p2',bY,aN p2];cases h:(a0K b.aJ s.E).2<;>rfl
   ·have p2':(s.Pc == 2)=false:=aj
    simp only[p2',bO,bN,aS p2];rfl
def bJS(b:aA)(w:Int)(s:Sub):aA×Sub:=
 if s.Pc=0 then(b,{s with Pc:=1,E:=b.aJ.aQ})
 else if s.Pc=1 then
  if(aJ9 b.aJ w s.E).2 then({b with aJ:=(aJ9 b.aJ w s.E).1},{s with Pc:=2}) else({b with aJ:=(aJ9 b.aJ w s.E).1},VB s 1)
 else if s.Pc=2 then if b.aJ.aQ=s.E then(b,VB s 0) else(b,{s with Pc:=0})
 else(b,VB s 1)
theorem bF0{b:aA}(hc:COk b.aJ)(hw:0<=w/\w<=2)(s:Sub):FP b w s=some (bJS b w s):=by
 unfold FP bJS;rw[a7Q hc hw];simp only[bV,aG];by_cases p0:s.Pc=0
 ·grind
 ·have p0':(s.Pc == 0)=false:=aj
  simp only[p0',bO,bN,aS p0];by_cases p1:s.Pc=1
  ·have p1':(s.Pc == 1)=true:=aj
   simp only[p1',bY,aN p1];cases h:(aJ9 b.aJ w s.E).2<;>rfl
  ·have p1':(s.Pc == 1)=false:=aj
   simp only[p1',bO,bN,aS p1];by_cases p2:s.Pc=2
   ·have p2':(s.Pc == 2)=true:=aj
    simp only[p2',bY,aN p2];by_cases q:b.aJ.aQ=s.E
    ·have q':(b.aJ.aQ == s.E)=true:=aj
     simp only[q',bY,aN q];rfl
    grind
   ·have p2':(s.Pc == 2)=false:=aj
    simp only[p2',bO,bN,aS p2];rfl
def FH(l:List bE)(w:Int):List cQ:=(l.getD w.toNat ⟨[]⟩).Rows
theorem YS{l:List bE}(hl:F6 l)(hw:0<=w/\w<=2):idx l w=some ⟨FH l w⟩:=by have:=hl.1;rw[gD hw.1 aa];simp[FH,VG,lO (show w.toNat<l.length by omega)]
theorem aV3{l:List bE}(hl:F6 l)(hw:0<=w/\w<=2):(FH l w).length<=24:=by
 have h:=YS hl hw;have h3:=hl.1;rw[gD hw.1 aa] at h;injection h with h
 have:=hl.small.2.2.2 _ (cM (show w.toNat<l.length by omega));grind
def aYF(b:aA)(w:Int)(s:Sub):aA×Sub:=
 if s.Pc=0 then(b,{s with Pc:=1,E:=b.aJ.aQ})
 else if s.Pc=1 then
  if 0<=s.E/\s.E<=b.aJ.aQ then
   if oY b.Mem s.A/\¬bC b.bB (s.A % 32) then({b with bB:=b.bB.set w.toNat ⟨FH b.bB w++[⟨s.A,s.E⟩]⟩},VB s 0) else(b,VB s 4)
  else(b,VB s 1)
 else(b,VB s 1)
theorem a3E{b:aA}(hb:yQ b)(hw:0<=w/\w<=2)(s:Sub):sL b w s=some (aYF b w s):=by
 have hL:=hb.1.2.2.1;have hm:=hb.1.1;obtain⟨h1,h2,h3,_⟩:=pC.facts hm;have hx:=YS hL hw;have hrow:=aV3 hL hw;unfold sL aYF;rw[dI,wV hm.1.1.1 aa (by grind[maxLen]) (by grind[maxLen]),eN];simp only[bV,aG,qB,xW];by_cases p0:s.Pc=0
 ·grind
 ·have p0':(s.Pc == 0)=false:=aj
  simp only[p0',bO,bN,aS p0];by_cases p1:s.Pc=1
  ·have p1':(s.Pc == 1)=true:=aj
   simp only[p1',bY,aN p1];by_cases q1:0<=s.E/\s.E<=b.aJ.aQ
   ·simp only[cP q1,gC,bO,bN,aN q1];by_cases q2:oY b.Mem s.A
    ·have hh:=q2.1;simp only[cP q2,gC,bO,bN,aN hh,NG hL,aG];by_cases q3:bC b.bB (s.A % 32)
     ·simp only[cP q3,bY,aS (show ¬(oY b.Mem s.A/\¬bC b.bB (s.A % 32)) from λh=>h.2 q3)];rfl
     ·simp only[cX q3,bO,bN,hx,aG,aN (show oY b.Mem s.A/\¬bC b.bB (s.A % 32) from⟨q2,q3⟩)];rw[JN];rfl
    ·simp only[cX q2,ML,bY,aS (show ¬(oY b.Mem s.A/\¬bC b.bB (s.A % 32)) from λh=>q2 h.1)];rfl
   ·simp only[cX q1,ML,bY,aS q1];rfl
  ·have p1':(s.Pc == 1)=false:=aj
   simp only[p1',bO,bN,aS p1];rfl
def aAA(r:cQ)(e:Int):Prop:=2<=e/\r.aQ<=aE (e-2)
instance (r:cQ) (e:Int):Decidable (aAA r e):=by unfold aAA;infer_instance
theorem aR6(r:cQ)(e:Int):JX r e=some (decide (aAA r e)):=by unfold JX G8 aAA;grind
def NV(l:List cQ)(e:Int)(k:Nat):Nat:=k+(l.drop k).findIdx (λr=>decide (aAA r e))
theorem bCG{l:List cQ}(hl:l.length<=1000){from_ e:Int}:uN l from_ e=some (if NV l e from_.toNat<l.length then(NV l e from_.toNat:Int) else -1):=by
 have hst:(if 0<from_ then from_ else 0)=(from_.toNat:Int):=aa
 unfold uN;rw[hst];have key:∀d k:Nat,l.length<=k+d->loop (fF l e) (k:Int)=some (if NV l e k<l.length then Out.ret (NV l e k:Int) else Out.brk ()):=by
  intro d;induction d with
  |zero=>
   intro k hk;rw[bQ (r:=Out.brk ()) (by simp_all[fF,aS]),aS (by grind[NV])]
  |succ d ih=>
   intro k hk;by_cases hkl:k<l.length
   ·have hd:l.drop k=l[k]::l.drop (k+1):=B6 hkl;by_cases hr:aAA l[k] e
    ·have hs:NV l e k=k:=by grind[NV]
     simp_all[bQ,fF,aT,aR6]
    ·have hs:NV l e k=NV l e (k+1):=by unfold NV;grind
     rw[bU (s':=((k+1:Nat):Int)) (by simp only[fF];rw[b8,aT hkl,aG,aR6 _ e,aG,cX hr,eG,bX];rfl),ih (k+1) aa,hs]
   grind
 rw[key l.length from_.toNat aa];split<;>rfl
def a56(m:Mem)(w h:Int):Mem:=
 if h/32+1<=6 then
  if(hY m.aD.Own (w*3+cA m.Heap (h % 32)).toNat).length<2 then⟨⟨st4 m.Heap.Bytes (jP (h % 32) (cA m.Heap (h % 32))).toNat (h/32+1),m.Heap.Class⟩,⟨m.aD.Global,m.aD.Own.set (w*3+cA m.Heap (h % 32)).toNat ⟨hY m.aD.Own (w*3+cA m.Heap (h % 32)).toNat++[h % 32]⟩⟩⟩
  else⟨⟨st4 m.Heap.Bytes (jP (h % 32) (cA m.Heap (h % 32))).toNat (h/32+1),m.Heap.Class⟩,⟨m.aD.Global.set (cA m.Heap (h % 32)).toNat ⟨hY m.aD.Global (cA m.Heap (h % 32)).toNat++[h % 32]⟩,m.aD.Own⟩⟩
 else⟨⟨st4 m.Heap.Bytes (jP (h % 32) (cA m.Heap (h % 32))).toNat (h/32+1),m.Heap.Class⟩,m.aD⟩
theorem aH7(hm:pC m){h:Int}(hw:0<=w/\w<=2)(hv:oY m h):zC m w (h % 32)=some (a56 m w h):=by
 obtain⟨hcnt,h3,h9,h1,h2,hsm,hcp,hlo,hsG,hsO⟩:=pC.facts hm;have hs:=hm.1.1.1;have hh:=hv.1;have hcl:=kI hv.2.1;have hgo:=aDA hcl;have hc2:0<=cA m.Heap (h % 32)/\cA m.Heap (h % 32)<=2:=by obtain⟨_,q,e⟩:=T2 hcl;rw[e];exact AJ.1 aa
 have hg6:1<=h/32/\h/32<=6:=by grind[mT]
 have eo:jP (h % 32) (cA m.Heap (h % 32))=(((jP (h % 32) (cA m.Heap (h % 32))).toNat:Nat):Int):=aa
 have ew:aE (h/32+1)=h/32+1:=bX;unfold zC a56;rw[mJ hs,aG,rM hs hcl,hv.2.2,aG,xM,aG,ew];generalize hgn:(jP (h % 32) (cA m.Heap (h % 32))).toNat=a at eo;rw[eo,NH aa aa aa];simp only[aG,G7,G6,ew];generalize cA m.Heap (h % 32)=c at *;by_cases q:h/32+1<=6
 ·have hk:(w*3+c).toNat<m.aD.Own.length:=aa
  have hx:idx m.aD.Own (w*3+c)=some m.aD.Own[(w*3+c).toNat]:=gD aa aa;have hk2:c.toNat<m.aD.Global.length:=aa
  have hx2:idx m.aD.Global c=some m.aD.Global[c.toNat]:=gD aa aa;have b1:=hsO _ (cM hk);have b2:=hsG _ (cM hk2);rw[cP q,aN rfl,aN q];unfold SO;rw[(XA hw hc2).1];simp only[aG,hx,hx2,G5,P5,P6,<-eU hk,<-eU hk2];by_cases q2:m.aD.Own[(w*3+c).toNat].aV.length<2
  ·have y1:(m.aD.Own[(w*3+c).toNat].aV.length:Int)<2:=aa
   simp only[cP y1,bY,aN q2];grind[aZ]
  ·have y1:¬(m.aD.Own[(w*3+c).toNat].aV.length:Int)<2:=aa
   simp only[cX y1,bO,bN,aS q2];grind[aZ]
 simp_all[aS]
def bCH(z:List Int)(w:Int):Int:=z.getD w.toNat 0
theorem a7R{z:List Int}(hz:a2W z)(hw:0<=w/\w<=2):idx z w=some (bCH z w):=by have:=hz.1;grind[gD,bCH]
def aCT(l:List cQ)(k:Int):cQ:=l.getD k.toNat ⟨0,0⟩
theorem aH8{l:List cQ}{k:Int}(h:0<=k/\k<l.length):idx l k=some (aCT l k):=by grind[gD,aCT]
def aAB(l:List cQ)(s:Sub):Prop:=0<=s.Row/\s.Row<l.length/\(aCT l s.Row).Handle=s.H
instance (l:List cQ) (s:Sub):Decidable (aAB l s):=by unfold aAB;infer_instance
def aR7(b:aA)(w:Int)(s:Sub):aA×Sub:=
 if s.Pc=0 then(b,{s with Pc:=1,E:=b.aJ.aQ,Row:=0})
 else if s.Pc=1 then
  if NV (FH b.bB w) s.E s.Row.toNat<(FH b.bB w).length then(b,{s with Pc:=2,Row:=(NV (FH b.bB w) s.E s.Row.toNat:Int),B:=0,H:=(aCT (FH b.bB w) (NV (FH b.bB w) s.E s.Row.toNat:Int)).Handle})
  else(b,VB s 0)
 else if s.Pc=2 then
  if(0<=s.B/\s.B<=2)/\aAB (FH b.bB w) s then
   if bCH b.i5 s.B=s.H then(b,{s with Pc:=1,Row:=s.Row+1}) else(b,{s with Pc:=if s.B=2 then 3 else 2,B:=s.B+1})
  else(b,VB s 1)
 else if s.Pc=3 then
  if aAB (FH b.bB w) s/\aAA (aCT (FH b.bB w) s.Row) s.E then({b with Mem:=a56 b.Mem w s.H,bB:=b.bB.set w.toNat ⟨(FH b.bB w).eraseIdx s.Row.toNat⟩},{s with Pc:=1,Out:=aE (s.Out+1)})
  else(b,VB s 1)
 else(b,VB s 1)
theorem a0M{l:List bE}(hl:F6 l)(hw:0<=w/\w<=2){r:cQ}(hr:r∈FH l w):r∈fA l:=by
 have h:=YS hl hw;have h3:=hl.1;rw[gD hw.1 aa] at h;injection h with h
 exact aU9.2 ⟨l[w.toNat],cM _,aj⟩
theorem bCI{l:List cQ}{k:Int}(h:0<=k/\k<l.length):aCT l k∈l:=by have:=aH8 h;grind[gD]
theorem a0N{b:aA}(hb:yQ b)(hw:0<=w/\w<=2)(s:Sub):pK b w s=some (aR7 b w s):=by
 have hL:=hb.1.2.2.1;have hm:=hb.1.1;have hx:=YS hL hw;have hrow:=aV3 hL hw;have hfl:=λr hr=>a0M hL hw (r:=r) hr;unfold pK aR7;rw[hx];simp only[aG,bV];generalize FH b.bB w=l at *;by_cases p0:s.Pc=0
 ·grind
 have p0':(s.Pc == 0)=false:=aj
 simp only[p0',bO,bN,aS p0];by_cases p1:s.Pc=1
 ·have p1':(s.Pc == 1)=true:=aj
  simp only[p1',bY,aN p1,bCG (show l.length<=1000 by omega),aG];by_cases q:NV l s.E s.Row.toNat<l.length
  ·have n:¬(NV l s.E s.Row.toNat:Int)<0:=aa
   simp only[aN q,cX n,bO,bN,aH8 (l:=l) (k:=(NV l s.E s.Row.toNat:Int)) aa,aG]
  ·simp only[aS q,cP (show(-1:Int)<0 by omega),bY];rfl
 have p1':(s.Pc == 1)=false:=aj
 simp only[p1',bO,bN,aS p1];have el:aE ((l.length:Int)-1)=(l.length:Int)-1:=bX;by_cases p2:s.Pc=2
 ·have p2':(s.Pc == 2)=true:=aj
  simp only[p2',bY,aN p2,dI,el,aG,eK,nZ,bV];by_cases hB:0<=s.B/\s.B<=2
  ·simp only[cP hB,gC,bO,bN];by_cases hR:0<=s.Row/\s.Row<=(l.length:Int)-1
   ·simp only[cP hR,gC,bO,bN,aH8 (l:=l) (k:=s.Row) aa,aG];by_cases hH:(aCT l s.Row).Handle=s.H
    ·have hH':((aCT l s.Row).Handle != s.H)=false:=aj
     have ha:(0<=s.B/\s.B<=2)/\aAB l s:=⟨hB,hR.1,aa,hH⟩;have e1:aE (s.B+1)=s.B+1:=bX;have e2:aE (s.Row+1)=s.Row+1:=bX;simp only[hH',bO,bN,aN ha,a7R hb.1.2.2.2 hB,aG,e1,e2];grind
    ·have hH':((aCT l s.Row).Handle != s.H)=true:=aj
     have ha:¬((0<=s.B/\s.B<=2)/\aAB l s):=λh=>hH h.2.2.2;simp only[hH',bY,aS ha,aG];rfl
   ·have ha:¬((0<=s.B/\s.B<=2)/\aAB l s):=λh=>hR ⟨h.2.1,by have:=h.2.2.1;omega⟩;simp only[cX hR,ML,bY,aS ha,aG];rfl
  ·have ha:¬((0<=s.B/\s.B<=2)/\aAB l s):=λh=>hB h.1;simp only[cX hB,ML,bY,aS ha,aG];rfl
 have p2':(s.Pc == 2)=false:=aj
 simp only[p2',bO,bN,aS p2];by_cases p3:s.Pc=3
 ·have p3':(s.Pc == 3)=true:=aj
  simp only[p3',bY,aN p3,dI,el,aG,eM,uO,bV];by_cases hR:0<=s.Row/\s.Row<=(l.length:Int)-1
  ·simp only[cP hR,gC,bO,bN,aH8 (l:=l) (k:=s.Row) aa,aG];by_cases hH:(aCT l s.Row).Handle=s.H
   ·have hH':((aCT l s.Row).Handle != s.H)=false:=aj
    simp only[hH',bO,bN,aR6,aG];by_cases hr:aAA (aCT l s.Row) s.E
    ·have ha:aAB l s/\aAA (aCT l s.Row) s.E:=⟨⟨hR.1,aa,hH⟩,hr⟩;have e2:aE (s.Row+1)=s.Row+1:=bX;have hlive:=(hb.2 _ (hfl _ (bCI (l:=l) (k:=s.Row) aa))).1;rw[hH] at hlive;have et:(s.Row+1).toNat=s.Row.toNat+1:=aa
     simp only[cP hr,gC,bO,bN,aN ha,e2,eN,aN hlive.1,aG,aH7 hm hw hlive,et];grind[aZ,del_eq]
    ·have ha:¬(aAB l s/\aAA (aCT l s.Row) s.E):=λh=>hr h.2;simp only[cX hr,ML,bY,aS ha,aG];rfl
   ·have hH':((aCT l s.Row).Handle != s.H)=true:=aj
    have ha:¬(aAB l s/\aAA (aCT l s.Row) s.E):=λh=>hH h.1.2.2;simp only[hH',bY,aS ha,aG];rfl
  ·have ha:¬(aAB l s/\aAA (aCT l s.Row) s.E):=λh=>hR ⟨h.1.1,by have:=h.1.2.1;omega⟩;simp only[cX hR,ML,bY,aS ha,aG];rfl
 ·have p3':(s.Pc == 3)=false:=aj
  simp only[p3',bO,bN,aS p3];rfl
def CG(b:aA)(w:Int)(s:Sub):aA×Sub:=
 if s.jN then(b,s) else if s.Kind=1 then a3D b w s else if s.Kind=2 then aYF b w s else if s.Kind=3 then aR5 b s else if s.Kind=4 then aR7 b w s else if s.Kind=5 then bJS b w s else(b,VB s 1)
theorem aYG{b:aA}(hb:yQ b)(hw:0<=w/\w<=2)(s:Sub):JZ b w s=some (CG b w s):=by
 unfold JZ CG;rw[a7P hb.1.1 hw,a3E hb hw,a0L hb.1.2.1,a0N hb hw,bF0 hb.1.2.1 hw];simp only[aG,bV];cases s.jN
 ·simp only[bO,bN,beq_iff_eq];split<;>(try rfl);split<;>(try rfl);split<;>(try rfl);split<;>(try rfl);split<;>rfl
 ·rfl
theorem bF1{b:aA}(hb:yQ b)(hw:0<=w/\w<=2)(s:Sub):yQ (CG b w s).1:=by obtain⟨x,y,e1,_,h⟩:=step_eq hb hb.small hw s;grind[aYG]
theorem aOI{b:List Int}{a:Nat}(h:a+4<=b.length)(hj:j<a\/a+4<=j):bt (RZ b a n) j=bt b j:=by unfold RZ;rw[VA ah,VA ah,VA ah,VA aa,pA,pA,pA,pA]
theorem HOk.put(hh:HOk h)(hc:0<=cA h s)(hn:0<=n/\n<=4294967295) :
  HOk ⟨RZ h.Bytes ((jP s (cA h s)).toNat+4) n,h.Class⟩/\∀t,0<=cA h t->nR ⟨RZ h.Bytes ((jP s (cA h s)).toNat+4) n,h.Class⟩ t=nR h t:=by
 obtain⟨hs,hp⟩:=hh;have h384:=hs.1;have hs':fM ⟨RZ h.Bytes ((jP s (cA h s)).toNat+4) n,h.Class⟩:=⟨by grind[aH1],hs.2.1,a7J hs.2.2.1 _ hn,hs.2.2.2⟩;obtain⟨p,i,p6,hi,es,ec,eo,ep⟩:=I9 hc;have hcl:0<=cJ h p/\cJ h p<=2:=AJ.1 aa;have hroom:8+i*(bM (cJ h p)).toNat+8<=64/\∀j,j<(dK (cJ h p)).toNat->j*(bM (cJ h p)).toNat+4<=i*(bM (cJ h p)).toNat+4\/i*(bM (cJ h p)).toNat+12<=j*(bM (cJ h p)).toNat:=by grind[dK,bM]
 have hgen:∀q j,q<6->j<(dK (cJ h q)).toNat->ld (RZ h.Bytes ((jP s (cA h s)).toNat+4) n) (q*64+8+j*(bM (cJ h q)).toNat) 4=ld h.Bytes (q*64+8+j*(bM (cJ h q)).toNat) 4:=λq j hq hj=>by
  have hz:=xN hs hq rfl hj;refine YQ aa (by grind[aH1]) λk k1 k2=>?_;by_cases e:q=p
  ·grind[aOI]
  grind[aOI]
 refine⟨⟨hs',λq hq=>?_⟩,λt ht=>?_⟩
 ·rw[MG hs' hq];have hold:=(MG hs hq).1 (hp q hq);by_cases e:q=p
  ·subst e;have hcl':¬cJ h q<0:=aa
   unfold aH2 at hold ⊢;have hcc:cJ ⟨RZ h.Bytes ((jP s (cA h s)).toNat+4) n,h.Class⟩ q=cJ h q:=rfl;rw[hcc];rw[aS hcl'] at hold ⊢;obtain⟨⟨a1,a2,a3⟩,a4,a5⟩:=hold;have bs:∀k,k<8->bt (RZ h.Bytes ((jP s (cA h s)).toNat+4) n) (q*64+k)=bt h.Bytes (q*64+k):=λk hk=>aOI aa aa;have b0:=bs 0 aa;grind
  ·refine aH2.same hq hs (by grind[aH1]) rfl (λk hk=>aOI aa aa) hold
 ·obtain⟨p',i',p6',hi',es',ec',eo',ep'⟩:=I9 ht;have e2:cA ⟨RZ h.Bytes ((jP s (cA h s)).toNat+4) n,h.Class⟩ t=cA h t:=rfl;grind[nR]
theorem pC.put(hm:pC m)(hc:0<=cA m.Heap s)(hn:0<=n/\n<=4294967295):AM m ⟨⟨RZ m.Heap.Bytes ((jP s (cA m.Heap s)).toNat+4) n,m.Heap.Class⟩,m.aD⟩ (-1):=by obtain⟨a,b⟩:=HOk.put hm.1.1 hc hn;refine⟨pC.heap hm a λx hx=>⟨rfl,b x (pC.aCS hm hx).1⟩,λt ht _=>?_⟩;have ht':=tW.1 ht;have e:=b t ht'.1;exact⟨tW.2 ⟨ht'.1,ht'.2.1,aj⟩,e,rfl⟩
theorem start_eq(hs:fM h)(hc:0<=cA h s):OC s (cA h s)=some (jP s (cA h s)+4)/\O3 s (cA h s)=some (jP s (cA h s)+4):=by have hg:=aDA hc;unfold OC O3;rw[xM,DR,aG,lA,bX];simp
theorem hb0(x:Int):(x == 0)=decide (x=0):=aj
theorem aH9(h:Int):HB h=some (decide (tV h)):=by grind[HB,D3,tV,gP]
theorem aIA(h:Int):MA h=some (decide (tV h)):=by grind[MA,IK,tV,jL]
theorem a0O{c:aJ}(hc:COk c)(hw:0<=w/\w<=2):∃r,J2 c w=some r/\X2 c w=some r/\COk r.1/\r.1.aQ=c.aQ:=by
 obtain⟨p,hp,hpk⟩:=a2Z hc hw;unfold J2 X2;rw[lN hc.small.1,LN hc.small.1,kH,EY hc.small.2,nC,dI,cP hc,cP hw];simp only[aG,gC,bO,bN,hp,xC,DI];cases p.On with
 |true=>
  simp only[gC,bO,bN];have h0:=hc.1;exact⟨_,rfl,rfl,hc.aYB ⟨aj,ae,λ_=>rfl⟩,rfl⟩
 |false=>simp_all
theorem a2W.set{z:List Int}(hz:a2W z)(k:Nat){h:Int}(hh:tV h):a2W (z.set k h):=⟨by simpa using hz.1,λq hq=>(tY hq).elim (hz.2 q) (λe=>e ▸ hh)⟩
theorem yQ.clock{b:aA}(hb:yQ b){cl:aJ}(h:COk cl)(e:b.aJ.aQ<=cl.aQ):yQ ⟨b.Mem,cl,b.bB,b.i5⟩:=⟨⟨hb.1.1,h,hb.1.2.2⟩,λr hr=>⟨(hb.2 r hr).1,Int.le_trans (hb.2 r hr).2 e⟩⟩
theorem yQ.mem{b:aA}(hb:yQ b)(h:AM b.Mem m (-1)):yQ ⟨m,b.aJ,b.bB,b.i5⟩:=⟨⟨h.1,hb.1.2⟩,λr hr=>⟨h.live (hb.2 r hr).1 aa,(hb.2 r hr).2⟩⟩
def a3F(kind a:Int):Sub:=⟨kind,a,0,0,0,0,0,0,0,false⟩
def lX:List Int->Nat->List UInt8->List Int
 |b,_,[]=>b
 |b,a,c::t=>lX (b.set a (c.toNat:Int)) (a+1) t
theorem AN:∀(t:List UInt8) (b:List Int) (a:Nat),(lX b a t).length=b.length
 |[],b,a=>rfl
 |c::t,b,a=>by rw[lX,AN];simp
theorem aV4:∀(t:List UInt8) {b:List Int} (a:Nat),tU b->tU (lX b a t)
 |[],b,a,h=>h
 |c::t,b,a,h=>aV4 t (a+1) (a0H a h ⟨aa,by have:=c.toNat_lt;omega⟩)
theorem aIB:∀(t:List UInt8) {b:List Int} {a:Nat},a+t.length<=b.length->∀{j:Nat},(j<a\/a+t.length<=j)->bt (lX b a t) j=bt b j
 |[],b,a,h,j,hj=>rfl
 |c::t,b,a,h,j,hj=>by simp only[aDX] at h hj;rw[lX,aIB t ah aa,VA aa,pA]
theorem aK4(b:List Int)(a:Nat)(t:List UInt8)(hl:b.length<=100000)(h:a+t.length<=b.length):∀(r:List UInt8) (k:Nat) (c:List Int),c.length=b.length->t.drop k=r->k+r.length=t.length->loop (lT b (a:Int) t) (c,(k:Int))=some (lX c (a+k) r)
 |[],k,c,hc,hr,hk=>by refine bQ ?_;simp only[lT];rw[aZ hc,aS aj];rfl
 |x::r,k,c,hc,hr,hk=>by
  simp only[aDX] at hk;have hkt:k<t.length:=aa
  have e:=B6 hkt;rw[hr] at e;injection e with e1 e2
  have st:lT b (a:Int) t (c,(k:Int))=some (.next (c.set (a+k) (x.toNat:Int),((k+1:Nat):Int))):=by simp only[lT];rw[aZ hc,b8,aT hkt,aG,bX (x:=(a:Int)+k),show(a:Int)+k=((a+k:Nat):Int) by omega,vN,aG,bX,<-e1];rfl
  rw[bU st,aK4 b a t hl h r (k+1) _ aj e2.symm aa,lX];rfl
theorem aV5{b:List Int}{a:Nat}(hl:b.length<=100000)(h:a+t.length<=b.length):m7 b (a:Int) t=some (lX b a t):=by unfold m7;rw[show(0:Int)=((0:Nat):Int) from rfl,aK4 b a t hl h t 0 b rfl rfl aa,aG];grind[QF,QE,aZ,AN]
theorem HOk.lX(hh:HOk h)(hc:0<=cA h s){o:Nat}(ht:((o+t.length:Nat):Int)<=lD (cA h s)) :
  HOk ⟨Gv.lX h.Bytes ((jP s (cA h s)).toNat+4+o) t,h.Class⟩/\∀u,0<=cA h u->nR ⟨Gv.lX h.Bytes ((jP s (cA h s)).toNat+4+o) t,h.Class⟩ u=nR h u:=by
 obtain⟨hs,hp⟩:=hh;have h384:=hs.1;have hs':fM ⟨Gv.lX h.Bytes ((jP s (cA h s)).toNat+4+o) t,h.Class⟩:=⟨by grind[AN],hs.2.1,aV4 _ _ hs.2.2.1,hs.2.2.2⟩;obtain⟨p,i,p6,hi,es,ec,eo,ep⟩:=I9 hc;have hcl:0<=cJ h p/\cJ h p<=2:=AJ.1 aa;rw[ec] at ht;have hroom:8+i*(bM (cJ h p)).toNat+4+(lD (cJ h p)).toNat<=64/\∀j,j<(dK (cJ h p)).toNat->j*(bM (cJ h p)).toNat+4<=i*(bM (cJ h p)).toNat+4\/i*(bM (cJ h p)).toNat+4+(lD (cJ h p)).toNat<=j*(bM (cJ h p)).toNat:=by grind[dK,bM,lD]
 have hot:o+t.length<=(lD (cJ h p)).toNat:=aa
 have hgen:∀q j,q<6->j<(dK (cJ h q)).toNat->ld (Gv.lX h.Bytes ((jP s (cA h s)).toNat+4+o) t) (q*64+8+j*(bM (cJ h q)).toNat) 4=ld h.Bytes (q*64+8+j*(bM (cJ h q)).toNat) 4:=λq j hq hj=>by
  have hz:=xN hs hq rfl hj;refine YQ aa (by grind[AN]) λk k1 k2=>?_;by_cases e:q=p
  ·subst e;have:=hroom.2 j hj;exact aIB _ aa aa
  ·exact aIB _ aa aa
 refine⟨⟨hs',λq hq=>?_⟩,λu hu=>?_⟩
 ·rw[MG hs' hq];have hold:=(MG hs hq).1 (hp q hq);by_cases e:q=p
  ·subst e;have hcl':¬cJ h q<0:=aa
   unfold aH2 at hold ⊢;have hcc:cJ ⟨Gv.lX h.Bytes ((jP s (cA h s)).toNat+4+o) t,h.Class⟩ q=cJ h q:=rfl;rw[hcc];rw[aS hcl'] at hold ⊢;obtain⟨⟨a1,a2,a3⟩,a4,a5⟩:=hold;have bs:∀k,k<8->bt (Gv.lX h.Bytes ((jP s (cA h s)).toNat+4+o) t) (q*64+k)=bt h.Bytes (q*64+k):=λk hk=>aIB _ aa aa;have b0:=bs 0 aa;grind
  ·refine aH2.same hq hs (by grind[AN]) rfl (λk hk=>aIB _ aa aa) hold
 ·obtain⟨p',i',p6',hi',es',ec',eo',ep'⟩:=I9 hu;have e2:cA ⟨Gv.lX h.Bytes ((jP s (cA h s)).toNat+4+o) t,h.Class⟩ u=cA h u:=rfl;grind[nR]
theorem pC.lX(hm:pC m)(hc:0<=cA m.Heap s){o:Nat}(ht:((o+t.length:Nat):Int)<=lD (cA m.Heap s)):AM m ⟨⟨Gv.lX m.Heap.Bytes ((jP s (cA m.Heap s)).toNat+4+o) t,m.Heap.Class⟩,m.aD⟩ (-1):=by obtain⟨a,b⟩:=HOk.lX hm.1.1 hc ht;refine⟨pC.heap hm a λx hx=>⟨rfl,b x (pC.aCS hm hx).1⟩,λt ht _=>?_⟩;have ht':=tW.1 ht;have e:=b t ht'.1;exact⟨tW.2 ⟨ht'.1,ht'.2.1,aj⟩,e,rfl⟩
def a0P:dX:=⟨0,0,0⟩
def J9(h:Heap)(s:Int):Nat:=(jP s (cA h s)).toNat+4
def bF2(h:Heap)(s:Int):dX:=⟨ld h.Bytes (J9 h s) 2,ld h.Bytes (J9 h s+2) 4,ld h.Bytes (J9 h s+6) 4⟩
def VC(h:Heap)(x:Int):dX:=if mT x/\0<=cA h (x % 32)/\10<=lD (cA h (x % 32)) then bF2 h (x % 32) else a0P
theorem YT(hcl:0<=cA h s)(h10:10<=lD (cA h s)):J9 h s+10<=384/\16<=lD (cA h s):=by grind[cA,J9,I9,lD,dK,bM]
theorem aR8(hs:fM h)(s:Int):IF h s=some (decide (10<=lD (cA h s))):=by grind[IF,kG,aCH]
theorem aFQ(hs:fM h)(hc:0<=cA h s):BH h s=some (J9 h s:Int):=by have:=aDA hc;grind[BH,J9,kG,start_eq]
theorem a7S(hs:fM h)(hc:0<=cA h s)(h10:10<=lD (cA h s)):TC h s=some (bF2 h s):=by
 have hr:=(YT hc h10).1;have h1:=hs.1;unfold TC bF2;rw[aFQ hs hc,aG,show(2:Int)=((2:Nat):Int) from rfl,show(4:Int)=((4:Nat):Int) from rfl,wS hs.2.2.1 aa aa aa,aG,
  bX,show(J9 h s:Int)+((2:Nat):Int)=((J9 h s+2:Nat):Int) by omega,wS hs.2.2.1 aa aa aa,aG,
  bX,show(J9 h s:Int)+6=((J9 h s+6:Nat):Int) by omega,wS hs.2.2.1 aa aa aa];rfl
theorem aV6(hm:pC m)(x:Int):∃c,L9 m x=some (VC m.Heap x,c):=by
 have hs:=hm.1.1.1;unfold L9 VC;rw[jL,aG];by_cases hh:mT x
 ·rw[cP hh,eG,(mT.mod hh).1,kG hs,aG];unfold IG;by_cases hc:cA m.Heap (x % 32)<0
  ·rw[cP hc,aN rfl,pA];exact⟨_,rfl⟩
  ·rw[cX hc,eG,(mT.mod hh).1,aR8 hs,aG];by_cases h10:10<=lD (cA m.Heap (x % 32))
   ·simp_all[a7S]
   ·rw[cX h10,aN ak,pA];exact⟨_,rfl⟩
 ·rw[cX hh,aN ak,aS (λq=>hh q.1)];exact⟨_,rfl⟩
def VD(n:dX):Int:=if mT n.Next then n.Next else 0
theorem aYH(n:dX):gT n=some (VD n):=by unfold gT VD;rw[jL,aG];grind
theorem aKB(n:dX):tV (VD n):=by
 unfold VD;split
 ·exact .inr (by assumption)
 ·exact .inl rfl
def a0Q(m:Mem)(x:Int):Prop:=oY m x/\10<=lD (cA m.Heap (x % 32))
instance (m:Mem) (x:Int):Decidable (a0Q m x):=by unfold a0Q;infer_instance
theorem aK5(hm:pC m)(x:Int):∃c,DH m x=some c/\(c=0↔a0Q m x):=by
 obtain⟨hcnt,h3,h9,h1,h2,hsm,hcp,hlo,hsG,hsO⟩:=pC.facts hm;have hs:=hm.1.1.1;unfold DH a0Q;rw[RK hs aa (by rw[h3];simp[maxLen]) (by rw[h9];simp[maxLen]),aG];by_cases hl:oY m x
 ·rw[cP hl,eG,(mT.mod hl.1).1,aR8 hs,aG];by_cases h10:10<=lD (cA m.Heap (x % 32))
  ·rw[cP h10,eG];exact⟨_,rfl,by simp[hl,h10]⟩
  ·rw[cX h10,aN ak];exact⟨_,rfl,by simp[hl,h10]⟩
 simp_all
def aET(n:Int):List UInt8:=[u8 (n/256),u8 n]
theorem a3G(hn:0<=n/\n<=65535):mG n 2=some (aET n):=by
 have hw:A8 2=some true:=by grind[A8,fH]
 unfold mG;rw[hw];have e1:IntKind.u64.wrap (aE (8*2))=16:=ai
 have e2:aOO .i64 1 16=65536:=ai
 simp only[aG,gC,bO,bN,e1,e2];rw[lA,RP,cX aa];simp only[xF,bO,bN];rw[RP,show aE (2-1)=((1:Nat):Int) from by grind[dJ]];have st:∀(m:Int) (c:List UInt8) (i:Nat),i<c.length->i<4->0<=m->rE (m,c,(i:Int))=some (.next (m/256,c.set i (u8 m),(i:Int)-1)):=λm c i hc hi h0=>by simp only[rE];rw[aN ae,aT hc,aG,show(8:Int)=((8:Nat):Int) from rfl,a5Y h0 aa,bX,oZ];rfl
 rw[bU (st n _ 1 ae aa hn.1),show((1:Nat):Int)-1=((0:Nat):Int) by rfl,
  bU (st _ _ 0 ae aa aa),bQ (r:=aET n)]
 ·rfl
 ·simp only[rE];rw[eG];rfl
def bJT(n:dX):List UInt8:=aET n.Key++F8 n.eO++F8 n.Next
def aYI(n:dX):Prop:=(0<=n.Key/\n.Key<=99)/\(0<=n.eO/\n.eO<=65535)/\tV n.Next
instance (n:dX):Decidable (aYI n):=by unfold aYI;infer_instance
theorem a7T(n:dX):TE n=some (decide (aYI n)):=by grind[TE,aYI,fH,aIA,zX]
theorem aIC(h:tV x):0<=x/\x<=223:=by
 rcases h with h|h
 ·omega
 ·have:=h.1;omega
def aR9(m:Mem)(x:Int)(n:dX):Mem:=if aYI n/\a0Q m x then⟨⟨lX m.Heap.Bytes (J9 m.Heap (x % 32)) (bJT n),m.Heap.Class⟩,m.aD⟩ else m
theorem a3H(hm:pC m)(x:Int)(n:dX):∃c,O6 m x n=some (aR9 m x n,c):=by
 obtain⟨hcnt,h3,h9,h1,h2,hsm,hcp,hlo,hsG,hsO⟩:=pC.facts hm;have hs:=hm.1.1.1;have hbl:m.Heap.Bytes.length<=maxLen:=by grind[maxLen]
 unfold O6 aR9;rw[aCP hsm,aG,U5 hbl aa,cP hm,aG,eG,a7T,aG];unfold EK;by_cases hn:aYI n
 ·rw[cP hn,eG];obtain⟨c,e,hc⟩:=aK5 hm x;rw[e,aG];by_cases hw:a0Q m x
  ·have hcl:=kI hw.1.2.1;have hr:=(YT hcl hw.2).1;have hnx:=aIC hn.2.2;have hk1:=hn.1.2;have hv1:=hn.2.1.2;obtain rfl:=hc.2 hw;rw[aN ak,(mT.mod hw.1.1).1,aFQ hs hcl,aG,a3G ⟨hn.1.1,aa⟩,aG,YP ⟨hn.2.1.1,aa⟩,aG,aZ (by simp[aET,F8]),
    YP ⟨hnx.1,aa⟩,aG,aZ (by simp[aET,F8]),aV5 aa (by grind[aET,F8]),aG,aN ⟨hn,hw⟩]
   exact⟨_,rfl⟩
  ·rw[aS aj,aS (λq=>hw q.2)];exact⟨_,rfl⟩
 simp_all
def aSA(m:Mem)(x y:Int):Mem:=if tV y/\a0Q m x then⟨⟨lX m.Heap.Bytes (J9 m.Heap (x % 32)+6) (F8 y),m.Heap.Class⟩,m.aD⟩ else m
theorem a7U(hm:pC m)(x y:Int):∃c,TD m x y=some (Gv.aSA m x y,c):=by
 obtain⟨hcnt,h3,h9,h1,h2,hsm,hcp,hlo,hsG,hsO⟩:=pC.facts hm;have hs:=hm.1.1.1;have hbl:m.Heap.Bytes.length<=maxLen:=by grind[maxLen]
 unfold TD Gv.aSA;rw[aCP hsm,aG,U5 hbl aa,cP hm,aG,eG,aIA,aG];unfold IL;by_cases hn:tV y
 ·rw[cP hn,eG];obtain⟨c,e,hc⟩:=aK5 hm x;rw[e,aG];by_cases hw:a0Q m x
  ·have hcl:=kI hw.1.2.1;have hr:=(YT hcl hw.2).1;have hnx:=aIC hn;obtain rfl:=hc.2 hw;rw[aN ak,(mT.mod hw.1.1).1,aFQ hs hcl,aG,YP ⟨hnx.1,aa⟩,aG,bX,show(J9 m.Heap (x % 32):Int)+6=((J9 m.Heap (x % 32)+6:Nat):Int) by omega,
    aV5 aa (by grind[F8]),aG,aN ⟨hn,hw⟩]
   exact⟨_,rfl⟩
  ·rw[aS aj,aS (λq=>hw q.2)];exact⟨_,rfl⟩
 simp_all
theorem bCJ(hm:pC m)(x:Int)(n:dX):AM m (aR9 m x n) (-1):=by
 unfold aR9;split
 ·rename_i h;have:=YT (kI h.2.1.2.1) h.2.2;exact pC.lX hm (kI h.2.1.2.1) (o:=0) (by grind[bJT,aET,F8])
 ·exact⟨hm,λs h _=>⟨h,rfl,rfl⟩⟩
theorem bCK(hm:pC m)(x y:Int):AM m (Gv.aSA m x y) (-1):=by
 unfold Gv.aSA;split
 ·rename_i h;have:=YT (kI h.2.1.2.1) h.2.2;exact pC.lX hm (kI h.2.1.2.1) (o:=6) (by grind[F8])
 ·exact⟨hm,λs h _=>⟨h,rfl,rfl⟩⟩
def bCL:Heap:=⟨List.replicate 384 0,[-1,-1,-1,-1,-1,-1]⟩
def bJU:aD:=⟨List.replicate 3 ⟨[]⟩,List.replicate 9 ⟨[]⟩⟩
def aV7:aA:=⟨⟨bCL,bJU⟩,⟨0,List.replicate 3 ⟨false,0,false,0⟩⟩,List.replicate 3 ⟨[]⟩,List.replicate 3 0⟩
theorem aNL:N7=some bCL:=by
 unfold N7;have key:loop vS (0,[])=some (List.replicate 6 (-1)):=eS (f:=vS) 6 (λk=>((k:Int),List.replicate k (-1))) _ (λk hk=>by
  simp only[vS];rw[b8,JN,bX,List.replicate_succ'];rfl) (by simp[vS])
 rw[RP,key];rfl
theorem bJV:yC [-1] 6=some [-1,-1,-1,-1,-1,-1]:=by
 unfold yC;rw[eG,show UF (IntKind.u64.wrap (([-1]:List Int).length:Int)) (IntKind.u64.wrap 6)=some (0,6) by kernel_rfl];simp only[aG];rw[eG,cX aa];simp only[qI,bO,bN];rw[show IntKind.i64.wrap 6=6 from wrap_i64 aa aa,RP,
  show(cW (List.replicate (Int.toNat 6) 0) 0 [-1],((min ([-1]:List Int).length ((List.replicate (Int.toNat 6) (0:Int)).length-0):Nat):Int))=([-1,0,0,0,0,0],1) by kernel_rfl,
  bU (body:=lR) (s':=([-1,-1,0,0,0,0],2)) (by kernel_rfl),bU (body:=lR) (s':=([-1,-1,-1,-1,0,0],4)) (by kernel_rfl),
  bU (body:=lR) (s':=([-1,-1,-1,-1,-1,-1],6)) (by kernel_rfl),bQ (body:=lR) (r:=[-1,-1,-1,-1,-1,-1]) (by kernel_rfl)]
 rfl
theorem aNM:OT=some bCL:=by unfold OT;rw[RP,bJV];rfl
theorem aSB:N8=some aV7/\OU=some aV7:=by unfold N8 OU aBH aBO UC UG UD UH UE UI aBI aBP;rw[aNL,aNM,RP,RP,RP,RP,RP];exact⟨rfl,rfl⟩
theorem aSC:yQ aV7:=of_decide_eq_true (by kernel_rfl)
theorem aKC{b:aA}(hb:yQ b)(hw:0<=w/\w<=2)(s:Sub):rG s b w=some ((CG b w s).2,(CG b w s).1):=by obtain⟨x,y,e1,e2,h⟩:=step_eq hb hb.small hw s;grind[aYG]
def JA:aH:=⟨false,⟨false,[]⟩,0,0,0,0,0,0,0,0,a0P,false,0,⟨0,0,0,0,0,0,0,0,0,false⟩,[],[],[],[],[],[]⟩
def oX(k:List cD)(i:Int):cD:=k.getD i.toNat ⟨0,0,0⟩
def YU(j:aH)(c:Int):aH:={j with Pc:=16,Code:=c}
def aFR(a b:Int):Int:=Int.tmod (aE (a+b)) 65536
def GI(j:aH)(x:aP):Bool×aH:=if 6<(aEP j.aI x).length then(false,YU j 1) else(true,{j with aI:=aEP j.aI x})
def aNN(j:aH)(is:Bool)(v:Int):aH:={j with cC:=j.cC++[⟨is,v⟩],Pc:=1,At:=j.At+1}
def a7V(j:aH)(c:iF)(v:Int):aH:=if(GI j ⟨c.Key,false,aFR v c.eO⟩).1 then aNN (GI j ⟨c.Key,false,aFR v c.eO⟩).2 true (aFR v c.eO) else(GI j ⟨c.Key,false,aFR v c.eO⟩).2
def aUZ(j:aH)(c:iF)(v:Int)(is:Bool):aH:=if c.Kind=4 then a7V j c (if is then v else 0) else aNN j is (if is then v else 0)
def eD(j:aH):iF:=j.Batch.bD.getD j.At.toNat ⟨0,0,0⟩
def NJ(j:aH):Prop:=j.At<j.Batch.bD.length
instance (j:aH):Decidable (NJ j):=by unfold NJ;infer_instance
def a3I(j:aH):aH:=
 if NJ j then
  if(eD j).Kind=2\/(eD j).Kind=3 then
   if(GI j ⟨(eD j).Key,(eD j).Kind == 3,(eD j).eO⟩).1 then {(GI j ⟨(eD j).Key,(eD j).Kind == 3,(eD j).eO⟩).2 with At:=j.At+1,cC:=j.cC++[⟨false,0⟩]}
   else(GI j ⟨(eD j).Key,(eD j).Kind == 3,(eD j).eO⟩).2
  else if(aDT j.aI (eD j).Key).2 then aUZ j (eD j) (aDT j.aI (eD j).Key).1.eO (!(aDT j.aI (eD j).Key).1.GQ)
  else {j with Pc:=2,cD:=CX (eD j).Key}
 else {j with Pc:=6,K:=0,Sub:=a3F 1 16}
def aSD(b:aA)(k:List cD)(w:Int)(j:aH):aH:=
 if j.Pc=2 then
  if(oX k j.cD).gH≠0 then YU j 7
  else {j with eX:=(oX k j.cD).eX,H:=(oX k j.cD).Head,Found:=false,Node:=a0P,Pc:=if(oX k j.cD).Head=0 then 5 else 3}
 else if j.Pc=3 then {j with Node:=VC b.Mem.Heap j.H,Pc:=4}
 else if j.Pc=4 then
  if ¬((yN b.aJ w).On=true/\(yN b.aJ w).gN=false) then YU j 6
  else if NJ j then {j with Found:=j.Node.Key == (eD j).Key,H:=VD j.Node,Pc:=if j.Node.Key=(eD j).Key\/VD j.Node=0 then 5 else 3}
  else YU j 1
 else
  if(oX k j.cD).gH≠0\/(oX k j.cD).eX≠j.eX then YU j 7
  else if(F7 j.Reads j.cD j.eX).2=false then YU {j with Reads:=(F7 j.Reads j.cD j.eX).1} 7
  else if NJ j then aUZ {j with Reads:=(F7 j.Reads j.cD j.eX).1} (eD j) j.Node.eO j.Found
  else YU {j with Reads:=(F7 j.Reads j.cD j.eX).1} 1
def a3J(b:aA)(w:Int)(j:aH):aA×aH:=
 if lE j.aI j.aI.length<=j.K then(b,{j with Pc:=7,K:=0})
 else((CG b w j.Sub).1,
  if(CG b w j.Sub).2.jN=false then {j with Sub:=(CG b w j.Sub).2}
  else if(CG b w j.Sub).2.Code≠0\/¬mT (CG b w j.Sub).2.Out\/6<=j.cR.length then YU {j with Sub:=(CG b w j.Sub).2} (CG b w j.Sub).2.Code
  else {j with cR:=j.cR++[(CG b w j.Sub).2.Out],K:=j.K+1,Sub:=a3F 1 16})
def gQ(j:aH):Int:=(rO j.aI).getD j.K.toNat 0
def aKD(j:aH):aH:={j with bC:=if gQ j∈j.bC then j.bC else j.bC++[gQ j],K:=j.K+1}
def aYJ(k:List cD)(w:Int)(j:aH):List cD×aH×Bool:=
 if j.K<(rO j.aI).length then
  if(oX k (gQ j)).gH≠0\/(j.Reads.any λs=>s.cD == gQ j && s.eX != (oX k (gQ j)).eX)=true then(k,YU j 7,false)
  else if(oX k (gQ j)).eX=1000000 then(k,YU j 3,false)
  else if(rO j.aI).length<=j.K+1 then(k.set (gQ j).toNat {oX k (gQ j) with gH:=w+1},{aKD j with Pc:=8,K:=0},true)
  else(k.set (gQ j).toNat {oX k (gQ j) with gH:=w+1},aKD j,false)
 else(k,{j with Pc:=8,K:=0},true)
def rdN(j:aH):Seen:=j.Reads.getD j.K.toNat ⟨0,0⟩
def a7W(k:List cD)(w:Int)(j:aH):aH:=
 if j.Reads.length<=j.K then {j with Pc:=9,K:=0}
 else if((oX k (rdN j).cD).gH≠0/\(oX k (rdN j).cD).gH≠w+1)\/(oX k (rdN j).cD).eX≠(rdN j).eX then YU j 7
 else {j with K:=j.K+1}
def plF(j:aH)(x:aP):aH:=if x.GQ then {j with Pc:=9,K:=j.K+1} else {j with Pc:=12}
def wrN(j:aH):aP:=j.aI.getD j.K.toNat ⟨0,false,0⟩
def aSE(j:aH):Int:=j.cR.getD (lE j.aI j.K).toNat 0
def aSF(j:aH):aH:=if mT j.H/\j.bL.length<6 then {j with bL:=j.bL++[j.H]} else j
def aSG(b:aA)(k:List cD)(j:aH):aA×List cD×aH:=
 if j.aI.length<=j.K then(b,k,{j with Pc:=14})
 else if j.Pc=9 then(b,k,if(oX k (CX (wrN j).Key)).Head=0 then plF {j with Pc:=10,H:=(oX k (CX (wrN j).Key)).Head,g8:=0} (wrN j) else {j with Pc:=10,H:=(oX k (CX (wrN j).Key)).Head,g8:=0})
 else if j.Pc=10 then
  (b,k,if(VC b.Mem.Heap j.H).Key=(wrN j).Key then {j with Pc:=11,Node:=VC b.Mem.Heap j.H}
   else if VD (VC b.Mem.Heap j.H)=0 then plF {j with Node:=VC b.Mem.Heap j.H} (wrN j)
   else {j with H:=VD (VC b.Mem.Heap j.H),g8:=j.H,Node:=VC b.Mem.Heap j.H})
 else if j.Pc=11 then
  if j.g8=0 then(b,k.set (CX (wrN j).Key).toNat {oX k (CX (wrN j).Key) with Head:=VD j.Node},plF (aSF j) (wrN j))
  else({b with Mem:=Gv.aSA b.Mem j.g8 (VD j.Node)},k,plF (aSF j) (wrN j))
 else if j.cR.length<=lE j.aI j.K then(b,k,YU j 1)
 else if j.Pc=12 then({b with Mem:=aR9 b.Mem (aSE j) ⟨(wrN j).Key,(wrN j).eO,(oX k (CX (wrN j).Key)).Head⟩},k,{j with Pc:=13})
 else(b,k.set (CX (wrN j).Key).toNat {oX k (CX (wrN j).Key) with Head:=aSE j},{j with Pc:=9,K:=j.K+1})
def a0R(j:aH):aH:=if j.K<j.bL.length then {j with Sub:=a3F 2 (j.bL.getD j.K.toNat 0)} else j
def NW(j:aH):Int:=j.bC.getD 0 0
def aU0(k:List cD)(j:aH):List cD×aH:=
 if 0<j.bC.length then
  (k.set (NW j).toNat (if j.Pc=14 then⟨(oX k (NW j)).Head,if 1000000<(oX k (NW j)).eX+1 then 1000000 else(oX k (NW j)).eX+1,0⟩ else {oX k (NW j) with gH:=0}),{j with bC:=j.bC.drop 1})
 else if j.Pc=16 then(k,{j with Pc:=17})
 else(k,a0R {j with Pc:=15,K:=0})
def a3L(b:aA)(w:Int)(j:aH):aA×aH:=
 if j.bL.length<=j.K then(b,{j with Pc:=18})
 else((CG b w j.Sub).1,if(CG b w j.Sub).2.jN then a0R {j with K:=j.K+1,Sub:=(CG b w j.Sub).2} else {j with Sub:=(CG b w j.Sub).2})
def a0S(m:Mem)(w x:Int):Mem:=if oY m x then a56 m w x else m
def a3M(b:aA)(w:Int)(j:aH):aA×aH:=
 if j.cR.length=0 then(b,{j with Pc:=18})
 else(if bC b.bB (j.cR.getD 0 0 % 32) then b else {b with Mem:=a0S b.Mem w (j.cR.getD 0 0)},{j with cR:=j.cR.drop 1})
def aU1(b:aA)(w:Int)(j:aH):aA×aH:=
 ((CG b w j.Sub).1,if(CG b w j.Sub).2.jN = false then {j with Sub:=(CG b w j.Sub).2}
  else if j.Pc=0 then {j with Pc:=1,Sub:=(CG b w j.Sub).2}
  else if j.Pc=20 then {j with Pc:=21,Sub:=a3F 4 0}
  else {j with Pc:=19,Sub:=(CG b w j.Sub).2})
def tlE(w:Int)(j:aH):iB:=⟨3,w,j.aK,j.Code,[],if j.Code=0 then j.cC else []⟩
structure TR where
 b:aA
 k:List cD
 j:aH
 l:List iB
def doF(b:aA)(k:List cD)(w:Int)(j:aH):TR:=
 if j.Pc=0\/j.Pc=20\/j.Pc=21 then⟨(aU1 b w j).1,k,(aU1 b w j).2,[]⟩
 else if j.Pc=1 then⟨b,k,a3I j,[]⟩
 else if 2<=j.Pc/\j.Pc<=5 then⟨b,k,aSD b k w j,[]⟩
 else if j.Pc=6 then⟨(a3J b w j).1,k,(a3J b w j).2,[]⟩
 else if j.Pc=7 then⟨b,(aYJ k w j).1,(aYJ k w j).2.1,if(aYJ k w j).2.2 then [⟨2,w,j.aK,0,[],[]⟩] else []⟩
 else if j.Pc=8 then⟨b,k,a7W k w j,[]⟩
 else if 9<=j.Pc/\j.Pc<=13 then⟨(aSG b k j).1,(aSG b k j).2.1,(aSG b k j).2.2,[]⟩
 else if j.Pc=14\/j.Pc=16 then⟨b,(aU0 k j).1,(aU0 k j).2,[]⟩
 else if j.Pc=15 then⟨(a3L b w j).1,k,(a3L b w j).2,[]⟩
 else if j.Pc=17 then⟨(a3M b w j).1,k,(a3M b w j).2,[]⟩
 else if j.Pc=18 then⟨{b with aJ:=(aR4 b.aJ w).1},k,{j with Pc:=19},[]⟩
 else if j.Pc=19 then⟨b,k,JA,[tlE w j]⟩
 else⟨b,k,YU j 1,[]⟩
def fT(t:Table)(w:Int):aH:=t.aM.getD w.toNat JA
def MH(t:Table)(w:Int):List Batch:=(t.bJ.getD w.toNat ⟨[]⟩).List
def RM(b:Batch)(s:Int):aH:=⟨true,b,s,if b.Collect then 20 else 0,0,0,0,0,0,0,a0P,false,0,if b.Collect then a3F 3 0 else a3F 5 0,[],[],[],[],[],[]⟩
def a7X(t:Table)(w:Int)(b:Batch):Table:=⟨t.aA,t.aW,t.aM.set w.toNat (RM b (t.aK+1)),t.bJ.set w.toNat ⟨(MH t w).drop 1⟩,t.Log++[⟨1,w,t.aK+1,0,b.bD,[]⟩],t.aK+1⟩
def aDU(t:Table)(w:Int)(r:TR):Table:=⟨r.b,r.k,t.aM.set w.toNat r.j,t.bJ,t.Log++r.l,t.aK⟩
def RN(t:Table)(w:Int):Table:=
 if(fT t w).nE then aDU t w (doF t.aA t.aW w (fT t w))
 else if(MH t w).length=0\/t.aK=1000000 then t else a7X t w ((MH t w).getD 0 ⟨false,[]⟩)
def aDV(c:iF):Prop:=(1<=c.Kind/\c.Kind<=4)/\(0<=c.Key/\c.Key<=99)/\(0<=c.eO/\c.eO<=65535)/\(c.Kind=2\/c.Kind=4\/c.eO=0)
instance (c:iF):Decidable (aDV c):=by unfold aDV;infer_instance
def aCU(b:Batch):Prop:=(b.Collect=true->b.bD=[])/\b.bD.length<=6/\(∀c∈b.bD,aDV c)/\(b.Collect=false->1<=b.bD.length)
instance (b:Batch):Decidable (aCU b):=by unfold aCU;infer_instance
def QuV(q:aO):Prop:=q.List.length<=12/\∀b∈q.List,aCU b
instance (q:aO):Decidable (QuV q):=by unfold QuV;infer_instance
def aID(l:List aO):Prop:=l.length=3/\∀q∈l,QuV q
instance (l:List aO):Decidable (aID l):=by unfold aID;infer_instance
def BkV(b:cD):Prop:=tV b.Head/\(0<=b.eX/\b.eX<=1000000)/\(0<=b.gH/\b.gH<=3)
def WrV(l:List aP):Prop:=l.length<=6/\(∀x∈l,(0<=x.Key/\x.Key<=99)/\(0<=x.eO/\x.eO<=65535))/\l.Pairwise (λx y=>x.Key<y.Key)
structure JB (j:aH):Prop where
 busy:j.nE=true
 bat:aCU j.Batch
 h:tV j.H
 prev:tV j.g8
 bkt:0<=j.cD/\j.cD<=1
 at_:0<=j.At/\j.At<=j.Batch.bD.length
 k:0<=j.K/\j.K<=6
 new:j.cR.length<=6/\∀x∈j.cR,mT x
 old:j.bL.length<=6/\∀x∈j.bL,mT x
 reads:(∀s∈j.Reads,0<=s.cD/\s.cD<=1)/\(j.Reads.map Seen.cD).Nodup
 wr:WrV j.aI
 held:(∀x∈j.bC,0<=x/\x<=1)/\j.bC.Nodup
 res:(j.cC.length:Int)=j.At
 node:0<=j.Node.eO/\j.Node.eO<=4294967295
structure TV (t:Table):Prop where
 base:yQ t.aA
 bk:t.aW.length=2/\∀x∈t.aW,BkV x
 aIE:t.aM.length=3/\∀j∈t.aM,j=JA\/JB j
 todo:aID t.bJ
 ser:0<=t.aK/\t.aK<=1000000
theorem aV8{j:aH}(hw:j.aI.length<=1000)(x:aP):tH j x=some (GI j x):=by
 unfold tH GI;rw[aJ6 hw,aG];by_cases h:6<(aEP j.aI x).length
 ·rw[b8,aN h];rfl
 grind
theorem XB(j:aH)(x:aP):(GI j x).2.cC=j.cC/\(GI j x).2.At=j.At:=by grind[GI,YU]
theorem aV9{j:aH}(hw:j.aI.length<=1000)(hr:j.cC.length<=1000)(ha:0<=j.At/\j.At<=1000)(c:iF)(v:Int)(is:Bool):tI j c v is=some (aUZ j c v is):=by
 have key:∀u,mQ j c is u=some (if c.Kind=4 then a7V j c u else aNN j is u):=λu=>by
  unfold mQ;by_cases hk:c.Kind=4
  ·rw[aN aj,aN hk];unfold aE5 a7V;rw[aG,show Int.tmod (aE (u+c.eO)) 65536=aFR u c.eO from rfl,aV8 hw,aG];obtain⟨e1,e2⟩:=XB j ⟨c.Key,false,aFR u c.eO⟩;cases h:(GI j ⟨c.Key,false,aFR u c.eO⟩).1
   ·simp
   ·rw[eG,aN rfl];grind[mP,rW,aNN,aZ,dJ]
  ·rw[aS aj,aS hk];grind[mP,rW,aNN,aZ,dJ]
 unfold tI aUZ;grind
theorem aSH{j:aH}(hl:j.Batch.bD.length<=1000)(ha:0<=j.At):qQ j=some (if NJ j then(eD j,true,j) else(⟨0,0,0⟩,false,j)):=by
 unfold qQ eD;rw[fH,aG,bX];by_cases hc:NJ j
 ·have h:j.At<j.Batch.bD.length:=hc;rw[cP aa,eG,aN hc,gD ha h,aG];grind
 ·have h:¬j.At<j.Batch.bD.length:=hc;grind
theorem bCP{j:aH}(hl:j.Batch.bD.length<=1000)(hw:j.aI.length<=1000)(hr:j.cC.length<=1000)(ha:0<=j.At/\j.At<=1000):IE j=some (a3I j):=by
 unfold IE a3I;rw[aSH hl ha.1,aG];by_cases h:NJ j
 ·rw[aN h,aN h];have put:jW (eD j,true,j) true j=some (if(GI j ⟨(eD j).Key,(eD j).Kind == 3,(eD j).eO⟩).1 then {(GI j ⟨(eD j).Key,(eD j).Kind == 3,(eD j).eO⟩).2 with At:=j.At+1,cC:=j.cC++[⟨false,0⟩]} else(GI j ⟨(eD j).Key,(eD j).Kind == 3,(eD j).eO⟩).2):=by
   unfold jW;rw[aN rfl,aV8 hw,aG];obtain⟨e1,e2⟩:=XB j ⟨(eD j).Key,(eD j).Kind == 3,(eD j).eO⟩;cases (GI j ⟨(eD j).Key,(eD j).Kind == 3,(eD j).eO⟩).1
   ·rw[eG,eG]
   ·rw[aN rfl,aN rfl,aZ (by rw[e1];simp;omega)];simp only[e1,e2];rw[bX]
  have get:jW (eD j,true,j) false j=some (if(aDT j.aI (eD j).Key).2 then aUZ j (eD j) (aDT j.aI (eD j).Key).1.eO (!(aDT j.aI (eD j).Key).1.GQ) else {j with Pc:=2,cD:=CX (eD j).Key}):=by
   unfold jW ID;rw[eG,aNI hw,aG];cases (aDT j.aI (eD j).Key).2
   ·rw[eG,eG,U6];rfl
   ·rw[aN rfl,aN rfl,aV9 hw hr ha];rfl
  grind
 ·rw[aS h,aS h];rfl
theorem yO{t:Table}(h3:t.aM.length=3)(hw:0<=w/\w<=2):idx t.aM w=some (fT t w):=by grind[gD,fT]
theorem JC{k:List cD}{i:Int}(h2:k.length=2)(hi:0<=i/\i<=1):idx k i=some (oX k i):=by grind[gD,oX]
theorem aCV{l:List O}{i:Int}{x:O}(h:0<=i/\i<l.length):idx (l.set i.toNat x) i=some x:=by grind[gD]
theorem aOJ{t:Table}(h3:t.aM.length=3)(hw:0<=w/\w<=2):fT t w∈t.aM:=by grind[fT]
def a0T(t:Table)(w:Int)(j:aH):Table:={t with aM:=t.aM.set w.toNat j}
section
variable {t:Table} {w:Int} (h3:t.aM.length=3) (h2:t.aW.length=2) (hb:yQ t.aA) (hw:0<=w/\w<=2) (hj:JB (fT t w))
include h3 h2 hb hw hj
theorem XC:(fT t w).Batch.bD.length<=1000/\(fT t w).aI.length<=1000/\(fT t w).cC.length<=1000/\(0<=(fT t w).At/\(fT t w).At<=1000)/\(fT t w).Reads.length<=2:=by
 have h1:=hj.bat.2.1;have h4:=hj.at_;have h5:=hj.res;have h6:=hj.wr.1;refine⟨aa,aa,aa,aa,?_⟩;have hn:=hj.reads.2;have hm:∀x∈(fT t w).Reads.map Seen.cD,x=0\/x=1:=λx hx=>by obtain⟨s,hs,rfl⟩:=List.mem_map.1 hx;have:=hj.reads.1 s hs;omega
 have hl:((fT t w).Reads.map Seen.cD).length<=2:=by
  match h:(fT t w).Reads.map Seen.cD,hn,hm with
  |[],_,_=>simp
  |[_],_,_=>simp
  |[_,_],_,_=>simp
  |x::y::z::r,hn,hm=>
   (simp_all;omega)
 grind
theorem bF4:EG t w=some (a0T t w (aSD t.aA t.aW w (fT t w))):=by
 obtain⟨s1,s2,s3,s4,s5⟩:=XC h3 h2 hb hw hj;have hjob:=yO h3 hw;unfold EG E8 aSD a0T;rw[hjob,aG,JC h2 hj.bkt,aG,aG,aSH s1 s4.1,aG];generalize hjj:fT t w=j at *;have e62:(if NJ j then(eD j,true,j) else((⟨0,0,0⟩:iF),false,j)).2.2=j:=aj
 have set2:∀x y:aH,(t.aM.set w.toNat x).set w.toNat y=t.aM.set w.toNat y:=λx y=>aVC ..;have iset:∀x:aH,idx (t.aM.set w.toNat x) w=some x:=λx=>aCV ⟨hw.1,aa⟩;simp only[e62];by_cases p2:j.Pc=2
 ·have p2':(j.Pc == 2)=true:=aj
  simp only[p2',bY,aN p2];by_cases hl:(oX t.aW j.cD).gH=0
  ·have e:((oX t.aW j.cD).gH != 0)=false:=aj
   simp only[e,bO,bN,aS (not_not_intro hl)];by_cases hh:(oX t.aW j.cD).Head=0
   ·have e:((oX t.aW j.cD).Head == 0)=true:=aj
    simp only[e,bY,aN hh];rfl
   ·have e:((oX t.aW j.cD).Head == 0)=false:=aj
    simp only[e,bO,bN,aS hh];rfl
  ·have e:((oX t.aW j.cD).gH != 0)=true:=aj
   simp only[e,bY,aN hl];rfl
 ·have p2':(j.Pc == 2)=false:=aj
  simp only[p2',bO,bN,aS p2];by_cases p3:j.Pc=3
  ·have p3':(j.Pc == 3)=true:=aj
   simp only[p3',bY,aN p3];obtain⟨c,e⟩:=aV6 hb.1.1 j.H;rw[e];rfl
  ·have p3':(j.Pc == 3)=false:=aj
   simp only[p3',bO,bN,aS p3];by_cases p4:j.Pc=4
   ·have p4':(j.Pc == 4)=true:=aj
    simp only[p4',bY,aN p4];rw[PT hb.1.2.1 hw,aG];simp only[E5,oV];have hp:(if(yN t.aA.aJ w).On=true then some (!(yN t.aA.aJ w).gN) else some false)=some (decide ((yN t.aA.aJ w).On=true/\(yN t.aA.aJ w).gN=false)):=by cases (yN t.aA.aJ w).On<;>cases (yN t.aA.aJ w).gN<;>rfl
    rw[hp,aG];by_cases hpin:(yN t.aA.aJ w).On=true/\(yN t.aA.aJ w).gN=false
    ·simp only[cP hpin,gC,bO,bN,aS (not_not_intro hpin)];by_cases hc:NJ j
     ·simp only[aN hc,gC,bO,bN,aYH,aG,E6,uX,iset,set2];grind
     ·simp only[aS hc,ML,bY];rfl
    ·simp only[cX hpin,ML,bY,aN hpin];rfl
   ·have p4':(j.Pc == 4)=false:=aj
    simp only[p4',bO,bN,aS p4];have tail:i6 t w (if NJ j then(eD j,true,j) else((⟨0,0,0⟩:iF),false,j)) false=some (a0T t w (if(F7 j.Reads j.cD j.eX).2=false then YU {j with Reads:=(F7 j.Reads j.cD j.eX).1} 7
      else if NJ j then aUZ {j with Reads:=(F7 j.Reads j.cD j.eX).1} (eD j) j.Node.eO j.Found
      else YU {j with Reads:=(F7 j.Reads j.cD j.eX).1} 1)):=by
     simp only[i6,E7,e62,iset,aG,set2,bO,bN];rw[aNJ aa,aG];cases hs:(F7 j.Reads j.cD j.eX).2
     ·rfl
     ·simp only[gC,bO,bN,reduceCtorEq];by_cases hc:NJ j
      ·simp only[aN hc,gC,bO,bN];rw[aV9 (j:={j with Reads:=(F7 j.Reads j.cD j.eX).1}) s2 s3 s4];rfl
      ·simp only[aS hc,ML,bY];rfl
    have ab:i6 t w (if NJ j then(eD j,true,j) else((⟨0,0,0⟩:iF),false,j)) true=some (a0T t w (YU j 7)):=by simp only[i6,e62,iset,aG,set2,bY];rfl
    by_cases hl:(oX t.aW j.cD).gH=0
    ·have e:((oX t.aW j.cD).gH != 0)=false:=aj
     simp only[e,bO,bN];by_cases hv:(oX t.aW j.cD).eX=j.eX
     ·have e:((oX t.aW j.cD).eX != j.eX)=false:=aj
      rw[e,tail,aS (show ¬((oX t.aW j.cD).gH≠0\/(oX t.aW j.cD).eX≠j.eX) from λq=>q.elim (λh=>h hl) λh=>h hv)];rfl
     ·have e:((oX t.aW j.cD).eX != j.eX)=true:=aj
      rw[e,ab,aN (.inr hv)];rfl
    ·have e:((oX t.aW j.cD).gH != 0)=true:=aj
     simp only[e,bY];rw[ab,aN (.inl hl)];rfl
end
def aCW(t:Table)(w:Int)(p:aA×aH):Table:={t with aA:=p.1,aM:=t.aM.set w.toNat p.2}
section
variable {t:Table} {w:Int} (h3:t.aM.length=3) (h2:t.aW.length=2) (hb:yQ t.aA) (hw:0<=w/\w<=2) (hj:JB (fT t w))
include h3 h2 hb hw hj
theorem bCQ:uW t w=some (aCW t w (aU1 t.aA w (fT t w))):=by
 unfold uW aU1 aCW;rw[yO h3 hw,aG,aKC hb hw,aG];generalize fT t w=j at *;generalize CG t.aA w j.Sub=r;cases hd:r.2.jN
 ·rfl
 ·simp only[hd,gC,bO,bN,reduceCtorEq];by_cases p0:j.Pc=0
  ·grind
  ·have e:(j.Pc == 0)=false:=aj
   simp only[e,bO,bN,aS p0];by_cases p20:j.Pc=20
   ·have e:(j.Pc == 20)=true:=aj
    simp only[e,bY,aN p20];rfl
   grind
theorem a7Y:BI t w=some (aCW t w (a3J t.aA w (fT t w))):=by
 obtain⟨s1,s2,s3,s4,s5⟩:=XC h3 h2 hb hw hj;have hjob:=yO h3 hw;have hk:=hj.k;have hn:=hj.new.1;unfold BI a3J aCW;rw[hjob,aG,aH0 s2,aG];generalize hjj:fT t w=j at *;have set2:∀x y:aH,(t.aM.set w.toNat x).set w.toNat y=t.aM.set w.toNat y:=λx y=>aVC ..;have iset:∀x:aH,idx (t.aM.set w.toNat x) w=some x:=λx=>aCV ⟨hw.1,aa⟩;unfold CP;by_cases hp:lE j.aI j.aI.length<=j.K
 ·grind
 ·rw[cX hp,eG,aS hp,hjob,aG,aKC hb hw,aG];generalize CG t.aA w j.Sub=r;cases hd:r.2.jN
  ·rfl
  ·have ab:gU w true {t with aA:=r.1,aM:=t.aM.set w.toNat {j with Sub:=r.2}}=some {t with aA:=r.1,aM:=t.aM.set w.toNat (YU {j with Sub:=r.2} r.2.Code)}:=by simp_all[gU,cT,YU]
   have go:j.cR.length<6->gU w false {t with aA:=r.1,aM:=t.aM.set w.toNat {j with Sub:=r.2}}=some {t with aA:=r.1,aM:=t.aM.set w.toNat {j with cR:=j.cR++[r.2.Out],K:=j.K+1,Sub:=a3F 1 16}}:=λh6=>by simp only[gU,bO,bN,iset,aG,set2,CN,lS,CM];rw[JN,bX];rfl
   simp only[hd,gC,bO,bN,reduceCtorEq];by_cases hc:r.2.Code=0
   ·have e:(r.2.Code != 0)=false:=aj
    simp only[e,bO,bN,jL,aG];grind
   grind
theorem bCR:rX t w=some (a0T t w (a7W t.aW w (fT t w))):=by
 have hjob:=yO h3 hw;have hk:=hj.k;have hr:=hj.reads.1;unfold rX vB a7W a0T;rw[hjob,aG,aG];generalize hjj:fT t w=j at *;by_cases hp:(j.Reads.length:Int)<=j.K
 ·grind
 ·have hi:j.K.toNat<j.Reads.length:=aa
  have er:rdN j=j.Reads[j.K.toNat]:=by grind[rdN]
  have hbk:=hr j.Reads[j.K.toNat] (cM hi);rw[aS aj,aS hp,aG,gD hk.1 aa,aG,<-er];rw[<-er] at hbk;unfold vA uZ;rw[JC h2 hbk,aG,bX];have ab:fK t w true=some {t with aM:=t.aM.set w.toNat (YU j 7)}:=by simp_all[fK,cT,YU]
  have go:fK t w false=some {t with aM:=t.aM.set w.toNat {j with K:=j.K+1}}:=by simp only[fK,bO,bN,hjob,aG];grind[dJ]
  grind
theorem aU2{l:List Seen}(hl:l.length<=1000)(f:Seen->Bool)(g:Seen->Option Bool)(hg:∀x,g x=some (f x)):iX l g=some (l.any f):=by
 have e:g=λx=>some (f x):=funext hg;rw[e];unfold iX;rcases aK2 (s:=l) (p:=f) aa with ⟨j,h,h1,h2,h3⟩|⟨h1,h3⟩
 ·rw[h3,aG,cP aa];congr 1;exact(List.any_eq_true.2 ⟨l[j],cM h,h2⟩).symm
 ·rw[h3,aG,cX aa];congr 1;refine(List.any_eq_false.2 λx hx=>?_).symm;obtain⟨i,hi,rfl⟩:=aKN hx;simp[h1 i hi]
def bLT(t:Table)(w:Int)(p:List cD×aH×Bool):Table:={t with aW:=p.1,aM:=t.aM.set w.toNat p.2.1,Log:=t.Log++if p.2.2 then [⟨2,w,(fT t w).aK,0,[],[]⟩] else []}
theorem bF5(hl:t.Log.length<=1000000):EJ t w=some (bLT t w (aYJ t.aW w (fT t w))):=by
 obtain⟨s1,s2,s3,s4,s5⟩:=XC h3 h2 hb hw hj;have hjob:=yO h3 hw;have hk:=hj.k;have hd:=hj.held;have hwr:=hj.wr;unfold EJ aYJ bLT;rw[hjob,aG,aNK (by have:=hwr.1;omega) (λx hx=>(hwr.2.1 x hx).1),aG];generalize hjj:fT t w=j at *;have set2:∀x y:aH,(t.aM.set w.toNat x).set w.toNat y=t.aM.set w.toNat y:=λx y=>aVC ..;have iset:∀x:aH,idx (t.aM.set w.toNat x) w=some x:=λx=>aCV ⟨hw.1,aa⟩;have hheld:j.bC.length<=2:=by
  match h:j.bC,hd with
  |[],_=>simp
  |[_],_=>simp
  |[_,_],_=>simp
  |x::y::z::r,⟨hm,hn⟩=>
   (simp_all;omega)
 by_cases hp:j.K<(rO j.aI).length
 ·have hi:j.K.toNat<(rO j.aI).length:=aa
  have er:gQ j=(rO j.aI)[j.K.toNat]:=by grind[gQ]
  have hbk:0<=gQ j/\gQ j<=1:=by grind[aRW,cM]
  rw[aN aj,aN hp,gD hk.1 hp,aG,<-er,JC h2 hbk,aG];have ab:iD t w (rO j.aI) (gQ j) true=some {t with aM:=t.aM.set w.toNat (YU j 7)}:=by simp_all[iD,cT,YU]
  have en:∀x:aH,x.K=j.K->x.aK=j.aK->oL t w (rO j.aI) (gQ j) (oX t.aW (gQ j)) (t.aM.set w.toNat x) =
    some {t with aW:=t.aW.set (gQ j).toNat {oX t.aW (gQ j) with gH:=w+1},aM:=t.aM.set w.toNat (if(rO j.aI).length<=j.K+1 then {x with K:=0,Pc:=8} else {x with K:=j.K+1}),Log:=t.Log++if(rO j.aI).length<=j.K+1 then [⟨2,w,j.aK,0,[],[]⟩] else []}:=λx hx hs=>by
   simp only[oL,oK,uY,iset,set2,aG,hx,hs];rw[bX,bX];by_cases hq:((rO j.aI).length:Int)<=j.K+1
   ·rw[aN aj,JN,aN hq,aN hq]
   grind
  have go:iD t w (rO j.aI) (gQ j) false=some (if(oX t.aW (gQ j)).eX=1000000 then {t with aM:=t.aM.set w.toNat (YU j 3)} else
    {t with aW:=t.aW.set (gQ j).toNat {oX t.aW (gQ j) with gH:=w+1},aM:=t.aM.set w.toNat (if(rO j.aI).length<=j.K+1 then {aKD j with K:=0,Pc:=8} else aKD j),Log:=t.Log++if(rO j.aI).length<=j.K+1 then [⟨2,w,j.aK,0,[],[]⟩] else []}):=by
   unfold iD;rw[eG,JC h2 hbk,aG];by_cases hv:(oX t.aW (gQ j)).eX=1000000
   ·simp_all[cT,YU]
   ·have e:((oX t.aW (gQ j)).eX == 1000000)=false:=aj
    simp only[e,bO,bN,aS hv,hjob,aG];rw[contains_eq (by grind[maxLen]),aG];by_cases hm:gQ j∈j.bC
    ·rw[cP hm,eG];have:=en j rfl rfl;rw[show t.aM.set w.toNat j=t.aM by
      rw[<-hjj];unfold fT;rw[VG,lO (show w.toNat<t.aM.length by omega)];simp] at this
     simp_all[aKD]
    ·rw[cX hm,aN ak,JN];unfold FC;rw[en {j with bC:=j.bC++[gQ j]} rfl rfl];unfold aKD;rw[aS hm]
  have fin:∀B:Bool,iD t w (rO j.aI) (gQ j) B=some (if B=true then {t with aM:=t.aM.set w.toNat (YU j 7)} else if(oX t.aW (gQ j)).eX=1000000 then {t with aM:=t.aM.set w.toNat (YU j 3)} else
    {t with aW:=t.aW.set (gQ j).toNat {oX t.aW (gQ j) with gH:=w+1},aM:=t.aM.set w.toNat (if(rO j.aI).length<=j.K+1 then {aKD j with K:=0,Pc:=8} else aKD j),Log:=t.Log++if(rO j.aI).length<=j.K+1 then [⟨2,w,j.aK,0,[],[]⟩] else []}):=λB=>by
   cases B
   ·simp only[bO,bN];exact go
   ·simp only[bY];exact ab
  have cf:iX j.Reads (λy0=>yE y0 (gQ j) (oX t.aW (gQ j)))=some (j.Reads.any λs=>s.cD == gQ j && s.eX != (oX t.aW (gQ j)).eX):=
   aU2 h3 h2 hb hw aj aa _ _ λx=>by unfold yE qR;cases x.cD == gQ j<;>rfl
  by_cases hl0:(oX t.aW (gQ j)).gH=0
  ·have e:((oX t.aW (gQ j)).gH != 0)=false:=aj
   simp only[e,bO,bN];rw[cf,aG,fin];by_cases hany:(j.Reads.any λs=>s.cD == gQ j && s.eX != (oX t.aW (gQ j)).eX)=true
   ·grind
   ·rw[aS hany,aS (show ¬((oX t.aW (gQ j)).gH≠0\/(j.Reads.any λs=>s.cD == gQ j && s.eX != (oX t.aW (gQ j)).eX)=true) from λq=>q.elim (λa=>a hl0) hany)];by_cases hv:(oX t.aW (gQ j)).eX=1000000
    ·rw[aN hv,aN hv];simp
    ·rw[aS hv,aS hv];by_cases hq:((rO j.aI).length:Int)<=j.K+1
     ·simp only[aN hq];rfl
     ·simp only[aS hq];rfl
  grind
 ·rw[aS aj,aS hp];unfold oK uY;rw[hjob,aG,b8,JN,aG];rfl
end
end Go.Gv
end
