import Derived.Test.YtonkeoekmfkaoaaGreatXVF
set_option linter.unusedVariables false
set_option linter.unusedSimpArgs false
set_option linter.unusedSectionVars false
set_option linter.constructorNameAsVariable false
set_option linter.unnecessarySimpa false
noncomputable section
namespace Go.Gv
variable{h:Heap}{c n s w x:Int}{xs z:List Int}{t:List UInt8}{l:List bM}{m:Mem}{i j k p:Nat}{O:Type}
def gJ(h:Heap)(p:Nat):List Int:=(h.Bytes.drop (p*64)).take 64
def cN(h:Heap)(p:Nat):Int:=h.Class.getD p 0
def oX(h:Heap)(p:Nat):Prop:=
 if cN h p<0 then ∀x∈gJ h p,x=0
 else((gJ h p).getD 0 0=171/\(gJ h p).getD 1 0=cN h p/\(gJ h p).getD 2 0=dN (cN h p))/\(∀x∈((gJ h p).drop 3).take 5,x=0)/\∀i,i<(dN (cN h p)).toNat->1<=ld h.Bytes (p*64+8+i*(bJ (cN h p)).toNat) 4/\ld h.Bytes (p*64+8+i*(bJ (cN h p)).toNat) 4<=7
instance (h:Heap) (p:Nat):Decidable (oX h p):=by unfold oX;infer_instance
section
variable {h:Heap} (hs:fW h) {p:Nat} (hp:p<6)
include hs hp
theorem U0:(gJ h p).length=64:=aY6 (by have:=hs.1;omega)
theorem ZM(hk:k<64):h.Bytes[p*64+k]'(by have:=hs.1;omega)=(gJ h p)[k]'(by grind[U0]):=(aOL (show k<((h.Bytes.drop (p*64)).take 64).length by have:=U0 hs hp;grind[gJ]) _).symm
theorem aSK(hk:k<64):h.Bytes[p*64+k]'(by have:=hs.1;omega)=(gJ h p).getD k 0:=by grind[ZM]
theorem aAK:h.Class[p]'(by have:=hs.2.1;omega)=cN h p:=by grind[cN]
theorem aLE:idx h.Class (p:Int)=some (cN h p):=by rw[aT (by have:=hs.2.1;omega),aAK hs hp]
theorem aOM(hk:k<64):idx h.Bytes (((p*64+k:Nat)):Int)=some ((gJ h p).getD k 0):=by rw[aT (by have:=hs.1;omega),aSK hs hp hk]
theorem a21:tW (gJ h p):=aUK hs.2.2.1 _ _
theorem xH(hc:cN h p=c)(hi:i<(dN c).toNat):(8+i*(bJ c).toNat)+4<=64/\0<=(i:Int)*bJ c/\((8+i*(bJ c).toNat:Nat):Int)=8+(i:Int)*bJ c:=by grind[dN,bJ]
theorem a7K(hi:i<(dN (cN h p)).toNat):jR ((p:Int)*4+i) (cN h p)=((p*64+(8+i*(bJ (cN h p)).toNat):Nat):Int):=by have hz:=xH hs hp rfl hi;have hle:=oO (cN h p);unfold jR;grind
theorem ZN:RJ h (p:Int)=some (decide (oX h p)):=by
 have hb:=hs.1;have hl:=U0 hs hp;have e0:bA ((p:Int)*64)=((p*64+0:Nat):Int):=by grind[cO]
 have e1:bA (((p*64+0:Nat):Int)+1)=((p*64+1:Nat):Int):=by grind[cO]
 have e2:bA (((p*64+0:Nat):Int)+2)=((p*64+2:Nat):Int):=by grind[cO]
 have e3:bA (((p*64+0:Nat):Int)+3)=((p*64+3:Nat):Int):=by grind[cO]
 have e8:bA (((p*64+0:Nat):Int)+8)=((p*64+8:Nat):Int):=by grind[cO]
 have e64:bA (((p*64+0:Nat):Int)+64)=((p*64+64:Nat):Int):=by grind[cO]
 unfold RJ;rw[aLE hs hp];simp only[aH];by_cases hc:cN h p<0
 ·simp only[hc,decide_true,bV,e0];have key:loop (sK h (p:Int)) (((p*64+0:Nat)):Int)=some (if ∀x∈gJ h p,x=0 then Out.brk () else Out.ret false):=by
   refine kW (f:=sK h (p:Int)) (gJ h p) (λk=>((p*64+k:Nat):Int)) (λx=>x=0) _ _ (λk hk hx=>?_) (λk hk hx=>?_) ?_
   ·simp only[sK,e0,e64];rw[cQ,TD,ZM hs hp aa,cR];grind
   ·simp only[sK,e0,e64];rw[cQ,TD,ZM hs hp aa];grind
   simp_all[sK]
  rw[key];have hP:oX h p↔∀x∈gJ h p,x=0:=by simp_all[oX]
  by_cases h4:∀x∈gJ h p,x=0
  ·rw[aM h4,bY (hP.2 h4)];rfl
  ·rw[aO h4,dU (λq=>h4 (hP.1 q))];rfl
 ·have hP:oX h p↔((gJ h p).getD 0 0=171/\(gJ h p).getD 1 0=cN h p/\(gJ h p).getD 2 0=dN (cN h p))/\(∀x∈((gJ h p).drop 3).take 5,x=0)/\∀i,i<(dN (cN h p)).toNat->1<=ld h.Bytes (p*64+8+i*(bJ (cN h p)).toNat) 4/\ld h.Bytes (p*64+8+i*(bJ (cN h p)).toNat) 4<=7:=by simp_all[oX,aO]
  simp only[hc,decide_false,bR,bN,e0,e1,e2,aOM hs hp (show 0<64 by omega),aOM hs hp (show 1<64 by omega),aOM hs hp (show 2<64 by omega),aH,i6];by_cases a0:(gJ h p).getD 0 0=171
  ·by_cases a1:(gJ h p).getD 1 0=cN h p
   ·by_cases a2:(gJ h p).getD 2 0=dN (cN h p)
    ·have n0:((gJ h p).getD 0 0 != 171)=false:=aj
     have n1:((gJ h p).getD 1 0 != cN h p)=false:=aj
     have n2:((gJ h p).getD 2 0 != dN (cN h p))=false:=aj
     simp only[n0,n1,n2,bR,bN,lJ,e0,e3];have hl5:(((gJ h p).drop 3).take 5).length=5:=by simp[hl]
     have key:loop (sM h (p:Int)) (((p*64+3:Nat)):Int)=some (if ∀x∈((gJ h p).drop 3).take 5,x=0 then Out.brk () else Out.ret false):=by
      refine kW (f:=sM h (p:Int)) (((gJ h p).drop 3).take 5) (λk=>((p*64+(3+k):Nat):Int)) (λx=>x=0) _ _ (λk hk hx=>?_) (λk hk hx=>?_) ?_
      ·simp only[sM,e0,e8];rw[cQ,TD,ZM hs hp aa,cR,<-aOL hk aa,hx];simp;omega
      ·simp only[sM,e0,e8];rw[cQ,TD,ZM hs hp aa,<-aOL hk aa];grind
      simp_all[sM]
     rw[key];by_cases h4:∀x∈((gJ h p).drop 3).take 5,x=0
     ·rw[aM h4];simp only[aH,YS,YR];have key2:loop (sL h (p:Int) (cN h p)) 0=some (if ∀i,i<(dN (cN h p)).toNat->1<=ld h.Bytes (p*64+8+i*(bJ (cN h p)).toNat) 4/\ld h.Bytes (p*64+8+i*(bJ (cN h p)).toNat) 4<=7 then Out.brk () else Out.ret false):=by
       have hle:=oO (cN h p);have hst:∀k:Nat,k<(dN (cN h p)).toNat->sL h (p:Int) (cN h p) (k:Int)=if 1<=ld h.Bytes (p*64+8+k*(bJ (cN h p)).toNat) 4/\ld h.Bytes (p*64+8+k*(bJ (cN h p)).toNat) 4<=7 then some (.next ((k+1:Nat):Int)) else some (.stop (Out.ret false)):=by
        intro k hk;have hz:=xH hs hp rfl hk;have s1:uE (p:Int) (k:Int)=some ((p:Int)*4+k):=by
         unfold uE yQ;rw[cM,cM];have g1:(0:Int)<=p/\(p:Int)<=5:=aa
         have g2:(0:Int)<=k/\(k:Int)<=3:=aa
         simp only[aH,g1,g2,and_self,decide_true,hU,bR,bN];grind[cO]
        have l1:=AN hs.2.2.1 (a:=p*64+(8+k*(bJ (cN h p)).toNat)) (w:=4) aa aa aa;simp only[sL,i6,aH];rw[cQ,s1];simp only[aH,xG,a7K hs hp hk];rw[show((4:Nat):Int)=4 from rfl] at l1;rw[l1,YI,cR (x:=(k:Int)+1)];simp only[aH,cM];grind
       refine AJ (f:=sL h (p:Int) (cN h p)) (dN (cN h p)).toNat (λk=>(k:Int)) (λi=>1<=ld h.Bytes (p*64+8+i*(bJ (cN h p)).toNat) 4/\ld h.Bytes (p*64+8+i*(bJ (cN h p)).toNat) 4<=7) _ _ (λk hk hx=>?_) (λk hk hx=>?_) ?_
       ·grind
       ·rw[hst k hk,aO hx]
       ·simp only[sL,i6,aH];rw[rK]
      rw[key2];by_cases h5:∀i,i<(dN (cN h p)).toNat->1<=ld h.Bytes (p*64+8+i*(bJ (cN h p)).toNat) 4/\ld h.Bytes (p*64+8+i*(bJ (cN h p)).toNat) 4<=7
      ·rw[aM h5,bY (hP.2 ⟨⟨a0,a1,a2⟩,h4,h5⟩)];rfl
      ·rw[aO h5,dU (λq=>h5 (hP.1 q).2.2)];rfl
     ·rw[aO h4,dU (λq=>h4 (hP.1 q).2.1)];rfl
    simp_all[lJ]
   simp_all[lJ]
  simp_all[lJ]
end
theorem ZO{l:List Int}(hl:l.length<=maxLen):LH l=some (decide (∀x∈l,x=0)):=by
 unfold LH;have e:(λy0=>KJ y0)=λy:Int=>some (!decide (y=0)):=by grind[KJ]
 simp_all[IS,aAJ]
section
variable {h:Heap} (hs:fW h) {p:Nat} (hp:p<6)
include hs hp
theorem bCL:(h.Bytes.take ((p+1)*64)).drop (p*64)=gJ h p:=by grind[gJ,List.drop_take]
theorem bA5{a:Nat}(ha:a+4<=64):ld (gJ h p) a 4=ld h.Bytes (p*64+a) 4:=by grind[ld,gJ,List.drop_take,List.drop_drop]
theorem aY7(hk:k<64):idx (gJ h p) (k:Int)=some ((gJ h p).getD k 0):=by grind[U0,aT]
theorem ZP:RV h (p:Int)=some (decide (oX h p)):=by
 have hb:=hs.1;have hl:=U0 hs hp;have hm:(gJ h p).length<=maxLen:=by grind[maxLen]
 have e0:bA ((p:Int)*64)=((p*64:Nat):Int):=by grind[cO]
 have e1:bA (bA ((p:Int)+1)*64)=(((p+1)*64:Nat):Int):=by grind[cO]
 have i0:=aY7 hs hp (show 0<64 by omega);have i1:=aY7 hs hp (show 1<64 by omega);have i2:=aY7 hs hp (show 2<64 by omega);rw[show((0:Nat):Int)=0 from rfl] at i0;rw[show((1:Nat):Int)=1 from rfl] at i1;rw[show((2:Nat):Int)=2 from rfl] at i2;unfold RV;rw[aLE hs hp];simp only[aH,e0,e1,F8,bCL hs hp];rw[SA];by_cases hc:cN h p<0
 ·simp_all[oX,ZO]
 ·have hP:oX h p↔((gJ h p).getD 0 0=171/\(gJ h p).getD 1 0=cN h p/\(gJ h p).getD 2 0=dN (cN h p))/\(∀x∈((gJ h p).drop 3).take 5,x=0)/\∀i,i<(dN (cN h p)).toNat->1<=ld h.Bytes (p*64+8+i*(bJ (cN h p)).toNat) 4/\ld h.Bytes (p*64+8+i*(bJ (cN h p)).toNat) 4<=7:=by simp_all[oX,aO]
  simp only[hc,decide_false,bR,bN,i0,i1,i2,aH,EM];by_cases a0:(gJ h p).getD 0 0=171
  ·by_cases a1:(gJ h p).getD 1 0=cN h p
   ·by_cases a2:(gJ h p).getD 2 0=dN (cN h p)
    ·have n0:((gJ h p).getD 0 0 != 171)=false:=aj
     have n1:((gJ h p).getD 1 0 != cN h p)=false:=aj
     have n2:((gJ h p).getD 2 0 != dN (cN h p))=false:=aj
     have t8:((gJ h p).take (8:Int).toNat).drop (3:Int).toNat=((gJ h p).drop 3).take 5:=by grind[List.drop_take]
     simp only[n0,n1,n2,bR,bN,jX,t8];rw[SA,ZO aj];by_cases h4:∀x∈((gJ h p).drop 3).take 5,x=0
     ·simp only[bY h4,aH,hU,bR,bN,EM];have key2:loop (sP h (p:Int) (cN h p) (dN (cN h p))) 0=some (if ∀i,i<(dN (cN h p)).toNat->1<=ld h.Bytes (p*64+8+i*(bJ (cN h p)).toNat) 4/\ld h.Bytes (p*64+8+i*(bJ (cN h p)).toNat) 4<=7 then Out.brk () else Out.ret false):=by
       have hle:=oO (cN h p);have hst:∀k:Nat,k<(dN (cN h p)).toNat->sP h (p:Int) (cN h p) (dN (cN h p)) (k:Int)=if 1<=ld h.Bytes (p*64+8+k*(bJ (cN h p)).toNat) 4/\ld h.Bytes (p*64+8+k*(bJ (cN h p)).toNat) 4<=7 then some (.next ((k+1:Nat):Int)) else some (.stop (Out.ret false)):=by
        intro k hk;have hz:=xH hs hp rfl hk;have e5:bA (8+bA ((k:Int)*bJ (cN h p)))=((8+k*(bJ (cN h p)).toNat:Nat):Int):=by grind[cO]
        have l1:=wN (a21 hs hp) (a:=8+k*(bJ (cN h p)).toNat) (w:=4) aa aa aa;rw[show((4:Nat):Int)=4 from rfl,bA5 hs hp aa] at l1;simp only[sP,UZ,aH,e0,e1,F8,bCL hs hp,e5];rw[cQ,l1,YI,cR (x:=(k:Int)+1)];simp only[aH,dO];grind
       refine AJ (f:=sP h (p:Int) (cN h p) (dN (cN h p))) (dN (cN h p)).toNat (λk=>(k:Int)) (λi=>1<=ld h.Bytes (p*64+8+i*(bJ (cN h p)).toNat) 4/\ld h.Bytes (p*64+8+i*(bJ (cN h p)).toNat) 4<=7) _ _ (λk hk hx=>?_) (λk hk hx=>?_) ?_
       ·grind
       ·simp_all
       ·simp only[sP];rw[rK]
      rw[key2];by_cases h5:∀i,i<(dN (cN h p)).toNat->1<=ld h.Bytes (p*64+8+i*(bJ (cN h p)).toNat) 4/\ld h.Bytes (p*64+8+i*(bJ (cN h p)).toNat) 4<=7
      ·rw[aM h5,bY (hP.2 ⟨⟨a0,a1,a2⟩,h4,h5⟩)];rfl
      ·rw[aO h5,dU (λq=>h5 (hP.1 q).2.2)];rfl
     grind
    ·have n0:((gJ h p).getD 0 0 != 171)=false:=aj
     have n1:((gJ h p).getD 1 0 != cN h p)=false:=aj
     have n2:((gJ h p).getD 2 0 != dN (cN h p))=true:=aj
     simp_all[jX]
   simp_all[jX]
  simp_all[jX]
end
instance (h:Heap):Decidable (∀p,p<6->oX h p):=Nat.decidableBallLT 6 λp _=>oX h p
def HOk(h:Heap):Prop:=fW h/\∀p,p<6->oX h p
instance (h:Heap):Decidable (HOk h):=by unfold HOk;infer_instance
theorem aON(hl:h.Bytes.length<=maxLen):RK h=some (decide (HOk h)):=by
 unfold RK;rw[aKI hl];by_cases hs:fW h
 ·have key:loop (y5 h) 0=some (if ∀p,p<6->oX h p then Out.brk () else Out.ret false):=by
   refine AJ (f:=y5 h) 6 (λk=>(k:Int)) (λp=>oX h p) _ _ (λk hk hx=>?_) (λk hk hx=>?_) ?_
   ·simp only[y5];rw[cQ,ZN hs hk,cR,bY hx];rfl
   ·simp only[y5];rw[cQ,ZN hs hk,dU hx];rfl
   ·rfl
  simp only[aH,bY hs,hU,bR,bN];rw[key];by_cases h4:∀p,p<6->oX h p
  ·rw[aM h4,bY (show HOk h from⟨hs,h4⟩)];rfl
  ·rw[aO h4,dU (λq:HOk h=>h4 q.2)];rfl
 grind[HOk]
theorem P9(hl:h.Bytes.length<=maxLen):LI h=some (decide (HOk h)):=by
 unfold LI;rw[P8 hl];by_cases hs:fW h
 ·have key:loop (zE h) 0=some (if ∀p,p<6->oX h p then Out.brk () else Out.ret false):=by
   refine AJ (f:=zE h) 6 (λk=>(k:Int)) (λp=>oX h p) _ _ (λk hk hx=>?_) (λk hk hx=>?_) ?_
   ·simp only[zE];rw[cQ,ZP hs hk,cR,bY hx];rfl
   ·simp only[zE];rw[cQ,ZP hs hk,dU hx];rfl
   ·rfl
  simp only[aH,bY hs,hU,bR,bN];rw[key];by_cases h4:∀p,p<6->oX h p
  ·rw[aM h4,bY (show HOk h from⟨hs,h4⟩)];rfl
  ·rw[aO h4,dU (λq:HOk h=>h4 q.2)];rfl
 grind[HOk]
def cC(h:Heap)(s:Int):Int:=if(0<=s/\s<=23)/\s % 4<dN (cN h (s/4).toNat) then cN h (s/4).toNat else -1
theorem SB(hc:0<=cC h s):(0<=s/\s<=23)/\s % 4<dN (cN h (s/4).toNat)/\cC h s=cN h (s/4).toNat:=by unfold cC at hc ⊢;omega
theorem mL(hs:fW h)(s:Int):mW h s=some (cC h s):=by
 unfold mW vM cC;rw[ZL,XW];by_cases h1:0<=s/\s<=23
 ·obtain⟨k,rfl⟩:=a89 h1.1;have hk:k/4<6:=aa
  have e1:((k:Int)/4)=((k/4:Nat):Int):=aa
  have hi:=aLE hs hk;have n1:¬((k/4:Nat):Int)<0:=aa
  simp only[h1,and_self,bV,aH,e1,n1,decide_false,bR,bN,hi,F8,true_and];grind[aUJ,i6]
 ·simp[h1]
theorem kD(hs:fW h)(s:Int):lC h s=some (cC h s):=by
 unfold lC D6 cC;rw[AM];by_cases h1:0<=s/\s<=23
 ·obtain⟨k,rfl⟩:=a89 h1.1;have hk:k/4<6:=aa
  have e1:((k:Int)/4)=((k/4:Nat):Int):=aa
  have hi:=aLE hs hk;have e2:bA (Int.tdiv (k:Int) 4)=((k/4:Nat):Int):=by grind[cO]
  simp only[h1,and_self,decide_true,hU,bR,bV,aH,e1,e2,bN,hi,F8,true_and,DF];by_cases h3:(k:Int) % 4<dN (cN h (k/4))
  ·have hm:=WG (c:=cN h (k/4)) aa h3;have hg:¬jR (k:Int) (cN h (k/4))<0:=by unfold jR;omega
   grind
  simp_all[jR,aO]
 ·simp[h1]
def nI(h:Heap)(s:Int):Int:=ld h.Bytes (jR s (cC h s)).toNat 4
theorem aAL(hc:0<=cC h s):0<=jR s (cC h s)/\jR s (cC h s)+4<=384:=by
 obtain⟨h1,h2,h3⟩:=SB hc;rw[h3];have hm:=WG (c:=cN h (s/4).toNat) aa h2;have hst:0<bJ (cN h (s/4).toNat):=by have:0<=cN h (s/4).toNat/\cN h (s/4).toNat<=2:=AL.1 aa;rcases BP this with e|e|e<;>rw[e]<;>decide
 have:4<=bJ (cN h (s/4).toNat):=by have:0<=cN h (s/4).toNat/\cN h (s/4).toNat<=2:=AL.1 aa;rcases BP this with e|e|e<;>rw[e]<;>decide
 unfold jR;omega
theorem rH(hs:fW h)(hc:0<=cC h s):yS h s=some (nI h s):=by have hg:=aAL hc;unfold yS;rw[mL hs];simp only[aH,xG];have l1:=AN hs.2.2.1 (a:=(jR s (cC h s)).toNat) (w:=4) aa (by have:=hs.1;omega) (by have:=hs.1;omega);rw[show((4:Nat):Int)=4 from rfl,Int.toNat_of_nonneg hg.1] at l1;rw[l1];rfl
theorem K3(hs:fW h)(hc:0<=cC h s):EW h s=some (nI h s):=by
 have hg:=aAL hc;have hm:h.Bytes.length<=maxLen:=by rw[hs.1];simp[maxLen]
 unfold EW HD;rw[P8 hm,kD hs];have l1:=wN hs.2.2.1 (a:=(jR s (cC h s)).toNat) (w:=4) aa (by have:=hs.1;omega) (by have:=hs.1;omega);grind[DF,nI]
def fY(l:List aZ):List Int:=l.flatMap aZ.aU
def gK(l:aD):List Int:=fY l.Global++fY l.Own
def LOk(l:aD):Prop:=l.Global.length=3/\l.Own.length=9/\(∀s∈l.Own,s.aU.length<=2)/\(∀x∈gK l,0<=x/\x<=23)/\(gK l).Nodup
instance (l:aD):Decidable (LOk l):=by unfold LOk;infer_instance
theorem U1{l:List aZ}(h:k<l.length):fY (l.take (k+1))=fY (l.take k)++l[k].aU:=by grind[fY,O0]
theorem aUL(l:List aZ)(k:Nat):(fY (l.take k)).length<=(fY l).length:=by grind[fY,aLX]
theorem aOO(l:List aZ)(h:k<l.length):l[k].aU.length<=(fY l).length:=by have h1:=aUL l (k+1);grind[U1]
theorem aCC{l:aD}(h:(gK l).length<=1073741824)(hg:l.Global.length<=maxLen)(ho:l.Own.length<=maxLen):O7 l=some (gK l):=by
 have hsum:(fY l.Global).length+(fY l.Own).length<=1073741824:=by grind[gK]
 unfold O7;have k1:loop (CQ l) ([],0)=some (fY l.Global):=by
  refine fV (f:=CQ l) l.Global.length (λk=>(fY (l.Global.take k),(k:Int))) _ (λk hk=>?_) ?_
  ·have h1:=aUL l.Global (k+1);rw[U1 hk] at h1;simp only[CQ];rw[cQ,aT hk];grind[cE,U1,mU]
  grind[CQ]
 rw[k1];simp only[aH,aBQ,aBP];have k2:loop (CP l) (fY l.Global,0)=some (gK l):=by
  have:=fV (f:=CP l) l.Own.length (λk=>(fY l.Global++fY (l.Own.take k),(k:Int))) (gK l) (λk hk=>?_) ?_
  ·grind[fY]
  ·have h1:=aUL l.Own (k+1);rw[U1 hk] at h1;simp only[CP];rw[cQ,aT hk];grind[cE,U1,mU]
  grind[CP,gK]
 rw[k2];rfl
theorem DG{l:List Int}(hl:l.length<=maxLen)(x:Int):yT l x=some (decide (x∈l)):=by
 unfold yT;have key:loop (wV l x) 0=some (if ∀y∈l,y≠x then Out.brk () else Out.ret true):=by
  refine kW (f:=wV l x) l (λk=>(k:Int)) (λy=>y≠x) _ _ (λk h hp=>?_) (λk h hp=>?_) ?_
  ·simp only[wV];rw[cQ,aT h,mU (O3 h hl)];have:(l[k] == x)=false:=by simpa using hp
   simp only[aH,this,bR,bN]
  ·simp only[wV];rw[cQ,aT h];have:(l[k] == x)=true:=by simpa using hp
   simp only[aH,this,bV]
  ·simp[wV]
 rw[key];by_cases h:x∈l
 ·rw[aO (λq=>q x h rfl),bY h];rfl
 ·rw[aM (λy hy (e:y=x)=>h (e ▸ hy)),dU h];rfl
theorem J0(l:List Int):l.Nodup↔∀k (h:k<l.length),l[k]∉l.take k:=by grind[List.pairwise_iff_getElem,List.mem_take_iff_getElem]
theorem aKJ{l:aD}(h:(gK l).length<=1073741824):NZ l=some (decide (LOk l)):=by
 unfold NZ DW;by_cases hg:l.Global.length=3
 ·by_cases ho:l.Own.length=9
  ·have n1:((l.Global.length:Int) != 3)=false:=ah
   have n2:((l.Own.length:Int) != 9)=false:=ah
   simp only[n1,n2,bR,bN];have k1:loop (pG l) 0=some (if ∀s∈l.Own,s.aU.length<=2 then Out.brk () else Out.ret false):=by
    refine kW (f:=pG l) l.Own (λk=>(k:Int)) (λs=>s.aU.length<=2) _ _ (λk hk hp=>?_) (λk hk hp=>?_) ?_
    ·simp only[pG];rw[cQ,aT hk,cR];simp only[aH];rw[rK];rfl
    ·simp only[pG];rw[cQ,aT hk];simp only[aH];rw[cQ]
    ·simp[pG]
   rw[k1];by_cases h2:∀s∈l.Own,s.aU.length<=2
   ·rw[aM h2];simp only[aH,XA,W9];rw[aCC h (by rw[hg];simp[maxLen]) (by rw[ho];simp[maxLen])];simp only[aH];have k2:loop (pE (gK l)) 0=some (if ∀k,k<(gK l).length->(0<=(gK l).getD k 0/\(gK l).getD k 0<=23)/\(gK l).getD k 0∉(gK l).take k then Out.brk () else Out.ret false):=by
     have hst:∀k,k<(gK l).length->pE (gK l) (k:Int)=if(0<=(gK l).getD k 0/\(gK l).getD k 0<=23)/\(gK l).getD k 0∉(gK l).take k then some (.next ((k+1:Nat):Int)) else some (.stop (Out.ret false)):=by
      intro k hk;have e:(gK l).getD k 0=(gK l)[k]:=by rw[TW,lH hk];rfl
      rw[e];simp only[pE];rw[cQ,aT hk];simp only[aH,cM,DV];by_cases q:0<=(gK l)[k]/\(gK l)[k]<=23
      ·rw[bY q];simp only[hU,bR,bN,F8,TU];rw[SA,DG (by simp[maxLen];omega),cR];by_cases q2:(gK l)[k]∈(gK l).take k
       ·rw[aO (λx=>x.2 q2),bY q2];rfl
       ·rw[aM ⟨q,q2⟩,dU q2];rfl
      ·rw[dU q];simp only[I0,bV];rw[aO (λx=>q x.1)]
     refine AJ (f:=pE (gK l)) (gK l).length (λk=>(k:Int)) (λk=>(0<=(gK l).getD k 0/\(gK l).getD k 0<=23)/\(gK l).getD k 0∉(gK l).take k) _ _ (λk hk hx=>?_) (λk hk hx=>?_) ?_
     ·rw[hst k hk,aM hx]
     ·rw[hst k hk,aO hx]
     ·simp[pE]
    rw[k2];have hiff:LOk l↔∀k,k<(gK l).length->(0<=(gK l).getD k 0/\(gK l).getD k 0<=23)/\(gK l).getD k 0∉(gK l).take k:=by
     have e:∀k (hk:k<(gK l).length),(gK l).getD k 0=(gK l)[k]:=λk hk=>aj
     constructor
     ·rintro⟨_,_,_,q1,q2⟩ k hk;rw[e k hk];exact⟨q1 _ (cK hk),(J0 _).1 q2 k hk⟩
     ·intro q;refine⟨hg,ho,h2,λx hx=>?_,(J0 _).2 λk hk=>?_⟩
      ·obtain⟨k,hk,rfl⟩:=aBK.1 hx;have:=(q k hk).1;rw[e k hk] at this;exact this
      ·have:=(q k hk).2;rw[e k hk] at this;exact this
    by_cases q:LOk l
    ·rw[aM (hiff.1 q),bY q];rfl
    ·rw[aO (λx=>q (hiff.2 x)),dU q];rfl
   ·rw[aO h2,dU (λq:LOk l=>h2 q.2.2.1)];rfl
  ·have n1:((l.Global.length:Int) != 3)=false:=ah
   have n2:((l.Own.length:Int) != 9)=true:=ah
   simp_all[LOk]
 ·have n1:((l.Global.length:Int) != 3)=true:=ah
  simp_all[LOk]
def DH:List Bool->List Int->Option (List Bool)
 |met,[]=>some met
 |met,x::r=>if(0<=x/\x<=23)/\met.getD x.toNat true=false then DH (met.set x.toNat true) r else none
theorem aSL:∀{xs:List Int} {met m:List Bool},DH met xs=some m->m.length=met.length
 |[],met,m,h=>by grind[DH]
 |x::r,met,m,h=>by
  simp only[DH] at h;split at h
  ·have:=aSL h;grind
  ·cases h
theorem aFH:∀(a b:List Int) (met:List Bool),DH met (a++b)=(DH met a).bind λm=>DH m b
 |[],b,met=>rfl
 |x::r,b,met=>by
  simp only[aBH,DH];split
  ·exact aFH r b _
  ·rfl
theorem aDC:∀(xs:List Int) (met:List Bool),met.length=24->((DH met xs).isSome=true↔(∀x∈xs,0<=x/\x<=23)/\xs.Nodup/\∀x∈xs,met.getD x.toNat true=false)
 |[],met,hm=>by simp[DH]
 |x::r,met,hm=>by
  simp only[DH];by_cases h:(0<=x/\x<=23)/\met.getD x.toNat true=false
  ·rw[aM h,aDC r _ aj];grind
  grind
def aUM:Option (List Bool)->Out (List Bool) Bool
 |some m=>.brk m
 |none=>.ret false
theorem bG1{s:aZ}(hl:s.aU.length<=maxLen):∀d k (met:List Bool),k+d=s.aU.length->met.length=24->loop (vY s) ((k:Int),met)=some (aUM (DH met (s.aU.drop k))):=by
 intro d;induction d with
 |zero=>
  intro k met hk hm;rw[bG (r:=Out.brk met) (by grind[vY]),List.drop_eq_nil_of_le aa];rfl
 |succ d ih=>
  intro k met hk hm;have hk':k<s.aU.length:=aa
  have hd:s.aU.drop k=s.aU[k]::s.aU.drop (k+1):=FE hk';have hst:vY s ((k:Int),met)=if(0<=s.aU[k]/\s.aU[k]<=23)/\met.getD s.aU[k].toNat true=false then some (.next (((k+1:Nat):Int),met.set s.aU[k].toNat true)) else some (.stop (Out.ret false)):=by
   simp only[vY];rw[cQ,aT hk'];simp only[aH,AM];generalize s.aU[k]=x;by_cases q:0<=x/\x<=23
   ·obtain⟨j,rfl⟩:=a89 q.1;have hj:j<met.length:=aa
    have e:met.getD j true=met[j]:=aj
    simp only[q,and_self,decide_true,hU,bR,bN,vX,F8,true_and,e];rw[SA,aT hj];simp only[aH];cases met[j]
    ·simp only[bR,bN,bV];grind[cE,mU]
    ·simp
   ·rw[dU q];simp only[I0,bV,vX];grind
  rw[hd,DH];by_cases q:(0<=s.aU[k]/\s.aU[k]<=23)/\met.getD s.aU[k].toNat true=false
  ·rw[aM q] at hst ⊢;grind[bW]
  ·rw[aO q] at hst ⊢;rw[bG hst];rfl
def aIB(l:List aZ):Prop:=∀s∈l,s.aU.length<=2
instance (l:List aZ):Decidable (aIB l):=by unfold aIB;infer_instance
theorem bG2{l:aD}(ho:l.Own.length=9)(hn:(l.Own++l.Global).length<=1000)(hs:∀s∈l.Own++l.Global,s.aU.length<=maxLen):∀d k (met:List Bool),k+d=(l.Own++l.Global).length->met.length=24 ->
  loop (vZ l) ((k:Int),met)=some (if aIB (((l.Own++l.Global).drop k).take (9-k))/\(DH met (fY ((l.Own++l.Global).drop k))).isSome=true then Out.brk () else Out.ret false):=by
 intro d;induction d with
 |zero=>
  intro k met hk hm;rw[List.drop_eq_nil_of_le aa,aM ⟨by simp[aIB],rfl⟩];simp_all[bG,vZ]
 |succ d ih=>
  intro k met hk hm;have hk':k<(l.Own++l.Global).length:=aa
  have hd:(l.Own++l.Global).drop k=(l.Own++l.Global)[k]::(l.Own++l.Global).drop (k+1):=FE hk';have hsk:=hs _ (cK hk');have hf:fY ((l.Own++l.Global).drop k)=(l.Own++l.Global)[k].aU++fY ((l.Own++l.Global).drop (k+1)):=by grind[fY]
  have hin:∀b:Bool,pI (k:Int) met (l.Own++l.Global)[k] b=if b then some (.stop (Out.ret false)) else(match DH met (l.Own++l.Global)[k].aU with|some m=>some (.next (((k+1:Nat):Int),m))|none=>some (.stop (Out.ret false))):=by
   intro b;have h4:=bG1 hsk _ 0 met (aBM _) hm;rw[show((0:Nat):Int)=0 from rfl,TU] at h4;unfold pI;rw[h4];cases b
   ·simp only[bR,bN,aH];cases DH met (l.Own++l.Global)[k].aU with
    |none=>rfl
    |some m=>simp only[aUM,XC,XB];rw[cR];rfl
   ·rfl
  have hst:vZ l ((k:Int),met)=pI (k:Int) met (l.Own++l.Global)[k] (decide (k<9/\2<(l.Own++l.Global)[k].aU.length)):=by
   simp only[vZ];rw[aM aj,aT hk'];simp only[aH];by_cases h9:k<9
   ·rw[cQ];congr 1
    (simp_all;omega)
   grind
  rw[hin] at hst;by_cases h2:k<9/\2<(l.Own++l.Global)[k].aU.length
  ·rw[bY h2] at hst;simp only[bV] at hst;rw[bG hst,aO];rintro⟨q,_⟩;have e:9-k=(9-(k+1))+1:=aa
   rw[hd,e,List.take_succ_cons] at q;have:=q _ List.mem_cons_self;omega
  ·rw[dU h2] at hst;simp only[bR,bN] at hst;have hcond:aIB (((l.Own++l.Global).drop k).take (9-k))↔aIB (((l.Own++l.Global).drop (k+1)).take (9-(k+1))):=by
    unfold aIB;by_cases h9:k<9
    ·have e:9-k=(9-(k+1))+1:=aa
     simp_all
    ·have e:9-k=0:=aa
     have e':9-(k+1)=0:=aa
     simp_all
   rw[hf,aFH];cases hg:DH met (l.Own++l.Global)[k].aU with
   |none=>
    simp_all[bG]
   |some m=>
    rw[hg] at hst;rw[bW hst,ih (k+1) m aa (by grind[aSL])];simp_all
theorem XX{l:aD}(h:(gK l).length<=1073741824):qE l=some (decide (LOk l)):=by
 unfold qE D2;by_cases hg:l.Global.length=3
 ·by_cases ho:l.Own.length=9
  ·have n1:((l.Global.length:Int) != 3)=false:=ah
   have n2:((l.Own.length:Int) != 9)=false:=ah
   simp only[n1,n2,bR,bN];rw[SA];have hsl:∀s∈l.Own++l.Global,s.aU.length<=maxLen:=by grind[gK,maxLen,aBK,aOO]
   have key:=bG2 ho ah hsl (l.Own++l.Global).length 0 (List.replicate 24 false) aa rfl;rw[show((0:Nat):Int)=0 from rfl,TU,Nat.sub_zero] at key;rw[key];have et:(l.Own++l.Global).take 9=l.Own:=aj
   have ef:fY (l.Own++l.Global)=fY l.Own++fY l.Global:=by simp[fY]
   have hm0:∀j:Nat,j<24->(List.replicate 24 false).getD j true=false:=ai
   have hiff:LOk l↔aIB ((l.Own++l.Global).take 9)/\(DH (List.replicate 24 false) (fY (l.Own++l.Global))).isSome=true:=by
    rw[aDC _ _ rfl,et,ef];have hp:(fY l.Own++fY l.Global).Perm (gK l):=List.perm_append_comm;constructor
    ·rintro⟨_,_,q1,q2,q3⟩;exact⟨q1,λx hx=>q2 x (hp.mem_iff.1 hx),hp.nodup_iff.2 q3,λx hx=>hm0 _ aj⟩
    ·rintro⟨q1,q2,q3,_⟩;exact⟨hg,ho,q1,λx hx=>q2 x (hp.mem_iff.2 hx),hp.nodup_iff.1 q3⟩
   by_cases q:LOk l
   ·rw[aM (hiff.1 q),bY q];rfl
   ·rw[aO (λx=>q (hiff.2 x)),dU q];rfl
  ·have n1:((l.Global.length:Int) != 3)=false:=ah
   have n2:((l.Own.length:Int) != 9)=true:=ah
   simp_all[LOk]
 ·have n1:((l.Global.length:Int) != 3)=true:=ah
  simp_all[LOk]
def IT(h:Heap)(l:List Int)(c:Int):Prop:=∀x∈l,cC h x=c/\nI h x<=6
instance (h:Heap) (l:List Int) (c:Int):Decidable (IT h l c):=by unfold IT;infer_instance
theorem U2(hs:fW h){l:List Int}(hl:l.length<=maxLen)(hc:0<=c):CT h l c=some (decide (IT h l c)):=by
 unfold CT;have key:loop (nD h l c) 0=some (if ∀x∈l,cC h x=c/\nI h x<=6 then Out.brk () else Out.ret false):=by
  have hst:∀k (hk:k<l.length),nD h l c (k:Int)=if cC h l[k]=c/\nI h l[k]<=6 then some (.next ((k+1:Nat):Int)) else some (.stop (Out.ret false)):=by
   intro k hk;simp only[nD];rw[cQ,aT hk];generalize l[k]=x;simp only[aH,mL hs,A6];by_cases q:cC h x=c
   ·have n1:(cC h x != c)=false:=by simp only[bne_eq_false_iff_eq];exact q
    simp only[n1,bR,bN,rH hs (show 0<=cC h x by omega),aH,mU (O3 hk hl)];by_cases q2:nI h x<=6
    ·rw[rK,aM ⟨q,q2⟩]
    ·rw[cQ,aO (λx=>q2 x.2)]
   ·have n1:(cC h x != c)=true:=by simp only[bne_iff_ne];exact q
    simp only[n1,bV];rw[aO (λx=>q x.1)]
  refine kW (f:=nD h l c) l (λk=>(k:Int)) (λx=>cC h x=c/\nI h x<=6) _ _ (λk hk hp=>?_) (λk hk hp=>?_) ?_
  ·rw[hst k hk,aM hp]
  ·rw[hst k hk,aO hp]
  ·simp[nD]
 rw[key];by_cases q:∀x∈l,cC h x=c/\nI h x<=6
 ·rw[aM q,bY (show IT h l c from q)];rfl
 ·rw[aO q,dU (show ¬IT h l c from q)];rfl
theorem U3(hs:fW h){s:aZ}(hl:s.aU.length<=maxLen)(hc:0<=c):C4 h s c=some (decide (IT h s.aU c)):=by
 unfold C4;have key:loop (nF h s c) 0=some (if ∀x∈s.aU,cC h x=c/\nI h x<=6 then Out.brk () else Out.ret false):=by
  have hst:∀k (hk:k<s.aU.length),nF h s c (k:Int)=if cC h s.aU[k]=c/\nI h s.aU[k]<=6 then some (.next ((k+1:Nat):Int)) else some (.stop (Out.ret false)):=by
   intro k hk;simp only[nF];rw[cQ,aT hk];generalize s.aU[k]=x;simp only[aH,kD hs,BI];by_cases q:cC h x=c
   ·have n1:(cC h x != c)=false:=by simp only[bne_eq_false_iff_eq];exact q
    simp only[n1,bR,bN,K3 hs (show 0<=cC h x by omega),aH,mU (O3 hk hl)];by_cases q2:nI h x<=6
    ·rw[rK,aM ⟨q,q2⟩]
    ·rw[cQ,aO (λx=>q2 x.2)]
   ·have n1:(cC h x != c)=true:=by simp only[bne_iff_ne];exact q
    simp only[n1,bV];rw[aO (λx=>q x.1)]
  refine kW (f:=nF h s c) s.aU (λk=>(k:Int)) (λx=>cC h x=c/\nI h x<=6) _ _ (λk hk hp=>?_) (λk hk hp=>?_) ?_
  ·rw[hst k hk,aM hp]
  ·rw[hst k hk,aO hp]
  ·simp[nF]
 rw[key];by_cases q:∀x∈s.aU,cC h x=c/\nI h x<=6
 ·rw[aM q,bY (show IT h s.aU c from q)];rfl
 ·rw[aO q,dU (show ¬IT h s.aU c from q)];rfl
def iD(l:List aZ)(k:Nat):List Int:=(l.getD k ⟨[]⟩).aU
theorem fB{l:List aZ}(h:k<l.length):l[k].aU=iD l k:=by grind[iD]
def TE(m:Mem)(k:Nat):Prop:=IT m.Heap (iD m.aD.Global k) (k:Int)
def I5(m:Mem)(k:Nat):Prop:=IT m.Heap (iD m.aD.Own k) ((k % 3:Nat):Int)
instance (m:Mem) (k:Nat):Decidable (TE m k):=by unfold TE;infer_instance
instance (m:Mem) (k:Nat):Decidable (I5 m k):=by unfold I5;infer_instance
instance (m:Mem):Decidable (∀k,k<3->TE m k):=Nat.decidableBallLT 3 λk _=>TE m k
instance (m:Mem):Decidable (∀k,k<9->I5 m k):=Nat.decidableBallLT 9 λk _=>I5 m k
instance (m:Mem) (c:Nat):Decidable (∀w,w<3->I5 m (w*3+c)):=Nat.decidableBallLT 3 λw _=>I5 m (w*3+c)
instance (m:Mem):Decidable (∀k,k<3->TE m k/\∀w,w<3->I5 m (w*3+k)):=Nat.decidableBallLT 3 λk _=>TE m k/\∀w,w<3->I5 m (w*3+k)
def oP(m:Mem):Prop:=(HOk m.Heap/\LOk m.aD)/\(∀k,k<3->TE m k)/\∀k,k<9->I5 m k
instance (m:Mem):Decidable (oP m):=by unfold oP;infer_instance
theorem LOk.aIC{l:aD}(h:LOk l)(hb:(gK l).length<=1073741824):(∀s∈l.Global,s.aU.length<=1073741824)/\∀s∈l.Own,s.aU.length<=1073741824:=by grind[gK,aBK,aOO]
theorem a1R:(∀k,k<3->TE m k/\∀w,w<3->I5 m (w*3+k))↔(∀k,k<3->TE m k)/\∀k,k<9->I5 m k:=by
 constructor
 ·intro h;refine⟨λk hk=>(h k hk).1,λk hk=>?_⟩;have:=(h (k % 3) aa).2 (k/3) aa;grind
 grind
theorem K4(hb:m.Heap.Bytes.length<=maxLen)(hl:(gK m.aD).length<=1073741824):EU m=some (decide (oP m)):=by
 unfold EU KG;rw[aON hb,aKJ hl];by_cases h1:HOk m.Heap
 ·by_cases h2:LOk m.aD
  ·have hmx:(1073741824:Nat)<=maxLen:=by simp[maxLen]
   have hsl:=LOk.aIC h2 hl;simp only[bY h1,bY h2,aH,hU,bR,bN];have k3:∀c:Nat,c<3->loop (CU m (c:Int)) 0=some (if ∀w,w<3->I5 m (w*3+c) then Out.brk () else Out.ret false):=by
    intro c hc;have hst:∀w:Nat,w<3->CU m (c:Int) (w:Int)=if I5 m (w*3+c) then some (.next ((w+1:Nat):Int)) else some (.stop (Out.ret false)):=by
     intro w hw;have hk:w*3+c<m.aD.Own.length:=by rw[h2.2.1];omega
     have e:yO (w:Int) (c:Int)=some ((w*3+c:Nat):Int):=by unfold yO CM;rw[cM,cM,bY aa,bY aa];simp only[aH,hU,bR,bN];grind[cO]
     have hlen:=hsl.2 _ (cK hk);simp only[CU];rw[cQ,e];simp only[aH,aT hk];rw[U2 h1.1 aa aa,fB hk];have em:(w*3+c) % 3=c:=aa
     have ho:I5 m (w*3+c)↔IT m.Heap (iD m.aD.Own (w*3+c)) (c:Int):=by grind[I5]
     rw[cR];grind
    refine AJ (f:=CU m (c:Int)) 3 (λk=>(k:Int)) (λw=>I5 m (w*3+c)) _ _ (λk hk hx=>?_) (λk hk hx=>?_) ?_
    ·grind
    ·grind
    ·rfl
   have k2:loop (CV m) 0=some (if ∀k,k<3->TE m k/\∀w,w<3->I5 m (w*3+k) then Out.brk () else Out.ret false):=by
    have hst:∀c:Nat,c<3->CV m (c:Int)=if TE m c/\∀w,w<3->I5 m (w*3+c) then some (.next ((c+1:Nat):Int)) else some (.stop (Out.ret false)):=by
     intro c hc;have hk:c<m.aD.Global.length:=by rw[h2.1];omega
     have hlen:=hsl.1 _ (cK hk);simp only[CV];rw[cQ];simp only[aH,aT hk];rw[U2 h1.1 aa aa,fB hk,k3 c hc];by_cases q:TE m c
     ·have q':IT m.Heap (iD m.aD.Global c) (c:Int):=q;rw[bY q'];simp only[aH,hU,bR,bN];by_cases q2:∀w,w<3->I5 m (w*3+c)
      ·rw[aM q2,aM ⟨q,q2⟩];simp only[aBS,aBR];grind[cO]
      ·rw[aO q2,aO (λx=>q2 x.2)];rfl
     ·have q':¬IT m.Heap (iD m.aD.Global c) (c:Int):=q;grind
    refine AJ (f:=CV m) 3 (λk=>(k:Int)) (λk=>TE m k/\∀w,w<3->I5 m (w*3+k)) _ _ (λk hk hx=>?_) (λk hk hx=>?_) ?_
    ·grind
    ·grind
    ·rfl
   rw[k2];by_cases q:∀k,k<3->TE m k/\∀w,w<3->I5 m (w*3+k)
   ·rw[aM q,bY (show oP m from⟨⟨h1,h2⟩,a1R.1 q⟩)];rfl
   ·rw[aO q,dU (λx:oP m=>q (a1R.2 x.2))];rfl
  grind[oP]
 grind[oP]
theorem K5(hb:m.Heap.Bytes.length<=maxLen)(hl:(gK m.aD).length<=1073741824):E6 m=some (decide (oP m)):=by
 unfold E6 KO;rw[P9 hb,XX hl];by_cases h1:HOk m.Heap
 ·by_cases h2:LOk m.aD
  ·have hmx:(1073741824:Nat)<=maxLen:=by simp[maxLen]
   have hsl:=LOk.aIC h2 hl;simp only[bY h1,bY h2,aH,hU,bR,bN];have k3:loop (xC m) 0=some (if ∀k,k<9->I5 m k then Out.brk () else Out.ret false):=by
    have hst:∀w:Nat,w<9->xC m (w:Int)=if I5 m w then some (.next ((w+1:Nat):Int)) else some (.stop (Out.ret false)):=by
     intro w hw;have hk:w<m.aD.Own.length:=by rw[h2.2.1];omega
     have hlen:=hsl.2 _ (cK hk);have em:Int.tmod (w:Int) 3=((w % 3:Nat):Int):=aj
     simp only[xC];rw[cQ];simp only[aH,aT hk,em];rw[U3 h1.1 aa aa,fB hk,cR];by_cases q:I5 m w
     ·rw[aM q,bY (show IT m.Heap (iD m.aD.Own w) ((w % 3:Nat):Int) from q)];rfl
     ·rw[aO q,dU (show ¬IT m.Heap (iD m.aD.Own w) ((w % 3:Nat):Int) from q)];rfl
    refine AJ (f:=xC m) 9 (λk=>(k:Int)) (λw=>I5 m w) _ _ (λk hk hx=>?_) (λk hk hx=>?_) ?_
    ·grind
    ·grind
    ·simp[xC,h2.2.1]
   have k2:loop (xD m) 0=some (if ∀k,k<3->TE m k then Out.brk () else Out.ret false):=by
    have hst:∀w:Nat,w<3->xD m (w:Int)=if TE m w then some (.next ((w+1:Nat):Int)) else some (.stop (Out.ret false)):=by
     intro w hw;have hk:w<m.aD.Global.length:=by rw[h2.1];omega
     have hlen:=hsl.1 _ (cK hk);simp only[xD];rw[cQ];simp only[aH,aT hk];rw[U3 h1.1 aa aa,fB hk,cR];by_cases q:TE m w
     ·rw[aM q,bY (show IT m.Heap (iD m.aD.Global w) (w:Int) from q)];rfl
     ·rw[aO q,dU (show ¬IT m.Heap (iD m.aD.Global w) (w:Int) from q)];rfl
    refine AJ (f:=xD m) 3 (λk=>(k:Int)) (λw=>TE m w) _ _ (λk hk hx=>?_) (λk hk hx=>?_) ?_
    ·grind
    ·grind
    ·simp[xD,h2.1]
   rw[k2];by_cases q:∀k,k<3->TE m k
   ·rw[aM q];simp only[aH,aBU,aBT];rw[k3];by_cases q2:∀k,k<9->I5 m k
    ·rw[aM q2,bY (show oP m from⟨⟨h1,h2⟩,q,q2⟩)];rfl
    ·rw[aO q2,dU (λx:oP m=>q2 x.2.2)];rfl
   ·rw[aO q,dU (λx:oP m=>q x.2.1)];rfl
  grind[oP]
 grind[oP]
theorem LU{l:List aZ}{s:aZ}(h:s∈l):s.aU.length<=(fY l).length:=by grind[aBK,aOO]
theorem wO(l:aD):(gK l).length=(fY l.Global).length+(fY l.Own).length:=by simp[gK]
def FC(m:Mem):Prop:=m.Heap.Bytes.length<=1048576/\m.Heap.Class.length<=1048576/\m.aD.Global.length<=1048576/\m.aD.Own.length<=1048576/\(gK m.aD).length<=1048576
theorem FC.aIC(h:FC m):(∀s∈m.aD.Global,s.aU.length<=1048576)/\∀s∈m.aD.Own,s.aU.length<=1048576:=by have:=wO m.aD;have h5:=h.2.2.2.2;exact⟨λs hm=>by have:=LU hm;omega,λs hm=>by have:=LU hm;omega⟩
def POk(e:Int)(p:yK):Prop:=(0<=p.aP/\p.aP<=e)/\(0<=p.Seen/\p.Seen<=2)/\(p.On=false->p=⟨false,0,false,0⟩)
instance (e:Int) (p:yK):Decidable (POk e p):=by unfold POk;infer_instance
def XY(c:aJ):Prop:=(0<=c.aP/\c.aP<=100000)/\c.b8.length=3/\∀p∈c.b8,POk c.aP p
instance (c:aJ):Decidable (XY c):=by unfold XY;infer_instance
theorem i7(c:aJ):pX c=some (decide (XY c)):=by
 unfold pX;rw[cM];by_cases h1:0<=c.aP/\c.aP<=100000
 ·by_cases h2:c.b8.length=3
  ·simp only[aH,h1,h2,o7];have key:∀k:Nat,k<=3->loop (vP c) (k:Int)=some (if ∀p∈c.b8.drop k,POk c.aP p then Out.brk () else Out.ret false):=by
    refine aS6 3 _ λk hk=>?_;by_cases h3:k<3
    ·have hd:c.b8.drop k=c.b8[k]::c.b8.drop (k+1):=FE aa;simp only[vP];rw[cQ,TD];simp only[aH,cM,mE,hd];rw[mU (by simp[maxLen];omega)];generalize c.b8[k]=p;have hp:POk c.aP p↔decide (0<=p.aP/\p.aP<=c.aP)=true/\decide (0<=p.Seen/\p.Seen<=2)=true/\(p.On=false->decide (p=⟨false,0,false,0⟩)=true):=by simp only[POk,decide_eq_true_eq]
     simp only[List.forall_mem_cons,hp];generalize decide (0<=p.aP/\p.aP<=c.aP)=b1;generalize decide (0<=p.Seen/\p.Seen<=2)=b2;generalize decide (p=⟨false,0,false,0⟩)=b3;generalize p.On=b4;cases b1<;>cases b2<;>cases b3<;>cases b4<;>simp[h3]
    ·left;obtain rfl:k=3:=aa
     simp[vP,List.drop_eq_nil_of_le (show c.b8.length<=3 by omega)]
   have:=key 0 aa;simp only[Int.ofNat_zero,TU] at this;have e:decide (XY c)=if ∀p∈c.b8,POk c.aP p then true else false:=by have:XY c↔∀p∈c.b8,POk c.aP p:=⟨λh=>h.2.2,λh=>⟨h1,h2,h⟩⟩;simp[this]
   rw[e];simp only[Int.cast_ofNat_Int] at *;have t0:loop (vP c) 0=_:=this;by_cases h5:∀p∈c.b8,POk c.aP p
   ·rw[aM h5] at t0 ⊢;rw[t0];simp[L7,W4]
   ·rw[aO h5] at t0 ⊢;rw[t0];simp[L7]
  grind[o7,XY]
 grind[o7,XY]
theorem aWS(p:yK)(c:aJ):zJ p c=some (!decide (POk c.aP p)):=by
 unfold zJ l6;rw[dO,dO];have hp:decide (POk c.aP p)=(decide (0<=p.aP/\p.aP<=c.aP) && (decide (0<=p.Seen/\p.Seen<=2) && (p.On || decide (p=⟨false,0,false,0⟩)))):=by rw[K7];simp only[POk,decide_eq_true_eq,FX,Bool.or_eq_true];grind
 grind
theorem aUN{l:List yK}(hl:l.length<=maxLen)(f:yK->Bool):l5 l (λx=>some (f x))=some (l.any f):=by
 unfold l5 zI;have key:∀k:Nat,k<=l.length->loop (jL l (λx=>some (f x))) (k:Int)=some (if(l.drop k).any f then Out.ret ((k+(l.drop k).findIdx f:Nat):Int) else Out.brk ()):=by
  refine aS6 l.length _ λk hk=>?_;by_cases h3:k<l.length
  ·have hd:l.drop k=l[k]::l.drop (k+1):=FE h3;simp only[jL];rw[cQ,aT h3,mU (O3 h3 hl),hd];grind
  grind[jL]
 have t0:loop (jL l (λx=>some (f x))) 0=_:=key 0 aa;rw[t0];simp only[TU];by_cases h:l.any f=true
 ·simp[h,sS]
 grind[sS,FO]
theorem wP{c:aJ}(hc:c.b8.length<=maxLen):qI c=some (decide (XY c)):=by
 unfold qI wB;rw[dO];have e:(λy0=>zJ y0 c)=λy0=>some (!decide (POk c.aP y0)):=funext λy=>aWS y c;rw[e,aUN hc];by_cases h1:0<=c.aP/\c.aP<=100000
 ·by_cases h2:c.b8.length=3
  ·have:XY c↔∀p∈c.b8,POk c.aP p:=⟨λh=>h.2.2,λh=>⟨h1,h2,h⟩⟩;grind
  grind[XY]
 grind[XY]
def cS(l:List bM):List dW:=l.flatMap bM.Rows
theorem QA(h:k<l.length):cS (l.take (k+1))=cS (l.take k)++l[k].Rows:=by grind[cS,O0]
theorem aOP(l:List bM)(k:Nat):(cS (l.take k)).length<=(cS l).length:=by grind[cS,aLX]
theorem a23(l:List bM)(h:k<l.length):l[k].Rows.length<=(cS l).length:=by have h1:=aOP l (k+1);grind[QA]
theorem aAM{s:bM}(h:s∈l):s.Rows.length<=(cS l).length:=by grind[aBK,a23]
theorem QB(h:(cS l).length<=1073741824)(hl:l.length<=maxLen):FI l=some (cS l):=by
 unfold FI;have k1:loop (yU l) ([],0)=some (cS l):=by
  refine fV (f:=yU l) l.length (λk=>(cS (l.take k),(k:Int))) _ (λk hk=>?_) ?_
  ·have h1:=aOP l (k+1);rw[QA hk] at h1;simp only[yU];rw[cQ,aT hk];grind[cE,QA,mU]
  grind[yU]
 rw[k1];rfl
def kX(h:Int):Prop:=(32<=h/\h<=223)/\h % 32<24
instance (h:Int):Decidable (kX h):=by unfold kX;infer_instance
theorem fO(h:Int):gO h=some (decide (kX h)):=by grind[gO,AY,kX,cM,AK]
theorem g7(h:Int):iJ h=some (decide (kX h)):=by grind[iJ,BA,kX,dO,AK]
theorem kX.mod{h:Int}(q:kX h):Int.tmod h 32=h % 32/\0<=h % 32/\h % 32<=23:=by grind[kX]
theorem eF(h:Int):eO h=some (if kX h then h % 32 else -1):=by grind[eO,fO,kX]
def FV(r:dW):Prop:=kX r.Handle/\0<=r.aP/\r.aP<=100000
instance (r:dW):Decidable (FV r):=by unfold FV;infer_instance
def oQ(r:dW):Int:=r.Handle % 32
def tX(l:List bM):Prop:=l.length=3/\(cS l).length<=24/\(∀r∈cS l,FV r)/\((cS l).map oQ).Nodup
instance (l:List bM):Decidable (tX l):=by unfold tX;infer_instance
def rowAt(l:List dW)(k:Nat):dW:=l.getD k ⟨0,0⟩
theorem aAN{l:List dW}(h:k<l.length):rowAt l k=l[k]:=by grind[rowAt]
theorem aKK(h:(cS l).length<=1073741824)(hl:l.length<=maxLen):OM l=some (decide (tX l)):=by
 unfold OM EJ;rw[QB h hl];simp only[aH];by_cases h3:l.length=3
 ·have n1:((l.length:Int) != 3)=false:=ah
  simp only[n1,bR,bN];by_cases h24:(cS l).length<=24
  ·rw[rK];have hst:∀k,k<(cS l).length->wI (cS l) (((cS l).take k).map oQ,(k:Int))=if FV (rowAt (cS l) k)/\oQ (rowAt (cS l) k)∉((cS l).take k).map oQ then some (.next (((cS l).take (k+1)).map oQ,((k+1:Nat):Int))) else some (.stop (Out.ret false)):=by
    intro k hk;simp only[wI,wH];rw[cQ,aT hk,aAN hk];simp only[aH,eF,cM];by_cases q:kX (cS l)[k].Handle
    ·have hm:=q.mod;rw[aM q,rK];by_cases q2:0<=(cS l)[k].aP/\(cS l)[k].aP<=100000
     ·rw[bY q2];simp only[hU,bR,bN];rw[DG (by grind[maxLen])];simp only[aH];by_cases q3:(cS l)[k].Handle % 32∈((cS l).take k).map oQ
      ·simp_all[oQ]
      ·rw[dU q3];simp only[bR,bN];rw[aM (show FV (cS l)[k]/\oQ (cS l)[k]∉((cS l).take k).map oQ from⟨⟨q,q2⟩,q3⟩),DE,cR,map_take _ hk];rfl
     ·rw[dU q2];simp only[I0,bV];rw[aO (λx:FV _/\_=>q2 x.1.2)]
    simp_all[FV]
   have key:=AJ (f:=wI (cS l)) (cS l).length (λk=>(((cS l).take k).map oQ,(k:Int))) (λk=>FV (rowAt (cS l) k)/\oQ (rowAt (cS l) k)∉((cS l).take k).map oQ) (Out.brk ()) (Out.ret false) (λk hk hx=>aj) (λk hk hx=>aj) (by simp[wI]);rw[List.take_zero,List.map_nil,show((0:Nat):Int)=0 from rfl] at key;rw[key];have hiff:tX l↔∀k,k<(cS l).length->FV (rowAt (cS l) k)/\oQ (rowAt (cS l) k)∉((cS l).take k).map oQ:=by
    constructor
    ·rintro⟨_,_,q1,q2⟩ k hk;grind[aAN,J0,List.map_take]
    ·intro q;refine⟨h3,h24,λx hx=>?_,(J0 _).2 λk hk=>?_⟩
     ·obtain⟨k,hk,rfl⟩:=aBK.1 hx;grind[aAN]
     grind[aAN,List.map_take]
   by_cases q:tX l
   ·rw[aM (hiff.1 q),bY q];rfl
   ·rw[aO (λx=>q (hiff.2 x)),dU q];rfl
  ·rw[cQ,dU (λq:tX l=>h24 q.2.1)]
 ·have n1:((l.length:Int) != 3)=true:=ah
  simp_all[tX]
def goR:List Bool->List dW->Option (List Bool)
 |met,[]=>some met
 |met,r::t=>if FV r/\met.getD (oQ r).toNat true=false then goR (met.set (oQ r).toNat true) t else none
theorem a1S:∀{xs:List dW} {met m:List Bool},goR met xs=some m->m.length=met.length
 |[],met,m,h=>by grind[goR]
 |x::r,met,m,h=>by
  simp only[goR] at h;split at h
  ·have:=a1S h;grind
  ·cases h
theorem aOQ:∀(a b:List dW) (met:List Bool),goR met (a++b)=(goR met a).bind λm=>goR m b
 |[],b,met=>rfl
 |x::r,b,met=>by
  simp only[aBH,goR];split
  ·exact aOQ r b _
  ·rfl
theorem aWT:∀(xs:List dW) (met:List Bool),(goR met xs).isSome=true↔(∀r∈xs,FV r)/\(DH met (xs.map oQ)).isSome=true
 |[],met=>by simp[goR,DH]
 |x::r,met=>by
  simp only[goR,aBJ,DH];by_cases h:FV x
  ·have hm:=h.1.mod;have hs:0<=oQ x/\oQ x<=23:=hm.2;by_cases h2:met.getD (oQ x).toNat true=false
   ·rw[aM ⟨h,h2⟩,aM ⟨hs,h2⟩,aWT r _];simp[h]
   grind
  grind
theorem a25{s:bM}(hl:s.Rows.length<=maxLen):∀d k (met:List Bool),k+d=s.Rows.length->met.length=24->loop (v8 s) ((k:Int),met)=some (aUM (goR met (s.Rows.drop k))):=by
 intro d;induction d with
 |zero=>
  intro k met hk hm;rw[bG (r:=Out.brk met) (by grind[v8]),List.drop_eq_nil_of_le aa];rfl
 |succ d ih=>
  intro k met hk hm;have hk':k<s.Rows.length:=aa
  have hd:s.Rows.drop k=s.Rows[k]::s.Rows.drop (k+1):=FE hk';have hst:v8 s ((k:Int),met)=if FV s.Rows[k]/\met.getD (oQ s.Rows[k]).toNat true=false then some (.next (((k+1:Nat):Int),met.set (oQ s.Rows[k]).toNat true)) else some (.stop (Out.ret false)):=by
   simp only[v8];rw[cQ,aT hk'];simp only[aH,g7,dO];generalize s.Rows[k]=x;by_cases q:kX x.Handle
   ·by_cases q2:0<=x.aP/\x.aP<=100000
    ·have hm2:=q.mod;obtain⟨j,hj0⟩:=a89 hm2.2.1;have hj:j<met.length:=aa
     have e:met.getD j true=met[j]:=aj
     have hr:FV x:=⟨q,q2⟩;simp only[q,q2,and_self,decide_true,hU,bR,bN,mH,hm2.1,hj0,F8,hr,true_and,oQ,e];rw[SA,aT hj];simp only[aH];cases met[j]
     ·simp only[bR,bN,bV];grind[cE,mU]
     ·simp
    ·rw[bY q,dU q2];simp only[hU,I0,bR,bN,bV,mH];rw[aO (λy:FV x/\_=>q2 y.1.2)]
   simp_all[mH,FV]
  rw[hd,goR];by_cases q:FV s.Rows[k]/\met.getD (oQ s.Rows[k]).toNat true=false
  ·rw[aM q] at hst ⊢;grind[bW]
  ·rw[aO q] at hst ⊢;rw[bG hst];rfl
theorem a26(hn:l.length<=1000)(hs:∀s∈l,s.Rows.length<=maxLen):∀d k (met:List Bool),k+d=l.length->met.length=24 ->
  loop (wA l) ((k:Int),met)=some (if(goR met (cS (l.drop k))).isSome=true then Out.brk () else Out.ret false):=by
 intro d;induction d with
 |zero=>
  simp_all[goR,cS,bG,wA]
 |succ d ih=>
  intro k met hk hm;have hk':k<l.length:=aa
  have hd:l.drop k=l[k]::l.drop (k+1):=FE hk';have hsk:=hs _ (cK hk');have hf:cS (l.drop k)=l[k].Rows++cS (l.drop (k+1)):=by grind[cS]
  have h4:=a25 hsk _ 0 met (aBM _) hm;rw[show((0:Nat):Int)=0 from rfl,TU] at h4;have hst:wA l ((k:Int),met)=(match goR met l[k].Rows with|some m=>some (.next (((k+1:Nat):Int),m))|none=>some (.stop (Out.ret false))):=by
   simp only[wA];rw[cQ,aT hk'];simp only[aH];rw[h4];cases goR met l[k].Rows with
   |none=>rfl
   |some m=>simp only[aH,aUM,XF,XE];grind[cO]
  rw[hf,aOQ];cases hg:goR met l[k].Rows with
  |none=>
   simp_all[bG]
  |some m=>
   rw[hg] at hst;rw[bW hst,ih (k+1) m aa (by grind[a1S])];simp
theorem aFI(hn:l.length<=1000)(h:(cS l).length<=1073741824):HJ l=some ((cS l).length:Int):=by
 unfold HJ;have key:loop (qH l) (0,0)=some ((cS l).length:Int):=by
  refine fV (f:=qH l) l.length (λk=>(((cS (l.take k)).length:Int),(k:Int))) _ (λk hk=>?_) ?_
  ·have h1:=aOP l (k+1);rw[QA hk,K8] at h1;simp only[qH];rw[cQ,aT hk];grind[cO,QA]
  grind[qH]
 rw[key];rfl
theorem EN(h:(cS l).length<=1073741824):uV l=some (decide (tX l)):=by
 unfold uV;by_cases h3:l.length=3
 ·have n1:((l.length:Int) != 3)=false:=ah
  have hb:(1073741824:Nat)<=maxLen:=by simp[maxLen]
  simp only[n1,bR,bN];have key:=a26 (l:=l) aa (λs hs=>by have:=aAM hs;omega) l.length 0 (List.replicate 24 false) aa rfl;rw[show((0:Nat):Int)=0 from rfl,TU] at key;rw[key];have hm0:∀j:Nat,j<24->(List.replicate 24 false).getD j true=false:=ai
  have hiff:tX l↔(cS l).length<=24/\(goR (List.replicate 24 false) (cS l)).isSome=true:=by
   rw[aWT,aDC _ _ rfl];have hr:(∀r∈cS l,FV r)->∀x∈(cS l).map oQ,0<=x/\x<=23:=by intro q x hx;obtain⟨r,hr,rfl⟩:=List.mem_map.1 hx;exact(q r hr).1.mod.2
   constructor
   ·rintro⟨_,q1,q2,q3⟩;grind
   ·rintro⟨q1,q2,_,q3,_⟩;exact⟨h3,q1,q2,q3⟩
  by_cases q:(goR (List.replicate 24 false) (cS l)).isSome=true
  ·rw[aM q];simp only[aH,XG,XD];rw[aFI aa h];grind
  ·rw[aO q,dU (λx=>q (hiff.1 x).2)];rfl
 ·have n1:((l.length:Int) != 3)=true:=ah
  simp_all[tX]
def jQ(h:Int):Prop:=h=0\/kX h
instance (h:Int):Decidable (jQ h):=by unfold jQ;infer_instance
def aDD(z:List Int):Prop:=z.length=3/\∀h∈z,jQ h
instance (z:List Int):Decidable (aDD z):=by unfold aDD;infer_instance
theorem aRN(hl:z.length<=maxLen):V1 z=some (decide (aDD z)):=by
 unfold V1;have hst:∀k (hk:k<z.length),C8 z (k:Int)=if jQ z[k] then some (.next ((k+1:Nat):Int)) else some (.stop (Out.ret false)):=by
  intro k hk;simp only[C8,KW];rw[cQ,aT hk,mU (O3 hk hl)];simp only[aH,fO];generalize z[k]=x;by_cases q:x=0
  ·have n:(x != 0)=false:=by simp only[bne_eq_false_iff_eq];exact q
   rw[n,aM (show jQ x from .inl q)];rfl
  ·have n:(x != 0)=true:=by simp only[bne_iff_ne];exact q
   by_cases q2:kX x
   ·rw[n,bY q2,aM (show jQ x from .inr q2)];rfl
   ·rw[n,dU q2,aO (λa:jQ x=>a.elim q q2)];rfl
 have key:=kW (f:=C8 z) z (λk=>(k:Int)) jQ (Out.brk ()) (Out.ret false) (λk hk hx=>aj) (λk hk hx=>aj) (by simp[C8]);rw[show((0:Nat):Int)=0 from rfl] at key;rw[key];by_cases q:∀x∈z,jQ x
 ·rw[aM q];have:aDD z↔z.length=3:=⟨λa=>a.1,λa=>⟨a,q⟩⟩;simp only[aH,aBW,aBV,this];congr 1;grind
 ·rw[aO q,dU (λa:aDD z=>q a.2)];rfl
theorem aRO(hl:z.length<=maxLen):VZ z=some (decide (aDD z)):=by
 unfold VZ KR;have e:(λy0=>OK y0)=λy:Int=>some (!decide (jQ y)):=by
  funext y;unfold OK m8 zN;rw[g7];by_cases q:y=0
  ·simp_all[jQ]
  grind[jQ]
 rw[e,IS hl,aAJ];by_cases h3:z.length=3
 ·have n:((z.length:Int) == 3)=true:=ah
  have:aDD z↔∀h∈z,jQ h:=⟨λa=>a.2,λa=>⟨h3,a⟩⟩;grind
 ·have n:((z.length:Int) == 3)=false:=ah
  simp_all[aDD]
theorem aFJ(l:List O)(f:O->Bool){body:Int->Option (Step Int (Out Unit Int))}(hb:∀k (hk:k<l.length),body (k:Int)=if f l[k] then some (.stop (.ret (k:Int))) else some (.next ((k+1:Nat):Int)))(he:body (l.length:Int)=some (.stop (.brk ()))) :
  ∃o,loop body 0=some o/\match o with|.brk _=>l.any f=false|.ret r=>0<=r/\l.any f=true:=by
 have key:=a2Y (f:=body) l.length (λk=>(k:Int)) (λk=>if(l.drop k).any f then Out.ret ((k+(l.drop k).findIdx f:Nat):Int) else Out.brk ()) (λk hk=>by
  by_cases h:k<l.length
  ·have hd:l.drop k=l[k]::l.drop (k+1):=FE h;grind
  grind) 0 (lX _)
 grind
theorem aCD{l:List dW}(hl:l.length<=maxLen)(f:dW->Bool):iY l (λx=>some (f x))=some (l.any f):=by
 obtain⟨o,e,h⟩:=aFJ l f (body:=lD l (λx=>some (f x))) (λk hk=>by
  simp only[lD];rw[cQ,aT hk,mU (O3 hk hl)];rfl) (by simp[lD])
 grind[iY,xI,C0,CZ]
theorem ZQ(hl:l.length<=maxLen)(f:bM->Bool)(g:bM->Option Bool)(hg:∀x∈l,g x=some (f x)):iP l g=some (l.any f):=by
 obtain⟨o,e,h⟩:=aFJ l f (body:=kH l g) (λk hk=>by
  simp only[kH];rw[cQ,aT hk,mU (O3 hk hl)];grind) (by simp[kH])
 grind[iP,uS,BU,BT]
theorem ZR{l:List aZ}(hl:l.length<=maxLen)(f:aZ->Bool)(g:aZ->Option Bool)(hg:∀x∈l,g x=some (f x)):iQ l g=some (l.any f):=by
 obtain⟨o,e,h⟩:=aFJ l f (body:=kI l g) (λk hk=>by
  simp only[kI];rw[cQ,aT hk,mU (O3 hk hl)];grind) (by simp[kI])
 grind[iQ,uU,BW,BV]
theorem contains_eq{l:List Int}(hl:l.length<=maxLen)(v:Int):j3 l v=some (decide (v∈l)):=by
 obtain⟨o,e,h⟩:=aFJ l (λx=>v == x) (body:=fC l v) (λk hk=>by
  simp only[fC];rw[cQ,aT hk,mU (O3 hk hl)];rfl) (by simp[fC])
 have ha:l.any (λx=>v == x)=decide (v∈l):=aj
 grind[j3,nE,B6,M1]
theorem aAO{l:List aZ}:x∈fY l↔∃s∈l,x∈s.aU:=aHU
section
variable {m:Mem} (hsh:fW m.Heap) (hl:(gK m.aD).length<=1073741824) (hg:m.aD.Global.length<=maxLen) (ho:m.aD.Own.length<=maxLen)
include hl hg ho
theorem aOR(s:Int):RF m.aD s=some (decide (s∈gK m.aD)):=by grind[maxLen,RF,aCC,DG]
theorem ZS(s:Int):LJ m.aD s=some (decide (s∈gK m.aD)):=by
 have hb:(1073741824:Nat)<=maxLen:=by simp[maxLen]
 have hal:=wO m.aD;have e1:∀x∈m.aD.Global,qZ x s=some (decide (s∈x.aU)):=λx hx=>by have:=LU hx;grind[qZ,contains_eq]
 have e2:∀x∈m.aD.Own,qZ x s=some (decide (s∈x.aU)):=λx hx=>by have:=LU hx;grind[qZ,contains_eq]
 unfold LJ HH;rw[ZR hg (λx=>decide (s∈x.aU)) _ e1,ZR ho (λx=>decide (s∈x.aU)) _ e2];have a1:(m.aD.Global.any λx=>decide (s∈x.aU))=decide (s∈fY m.aD.Global):=by rw[K7];simp[aAO]
 have a2:(m.aD.Own.any λx=>decide (s∈x.aU))=decide (s∈fY m.aD.Own):=by rw[K7];simp[aAO]
 grind[gK]
def rI(m:Mem)(s:Int):Int:=if cC m.Heap s<0 then 0 else if s∈gK m.aD then 1 else if 6<nI m.Heap s then 2 else 3
include hsh
theorem aKL(s:Int):NP m s=some (rI m s):=by grind[NP,rI,mL,aOR,rH]
theorem aKM(s:Int):OA m s=some (rI m s):=by grind[OA,rI,kD,ZS,K3]
def oJ(m:Mem)(h:Int):Prop:=kX h/\rI m (h % 32)=3/\nI m.Heap (h % 32)=h/32
instance (m:Mem) (h:Int):Decidable (oJ m h):=by unfold oJ;infer_instance
omit hl hg ho hsh in
theorem kE{m:Mem}(h:rI m s=3):0<=cC m.Heap s:=by grind[rI]
theorem pL(h:Int):pU m h=some (decide (oJ m h)):=by
 unfold pU vN;rw[fO,eF];by_cases q:kX h
 ·have hm:=q.mod;rw[bY q,aM q];simp only[aH,bV,aKL hsh hl hg ho];by_cases q2:rI m (h % 32)=3
  ·have n:(rI m (h % 32) == 3)=true:=aj
   have eg:GN h=some (h/32):=by grind[GN,kX,fO,cO]
   rw[n,rH hsh (kE q2),eg];simp only[bV,aH];congr 1;rw[K7];simp only[beq_iff_eq,decide_eq_true_eq];exact⟨λa=>⟨q,q2,a⟩,λa=>a.2.2⟩
  grind[oJ]
 grind[oJ]
theorem IU(h:Int):zH m h=some (decide (oJ m h)):=by
 unfold zH zG;rw[g7];by_cases q:kX h
 ·have hm:=q.mod;rw[bY q,hm.1];simp only[aH,bV,aKM hsh hl hg ho];by_cases q2:rI m (h % 32)=3
  ·have n:(rI m (h % 32) == 3)=true:=aj
   have eg:bA (Int.tdiv h 32)=h/32:=by grind[kX,cO]
   rw[n,K3 hsh (kE q2),eg];simp only[bV,aH];congr 1;rw[K7];simp only[beq_iff_eq,decide_eq_true_eq];exact⟨λa=>⟨q,q2,a⟩,λa=>a.2.2⟩
  grind[oJ]
 grind[oJ]
end
def IV(b:aA)(r:dW):Prop:=oJ b.Mem r.Handle/\r.aP<=b.aJ.aP
instance (b:aA) (r:dW):Decidable (IV b r):=by unfold IV;infer_instance
def nJ(b:aA):Prop:=(oP b.Mem/\XY b.aJ/\tX b.aV/\aDD b.jJ)/\∀r∈cS b.aV,IV b r
instance (b:aA):Decidable (nJ b):=by unfold nJ;infer_instance
def TF(b:aA):Prop:=FC b.Mem/\b.aJ.b8.length<=1048576/\b.aV.length<=1048576/\(cS b.aV).length<=1048576/\b.jJ.length<=1048576
theorem TF.rows{b:aA}(h:TF b):∀s∈b.aV,s.Rows.length<=1048576:=λs hs=>by have:=aAM hs;have:=h.2.2.2.1;omega
section
variable {b:aA} (hf:b.Mem.Heap.Bytes.length<=maxLen/\(gK b.Mem.aD).length<=1073741824/\b.aJ.b8.length<=maxLen/\b.aV.length<=maxLen/\(cS b.aV).length<=1073741824/\b.jJ.length<=maxLen)
include hf
theorem aOS:R5 b=some (decide (nJ b)):=by
 obtain⟨f1,f2,f3,f4,f5,f6⟩:=hf;unfold R5 tJ;rw[K4 f1 f2,i7,aKK f5 f4,aRN f6];by_cases q1:oP b.Mem
 ·by_cases q2:XY b.aJ
  ·by_cases q3:tX b.aV
   ·by_cases q4:aDD b.jJ
    ·have hg:b.Mem.aD.Global.length<=maxLen:=by rw[q1.1.2.1];simp[maxLen]
     have ho:b.Mem.aD.Own.length<=maxLen:=by rw[q1.1.2.2.1];simp[maxLen]
     have hmx:(1073741824:Nat)<=maxLen:=by simp[maxLen]
     simp only[bY q1,bY q2,bY q3,bY q4,aH,hU,bR,bN];rw[QB f5 f4];simp only[aH];have hst:∀k (hk:k<(cS b.aV).length),zV b (cS b.aV) (k:Int)=if IV b (cS b.aV)[k] then some (.next ((k+1:Nat):Int)) else some (.stop (Out.ret false)):=by
      intro k hk;simp only[zV,IF];rw[cQ,aT hk,mU (show k<maxLen by omega)];generalize (cS b.aV)[k]=r;simp only[aH,pL q1.1.1.1 f2 hg ho];by_cases a1:oJ b.Mem r.Handle
      ·rw[bY a1];simp only[hU,bR,bN];by_cases a2:r.aP<=b.aJ.aP
       ·rw[rK,aM ⟨a1,a2⟩]
       ·rw[cQ,aO (λx=>a2 x.2)]
      ·rw[dU a1];simp only[I0,bV];rw[aO (λx=>a1 x.1)]
     have key:=kW (f:=zV b (cS b.aV)) (cS b.aV) (λk=>(k:Int)) (IV b) (Out.brk ()) (Out.ret false) (λk hk hx=>aj) (λk hk hx=>aj) (by simp[zV]);rw[show((0:Nat):Int)=0 from rfl] at key;rw[key];by_cases q:∀r∈cS b.aV,IV b r
     ·rw[aM q,bY (show nJ b from⟨⟨q1,q2,q3,q4⟩,q⟩)];rfl
     ·rw[aO q,dU (λx:nJ b=>q x.2)];rfl
    grind[nJ]
   grind[nJ]
  grind[nJ]
 grind[nJ]
theorem aOT:R4 b=some (decide (nJ b)):=by
 obtain⟨f1,f2,f3,f4,f5,f6⟩:=hf;unfold R4 tF;rw[K5 f1 f2,wP f3,EN f5,aRO f6];by_cases q1:oP b.Mem
 ·by_cases q2:XY b.aJ
  ·by_cases q3:tX b.aV
   ·by_cases q4:aDD b.jJ
    ·have hg:b.Mem.aD.Global.length<=maxLen:=by rw[q1.1.2.1];simp[maxLen]
     have ho:b.Mem.aD.Own.length<=maxLen:=by rw[q1.1.2.2.1];simp[maxLen]
     have hmx:(1073741824:Nat)<=maxLen:=by simp[maxLen]
     simp only[bY q1,bY q2,bY q3,bY q4,aH,hU,bR,bN];have e1:(λy0=>EI y0 b)=λr:dW=>some (!decide (IV b r)):=by funext r;unfold EI vD;rw[IU q1.1.1.1 f2 hg ho];grind[IV]
     have e2:∀l∈b.aV,(λy0=>KS y0 b) l=some (!decide (∀r∈l.Rows,IV b r)):=λl hl=>by have:=aAM hl;simp only[KS];rw[e1,aCD aa,aAJ];rfl
     rw[ZQ f4 _ _ e2,aAJ];have hiff:nJ b↔∀l∈b.aV,∀r∈l.Rows,IV b r:=by
      constructor
      ·intro x l hl r hr;exact x.2 r (aHU.2 ⟨l,hl,hr⟩)
      ·intro x;refine⟨⟨q1,q2,q3,q4⟩,λr hr=>?_⟩;obtain⟨l,hl,hr⟩:=aHU.1 hr;grind
     grind
    grind[nJ]
   grind[nJ]
  grind[nJ]
 grind[nJ]
end
theorem WH{s:List aQ}{p:aQ->Bool}(hl:s.length<=4611686018427387904) :
  (∃j,∃h:j<s.length,(∀i (h:i<s.length),i<j->p s[i]=false)/\p s[j]=true/\dB s (λy=>some (p y))=some (j:Int))\/((∀i (h:i<s.length),p s[i]=false)/\dB s (λy=>some (p y))=some (-1)):=by
 rcases aFG (f:=oS s (λy=>some (p y))) (p:=p) hl (λk=>by
  simp only[oS];by_cases h:k<s.length
  ·rw[dif_pos h,cQ,aT h,aH,aH,cR];rfl
  grind) s.length 0 aa with ⟨j,h,_,h2,h3,h4⟩|⟨h1,h2⟩
 ·refine .inl ⟨j,h,λi hi a=>h2 i hi (lX _) a,h3,?_⟩;unfold dB;rw[show(0:Int)=((0:Nat):Int) from rfl,h4];rfl
 ·refine .inr ⟨λi hi=>h1 i hi (lX _),?_⟩;unfold dB;rw[show(0:Int)=((0:Nat):Int) from rfl,h2];rfl
theorem aID{s:List Seen}{p:Seen->Bool}(hl:s.length<=4611686018427387904) :
  (∃j,∃h:j<s.length,(∀i (h:i<s.length),i<j->p s[i]=false)/\p s[j]=true/\eX s (λy=>some (p y))=some (j:Int))\/((∀i (h:i<s.length),p s[i]=false)/\eX s (λy=>some (p y))=some (-1)):=by
 rcases aFG (f:=iZ s (λy=>some (p y))) (p:=p) hl (λk=>by
  simp only[iZ];by_cases h:k<s.length
  ·rw[dif_pos h,cQ,aT h,aH,aH,cR];rfl
  grind) s.length 0 aa with ⟨j,h,_,h2,h3,h4⟩|⟨h1,h2⟩
 ·refine .inl ⟨j,h,λi hi a=>h2 i hi (lX _) a,h3,?_⟩;unfold eX;rw[show(0:Int)=((0:Nat):Int) from rfl,h4];rfl
 ·refine .inr ⟨λi hi=>h1 i hi (lX _),?_⟩;unfold eX;rw[show(0:Int)=((0:Nat):Int) from rfl,h2];rfl
theorem aRP{s:List aQ}{p:aQ->Bool}(hl:s.length<=4611686018427387904):jM s (λy=>some (p y))=some (s.filter λx=>!p x):=by
 unfold jM;rcases WH (p:=p) hl with ⟨j,h,h1,h2,h3⟩|⟨h1,h3⟩
 ·have ne:¬(((j:Int) == -1)=true):=ae
  rw[h3,aH,aO ne,cR];obtain⟨M,k,g1,g2,g3,g4⟩:=aUH (p:=p) (n:=s.length) (f:=jY (λy=>some (p y))) hl (λL i j h hn hi=>by
   simp only[jY];rw[cQ,aT h,aH,aH];by_cases hp:p L[j]=true
   ·rw[aM hp,aO (by simp[hp])];grind[iF,cO]
   ·rw[aO hp,aM aj,TD,aH];grind[iF,cO]) (λL i j h=>by
   simp_all[jY]) (s.length-(j+1)) s j (j+1) aa rfl aa
  grind[zL,zK,cE,gZ,a2Z,a7G]
 ·rw[h3,aH,aM ak,List.filter_eq_self.2];grind[aDL]
theorem a1T{O:Type}{q:O->Bool}:∀{s:List O} {j:Nat} (h:j<s.length),(∀i (h:i<s.length),i<j->q s[i]=true)->q s[j]=false->s.takeWhile q=s.take j/\s.dropWhile q=s.drop j
 |[],j,h,_,_=>by cases h
 |x::r,0,h,_,h2=>by simp_all
 |x::r,j + 1,h,h1,h2=>by have hx:q x=true:=h1 0 (Nat.zero_lt_succ _) (Nat.zero_lt_succ _);have:=a1T (s:=r) (j:=j) aj (λi hi hj=>h1 (i+1) aa aa) h2;simp_all
theorem bEX{q:O->Bool}{s:List O}(h:∀i (h:i<s.length),q s[i]=true):s.takeWhile q=s/\s.dropWhile q=[]:=by
 have h':∀x∈s,q x=true:=λx hx=>by grind[aDL]
 clear h;induction s with
 |nil=>simp
 |cons x r ih=>
  simp_all
def aCE(l:List aQ)(x:aQ):List aQ:=
 (l.filter λy=>!(y.Key == x.Key)).takeWhile (λy=>!decide (x.Key<y.Key))++[x]++(l.filter λy=>!(y.Key == x.Key)).dropWhile (λy=>!decide (x.Key<y.Key))
theorem aHF{l:List aQ}(hl:l.length<=1000)(x:aQ):KN l x=some (aCE l x):=by
 unfold KN nT aCE;rw[DE];simp only[aH,aRY];have hd:jM l (λy0=>MG y0 x)=some (l.filter λy=>!(y.Key == x.Key)):=aRP (p:=λy=>y.Key == x.Key) aa;rw[hd,aH];have hlen:(l.filter λy=>!(y.Key == x.Key)).length<=1000:=xM (List.length_filter_le _ _) hl;generalize (l.filter λy=>!(y.Key == x.Key))=o at hlen ⊢;have hi:(∃j,∃h:j<o.length,(∀i (h:i<o.length),i<j->decide (x.Key<o[i].Key)=false)/\decide (x.Key<o[j].Key)=true/\dB o (λy0=>D8 y0 x)=some (j:Int))\/((∀i (h:i<o.length),decide (x.Key<o[i].Key)=false)/\dB o (λy0=>D8 y0 x)=some (-1)):=WH (p:=λy=>decide (x.Key<y.Key)) aa;rcases hi with ⟨j,h,h1,h2,h3⟩|⟨h1,h3⟩
 ·obtain⟨t1,t2⟩:=a1T (q:=λy:aQ=>!decide (x.Key<y.Key)) h (λi hi a=>aj) (by simp[h2]);rw[h3,aH,cZ,t1,t2];grind[sV,rP,cE]
 ·obtain⟨t1,t2⟩:=bEX (s:=o) (q:=λy:aQ=>!decide (x.Key<y.Key)) (λi hi=>aj);rw[h3,aH,aM ai,t1,t2];grind[sV,rP,cE,List.drop_length]
def YE(l:List aQ)(k:Int):aQ×Bool:=match l.find? (λy=>y.Key == k) with|some x=>(x,true)|none=>(⟨0,false,0⟩,false)
theorem aOU{p:O->Bool}{s:List O}(h:j<s.length)(h1:∀i (h:i<s.length),i<j->p s[i]=false)(h2:p s[j]=true):s.find? p=some s[j]:=by grind[List.find?_eq_some_iff_getElem]
theorem a1U{p:O->Bool}{s:List O}(h1:∀i (h:i<s.length),p s[i]=false):s.find? p=none:=by grind[aDL]
theorem aKN{l:List aQ}(hl:l.length<=1000)(k:Int):OD l k=some (YE l k):=by
 unfold OD YE;have hi:(∃j,∃h:j<l.length,(∀i (h:i<l.length),i<j->(l[i].Key == k)=false)/\(l[j].Key == k)=true/\dB l (λy0=>HO y0 k)=some (j:Int))\/((∀i (h:i<l.length),(l[i].Key == k)=false)/\dB l (λy0=>HO y0 k)=some (-1)):=WH (p:=λy=>y.Key == k) aa;rcases hi with ⟨j,h,h1,h2,h3⟩|⟨h1,h3⟩
 ·rw[h3,aH,cZ,aT h,aOU (p:=λy:aQ=>y.Key == k) h h1 h2];rfl
 simp_all[a1U]
def DI(l:List Seen)(b v:Int):List Seen×Bool:=match l.find? (λy=>y.bZ == b) with|some x=>(l,x.dZ == v)|none=>(l++[⟨b,v⟩],true)
theorem aKO{l:List Seen}(hl:l.length<=1000)(b v:Int):OF l b v=some (DI l b v):=by
 unfold OF qN DI;rw[DE];simp only[aH,aRY];have hi:(∃j,∃h:j<l.length,(∀i (h:i<l.length),i<j->(l[i].bZ == b)=false)/\(l[j].bZ == b)=true/\eX l (λy0=>HU y0 b)=some (j:Int))\/((∀i (h:i<l.length),(l[i].bZ == b)=false)/\eX l (λy0=>HU y0 b)=some (-1)):=aID (p:=λy=>y.bZ == b) aa;rcases hi with ⟨j,h,h1,h2,h3⟩|⟨h1,h3⟩
 ·rw[h3,aH,cZ,aT h,aOU (p:=λy:Seen=>y.bZ == b) h h1 h2];rfl
 ·rw[h3,aH,aM ai,DE,a1U (p:=λy:Seen=>y.bZ == b) h1]
def kK(l:List aQ)(n:Int):Int:=(((l.take n.toNat).filter λx=>!x.GC).length:Int)
theorem aY8(l:List aQ)(n:Int):(l.take ((if(if(l.length:Int)<n then(l.length:Int) else n)<0 then 0 else(if(l.length:Int)<n then(l.length:Int) else n)).toNat)).drop 0=l.take n.toNat:=by
 (simp_all;omega)
theorem aFK{l:List aQ}(hl:l.length<=1000)(n:Int):UL l n=some (kK l n):=by
 unfold UL kK;rw[SA];have hc:=aY8 l n;obtain⟨s,hs⟩:∃s,s=l.take n.toNat:=⟨_,rfl⟩;have hsl:s.length<=1000:=aj
 rw[show((0:Int),(0:Int))=((((s.take 0).filter λx=>!x.GC).length:Int),((0:Nat):Int)) from rfl,
  fV s.length (λk=>((((s.take k).filter λx=>!x.GC).length:Int),(k:Int))) (((s.filter λx=>!x.GC).length:Nat):Int) (λk hk=>by
   have ht:s.take (k+1)=s.take k++[s[k]]:=O0 hk;have hle:((s.take k).filter λx=>!x.GC).length<=1000:=xM (List.length_filter_le _ _) aj;simp only[VW,hc,<-hs];rw[cQ,aT hk,aH,ht,List.filter_append];cases hd:s[k].GC
   ·rw[aM ak,cR];simp only[HV];rw[cR];simp[hd]
   ·rw[cZ];grind[HV,cO]) (by
   simp only[VW,hc,<-hs];simp)]
 rw[hs];rfl
def rJ(k:Int):Int:=if 0<=k/\k<=99 then k % 2 else -1
theorem TG(k:Int):JO k=some (rJ k):=by unfold JO rJ;rw[dO,aH];grind
def jS(l:List aQ):List Int:=(if l.any (λx=>x.Key % 2 == 0) then [0] else [])++(if l.any (λx=>x.Key % 2 == 1) then [1] else [])
theorem aY9{l:List Int}(hs:l.Pairwise (· < ·))(hm:∀x∈l,x=0\/x=1):l=(if 0∈l then [0] else [])++(if 1∈l then [1] else []):=by
 match l,hs,hm with
 |[],_,_=>rfl
 |[x],_,hm=>rcases hm x ae with rfl|rfl<;>rfl
 |[x,y],hs,hm=>
  have hxy:x<y:=aj
  rcases hm x ae with rfl|rfl<;>rcases hm y ae with rfl|rfl<;>first|omega|rfl
 |x::y::z::r,hs,hm=>
  (simp_all;omega)
theorem aKP{l:List aQ}(hl:l.length<=12)(hk:∀x∈l,0<=x.Key/\x.Key<=99):OG l=some (jS l):=by
 unfold OG;rw[show(([]:List Int),(0:Int))=((l.take 0).map (λx=>x.Key % 2),((0:Nat):Int)) from rfl,
  fV l.length (λk=>((l.take k).map (λx=>x.Key % 2),(k:Int))) (l.map λx=>x.Key % 2) (λk hlt=>by
   have ht:l.take (k+1)=l.take k++[l[k]]:=O0 hlt;have hkk:=hk l[k] (cK hlt);simp only[MJ];rw[cQ,aT hlt,aH,TG,aH];unfold rJ;rw[aM hkk,cQ,DE,ht,BR];grind[EB,cO]) (by
   simp[MJ]),aH]
 simp only[XI,MI];obtain⟨y,h1,h2,h3⟩:=a7H (x:=l.map λx=>x.Key % 2) aj (by grind[aY4]);rw[h1,aH];obtain⟨c1,c2⟩:=aWQ h3;have hmem:∀a,a∈FZ y↔∃x∈l,x.Key % 2=a:=λa=>aj
 have h01:∀a∈FZ y,a=0\/a=1:=λa ha=>aj
 show some (FZ y)=_;rw[aY9 c1 h01];grind[jS]
theorem aUO(l:List aQ):(jS l).length<=2:=by grind[jS]
theorem ZT{l:List aQ}{b:Int}(h:b∈jS l):b=0\/b=1:=by grind[jS]
theorem U4{f:(List O×Int)->Option (Step (List O×Int) (List O))}(l:List O)
  (h:∀k (hk:k<l.length),f (l.take k,(k:Int))=some (.next (l.take k++[l[k]],((k+1:Nat):Int)))) (he:f (l,(l.length:Int))=some (.stop l)):loop f ([],0)=some l:=by
 have:=fV (f:=f) l.length (λk=>(l.take k,(k:Int))) l (λk hk=>by simp_all) aj;grind
theorem aAP{f:(Int×List O)->Option (Step (Int×List O) (List O))}(l:List O)
  (h:∀k (hk:k<l.length),f ((k:Int),l.take k)=some (.next (((k+1:Nat):Int),l.take k++[l[k]]))) (he:f ((l.length:Int),l)=some (.stop l)):loop f (0,[])=some l:=by
 have:=fV (f:=f) l.length (λk=>((k:Int),l.take k)) l (λk hk=>by simp_all) aj;grind
theorem BQ{l:List Int}(h:l.length<=1073741824):j5 l=some l:=by grind[j5,cE]
theorem qT{l:List Int}(h:l.length<=1073741824):gE l=some l:=by grind[gE,cE]
theorem aUP{l:List yK}(h:l.length<=1073741824):BD l=some l:=by grind[BD,cE]
theorem aRQ{l:List dW}(h:l.length<=1073741824):xS l=some l:=by grind[xS,cE]
theorem a27{l:List aZ}(hl:l.length<=1048576)(hs:∀s∈l,s.aU.length<=1048576):LF l=some l:=by
 unfold LF;rw[U4 l]
 ·rfl
 ·intro k hk;have:=hs _ (cK hk);simp only[PB];rw[cQ,aT hk];simp only[aH];rw[BQ aa,aH,DE,cR];rfl
 grind[PB]
theorem aRR{l:aD}(h1:l.Global.length<=1048576)(h2:l.Own.length<=1048576)(h3:∀s∈l.Global,s.aU.length<=1048576)(h4:∀s∈l.Own,s.aU.length<=1048576):RM l=some l:=by simp_all[RM,a27]
theorem TH{l:aD}(h1:l.Global.length<=1048576)(h2:l.Own.length<=1048576)(h3:∀s∈l.Global,s.aU.length<=1048576)(h4:∀s∈l.Own,s.aU.length<=1048576):iX l=some l:=by
 unfold iX;rw[aAP l.Global]
 ·simp only[aH,RU,RT];rw[aAP l.Own]
  ·rfl
  ·intro k hk;have:=h4 _ (cK hk);simp only[G6];rw[cQ,aT hk];simp only[aH];rw[qT aa,aH,DE,G5,cR];rfl
  grind[G6]
 ·intro k hk;have:=h3 _ (cK hk);simp only[G8];rw[cQ,aT hk];simp only[aH];rw[qT aa,aH,DE,G7,cR];rfl
 grind[G8]
theorem aUQ(h1:h.Bytes.length<=1048576)(h2:h.Class.length<=1048576):RL h=some h:=by unfold RL;rw[BQ aa,BQ aa];rfl
theorem WI(h1:h.Bytes.length<=1048576)(h2:h.Class.length<=1048576):xA h=some h:=by unfold xA;rw[qT aa,qT aa];rfl
theorem SC(h:FC m):y6 m=some m:=by have a:=aUQ h.1 h.2.1;have b:=aRR h.2.2.1 h.2.2.2.1 h.aIC.1 h.aIC.2;simp_all[y6]
theorem SD(h:FC m):qP m=some m:=by have a:=WI h.1 h.2.1;have b:=TH h.2.2.1 h.2.2.2.1 h.aIC.1 h.aIC.2;simp_all[qP]
theorem lF{c:aJ}(h:c.b8.length<=1048576):pY c=some c:=by unfold pY;rw[DE];rfl
theorem DJ{c:aJ}(h:c.b8.length<=1048576):lN c=some c:=by unfold lN;rw[aUP aa];rfl
theorem aRS(hl:l.length<=1048576)(hs:∀s∈l,s.Rows.length<=1048576):N3 l=some l:=by
 unfold N3;rw[U4 l]
 ·rfl
 ·intro k hk;have:=hs _ (cK hk);simp only[MB];rw[cQ,aT hk];simp only[aH];rw[DE,DE,cR];rfl
 grind[MB]
theorem TJ(hl:l.length<=1048576)(hs:∀s∈l,s.Rows.length<=1048576):lM l=some l:=by
 unfold lM;rw[U4 l]
 ·rfl
 ·intro k hk;have:=hs _ (cK hk);simp only[HI];rw[cQ,aT hk];simp only[aH];rw[aRQ aa,aH,DE,cR];rfl
 grind[HI]
theorem aUR{b:aA}(h:TF b):N4 b=some b:=by have m:=SC h.1;have c:=lF h.2.1;have l:=aRS h.2.2.1 h.rows;have:=h.2.2.2.2;unfold N4;rw[m,c,l,BQ aa];rfl
theorem aUS{b:aA}(h:TF b):KP b=some b:=by have m:=SD h.1;have c:=DJ h.2.1;have l:=TJ h.2.2.1 h.rows;have:=h.2.2.2.2;unfold KP;rw[m,c,l,qT aa];rfl
theorem lU(w:Int):gQ w=some (decide (0<=w/\w<=2)):=by grind[gQ,dO]
section
variable {c:aJ} (hc:XY c) {w:Int} (hw:0<=w/\w<=2)
include hc
theorem XY.small:c.b8.length<=1048576/\c.b8.length<=maxLen:=by have:=hc.2.1;grind[maxLen]
theorem XY.aUT{p:yK}(hp:POk c.aP p):XY ⟨c.aP,c.b8.set k p⟩:=⟨hc.1,by simpa using hc.2.1,λq hq=>(rV hq).elim (hc.2.2 q) (λe=>e ▸ hp)⟩
theorem XY.later(h:c.aP+1<=100000):XY ⟨c.aP+1,c.b8⟩:=by
 have h1:=hc.1;exact⟨⟨aj,h⟩,hc.2.1,λq hq=>by
  obtain⟨a,b,d⟩:=hc.2.2 q hq;exact⟨⟨a.1,aj⟩,b,d⟩⟩
include hw
theorem aZA:∃p,idx c.b8 w=some p/\POk c.aP p:=by have h3:=hc.2.1;rw[gI hw.1 aa];exact⟨_,rfl,hc.2.2 _ (cK _)⟩
theorem a28(e:Int):∃r,FJ c w e=some r/\RX c w e=some r/\XY r.1/\r.1.aP=c.aP:=by
 obtain⟨p,hp,h1,⟨hs0,hs1⟩,h2⟩:=aZA hc hw;have h3:=hc.2.1;unfold FJ RX;rw[lF hc.small.1,DJ hc.small.1,i7,wP hc.small.2,lU,cM,bY hc,bY hw];simp only[aH,hU,bR,bN,yV,HK,hp];cases h4:p.On
 ·exact⟨_,rfl,rfl,hc,rfl⟩
 ·cases h5:p.iV
  ·by_cases h6:p.aP=e
   ·simp_all[nM,sU]
   ·have h6':(p.aP == e)=false:=aj
    simp only[nM,sU,h6',hU,bR,bN,hp,aH];by_cases h7:p.Seen=2
    ·simp only[h7,beq_self_eq_true,bV,show ¬((2:Int)<2) by omega,decide_false,bR,bN];exact⟨_,rfl,rfl,hc.aUT ⟨h1,ae,λq=>aj⟩,rfl⟩
    ·have h7':(p.Seen == 2)=false:=aj
     simp only[h7',show p.Seen<2 by omega,decide_true,bV,bR,bN];have hw7:bA (p.Seen+1)=p.Seen+1:=cR;exact⟨_,rfl,rfl,hc.aUT ⟨h1,aj,λq=>aj⟩,rfl⟩
  ·exact⟨_,rfl,rfl,hc,rfl⟩
theorem a7L(e:Int):∃r,JJ c w e=some r/\VV c w e=some r/\(XY r.1/\r.1.aP=c.aP)/\(r.2=false->r.1=c):=by
 obtain⟨p,hp,hpk⟩:=aZA hc hw;have h3:=hc.2.1;unfold JJ VV;rw[lF hc.small.1,DJ hc.small.1,i7,wP hc.small.2,lU,cM,cM,dO,bY hc,bY hw];simp only[aH,hU,bR,bN,wW,C1,hp];by_cases h:0<=e/\e<=c.aP
 ·simp only[bY h,hU,bR,bN];exact⟨_,rfl,rfl,⟨hc.aUT ⟨h,ae,λq=>by cases q⟩,rfl⟩,λq=>by cases q⟩
 simp_all[dU]
omit hw in
theorem bA6(e:Int):∃r,OV c e=some r/\aAH c e=some r/\XY r.1/\c.aP<=r.1.aP:=by
 have h3:=hc.2.1;unfold OV aAH;rw[lF hc.small.1,DJ hc.small.1,i7,wP hc.small.2,bY hc];simp only[aH,hU,bR,bN,AZ,HL];by_cases h:c.aP=e
 ·subst h;simp only[bne_self_eq_false,bR,bN];by_cases h:c.aP=100000
  ·simp_all
  ·have h':(c.aP == 100000)=false:=aj
   have hE:=hc.1;have hw7:bA (c.aP+1)=c.aP+1:=cR;simp only[h',bR,bN,hw7];exact⟨_,rfl,rfl,hc.later aa,aj⟩
 simp_all
end
theorem bEY{b:aA}(hc:XY b.aJ)(hw:0<=w/\w<=2)(s:Sub) :
  ∃x y,FK b w s=some (x,y)/\BF s b w=some (y,x)/\∃cl,x=⟨b.Mem,cl,b.aV,b.jJ⟩/\XY cl/\b.aJ.aP<=cl.aP:=by
 obtain⟨r,e1,e2,h3,h4⟩:=a7L hc hw s.E;unfold FK BF;rw[e1,e2];simp only[bS,bQ,B7,aH];by_cases p0:s.Pc=0
 ·simp only[p0,beq_self_eq_true,bV];exact⟨_,_,rfl,rfl,_,rfl,hc,aa⟩
 ·have p0':(s.Pc == 0)=false:=aj
  simp only[p0',bR,bN];by_cases p1:s.Pc=1
  ·simp only[p1,beq_self_eq_true,bV];cases h:r.2
   ·rw[h4 h];exact⟨_,_,rfl,rfl,_,rfl,hc,aa⟩
   ·exact⟨_,_,rfl,rfl,_,rfl,h3.1,aa⟩
  ·have p1':(s.Pc == 1)=false:=aj
   simp only[p1',bR,bN];by_cases p2:s.Pc=2
   ·simp only[p2,beq_self_eq_true,bV];by_cases q:b.aJ.aP=s.E
    ·simp only[q,beq_self_eq_true,bV];exact⟨_,_,rfl,rfl,_,rfl,hc,aa⟩
    ·have q':(b.aJ.aP == s.E)=false:=aj
     simp only[q',bR,bN];exact⟨_,_,rfl,rfl,_,rfl,hc,aa⟩
   ·have p2':(s.Pc == 2)=false:=aj
    simp only[p2',bR,bN];exact⟨_,_,rfl,rfl,_,rfl,hc,aa⟩
theorem aZB{b:aA}(hc:XY b.aJ)(s:Sub) :
  ∃x y,o8 b s=some (x,y)/\qJ s b=some (y,x)/\∃cl,x=⟨b.Mem,cl,b.aV,b.jJ⟩/\XY cl/\b.aJ.aP<=cl.aP:=by
 obtain⟨r2,e3,e4,h4⟩:=bA6 hc s.E;unfold o8 qJ l8;rw[e3,e4,cM,lU];simp only[bS,bQ,nN,nO,l7,aH];by_cases p0:s.Pc=0
 ·simp only[p0,beq_self_eq_true,bV];exact⟨_,_,rfl,rfl,_,rfl,hc,aa⟩
 ·have p0':(s.Pc == 0)=false:=aj
  simp only[p0',bR,bN];by_cases p1:s.Pc=1
  ·simp only[p1,beq_self_eq_true,bV,show((1:Int) == 2)=false from rfl,bR,bN];by_cases hB:0<=s.B/\s.B<=2
   ·obtain⟨r,e1,e2,h3,h3'⟩:=a28 hc hB s.E;simp only[bY hB,hU,bR,bN,bV,e1,e2,aH];cases h:r.2
    ·exact⟨_,_,rfl,rfl,_,rfl,h3,aa⟩
    ·by_cases q:bA (s.B+1)=3
     ·simp only[q,beq_self_eq_true,bV,hU,bR,bN];exact⟨_,_,rfl,rfl,_,rfl,h3,aa⟩
     ·have q':(bA (s.B+1) == 3)=false:=aj
      simp only[q',hU,bR,bN];exact⟨_,_,rfl,rfl,_,rfl,h3,aa⟩
   ·simp only[dU hB,I0,bR,bN,bV];exact⟨_,_,rfl,rfl,_,rfl,hc,aa⟩
  ·have p1':(s.Pc == 1)=false:=aj
   simp only[p1',bR,bN];by_cases p2:s.Pc=2
   ·simp only[p2,beq_self_eq_true,bV];cases h:r2.2
    ·simp only[bR,bN];exact⟨_,_,rfl,rfl,_,rfl,h4⟩
    ·simp only[bV];exact⟨_,_,rfl,rfl,_,rfl,h4⟩
   ·have p2':(s.Pc == 2)=false:=aj
    simp only[p2',bR,bN];exact⟨_,_,rfl,rfl,_,rfl,hc,aa⟩
theorem aZC:∀(n:Nat) (l:List Int),l.Nodup->(∀x∈l,0<=x/\x<(n:Int))->l.length<=n
 |0,l,_,h=>by
  cases l with
  |nil=>simp
  |cons a t=>(simp_all;omega)
 |n + 1,l,hn,h=>by
  have ih:=aZC n (l.erase (n:Int)) (hn.erase _) (λx hx=>by
   grind)
  grind
theorem U5(hk:k<l.length)(x:bM):cS (l.set k x)=cS (l.take k)++(x.Rows++cS (l.drop (k+1))):=by simp_all[List.set_eq_take_append_cons_drop,cS]
theorem SF(hk:k<l.length):cS l=cS (l.take k)++(l[k].Rows++cS (l.drop (k+1))):=by grind[aRZ,U5]
theorem OW{l:List aZ}(hk:k<l.length)(x:aZ):fY (l.set k x)=fY (l.take k)++(x.aU++fY (l.drop (k+1))):=by simp_all[List.set_eq_take_append_cons_drop,fY]
theorem LV{l:List aZ}(hk:k<l.length):fY l=fY (l.take k)++(l[k].aU++fY (l.drop (k+1))):=by grind[aRZ,OW]
def aS(l:List bM)(s:Int):Prop:=∃r∈cS l,kX r.Handle/\r.Handle % 32=s
instance (l:List bM) (s:Int):Decidable (aS l s):=by unfold aS;infer_instance
section
variable {l:List bM} (hl:tX l)
include hl
theorem tX.small:(cS l).length<=1073741824/\l.length<=maxLen/\l.length<=1048576/\∀s∈l,s.Rows.length<=24:=by have:=hl.1;have h2:=hl.2.1;refine⟨aa,by grind[maxLen],aa,λs hs=>?_⟩;have:=aAM hs;omega
theorem MT(s:Int):GO l s=some (decide (aS l s)):=by
 have hm:=hl.small;unfold GO;rw[QB hm.1 hm.2.1,aH];have key:=kW (f:=o6 s (cS l)) (cS l) (λk=>(k:Int)) (λr=>¬(kX r.Handle/\r.Handle % 32=s)) (Out.brk ()) (Out.ret true)
  (λk hk hp=>by
   have hk':=hl.2.1;simp only[o6,vO];rw[cQ,aT hk,mU (show k<maxLen by grind[maxLen])];grind[fO,eF])
  (λk hk hp=>by
   simp_all[o6,vO,aT,fO,eF])
  (by simp[o6])
 have key':loop (o6 s (cS l)) 0=_:=key;rw[key'];by_cases q:aS l s
 ·rw[aO (λa=>by obtain⟨r,hr,e⟩:=q;grind),bY q];rfl
 ·rw[aM (λr hr e=>q ⟨r,hr,e⟩),dU q];rfl
theorem XZ(s:Int):HF l s=some (decide (aS l s)):=by
 have hm:=hl.small;unfold HF;have e1:∀(r:dW),sQ r s=some (decide (kX r.Handle/\r.Handle % 32=s)):=by
  intro r;unfold sQ rN;rw[g7];by_cases q:kX r.Handle
  ·rw[q.mod.1];grind
  ·simp[q]
 have e2:∀x∈l,HE x s=some (x.Rows.any λr=>decide (kX r.Handle/\r.Handle % 32=s)):=by
  intro x hx;unfold HE;have:x.Rows.length<=maxLen:=by grind[maxLen]
  rw[show(λy0=>sQ y0 s)=λr=>some (decide (kX r.Handle/\r.Handle % 32=s)) from funext e1,aCD this];rfl
 rw[ZQ hm.2.1 (λx=>x.Rows.any λr=>decide (kX r.Handle/\r.Handle % 32=s)) _ e2];simp only[aH];congr 1;rw[K7,decide_eq_true_iff];simp only[List.any_eq_true,decide_eq_true_eq,aS,cS,aHU];grind
theorem tX.more(hk:k<l.length){r:dW}(hr:FV r)(hn:¬aS l (r.Handle % 32)):tX (l.set k ⟨l[k].Rows++[r]⟩):=by
 have e:=U5 hk (⟨l[k].Rows++[r]⟩:bM);have p:(cS (l.set k ⟨l[k].Rows++[r]⟩)).Perm (r::cS l):=by grind[SF]
 have h1:∀x∈cS (l.set k ⟨l[k].Rows++[r]⟩),FV x:=λx hx=>by
  rcases vJ.1 (p.mem_iff.1 hx) with rfl|h
  ·exact hr
  ·exact hl.2.2.1 x h
 have h2:((cS (l.set k ⟨l[k].Rows++[r]⟩)).map oQ).Nodup:=by refine(List.Perm.nodup_iff (p.map oQ)).2 ?_;rw[aBJ,List.nodup_cons];refine⟨λh=>hn ?_,hl.2.2.2⟩;obtain⟨x,hx,e⟩:=List.mem_map.1 h;exact⟨x,hx,(hl.2.2.1 x hx).1,e⟩
 refine⟨by simpa using hl.1,?_,h1,h2⟩;have:=aZC 24 _ h2 (λx hx=>by
  obtain⟨y,hy,rfl⟩:=List.mem_map.1 hx;have:=(h1 y hy).1.mod;grind[oQ])
 grind
end
theorem a29{b:aA}(hb:nJ b)(hs:TF b)(hw:0<=w/\w<=2)(s:Sub) :
  ∃x y,sG b w s=some (x,y)/\rO s b w=some (y,x)/\∃L,x=⟨b.Mem,b.aJ,L,b.jJ⟩/\tX L/\∀r∈cS L,IV b r:=by
 have hL:=hb.1.2.2.1;have hm:=hb.1.1;have hlen:w.toNat<b.aV.length:=by have:=hL.1;omega
 have hx:idx b.aV w=some b.aV[w.toNat]:=gI hw.1 aa;have hg:b.Mem.aD.Global.length<=maxLen:=by rw[hm.1.2.1];simp[maxLen]
 have ho:b.Mem.aD.Own.length<=maxLen:=by rw[hm.1.2.2.1];simp[maxLen]
 have hall:(gK b.Mem.aD).length<=1073741824:=by have:=hs.1.2.2.2.2;omega
 have hrow:=hL.small.2.2.2 _ (cK hlen);have he:=hb.1.2.1.1;unfold sG rO mZ;rw[cM,dO,pL hm.1.1.1 hall hg ho,IU hm.1.1.1 hall hg ho,eF];simp only[bS,bQ,aH,pW,xO,mY];by_cases p0:s.Pc=0
 ·simp only[p0,beq_self_eq_true,bV];exact⟨_,_,rfl,rfl,_,rfl,hL,hb.2⟩
 ·have p0' : (s.Pc == 0) = false:=aj
  simp only[p0',bR,bN];by_cases p1:s.Pc=1
  ·simp only[p1,beq_self_eq_true,bne_self_eq_false,bR,bN,bV];by_cases q1:0<=s.E/\s.E<=b.aJ.aP
   ·simp only[bY q1,hU,bR,bN];by_cases q2:oJ b.Mem s.A
    ·have hh:=q2.1;simp only[bY q2,hU,bR,bN,aM hh,hh.mod.1,MT hL,XZ hL,aH];by_cases q3:aS b.aV (s.A % 32)
     ·simp only[bY q3,bV];exact⟨_,_,rfl,rfl,_,rfl,hL,hb.2⟩
     ·have hmore:=hL.more hlen (r:=⟨s.A,s.E⟩) ⟨hh,q1.1,aj⟩ q3;have e:KM b.aV w s.A s.E=some (b.aV.set w.toNat ⟨b.aV[w.toNat].Rows++[⟨s.A,s.E⟩]⟩,true):=by unfold KM BC;rw[EN hL.small.1,lU,TJ hL.small.2.2.1 (λs h=>by have:=hL.small.2.2.2 s h;omega)];simp only[bY hL,bY hw,aH,hU,bR,bN,hx];rw[DE,EN hmore.small.1,bY hmore];rfl
      simp only[dU q3,bR,bN,hx,e,aH];rw[DE];refine⟨_,_,rfl,rfl,_,rfl,hmore,λr hr=>?_⟩;rw[U5 hlen] at hr;have hsp:=SF hlen;rcases iO.1 hr with h|h
      ·exact hb.2 r aj
      ·rcases iO.1 h with h|h
       ·rcases iO.1 h with h|h
        ·exact hb.2 r aj
        ·simp at h;subst h;exact⟨q2,q1.2⟩
       ·exact hb.2 r aj
    ·simp only[dU q2,I0,bV];exact⟨_,_,rfl,rfl,_,rfl,hL,hb.2⟩
   ·simp only[dU q1,I0,bV];exact⟨_,_,rfl,rfl,_,rfl,hL,hb.2⟩
  ·have p1':(s.Pc == 1)=false:=aj
   have p1'':(s.Pc != 1)=true:=aj
   simp only[p1',p1'',bR,bN,bV];exact⟨_,_,rfl,rfl,_,rfl,hL,hb.2⟩
def st4(b:List Int)(a:Nat)(n:Int):List Int:=(((b.set a 0).set (a+1) 0).set (a+2) 0).set (a+3) n
theorem K6(b:List Int)(a:Nat)(n:Int):(st4 b a n).length=b.length:=by simp[st4]
theorem aWU{b:List Int}(h:tW b)(a:Nat)(hn:0<=n/\n<=255):tW (st4 b a n):=by
 have key:∀{l:List Int} (i:Nat) (v:Int),tW l->0<=v/\v<=255->tW (l.set i v):=λi v hl hv x hx=>by
  rcases rV hx with h|rfl
  ·exact hl x h
  ·exact hv
 exact key _ _ (key _ _ (key _ _ (key _ _ h aa) aa) aa) hn
theorem a7M(hn:0<=n/\n<=255):((u8 n).toNat:Int)=n:=by grind[u8,UInt8.toNat_ofNat']
theorem aWV{l:List Int}(i:Nat){v:Int}(hl:tW l)(hv:0<=v/\v<=255):tW (l.set i v):=λx hx=>by
 rcases rV hx with h|rfl
 ·exact hl x h
 ·exact hv
def QN(b:List Int)(a:Nat)(n:Int):List Int:=(((b.set a (n/16777216)).set (a+1) (n/65536 % 256)).set (a+2) (n/256 % 256)).set (a+3) (n % 256)
theorem aFL(b:List Int)(a:Nat)(n:Int):(QN b a n).length=b.length:=by simp[QN]
theorem a3A{b:List Int}(h:tW b)(a:Nat)(hn:0<=n/\n<=4294967295):tW (QN b a n):=by grind[QN,aWV]
theorem a3B(b:List Int)(a:Nat)(x y z u:Int):(((b.set (a+3) u).set (a+2) z).set (a+1) y).set a x=(((b.set a x).set (a+1) y).set (a+2) z).set (a+3) u:=by refine List.ext_getElem ae λj h1 h2=>?_;grind
theorem aSN{b:List Int}{a:Nat}(h:a+4<=b.length)(hl:b.length<=100000)(hn:0<=n/\n<=4294967295):iM b (a:Int) 4 n=some (QN b a n):=by
 have st:∀(c:List Int) (m:Int) (i:Nat),c.length=b.length->0<=m->m<=4294967295->i<4->mD (a:Int) (c,m,(i:Int))=some (.next (c.set (a+i) (m % 256),m/256,(i:Int)-1)):=λc m i hc h0 h1 hi=>by simp only[mD];rw[aM ae,cR (x:=(a:Int)+i),show(a:Int)+i=((a+i:Nat):Int) by omega,TD,aH,AK h0,aOI h0,cR (x:=m/256),cR (x:=(i:Int)-1),F8]
 unfold iM;rw[show bA (4-1)=((3:Nat):Int) from by grind[cO]];rw[bW (st b n 3 rfl hn.1 hn.2 aa),show((3:Nat):Int)-1=((2:Nat):Int) by rfl,
  bW (st _ _ 2 ae aa aa aa),show((2:Nat):Int)-1=((1:Nat):Int) by rfl,
  bW (st _ _ 1 ae aa aa aa),show((1:Nat):Int)-1=((0:Nat):Int) by rfl,
  bW (st _ _ 0 ae aa aa aa),bG (r:=QN b a n)]
 ·rfl
 ·simp only[mD];rw[cZ];have e1:n/256/256=n/65536:=aa
  have e2:n/256/256/256=n/16777216:=aa
  have e3:n/16777216 % 256=n/16777216:=aa
  simp_all[QN,a3B]
def FW(n:Int):List UInt8:=[u8 (n/16777216),u8 (n/65536),u8 (n/256),u8 n]
theorem WJ(hn:0<=n/\n<=4294967295):mG n 4=some (FW n):=by
 have hw:A8 4=some true:=by grind[A8,dO]
 unfold mG;rw[hw];have e1:IntKind.u64.wrap (bA (8*4))=32:=ai
 have e2:aLZ .i64 1 32=4294967296:=ai
 simp only[aH,hU,bR,bN,e1,e2];rw[rK,SA,dU aa];simp only[wZ,bR,bN];rw[SA,show bA (4-1)=((3:Nat):Int) from by grind[cO]];have st:∀(m:Int) (c:List UInt8) (i:Nat),i<c.length->i<4->0<=m->qY (m,c,(i:Int))=some (.next (m/256,c.set i (u8 m),(i:Int)-1)):=λm c i hc hi h0=>by simp only[qY];rw[aM ae,aT hc,aH,show(8:Int)=((8:Nat):Int) from rfl,a1P h0 aa,cR,F8];rfl
 rw[bW (st n _ 3 ae aa hn.1),show((3:Nat):Int)-1=((2:Nat):Int) by rfl,
  bW (st _ _ 2 ae aa aa),show((2:Nat):Int)-1=((1:Nat):Int) by rfl,
  bW (st _ _ 1 ae aa aa),show((1:Nat):Int)-1=((0:Nat):Int) by rfl,
  bW (st _ _ 0 ae aa aa),bG (r:=FW n)]
 ·rfl
 ·simp only[qY];rw[cZ];have e1:n/256/256=n/65536:=aa
  rw[e1,show n/65536/256=n/16777216 by omega];rfl
theorem TL(hn:0<=n):((u8 n).toNat:Int)=n % 256:=by
 have:u8 n=u8 (n % 256):=by grind[u8]
 grind[a7M]
theorem aZD{b:List Int}{a:Nat}(h:a+4<=b.length)(hl:b.length<=100000)(hn:0<=n/\n<=4294967295):m7 b (a:Int) (FW n)=some (QN b a n):=by
 have st:∀(c:List Int) (i:Nat) (v:UInt8),c.length=b.length->i<4->idx (FW n) (i:Int)=some v->lL b (a:Int) (FW n) (c,(i:Int))=some (.next (c.set (a+i) (v.toNat:Int),((i+1:Nat):Int))):=λc i v hc hi hv=>by simp only[lL];rw[cE hc,aM (by grind[FW]),hv,aH,cR (x:=(a:Int)+i),show(a:Int)+i=((a+i:Nat):Int) by omega,TD,aH,cR,F8];rfl
 unfold m7;rw[show(0:Int)=((0:Nat):Int) from rfl,bW (st b 0 _ rfl aa rfl),bW (st _ 1 _ ae aa rfl),bW (st _ 2 _ ae aa rfl),bW (st _ 3 _ ae aa rfl),bG (r:=QN b a n)]
 ·grind[PG,PF,cE,aFL]
 ·simp only[lL];rw[cE ae,aO (by simp[FW])];simp only[TL hn.1,TL (show 0<=n/16777216 by omega),TL (show 0<=n/65536 by omega),TL (show 0<=n/256 by omega)];rw[show n/16777216 % 256=n/16777216 by omega];rfl
theorem a7N{b:List Int}{a:Nat}(hn:0<=n/\n<=255):QN b a n=st4 b a n:=by grind[QN,st4]
theorem MU{b:List Int}{a:Nat}(h:a+4<=b.length)(hl:b.length<=100000)(hn:0<=n/\n<=255):iM b (a:Int) 4 n=some (st4 b a n):=by grind[aSN,a7N]
theorem bG3(hn:0<=n/\n<=255):FW n=[0,0,0,u8 n]:=by unfold FW;rw[show n/16777216=0 by omega,show n/65536=0 by omega,show n/256=0 by omega];rfl
theorem aCF(hn:0<=n/\n<=255):mG n 4=some [0,0,0,u8 n]:=by grind[WJ,bG3]
theorem ZU{b:List Int}{a:Nat}(h:a+4<=b.length)(hl:b.length<=100000)(hn:0<=n/\n<=255):m7 b (a:Int) [0,0,0,u8 n]=some (st4 b a n):=by rw[<-bG3 hn,aZD h hl ⟨hn.1,aa⟩,a7N hn]
theorem bCM{x y z:Int}:∀(a:Nat) (l:List Int),a+3<=l.length->dL l a [x,y,z]=((l.set a x).set (a+1) y).set (a+2) z
 |0,l,h=>by
  match l,h with
  |_::_::_::t,_=>simp[dL]
 |a + 1,l,h=>by
  match l,h with
  |u::t,h=>
   have ih:=bCM (x:=x) (y:=y) (z:=z) a t aj;grind[dL]
def a7O(p k:Nat)(c:Int):Nat:=(jR ((p:Int)*4+k) c).toNat
def gB(b:List Int)(p:Nat)(c:Int):Nat->List Int
 |0=>((b.set (p*64) 171).set (p*64+1) c).set (p*64+2) (dN c)
 |k+1=>st4 (gB b p c k) (a7O p k c) 1
theorem TM(b:List Int)(p:Nat)(c:Int):∀k,(gB b p c k).length=b.length
 |0=>by simp[gB]
 |k+1=>by rw[gB,K6,TM b p c k]
theorem aOW{l:List Int}(i:Nat){v:Int}(hl:tW l)(hv:0<=v/\v<=255):tW (l.set i v):=λx hx=>by
 rcases rV hx with h|rfl
 ·exact hl x h
 ·exact hv
theorem aUU{b:List Int}(hb:tW b)(p:Nat){c:Int}(hc:0<=c/\c<=2):∀k,tW (gB b p c k)
 |0=>by have:=oO c;exact aOW _ (aOW _ (aOW _ hb aa) aa) aa
 |k+1=>aWU (aUU hb p hc k) _ aa
def gS(p:Nat)(n:Nat):List Int:=(List.range n).map λ(i:Nat)=>(p:Int)*4+(i:Int)
theorem aOX(p n:Nat):(gS p n).length=n:=by simp[gS]
theorem a1V(p n:Nat):gS p (n+1)=gS p n++[(p:Int)*4+(n:Int)]:=by simp[gS,List.range_succ]
theorem aUV(hp:p<6)(hk:(k:Int)<dN c):jR ((p:Int)*4+k) c=(a7O p k c:Int)/\a7O p k c+4<=384:=by
 have h4:=oO c;have hm:=WG (c:=c) (i:=(k:Int)) aa hk;have hst:4<=bJ c:=by have:0<=c/\c<=2:=AL.1 aa;rcases BP this with e|e|e<;>rw[e]<;>decide
 have e:jR ((p:Int)*4+k) c=(p:Int)*64+8+(k:Int)*bJ c:=by unfold jR;grind
 grind[a7O]
theorem aSO(hp:p<6)(hk:k<4):uE (p:Int) (k:Int)=some ((p:Int)*4+k)/\RW (p:Int) (k:Int)=some ((p:Int)*4+k):=by grind[cO,uE,yQ,cM,RW,HC,dO]
section
variable {b:List Int} (hb:b.length=384) {p:Nat} (hp:p<6) {c:Int} (hc:0<=c/\c<=2)
include hb hp hc
theorem aOY:loop (DP c (p:Int)) ([],0,gB b p c 0)=some (gS p (dN c).toNat,gB b p c (dN c).toNat):=by
 have h4:=oO c;refine fV (dN c).toNat (λk=>(gS p k,(k:Int),gB b p c k)) _ (λk hk=>?_) ?_
 ·have ho:=aUV (c:=c) hp (k:=k) aa;simp only[DP,L6,i6,aH];rw[cQ,(aSO hp aa).1];simp only[aH,xG,ho.1];rw[MU (by grind[TM]) (by grind[TM]) aa];simp only[aH];rw[cE (by grind[aOX]),cR,a1V];rfl
 ·simp only[DP,i6,aH];grind
theorem aZE:loop (KK c (p:Int) (dN c)) ([],0,gB b p c 0)=some (gS p (dN c).toNat,gB b p c (dN c).toNat):=by
 have h4:=oO c;refine fV (dN c).toNat (λk=>(gS p k,(k:Int),gB b p c k)) _ (λk hk=>?_) ?_
 ·have ho:=aUV (c:=c) hp (k:=k) aa;simp only[KK,SN];rw[cQ,(aSO hp aa).2];simp only[aH,DF,ho.1];rw[aCF aa,aH,ZU (by grind[TM]) (by grind[TM]) aa];simp only[aH];rw[cE (by grind[aOX]),cR,a1V];rfl
 ·simp only[KK];grind
end
theorem a7P(hh:HOk h)(hc:0<=c/\c<=2) :
  (pT h c=some (h,[])/\JN h c=some (h,[])) \/
  ∃p,p<6/\cN h p<0/\pT h c=some (⟨gB h.Bytes p c (dN c).toNat,h.Class.set p c⟩,gS p (dN c).toNat)/\JN h c=some (⟨gB h.Bytes p c (dN c).toNat,h.Class.set p c⟩,gS p (dN c).toNat):=by
 have hs:=hh.1;have h6:=hs.2.1;have h384:=hs.1;have hp4:=oO c;have hcp:=WI (h:=h) aa aa;have hne:∀j (hj:j<6),j<h.Class.findIdx (λx=>decide (x = -1))->h.Class[j]≠-1:=λj hj hlt=>aj
 generalize hq:h.Class.findIdx (λx=>decide (x = -1))=q at hne;have hq6:q<=6:=aj
 have s1:∀k (hk:k<q),fL h c (k:Int)=some (.next ((k+1:Nat):Int)):=λk hk=>by
  have:=hne k aa hk;have n:(h.Class[k] != -1)=true:=aj
  simp only[fL,DO];rw[cQ,TD,aH,n,aM rfl,cR];rfl
 have s2:∀k (hk:k<q),fC h.Class (-1) (k:Int)=some (.next ((k+1:Nat):Int)):=λk hk=>by
  have:=hne k aa hk;have n:((-1:Int) == h.Class[k])=false:=aj
  simp only[fC];rw[cQ,TD,aH,n,cR];rfl
 have hm:h.Bytes.length<=maxLen:=by grind[maxLen]
 by_cases h5:q=6
 ·left;have a1:loop (fL h c) 0=some (Out.brk ()):=fV q (λk=>(k:Int)) _ s1 (by simp_all[fL]);have a2:loop (fC h.Class (-1)) 0=some (Out.brk ()):=fV q (λk=>(k:Int)) _ s2 (by simp_all[fC]);constructor
  ·unfold pT;rw[a1];rfl
  ·unfold JN nE;rw[a2,hcp,P9 hm,kC,bY hh,bY hc];rfl
 ·right;have hq5:q<6:=aa
  have he:h.Class[q] = -1:=aj
  refine⟨q,hq5,by grind[aAK],?_,?_⟩
  ·have a1:loop (fL h c) 0=some (Out.ret (⟨gB h.Bytes q c (dN c).toNat,h.Class.set q c⟩,gS q (dN c).toNat)):=fV q (λk=>(k:Int)) _ s1 (by
    have e0:bA ((q:Int)*64)=((q*64:Nat):Int):=by grind[cO]
    have e1:bA (((q*64:Nat):Int)+1)=((q*64+1:Nat):Int):=by grind[cO]
    have e2:bA (((q*64:Nat):Int)+2)=((q*64+2:Nat):Int):=by grind[cO]
    have n:(h.Class[q] != -1)=false:=aj
    simp only[fL,e0,e1,e2,F8];rw[cQ,TD,aH,n,cZ,TD,aH,aT ah,aH,i6,aH,aT ah,aH];have:=aOY h384 hq5 hc;simp only[gB] at this;rw[this];rfl)
   unfold pT;rw[a1];rfl
  ·have a2:loop (fC h.Class (-1)) 0=some (Out.ret (q:Int)):=fV q (λk=>(k:Int)) _ s2 (by
    have n:((-1:Int) == h.Class[q])=true:=by rw[he];rfl
    simp only[fC];rw[cQ,TD,aH,n];rfl)
   unfold JN nE;rw[a2,hcp,P9 hm,kC,bY hh,bY hc];have e0:bA ((q:Int)*64)=((q*64:Nat):Int):=by grind[cO]
   simp only[aH,B6,hU,bR,bN,CY,e0,EM,SO,F8];rw[dU aa,cZ,TD,aH,SA,bCM _ _ aa];have:=aZE h384 hq5 hc;simp only[gB] at this;rw[this];rfl
theorem LOk.count{l:aD}(h:LOk l):(gK l).length<=24:=aZC 24 _ h.2.2.2.2 (λx hx=>by have:=h.2.2.2.1 x hx;omega)
theorem a3C(hs:fW m.Heap)(hc:0<=cC m.Heap s):∃h,wS m s=some h/\KL m s=some h:=by
 unfold wS KL KB SP sC A9;rw[rH hs hc,K3 hs hc,aH,aH,cM,cM,AM,dO];have h1:=(SB hc).1;simp only[bY h1,aH,hU,bR,bN];by_cases q:1<=nI m.Heap s/\nI m.Heap s<=6
 ·simp only[bY q,hU,bR,bN];exact⟨_,rfl,rfl⟩
 ·simp only[dU q,I0,bV];exact⟨_,rfl,rfl⟩
theorem aDE{l:List aZ}(hk:k<l.length)(t:List Int):(fY (l.set k ⟨l[k].aU++t⟩)).length=(fY l).length+t.length:=by grind[OW,LV]
def bt(b:List Int)(i:Nat):Int:=b.getD i 0
theorem aZF{b:List Int}(h:i<b.length):b[i]=bt b i:=by grind[bt]
theorem ld4{b:List Int}{a:Nat}(h:a+4<=b.length):ld b a 4=((bt b a*256+bt b (a+1))*256+bt b (a+2))*256+bt b (a+3):=by grind[ld,FE,ldF,aZF]
theorem TN{b:List Int}{v:Int}(hi:i<b.length):bt (b.set i v) j=if j=i then v else bt b j:=by grind[bt]
theorem MV{b:List Int}{a:Nat}(h:a+4<=b.length)(j:Nat):bt (st4 b a n) j=if j=a+3 then n else if a<=j/\j<a+3 then 0 else bt b j:=by unfold st4;rw[TN ah,TN ah,TN ah,TN aa];omega
theorem aZG{b:List Int}{a:Nat}(h:a+4<=b.length):ld (st4 b a n) a 4=n:=by simp_all[ld4,K6,MV]
theorem WK{b b':List Int}{a:Nat}(h:a+4<=b.length)(hl:b'.length=b.length)(hs:∀j,a<=j->j<a+4->bt b' j=bt b j):ld b' a 4=ld b a 4:=by simp_all[ld4]
def aFM(h:Heap)(p:Nat):Prop:=
 if cN h p<0 then ∀k,k<64->bt h.Bytes (p*64+k)=0
 else((bt h.Bytes (p*64)=171/\bt h.Bytes (p*64+1)=cN h p/\bt h.Bytes (p*64+2)=dN (cN h p))/\(∀k,3<=k->k<8->bt h.Bytes (p*64+k)=0)/\∀i,i<(dN (cN h p)).toNat->1<=ld h.Bytes (p*64+8+i*(bJ (cN h p)).toNat) 4/\ld h.Bytes (p*64+8+i*(bJ (cN h p)).toNat) 4<=7)
theorem aSP(hs:fW h)(hp:p<6)(hk:k<64):(gJ h p).getD k 0=bt h.Bytes (p*64+k):=by rw[<-aSK hs hp hk,aZF (by have:=hs.1;omega)]
theorem aFN{l:List Int}:x∈l↔∃k,k<l.length/\l.getD k 0=x:=by
 rw[aBK];constructor
 ·rintro⟨k,hk,e⟩;exact⟨k,hk,aj⟩
 grind
theorem LW(hs:fW h)(hp:p<6):oX h p↔aFM h p:=by
 unfold oX aFM;have hl:=U0 hs hp;split
 ·constructor
  ·intro q k hk;rw[<-aSP hs hp hk];exact q _ (aFN.2 ⟨k,aa,rfl⟩)
  grind[aFN,aSP]
 ·rw[aSP hs hp aa,aSP hs hp aa,aSP hs hp aa];have e:(∀x∈((gJ h p).drop 3).take 5,x=0)↔∀k,3<=k->k<8->bt h.Bytes (p*64+k)=0:=by
   have g:∀j,j<5->(((gJ h p).drop 3).take 5).getD j 0=bt h.Bytes (p*64+(3+j)):=λj hj=>by rw[<-aSP hs hp aa,TW,TW,aHS,aM hj,List.getElem?_drop]
   constructor
   ·intro q k h3 h8;have:=q _ (aFN.2 ⟨k-3,aj,rfl⟩);grind
   ·intro q x hx;obtain⟨k,hk,rfl⟩:=aFN.1 hx;simp[hl] at hk;rw[g _ hk];exact q _ aa aa
  rw[e];rfl
theorem aFM.same{h':Heap}(hp:p<6)(hs:fW h)(hl:h'.Bytes.length=h.Bytes.length)(hc:cN h' p=cN h p)(hb:∀k,k<64->bt h'.Bytes (p*64+k)=bt h.Bytes (p*64+k))(q:aFM h p):aFM h' p:=by
 have h1:=hs.1;unfold aFM at q ⊢;rw[hc];split
 ·grind
 ·rename_i q0;rw[aO q0] at q;obtain⟨⟨a1,a2,a3⟩,a4,a5⟩:=q;have b0:=hb 0 aa;have b1:=hb 1 aa;have b2:=hb 2 aa;simp only[aBL] at b0;refine⟨⟨aa,aa,aa⟩,λk k3 k8=>aj,λi hi=>?_⟩;have hz:=xH hs hp (c:=cN h p) rfl hi;rw[WK (b:=h.Bytes) aa hl λj j1 j2=>by
   have:=hb (j-p*64) aa;grind]
  grind
theorem IW(hc:0<=cC h s):∃p i,p<6/\i<(dN (cN h p)).toNat/\s=(p:Int)*4+i/\cC h s=cN h p/\(jR s (cC h s)).toNat=p*64+8+i*(bJ (cN h p)).toNat/\(s/4).toNat=p:=by obtain⟨h1,h2,h3⟩:=SB hc;have hle:=oO (cN h (s/4).toNat);refine⟨(s/4).toNat,(s % 4).toNat,aa,aa,aa,h3,?_,rfl⟩;rw[h3];unfold jR;rw[aM ⟨h1,aa⟩];grind[bJ]
theorem WL(hi:i<(dN c).toNat)(hj:j<(dN c).toNat)(hn:i≠j):i*(bJ c).toNat+4<=j*(bJ c).toNat\/j*(bJ c).toNat+4<=i*(bJ c).toNat:=by
 have hc:0<=c/\c<=2:=AL.1 aa;have h12:12<=(bJ c).toNat:=by rcases BP hc with rfl|rfl|rfl<;>decide
 rcases Nat.lt_or_gt_of_ne hn with q|q
 ·left;have:(i+1)*(bJ c).toNat<=j*(bJ c).toNat:=vK _ q;rw[nK] at this;omega
 ·right;have:(j+1)*(bJ c).toNat<=i*(bJ c).toNat:=vK _ q;rw[nK] at this;omega
theorem HOk.bEZ(hh:HOk h){g:Int}(hc:0<=cC h s)(hg:1<=g/\g<=7) :
  HOk ⟨st4 h.Bytes (jR s (cC h s)).toNat g,h.Class⟩/\∀t,0<=cC h t->nI ⟨st4 h.Bytes (jR s (cC h s)).toNat g,h.Class⟩ t=if t=s then g else nI h t:=by
 obtain⟨hs,hp⟩:=hh;have h384:=hs.1;have hs':fW ⟨st4 h.Bytes (jR s (cC h s)).toNat g,h.Class⟩:=⟨by grind[K6],hs.2.1,aWU hs.2.2.1 _ aa,hs.2.2.2⟩;obtain⟨p,i,p6,hi,es,ec,eo,ep⟩:=IW hc;have hz:=xH hs p6 rfl hi;have h4:=oO (cN h p);refine⟨⟨hs',λq hq=>?_⟩,λt ht=>?_⟩
 ·rw[LW hs' hq];have hold:=(LW hs hq).1 (hp q hq);by_cases e:q=p
  ·subst e;have hpos:0<dN (cN h q):=aa
   have hcl:¬cN h q<0:=aa
   unfold aFM at hold ⊢;have hcl':cN ⟨st4 h.Bytes (jR s (cC h s)).toNat g,h.Class⟩ q=cN h q:=rfl;rw[hcl'];rw[aO hcl] at hold ⊢;obtain⟨⟨a1,a2,a3⟩,a4,a5⟩:=hold;have bs:∀k,k<8->bt (st4 h.Bytes (jR s (cC h s)).toNat g) (q*64+k)=bt h.Bytes (q*64+k):=λk hk=>by rw[MV aa,xK,xK]
   have b0:=bs 0 aa;have b1:=bs 1 aa;have b2:=bs 2 aa;simp only[aBL] at b0;refine⟨⟨aj,aj,aj⟩,λk k3 k8=>aj,λj hj=>?_⟩;have hzj:=xH hs p6 rfl hj;by_cases ej:j=i
   ·grind[aZG]
   ·rw[WK (b:=h.Bytes) aa (by grind[K6]) λk k1 k2=>?_]
    ·grind
    ·simp only[eo];have:=WL hi hj (λq=>ej q.symm);rw[MV aa,xK,xK]
  ·refine aFM.same hq hs (by grind[K6]) rfl (λk hk=>?_) hold;rw[MV aa,xK,xK]
 ·have e2:cC ⟨st4 h.Bytes (jR s (cC h s)).toNat g,h.Class⟩ t=cC h t:=rfl;unfold nI;rw[e2];by_cases e:t=s
  ·subst e;rw[aM rfl];grind[aZG]
  ·rw[aO e];obtain⟨p',i',p6',hi',es',ec',eo',ep'⟩:=IW ht;have hz':=xH hs p6' rfl hi';rw[WK (b:=h.Bytes) aa (by grind[K6]) λk k1 k2=>?_];simp only;by_cases ee:p'=p
   ·subst ee;have:=WL hi hi' (λq=>e aa);rw[MV aa,xK,xK]
   ·have h4':=oO (cN h p');rw[MV aa,xK,xK]
theorem aLF(hp:p<6)(hk:(k:Int)<dN c):a7O p k c=p*64+8+k*(bJ c).toNat/\8+k*(bJ c).toNat+4<=64:=by have hc:0<=c/\c<=2:=AL.1 aa;have h1:=aUV (c:=c) hp hk;have hle:=oO c;have e:=h1.1;unfold jR at e;rw[aM aa] at e;grind[bJ,dN]
theorem bCN{b:List Int}{p:Nat}{c:Int}(hl:b.length=384)(hp:p<6)(hc:0<=c/\c<=2):∀k:Nat,(k:Int)<=dN c->∀j,(j<p*64\/p*64+64<=j->bt (gB b p c k) j=bt b j)/\(3<=j->j<8->bt (gB b p c k) (p*64+j)=bt b (p*64+j))/\bt (gB b p c k) (p*64)=171/\bt (gB b p c k) (p*64+1)=c/\bt (gB b p c k) (p*64+2)=dN c
 |0,hk,j=>by
  have key:∀i,bt (gB b p c 0) i=if i=p*64+2 then dN c else if i=p*64+1 then c else if i=p*64 then 171 else bt b i:=λi=>by grind[gB,TN]
  grind
 |k + 1,hk,j=>by
  have ih:=bCN hl hp hc k aa;have hoff:=aLF (c:=c) hp (by omega:(k:Int)<dN c);have hbl:=TM b p c k;unfold gB;refine⟨λh=>?_,λh1 h2=>?_,?_,?_,?_⟩
  ·rw[MV aa,xK,xK];grind
  ·rw[MV aa,xK,xK];grind
  ·rw[MV aa,xK,xK];exact(ih j).2.2.1
  ·rw[MV aa,xK,xK];exact(ih j).2.2.2.1
  ·rw[MV aa,xK,xK];exact(ih j).2.2.2.2
theorem a7Q{b:List Int}{p:Nat}{c:Int}(hl:b.length=384)(hp:p<6):∀k:Nat,(k:Int)<=dN c->∀i,i<k->ld (gB b p c k) (p*64+8+i*(bJ c).toNat) 4=1
 |0,_,i,h=>absurd h aa
 |k + 1,hk,i,h=>by
  have hbl:=TM b p c k;have ho:=aLF (c:=c) hp (by omega:(k:Int)<dN c);unfold gB;by_cases e:i=k
  ·grind[aZG]
  ·have hoi:=aLF (c:=c) hp (by omega:(i:Int)<dN c);have ha:=WL (c:=c) (i:=i) (j:=k) aa aa e;rw[WK (b:=gB b p c k) aa (by rw[K6]) λj j1 j2=>by rw[MV aa,xK,xK]];exact a7Q hl hp k aa i aa
theorem aFO(hs:fW h){B:List Int}{q:Nat}(hq:q<6):cN ⟨B,h.Class.set p c⟩ q=if q=p then c else cN h q:=by have h6:=hs.2.1;grind[cN]
theorem HOk.bG4(hh:HOk h)(hp:p<6)(hun:cN h p<0)(hc:0<=c/\c<=2) :
  HOk ⟨gB h.Bytes p c (dN c).toNat,h.Class.set p c⟩/\(∀t,(t/4).toNat≠p->cC ⟨gB h.Bytes p c (dN c).toNat,h.Class.set p c⟩ t=cC h t)/\(∀t,0<=cC h t->(t/4).toNat≠p/\nI ⟨gB h.Bytes p c (dN c).toNat,h.Class.set p c⟩ t=nI h t) /\
   ∀i,i<(dN c).toNat->cC ⟨gB h.Bytes p c (dN c).toNat,h.Class.set p c⟩ ((p:Int)*4+i)=c/\nI ⟨gB h.Bytes p c (dN c).toNat,h.Class.set p c⟩ ((p:Int)*4+i)=1:=by
 obtain⟨hs,hpg⟩:=hh;have h384:=hs.1;have hle:=oO c;have hpn:((dN c).toNat:Int)<=dN c:=aa
 have hb:=bCN h384 hp hc (dN c).toNat hpn;have hbl:=TM h.Bytes p c (dN c).toNat;have hs':fW ⟨gB h.Bytes p c (dN c).toNat,h.Class.set p c⟩:=⟨by simp only[hbl];exact h384,by simp only[cB];exact hs.2.1,aUU hs.2.2.1 p hc _,λx hx=>by
  rcases rV hx with q|rfl
  ·exact hs.2.2.2 x q
  ·omega⟩
 have hcls:∀t:Int,(t/4).toNat≠p->cC ⟨gB h.Bytes p c (dN c).toNat,h.Class.set p c⟩ t=cC h t:=λt ht=>by
  unfold cC;by_cases q:0<=t/\t<=23
  ·rw[aFO hs aa,aO ht]
  ·rw[aO (λz=>q z.1),aO (λz=>q z.1)]
 refine⟨⟨hs',λq hq=>?_⟩,hcls,λt ht=>?_,λi hi=>?_⟩
 ·rw[LW hs' hq];have hold:=(LW hs hq).1 (hpg q hq);by_cases e:q=p
  ·subst e;unfold aFM at hold ⊢;rw[aM hun] at hold;rw[aFO hs hq,aM rfl,xK];refine⟨(hb 0).2.2,λk k3 k8=>?_,λi hi=>?_⟩
   ·simp only;rw[(hb k).2.1 k3 k8];exact hold k aa
   ·simp only;rw[a7Q h384 hp _ hpn i hi];omega
  ·refine aFM.same hq hs (by simp only[hbl]) (by rw[aFO hs hq,aO e]) (λk hk=>?_) hold;exact(hb _).1 aa
 ·obtain⟨p',i',p6',hi',es',ec',eo',ep'⟩:=IW ht;have hne:(t/4).toNat≠p:=λz=>by rw[ec',<-ep',z] at ht;omega
  refine⟨hne,?_⟩;have hz':=xH hs p6' rfl hi';unfold nI;rw[hcls t hne,WK (b:=h.Bytes) aa (by simp only[hbl]) λk k1 k2=>(hb k).1 aa]
 ·have e1:((p:Int)*4+i)/4=p:=aa
  have e2:((p:Int)*4+i) % 4=i:=aa
  have ec:cC ⟨gB h.Bytes p c (dN c).toNat,h.Class.set p c⟩ ((p:Int)*4+i)=c:=by unfold cC;rw[e1,e2,F8,aFO hs hp,aM rfl,aM aa]
  refine⟨ec,?_⟩;unfold nI;rw[ec];have ho:=aLF (c:=c) hp (by omega:(i:Int)<dN c);have:(jR ((p:Int)*4+i) c).toNat=p*64+8+i*(bJ c).toNat:=ho.1;rw[this];exact a7Q h384 hp _ hpn i hi
def AO(m m':Mem)(k:Int):Prop:=oP m'/\∀s,rI m s=3->s≠k->rI m' s=3/\nI m'.Heap s=nI m.Heap s/\cC m'.Heap s=cC m.Heap s
theorem AO.refl(h:oP m)(k:Int):AO m m k:=⟨h,λ_ h _=>⟨h,rfl,rfl⟩⟩
theorem AO.live{m':Mem}{k h:Int}(q:AO m m' k)(hl:oJ m h)(hn:h % 32≠k):oJ m' h:=by obtain⟨h1,h2,h3⟩:=hl;obtain⟨a,b,_⟩:=q.2 _ h2 hn;exact⟨h1,a,aa⟩
theorem SG{l:List aZ}(hk:k<l.length){t:aZ}:iD (l.set k t) j=if j=k then t.aU else iD l j:=by grind[iD]
theorem aSQ{l:List aZ}(hk:k<l.length){t:aZ}(ht:t.aU.Sublist l[k].aU):(fY (l.set k t)).Sublist (fY l):=by grind[OW,LV]
theorem aFP{l:List aZ}(hk:k<l.length):s∈fY (l.set k ⟨l[k].aU++xs⟩)↔s∈fY l\/s∈xs:=by grind[OW,LV]
theorem ZV{l:List aZ}(hk:k<l.length){r q:List Int}(h:(q++(fY l++r)).Nodup)(hx:xs.Nodup)(hd:∀x∈xs,x∉q++(fY l++r)):(q++(fY (l.set k ⟨l[k].aU++xs⟩)++r)).Nodup:=by
 have hp:(q++(fY (l.set k ⟨l[k].aU++xs⟩)++r)).Perm (xs++(q++(fY l++r))):=by rw[OW hk,LV hk];grind
 grind
theorem tY:rI m s=3↔0<=cC m.Heap s/\s∉gK m.aD/\nI m.Heap s<=6:=by unfold rI;grind
section
variable {m:Mem} (hm:oP m)
include hm
theorem oP.bE0(hk:k<9){t:aZ}(ht:t.aU.Sublist (iD m.aD.Own k)):AO m ⟨m.Heap,⟨m.aD.Global,m.aD.Own.set k t⟩⟩ (-1):=by
 obtain⟨⟨hh,h3,h9,h2,hr,hn⟩,hg,ho⟩:=hm;have hk':k<m.aD.Own.length:=aa
 have ht':t.aU.Sublist m.aD.Own[k].aU:=by grind[fB]
 have hsub:(gK ⟨m.aD.Global,m.aD.Own.set k t⟩).Sublist (gK m.aD):=(List.Sublist.refl _).append (aSQ hk' ht');refine⟨⟨⟨hh,h3,aj,λs hs=>?_,λx hx=>hr x (hsub.subset hx),hsub.nodup hn⟩,hg,λj hj=>?_⟩,λs hs _=>⟨?_,rfl,rfl⟩⟩
 ·grind
 ·unfold I5;simp only[SG hk'];split
  ·rename_i e;subst e;exact λx hx=>ho j hj x (ht.subset hx)
  ·exact ho j hj
 grind[tY]
theorem oP.a3D(hk:k<3){t:aZ}(ht:t.aU.Sublist (iD m.aD.Global k)):AO m ⟨m.Heap,⟨m.aD.Global.set k t,m.aD.Own⟩⟩ (-1):=by
 obtain⟨⟨hh,h3,h9,h2,hr,hn⟩,hg,ho⟩:=hm;have hk':k<m.aD.Global.length:=aa
 have ht':t.aU.Sublist m.aD.Global[k].aU:=by grind[fB]
 have hsub:(gK ⟨m.aD.Global.set k t,m.aD.Own⟩).Sublist (gK m.aD):=(aSQ hk' ht').append (List.Sublist.refl _);refine⟨⟨⟨hh,aj,h9,h2,λx hx=>hr x (hsub.subset hx),hsub.nodup hn⟩,λj hj=>?_,ho⟩,λs hs _=>⟨?_,rfl,rfl⟩⟩
 ·unfold TE;simp only[SG hk'];split
  ·rename_i e;subst e;exact λx hx=>hg j hj x (ht.subset hx)
  ·exact hg j hj
 grind[tY]
theorem oP.bA7(hk:k<9)(hl:(iD m.aD.Own k).length+xs.length<=2)(hx:xs.Nodup)(hf:IT m.Heap xs ((k % 3:Nat):Int))(hd:∀x∈xs,x∉gK m.aD)(hk':k<m.aD.Own.length) :
  oP ⟨m.Heap,⟨m.aD.Global,m.aD.Own.set k ⟨m.aD.Own[k].aU++xs⟩⟩⟩/\∀s,s∉xs->rI m s=3->rI ⟨m.Heap,⟨m.aD.Global,m.aD.Own.set k ⟨m.aD.Own[k].aU++xs⟩⟩⟩ s=3:=by
 obtain⟨⟨hh,h3,h9,h2,hr,hn⟩,hg,ho⟩:=hm;have hmem:∀s,s∈gK ⟨m.aD.Global,m.aD.Own.set k ⟨m.aD.Own[k].aU++xs⟩⟩↔s∈gK m.aD\/s∈xs:=λs=>by simp[gK,aFP,or_assoc]
 have hcl:∀x∈xs,0<=x/\x<=23:=λx h=>by have:=(hf x h).1;exact(SB (h:=m.Heap) (s:=x) aa).1
 refine⟨⟨⟨hh,h3,aj,λs hs=>?_,λx hx=>?_,?_⟩,hg,λj hj=>?_⟩,λs hs h3=>?_⟩
 ·grind[fB]
 ·grind
 ·have:=ZV (q:=fY m.aD.Global) (r:=[]) hk' (by grind[gK]) hx (by grind[gK]);grind[gK]
 ·unfold I5;simp only[SG hk'];split
  ·rename_i e;subst e;intro x hx;rcases iO.1 hx with q|q
   ·rw[fB hk'] at q;exact ho j hj x q
   ·exact hf x q
  ·exact ho j hj
 grind[tY]
theorem oP.aOZ(hk:k<3)(hx:xs.Nodup)(hf:IT m.Heap xs (k:Int))(hd:∀x∈xs,x∉gK m.aD)(hk':k<m.aD.Global.length) :
  oP ⟨m.Heap,⟨m.aD.Global.set k ⟨m.aD.Global[k].aU++xs⟩,m.aD.Own⟩⟩/\∀s,s∉xs->rI m s=3->rI ⟨m.Heap,⟨m.aD.Global.set k ⟨m.aD.Global[k].aU++xs⟩,m.aD.Own⟩⟩ s=3:=by
 obtain⟨⟨hh,h3,h9,h2,hr,hn⟩,hg,ho⟩:=hm;have hmem:∀s,s∈gK ⟨m.aD.Global.set k ⟨m.aD.Global[k].aU++xs⟩,m.aD.Own⟩↔s∈gK m.aD\/s∈xs:=λs=>by simp[gK,aFP,or_right_comm]
 have hcl:∀x∈xs,0<=x/\x<=23:=λx h=>by have:=(hf x h).1;exact(SB (h:=m.Heap) (s:=x) aa).1
 refine⟨⟨⟨hh,aj,h9,h2,λx hx=>?_,?_⟩,λj hj=>?_,ho⟩,λs hs h3=>?_⟩
 ·grind
 ·have:=ZV (q:=[]) (r:=fY m.aD.Own) hk' (by grind[gK]) hx (by grind[gK]);grind[gK]
 ·unfold TE;simp only[SG hk'];split
  ·rename_i e;subst e;intro x hx;rcases iO.1 hx with q|q
   ·rw[fB hk'] at q;exact hg j hj x q
   ·exact hf x q
  ·exact hg j hj
 grind[tY]
theorem oP.ZW(hx:x∈gK m.aD):0<=cC m.Heap x/\nI m.Heap x<=6:=by
 obtain⟨⟨hh,h3,h9,h2,hr,hn⟩,hg,ho⟩:=hm;have key:∀(l:List aZ),x∈fY l->∃k,k<l.length/\x∈iD l k:=λl h=>by grind[aAO,aBK,fB]
 rcases iO.1 hx with q|q
 ·obtain⟨k,hk,h⟩:=key _ q;have:=hg k aa x h;omega
 ·obtain⟨k,hk,h⟩:=key _ q;have:=ho k aa x h;omega
theorem oP.heap{h':Heap}(hh:HOk h')(hs:∀x∈gK m.aD,cC h' x=cC m.Heap x/\nI h' x=nI m.Heap x):oP ⟨h',m.aD⟩:=by
 obtain⟨⟨_,hl⟩,hg,ho⟩:=hm;have key:∀(l:List aZ) k x,x∈iD l k->x∈fY l:=λl k x h=>by grind[iD,aAO]
 refine⟨⟨hh,hl⟩,λk hk x hx=>?_,λk hk x hx=>?_⟩
 ·obtain⟨a,b⟩:=hs x (List.mem_append_left _ (key _ k x hx));show cC h' x=_/\nI h' x<=6;rw[a,b];exact hg k hk x hx
 ·obtain⟨a,b⟩:=hs x (List.mem_append_right _ (key _ k x hx));show cC h' x=_/\nI h' x<=6;rw[a,b];exact ho k hk x hx
theorem oP.bIU{g:Int}(hu:rI m s=3)(hg:1<=g/\g<=7):AO m ⟨⟨st4 m.Heap.Bytes (jR s (cC m.Heap s)).toNat g,m.Heap.Class⟩,m.aD⟩ s/\nI ⟨st4 m.Heap.Bytes (jR s (cC m.Heap s)).toNat g,m.Heap.Class⟩ s=g:=by
 have hu':=tY.1 hu;obtain⟨a,b⟩:=HOk.bEZ hm.1.1 hu'.1 hg;refine⟨⟨oP.heap hm a λx hx=>⟨rfl,?_⟩,λt ht hn=>?_⟩,aj⟩
 ·rw[b x (oP.ZW hm hx).1,aO (show ¬x=s from λe=>hu'.2.1 (e ▸ hx))]
 ·have ht':=tY.1 ht;have e:nI ⟨st4 m.Heap.Bytes (jR s (cC m.Heap s)).toNat g,m.Heap.Class⟩ t=nI m.Heap t:=aj
  exact⟨tY.2 ⟨ht'.1,ht'.2.1,aj⟩,e,rfl⟩
theorem oP.bG5(hp:p<6)(hun:cN m.Heap p<0)(hc:0<=c/\c<=2)(hxs:∀x∈xs,∃i,i<(dN c).toNat/\x=(p:Int)*4+(i:Nat))(hx:xs.Nodup)(hk':c.toNat<m.aD.Global.length) :
  AO m ⟨⟨gB m.Heap.Bytes p c (dN c).toNat,m.Heap.Class.set p c⟩,⟨m.aD.Global.set c.toNat ⟨m.aD.Global[c.toNat].aU++xs⟩,m.aD.Own⟩⟩ (-1):=by
 obtain⟨a,b,d,e⟩:=HOk.bG4 hm.1.1 hp hun hc;have h1:oP ⟨⟨gB m.Heap.Bytes p c (dN c).toNat,m.Heap.Class.set p c⟩,m.aD⟩:=oP.heap hm a λx hx=>by grind[oP.ZW]
 have hno:∀x∈xs,¬0<=cC m.Heap x:=λx h q=>by obtain⟨i,hi,rfl⟩:=hxs x h;have h4:=oO c;exact(d _ q).1 aa
 obtain⟨f,g⟩:=oP.aOZ h1 (k:=c.toNat) aa hx (λx h=>by
  obtain⟨i,hi,rfl⟩:=hxs x h
  (simp_all;omega)) (λx h q=>hno x h (oP.ZW hm q).1) hk'
 refine⟨f,λs hs _=>?_⟩;grind[tY]
end
theorem bE1{n:Nat}(h:x∈gS p n):∃i,i<n/\x=(p:Int)*4+(i:Nat):=by grind[gS]
theorem a7R(p n:Nat):(gS p n).Nodup:=by grind[gS,List.nodup_range]
theorem aWW(hm:oP m)(hc:0<=c/\c<=2) :
  ∃m' s,AX m c=some (m',s)/\N9 m c=some (m',s)/\FC m'/\(0<=s->fW m'.Heap/\0<=cC m'.Heap s)/\AO m m' (-1):=by
 have hl:=hm.1.2;have hcnt:=hl.count;have hs:=hm.1.1.1;have hsl:=hl.aIC aa;have hp4:=oO c;have hpp:0<dN c:=AL.2 hc;have hall:=wO m.aD;have hsG:∀s∈m.aD.Global,s.aU.length<=24:=λs h=>by have:=LU h;omega
 have hsO:∀s∈m.aD.Own,s.aU.length<=24:=λs h=>by have:=LU h;omega
 have h3:=hl.1;have h9:=hl.2.1;have hcpl:=TH (l:=m.aD) aa aa (λs h=>aj) (λs h=>aj);unfold AX N9;rcases a7P hm.1.1 hc with ⟨e1,e2⟩|⟨p,hp,hun,e1,e2⟩
 ·rw[e1,e2,hcpl];have h1:=hs.1;have h2:=hs.2.1;exact⟨_,_,rfl,rfl,⟨aj,aj,aj,aj,aj⟩,λh=>absurd h aa,AO.refl hm _⟩
 ·rw[e1,e2,hcpl];simp only[aH,MF,ME,DQ,aOX];have hn:(((dN c).toNat:Int) == 0)=false:=aj
  have hk:c.toNat<m.aD.Global.length:=aa
  have hg0:=hsG _ (cK hk);have hx:idx m.aD.Global c=some m.aD.Global[c.toNat]:=gI hc.1 aa;have hz:idx (gS p (dN c).toNat) 0=some ((p:Int)*4):=by grind[aT,gS]
  have hlen:(List.drop (1:Int).toNat (List.take (dN c).toNat (gS p (dN c).toNat))).length<=4:=aj
  simp only[hn,bR,bN,hx,aH,hz];rw[SA,SA];have hcl:cN ⟨gB m.Heap.Bytes p c (dN c).toNat,m.Heap.Class.set p c⟩ p=c:=by grind[cN]
  refine⟨_,_,rfl,rfl,⟨by simp only[TM];have:=hs.1;omega,by simp only[cB];have:=hs.2.1;omega,aj,aj,?_⟩,λ_=>⟨⟨by simp only[TM];exact hs.1,by simp only[cB];exact hs.2.1,aUU hs.2.2.1 p hc _,λx hx=>?_⟩,?_⟩,?_⟩
  ·grind[wO,aDE]
  ·rcases rV hx with h|rfl
   ·exact hs.2.2.2 x h
   ·omega
  ·unfold cC
   (simp_all;omega)
  grind[oP.bG5,bE1,a7R]
theorem aZH(n:Int):∃c,AV n=some c/\N6 n=some c/\(c = -1\/(0<=c/\c<=2)):=by
 have s1:∀k,0<=k/\k<=2->gC n k=some (if 1<=n/\n<=kZ k then .stop (Out.ret k) else .next (k+1)):=λk hk=>by simp only[gC];rw[cQ,P7,aH,cM,aH,cR];grind
 have s2:∀k,0<=k/\k<=2->j6 n k=some (if 1<=n/\n<=kZ k then .stop (Out.ret k) else .next (k+1)):=λk hk=>by simp only[j6,D1];rw[cQ,ZK,aH,cR];grind
 have st:∀k,0<=k/\k<=2->1<=n/\n<=kZ k->loop (gC n) k=some (Out.ret k)/\loop (j6 n) k=some (Out.ret k):=λk hk h=>
  ⟨bG aj,bG aj⟩
 have nx:∀k,0<=k/\k<=2->¬(1<=n/\n<=kZ k)->loop (gC n) k=loop (gC n) (k+1)/\loop (j6 n) k=loop (j6 n) (k+1):=λk hk h=>
  ⟨bW aj,bW aj⟩
 unfold AV N6;by_cases q0:1<=n/\n<=kZ 0
 ·have:=st 0 aa q0;rw[this.1,this.2];exact⟨_,rfl,rfl,.inr aa⟩
 ·have h0:=nx 0 aa q0;rw[h0.1,h0.2,show(0:Int)+1=1 from rfl];by_cases q1:1<=n/\n<=kZ 1
  ·have:=st 1 aa q1;rw[this.1,this.2];exact⟨_,rfl,rfl,.inr aa⟩
  ·have h1:=nx 1 aa q1;rw[h1.1,h1.2,show(1:Int)+1=2 from rfl];by_cases q2:1<=n/\n<=kZ 2
   ·have:=st 2 aa q2;rw[this.1,this.2];exact⟨_,rfl,rfl,.inr aa⟩
   ·have h2:=nx 2 aa q2;rw[h2.1,h2.2,show(2:Int)+1=3 from rfl,bG (body:=gC n) (r:=Out.brk ()) (by simp[gC]),bG (body:=j6 n) (r:=Out.brk ()) (by simp[j6])];exact⟨_,rfl,rfl,.inl rfl⟩
theorem a7S{s:aZ}(hl:s.aU.length<=1048576):∃t x,qV s=some (t,x)/\zC s=some (x,t)/\t.aU.length<=s.aU.length/\(0<=x->x∈s.aU)/\t.aU.Sublist s.aU:=by
 unfold qV zC J9;rw[cR];by_cases q:s.aU.length=0
 ·rw[aM aj,cQ];grind
 ·have hx:idx s.aU ((s.aU.length:Int)-1)=some (s.aU[s.aU.length-1]' aa):=by grind[aT]
  rw[aO aj,rK,SA,hx];simp only[aH];grind[cE]
theorem U6(hw:0<=w/\w<=2)(hc:0<=c/\c<=2):yO w c=some (w*3+c)/\PE w c=some (w*3+c):=by grind[cO,yO,CM,cM,PE,KH,lU,kC]
theorem aO0{l:List aZ}(hk:k<l.length){t:aZ}(ht:t.aU.length<=l[k].aU.length):(fY (l.set k t)).length<=(fY l).length:=by grind[OW,LV]
section
variable {m:Mem} (hm:oP m)
include hm
theorem oP.facts:(gK m.aD).length<=24/\m.aD.Global.length=3/\m.aD.Own.length=9/\m.Heap.Bytes.length=384/\m.Heap.Class.length=6/\FC m/\iX m.aD=some m.aD/\qE m.aD=some true /\
  (∀s∈m.aD.Global,s.aU.length<=24)/\(∀s∈m.aD.Own,s.aU.length<=24):=by
 have hl:=hm.1.2;have hcnt:=hl.count;have hall:=wO m.aD;have hsG:∀s∈m.aD.Global,s.aU.length<=24:=λs h=>by have:=LU h;omega
 have hsO:∀s∈m.aD.Own,s.aU.length<=24:=λs h=>by have:=LU h;omega
 have h3:=hl.1;have h9:=hl.2.1;have h1:=hm.1.1.1.1;have h2:=hm.1.1.1.2.1;refine⟨hcnt,h3,h9,h1,h2,⟨aa,aa,aa,aa,aa⟩,TH aa aa (λs h=>aj) (λs h=>aj),by grind[XX],hsG,hsO⟩
theorem aO1(hw:0<=w/\w<=2)(hc:0<=c/\c<=2) :
  ∃l t x,idx m.aD.Own (w*3+c)=some l/\qV l=some (t,x)/\N7 m.aD w c=some (⟨m.aD.Global,m.aD.Own.set (w*3+c).toNat t⟩,x) /\
   FC ⟨m.Heap,⟨m.aD.Global,m.aD.Own.set (w*3+c).toNat t⟩⟩/\(0<=x->0<=cC m.Heap x)/\AO m ⟨m.Heap,⟨m.aD.Global,m.aD.Own.set (w*3+c).toNat t⟩⟩ (-1):=by
 obtain⟨hcnt,h3,h9,h1,h2,hsm,hcp,hlo,hsG,hsO⟩:=oP.facts hm;have hk:(w*3+c).toNat<m.aD.Own.length:=aa
 have hx:idx m.aD.Own (w*3+c)=some m.aD.Own[(w*3+c).toNat]:=gI aa aa;have h24:=hsO _ (cK hk);obtain⟨t,x,e1,e2,ht,hmem,hsub⟩:=a7S (s:=m.aD.Own[(w*3+c).toNat]) aa;have hall:=wO m.aD;refine⟨_,t,x,hx,e1,?_,⟨aj,aj,aj,aj,?_⟩,λh0=>?_,oP.bE0 hm aa (by grind[fB])⟩
 ·unfold N7 D3;rw[hcp,(U6 hw hc).2,hlo];grind
 ·grind[aO0,wO]
 ·have:=hm.2.2 (w*3+c).toNat aa x (by grind[fB]);omega
theorem aCG(hc:0<=c/\c<=2) :
  ∃l t x,idx m.aD.Global c=some l/\qV l=some (t,x)/\D4 m.aD c=some (⟨m.aD.Global.set c.toNat t,m.aD.Own⟩,x) /\
   FC ⟨m.Heap,⟨m.aD.Global.set c.toNat t,m.aD.Own⟩⟩/\(0<=x->0<=cC m.Heap x)/\AO m ⟨m.Heap,⟨m.aD.Global.set c.toNat t,m.aD.Own⟩⟩ (-1):=by
 obtain⟨hcnt,h3,h9,h1,h2,hsm,hcp,hlo,hsG,hsO⟩:=oP.facts hm;have hk:c.toNat<m.aD.Global.length:=aa
 have hx:idx m.aD.Global c=some m.aD.Global[c.toNat]:=gI aa aa;have h24:=hsG _ (cK hk);obtain⟨t,x,e1,e2,ht,hmem,hsub⟩:=a7S (s:=m.aD.Global[c.toNat]) aa;have hall:=wO m.aD;refine⟨_,t,x,hx,e1,?_,⟨aj,aj,aj,aj,?_⟩,λh0=>?_,oP.a3D hm aa (by grind[fB])⟩
 ·simp_all[D4,uQ,kC]
 ·grind[aO0,wO]
 ·have:=hm.2.1 c.toNat aa x (by grind[fB]);omega
theorem aUW{h:Int}(hw:0<=w/\w<=2)(hv:oJ m h):∃m',yW m w (h % 32)=some m'/\PJ m w h=some m'/\FC m'/\AO m m' (h % 32):=by
 obtain⟨hcnt,h3,h9,h1,h2,hsm,hcp,hlo,hsG,hsO⟩:=oP.facts hm;have hs:=hm.1.1.1;have hh:=hv.1;have hhm:=hh.mod;have hcl:=kE hv.2.1;have hgo:=aAL hcl;have hc2:0<=cC m.Heap (h % 32)/\cC m.Heap (h % 32)<=2:=by obtain⟨_,q,e⟩:=SB hcl;rw[e];exact AL.1 aa
 have hg6:1<=h/32/\h/32<=6:=by grind[kX]
 have hbl:m.Heap.Bytes.length<=maxLen:=by grind[maxLen]
 have hnot:h % 32∉gK m.aD:=λq=>by have:=hv.2.1;simp_all[rI,aO]
 have hcpH:=WI (h:=m.Heap) aa aa;have eo:jR (h % 32) (cC m.Heap (h % 32))=(((jR (h % 32) (cC m.Heap (h % 32))).toNat:Nat):Int):=aa
 have ew:bA (h/32+1)=h/32+1:=cR;have ed:bA (Int.tdiv h 32)=h/32:=by grind[cO]
 have hall:=wO m.aD;obtain⟨hr1,hr2⟩:=oP.bIU hm hv.2.1 (g:=h/32+1) aa;have hu:=tY.1 hv.2.1;unfold yW PJ YV HD;rw[hhm.1,mL hs,hcpH,P8 hbl,bY hs,kD hs,ed,ew,hcp];simp only[aH,hU,bR,bN,PI,HM,PH];rw[rH hs hcl,hv.2.2,dO,dU (show ¬cC m.Heap (h % 32)<0 by omega),bY (show 1<=h/32+1/\h/32+1<=7 by omega)];simp only[aH,hU,bR,bN,xG,DF,ew];generalize hgn:(jR (h % 32) (cC m.Heap (h % 32))).toNat=a at eo;rw[hgn] at hr1 hr2;rw[eo,MU aa aa aa,aCF aa];simp only[aH];rw[ZU aa aa aa];simp only[aH,GR,SR,ed,ew,hhm.1];by_cases q:h/32+1<=6
 ·have hk:(w*3+cC m.Heap (h % 32)).toNat<m.aD.Own.length:=aa
  have hx:idx m.aD.Own (w*3+cC m.Heap (h % 32))=some m.aD.Own[(w*3+cC m.Heap (h % 32)).toNat]:=gI aa aa;have hk2:(cC m.Heap (h % 32)).toNat<m.aD.Global.length:=aa
  have hx2:idx m.aD.Global (cC m.Heap (h % 32))=some m.aD.Global[(cC m.Heap (h % 32)).toNat]:=gI aa aa;have b1:=hsO _ (cK hk);have b2:=hsG _ (cK hk2);rw[bY q,aM rfl,aM rfl];unfold RG aGH BE;rw[kD hs,aH,hcp,(U6 hw hc2).1,(U6 hw hc2).2,hlo,AM,bY (show 0<=h % 32/\h % 32<=23 by omega),ZS aa aa aa,dU hnot];simp only[aH,hU,bR,bN,hx,hx2];have nz:¬w*3+cC m.Heap (h % 32)<0:=aa
  simp only[dU nz,bR,bN];by_cases q2:m.aD.Own[(w*3+cC m.Heap (h % 32)).toNat].aU.length<2
  ·have y1:(m.aD.Own[(w*3+cC m.Heap (h % 32)).toNat].aU.length:Int)<2:=aa
   have y2:¬(2:Int)<=m.aD.Own[(w*3+cC m.Heap (h % 32)).toNat].aU.length:=aa
   simp only[bY y1,dU y2,bR,bN,bV];rw[DE,DE];refine⟨_,rfl,rfl,⟨by grind[K6],aj,aj,aj,?_⟩,?_⟩
   ·grind[wO,aDE]
   ·have hmod:((w*3+cC m.Heap (h % 32)).toNat % 3:Nat)=(cC m.Heap (h % 32)).toNat:=aa
    obtain⟨z1,z2⟩:=oP.bA7 hr1.1 (k:=(w*3+cC m.Heap (h % 32)).toNat) aa (xs:=[h % 32]) (by grind[fB]) ae (λx hx=>by
     simp at hx;subst hx;exact⟨by rw[hmod];show cC m.Heap (h % 32)=_;omega,aj⟩) (λx hx=>aj) hk
    refine⟨z1,λs h1 h2=>?_⟩;obtain⟨y1,y2,y3⟩:=hr1.2 s h1 h2;grind
  ·have y1:¬(m.aD.Own[(w*3+cC m.Heap (h % 32)).toNat].aU.length:Int)<2:=aa
   have y2:(2:Int)<=m.aD.Own[(w*3+cC m.Heap (h % 32)).toNat].aU.length:=aa
   simp only[bY y2,dU y1,bR,bN,bV];rw[DE,DE];refine⟨_,rfl,rfl,⟨by grind[K6],aj,aj,aj,?_⟩,?_⟩
   ·grind[wO,aDE]
   ·obtain⟨z1,z2⟩:=oP.aOZ hr1.1 (k:=(cC m.Heap (h % 32)).toNat) aa (xs:=[h % 32]) ae (λx hx=>by
     simp at hx;subst hx;exact⟨by show cC m.Heap (h % 32)=_;omega,aj⟩) (λx hx=>aj) hk2
    refine⟨z1,λs h1 h2=>?_⟩;obtain⟨y1,y2,y3⟩:=hr1.2 s h1 h2;grind
 ·rw[dU q,cZ,cZ];refine⟨_,rfl,rfl,⟨by grind[K6],aj,aj,aj,by(simp_all;omega)⟩,hr1⟩
end
theorem alloc_eq{b:aA}(hm:oP b.Mem)(hw:0<=w/\w<=2)(s:Sub) :
  ∃x y,wU b w s=some (x,y)/\uR s b w=some (y,x)/\∃m',x=⟨m',b.aJ,b.aV,b.jJ⟩/\FC m'/\AO b.Mem m' (-1):=by
 have hsm:=(oP.facts hm).2.2.2.2.2.1;have hs:=hm.1.1.1;obtain⟨c,ec,ei,hcc⟩:=aZH s.A;unfold wU uR;rw[ec,ei];simp only[aH];by_cases c0:c<0
 ·simp only[bY c0,bV,bS,bQ];exact⟨_,_,rfl,rfl,_,rfl,hsm,AO.refl hm _⟩
 have hc:0<=c/\c<=2:=aa
 simp only[dU c0,bR,bN];have fin:∀(m':Mem) (x:Int),FC m'->AO b.Mem m' (-1)->(0<=x->fW m'.Heap/\0<=cC m'.Heap x) ->
   ∃X Y,iN s x ⟨m',b.aJ,b.aV,b.jJ⟩=some (X,Y)/\iW s x ⟨m',b.aJ,b.aV,b.jJ⟩=some (Y,X)/\∃m',X=⟨m',b.aJ,b.aV,b.jJ⟩/\FC m'/\AO b.Mem m' (-1):=by
  intro m' x hs' hst hx;unfold iN iW;simp only[sD,NO,bS,bQ];by_cases x0:0<=x
  ·obtain⟨h,e1,e2⟩:=a3C (m:=m') (hx x0).1 (hx x0).2;rw[dU (show ¬x<0 by omega),bY x0];simp only[bR,bN,bV,e1,e2,aH];grind
  ·rw[bY (show x<0 by omega),dU x0];by_cases p3:s.Pc=3
   ·simp only[p3,beq_self_eq_true,bV,bR,bN,aH];grind
   ·have p3':(s.Pc == 3)=false:=aj
    simp only[p3',bV,bR,bN,aH];grind
 by_cases p0:s.Pc=0
 ·obtain⟨l,t,x,e1,e2,e3,h1,h2,h3⟩:=aO1 hm hw hc;simp_all[U6]
 ·have p0':(s.Pc == 0)=false:=aj
  simp only[p0',bR,bN,sE,oL];obtain⟨l,t,x,e1,e2,e3,h1,h2,h3⟩:=aCG hm hc;by_cases p1:s.Pc=1
  ·simp_all
  ·have p1':(s.Pc == 1)=false:=aj
   simp only[p1',bR,bN];by_cases p3:s.Pc=3
   ·simp_all
   ·have p3':(s.Pc == 3)=false:=aj
    simp only[p3',bR,bN];by_cases p2:s.Pc=2
    ·obtain⟨m',x,e1,e2,h1,h2,h3⟩:=aWW hm hc;simp_all
    ·have p2':(s.Pc == 2)=false:=aj
     simp only[p2',bR,bN,bS,bQ];exact⟨_,_,rfl,rfl,_,rfl,hsm,AO.refl hm _⟩
theorem a1W(r:dW)(e:Int):∃v,JI r e=some v/\UK r e=some v:=by
 unfold JI UK GS OB;by_cases h:2<=e
 ·simp only[bY h,bV];exact⟨_,rfl,rfl⟩
 ·simp only[dU h,bR,bN];exact⟨_,rfl,rfl⟩
theorem bA8{b:aA}{l:bM}(hx:idx b.aV w=some l)(hl:l.Rows.length<=1000)(s:Sub) :
  (uN l.Rows s.Row s.E=some (-1)/\qK s b w=(bQ s 0).bind λx=>some (x,b)) \/
  ∃k,∃h:k<l.Rows.length,uN l.Rows s.Row s.E=some (k:Int)/\qK s b w=some (⟨s.Kind,s.A,2,s.E,(k:Int),0,l.Rows[k].Handle,s.Out,s.Code,s.jA⟩,b):=by
 have key:∀d k,k+d=l.Rows.length ->
   (loop (fM l.Rows s.E) (k:Int)=some (Out.brk ())/\loop (fQ s b w) (k:Int)=some (Out.brk ())) \/
   ∃j,∃h:j<l.Rows.length,loop (fM l.Rows s.E) (k:Int)=some (Out.ret (j:Int))/\loop (fQ s b w) (k:Int)=some (Out.ret (⟨s.Kind,s.A,2,s.E,(j:Int),0,l.Rows[j].Handle,s.Out,s.Code,s.jA⟩,b)):=by
  intro d;induction d with
  |zero=>
   simp_all[bG,fM,fQ]
  |succ d ih=>
   intro k hk;have hk':k<l.Rows.length:=aa
   obtain⟨v,e1,e2⟩:=a1W l.Rows[k] s.E;cases v with
   |true=>
    right;refine⟨k,hk',bG ?_,bG ?_⟩
    ·simp only[fM];rw[cQ,aT hk',aH,e1];rfl
    ·simp only[fQ,hx,aH];rw[cQ,aT hk',aH,e2];rfl
   |false=>
    have n1:fM l.Rows s.E (k:Int)=some (.next ((k+1:Nat):Int)):=by simp only[fM];rw[cQ,aT hk',aH,e1,aH,cR];rfl
    have n2:fQ s b w (k:Int)=some (.next ((k+1:Nat):Int)):=by simp only[fQ,hx,aH];rw[cQ,aT hk',aH,e2,aH,cR];rfl
    rw[bW n1,bW n2];exact ih (k+1) aa
 unfold uN qK;have hst:∃i:Nat,(if 0<s.Row then s.Row else 0)=(i:Int)/\(if s.Row<0 then 0 else s.Row)=(i:Int):=by refine⟨s.Row.toNat,?_,?_⟩<;>split<;>omega
 obtain⟨i,i1,i2⟩:=hst;rw[i1,i2];by_cases hi:i<=l.Rows.length
 ·rcases key (l.Rows.length-i) i aa with ⟨a,c⟩|⟨j,hj,a,c⟩
  ·left;rw[a,c];exact⟨rfl,rfl⟩
  ·right;rw[a,c];exact⟨j,hj,rfl,rfl⟩
 ·left;rw[bG (body:=fM l.Rows s.E) (r:=Out.brk ()) (by simp only[fM];grind),
   bG (body:=fQ s b w) (r:=Out.brk ()) (by simp only[fQ,hx,aH];grind)]
  exact⟨rfl,rfl⟩
theorem del_eq{l:List O}(h:k<l.length):((dL l k (l.drop (k+1))).take (k+(l.length-(k+1)))).drop 0=l.eraseIdx k:=by grind[dL,aHV]
theorem aZI{l:List O}(h:k<l.length):l.Perm (l[k]::l.eraseIdx k):=by grind[FE,aLX,List.eraseIdx_eq_take_drop_succ,List.perm_middle]
theorem tX.drop{b:List bM}(hL:tX b){w:Nat}(hw:w<b.length):∀k (hk:k<b[w].Rows.length),tX (b.set w ⟨b[w].Rows.eraseIdx k⟩)/\∀r∈cS (b.set w ⟨b[w].Rows.eraseIdx k⟩),r∈cS b/\r.Handle % 32≠b[w].Rows[k].Handle % 32:=by
 intro k hk;have hsub:(cS (b.set w ⟨b[w].Rows.eraseIdx k⟩)).Sublist (cS b):=by grind[U5,SF]
 have hnd:=hL.2.2.2;refine⟨⟨by simpa using hL.1,xM hsub.length_le hL.2.1,λr hr=>hL.2.2.1 r (hsub.subset hr),(hsub.map oQ).nodup hnd⟩,λr hr=>⟨hsub.subset hr,?_⟩⟩;have hp:(cS b).Perm (b[w].Rows[k]::cS (b.set w ⟨b[w].Rows.eraseIdx k⟩)):=by rw[U5 hw,SF hw];refine List.Perm.trans (List.Perm.append_left _ (List.Perm.append_right _ (aZI hk))) ?_;simp
 grind[oQ]
theorem aZJ{b:aA}(hb:nJ b)(hw:0<=w/\w<=2)(s:Sub) :
  ∃x y,o9 b w s=some (x,y)/\qL s b w=some (y,x)/\∃m' L,x=⟨m',b.aJ,L,b.jJ⟩/\FC m'/\oP m'/\tX L/\∀r∈cS L,oJ m' r.Handle/\r.aP<=b.aJ.aP:=by
 have hm:=hb.1.1;have hL:=hb.1.2.2.1;have hZ:=hb.1.2.2.2;have hsm:=(oP.facts hm).2.2.2.2.2.1;have hlen:w.toNat<b.aV.length:=by have:=hL.1;omega
 have hx:idx b.aV w=some b.aV[w.toNat]:=gI hw.1 aa;have hrow:=hL.small.2.2.2 _ (cK hlen);have hmemL:b.aV[w.toNat]∈b.aV:=cK hlen;have hset:=tX.drop hL hlen;generalize b.aV[w.toNat]=l at hx hrow hset hmemL;have done:∀y:Sub,∃x z,(some (b,y):Option (aA×Sub))=some (x,z)/\(some (y,b):Option (Sub×aA))=some (z,x)/\∃m' L,x=⟨m',b.aJ,L,b.jJ⟩/\FC m'/\oP m'/\tX L/\∀r∈cS L,oJ m' r.Handle/\r.aP<=b.aJ.aP:=
  λy=>⟨_,_,rfl,rfl,b.Mem,b.aV,rfl,hsm,hm,hL,hb.2⟩
 have hw1:bA ((l.Rows.length:Int)-1)=(l.Rows.length:Int)-1:=cR;have hhas:LK b.aV w s.Row=some (decide (0<=s.Row/\s.Row<=(l.Rows.length:Int)-1)):=by simp_all[LK,HN,lU,dO]
 unfold o9 qL;rw[hhas,hx];simp only[aH,bS,cM,hw1];have hat:∃a:Bool,(if decide (0<=s.Row/\s.Row<=(l.Rows.length:Int)-1)=true then(idx l.Rows s.Row).bind λx15=>gG s b w (x15.Handle == s.H) else gG s b w false)=gG s b w a /\
   (if(!decide (0<=s.Row/\s.Row<=(l.Rows.length:Int)-1))=true then eS b s true else(idx l.Rows s.Row).bind λx11=>eS b s (x11.Handle != s.H))=eS b s (!a) /\
   (a=true->∃r,r∈l.Rows/\idx l.Rows s.Row=some r/\r.Handle=s.H/\0<=s.Row/\s.Row<l.Rows.length) /\
   (a=false->∀f:dW->Option (aA×Sub),(if(!decide (0<=s.Row/\s.Row<=(l.Rows.length:Int)-1))=true then eT b w s l true else(idx l.Rows s.Row).bind λx=>if(x.Handle != s.H)=true then eT b w s l true else f x)=eT b w s l true):=by
  by_cases q:0<=s.Row/\s.Row<=(l.Rows.length:Int)-1
  ·have hr:idx l.Rows s.Row=some (l.Rows[s.Row.toNat]' aa):=gI q.1 aa;by_cases q2:(l.Rows[s.Row.toNat]' aa).Handle=s.H
   ·refine⟨true,?_,?_,λ_=>⟨_,cK _,hr,q2,q.1,aa⟩,λh=>by cases h⟩
    ·rw[bY q,aM rfl,hr,aH,q2,beq_self_eq_true]
    ·rw[bY q,cZ,hr,aH,q2,bne_self_eq_false];rfl
   ·have n1:((l.Rows[s.Row.toNat]' aa).Handle == s.H)=false:=by simpa using q2
    have n2:((l.Rows[s.Row.toNat]' aa).Handle != s.H)=true:=by simpa using q2
    refine⟨false,?_,?_,(λh=>by cases h),λ_ f=>?_⟩
    ·rw[bY q,aM rfl,hr,aH,n1]
    ·rw[bY q,cZ,hr,aH,n2];rfl
    ·rw[bY q,cZ,hr,aH,n2,aM rfl]
  simp_all[dU]
 obtain⟨a,ha1,ha2,ha3,ha4⟩:=hat;rw[ha1,ha2];unfold gG;by_cases p0:s.Pc=0
 ·simp_all
 have p0':(s.Pc == 0)=false:=aj
 simp only[p0',bR,bN];by_cases p1:s.Pc=1
 ·simp only[p1,beq_self_eq_true,bV];rcases bA8 hx aa s with ⟨e1,e2⟩|⟨k,hk,e1,e2⟩
  ·simp_all[bQ]
  simp_all[aO,aT]
 have p1':(s.Pc == 1)=false:=aj
 simp only[p1',bR,bN];by_cases p2:s.Pc=2
 ·simp only[p2,beq_self_eq_true,bV,lU,aH];by_cases hB:0<=s.B/\s.B<=2
  ·rw[bY hB];simp only[hU,bR,bN,bV];cases a with
   |true=>
    have hz:idx b.jJ s.B=some (b.jJ[s.B.toNat]'(by have:=hZ.1;omega)):=gI hB.1 (by have:=hZ.1;omega);simp only[eS,fA,hU,bR,bN,bV,hz,aH,nP];by_cases q:(b.jJ[s.B.toNat]' aj)=s.H
    ·simp_all
    ·have q':((b.jJ[s.B.toNat]' aj) == s.H)=false:=aj
     simp only[q',bR,bN];by_cases q3:bA (s.B+1)=3
     ·simp_all
     simp_all
   |false=>
    simp_all[eS,fA,dR,bS,bQ]
  simp_all[dU,eS,fA,dR,bS,bQ]
 have p2':(s.Pc == 2)=false:=aj
 simp only[p2',bR,bN,fA];by_cases p3:s.Pc=3
 ·simp only[p3,beq_self_eq_true,bV];cases a with
  |false=>
   rw[ha4 rfl];simp_all[eT,dR,bS,bQ]
  |true=>
   obtain⟨r,hrm,hr,hrH,r0,r1⟩:=ha3 rfl;obtain⟨v,e1,e2⟩:=a1W r s.E;rw[bY (show 0<=s.Row/\s.Row<=(l.Rows.length:Int)-1 by omega)];simp only[hU,bR,bN,bV,hr,aH,hrH,bne_self_eq_false,hx,e1,e2];cases v with
   |false=>
    simp_all[eT,dR,bS,bQ]
   |true=>
    have hlive:oJ b.Mem s.H:=by have:r∈cS b.aV:=aHU.2 ⟨l,hmemL,hrm⟩;have:=(hb.2 r this).1;grind
    obtain⟨m',f1,f2,f3,f4⟩:=aUW hm hw hlive;have ew:bA (s.Row+1)=s.Row+1:=cR;have hdrop:OC b.aV w s.Row=some (b.aV.set w.toNat ⟨((dL l.Rows s.Row.toNat (l.Rows.drop (s.Row+1).toNat)).take (s.Row.toNat+(l.Rows.length-(s.Row+1).toNat))).drop 0⟩,true):=by
     unfold OC D7;rw[TJ hL.small.2.2.1 (λs h=>by have:=hL.small.2.2.2 s h;omega),EN hL.small.1,bY hL,hhas,bY (show 0<=s.Row/\s.Row<=(l.Rows.length:Int)-1 by omega)];simp only[aH,hU,bR,bN,hx,ew];unfold EX;rw[SA,rK,SA,SA,SA,cE]
     ·rfl
     grind[gZ]
    simp only[eT,dR,uO,ew,hU,bR,bN,bV];rw[SA,SA,SA,eF,aM hlive.1,aH,f1,f2,hdrop];have hk:s.Row.toNat<l.Rows.length:=aa
    have eL:((dL l.Rows s.Row.toNat (l.Rows.drop (s.Row+1).toNat)).take (s.Row.toNat+(l.Rows.length-(s.Row+1).toNat))).drop 0=l.Rows.eraseIdx s.Row.toNat:=by rw[show(s.Row+1).toNat=s.Row.toNat+1 by omega];exact del_eq hk
    have er:l.Rows[s.Row.toNat]=r:=by grind[aT]
    rw[eL] at hdrop ⊢;obtain⟨g1,g2⟩:=hset s.Row.toNat hk;refine⟨_,_,rfl,rfl,m',_,rfl,f3,f4.1,g1,λq hq=>?_⟩;obtain⟨g3,g4⟩:=g2 q hq;obtain⟨g5,g6⟩:=hb.2 q g3;refine⟨f4.live g5 λe=>?_,g6⟩;grind
 simp_all[dR,bQ]
theorem TF.fits{b:aA}(h:TF b):b.Mem.Heap.Bytes.length<=maxLen/\(gK b.Mem.aD).length<=1073741824/\b.aJ.b8.length<=maxLen/\b.aV.length<=maxLen/\(cS b.aV).length<=1073741824/\b.jJ.length<=maxLen:=by
 have hb:(1048576:Nat)<=maxLen:=by simp[maxLen]
 have g1:=h.1.1;have g2:=h.1.2.2.2.2;have g3:=h.2.1;have g4:=h.2.2.1;have g5:=h.2.2.2.1;have g6:=h.2.2.2.2;omega
theorem step_eq{b:aA}(hb:nJ b)(hs:TF b)(hw:0<=w/\w<=2)(s:Sub) :
  ∃x y,JK b w s=some (x,y)/\rA s b w=some (y,x)/\nJ x:=by
 have hz:=hb.1.2.2.2.1;have hl:=hb.1.2.2.1;unfold JK rA;cases hd:s.jA with
 |true=>grind
 |false=>
  simp only[bR,bN];by_cases k1:s.Kind=1
  ·obtain⟨x,y,e1,e2,m,rfl,h1,h2⟩:=alloc_eq hb.1.1 hw s;simp only[k1,beq_self_eq_true,bV,e1,e2,aH];exact⟨_,_,rfl,rfl,⟨h2.1,hb.1.2⟩,λr hr=>⟨h2.live (hb.2 r hr).1 aa,(hb.2 r hr).2⟩⟩
  have k1':(s.Kind == 1)=false:=aj
  simp only[k1',bR,bN];by_cases k2:s.Kind=2
  ·obtain⟨x,y,e1,e2,L,rfl,h1,h2⟩:=a29 hb hs hw s;simp only[k2,beq_self_eq_true,bV,e1,e2,aH];exact⟨_,_,rfl,rfl,⟨hb.1.1,hb.1.2.1,h1,hb.1.2.2.2⟩,h2⟩
  have k2':(s.Kind == 2)=false:=aj
  simp only[k2',bR,bN];by_cases k3:s.Kind=3
  ·obtain⟨x,y,e1,e2,c,rfl,h1,h2⟩:=aZB hb.1.2.1 s;simp only[k3,beq_self_eq_true,bV,e1,e2,aH];exact⟨_,_,rfl,rfl,⟨hb.1.1,h1,hb.1.2.2⟩,λr hr=>⟨(hb.2 r hr).1,Int.le_trans (hb.2 r hr).2 h2⟩⟩
  have k3':(s.Kind == 3)=false:=aj
  simp only[k3',bR,bN];by_cases k4:s.Kind=4
  ·obtain⟨x,y,e1,e2,m,L,rfl,h1,h2,h3,h4⟩:=aZJ hb hw s;simp only[k4,beq_self_eq_true,bV,e1,e2,aH];exact⟨_,_,rfl,rfl,⟨h2,hb.1.2.1,h3,hb.1.2.2.2⟩,h4⟩
  have k4':(s.Kind == 4)=false:=aj
  simp only[k4',bR,bN];by_cases k5:s.Kind=5
  ·obtain⟨x,y,e1,e2,c,rfl,h1,h2⟩:=bEY hb.1.2.1 hw s;simp only[k5,beq_self_eq_true,bV,e1,e2,aH];exact⟨_,_,rfl,rfl,⟨hb.1.1,h1,hb.1.2.2⟩,λr hr=>⟨(hb.2 r hr).1,Int.le_trans (hb.2 r hr).2 h2⟩⟩
  have k5':(s.Kind == 5)=false:=aj
  simp only[k5',bR,bN,bS,bQ,aH];grind
theorem nJ.small{b:aA}(hb:nJ b):TF b:=by have h1:=hb.1.2.1.2.1;have h2:=hb.1.2.2.1.1;have h3:=hb.1.2.2.1.2.1;have h4:=hb.1.2.2.2.1;exact⟨(oP.facts hb.1.1).2.2.2.2.2.1,aa,aa,aa,aa⟩
def TO(s:Sub)(code:Int):Sub:={s with Code:=code,jA:=true}
def QC(n:Int):Int:=if 1<=n/\n<=8 then 0 else if 1<=n/\n<=16 then 1 else if 1<=n/\n<=40 then 2 else -1
theorem aZK(n:Int):-1<=QC n/\QC n<=2:=by grind[QC]
theorem a3E(n:Int):AV n=some (QC n):=by
 have s1:∀k,0<=k/\k<=2->gC n k=some (if 1<=n/\n<=kZ k then .stop (Out.ret k) else .next (k+1)):=λk hk=>by simp only[gC];rw[cQ,P7,aH,cM,aH,cR];grind
 have z0:kZ 0=8:=rfl;have z1:kZ 1=16:=rfl;have z2:kZ 2=40:=rfl;unfold AV QC;by_cases q0:1<=n/\n<=8
 ·rw[bG (by rw[s1 0 aa,aM aa]),aM q0];rfl
 ·rw[bW (by rw[s1 0 aa,xK]),aO q0,show(0:Int)+1=1 from rfl];by_cases q1:1<=n/\n<=16
  ·rw[bG (by rw[s1 1 aa,aM aa]),aM q1];rfl
  ·rw[bW (by rw[s1 1 aa,xK]),aO q1,show(1:Int)+1=2 from rfl];by_cases q2:1<=n/\n<=40
   ·rw[bG (by rw[s1 2 aa,aM aa]),aM q2];rfl
   ·rw[bW (by rw[s1 2 aa,xK]),aO q2,show(2:Int)+1=3 from rfl,bG (body:=gC n) (r:=Out.brk ()) (by simp[gC])];rfl
def aRT(l:List Int):List Int×Int:=(l.dropLast,l.getLastD (-1))
theorem aLG{s:aZ}(h:s.aU.length<=1048576):qV s=some (⟨(aRT s.aU).1⟩,(aRT s.aU).2):=by
 unfold qV J9 aRT;obtain⟨l⟩:=s;rcases List.eq_nil_or_concat l with rfl|⟨L,b,rfl⟩
 ·rfl
 ·simp only[List.concat_eq_append] at h ⊢;have hl:(L++[b]).length=L.length+1:=ae
  rw[hl,cR,show((L.length+1:Nat):Int)-1=(L.length:Int) by omega,rK,SA,TD];simp
def aFQ(m:Mem)(w c:Int):Mem×Int:=(⟨m.Heap,⟨m.aD.Global,m.aD.Own.set (w*3+c).toNat ⟨(aRT (iD m.aD.Own (w*3+c).toNat)).1⟩⟩⟩,(aRT (iD m.aD.Own (w*3+c).toNat)).2)
def aAQ(m:Mem)(c:Int):Mem×Int:=(⟨m.Heap,⟨m.aD.Global.set c.toNat ⟨(aRT (iD m.aD.Global c.toNat)).1⟩,m.aD.Own⟩⟩,(aRT (iD m.aD.Global c.toNat)).2)
def pgF(h:Heap):Nat:=h.Class.findIdx (λx=>decide (x = -1))
def aHG(m:Mem)(c:Int):Mem×Int:=if pgF m.Heap=6 then(m,-1) else
 (⟨⟨gB m.Heap.Bytes (pgF m.Heap) c (dN c).toNat,m.Heap.Class.set (pgF m.Heap) c⟩,⟨m.aD.Global.set c.toNat ⟨iD m.aD.Global c.toNat++(gS (pgF m.Heap) (dN c).toNat).drop 1⟩,m.aD.Own⟩⟩,(pgF m.Heap:Int)*4)
theorem a7T(hs:fW h):pgF h<=6:=by rw[<-hs.2.1];exact List.findIdx_le_length
theorem bE2(hs:fW h)(hq:pgF h≠6):pgF h<6/\cN h (pgF h) = -1:=by
 have h6:=hs.2.1;have hlt:pgF h<6:=by grind[a7T]
 refine⟨hlt,?_⟩;rw[<-aAK hs hlt];have:=List.findIdx_getElem (xs:=h.Class) (p:=λx=>decide (x = -1)) (w:=by grind[pgF]);exact of_decide_eq_true this
theorem bA9(hs:fW h):∀j (hj:j<6),j<pgF h->cN h j≠-1:=λj hj hlt=>by have:=List.not_of_lt_findIdx hlt;grind[aAK]
theorem bE3(hh:HOk h)(hc:0<=c/\c<=2):pT h c=some (if pgF h=6 then(h,[]) else(⟨gB h.Bytes (pgF h) c (dN c).toNat,h.Class.set (pgF h) c⟩,gS (pgF h) (dN c).toNat)):=by
 have hs:=hh.1;have h6:=hs.2.1;have h384:=hs.1;have hle:=a7T hs;have s1:∀k (hk:k<pgF h),fL h c (k:Int)=some (.next ((k+1:Nat):Int)):=λk hk=>by
  have n:(h.Class[k] != -1)=true:=by grind[bA9,aAK]
  simp only[fL,DO];rw[cQ,TD,aH,n,aM rfl,cR];rfl
 unfold pT;by_cases hq:pgF h=6
 ·have a1:loop (fL h c) 0=some (Out.brk ()):=fV (pgF h) (λk=>(k:Int)) _ s1 (by simp_all[fL]);rw[a1,aM hq];rfl
 ·obtain⟨hlt,he⟩:=bE2 hs hq;rw[<-aAK hs hlt] at he;generalize hqq:pgF h=q at *;have a1:loop (fL h c) 0=some (Out.ret (⟨gB h.Bytes q c (dN c).toNat,h.Class.set q c⟩,gS q (dN c).toNat)):=fV q (λk=>(k:Int)) _ s1 (by
   have e0:bA ((q:Int)*64)=((q*64:Nat):Int):=by grind[cO]
   have e1:bA (((q*64:Nat):Int)+1)=((q*64+1:Nat):Int):=by grind[cO]
   have e2:bA (((q*64:Nat):Int)+2)=((q*64+2:Nat):Int):=by grind[cO]
   have n:(h.Class[q] != -1)=false:=aj
   simp only[fL,e0,e1,e2,F8];rw[cQ,TD,aH,n,cZ,TD,aH,aT ah,aH,i6,aH,aT ah,aH];have:=aOY h384 hlt hc;simp only[gB] at this;rw[this];rfl)
  rw[a1,aO hq];rfl
theorem a3F(hm:oP m)(hc:0<=c/\c<=2):AX m c=some (aHG m c):=by
 have h3:=hm.1.2.1;have hpp:0<dN c:=AL.2 hc;have hp4:=oO c;obtain⟨_,_,_,_,_,_,_,_,hsG,_⟩:=oP.facts hm;unfold AX aHG;rw[bE3 hm.1.1 hc];by_cases hq:pgF m.Heap=6
 ·simp_all
 ·have hk:c.toNat<m.aD.Global.length:=aa
  have hg0:=hsG _ (cK hk);have hx:idx m.aD.Global c=some m.aD.Global[c.toNat]:=gI hc.1 aa;have hz:idx (gS (pgF m.Heap) (dN c).toNat) 0=some ((pgF m.Heap:Int)*4):=by grind[aT,gS]
  have hn:(((dN c).toNat:Int) == 0)=false:=aj
  have ht:(gS (pgF m.Heap) (dN c).toNat).take (dN c).toNat=gS (pgF m.Heap) (dN c).toNat:=aHV (by grind[aOX]);have hd:((gS (pgF m.Heap) (dN c).toNat).drop 1).length<=4:=aj
  simp only[aO hq,aH,aOX,hn,bR,bN,hx,hz,DQ,ht];grind[cE,fB]
def bE4(m:Mem)(s:Int):Int:=if 1<=nI m.Heap s/\nI m.Heap s<=6 then nI m.Heap s*32+s else 0
theorem bBA(hs:fW m.Heap)(hc:0<=cC m.Heap s):wS m s=some (bE4 m s):=by
 unfold wS KB sC bE4;rw[rH hs hc,aH,cM,cM];have h1:=(SB hc).1;simp only[bY h1,aH,hU,bR,bN];by_cases q:1<=nI m.Heap s/\nI m.Heap s<=6
 ·simp only[bY q,hU,bR,bN,aM q];grind[cO]
 grind
def aHH(b:aA)(s:Sub)(p:Mem×Int):aA×Sub:=
 if 0<=p.2 then({b with Mem:=p.1},TO {s with Out:=bE4 p.1 p.2} 0) else if s.Pc=3 then({b with Mem:=p.1},TO s 3) else({b with Mem:=p.1},{s with Pc:=s.Pc+1})
def aZL(b:aA)(w:Int)(s:Sub):aA×Sub:=
 if QC s.A<0 then(b,TO s 2)
 else if s.Pc=0 then aHH b s (aFQ b.Mem w (QC s.A))
 else if s.Pc=1\/s.Pc=3 then aHH b s (aAQ b.Mem (QC s.A))
 else if s.Pc=2 then aHH b s (aHG b.Mem (QC s.A))
 else(b,TO s 1)
theorem a3G{b:aA}(hm:oP b.Mem)(hw:0<=w/\w<=2)(s:Sub):wU b w s=some (aZL b w s):=by
 obtain⟨hcnt,h3,h9,h1,h2,hsm,hcp,hlo,hsG,hsO⟩:=oP.facts hm;have hs:=hm.1.1.1;have hr:=aZK s.A;unfold wU aZL;rw[a3E];simp only[aH];by_cases c0:QC s.A<0
 ·simp only[bY c0,bV,bS,aM c0];rfl
 generalize QC s.A=c at *;have hc:0<=c/\c<=2:=aa
 simp only[dU c0,bR,bN,aO c0];have fin:∀(p:Mem×Int),-1<=p.2->(0<=p.2->fW p.1.Heap/\0<=cC p.1.Heap p.2)->s.Pc<=3/\0<=s.Pc->iN s p.2 ⟨p.1,b.aJ,b.aV,b.jJ⟩=some (aHH b s p):=by
  intro p hp hx hpc;unfold iN aHH;simp only[sD,NO,bS];by_cases x0:0<=p.2
  ·rw[dU (show ¬p.2<0 by omega),bY x0];simp only[bR,bN,bV,aM x0,bBA (hx x0).1 (hx x0).2,aH];rfl
  ·rw[bY (show p.2<0 by omega),dU x0];by_cases p3:s.Pc=3
   ·have p3':(s.Pc == 3)=true:=aj
    simp only[p3',bV,aO x0,aM p3,aH];rfl
   ·have p3':(s.Pc == 3)=false:=aj
    have e:bA (s.Pc+1)=s.Pc+1:=cR;grind
 have popL:∀l:List Int,-1<=(aRT l).2\/(aRT l).2∈l:=λl=>by unfold aRT;grind
 by_cases p0:s.Pc=0
 ·have hk:(w*3+c).toNat<b.Mem.aD.Own.length:=aa
  have hx:idx b.Mem.aD.Own (w*3+c)=some b.Mem.aD.Own[(w*3+c).toNat]:=gI aa aa;obtain⟨l,t,x,e1,e2,e3,g1,g2,g3⟩:=aO1 hm hw hc;have hl:=hsO _ (cK hk);rw[hx] at e1;cases e1;rw[aLG aa] at e2;have ep:aFQ b.Mem w c=(⟨b.Mem.Heap,⟨b.Mem.aD.Global,b.Mem.aD.Own.set (w*3+c).toNat t⟩⟩,x):=by grind[aFQ,fB]
  have hx0:-1<=x:=by
   injection e2 with e2;injection e2 with e4 e5
   rcases popL b.Mem.aD.Own[(w*3+c).toNat].aU with h|h
   ·omega
   ·rw[<-e5];have:=hm.1.2.2.2.2.1 _ (List.mem_append_right _ (aHU.2 ⟨_,cK hk,h⟩));omega
  have p0':(s.Pc == 0)=true:=aj
  have:=fin (aFQ b.Mem w c) aj aj aa;rw[ep] at this;simp only[p0',bV,aM p0,(U6 hw hc).1,aH,hx];grind[aLG]
 ·have p0':(s.Pc == 0)=false:=aj
  simp only[p0',bR,bN,sE,aO p0];have hk:c.toNat<b.Mem.aD.Global.length:=aa
  have hx:idx b.Mem.aD.Global c=some b.Mem.aD.Global[c.toNat]:=gI aa aa;obtain⟨l,t,x,e1,e2,e3,g1,g2,g3⟩:=aCG hm hc;have hl:=hsG _ (cK hk);rw[hx] at e1;cases e1;rw[aLG aa] at e2;have ep:aAQ b.Mem c=(⟨b.Mem.Heap,⟨b.Mem.aD.Global.set c.toNat t,b.Mem.aD.Own⟩⟩,x):=by grind[aAQ,fB]
  have hx0:-1<=x:=by
   injection e2 with e2;injection e2 with e4 e5
   rcases popL b.Mem.aD.Global[c.toNat].aU with h|h
   ·omega
   ·rw[<-e5];have:=hm.1.2.2.2.2.1 _ (List.mem_append_left _ (aHU.2 ⟨_,cK hk,h⟩));omega
  have tg:0<=s.Pc/\s.Pc<=3->(idx b.Mem.aD.Global c).bind (λx13=>(qV x13).bind λx14=>iN s x14.2 ({b with Mem:=(⟨b.Mem.Heap,(⟨b.Mem.aD.Global.set c.toNat x14.1,b.Mem.aD.Own⟩:aD)⟩:Mem)}:aA))=some (aHH b s (aAQ b.Mem c)):=λhpc=>by grind[aLG]
  by_cases p1:s.Pc=1
  ·grind
  ·have p1':(s.Pc == 1)=false:=aj
   simp only[p1',bR,bN];by_cases p3:s.Pc=3
   ·grind
   ·have p3':(s.Pc == 3)=false:=aj
    have n13:¬(s.Pc=1\/s.Pc=3):=aa
    simp only[p3',bR,bN,aO n13];by_cases p2:s.Pc=2
    ·obtain⟨m',y,f1,f2,k1,k2,k3⟩:=aWW hm hc;have hg:=a3F hm hc;rw[f1] at hg;have hg':aHG b.Mem c=(m',y):=aj
     have hy:-1<=(aHG b.Mem c).2:=by grind[aHG]
     grind
    ·have p2':(s.Pc == 2)=false:=aj
     simp only[p2',bR,bN,bS,aO p2,aH];rfl
def yE(c:aJ)(w:Int):yK:=c.b8.getD w.toNat ⟨false,0,false,0⟩
theorem OX{c:aJ}(hc:XY c)(hw:0<=w/\w<=2):idx c.b8 w=some (yE c w):=by have:=hc.2.1;grind[gI,yE]
def aWX(c:aJ)(w e:Int):aJ×Bool:=
 if(yE c w).On=false\/(yE c w).iV=true\/(yE c w).aP=e then(c,true)
 else if(yE c w).Seen=2 then(⟨c.aP,c.b8.set w.toNat {yE c w with iV:=true,Seen:=0}⟩,true)
 else(⟨c.aP,c.b8.set w.toNat {yE c w with Seen:=(yE c w).Seen+1}⟩,false)
theorem a7U{c:aJ}(hc:XY c)(hw:0<=w/\w<=2):POk c.aP (yE c w):=by
 have:=OX hc hw;have h2:=hc.2.1;rw[gI hw.1 aa] at this;injection this with this
 rw[<-this];exact hc.2.2 _ (cK _)
theorem a7V{c:aJ}(hc:XY c)(hw:0<=w/\w<=2)(e:Int):FJ c w e=some (aWX c w e):=by have hp:=a7U hc hw;have hx:=OX hc hw;have hsm:=hc.small;unfold FJ yV aWX;rw[lF hsm.1,i7,bY hc,cM,bY hw,hx];simp only[aH,hU,bR,bN,nM,hx];generalize yE c w=p at *;have ew:bA (p.Seen+1)=p.Seen+1:=cO (by have:=hp.2.1;omega) (by have:=hp.2.1;omega);grind
def aWY(c:aJ)(e:Int):aJ×Bool:=if c.aP=e/\e≠100000 then(⟨e+1,c.b8⟩,true) else(c,false)
theorem a7W{c:aJ}(hc:XY c)(e:Int):OV c e=some (aWY c e):=by
 have hsm:=hc.small;unfold OV AZ aWY;rw[lF hsm.1,i7,bY hc];simp only[aH,hU,bR,bN];by_cases h1:c.aP=e
 ·have he:=hc.1;grind[cO]
 ·simp[h1]
def aHI(c:aJ)(w e:Int):aJ×Bool:=if 0<=e/\e<=c.aP then(⟨c.aP,c.b8.set w.toNat ⟨true,e,false,0⟩⟩,true) else(c,false)
theorem a3H{c:aJ}(hc:XY c)(hw:0<=w/\w<=2)(e:Int):JJ c w e=some (aHI c w e):=by have hsm:=hc.small;unfold JJ wW aHI;rw[lF hsm.1,i7,bY hc,cM,bY hw,cM];simp only[aH,hU,bR,bN];grind[OX]
def aO2(c:aJ)(w:Int):aJ×Bool:=if(yE c w).On then(⟨c.aP,c.b8.set w.toNat ⟨false,0,false,0⟩⟩,true) else(c,false)
theorem aHJ{c:aJ}(hc:XY c)(hw:0<=w/\w<=2):JM c w=some (aO2 c w):=by have hsm:=hc.small;have hx:=OX hc hw;unfold JM wX aO2;rw[lF hsm.1,i7,bY hc,cM,bY hw,hx];grind
def aO3(b:aA)(s:Sub):aA×Sub:=
 if s.Pc=0 then(b,{s with Pc:=1,E:=b.aJ.aP,B:=0})
 else if s.Pc=1 then
  if 0<=s.B/\s.B<=2 then
   if(aWX b.aJ s.B s.E).2 then({b with aJ:=(aWX b.aJ s.B s.E).1},{s with Pc:=if s.B=2 then 2 else 1,B:=s.B+1})
   else({b with aJ:=(aWX b.aJ s.B s.E).1},TO s 8)
  else(b,TO s 1)
 else if s.Pc=2 then({b with aJ:=(aWY b.aJ s.E).1},TO {s with Out:=if(aWY b.aJ s.E).2 then 1 else s.Out} 0)
 else(b,TO s 1)
theorem aWZ{b:aA}(hc:XY b.aJ)(s:Sub):o8 b s=some (aO3 b s):=by
 unfold o8 aO3;rw[a7W hc,cM];simp only[bS,nN,nO,aH];by_cases p0:s.Pc=0
 ·grind
 ·have p0':(s.Pc == 0)=false:=aj
  simp only[p0',bR,bN,aO p0];by_cases p1:s.Pc=1
  ·have p1':(s.Pc == 1)=true:=aj
   simp only[p1',bV,aM p1];by_cases hB:0<=s.B/\s.B<=2
   ·have ew:bA (s.B+1)=s.B+1:=cR;simp only[bY hB,hU,bR,bN,aM hB,a7V hc hB,aH,ew];grind[TO]
   ·simp only[dU hB,I0,bV,aO hB];rfl
  ·have p1':(s.Pc == 1)=false:=aj
   simp only[p1',bR,bN,aO p1];by_cases p2:s.Pc=2
   ·have p2':(s.Pc == 2)=true:=aj
    simp only[p2',bV,aM p2];cases h:(aWY b.aJ s.E).2<;>rfl
   ·have p2':(s.Pc == 2)=false:=aj
    simp only[p2',bR,bN,aO p2];rfl
def bE5(b:aA)(w:Int)(s:Sub):aA×Sub:=
 if s.Pc=0 then(b,{s with Pc:=1,E:=b.aJ.aP})
 else if s.Pc=1 then
  if(aHI b.aJ w s.E).2 then({b with aJ:=(aHI b.aJ w s.E).1},{s with Pc:=2}) else({b with aJ:=(aHI b.aJ w s.E).1},TO s 1)
 else if s.Pc=2 then if b.aJ.aP=s.E then(b,TO s 0) else(b,{s with Pc:=0})
 else(b,TO s 1)
theorem bBB{b:aA}(hc:XY b.aJ)(hw:0<=w/\w<=2)(s:Sub):FK b w s=some (bE5 b w s):=by
 unfold FK bE5;rw[a3H hc hw];simp only[bS,aH];by_cases p0:s.Pc=0
 ·grind
 ·have p0':(s.Pc == 0)=false:=aj
  simp only[p0',bR,bN,aO p0];by_cases p1:s.Pc=1
  ·have p1':(s.Pc == 1)=true:=aj
   simp only[p1',bV,aM p1];cases h:(aHI b.aJ w s.E).2<;>rfl
  ·have p1':(s.Pc == 1)=false:=aj
   simp only[p1',bR,bN,aO p1];by_cases p2:s.Pc=2
   ·have p2':(s.Pc == 2)=true:=aj
    simp only[p2',bV,aM p2];by_cases q:b.aJ.aP=s.E
    ·have q':(b.aJ.aP == s.E)=true:=aj
     simp only[q',bV,aM q];rfl
    grind
   ·have p2':(s.Pc == 2)=false:=aj
    simp only[p2',bR,bN,aO p2];rfl
def FD(l:List bM)(w:Int):List dW:=(l.getD w.toNat ⟨[]⟩).Rows
theorem WM(hl:tX l)(hw:0<=w/\w<=2):idx l w=some ⟨FD l w⟩:=by have:=hl.1;rw[gI hw.1 aa];simp[FD,TW,lH (show w.toNat<l.length by omega)]
theorem aSR(hl:tX l)(hw:0<=w/\w<=2):(FD l w).length<=24:=by
 have h:=WM hl hw;have h3:=hl.1;rw[gI hw.1 aa] at h;injection h with h
 have:=hl.small.2.2.2 _ (cK (show w.toNat<l.length by omega));grind
def aUX(b:aA)(w:Int)(s:Sub):aA×Sub:=
 if s.Pc=0 then(b,{s with Pc:=1,E:=b.aJ.aP})
 else if s.Pc=1 then
  if 0<=s.E/\s.E<=b.aJ.aP then
   if oJ b.Mem s.A/\¬aS b.aV (s.A % 32) then({b with aV:=b.aV.set w.toNat ⟨FD b.aV w++[⟨s.A,s.E⟩]⟩},TO s 0) else(b,TO s 4)
  else(b,TO s 1)
 else(b,TO s 1)
theorem aZM{b:aA}(hb:nJ b)(hw:0<=w/\w<=2)(s:Sub):sG b w s=some (aUX b w s):=by
 have hL:=hb.1.2.2.1;have hm:=hb.1.1;obtain⟨h1,h2,h3,_⟩:=oP.facts hm;have hx:=WM hL hw;have hrow:=aSR hL hw;unfold sG aUX;rw[cM,pL hm.1.1.1 aa (by grind[maxLen]) (by grind[maxLen]),eF];simp only[bS,aH,pW,xO];by_cases p0:s.Pc=0
 ·grind
 ·have p0':(s.Pc == 0)=false:=aj
  simp only[p0',bR,bN,aO p0];by_cases p1:s.Pc=1
  ·have p1':(s.Pc == 1)=true:=aj
   simp only[p1',bV,aM p1];by_cases q1:0<=s.E/\s.E<=b.aJ.aP
   ·simp only[bY q1,hU,bR,bN,aM q1];by_cases q2:oJ b.Mem s.A
    ·have hh:=q2.1;simp only[bY q2,hU,bR,bN,aM hh,MT hL,aH];by_cases q3:aS b.aV (s.A % 32)
     ·simp only[bY q3,bV,aO (show ¬(oJ b.Mem s.A/\¬aS b.aV (s.A % 32)) from λh=>h.2 q3)];rfl
     ·simp only[dU q3,bR,bN,hx,aH,aM (show oJ b.Mem s.A/\¬aS b.aV (s.A % 32) from⟨q2,q3⟩)];rw[DE];rfl
    ·simp only[dU q2,I0,bV,aO (show ¬(oJ b.Mem s.A/\¬aS b.aV (s.A % 32)) from λh=>q2 h.1)];rfl
   ·simp only[dU q1,I0,bV,aO q1];rfl
  ·have p1':(s.Pc == 1)=false:=aj
   simp only[p1',bR,bN,aO p1];rfl
def X0(r:dW)(e:Int):Prop:=2<=e/\r.aP<=bA (e-2)
instance (r:dW) (e:Int):Decidable (X0 r e):=by unfold X0;infer_instance
theorem aO4(r:dW)(e:Int):JI r e=some (decide (X0 r e)):=by unfold JI GS X0;grind
def NF(l:List dW)(e:Int)(k:Nat):Nat:=k+(l.drop k).findIdx (λr=>decide (X0 r e))
theorem a7X{l:List dW}(hl:l.length<=1000){from_ e:Int}:uN l from_ e=some (if NF l e from_.toNat<l.length then(NF l e from_.toNat:Int) else -1):=by
 have hst:(if 0<from_ then from_ else 0)=(from_.toNat:Int):=aa
 unfold uN;rw[hst];have key:∀d k:Nat,l.length<=k+d->loop (fM l e) (k:Int)=some (if NF l e k<l.length then Out.ret (NF l e k:Int) else Out.brk ()):=by
  intro d;induction d with
  |zero=>
   intro k hk;rw[bG (r:=Out.brk ()) (by simp_all[fM,aO]),aO (by grind[NF])]
  |succ d ih=>
   intro k hk;by_cases hkl:k<l.length
   ·have hd:l.drop k=l[k]::l.drop (k+1):=FE hkl;by_cases hr:X0 l[k] e
    ·have hs:NF l e k=k:=by grind[NF]
     simp_all[bG,fM,aT,aO4]
    ·have hs:NF l e k=NF l e (k+1):=by unfold NF;grind
     rw[bW (s':=((k+1:Nat):Int)) (by simp only[fM];rw[cQ,aT hkl,aH,aO4 _ e,aH,dU hr,cZ,cR];rfl),ih (k+1) aa,hs]
   grind
 rw[key l.length from_.toNat aa];split<;>rfl
def a1X(m:Mem)(w h:Int):Mem:=
 if h/32+1<=6 then
  if(iD m.aD.Own (w*3+cC m.Heap (h % 32)).toNat).length<2 then⟨⟨st4 m.Heap.Bytes (jR (h % 32) (cC m.Heap (h % 32))).toNat (h/32+1),m.Heap.Class⟩,⟨m.aD.Global,m.aD.Own.set (w*3+cC m.Heap (h % 32)).toNat ⟨iD m.aD.Own (w*3+cC m.Heap (h % 32)).toNat++[h % 32]⟩⟩⟩
  else⟨⟨st4 m.Heap.Bytes (jR (h % 32) (cC m.Heap (h % 32))).toNat (h/32+1),m.Heap.Class⟩,⟨m.aD.Global.set (cC m.Heap (h % 32)).toNat ⟨iD m.aD.Global (cC m.Heap (h % 32)).toNat++[h % 32]⟩,m.aD.Own⟩⟩
 else⟨⟨st4 m.Heap.Bytes (jR (h % 32) (cC m.Heap (h % 32))).toNat (h/32+1),m.Heap.Class⟩,m.aD⟩
theorem aFR(hm:oP m){h:Int}(hw:0<=w/\w<=2)(hv:oJ m h):yW m w (h % 32)=some (a1X m w h):=by
 obtain⟨hcnt,h3,h9,h1,h2,hsm,hcp,hlo,hsG,hsO⟩:=oP.facts hm;have hs:=hm.1.1.1;have hh:=hv.1;have hcl:=kE hv.2.1;have hgo:=aAL hcl;have hc2:0<=cC m.Heap (h % 32)/\cC m.Heap (h % 32)<=2:=by obtain⟨_,q,e⟩:=SB hcl;rw[e];exact AL.1 aa
 have hg6:1<=h/32/\h/32<=6:=by grind[kX]
 have eo:jR (h % 32) (cC m.Heap (h % 32))=(((jR (h % 32) (cC m.Heap (h % 32))).toNat:Nat):Int):=aa
 have ew:bA (h/32+1)=h/32+1:=cR;unfold yW a1X;rw[mL hs,aH,rH hs hcl,hv.2.2,aH,xG,aH,ew];generalize hgn:(jR (h % 32) (cC m.Heap (h % 32))).toNat=a at eo;rw[eo,MU aa aa aa];simp only[aH,GR,GQ,ew];generalize cC m.Heap (h % 32)=c at *;by_cases q:h/32+1<=6
 ·have hk:(w*3+c).toNat<m.aD.Own.length:=aa
  have hx:idx m.aD.Own (w*3+c)=some m.aD.Own[(w*3+c).toNat]:=gI aa aa;have hk2:c.toNat<m.aD.Global.length:=aa
  have hx2:idx m.aD.Global c=some m.aD.Global[c.toNat]:=gI aa aa;have b1:=hsO _ (cK hk);have b2:=hsG _ (cK hk2);rw[bY q,aM rfl,aM q];unfold RG;rw[(U6 hw hc2).1];simp only[aH,hx,hx2,GP,O8,O9,<-fB hk,<-fB hk2];by_cases q2:m.aD.Own[(w*3+c).toNat].aU.length<2
  ·have y1:(m.aD.Own[(w*3+c).toNat].aU.length:Int)<2:=aa
   simp only[bY y1,bV,aM q2];grind[cE]
  ·have y1:¬(m.aD.Own[(w*3+c).toNat].aU.length:Int)<2:=aa
   simp only[dU y1,bR,bN,aO q2];grind[cE]
 simp_all[aO]
def a7Y(z:List Int)(w:Int):Int:=z.getD w.toNat 0
theorem a3I(hz:aDD z)(hw:0<=w/\w<=2):idx z w=some (a7Y z w):=by have:=hz.1;grind[gI,a7Y]
def ZX(l:List dW)(k:Int):dW:=l.getD k.toNat ⟨0,0⟩
theorem aFS{l:List dW}{k:Int}(h:0<=k/\k<l.length):idx l k=some (ZX l k):=by grind[gI,ZX]
def X2(l:List dW)(s:Sub):Prop:=0<=s.Row/\s.Row<l.length/\(ZX l s.Row).Handle=s.H
instance (l:List dW) (s:Sub):Decidable (X2 l s):=by unfold X2;infer_instance
def aO5(b:aA)(w:Int)(s:Sub):aA×Sub:=
 if s.Pc=0 then(b,{s with Pc:=1,E:=b.aJ.aP,Row:=0})
 else if s.Pc=1 then
  if NF (FD b.aV w) s.E s.Row.toNat<(FD b.aV w).length then(b,{s with Pc:=2,Row:=(NF (FD b.aV w) s.E s.Row.toNat:Int),B:=0,H:=(ZX (FD b.aV w) (NF (FD b.aV w) s.E s.Row.toNat:Int)).Handle})
  else(b,TO s 0)
 else if s.Pc=2 then
  if(0<=s.B/\s.B<=2)/\X2 (FD b.aV w) s then
   if a7Y b.jJ s.B=s.H then(b,{s with Pc:=1,Row:=s.Row+1}) else(b,{s with Pc:=if s.B=2 then 3 else 2,B:=s.B+1})
  else(b,TO s 1)
 else if s.Pc=3 then
  if X2 (FD b.aV w) s/\X0 (ZX (FD b.aV w) s.Row) s.E then({b with Mem:=a1X b.Mem w s.H,aV:=b.aV.set w.toNat ⟨(FD b.aV w).eraseIdx s.Row.toNat⟩},{s with Pc:=1,Out:=bA (s.Out+1)})
  else(b,TO s 1)
 else(b,TO s 1)
theorem aW0(hl:tX l)(hw:0<=w/\w<=2){r:dW}(hr:r∈FD l w):r∈cS l:=by
 have h:=WM hl hw;have h3:=hl.1;rw[gI hw.1 aa] at h;injection h with h
 exact aHU.2 ⟨l[w.toNat],cK _,aj⟩
theorem a7Z{l:List dW}{k:Int}(h:0<=k/\k<l.length):ZX l k∈l:=by have:=aFS h;grind[gI]
theorem aW1{b:aA}(hb:nJ b)(hw:0<=w/\w<=2)(s:Sub):o9 b w s=some (aO5 b w s):=by
 have hL:=hb.1.2.2.1;have hm:=hb.1.1;have hx:=WM hL hw;have hrow:=aSR hL hw;have hfl:=λr hr=>aW0 hL hw (r:=r) hr;unfold o9 aO5;rw[hx];simp only[aH,bS];generalize FD b.aV w=l at *;by_cases p0:s.Pc=0
 ·grind
 have p0':(s.Pc == 0)=false:=aj
 simp only[p0',bR,bN,aO p0];by_cases p1:s.Pc=1
 ·have p1':(s.Pc == 1)=true:=aj
  simp only[p1',bV,aM p1,a7X (show l.length<=1000 by omega),aH];by_cases q:NF l s.E s.Row.toNat<l.length
  ·have n:¬(NF l s.E s.Row.toNat:Int)<0:=aa
   simp only[aM q,dU n,bR,bN,aFS (l:=l) (k:=(NF l s.E s.Row.toNat:Int)) aa,aH]
  ·simp only[aO q,bY (show(-1:Int)<0 by omega),bV];rfl
 have p1':(s.Pc == 1)=false:=aj
 simp only[p1',bR,bN,aO p1];have el:bA ((l.length:Int)-1)=(l.length:Int)-1:=cR;by_cases p2:s.Pc=2
 ·have p2':(s.Pc == 2)=true:=aj
  simp only[p2',bV,aM p2,cM,el,aH,eS,nP,bS];by_cases hB:0<=s.B/\s.B<=2
  ·simp only[bY hB,hU,bR,bN];by_cases hR:0<=s.Row/\s.Row<=(l.length:Int)-1
   ·simp only[bY hR,hU,bR,bN,aFS (l:=l) (k:=s.Row) aa,aH];by_cases hH:(ZX l s.Row).Handle=s.H
    ·have hH':((ZX l s.Row).Handle != s.H)=false:=aj
     have ha:(0<=s.B/\s.B<=2)/\X2 l s:=⟨hB,hR.1,aa,hH⟩;have e1:bA (s.B+1)=s.B+1:=cR;have e2:bA (s.Row+1)=s.Row+1:=cR;simp only[hH',bR,bN,aM ha,a3I hb.1.2.2.2 hB,aH,e1,e2];grind
    ·have hH':((ZX l s.Row).Handle != s.H)=true:=aj
     have ha:¬((0<=s.B/\s.B<=2)/\X2 l s):=λh=>hH h.2.2.2;simp only[hH',bV,aO ha,aH];rfl
   ·have ha:¬((0<=s.B/\s.B<=2)/\X2 l s):=λh=>hR ⟨h.2.1,by have:=h.2.2.1;omega⟩;simp only[dU hR,I0,bV,aO ha,aH];rfl
  ·have ha:¬((0<=s.B/\s.B<=2)/\X2 l s):=λh=>hB h.1;simp only[dU hB,I0,bV,aO ha,aH];rfl
 have p2':(s.Pc == 2)=false:=aj
 simp only[p2',bR,bN,aO p2];by_cases p3:s.Pc=3
 ·have p3':(s.Pc == 3)=true:=aj
  simp only[p3',bV,aM p3,cM,el,aH,eT,uO,bS];by_cases hR:0<=s.Row/\s.Row<=(l.length:Int)-1
  ·simp only[bY hR,hU,bR,bN,aFS (l:=l) (k:=s.Row) aa,aH];by_cases hH:(ZX l s.Row).Handle=s.H
   ·have hH':((ZX l s.Row).Handle != s.H)=false:=aj
    simp only[hH',bR,bN,aO4,aH];by_cases hr:X0 (ZX l s.Row) s.E
    ·have ha:X2 l s/\X0 (ZX l s.Row) s.E:=⟨⟨hR.1,aa,hH⟩,hr⟩;have e2:bA (s.Row+1)=s.Row+1:=cR;have hlive:=(hb.2 _ (hfl _ (a7Z (l:=l) (k:=s.Row) aa))).1;rw[hH] at hlive;have et:(s.Row+1).toNat=s.Row.toNat+1:=aa
     simp only[bY hr,hU,bR,bN,aM ha,e2,eF,aM hlive.1,aH,aFR hm hw hlive,et];grind[cE,del_eq]
    ·have ha:¬(X2 l s/\X0 (ZX l s.Row) s.E):=λh=>hr h.2;simp only[dU hr,I0,bV,aO ha,aH];rfl
   ·have hH':((ZX l s.Row).Handle != s.H)=true:=aj
    have ha:¬(X2 l s/\X0 (ZX l s.Row) s.E):=λh=>hH h.1.2.2;simp only[hH',bV,aO ha,aH];rfl
  ·have ha:¬(X2 l s/\X0 (ZX l s.Row) s.E):=λh=>hR ⟨h.1.1,by have:=h.1.2.1;omega⟩;simp only[dU hR,I0,bV,aO ha,aH];rfl
 ·have p3':(s.Pc == 3)=false:=aj
  simp only[p3',bR,bN,aO p3];rfl
def BZ(b:aA)(w:Int)(s:Sub):aA×Sub:=
 if s.jA then(b,s) else if s.Kind=1 then aZL b w s else if s.Kind=2 then aUX b w s else if s.Kind=3 then aO3 b s else if s.Kind=4 then aO5 b w s else if s.Kind=5 then bE5 b w s else(b,TO s 1)
theorem aUY{b:aA}(hb:nJ b)(hw:0<=w/\w<=2)(s:Sub):JK b w s=some (BZ b w s):=by
 unfold JK BZ;rw[a3G hb.1.1 hw,aZM hb hw,aWZ hb.1.2.1,aW1 hb hw,bBB hb.1.2.1 hw];simp only[aH,bS];cases s.jA
 ·simp only[bR,bN,beq_iff_eq];split<;>(try rfl);split<;>(try rfl);split<;>(try rfl);split<;>(try rfl);split<;>rfl
 ·rfl
theorem bBC{b:aA}(hb:nJ b)(hw:0<=w/\w<=2)(s:Sub):nJ (BZ b w s).1:=by obtain⟨x,y,e1,_,h⟩:=step_eq hb hb.small hw s;grind[aUY]
theorem aLH{b:List Int}{a:Nat}(h:a+4<=b.length)(hj:j<a\/a+4<=j):bt (QN b a n) j=bt b j:=by unfold QN;rw[TN ah,TN ah,TN ah,TN aa,xK,xK,xK,xK]
theorem HOk.put(hh:HOk h)(hc:0<=cC h s)(hn:0<=n/\n<=4294967295) :
  HOk ⟨QN h.Bytes ((jR s (cC h s)).toNat+4) n,h.Class⟩/\∀t,0<=cC h t->nI ⟨QN h.Bytes ((jR s (cC h s)).toNat+4) n,h.Class⟩ t=nI h t:=by
 obtain⟨hs,hp⟩:=hh;have h384:=hs.1;have hs':fW ⟨QN h.Bytes ((jR s (cC h s)).toNat+4) n,h.Class⟩:=⟨by grind[aFL],hs.2.1,a3A hs.2.2.1 _ hn,hs.2.2.2⟩;obtain⟨p,i,p6,hi,es,ec,eo,ep⟩:=IW hc;have hcl:0<=cN h p/\cN h p<=2:=AL.1 aa;have hroom:8+i*(bJ (cN h p)).toNat+8<=64/\∀j,j<(dN (cN h p)).toNat->j*(bJ (cN h p)).toNat+4<=i*(bJ (cN h p)).toNat+4\/i*(bJ (cN h p)).toNat+12<=j*(bJ (cN h p)).toNat:=by grind[dN,bJ]
 have hgen:∀q j,q<6->j<(dN (cN h q)).toNat->ld (QN h.Bytes ((jR s (cC h s)).toNat+4) n) (q*64+8+j*(bJ (cN h q)).toNat) 4=ld h.Bytes (q*64+8+j*(bJ (cN h q)).toNat) 4:=λq j hq hj=>by
  have hz:=xH hs hq rfl hj;refine WK aa (by grind[aFL]) λk k1 k2=>?_;by_cases e:q=p
  ·grind[aLH]
  grind[aLH]
 refine⟨⟨hs',λq hq=>?_⟩,λt ht=>?_⟩
 ·rw[LW hs' hq];have hold:=(LW hs hq).1 (hp q hq);by_cases e:q=p
  ·subst e;have hcl':¬cN h q<0:=aa
   unfold aFM at hold ⊢;have hcc:cN ⟨QN h.Bytes ((jR s (cC h s)).toNat+4) n,h.Class⟩ q=cN h q:=rfl;rw[hcc];rw[aO hcl'] at hold ⊢;obtain⟨⟨a1,a2,a3⟩,a4,a5⟩:=hold;have bs:∀k,k<8->bt (QN h.Bytes ((jR s (cC h s)).toNat+4) n) (q*64+k)=bt h.Bytes (q*64+k):=λk hk=>aLH aa aa;have b0:=bs 0 aa;grind
  ·refine aFM.same hq hs (by grind[aFL]) rfl (λk hk=>aLH aa aa) hold
 ·obtain⟨p',i',p6',hi',es',ec',eo',ep'⟩:=IW ht;have e2:cC ⟨QN h.Bytes ((jR s (cC h s)).toNat+4) n,h.Class⟩ t=cC h t:=rfl;grind[nI]
theorem oP.put(hm:oP m)(hc:0<=cC m.Heap s)(hn:0<=n/\n<=4294967295):AO m ⟨⟨QN m.Heap.Bytes ((jR s (cC m.Heap s)).toNat+4) n,m.Heap.Class⟩,m.aD⟩ (-1):=by obtain⟨a,b⟩:=HOk.put hm.1.1 hc hn;refine⟨oP.heap hm a λx hx=>⟨rfl,b x (oP.ZW hm hx).1⟩,λt ht _=>?_⟩;have ht':=tY.1 ht;have e:=b t ht'.1;exact⟨tY.2 ⟨ht'.1,ht'.2.1,aj⟩,e,rfl⟩
theorem start_eq(hs:fW h)(hc:0<=cC h s):NR s (cC h s)=some (jR s (cC h s)+4)/\OE s (cC h s)=some (jR s (cC h s)+4):=by have hg:=aAL hc;unfold NR OE;rw[xG,DF,aH,rK,cR];simp
theorem hb0(x:Int):(x == 0)=decide (x=0):=aj
theorem IX(h:Int):qB h=some (decide (jQ h)):=by grind[qB,DX,jQ,fO]
theorem IY(h:Int):m8 h=some (decide (jQ h)):=by grind[m8,zN,jQ,g7]
theorem aW2{c:aJ}(hc:XY c)(hw:0<=w/\w<=2):∃r,JM c w=some r/\VX c w=some r/\XY r.1/\r.1.aP=c.aP:=by
 obtain⟨p,hp,hpk⟩:=aZA hc hw;unfold JM VX;rw[lF hc.small.1,DJ hc.small.1,i7,wP hc.small.2,lU,cM,bY hc,bY hw];simp only[aH,hU,bR,bN,hp,wX,C6];cases p.On with
 |true=>
  simp only[hU,bR,bN];have h0:=hc.1;exact⟨_,rfl,rfl,hc.aUT ⟨aj,ae,λ_=>rfl⟩,rfl⟩
 |false=>simp_all
theorem aDD.set(hz:aDD z)(k:Nat){h:Int}(hh:jQ h):aDD (z.set k h):=⟨by simpa using hz.1,λq hq=>(rV hq).elim (hz.2 q) (λe=>e ▸ hh)⟩
theorem nJ.clock{b:aA}(hb:nJ b){cl:aJ}(h:XY cl)(e:b.aJ.aP<=cl.aP):nJ ⟨b.Mem,cl,b.aV,b.jJ⟩:=⟨⟨hb.1.1,h,hb.1.2.2⟩,λr hr=>⟨(hb.2 r hr).1,Int.le_trans (hb.2 r hr).2 e⟩⟩
theorem nJ.mem{b:aA}(hb:nJ b)(h:AO b.Mem m (-1)):nJ ⟨m,b.aJ,b.aV,b.jJ⟩:=⟨⟨h.1,hb.1.2⟩,λr hr=>⟨h.live (hb.2 r hr).1 aa,(hb.2 r hr).2⟩⟩
def aZN(kind a:Int):Sub:=⟨kind,a,0,0,0,0,0,0,0,false⟩
def lV:List Int->Nat->List UInt8->List Int
 |b,_,[]=>b
 |b,a,c::t=>lV (b.set a (c.toNat:Int)) (a+1) t
theorem AP:∀(t:List UInt8) (b:List Int) (a:Nat),(lV b a t).length=b.length
 |[],b,a=>rfl
 |c::t,b,a=>by rw[lV,AP];simp
theorem aSS:∀(t:List UInt8) {b:List Int} (a:Nat),tW b->tW (lV b a t)
 |[],b,a,h=>h
 |c::t,b,a,h=>aSS t (a+1) (aWV a h ⟨aa,by have:=c.toNat_lt;omega⟩)
theorem aFT:∀(t:List UInt8) {b:List Int} {a:Nat},a+t.length<=b.length->∀{j:Nat},(j<a\/a+t.length<=j)->bt (lV b a t) j=bt b j
 |[],b,a,h,j,hj=>rfl
 |c::t,b,a,h,j,hj=>by simp only[aDM] at h hj;rw[lV,aFT t ah aa,TN aa,xK]
theorem aIF(b:List Int)(a:Nat)(t:List UInt8)(hl:b.length<=100000)(h:a+t.length<=b.length):∀(r:List UInt8) (k:Nat) (c:List Int),c.length=b.length->t.drop k=r->k+r.length=t.length->loop (lL b (a:Int) t) (c,(k:Int))=some (lV c (a+k) r)
 |[],k,c,hc,hr,hk=>by refine bG ?_;simp only[lL];rw[cE hc,aO aj];rfl
 |x::r,k,c,hc,hr,hk=>by
  simp only[aDM] at hk;have hkt:k<t.length:=aa
  have e:=FE hkt;rw[hr] at e;injection e with e1 e2
  have st:lL b (a:Int) t (c,(k:Int))=some (.next (c.set (a+k) (x.toNat:Int),((k+1:Nat):Int))):=by simp only[lL];rw[cE hc,cQ,aT hkt,aH,cR (x:=(a:Int)+k),show(a:Int)+k=((a+k:Nat):Int) by omega,TD,aH,cR,<-e1];rfl
  rw[bW st,aIF b a t hl h r (k+1) _ aj e2.symm aa,lV];rfl
theorem aST{b:List Int}{a:Nat}(hl:b.length<=100000)(h:a+t.length<=b.length):m7 b (a:Int) t=some (lV b a t):=by unfold m7;rw[show(0:Int)=((0:Nat):Int) from rfl,aIF b a t hl h t 0 b rfl rfl aa,aH];grind[PG,PF,cE,AP]
theorem HOk.lV(hh:HOk h)(hc:0<=cC h s){o:Nat}(ht:((o+t.length:Nat):Int)<=kZ (cC h s)) :
  HOk ⟨Gv.lV h.Bytes ((jR s (cC h s)).toNat+4+o) t,h.Class⟩/\∀u,0<=cC h u->nI ⟨Gv.lV h.Bytes ((jR s (cC h s)).toNat+4+o) t,h.Class⟩ u=nI h u:=by
 obtain⟨hs,hp⟩:=hh;have h384:=hs.1;have hs':fW ⟨Gv.lV h.Bytes ((jR s (cC h s)).toNat+4+o) t,h.Class⟩:=⟨by grind[AP],hs.2.1,aSS _ _ hs.2.2.1,hs.2.2.2⟩;obtain⟨p,i,p6,hi,es,ec,eo,ep⟩:=IW hc;have hcl:0<=cN h p/\cN h p<=2:=AL.1 aa;rw[ec] at ht;have hroom:8+i*(bJ (cN h p)).toNat+4+(kZ (cN h p)).toNat<=64/\∀j,j<(dN (cN h p)).toNat->j*(bJ (cN h p)).toNat+4<=i*(bJ (cN h p)).toNat+4\/i*(bJ (cN h p)).toNat+4+(kZ (cN h p)).toNat<=j*(bJ (cN h p)).toNat:=by grind[dN,bJ,kZ]
 have hot:o+t.length<=(kZ (cN h p)).toNat:=aa
 have hgen:∀q j,q<6->j<(dN (cN h q)).toNat->ld (Gv.lV h.Bytes ((jR s (cC h s)).toNat+4+o) t) (q*64+8+j*(bJ (cN h q)).toNat) 4=ld h.Bytes (q*64+8+j*(bJ (cN h q)).toNat) 4:=λq j hq hj=>by
  have hz:=xH hs hq rfl hj;refine WK aa (by grind[AP]) λk k1 k2=>?_;by_cases e:q=p
  ·subst e;have:=hroom.2 j hj;exact aFT _ aa aa
  ·exact aFT _ aa aa
 refine⟨⟨hs',λq hq=>?_⟩,λu hu=>?_⟩
 ·rw[LW hs' hq];have hold:=(LW hs hq).1 (hp q hq);by_cases e:q=p
  ·subst e;have hcl':¬cN h q<0:=aa
   unfold aFM at hold ⊢;have hcc:cN ⟨Gv.lV h.Bytes ((jR s (cC h s)).toNat+4+o) t,h.Class⟩ q=cN h q:=rfl;rw[hcc];rw[aO hcl'] at hold ⊢;obtain⟨⟨a1,a2,a3⟩,a4,a5⟩:=hold;have bs:∀k,k<8->bt (Gv.lV h.Bytes ((jR s (cC h s)).toNat+4+o) t) (q*64+k)=bt h.Bytes (q*64+k):=λk hk=>aFT _ aa aa;have b0:=bs 0 aa;grind
  ·refine aFM.same hq hs (by grind[AP]) rfl (λk hk=>aFT _ aa aa) hold
 ·obtain⟨p',i',p6',hi',es',ec',eo',ep'⟩:=IW hu;have e2:cC ⟨Gv.lV h.Bytes ((jR s (cC h s)).toNat+4+o) t,h.Class⟩ u=cC h u:=rfl;grind[nI]
theorem oP.lV(hm:oP m)(hc:0<=cC m.Heap s){o:Nat}(ht:((o+t.length:Nat):Int)<=kZ (cC m.Heap s)):AO m ⟨⟨Gv.lV m.Heap.Bytes ((jR s (cC m.Heap s)).toNat+4+o) t,m.Heap.Class⟩,m.aD⟩ (-1):=by obtain⟨a,b⟩:=HOk.lV hm.1.1 hc ht;refine⟨oP.heap hm a λx hx=>⟨rfl,b x (oP.ZW hm hx).1⟩,λt ht _=>?_⟩;have ht':=tY.1 ht;have e:=b t ht'.1;exact⟨tY.2 ⟨ht'.1,ht'.2.1,aj⟩,e,rfl⟩
def aW3:eD:=⟨0,0,0⟩
def J1(h:Heap)(s:Int):Nat:=(jR s (cC h s)).toNat+4
def bBD(h:Heap)(s:Int):eD:=⟨ld h.Bytes (J1 h s) 2,ld h.Bytes (J1 h s+2) 4,ld h.Bytes (J1 h s+6) 4⟩
def TP(h:Heap)(x:Int):eD:=if kX x/\0<=cC h (x % 32)/\10<=kZ (cC h (x % 32)) then bBD h (x % 32) else aW3
theorem WN(hcl:0<=cC h s)(h10:10<=kZ (cC h s)):J1 h s+10<=384/\16<=kZ (cC h s):=by grind[cC,J1,IW,kZ,dN,bJ]
theorem aO6(hs:fW h)(s:Int):HR h s=some (decide (10<=kZ (cC h s))):=by grind[HR,kD,ZK]
theorem aDF(hs:fW h)(hc:0<=cC h s):BG h s=some (J1 h s:Int):=by have:=aAL hc;grind[BG,J1,kD,start_eq]
theorem a3J(hs:fW h)(hc:0<=cC h s)(h10:10<=kZ (cC h s)):RY h s=some (bBD h s):=by
 have hr:=(WN hc h10).1;have h1:=hs.1;unfold RY bBD;rw[aDF hs hc,aH,show(2:Int)=((2:Nat):Int) from rfl,show(4:Int)=((4:Nat):Int) from rfl,wN hs.2.2.1 aa aa aa,aH,
  cR,show(J1 h s:Int)+((2:Nat):Int)=((J1 h s+2:Nat):Int) by omega,wN hs.2.2.1 aa aa aa,aH,
  cR,show(J1 h s:Int)+6=((J1 h s+6:Nat):Int) by omega,wN hs.2.2.1 aa aa aa];rfl
theorem aSU(hm:oP m)(x:Int):∃c,LM m x=some (TP m.Heap x,c):=by
 have hs:=hm.1.1.1;unfold LM TP;rw[g7,aH];by_cases hh:kX x
 ·rw[bY hh,cZ,(kX.mod hh).1,kD hs,aH];unfold HT;by_cases hc:cC m.Heap (x % 32)<0
  ·rw[bY hc,aM rfl,xK];exact⟨_,rfl⟩
  ·rw[dU hc,cZ,(kX.mod hh).1,aO6 hs,aH];by_cases h10:10<=kZ (cC m.Heap (x % 32))
   ·simp_all[a3J]
   ·rw[dU h10,aM ak,xK];exact⟨_,rfl⟩
 ·rw[dU hh,aM ak,aO (λq=>hh q.1)];exact⟨_,rfl⟩
def TQ(n:eD):Int:=if kX n.Next then n.Next else 0
theorem aUZ(n:eD):g9 n=some (TQ n):=by unfold g9 TQ;rw[g7,aH];grind
theorem aHK(n:eD):jQ (TQ n):=by
 unfold TQ;split
 ·exact .inr (by assumption)
 ·exact .inl rfl
def aW4(m:Mem)(x:Int):Prop:=oJ m x/\10<=kZ (cC m.Heap (x % 32))
instance (m:Mem) (x:Int):Decidable (aW4 m x):=by unfold aW4;infer_instance
theorem aIG(hm:oP m)(x:Int):∃c,C5 m x=some c/\(c=0↔aW4 m x):=by
 obtain⟨hcnt,h3,h9,h1,h2,hsm,hcp,hlo,hsG,hsO⟩:=oP.facts hm;have hs:=hm.1.1.1;unfold C5 aW4;rw[IU hs aa (by rw[h3];simp[maxLen]) (by rw[h9];simp[maxLen]),aH];by_cases hl:oJ m x
 ·rw[bY hl,cZ,(kX.mod hl.1).1,aO6 hs,aH];by_cases h10:10<=kZ (cC m.Heap (x % 32))
  ·rw[bY h10,cZ];exact⟨_,rfl,by simp[hl,h10]⟩
  ·rw[dU h10,aM ak];exact⟨_,rfl,by simp[hl,h10]⟩
 simp_all
def aCH(n:Int):List UInt8:=[u8 (n/256),u8 n]
theorem aZO(hn:0<=n/\n<=65535):mG n 2=some (aCH n):=by
 have hw:A8 2=some true:=by grind[A8,dO]
 unfold mG;rw[hw];have e1:IntKind.u64.wrap (bA (8*2))=16:=ai
 have e2:aLZ .i64 1 16=65536:=ai
 simp only[aH,hU,bR,bN,e1,e2];rw[rK,SA,dU aa];simp only[wZ,bR,bN];rw[SA,show bA (2-1)=((1:Nat):Int) from by grind[cO]];have st:∀(m:Int) (c:List UInt8) (i:Nat),i<c.length->i<4->0<=m->qY (m,c,(i:Int))=some (.next (m/256,c.set i (u8 m),(i:Int)-1)):=λm c i hc hi h0=>by simp only[qY];rw[aM ae,aT hc,aH,show(8:Int)=((8:Nat):Int) from rfl,a1P h0 aa,cR,F8];rfl
 rw[bW (st n _ 1 ae aa hn.1),show((1:Nat):Int)-1=((0:Nat):Int) by rfl,
  bW (st _ _ 0 ae aa aa),bG (r:=aCH n)]
 ·rfl
 ·simp only[qY];rw[cZ];rfl
def bE6(n:eD):List UInt8:=aCH n.Key++FW n.eN++FW n.Next
def aU0(n:eD):Prop:=(0<=n.Key/\n.Key<=99)/\(0<=n.eN/\n.eN<=65535)/\jQ n.Next
instance (n:eD):Decidable (aU0 n):=by unfold aU0;infer_instance
theorem a3K(n:eD):R0 n=some (decide (aU0 n)):=by grind[R0,aU0,dO,IY,zO]
theorem aFU(h:jQ x):0<=x/\x<=223:=by
 rcases h with h|h
 ·omega
 ·have:=h.1;omega
def aO7(m:Mem)(x:Int)(n:eD):Mem:=if aU0 n/\aW4 m x then⟨⟨lV m.Heap.Bytes (J1 m.Heap (x % 32)) (bE6 n),m.Heap.Class⟩,m.aD⟩ else m
theorem aZP(hm:oP m)(x:Int)(n:eD):∃c,OH m x n=some (aO7 m x n,c):=by
 obtain⟨hcnt,h3,h9,h1,h2,hsm,hcp,hlo,hsG,hsO⟩:=oP.facts hm;have hs:=hm.1.1.1;have hbl:m.Heap.Bytes.length<=maxLen:=by grind[maxLen]
 unfold OH aO7;rw[SD hsm,aH,K5 hbl aa,bY hm,aH,cZ,a3K,aH];unfold ED;by_cases hn:aU0 n
 ·rw[bY hn,cZ];obtain⟨c,e,hc⟩:=aIG hm x;rw[e,aH];by_cases hw:aW4 m x
  ·have hcl:=kE hw.1.2.1;have hr:=(WN hcl hw.2).1;have hnx:=aFU hn.2.2;have hk1:=hn.1.2;have hv1:=hn.2.1.2;obtain rfl:=hc.2 hw;rw[aM ak,(kX.mod hw.1.1).1,aDF hs hcl,aH,aZO ⟨hn.1.1,aa⟩,aH,WJ ⟨hn.2.1.1,aa⟩,aH,cE (by simp[aCH,FW]),
    WJ ⟨hnx.1,aa⟩,aH,cE (by simp[aCH,FW]),aST aa (by grind[aCH,FW]),aH,aM ⟨hn,hw⟩]
   exact⟨_,rfl⟩
  ·rw[aO aj,aO (λq=>hw q.2)];exact⟨_,rfl⟩
 simp_all
def aO8(m:Mem)(x y:Int):Mem:=if jQ y/\aW4 m x then⟨⟨lV m.Heap.Bytes (J1 m.Heap (x % 32)+6) (FW y),m.Heap.Class⟩,m.aD⟩ else m
theorem a3L(hm:oP m)(x y:Int):∃c,RZ m x y=some (Gv.aO8 m x y,c):=by
 obtain⟨hcnt,h3,h9,h1,h2,hsm,hcp,hlo,hsG,hsO⟩:=oP.facts hm;have hs:=hm.1.1.1;have hbl:m.Heap.Bytes.length<=maxLen:=by grind[maxLen]
 unfold RZ Gv.aO8;rw[SD hsm,aH,K5 hbl aa,bY hm,aH,cZ,IY,aH];unfold HW;by_cases hn:jQ y
 ·rw[bY hn,cZ];obtain⟨c,e,hc⟩:=aIG hm x;rw[e,aH];by_cases hw:aW4 m x
  ·have hcl:=kE hw.1.2.1;have hr:=(WN hcl hw.2).1;have hnx:=aFU hn;obtain rfl:=hc.2 hw;rw[aM ak,(kX.mod hw.1.1).1,aDF hs hcl,aH,WJ ⟨hnx.1,aa⟩,aH,cR,show(J1 m.Heap (x % 32):Int)+6=((J1 m.Heap (x % 32)+6:Nat):Int) by omega,
    aST aa (by grind[FW]),aH,aM ⟨hn,hw⟩]
   exact⟨_,rfl⟩
  ·rw[aO aj,aO (λq=>hw q.2)];exact⟨_,rfl⟩
 simp_all
theorem a70(hm:oP m)(x:Int)(n:eD):AO m (aO7 m x n) (-1):=by
 unfold aO7;split
 ·rename_i h;have:=WN (kE h.2.1.2.1) h.2.2;exact oP.lV hm (kE h.2.1.2.1) (o:=0) (by grind[bE6,aCH,FW])
 ·exact⟨hm,λs h _=>⟨h,rfl,rfl⟩⟩
theorem a71(hm:oP m)(x y:Int):AO m (Gv.aO8 m x y) (-1):=by
 unfold Gv.aO8;split
 ·rename_i h;have:=WN (kE h.2.1.2.1) h.2.2;exact oP.lV hm (kE h.2.1.2.1) (o:=6) (by grind[FW])
 ·exact⟨hm,λs h _=>⟨h,rfl,rfl⟩⟩
def a72:Heap:=⟨List.replicate 384 0,[-1,-1,-1,-1,-1,-1]⟩
def bE7:aD:=⟨List.replicate 3 ⟨[]⟩,List.replicate 9 ⟨[]⟩⟩
def aSV:aA:=⟨⟨a72,bE7⟩,⟨0,List.replicate 3 ⟨false,0,false,0⟩⟩,List.replicate 3 ⟨[]⟩,List.replicate 3 0⟩
theorem aKQ:NM=some a72:=by
 unfold NM;have key:loop vL (0,[])=some (List.replicate 6 (-1)):=fV (f:=vL) 6 (λk=>((k:Int),List.replicate k (-1))) _ (λk hk=>by
  simp only[vL];rw[cQ,DE,cR,List.replicate_succ'];rfl) (by simp[vL])
 rw[SA,key];rfl
theorem bE8:IG [-1] 6=some [-1,-1,-1,-1,-1,-1]:=by
 unfold IG;rw[cZ,show aBX (IntKind.u64.wrap (([-1]:List Int).length:Int)) (IntKind.u64.wrap 6)=some (0,6) by kernel_rfl];simp only[aH];rw[cZ,dU aa];simp only[zX,bR,bN];rw[show IntKind.i64.wrap 6=6 from wrap_i64 aa aa,SA,
  show(dL (List.replicate (Int.toNat 6) 0) 0 [-1],((min ([-1]:List Int).length ((List.replicate (Int.toNat 6) (0:Int)).length-0):Nat):Int))=([-1,0,0,0,0,0],1) by kernel_rfl,
  bW (body:=lQ) (s':=([-1,-1,0,0,0,0],2)) (by kernel_rfl),bW (body:=lQ) (s':=([-1,-1,-1,-1,0,0],4)) (by kernel_rfl),
  bW (body:=lQ) (s':=([-1,-1,-1,-1,-1,-1],6)) (by kernel_rfl),bG (body:=lQ) (r:=[-1,-1,-1,-1,-1,-1]) (by kernel_rfl)]
 rfl
theorem aKR:V3=some a72:=by unfold V3;rw[SA,bE8];rfl
theorem aO9:NN=some aSV/\V4=some aSV:=by unfold NN V4 YP aH1 SK aBY SL aBZ SM aB0 YQ aH2;rw[aKQ,aKR,SA,SA,SA,SA,SA];exact⟨rfl,rfl⟩
theorem aPA:nJ aSV:=of_decide_eq_true (by kernel_rfl)
def DK{O:Type}(o:Option O)(Q:O->Prop):Prop:=∃x,o=some x/\Q x
abbrev bCO{σ ρ:Type}(I:σ->Prop)(Q:ρ->Prop):Step σ ρ->Prop
 |.next s=>I s
 |.stop r=>Q r
namespace DK
variable {O J σ ρ:Type} {Q:O->Prop}
theorem ret{x:O}(h:Q x):DK (some x) Q:=⟨x,rfl,h⟩
theorem bind{P:J->Prop}{o:Option J}{f:J->Option O}(h:DK o P)(hf:∀x,P x->DK (f x) Q):DK (o.bind f) Q:=by obtain⟨x,e,hx⟩:=h;grind
theorem need{p:Prop}[Decidable p]{k:Option O}(h:p)(hk:DK k Q):DK (Gv.need p k) Q:=by grind[cE]
theorem ite{c:Prop}[Decidable c]{a b:Option O}(h1:c->DK a Q)(h2:¬c->DK b Q):DK (if c then a else b) Q:=aj
theorem mono{P:O->Prop}{o:Option O}(h:DK o P)(hf:∀x,P x->Q x):DK o Q:=by obtain⟨x,e,hx⟩:=h;exact⟨x,e,hf x hx⟩
theorem idx{l:List J}{i:Int}(h:0<=i/\i<l.length):DK (Gv.idx l i) (λx=>x∈l):=⟨_,gI h.1 h.2,cK _⟩
theorem loop{Q:ρ->Prop}{f:σ->Option (Step σ ρ)}{s:σ}(μ:σ->Nat)(Inv:σ->Prop)(h0:Inv s)(hb:∀s,Inv s->DK (f s) (bCO (λs'=>Inv s'/\μ s'<μ s) (λr=>Q r))):DK (Gv.loop f s) Q:=by
 have key:∀n s,μ s<n->Inv s->DK (Gv.loop f s) Q:=by
  intro n;induction n with
  |zero=>omega
  |succ n ih=>
   intro s h hs;obtain⟨q,e,hq⟩:=hb s hs;cases q with
   |next s'=>grind[bW]
   |stop r=>rw[bG e];exact⟨r,rfl,hq⟩
 exact key _ s (Nat.lt_succ_self _) h0
theorem of{o:Option O}{x:O}(h:o=some x):DK o (λy=>y=x):=⟨x,h,rfl⟩
end DK
def Cu(b:List UInt8)(i:Int):Prop:=(0<=i/\i<=b.length)/\b.length<=1048576
theorem a73(x:Int):0<=iE .and .i64 x 255/\iE .and .i64 x 255<=255:=by have e:iE .and .i64 x 255=IntKind.i64.wrap ((BitVec.ofInt 64 x &&& BitVec.ofInt 64 255).toNat:Int):=rfl;grind[Nat.and_le_right,wrap_i64]
section
variable {b:List UInt8} {i h:Int} (hc:Cu b i)
include hc
theorem aW5:DK (uD ⟨b,i,h⟩) (λx=>(0<=x.1/\x.1<=255)/\Cu b x.2.1):=by
 unfold uD GD;obtain⟨⟨a1,a2⟩,a3⟩:=hc;refine .ite (λq=>?_) (λq=>?_)
 ·have q':=of_decide_eq_true q;simp only at q';refine .bind (.idx ⟨a1,q'⟩) λx _=>.ret ⟨a73 _,?_⟩;grind[Cu,cO]
 ·exact .ret ⟨a73 _,⟨a1,a2⟩,a3⟩
theorem below(hn:n<=1000000):DK (gA ⟨b,i,h⟩ n) (λx=>(0<=x.1/\(x.1<n\/n<=0/\x.1=0))/\Cu b x.2.1):=by
 unfold gA;refine .ite (λq=>?_) (λq=>?_)
 ·have q':=of_decide_eq_true q;exact .ret ⟨ah,hc⟩
 ·have q0:0<n:=aj
  refine .ite (λq=>?_) (λq=>?_)
  ·refine .bind (aW5 hc) λx ⟨hx,h1⟩=>.need aa (.ret ⟨?_,h1⟩);simp only[AK hx.1];exact⟨Int.emod_nonneg _ aa,.inl (Int.emod_lt_of_pos _ q0)⟩
  ·refine .bind (aW5 hc) λx ⟨hx,h1⟩=>.bind (aW5 h1) λy ⟨hy,h2⟩=>.bind (aW5 h2) λz ⟨hz,h3⟩=>.bind (aW5 h3) λw ⟨hw,h4⟩=>.need aa (.ret ⟨?_,h4⟩);have e:bA (bA (bA (bA (x.1*16777216)+bA (y.1*65536))+bA (z.1*256))+w.1)=x.1*16777216+y.1*65536+z.1*256+w.1:=by grind[cO]
   simp only[e];rw[AK aa];exact⟨Int.emod_nonneg _ aa,.inl (Int.emod_lt_of_pos _ q0)⟩
theorem bG6(hn:n<=1000000):DK (YO ⟨b,i,h⟩ n) (λx=>Cu b x.2.1):=
 .bind (below hc hn) λ_ ⟨_,h1⟩=>.ret h1
theorem aSW{l:List Int}(hl:0<l.length)(hl2:l.length<=1000):DK (nL ⟨b,i,h⟩ l) (λx=>x.1∈l/\Cu b x.2.1):=
 .bind (below hc aa) λx ⟨hx,h1⟩=>.bind (.idx aa) λy hy=>.ret ⟨hy,h1⟩
end
theorem bIV{code:List UInt8}(hl:code.length<=1048576):DK (VM code) (λx=>Cu code x.1):=by
 unfold VM;refine .bind (P:=λ_=>True) (.loop (λs=>code.length-s.2.toNat) (λs=>0<=s.2/\s.2<=code.length) ⟨ae,ae⟩ ?_) λx _=>.ret ⟨⟨ae,ae⟩,hl⟩;rintro⟨a,k⟩ ⟨h1,h2⟩;simp only[aBO,J4];simp only at h1 h2;have nx:k<code.length->DK ((idx code k).bind λx7=>some (Step.next (iE .and .i64 (bA ((bA ((bA (a*131))+(x7.toNat:Int)))+7)) 1073741823,bA (k+1)))) (bCO (ρ:=Int) (λs'=>(0<=s'.2/\s'.2<=code.length)/\code.length-s'.2.toNat<code.length-k.toNat) (λr=>True)):=λhk=>by refine .bind (.idx ⟨h1,hk⟩) λx _=>.ret ?_;grind[cO]
 refine .ite (λq=>?_) (λq=>?_)
 ·have q':=of_decide_eq_true q;exact .ite (λ_=>nx q') (λ_=>.ret trivial)
 ·rw[cZ];exact .ret trivial
theorem aHL{b:aA}(hb:nJ b)(hw:0<=w/\w<=2)(s:Sub):rA s b w=some ((BZ b w s).2,(BZ b w s).1):=by obtain⟨x,y,e1,e2,h⟩:=step_eq hb hb.small hw s;grind[aUY]
theorem at_eq{code:List UInt8}(hl:code.length<=1048576){i:Int}(hi:0<=i/\i<=1000):DK (aLC code i) (λx=>0<=x/\x<=255):=by
 unfold aLC;refine .ite (λq=>?_) λq=>?_
 ·have q':=of_decide_eq_true q;exact .bind (.idx ⟨hi.1,q'⟩) λx _=>.ret (by have:=x.toNat_lt;omega)
 ·rw[cR (x:=i*37),cR (x:=(code.length:Int)*11),cR];refine .ret ?_;grind
theorem a3M(h:0<=x/\x<=255):0<=Int.tmod x 3/\Int.tmod x 3<=2:=aj
def eV:aG:=⟨false,⟨false,[]⟩,0,0,0,0,0,0,0,0,aW3,false,0,⟨0,0,0,0,0,0,0,0,0,false⟩,[],[],[],[],[],[]⟩
def iT(k:List bZ)(i:Int):bZ:=k.getD i.toNat ⟨0,0,0⟩
def OY(j:aG)(c:Int):aG:={j with Pc:=16,Code:=c}
def aBE(a b:Int):Int:=Int.tmod (bA (a+b)) 65536
def yH(j:aG)(x:aQ):Bool×aG:=if 6<(aCE j.aE x).length then(false,OY j 1) else(true,{j with aE:=aCE j.aE x})
def aHM(j:aG)(is:Bool)(v:Int):aG:={j with cJ:=j.cJ++[⟨is,v⟩],Pc:=1,At:=j.At+1}
def aW6(j:aG)(c:kG)(v:Int):aG:=if(yH j ⟨c.Key,false,aBE v c.eN⟩).1 then aHM (yH j ⟨c.Key,false,aBE v c.eN⟩).2 true (aBE v c.eN) else(yH j ⟨c.Key,false,aBE v c.eN⟩).2
def aBF(j:aG)(c:kG)(v:Int)(is:Bool):aG:=if c.Kind=4 then aW6 j c (if is then v else 0) else aHM j is (if is then v else 0)
def eC(j:aG):kG:=j.Batch.bD.getD j.At.toNat ⟨0,0,0⟩
def MW(j:aG):Prop:=j.At<j.Batch.bD.length
instance (j:aG):Decidable (MW j):=by unfold MW;infer_instance
def aKS(j:aG):aG:=
 if MW j then
  if(eC j).Kind=2\/(eC j).Kind=3 then
   if(yH j ⟨(eC j).Key,(eC j).Kind == 3,(eC j).eN⟩).1 then {(yH j ⟨(eC j).Key,(eC j).Kind == 3,(eC j).eN⟩).2 with At:=j.At+1,cJ:=j.cJ++[⟨false,0⟩]}
   else(yH j ⟨(eC j).Key,(eC j).Kind == 3,(eC j).eN⟩).2
  else if(YE j.aE (eC j).Key).2 then aBF j (eC j) (YE j.aE (eC j).Key).1.eN (!(YE j.aE (eC j).Key).1.GC)
  else {j with Pc:=2,bZ:=rJ (eC j).Key}
 else {j with Pc:=6,K:=0,Sub:=aZN 1 16}
def X3(b:aA)(k:List bZ)(w:Int)(j:aG):aG:=
 if j.Pc=2 then
  if(iT k j.bZ).eA≠0 then OY j 7
  else {j with dZ:=(iT k j.bZ).dZ,H:=(iT k j.bZ).Head,Found:=false,Node:=aW3,Pc:=if(iT k j.bZ).Head=0 then 5 else 3}
 else if j.Pc=3 then {j with Node:=TP b.Mem.Heap j.H,Pc:=4}
 else if j.Pc=4 then
  if ¬((yE b.aJ w).On=true/\(yE b.aJ w).iV=false) then OY j 6
  else if MW j then {j with Found:=j.Node.Key == (eC j).Key,H:=TQ j.Node,Pc:=if j.Node.Key=(eC j).Key\/TQ j.Node=0 then 5 else 3}
  else OY j 1
 else
  if(iT k j.bZ).eA≠0\/(iT k j.bZ).dZ≠j.dZ then OY j 7
  else if(DI j.Reads j.bZ j.dZ).2=false then OY {j with Reads:=(DI j.Reads j.bZ j.dZ).1} 7
  else if MW j then aBF {j with Reads:=(DI j.Reads j.bZ j.dZ).1} (eC j) j.Node.eN j.Found
  else OY {j with Reads:=(DI j.Reads j.bZ j.dZ).1} 1
def aPB(b:aA)(w:Int)(j:aG):aA×aG:=
 if kK j.aE j.aE.length<=j.K then(b,{j with Pc:=7,K:=0})
 else((BZ b w j.Sub).1,
  if(BZ b w j.Sub).2.jA=false then {j with Sub:=(BZ b w j.Sub).2}
  else if(BZ b w j.Sub).2.Code≠0\/¬kX (BZ b w j.Sub).2.Out\/6<=j.cT.length then OY {j with Sub:=(BZ b w j.Sub).2} (BZ b w j.Sub).2.Code
  else {j with cT:=j.cT++[(BZ b w j.Sub).2.Out],K:=j.K+1,Sub:=aZN 1 16})
def eP(j:aG):Int:=(jS j.aE).getD j.K.toNat 0
def YF(j:aG):aG:={j with aS:=if eP j∈j.aS then j.aS else j.aS++[eP j],K:=j.K+1}
def ZY(k:List bZ)(w:Int)(j:aG):List bZ×aG×Bool:=
 if j.K<(jS j.aE).length then
  if(iT k (eP j)).eA≠0\/(j.Reads.any λs=>s.bZ == eP j && s.dZ != (iT k (eP j)).dZ)=true then(k,OY j 7,false)
  else if(iT k (eP j)).dZ=1000000 then(k,OY j 3,false)
  else if(jS j.aE).length<=j.K+1 then(k.set (eP j).toNat {iT k (eP j) with eA:=w+1},{YF j with Pc:=8,K:=0},true)
  else(k.set (eP j).toNat {iT k (eP j) with eA:=w+1},YF j,false)
 else(k,{j with Pc:=8,K:=0},true)
def rdN(j:aG):Seen:=j.Reads.getD j.K.toNat ⟨0,0⟩
def aHN(k:List bZ)(w:Int)(j:aG):aG:=
 if j.Reads.length<=j.K then {j with Pc:=9,K:=0}
 else if((iT k (rdN j).bZ).eA≠0/\(iT k (rdN j).bZ).eA≠w+1)\/(iT k (rdN j).bZ).dZ≠(rdN j).dZ then OY j 7
 else {j with K:=j.K+1}
def plF(j:aG)(x:aQ):aG:=if x.GC then {j with Pc:=9,K:=j.K+1} else {j with Pc:=12}
def QO(j:aG):aQ:=j.aE.getD j.K.toNat ⟨0,false,0⟩
def aPC(j:aG):Int:=j.cT.getD (kK j.aE j.K).toNat 0
def ZZ(j:aG):aG:=if kX j.H/\j.bE.length<6 then {j with bE:=j.bE++[j.H]} else j
def QP(b:aA)(k:List bZ)(j:aG):aA×List bZ×aG:=
 if j.aE.length<=j.K then(b,k,{j with Pc:=14})
 else if j.Pc=9 then(b,k,if(iT k (rJ (QO j).Key)).Head=0 then plF {j with Pc:=10,H:=(iT k (rJ (QO j).Key)).Head,gT:=0} (QO j) else {j with Pc:=10,H:=(iT k (rJ (QO j).Key)).Head,gT:=0})
 else if j.Pc=10 then
  (b,k,if(TP b.Mem.Heap j.H).Key=(QO j).Key then {j with Pc:=11,Node:=TP b.Mem.Heap j.H}
   else if TQ (TP b.Mem.Heap j.H)=0 then plF {j with Node:=TP b.Mem.Heap j.H} (QO j)
   else {j with H:=TQ (TP b.Mem.Heap j.H),gT:=j.H,Node:=TP b.Mem.Heap j.H})
 else if j.Pc=11 then
  if j.gT=0 then(b,k.set (rJ (QO j).Key).toNat {iT k (rJ (QO j).Key) with Head:=TQ j.Node},plF (ZZ j) (QO j))
  else({b with Mem:=Gv.aO8 b.Mem j.gT (TQ j.Node)},k,plF (ZZ j) (QO j))
 else if j.cT.length<=kK j.aE j.K then(b,k,OY j 1)
 else if j.Pc=12 then({b with Mem:=aO7 b.Mem (aPC j) ⟨(QO j).Key,(QO j).eN,(iT k (rJ (QO j).Key)).Head⟩},k,{j with Pc:=13})
 else(b,k.set (rJ (QO j).Key).toNat {iT k (rJ (QO j).Key) with Head:=aPC j},{j with Pc:=9,K:=j.K+1})
def aKT(j:aG):aG:=if j.K<j.bE.length then {j with Sub:=aZN 2 (j.bE.getD j.K.toNat 0)} else j
def oK(j:aG):Int:=j.aS.getD 0 0
def WO(k:List bZ)(j:aG):List bZ×aG:=
 if 0<j.aS.length then
  (k.set (oK j).toNat (if j.Pc=14 then⟨(iT k (oK j)).Head,if 1000000<(iT k (oK j)).dZ+1 then 1000000 else(iT k (oK j)).dZ+1,0⟩ else {iT k (oK j) with eA:=0}),{j with aS:=j.aS.drop 1})
 else if j.Pc=16 then(k,{j with Pc:=17})
 else(k,aKT {j with Pc:=15,K:=0})
def aKU(b:aA)(w:Int)(j:aG):aA×aG:=
 if j.bE.length<=j.K then(b,{j with Pc:=18})
 else((BZ b w j.Sub).1,if(BZ b w j.Sub).2.jA then aKT {j with K:=j.K+1,Sub:=(BZ b w j.Sub).2} else {j with Sub:=(BZ b w j.Sub).2})
def aW7(m:Mem)(w x:Int):Mem:=if oJ m x then a1X m w x else m
def aKV(b:aA)(w:Int)(j:aG):aA×aG:=
 if j.cT.length=0 then(b,{j with Pc:=18})
 else(if aS b.aV (j.cT.getD 0 0 % 32) then b else {b with Mem:=aW7 b.Mem w (j.cT.getD 0 0)},{j with cT:=j.cT.drop 1})
def aDG(b:aA)(w:Int)(j:aG):aA×aG:=
 ((BZ b w j.Sub).1,if(BZ b w j.Sub).2.jA = false then {j with Sub:=(BZ b w j.Sub).2}
  else if j.Pc=0 then {j with Pc:=1,Sub:=(BZ b w j.Sub).2}
  else if j.Pc=20 then {j with Pc:=21,Sub:=aZN 4 0}
  else {j with Pc:=19,Sub:=(BZ b w j.Sub).2})
def tlE(w:Int)(j:aG):lG:=⟨3,w,j.aI,j.Code,[],if j.Code=0 then j.cJ else []⟩
structure TR where
 b:aA
 k:List bZ
 j:aG
 l:List lG
def doF(b:aA)(k:List bZ)(w:Int)(j:aG):TR:=
 if j.Pc=0\/j.Pc=20\/j.Pc=21 then⟨(aDG b w j).1,k,(aDG b w j).2,[]⟩
 else if j.Pc=1 then⟨b,k,aKS j,[]⟩
 else if 2<=j.Pc/\j.Pc<=5 then⟨b,k,X3 b k w j,[]⟩
 else if j.Pc=6 then⟨(aPB b w j).1,k,(aPB b w j).2,[]⟩
 else if j.Pc=7 then⟨b,(ZY k w j).1,(ZY k w j).2.1,if(ZY k w j).2.2 then [⟨2,w,j.aI,0,[],[]⟩] else []⟩
 else if j.Pc=8 then⟨b,k,aHN k w j,[]⟩
 else if 9<=j.Pc/\j.Pc<=13 then⟨(QP b k j).1,(QP b k j).2.1,(QP b k j).2.2,[]⟩
 else if j.Pc=14\/j.Pc=16 then⟨b,(WO k j).1,(WO k j).2,[]⟩
 else if j.Pc=15 then⟨(aKU b w j).1,k,(aKU b w j).2,[]⟩
 else if j.Pc=17 then⟨(aKV b w j).1,k,(aKV b w j).2,[]⟩
 else if j.Pc=18 then⟨{b with aJ:=(aO2 b.aJ w).1},k,{j with Pc:=19},[]⟩
 else if j.Pc=19 then⟨b,k,eV,[tlE w j]⟩
 else⟨b,k,OY j 1,[]⟩
def dP(t:Table)(w:Int):aG:=t.aK.getD w.toNat eV
def IZ(t:Table)(w:Int):List Batch:=(t.bK.getD w.toNat ⟨[]⟩).List
def JD(b:Batch)(s:Int):aG:=⟨true,b,s,if b.Collect then 20 else 0,0,0,0,0,0,0,aW3,false,0,if b.Collect then aZN 3 0 else aZN 5 0,[],[],[],[],[],[]⟩
def aU1(t:Table)(w:Int)(b:Batch):Table:=⟨t.aA,t.aR,t.aK.set w.toNat (JD b (t.aI+1)),t.bK.set w.toNat ⟨(IZ t w).drop 1⟩,t.Log++[⟨1,w,t.aI+1,0,b.bD,[]⟩],t.aI+1⟩
def WQ(t:Table)(w:Int)(r:TR):Table:=⟨r.b,r.k,t.aK.set w.toNat r.j,t.bK,t.Log++r.l,t.aI⟩
def tZ(t:Table)(w:Int):Table:=
 if(dP t w).kN then WQ t w (doF t.aA t.aR w (dP t w))
 else if(IZ t w).length=0\/t.aI=1000000 then t else aU1 t w ((IZ t w).getD 0 ⟨false,[]⟩)
def aBG(c:kG):Prop:=(1<=c.Kind/\c.Kind<=4)/\(0<=c.Key/\c.Key<=99)/\(0<=c.eN/\c.eN<=65535)/\(c.Kind=2\/c.Kind=4\/c.eN=0)
instance (c:kG):Decidable (aBG c):=by unfold aBG;infer_instance
def Z0(b:Batch):Prop:=(b.Collect=true->b.bD=[])/\b.bD.length<=6/\(∀c∈b.bD,aBG c)/\(b.Collect=false->1<=b.bD.length)
instance (b:Batch):Decidable (Z0 b):=by unfold Z0;infer_instance
def QuV(q:aN):Prop:=q.List.length<=12/\∀b∈q.List,Z0 b
instance (q:aN):Decidable (QuV q):=by unfold QuV;infer_instance
def Z1(l:List aN):Prop:=l.length=3/\∀q∈l,QuV q
instance (l:List aN):Decidable (Z1 l):=by unfold Z1;infer_instance
def BkV(b:bZ):Prop:=jQ b.Head/\(0<=b.dZ/\b.dZ<=1000000)/\(0<=b.eA/\b.eA<=3)
def WrV(l:List aQ):Prop:=l.length<=6/\(∀x∈l,(0<=x.Key/\x.Key<=99)/\(0<=x.eN/\x.eN<=65535))/\l.Pairwise (λx y=>x.Key<y.Key)
structure JB (j:aG):Prop where
 busy:j.kN=true
 bat:Z0 j.Batch
 h:jQ j.H
 prev:jQ j.gT
 bkt:0<=j.bZ/\j.bZ<=1
 at_:0<=j.At/\j.At<=j.Batch.bD.length
 k:0<=j.K/\j.K<=6
 new:j.cT.length<=6/\∀x∈j.cT,kX x
 old:j.bE.length<=6/\∀x∈j.bE,kX x
 reads:(∀s∈j.Reads,0<=s.bZ/\s.bZ<=1)/\(j.Reads.map Seen.bZ).Nodup
 wr:WrV j.aE
 held:(∀x∈j.aS,0<=x/\x<=1)/\j.aS.Nodup
 res:(j.cJ.length:Int)=j.At
 node:0<=j.Node.eN/\j.Node.eN<=4294967295
structure TV (t:Table):Prop where
 base:nJ t.aA
 bk:t.aR.length=2/\∀x∈t.aR,BkV x
 J2:t.aK.length=3/\∀j∈t.aK,j=eV\/JB j
 todo:Z1 t.bK
 ser:0<=t.aI/\t.aI<=1000000
theorem aSX{j:aG}(hw:j.aE.length<=1000)(x:aQ):sW j x=some (yH j x):=by
 unfold sW yH;rw[aHF hw,aH];by_cases h:6<(aCE j.aE x).length
 ·rw[cQ,aM h];rfl
 grind
theorem U7(j:aG)(x:aQ):(yH j x).2.cJ=j.cJ/\(yH j x).2.At=j.At:=by grind[yH,OY]
theorem aSY{j:aG}(hw:j.aE.length<=1000)(hr:j.cJ.length<=1000)(ha:0<=j.At/\j.At<=1000)(c:kG)(v:Int)(is:Bool):sY j c v is=some (aBF j c v is):=by
 have key:∀u,mR j c is u=some (if c.Kind=4 then aW6 j c u else aHM j is u):=λu=>by
  unfold mR;by_cases hk:c.Kind=4
  ·rw[aM aj,aM hk];unfold aCT aW6;rw[aH,show Int.tmod (bA (u+c.eN)) 65536=aBE u c.eN from rfl,aSX hw,aH];obtain⟨e1,e2⟩:=U7 j ⟨c.Key,false,aBE u c.eN⟩;cases h:(yH j ⟨c.Key,false,aBE u c.eN⟩).1
   ·simp
   ·rw[cZ,aM rfl];grind[mQ,rQ,aHM,cE,cO]
  ·rw[aO aj,aO hk];grind[mQ,rQ,aHM,cE,cO]
 unfold sY aBF;grind
theorem aPD{j:aG}(hl:j.Batch.bD.length<=1000)(ha:0<=j.At):qM j=some (if MW j then(eC j,true,j) else(⟨0,0,0⟩,false,j)):=by
 unfold qM eC;rw[dO,aH,cR];by_cases hc:MW j
 ·have h:j.At<j.Batch.bD.length:=hc;rw[bY aa,cZ,aM hc,gI ha h,aH];grind
 ·have h:¬j.At<j.Batch.bD.length:=hc;grind
theorem a76{j:aG}(hl:j.Batch.bD.length<=1000)(hw:j.aE.length<=1000)(hr:j.cJ.length<=1000)(ha:0<=j.At/\j.At<=1000):HQ j=some (aKS j):=by
 unfold HQ aKS;rw[aPD hl ha.1,aH];by_cases h:MW j
 ·rw[aM h,aM h];have put:jZ (eC j,true,j) true j=some (if(yH j ⟨(eC j).Key,(eC j).Kind == 3,(eC j).eN⟩).1 then {(yH j ⟨(eC j).Key,(eC j).Kind == 3,(eC j).eN⟩).2 with At:=j.At+1,cJ:=j.cJ++[⟨false,0⟩]} else(yH j ⟨(eC j).Key,(eC j).Kind == 3,(eC j).eN⟩).2):=by
   unfold jZ;rw[aM rfl,aSX hw,aH];obtain⟨e1,e2⟩:=U7 j ⟨(eC j).Key,(eC j).Kind == 3,(eC j).eN⟩;cases (yH j ⟨(eC j).Key,(eC j).Kind == 3,(eC j).eN⟩).1
   ·rw[cZ,cZ]
   ·rw[aM rfl,aM rfl,cE (by rw[e1];simp;omega)];simp only[e1,e2];rw[cR]
  have get:jZ (eC j,true,j) false j=some (if(YE j.aE (eC j).Key).2 then aBF j (eC j) (YE j.aE (eC j).Key).1.eN (!(YE j.aE (eC j).Key).1.GC) else {j with Pc:=2,bZ:=rJ (eC j).Key}):=by
   unfold jZ HP;rw[cZ,aKN hw,aH];cases (YE j.aE (eC j).Key).2
   ·rw[cZ,cZ,TG];rfl
   ·rw[aM rfl,aM rfl,aSY hw hr ha];rfl
  grind
 ·rw[aO h,aO h];rfl
theorem rU{t:Table}(h3:t.aK.length=3)(hw:0<=w/\w<=2):idx t.aK w=some (dP t w):=by grind[gI,dP]
theorem CG{k:List bZ}{i:Int}(h2:k.length=2)(hi:0<=i/\i<=1):idx k i=some (iT k i):=by grind[gI,iT]
theorem Z2{l:List O}{i:Int}{x:O}(h:0<=i/\i<l.length):idx (l.set i.toNat x) i=some x:=by grind[gI]
theorem SH{t:Table}(h3:t.aK.length=3)(hw:0<=w/\w<=2):dP t w∈t.aK:=by grind[dP]
def aW8(t:Table)(w:Int)(j:aG):Table:={t with aK:=t.aK.set w.toNat j}
section
variable {t:Table} {w:Int} (h3:t.aK.length=3) (h2:t.aR.length=2) (hb:nJ t.aA) (hw:0<=w/\w<=2) (hj:JB (dP t w))
include h3 h2 hb hw hj
theorem U8:(dP t w).Batch.bD.length<=1000/\(dP t w).aE.length<=1000/\(dP t w).cJ.length<=1000/\(0<=(dP t w).At/\(dP t w).At<=1000)/\(dP t w).Reads.length<=2:=by
 have h1:=hj.bat.2.1;have h4:=hj.at_;have h5:=hj.res;have h6:=hj.wr.1;refine⟨aa,aa,aa,aa,?_⟩;have hn:=hj.reads.2;have hm:∀x∈(dP t w).Reads.map Seen.bZ,x=0\/x=1:=λx hx=>by obtain⟨s,hs,rfl⟩:=List.mem_map.1 hx;have:=hj.reads.1 s hs;omega
 have hl:((dP t w).Reads.map Seen.bZ).length<=2:=by
  match h:(dP t w).Reads.map Seen.bZ,hn,hm with
  |[],_,_=>simp
  |[_],_,_=>simp
  |[_,_],_,_=>simp
  |x::y::z::r,hn,hm=>
   (simp_all;omega)
 grind
theorem bBE:D9 t w=some (aW8 t w (X3 t.aA t.aR w (dP t w))):=by
 obtain⟨s1,s2,s3,s4,s5⟩:=U8 h3 h2 hb hw hj;have hjob:=rU h3 hw;unfold D9 E1 X3 aW8;rw[hjob,aH,CG h2 hj.bkt,aH,aH,aPD s1 s4.1,aH];generalize hjj:dP t w=j at *;have e62:(if MW j then(eC j,true,j) else((⟨0,0,0⟩:kG),false,j)).2.2=j:=aj
 have set2:∀x y:aG,(t.aK.set w.toNat x).set w.toNat y=t.aK.set w.toNat y:=λx y=>aR0 ..;have iset:∀x:aG,idx (t.aK.set w.toNat x) w=some x:=λx=>Z2 ⟨hw.1,aa⟩;simp only[e62];by_cases p2:j.Pc=2
 ·have p2':(j.Pc == 2)=true:=aj
  simp only[p2',bV,aM p2];by_cases hl:(iT t.aR j.bZ).eA=0
  ·have e:((iT t.aR j.bZ).eA != 0)=false:=aj
   simp only[e,bR,bN,aO (not_not_intro hl)];by_cases hh:(iT t.aR j.bZ).Head=0
   ·have e:((iT t.aR j.bZ).Head == 0)=true:=aj
    simp only[e,bV,aM hh];rfl
   ·have e:((iT t.aR j.bZ).Head == 0)=false:=aj
    simp only[e,bR,bN,aO hh];rfl
  ·have e:((iT t.aR j.bZ).eA != 0)=true:=aj
   simp only[e,bV,aM hl];rfl
 ·have p2':(j.Pc == 2)=false:=aj
  simp only[p2',bR,bN,aO p2];by_cases p3:j.Pc=3
  ·have p3':(j.Pc == 3)=true:=aj
   simp only[p3',bV,aM p3];obtain⟨c,e⟩:=aSU hb.1.1 j.H;rw[e];rfl
  ·have p3':(j.Pc == 3)=false:=aj
   simp only[p3',bR,bN,aO p3];by_cases p4:j.Pc=4
   ·have p4':(j.Pc == 4)=true:=aj
    simp only[p4',bV,aM p4];rw[OX hb.1.2.1 hw,aH];simp only[EY,oN];have hp:(if(yE t.aA.aJ w).On=true then some (!(yE t.aA.aJ w).iV) else some false)=some (decide ((yE t.aA.aJ w).On=true/\(yE t.aA.aJ w).iV=false)):=by cases (yE t.aA.aJ w).On<;>cases (yE t.aA.aJ w).iV<;>rfl
    rw[hp,aH];by_cases hpin:(yE t.aA.aJ w).On=true/\(yE t.aA.aJ w).iV=false
    ·simp only[bY hpin,hU,bR,bN,aO (not_not_intro hpin)];by_cases hc:MW j
     ·simp only[aM hc,hU,bR,bN,aUZ,aH,EZ,uX,iset,set2];grind
     ·simp only[aO hc,I0,bV];rfl
    ·simp only[dU hpin,I0,bV,aM hpin];rfl
   ·have p4':(j.Pc == 4)=false:=aj
    simp only[p4',bR,bN,aO p4];have tail:jB t w (if MW j then(eC j,true,j) else((⟨0,0,0⟩:kG),false,j)) false=some (aW8 t w (if(DI j.Reads j.bZ j.dZ).2=false then OY {j with Reads:=(DI j.Reads j.bZ j.dZ).1} 7
      else if MW j then aBF {j with Reads:=(DI j.Reads j.bZ j.dZ).1} (eC j) j.Node.eN j.Found
      else OY {j with Reads:=(DI j.Reads j.bZ j.dZ).1} 1)):=by
     simp only[jB,E0,e62,iset,aH,set2,bR,bN];rw[aKO aa,aH];cases hs:(DI j.Reads j.bZ j.dZ).2
     ·rfl
     ·simp only[hU,bR,bN,reduceCtorEq];by_cases hc:MW j
      ·simp only[aM hc,hU,bR,bN];rw[aSY (j:={j with Reads:=(DI j.Reads j.bZ j.dZ).1}) s2 s3 s4];rfl
      ·simp only[aO hc,I0,bV];rfl
    have ab:jB t w (if MW j then(eC j,true,j) else((⟨0,0,0⟩:kG),false,j)) true=some (aW8 t w (OY j 7)):=by simp only[jB,e62,iset,aH,set2,bV];rfl
    by_cases hl:(iT t.aR j.bZ).eA=0
    ·have e:((iT t.aR j.bZ).eA != 0)=false:=aj
     simp only[e,bR,bN];by_cases hv:(iT t.aR j.bZ).dZ=j.dZ
     ·have e:((iT t.aR j.bZ).dZ != j.dZ)=false:=aj
      rw[e,tail,aO (show ¬((iT t.aR j.bZ).eA≠0\/(iT t.aR j.bZ).dZ≠j.dZ) from λq=>q.elim (λh=>h hl) λh=>h hv)];rfl
     ·have e:((iT t.aR j.bZ).dZ != j.dZ)=true:=aj
      rw[e,ab,aM (.inr hv)];rfl
    ·have e:((iT t.aR j.bZ).eA != 0)=true:=aj
     simp only[e,bV];rw[ab,aM (.inl hl)];rfl
end
end Go.Gv
end
