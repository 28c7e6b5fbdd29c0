import Derived.Test.YtkinioiglogchaaGreatXUD
set_option linter.unusedVariables false
set_option linter.unusedSimpArgs false
set_option linter.unusedSectionVars false
set_option linter.constructorNameAsVariable false
set_option linter.unnecessarySimpa false
noncomputable section
namespace Go.Gv
variable{c n s w x:Int}{l xs z:List Int}{m:Mem}{i k p:Nat}{t:Table}{O:Type}{j:aI}
def ldF(l:List Int):Int:=l.foldl (λn x=>n*256+x) 0
def sN(l:List Int):Prop:=∀x∈l,0<=x/\x<=255
instance (l:List Int):Decidable (sN l):=by unfold sN;infer_instance
theorem aL5(h:k<l.length):ldF (l.take (k+1))=ldF (l.take k)*256+l[k]:=by grind[ldF,JN]
theorem aP6(h:sN l):∀k,k<=l.length->0<=ldF (l.take k)/\ldF (l.take k)<256 ^ k:=by
 intro k;induction k with
 |zero=>grind[ldF]
 |succ k ih=>
  intro hk;have h1:=ih aa;have h2:=h _ (dB (show k<l.length by omega));grind[aL5]
theorem bIO(h:k<=6):(256:Int) ^ k<=281474976710656:=by have h1:(256:Nat) ^ k<=256 ^ 6:=Nat.pow_le_pow_right aa h;grind
def ld(b:List Int)(at_ w:Nat):Int:=ldF ((b.drop at_).take w)
theorem a1C(hk:k<=6)(h:0<=n/\n<256 ^ k)(hx:0<=x/\x<=255):bE (bE (n*256)+x)=n*256+x/\bE (bE (256*n)+x)=n*256+x:=by have:=bIO hk;grind[cQ]
theorem aYD{b:List Int}{a w:Nat}(h:a+w<=b.length):((b.drop a).take w).length=w:=ah
theorem aYE{b:List Int}{a w:Nat}(h:k<((b.drop a).take w).length)(h':a+k<b.length):((b.drop a).take w)[k]=b[a+k]:=ae
theorem aSD{b:List Int}(hb:sN b)(a w:Nat):sN ((b.drop a).take w):=λx hx=>hb x (RN (a5C hx))
theorem aL6{b:List Int}(hb:sN b){a w:Nat}(hw:w<=7)(h:a+w<=b.length)(hl:b.length<=100000):XR b (a:Int) (w:Int)=some (ld b a w):=by
 unfold XR;have hlen:=aYD h;have hbb:=aSD hb a w;have key:loop (xW b (a:Int) (w:Int)) (0,0)=some (ld b a w):=by
  refine gT (f:=xW b (a:Int) (w:Int)) w (λk=>(ldF (((b.drop a).take w).take k),(k:Int))) _ (λk hk=>?_) ?_
  ·have hb1:=aP6 hbb k aa;have hk':k<((b.drop a).take w).length:=aa
   have hx:=hbb _ (dB hk');have hs:=a1C aa hb1 hx;rw[aYE hk' aa] at hs;have e1:bE ((a:Int)+k)=((a+k:Nat):Int):=by grind[cQ]
   simp only[xW];rw[eG,e1,WL];simp only[aL,hs.1,aL5 hk',aYE hk' (show a+k<b.length by omega)];grind[cQ]
  grind[xW,ld]
 rw[key];rfl
theorem vB{b:List Int}(hb:sN b){a w:Nat}(hw:w<=7)(h:a+w<=b.length)(hl:b.length<=100000):o7 b (a:Int) (w:Int)=some (ld b a w):=by
 unfold o7;have hlen:=aYD h;have hbb:=aSD hb a w;have e0:bE ((a:Int)+w)=((a+w:Nat):Int):=by grind[cQ]
 have e2:(b.take (a+w)).drop a=(b.drop a).take w:=by rw[List.drop_take];congr 1;omega
 rw[TA];have key:loop (uK b (a:Int) (w:Int)) (0,0)=some (ld b a w):=by
  refine gT (f:=uK b (a:Int) (w:Int)) w (λk=>(ldF (((b.drop a).take w).take k),(k:Int))) _ (λk hk=>?_) ?_
  ·have hb1:=aP6 hbb k aa;have hk':k<((b.drop a).take w).length:=aa
   have hx:=hbb _ (dB hk');have hs:=a1C aa hb1 hx;simp only[uK,e0,JM,e2];rw[eG,aW hk'];simp only[aL,hs.2,aL5 hk'];rw[dU (x:=(k:Int)+1)];rfl
  ·have:((b.drop a).take w).take w=(b.drop a).take w:=aj
   simp only[uK,e0,JM,e2,this,ld];grind
 rw[key];rfl
theorem GS(hl:l.length<=maxLen)(f:Int->Bool):eW l (λx=>some (f x))=some (l.any f):=by
 unfold eW xC;have key:∀k:Nat,k<=l.length->loop (jQ l (λx=>some (f x))) (k:Int)=some (if(l.drop k).any f then Out.ret ((k+(l.drop k).findIdx f:Nat):Int) else Out.brk ()):=by
  refine aQ6 l.length _ λk hk=>?_;by_cases h3:k<l.length
  ·have hd:l.drop k=l[k]::l.drop (k+1):=uE h3;simp only[jQ];rw[eG,aW h3,sP (WW h3 hl),hd];grind
  grind[jQ]
 have t0:loop (jQ l (λx=>some (f x))) 0=_:=key 0 aa;rw[t0];simp only[U5];by_cases h:l.any f=true
 ·simp[h,rD]
 grind[rD,DR]
def BOk(b:List Int):Prop:=b.length<=1000/\sN b
instance (b:List Int):Decidable (BOk b):=by unfold BOk;infer_instance
theorem ZE{p:O->Prop}[DecidablePred p](l:List O):(l.any λx=>!decide (p x))=!decide (∀x∈l,p x):=aj
theorem aII{b:List Int}(hl:b.length<=maxLen):LW b=some (decide (BOk b)):=by
 unfold LW BW;have e:(λy0=>E9 y0)=λy:Int=>some (!decide (0<=y/\y<=255)):=by grind[E9,XC,cV]
 rw[e,GS hl,ZE];by_cases h:b.length<=1000
 ·have:BOk b↔∀x∈b,0<=x/\x<=255:=⟨λq=>q.2,λq=>⟨h,q⟩⟩;grind
 grind[BOk]
def iA(h:Heap):Prop:=h.Bytes.length=384/\h.Class.length=6/\sN h.Bytes/\∀c∈h.Class,-1<=c/\c<=2
instance (h:Heap):Decidable (iA h):=by unfold iA;infer_instance
theorem N2{h:Heap}(hl:h.Bytes.length<=maxLen):JS h=some (decide (iA h)):=by
 unfold JS rE;by_cases h1:h.Bytes.length=384
 ·have n1:((h.Bytes.length:Int) == 384)=true:=ah
  rw[aII hl];by_cases h3:sN h.Bytes
  ·have b1:BOk h.Bytes:=⟨aa,h3⟩;by_cases h2:h.Class.length=6
   ·have n2:((h.Class.length:Int) == 6)=true:=ah
    have e:(λy0=>IV y0)=λy:Int=>some (!decide (-1<=y/\y<=2)):=by grind[IV,cV]
    rw[e,GS aa,ZE];grind[iA]
   grind[iA]
  grind[BOk,iA]
 grind[iA]
def lG(h:Heap)(p:Nat):List Int:=(h.Bytes.drop (p*64)).take 64
def cX(h:Heap)(p:Nat):Int:=h.Class.getD p 0
def GU(h:Heap)(p:Nat):Prop:=
 if cX h p<0 then ∀x∈lG h p,x=0
 else((lG h p).getD 0 0=171/\(lG h p).getD 1 0=cX h p/\(lG h p).getD 2 0=cH (cX h p))/\(∀x∈((lG h p).drop 3).take 5,x=0)/\∀i,i<(cH (cX h p)).toNat->1<=ld h.Bytes (p*64+8+i*(bD (cX h p)).toNat) 4/\ld h.Bytes (p*64+8+i*(bD (cX h p)).toNat) 4<=7
instance (h:Heap) (p:Nat):Decidable (GU h p):=by unfold GU;infer_instance
section
variable {h:Heap} (hs:iA h) {p:Nat} (hp:p<6)
include hs hp
theorem YL:(lG h p).length=64:=aYD (by have:=hs.1;omega)
theorem a8R(hk:k<64):h.Bytes[p*64+k]'(by have:=hs.1;omega)=(lG h p)[k]'(by grind[YL]):=(aYE (show k<((h.Bytes.drop (p*64)).take 64).length by have:=YL hs hp;grind[lG]) _).symm
theorem a3J(hk:k<64):h.Bytes[p*64+k]'(by have:=hs.1;omega)=(lG h p).getD k 0:=by grind[a8R]
theorem ZF:h.Class[p]'(by have:=hs.2.1;omega)=cX h p:=by grind[cX]
theorem aSE:idx h.Class (p:Int)=some (cX h p):=by rw[aW (by have:=hs.2.1;omega),ZF hs hp]
theorem a3K:sN (lG h p):=aSD hs.2.2.1 _ _
theorem zJ(hc:cX h p=c)(hi:i<(cH c).toNat):(8+i*(bD c).toNat)+4<=64/\0<=(i:Int)*bD c/\((8+i*(bD c).toNat:Nat):Int)=8+(i:Int)*bD c:=by grind[cH,bD]
end
theorem YM(hl:l.length<=maxLen):JT l=some (decide (∀x∈l,x=0)):=by
 unfold JT;have e:(λy0=>IW y0)=λy:Int=>some (!decide (y=0)):=by grind[IW]
 simp_all[GS,ZE]
section
variable {h:Heap} (hs:iA h) {p:Nat} (hp:p<6)
include hs hp
theorem bF8:(h.Bytes.take ((p+1)*64)).drop (p*64)=lG h p:=by grind[lG,List.drop_take]
theorem bDP{a:Nat}(ha:a+4<=64):ld (lG h p) a 4=ld h.Bytes (p*64+a) 4:=by grind[ld,lG,List.drop_take,List.drop_drop]
theorem aYF(hk:k<64):idx (lG h p) (k:Int)=some ((lG h p).getD k 0):=by grind[YL,aW]
theorem YN:PE h (p:Int)=some (decide (GU h p)):=by
 have hb:=hs.1;have hl:=YL hs hp;have hm:(lG h p).length<=maxLen:=by grind[maxLen]
 have e0:bE ((p:Int)*64)=((p*64:Nat):Int):=by grind[cQ]
 have e1:bE (bE ((p:Int)+1)*64)=(((p+1)*64:Nat):Int):=by grind[cQ]
 have i0:=aYF hs hp (show 0<64 by omega);have i1:=aYF hs hp (show 1<64 by omega);have i2:=aYF hs hp (show 2<64 by omega);rw[show((0:Nat):Int)=0 from rfl] at i0;rw[show((1:Nat):Int)=1 from rfl] at i1;rw[show((2:Nat):Int)=2 from rfl] at i2;unfold PE;rw[aSE hs hp];simp only[aL,e0,e1,JM,bF8 hs hp];rw[TA];by_cases hc:cX h p<0
 ·simp_all[GU,YM]
 ·have hP:GU h p↔((lG h p).getD 0 0=171/\(lG h p).getD 1 0=cX h p/\(lG h p).getD 2 0=cH (cX h p))/\(∀x∈((lG h p).drop 3).take 5,x=0)/\∀i,i<(cH (cX h p)).toNat->1<=ld h.Bytes (p*64+8+i*(bD (cX h p)).toNat) 4/\ld h.Bytes (p*64+8+i*(bD (cX h p)).toNat) 4<=7:=by simp_all[GU,aP]
  simp only[hc,decide_false,bV,bR,i0,i1,i2,aL,CT];by_cases a0:(lG h p).getD 0 0=171
  ·by_cases a1:(lG h p).getD 1 0=cX h p
   ·by_cases a2:(lG h p).getD 2 0=cH (cX h p)
    ·have n0:((lG h p).getD 0 0 != 171)=false:=aj
     have n1:((lG h p).getD 1 0 != cX h p)=false:=aj
     have n2:((lG h p).getD 2 0 != cH (cX h p))=false:=aj
     have t8:((lG h p).take (8:Int).toNat).drop (3:Int).toNat=((lG h p).drop 3).take 5:=by grind[List.drop_take]
     simp only[n0,n1,n2,bV,bR,j5,t8];rw[TA,YM aj];by_cases h4:∀x∈((lG h p).drop 3).take 5,x=0
     ·simp only[cN h4,aL,kW,bV,bR,CT];have key2:loop (rF h (p:Int) (cX h p) (cH (cX h p))) 0=some (if ∀i,i<(cH (cX h p)).toNat->1<=ld h.Bytes (p*64+8+i*(bD (cX h p)).toNat) 4/\ld h.Bytes (p*64+8+i*(bD (cX h p)).toNat) 4<=7 then Out.brk () else Out.ret false):=by
       have hle:=pQ (cX h p);have hst:∀k:Nat,k<(cH (cX h p)).toNat->rF h (p:Int) (cX h p) (cH (cX h p)) (k:Int)=if 1<=ld h.Bytes (p*64+8+k*(bD (cX h p)).toNat) 4/\ld h.Bytes (p*64+8+k*(bD (cX h p)).toNat) 4<=7 then some (.next ((k+1:Nat):Int)) else some (.stop (Out.ret false)):=by
        intro k hk;have hz:=zJ hs hp rfl hk;have e5:bE (8+bE ((k:Int)*bD (cX h p)))=((8+k*(bD (cX h p)).toNat:Nat):Int):=by grind[cQ]
        have l1:=vB (a3K hs hp) (a:=8+k*(bD (cX h p)).toNat) (w:=4) aa aa aa;rw[show((4:Nat):Int)=4 from rfl,bDP hs hp aa] at l1;simp only[rF,SS,aL,e0,e1,JM,bF8 hs hp,e5];rw[eG,l1,EB,dU (x:=(k:Int)+1)];simp only[aL,cV];grind
       refine YH (f:=rF h (p:Int) (cX h p) (cH (cX h p))) (cH (cX h p)).toNat (λk=>(k:Int)) (λi=>1<=ld h.Bytes (p*64+8+i*(bD (cX h p)).toNat) 4/\ld h.Bytes (p*64+8+i*(bD (cX h p)).toNat) 4<=7) _ _ (λk hk hx=>?_) (λk hk hx=>?_) ?_
       ·grind
       ·simp_all
       ·simp only[rF];rw[aIH]
      rw[key2];by_cases h5:∀i,i<(cH (cX h p)).toNat->1<=ld h.Bytes (p*64+8+i*(bD (cX h p)).toNat) 4/\ld h.Bytes (p*64+8+i*(bD (cX h p)).toNat) 4<=7
      ·rw[aN h5,cN (hP.2 ⟨⟨a0,a1,a2⟩,h4,h5⟩)];rfl
      ·rw[aP h5,gJ (λq=>h5 (hP.1 q).2.2)];rfl
     grind
    ·have n0:((lG h p).getD 0 0 != 171)=false:=aj
     have n1:((lG h p).getD 1 0 != cX h p)=false:=aj
     have n2:((lG h p).getD 2 0 != cH (cX h p))=true:=aj
     simp_all[j5]
   simp_all[j5]
  simp_all[j5]
end
instance (h:Heap):Decidable (∀p,p<6->GU h p):=Nat.decidableBallLT 6 λp _=>GU h p
def HOk(h:Heap):Prop:=iA h/\∀p,p<6->GU h p
instance (h:Heap):Decidable (HOk h):=by unfold HOk;infer_instance
theorem N3{h:Heap}(hl:h.Bytes.length<=maxLen):JU h=some (decide (HOk h)):=by
 unfold JU;rw[N2 hl];by_cases hs:iA h
 ·have key:loop (xD h) 0=some (if ∀p,p<6->GU h p then Out.brk () else Out.ret false):=by
   refine YH (f:=xD h) 6 (λk=>(k:Int)) (λp=>GU h p) _ _ (λk hk hx=>?_) (λk hk hx=>?_) ?_
   ·simp only[xD];rw[eG,YN hs hk,dU,cN hx];rfl
   ·simp only[xD];rw[eG,YN hs hk,gJ hx];rfl
   ·rfl
  simp only[aL,cN hs,kW,bV,bR];rw[key];by_cases h4:∀p,p<6->GU h p
  ·rw[aN h4,cN (show HOk h from⟨hs,h4⟩)];rfl
  ·rw[aP h4,gJ (λq:HOk h=>h4 q.2)];rfl
 grind[HOk]
def bK(h:Heap)(s:Int):Int:=if(0<=s/\s<=23)/\s % 4<cH (cX h (s/4).toNat) then cX h (s/4).toNat else -1
theorem qU{h:Heap}(hc:0<=bK h s):(0<=s/\s<=23)/\s % 4<cH (cX h (s/4).toNat)/\bK h s=cX h (s/4).toNat:=by unfold bK at hc ⊢;omega
theorem CU{h:Heap}(hs:iA h)(s:Int):GF h s=some (bK h s):=by
 unfold GF CM bK;rw[YK,V5];by_cases h1:0<=s/\s<=23
 ·obtain⟨k,rfl⟩:=bBJ h1.1;have hk:k/4<6:=aa
  have e1:((k:Int)/4)=((k/4:Nat):Int):=aa
  have hi:=aSE hs hk;have n1:¬((k/4:Nat):Int)<0:=aa
  simp only[h1,and_self,bW,aL,e1,n1,decide_false,bV,bR,hi,JM,true_and];grind[aSC,oQ]
 ·simp[h1]
theorem kM{h:Heap}(hs:iA h)(s:Int):lI h s=some (bK h s):=by
 unfold lI BY bK;rw[yI];by_cases h1:0<=s/\s<=23
 ·obtain⟨k,rfl⟩:=bBJ h1.1;have hk:k/4<6:=aa
  have e1:((k:Int)/4)=((k/4:Nat):Int):=aa
  have hi:=aSE hs hk;have e2:bE (Int.tdiv (k:Int) 4)=((k/4:Nat):Int):=by grind[cQ]
  simp only[h1,and_self,decide_true,kW,bV,bW,aL,e1,e2,bR,hi,JM,true_and,BL];by_cases h3:(k:Int) % 4<cH (cX h (k/4))
  ·have hm:=UQ (c:=cX h (k/4)) aa h3;have hg:¬iZ (k:Int) (cX h (k/4))<0:=by unfold iZ;omega
   grind
  simp_all[iZ,aP]
 ·simp[h1]
def kP(h:Heap)(s:Int):Int:=ld h.Bytes (iZ s (bK h s)).toNat 4
theorem ZG{h:Heap}(hc:0<=bK h s):0<=iZ s (bK h s)/\iZ s (bK h s)+4<=384:=by
 obtain⟨h1,h2,h3⟩:=qU hc;rw[h3];have hm:=UQ (c:=cX h (s/4).toNat) aa h2;have hst:0<bD (cX h (s/4).toNat):=by have:0<=cX h (s/4).toNat/\cX h (s/4).toNat<=2:=jW.1 aa;rcases m9 this with e|e|e<;>rw[e]<;>decide
 have:4<=bD (cX h (s/4).toNat):=by have:0<=cX h (s/4).toNat/\cX h (s/4).toNat<=2:=jW.1 aa;rcases m9 this with e|e|e<;>rw[e]<;>decide
 unfold iZ;omega
theorem vU{h:Heap}(hs:iA h)(hc:0<=bK h s):H8 h s=some (kP h s):=by have hg:=ZG hc;unfold H8;rw[CU hs];simp only[aL,BK];have l1:=aL6 hs.2.2.1 (a:=(iZ s (bK h s)).toNat) (w:=4) aa (by have:=hs.1;omega) (by have:=hs.1;omega);rw[show((4:Nat):Int)=4 from rfl,Int.toNat_of_nonneg hg.1] at l1;rw[l1];rfl
theorem JJ{h:Heap}(hs:iA h)(hc:0<=bK h s):C3 h s=some (kP h s):=by
 have hg:=ZG hc;have hm:h.Bytes.length<=maxLen:=by rw[hs.1];simp[maxLen]
 unfold C3 FD;rw[N2 hm,kM hs];have l1:=vB hs.2.2.1 (a:=(iZ s (bK h s)).toNat) (w:=4) aa (by have:=hs.1;omega) (by have:=hs.1;omega);grind[BL,kP]
def fE(l:List bB):List Int:=l.flatMap bB.aV
def iC(l:aD):List Int:=fE l.Global++fE l.Own
def LOk(l:aD):Prop:=l.Global.length=3/\l.Own.length=9/\(∀s∈l.Own,s.aV.length<=2)/\(∀x∈iC l,0<=x/\x<=23)/\(iC l).Nodup
instance (l:aD):Decidable (LOk l):=by unfold LOk;infer_instance
theorem SU{l:List bB}(h:k<l.length):fE (l.take (k+1))=fE (l.take k)++l[k].aV:=by grind[fE,JN]
theorem aSF(l:List bB)(k:Nat):(fE (l.take k)).length<=(fE l).length:=by grind[fE,aAC]
theorem aL7(l:List bB)(h:k<l.length):l[k].aV.length<=(fE l).length:=by have h1:=aSF l (k+1);grind[SU]
theorem aPE{l:aD}(h:(iC l).length<=1073741824)(hg:l.Global.length<=maxLen)(ho:l.Own.length<=maxLen):aBB l=some (iC l):=by
 have hsum:(fE l.Global).length+(fE l.Own).length<=1073741824:=by grind[iC]
 unfold aBB;have k1:loop (BA l) ([],0)=some (fE l.Global):=by
  refine gT (f:=BA l) l.Global.length (λk=>(fE (l.Global.take k),(k:Int))) _ (λk hk=>?_) ?_
  ·have h1:=aSF l.Global (k+1);rw[SU hk] at h1;simp only[BA];rw[eG,aW hk];grind[b7,SU,sP]
  grind[BA]
 rw[k1];simp only[aL,aAI,aAH];have k2:loop (A9 l) (fE l.Global,0)=some (iC l):=by
  have:=gT (f:=A9 l) l.Own.length (λk=>(fE l.Global++fE (l.Own.take k),(k:Int))) (iC l) (λk hk=>?_) ?_
  ·grind[fE]
  ·have h1:=aSF l.Own (k+1);rw[SU hk] at h1;simp only[A9];rw[eG,aW hk];grind[b7,SU,sP]
  grind[A9,iC]
 rw[k2];rfl
theorem aAU(hl:l.length<=maxLen)(x:Int):T6 l x=some (decide (x∈l)):=by
 unfold T6;have key:loop (vR l x) 0=some (if ∀y∈l,y≠x then Out.brk () else Out.ret true):=by
  refine ID (f:=vR l x) l (λk=>(k:Int)) (λy=>y≠x) _ _ (λk h hp=>?_) (λk h hp=>?_) ?_
  ·simp only[vR];rw[eG,aW h,sP (WW h hl)];have:(l[k] == x)=false:=by simpa using hp
   simp only[aL,this,bV,bR]
  ·simp only[vR];rw[eG,aW h];have:(l[k] == x)=true:=by simpa using hp
   simp only[aL,this,bW]
  ·simp[vR]
 rw[key];by_cases h:x∈l
 ·rw[aP (λq=>q x h rfl),cN h];rfl
 ·rw[aN (λy hy (e:y=x)=>h (e ▸ hy)),gJ h];rfl
theorem aYG(l:List Int):l.Nodup↔∀k (h:k<l.length),l[k]∉l.take k:=by grind[a5D,List.mem_take_iff_getElem]
def BM:List Bool->List Int->Option (List Bool)
 |met,[]=>some met
 |met,x::r=>if(0<=x/\x<=23)/\met.getD x.toNat true=false then BM (met.set x.toNat true) r else none
theorem aP7:∀{xs:List Int} {met m:List Bool},BM met xs=some m->m.length=met.length
 |[],met,m,h=>by grind[BM]
 |x::r,met,m,h=>by
  simp only[BM] at h;split at h
  ·have:=aP7 h;grind
  ·cases h
theorem aDW:∀(a b:List Int) (met:List Bool),BM met (a++b)=(BM met a).bind λm=>BM m b
 |[],b,met=>rfl
 |x::r,b,met=>by
  simp only[D7,BM];split
  ·exact aDW r b _
  ·rfl
theorem aBT:∀(xs:List Int) (met:List Bool),met.length=24->((BM met xs).isSome=true↔(∀x∈xs,0<=x/\x<=23)/\xs.Nodup/\∀x∈xs,met.getD x.toNat true=false)
 |[],met,hm=>by simp[BM]
 |x::r,met,hm=>by
  simp only[BM];by_cases h:(0<=x/\x<=23)/\met.getD x.toNat true=false
  ·rw[aN h,aBT r _ aj];grind
  grind
def aSG:Option (List Bool)->Out (List Bool) Bool
 |some m=>.brk m
 |none=>.ret false
theorem bLD{s:bB}(hl:s.aV.length<=maxLen):∀d k (met:List Bool),k+d=s.aV.length->met.length=24->loop (uM s) ((k:Int),met)=some (aSG (BM met (s.aV.drop k))):=by
 intro d;induction d with
 |zero=>
  intro k met hk hm;rw[aZ (r:=Out.brk met) (by grind[uM]),aB6 aa];rfl
 |succ d ih=>
  intro k met hk hm;have hk':k<s.aV.length:=aa
  have hd:s.aV.drop k=s.aV[k]::s.aV.drop (k+1):=uE hk';have hst:uM s ((k:Int),met)=if(0<=s.aV[k]/\s.aV[k]<=23)/\met.getD s.aV[k].toNat true=false then some (.next (((k+1:Nat):Int),met.set s.aV[k].toNat true)) else some (.stop (Out.ret false)):=by
   simp only[uM];rw[eG,aW hk'];simp only[aL,yI];generalize s.aV[k]=x;by_cases q:0<=x/\x<=23
   ·obtain⟨j,rfl⟩:=bBJ q.1;have hj:j<met.length:=aa
    have e:met.getD j true=met[j]:=aj
    simp only[q,and_self,decide_true,kW,bV,bR,uL,JM,true_and,e];rw[TA,aW hj];simp only[aL];cases met[j]
    ·simp only[bV,bR,bW];grind[b7,sP]
    ·simp
   ·rw[gJ q];simp only[TB,bW,uL];grind
  rw[hd,BM];by_cases q:(0<=s.aV[k]/\s.aV[k]<=23)/\met.getD s.aV[k].toNat true=false
  ·rw[aN q] at hst ⊢;grind[bS]
  ·rw[aP q] at hst ⊢;rw[aZ hst];rfl
def aGM(l:List bB):Prop:=∀s∈l,s.aV.length<=2
instance (l:List bB):Decidable (aGM l):=by unfold aGM;infer_instance
theorem bLE{l:aD}(ho:l.Own.length=9)(hn:(l.Own++l.Global).length<=1000)(hs:∀s∈l.Own++l.Global,s.aV.length<=maxLen):∀d k (met:List Bool),k+d=(l.Own++l.Global).length->met.length=24 ->
  loop (uN l) ((k:Int),met)=some (if aGM (((l.Own++l.Global).drop k).take (9-k))/\(BM met (fE ((l.Own++l.Global).drop k))).isSome=true then Out.brk () else Out.ret false):=by
 intro d;induction d with
 |zero=>
  intro k met hk hm;rw[aB6 aa,aN ⟨by simp[aGM],rfl⟩];simp_all[aZ,uN]
 |succ d ih=>
  intro k met hk hm;have hk':k<(l.Own++l.Global).length:=aa
  have hd:(l.Own++l.Global).drop k=(l.Own++l.Global)[k]::(l.Own++l.Global).drop (k+1):=uE hk';have hsk:=hs _ (dB hk');have hf:fE ((l.Own++l.Global).drop k)=(l.Own++l.Global)[k].aV++fE ((l.Own++l.Global).drop (k+1)):=by grind[fE]
  have hin:∀b:Bool,oJ (k:Int) met (l.Own++l.Global)[k] b=if b then some (.stop (Out.ret false)) else(match BM met (l.Own++l.Global)[k].aV with|some m=>some (.next (((k+1:Nat):Int),m))|none=>some (.stop (Out.ret false))):=by
   intro b;have h4:=bLD hsk _ 0 met (aCB _) hm;rw[show((0:Nat):Int)=0 from rfl,U5] at h4;unfold oJ;rw[h4];cases b
   ·simp only[bV,bR,aL];cases BM met (l.Own++l.Global)[k].aV with
    |none=>rfl
    |some m=>simp only[aSG,VL,VK];rw[dU];rfl
   ·rfl
  have hst:uN l ((k:Int),met)=oJ (k:Int) met (l.Own++l.Global)[k] (decide (k<9/\2<(l.Own++l.Global)[k].aV.length)):=by
   simp only[uN];rw[aN aj,aW hk'];simp only[aL];by_cases h9:k<9
   ·rw[eG];congr 1
    (simp_all;omega)
   grind
  rw[hin] at hst;by_cases h2:k<9/\2<(l.Own++l.Global)[k].aV.length
  ·rw[cN h2] at hst;simp only[bW] at hst;rw[aZ hst,aP];rintro⟨q,_⟩;have e:9-k=(9-(k+1))+1:=aa
   rw[hd,e,List.take_succ_cons] at q;have:=q _ aAB;omega
  ·rw[gJ h2] at hst;simp only[bV,bR] at hst;have hcond:aGM (((l.Own++l.Global).drop k).take (9-k))↔aGM (((l.Own++l.Global).drop (k+1)).take (9-(k+1))):=by
    unfold aGM;by_cases h9:k<9
    ·have e:9-k=(9-(k+1))+1:=aa
     simp_all
    ·have e:9-k=0:=aa
     have e':9-(k+1)=0:=aa
     simp_all
   rw[hf,aDW];cases hg:BM met (l.Own++l.Global)[k].aV with
   |none=>
    simp_all[aZ]
   |some m=>
    rw[hg] at hst;rw[bS hst,ih (k+1) m aa (by grind[aP7])];simp_all
theorem V6{l:aD}(h:(iC l).length<=1073741824):o9 l=some (decide (LOk l)):=by
 unfold o9 BX;by_cases hg:l.Global.length=3
 ·by_cases ho:l.Own.length=9
  ·have n1:((l.Global.length:Int) != 3)=false:=ah
   have n2:((l.Own.length:Int) != 9)=false:=ah
   simp only[n1,n2,bV,bR];rw[TA];have hsl:∀s∈l.Own++l.Global,s.aV.length<=maxLen:=by grind[iC,maxLen,aGE,aL7]
   have key:=bLE ho ah hsl (l.Own++l.Global).length 0 (List.replicate 24 false) aa rfl;rw[show((0:Nat):Int)=0 from rfl,U5,Nat.sub_zero] at key;rw[key];have et:(l.Own++l.Global).take 9=l.Own:=aj
   have ef:fE (l.Own++l.Global)=fE l.Own++fE l.Global:=by simp[fE]
   have hm0:∀j:Nat,j<24->(List.replicate 24 false).getD j true=false:=ai
   have hiff:LOk l↔aGM ((l.Own++l.Global).take 9)/\(BM (List.replicate 24 false) (fE (l.Own++l.Global))).isSome=true:=by
    rw[aBT _ _ rfl,et,ef];have hp:(fE l.Own++fE l.Global).Perm (iC l):=List.perm_append_comm;constructor
    ·rintro⟨_,_,q1,q2,q3⟩;exact⟨q1,λx hx=>q2 x (hp.mem_iff.1 hx),hp.nodup_iff.2 q3,λx hx=>hm0 _ aj⟩
    ·rintro⟨q1,q2,q3,_⟩;exact⟨hg,ho,q1,λx hx=>q2 x (hp.mem_iff.2 hx),hp.nodup_iff.1 q3⟩
   by_cases q:LOk l
   ·rw[aN (hiff.1 q),cN q];rfl
   ·rw[aP (λx=>q (hiff.2 x)),gJ q];rfl
  ·have n1:((l.Global.length:Int) != 3)=false:=ah
   have n2:((l.Own.length:Int) != 9)=true:=ah
   simp_all[LOk]
 ·have n1:((l.Global.length:Int) != 3)=true:=ah
  simp_all[LOk]
def SW(h:Heap)(l:List Int)(c:Int):Prop:=∀x∈l,bK h x=c/\kP h x<=6
instance (h:Heap) (l:List Int) (c:Int):Decidable (SW h l c):=by unfold SW;infer_instance
theorem SX{h:Heap}(hs:iA h){s:bB}(hl:s.aV.length<=maxLen)(hc:0<=c):AW h s c=some (decide (SW h s.aV c)):=by
 unfold AW;have key:loop (m5 h s c) 0=some (if ∀x∈s.aV,bK h x=c/\kP h x<=6 then Out.brk () else Out.ret false):=by
  have hst:∀k (hk:k<s.aV.length),m5 h s c (k:Int)=if bK h s.aV[k]=c/\kP h s.aV[k]<=6 then some (.next ((k+1:Nat):Int)) else some (.stop (Out.ret false)):=by
   intro k hk;simp only[m5];rw[eG,aW hk];generalize s.aV[k]=x;simp only[aL,kM hs,yU];by_cases q:bK h x=c
   ·have n1:(bK h x != c)=false:=by simp only[bne_eq_false_iff_eq];exact q
    simp only[n1,bV,bR,JJ hs (show 0<=bK h x by omega),aL,sP (WW hk hl)];by_cases q2:kP h x<=6
    ·rw[aIH,aN ⟨q,q2⟩]
    ·rw[eG,aP (λx=>q2 x.2)]
   ·have n1:(bK h x != c)=true:=by simp only[bne_iff_ne];exact q
    simp only[n1,bW];rw[aP (λx=>q x.1)]
  refine ID (f:=m5 h s c) s.aV (λk=>(k:Int)) (λx=>bK h x=c/\kP h x<=6) _ _ (λk hk hp=>?_) (λk hk hp=>?_) ?_
  ·rw[hst k hk,aN hp]
  ·rw[hst k hk,aP hp]
  ·simp[m5]
 rw[key];by_cases q:∀x∈s.aV,bK h x=c/\kP h x<=6
 ·rw[aN q,cN (show SW h s.aV c from q)];rfl
 ·rw[aP q,gJ (show ¬SW h s.aV c from q)];rfl
def fM(l:List bB)(k:Nat):List Int:=(l.getD k ⟨[]⟩).aV
theorem dY{l:List bB}(h:k<l.length):l[k].aV=fM l k:=by grind[fM]
def aDX(m:Mem)(k:Nat):Prop:=SW m.Heap (fM m.aD.Global k) (k:Int)
def Z2(m:Mem)(k:Nat):Prop:=SW m.Heap (fM m.aD.Own k) ((k % 3:Nat):Int)
instance (m:Mem) (k:Nat):Decidable (aDX m k):=by unfold aDX;infer_instance
instance (m:Mem) (k:Nat):Decidable (Z2 m k):=by unfold Z2;infer_instance
instance (m:Mem):Decidable (∀k,k<3->aDX m k):=Nat.decidableBallLT 3 λk _=>aDX m k
instance (m:Mem):Decidable (∀k,k<9->Z2 m k):=Nat.decidableBallLT 9 λk _=>Z2 m k
instance (m:Mem) (c:Nat):Decidable (∀w,w<3->Z2 m (w*3+c)):=Nat.decidableBallLT 3 λw _=>Z2 m (w*3+c)
instance (m:Mem):Decidable (∀k,k<3->aDX m k/\∀w,w<3->Z2 m (w*3+k)):=Nat.decidableBallLT 3 λk _=>aDX m k/\∀w,w<3->Z2 m (w*3+k)
def lU(m:Mem):Prop:=(HOk m.Heap/\LOk m.aD)/\(∀k,k<3->aDX m k)/\∀k,k<9->Z2 m k
instance (m:Mem):Decidable (lU m):=by unfold lU;infer_instance
theorem LOk.aVB{l:aD}(h:LOk l)(hb:(iC l).length<=1073741824):(∀s∈l.Global,s.aV.length<=1073741824)/\∀s∈l.Own,s.aV.length<=1073741824:=by grind[iC,aGE,aL7]
theorem BN(hb:m.Heap.Bytes.length<=maxLen)(hl:(iC m.aD).length<=1073741824):xF m=some (decide (lU m)):=by
 unfold xF IX;rw[N3 hb,V6 hl];by_cases h1:HOk m.Heap
 ·by_cases h2:LOk m.aD
  ·have hmx:(1073741824:Nat)<=maxLen:=by simp[maxLen]
   have hsl:=LOk.aVB h2 hl;simp only[cN h1,cN h2,aL,kW,bV,bR];have k3:loop (vM m) 0=some (if ∀k,k<9->Z2 m k then Out.brk () else Out.ret false):=by
    have hst:∀w:Nat,w<9->vM m (w:Int)=if Z2 m w then some (.next ((w+1:Nat):Int)) else some (.stop (Out.ret false)):=by
     intro w hw;have hk:w<m.aD.Own.length:=by rw[h2.2.1];omega
     have hlen:=hsl.2 _ (dB hk);have em:Int.tmod (w:Int) 3=((w % 3:Nat):Int):=aj
     simp only[vM];rw[eG];simp only[aL,aW hk,em];rw[SX h1.1 aa aa,dY hk,dU];by_cases q:Z2 m w
     ·rw[aN q,cN (show SW m.Heap (fM m.aD.Own w) ((w % 3:Nat):Int) from q)];rfl
     ·rw[aP q,gJ (show ¬SW m.Heap (fM m.aD.Own w) ((w % 3:Nat):Int) from q)];rfl
    refine YH (f:=vM m) 9 (λk=>(k:Int)) (λw=>Z2 m w) _ _ (λk hk hx=>?_) (λk hk hx=>?_) ?_
    ·grind
    ·grind
    ·simp[vM,h2.2.1]
   have k2:loop (vN m) 0=some (if ∀k,k<3->aDX m k then Out.brk () else Out.ret false):=by
    have hst:∀w:Nat,w<3->vN m (w:Int)=if aDX m w then some (.next ((w+1:Nat):Int)) else some (.stop (Out.ret false)):=by
     intro w hw;have hk:w<m.aD.Global.length:=by rw[h2.1];omega
     have hlen:=hsl.1 _ (dB hk);simp only[vN];rw[eG];simp only[aL,aW hk];rw[SX h1.1 aa aa,dY hk,dU];by_cases q:aDX m w
     ·rw[aN q,cN (show SW m.Heap (fM m.aD.Global w) (w:Int) from q)];rfl
     ·rw[aP q,gJ (show ¬SW m.Heap (fM m.aD.Global w) (w:Int) from q)];rfl
    refine YH (f:=vN m) 3 (λk=>(k:Int)) (λw=>aDX m w) _ _ (λk hk hx=>?_) (λk hk hx=>?_) ?_
    ·grind
    ·grind
    ·simp[vN,h2.1]
   rw[k2];by_cases q:∀k,k<3->aDX m k
   ·rw[aN q];simp only[aL,aAG,aAF];rw[k3];by_cases q2:∀k,k<9->Z2 m k
    ·rw[aN q2,cN (show lU m from⟨⟨h1,h2⟩,q,q2⟩)];rfl
    ·rw[aP q2,gJ (λx:lU m=>q2 x.2.2)];rfl
   ·rw[aP q,gJ (λx:lU m=>q x.2.1)];rfl
  grind[lU]
 grind[lU]
theorem KE{l:List bB}{s:bB}(h:s∈l):s.aV.length<=(fE l).length:=by grind[aGE,aL7]
theorem vC(l:aD):(iC l).length=(fE l.Global).length+(fE l.Own).length:=by simp[iC]
def DI(m:Mem):Prop:=m.Heap.Bytes.length<=1048576/\m.Heap.Class.length<=1048576/\m.aD.Global.length<=1048576/\m.aD.Own.length<=1048576/\(iC m.aD).length<=1048576
theorem DI.aVB(h:DI m):(∀s∈m.aD.Global,s.aV.length<=1048576)/\∀s∈m.aD.Own,s.aV.length<=1048576:=by have:=vC m.aD;have h5:=h.2.2.2.2;exact⟨λs hm=>by have:=KE hm;omega,λs hm=>by have:=KE hm;omega⟩
def POk(e:Int)(p:wB):Prop:=(0<=p.aK/\p.aK<=e)/\(0<=p.Seen/\p.Seen<=2)/\(p.On=false->p=⟨false,0,false,0⟩)
instance (e:Int) (p:wB):Decidable (POk e p):=by unfold POk;infer_instance
def K7(c:aC):Prop:=(0<=c.aK/\c.aK<=100000)/\c.cE.length=3/\∀p∈c.cE,POk c.aK p
instance (c:aC):Decidable (K7 c):=by unfold K7;infer_instance
theorem kN(c:aC):zC c=some (decide (K7 c)):=by
 unfold zC;rw[fW];by_cases h1:0<=c.aK/\c.aK<=100000
 ·by_cases h2:c.cE.length=3
  ·simp only[aL,h1,h2,uX];have key:∀k:Nat,k<=3->loop (uW c) (k:Int)=some (if ∀p∈c.cE.drop k,POk c.aK p then Out.brk () else Out.ret false):=by
    refine aQ6 3 _ λk hk=>?_;by_cases h3:k<3
    ·have hd:c.cE.drop k=c.cE[k]::c.cE.drop (k+1):=uE aa;simp only[uW];rw[eG,WL];simp only[aL,fW,oN,hd];rw[sP (by simp[maxLen];omega)];generalize c.cE[k]=p;have hp:POk c.aK p↔decide (0<=p.aK/\p.aK<=c.aK)=true/\decide (0<=p.Seen/\p.Seen<=2)=true/\(p.On=false->decide (p=⟨false,0,false,0⟩)=true):=by simp only[POk,decide_eq_true_eq]
     simp only[List.forall_mem_cons,hp];generalize decide (0<=p.aK/\p.aK<=c.aK)=b1;generalize decide (0<=p.Seen/\p.Seen<=2)=b2;generalize decide (p=⟨false,0,false,0⟩)=b3;generalize p.On=b4;cases b1<;>cases b2<;>cases b3<;>cases b4<;>simp[h3]
    ·left;obtain rfl:k=3:=aa
     simp[uW,aB6 (show c.cE.length<=3 by omega)]
   have:=key 0 aa;simp only[Int.ofNat_zero,U5] at this;have e:decide (K7 c)=if ∀p∈c.cE,POk c.aK p then true else false:=by have:K7 c↔∀p∈c.cE,POk c.aK p:=⟨λh=>h.2.2,λh=>⟨h1,h2,h⟩⟩;simp[this]
   rw[e];simp only[Int.cast_ofNat_Int] at *;have t0:loop (uW c) 0=_:=this;by_cases h5:∀p∈c.cE,POk c.aK p
   ·rw[aN h5] at t0 ⊢;rw[t0];simp[KZ,VY]
   ·rw[aP h5] at t0 ⊢;rw[t0];simp[KZ]
  grind[uX,K7]
 grind[uX,K7]
theorem aVD(p:wB)(c:aC):xH p c=some (!decide (POk c.aK p)):=by
 unfold xH l5;rw[cV,cV];have hp:decide (POk c.aK p)=(decide (0<=p.aK/\p.aK<=c.aK) && (decide (0<=p.Seen/\p.Seen<=2) && (p.On || decide (p=⟨false,0,false,0⟩)))):=by rw[HP];simp only[POk,decide_eq_true_eq,wS,Bool.or_eq_true];grind
 grind
theorem aSH{l:List wB}(hl:l.length<=maxLen)(f:wB->Bool):l4 l (λx=>some (f x))=some (l.any f):=by
 unfold l4 xG;have key:∀k:Nat,k<=l.length->loop (jR l (λx=>some (f x))) (k:Int)=some (if(l.drop k).any f then Out.ret ((k+(l.drop k).findIdx f:Nat):Int) else Out.brk ()):=by
  refine aQ6 l.length _ λk hk=>?_;by_cases h3:k<l.length
  ·have hd:l.drop k=l[k]::l.drop (k+1):=uE h3;simp only[jR];rw[eG,aW h3,sP (WW h3 hl),hd];grind
  grind[jR]
 have t0:loop (jR l (λx=>some (f x))) 0=_:=key 0 aa;rw[t0];simp only[U5];by_cases h:l.any f=true
 ·simp[h,rG]
 grind[rG,DT]
theorem vD{c:aC}(hc:c.cE.length<=maxLen):pA c=some (decide (K7 c)):=by
 unfold pA uO;rw[cV];have e:(λy0=>xH y0 c)=λy0=>some (!decide (POk c.aK y0)):=funext λy=>aVD y c;rw[e,aSH hc];by_cases h1:0<=c.aK/\c.aK<=100000
 ·by_cases h2:c.cE.length=3
  ·have:K7 c↔∀p∈c.cE,POk c.aK p:=⟨λh=>h.2.2,λh=>⟨h1,h2,h⟩⟩;grind
  grind[K7]
 grind[K7]
def dV(l:List bT):List eN:=l.flatMap bT.Rows
theorem N4{l:List bT}(h:k<l.length):dV (l.take (k+1))=dV (l.take k)++l[k].Rows:=by grind[dV,JN]
theorem aL8(l:List bT)(k:Nat):(dV (l.take k)).length<=(dV l).length:=by grind[dV,aAC]
theorem a3L(l:List bT)(h:k<l.length):l[k].Rows.length<=(dV l).length:=by have h1:=aL8 l (k+1);grind[N4]
theorem ZH{l:List bT}{s:bT}(h:s∈l):s.Rows.length<=(dV l).length:=by grind[aGE,a3L]
theorem aL9{l:List bT}(h:(dV l).length<=1073741824)(hl:l.length<=maxLen):XS l=some (dV l):=by
 unfold XS;have k1:loop (xX l) ([],0)=some (dV l):=by
  refine gT (f:=xX l) l.length (λk=>(dV (l.take k),(k:Int))) _ (λk hk=>?_) ?_
  ·have h1:=aL8 l (k+1);rw[N4 hk] at h1;simp only[xX];rw[eG,aW hk];grind[b7,N4,sP]
  grind[xX]
 rw[k1];rfl
def lK(h:Int):Prop:=(32<=h/\h<=223)/\h % 32<24
instance (h:Int):Decidable (lK h):=by unfold lK;infer_instance
theorem rW(h:Int):vS h=some (decide (lK h)):=by grind[vS,H9,lK,fW,N0]
theorem gY(h:Int):iP h=some (decide (lK h)):=by grind[iP,yV,lK,cV,N0]
theorem lK.mod{h:Int}(q:lK h):Int.tmod h 32=h % 32/\0<=h % 32/\h % 32<=23:=by grind[lK]
theorem jN(h:Int):mE h=some (if lK h then h % 32 else -1):=by grind[mE,rW,lK]
def PZ(r:eN):Prop:=lK r.Handle/\0<=r.aK/\r.aK<=100000
instance (r:eN):Decidable (PZ r):=by unfold PZ;infer_instance
def HM(r:eN):Int:=r.Handle % 32
def zW(l:List bT):Prop:=l.length=3/\(dV l).length<=24/\(∀r∈dV l,PZ r)/\((dV l).map HM).Nodup
instance (l:List bT):Decidable (zW l):=by unfold zW;infer_instance
def goR:List Bool->List eN->Option (List Bool)
 |met,[]=>some met
 |met,r::t=>if PZ r/\met.getD (HM r).toNat true=false then goR (met.set (HM r).toNat true) t else none
theorem a1E:∀{xs:List eN} {met m:List Bool},goR met xs=some m->m.length=met.length
 |[],met,m,h=>by grind[goR]
 |x::r,met,m,h=>by
  simp only[goR] at h;split at h
  ·have:=a1E h;grind
  ·cases h
theorem aMA:∀(a b:List eN) (met:List Bool),goR met (a++b)=(goR met a).bind λm=>goR m b
 |[],b,met=>rfl
 |x::r,b,met=>by
  simp only[D7,goR];split
  ·exact aMA r b _
  ·rfl
theorem aVE:∀(xs:List eN) (met:List Bool),(goR met xs).isSome=true↔(∀r∈xs,PZ r)/\(BM met (xs.map HM)).isSome=true
 |[],met=>by simp[goR,BM]
 |x::r,met=>by
  simp only[goR,D9,BM];by_cases h:PZ x
  ·have hm:=h.1.mod;have hs:0<=HM x/\HM x<=23:=hm.2;by_cases h2:met.getD (HM x).toNat true=false
   ·rw[aN ⟨h,h2⟩,aN ⟨hs,h2⟩,aVE r _];simp[h]
   grind
  grind
theorem a3M{s:bT}(hl:s.Rows.length<=maxLen):∀d k (met:List Bool),k+d=s.Rows.length->met.length=24->loop (uP s) ((k:Int),met)=some (aSG (goR met (s.Rows.drop k))):=by
 intro d;induction d with
 |zero=>
  intro k met hk hm;rw[aZ (r:=Out.brk met) (by grind[uP]),aB6 aa];rfl
 |succ d ih=>
  intro k met hk hm;have hk':k<s.Rows.length:=aa
  have hd:s.Rows.drop k=s.Rows[k]::s.Rows.drop (k+1):=uE hk';have hst:uP s ((k:Int),met)=if PZ s.Rows[k]/\met.getD (HM s.Rows[k]).toNat true=false then some (.next (((k+1:Nat):Int),met.set (HM s.Rows[k]).toNat true)) else some (.stop (Out.ret false)):=by
   simp only[uP];rw[eG,aW hk'];simp only[aL,gY,cV];generalize s.Rows[k]=x;by_cases q:lK x.Handle
   ·by_cases q2:0<=x.aK/\x.aK<=100000
    ·have hm2:=q.mod;obtain⟨j,hj0⟩:=bBJ hm2.2.1;have hj:j<met.length:=aa
     have e:met.getD j true=met[j]:=aj
     have hr:PZ x:=⟨q,q2⟩;simp only[q,q2,and_self,decide_true,kW,bV,bR,mC,hm2.1,hj0,JM,hr,true_and,HM,e];rw[TA,aW hj];simp only[aL];cases met[j]
     ·simp only[bV,bR,bW];grind[b7,sP]
     ·simp
    ·rw[cN q,gJ q2];simp only[kW,TB,bV,bR,bW,mC];rw[aP (λy:PZ x/\_=>q2 y.1.2)]
   simp_all[mC,PZ]
  rw[hd,goR];by_cases q:PZ s.Rows[k]/\met.getD (HM s.Rows[k]).toNat true=false
  ·rw[aN q] at hst ⊢;grind[bS]
  ·rw[aP q] at hst ⊢;rw[aZ hst];rfl
theorem a3N{l:List bT}(hn:l.length<=1000)(hs:∀s∈l,s.Rows.length<=maxLen):∀d k (met:List Bool),k+d=l.length->met.length=24 ->
  loop (uQ l) ((k:Int),met)=some (if(goR met (dV (l.drop k))).isSome=true then Out.brk () else Out.ret false):=by
 intro d;induction d with
 |zero=>
  simp_all[goR,dV,aZ,uQ]
 |succ d ih=>
  intro k met hk hm;have hk':k<l.length:=aa
  have hd:l.drop k=l[k]::l.drop (k+1):=uE hk';have hsk:=hs _ (dB hk');have hf:dV (l.drop k)=l[k].Rows++dV (l.drop (k+1)):=by grind[dV]
  have h4:=a3M hsk _ 0 met (aCB _) hm;rw[show((0:Nat):Int)=0 from rfl,U5] at h4;have hst:uQ l ((k:Int),met)=(match goR met l[k].Rows with|some m=>some (.next (((k+1:Nat):Int),m))|none=>some (.stop (Out.ret false))):=by
   simp only[uQ];rw[eG,aW hk'];simp only[aL];rw[h4];cases goR met l[k].Rows with
   |none=>rfl
   |some m=>simp only[aL,aSG,VO,VN];grind[cQ]
  rw[hf,aMA];cases hg:goR met l[k].Rows with
  |none=>
   simp_all[aZ]
  |some m=>
   rw[hg] at hst;rw[bS hst,ih (k+1) m aa (by grind[a1E])];simp
theorem aDY{l:List bT}(hn:l.length<=1000)(h:(dV l).length<=1073741824):FE l=some ((dV l).length:Int):=by
 unfold FE;have key:loop (pB l) (0,0)=some ((dV l).length:Int):=by
  refine gT (f:=pB l) l.length (λk=>(((dV (l.take k)).length:Int),(k:Int))) _ (λk hk=>?_) ?_
  ·have h1:=aL8 l (k+1);rw[N4 hk,D8] at h1;simp only[pB];rw[eG,aW hk];grind[cQ,N4]
  grind[pB]
 rw[key];rfl
theorem CV{l:List bT}(h:(dV l).length<=1073741824):sV l=some (decide (zW l)):=by
 unfold sV;by_cases h3:l.length=3
 ·have n1:((l.length:Int) != 3)=false:=ah
  have hb:(1073741824:Nat)<=maxLen:=by simp[maxLen]
  simp only[n1,bV,bR];have key:=a3N (l:=l) aa (λs hs=>by have:=ZH hs;omega) l.length 0 (List.replicate 24 false) aa rfl;rw[show((0:Nat):Int)=0 from rfl,U5] at key;rw[key];have hm0:∀j:Nat,j<24->(List.replicate 24 false).getD j true=false:=ai
  have hiff:zW l↔(dV l).length<=24/\(goR (List.replicate 24 false) (dV l)).isSome=true:=by
   rw[aVE,aBT _ _ rfl];have hr:(∀r∈dV l,PZ r)->∀x∈(dV l).map HM,0<=x/\x<=23:=by intro q x hx;obtain⟨r,hr,rfl⟩:=AR.1 hx;exact(q r hr).1.mod.2
   constructor
   ·rintro⟨_,q1,q2,q3⟩;grind
   ·rintro⟨q1,q2,_,q3,_⟩;exact⟨h3,q1,q2,q3⟩
  by_cases q:(goR (List.replicate 24 false) (dV l)).isSome=true
  ·rw[aN q];simp only[aL,VQ,VM];rw[aDY aa h];grind
  ·rw[aP q,gJ (λx=>q (hiff.1 x).2)];rfl
 ·have n1:((l.length:Int) != 3)=true:=ah
  simp_all[zW]
def oB(h:Int):Prop:=h=0\/lK h
instance (h:Int):Decidable (oB h):=by unfold oB;infer_instance
def aIJ(z:List Int):Prop:=z.length=3/\∀h∈z,oB h
instance (z:List Int):Decidable (aIJ z):=by unfold aIJ;infer_instance
theorem aPF(hl:z.length<=maxLen):TY z=some (decide (aIJ z)):=by
 unfold TY IY;have e:(λy0=>LX y0)=λy:Int=>some (!decide (oB y)):=by
  funext y;unfold LX mX xI;rw[gY];by_cases q:y=0
  ·simp_all[oB]
  grind[oB]
 rw[e,GS hl,ZE];by_cases h3:z.length=3
 ·have n:((z.length:Int) == 3)=true:=ah
  have:aIJ z↔∀h∈z,oB h:=⟨λa=>a.2,λa=>⟨h3,a⟩⟩;grind
 ·have n:((z.length:Int) == 3)=false:=ah
  simp_all[aIJ]
theorem aDZ(l:List O)(f:O->Bool){body:Int->Option (Step Int (Out Unit Int))}(hb:∀k (hk:k<l.length),body (k:Int)=if f l[k] then some (.stop (.ret (k:Int))) else some (.next ((k+1:Nat):Int)))(he:body (l.length:Int)=some (.stop (.brk ()))) :
  ∃o,loop body 0=some o/\match o with|.brk _=>l.any f=false|.ret r=>0<=r/\l.any f=true:=by
 have key:=a3I (f:=body) l.length (λk=>(k:Int)) (λk=>if(l.drop k).any f then Out.ret ((k+(l.drop k).findIdx f:Nat):Int) else Out.brk ()) (λk hk=>by
  by_cases h:k<l.length
  ·have hd:l.drop k=l[k]::l.drop (k+1):=uE h;grind
  grind) 0 (i4 _)
 grind
theorem aAV{l:List eN}(hl:l.length<=maxLen)(f:eN->Bool):jA l (λx=>some (f x))=some (l.any f):=by
 obtain⟨o,e,h⟩:=aDZ l f (body:=lJ l (λx=>some (f x))) (λk hk=>by
  simp only[lJ];rw[eG,aW hk,sP (WW hk hl)];rfl) (by simp[lJ])
 grind[jA,vW,AY,AX]
theorem YO{l:List bT}(hl:l.length<=maxLen)(f:bT->Bool)(g:bT->Option Bool)(hg:∀x∈l,g x=some (f x)):iV l g=some (l.any f):=by
 obtain⟨o,e,h⟩:=aDZ l f (body:=kR l g) (λk hk=>by
  simp only[kR];rw[eG,aW hk,sP (WW hk hl)];grind) (by simp[kR])
 grind[iV,sW,zT,zS]
theorem YP{l:List bB}(hl:l.length<=maxLen)(f:bB->Bool)(g:bB->Option Bool)(hg:∀x∈l,g x=some (f x)):iW l g=some (l.any f):=by
 obtain⟨o,e,h⟩:=aDZ l f (body:=kS l g) (λk hk=>by
  simp only[kS];rw[eG,aW hk,sP (WW hk hl)];grind) (by simp[kS])
 grind[iW,sY,zV,zU]
theorem contains_eq(hl:l.length<=maxLen)(v:Int):g7 l v=some (decide (v∈l)):=by
 obtain⟨o,e,h⟩:=aDZ l (λx=>v == x) (body:=eZ l v) (λk hk=>by
  simp only[eZ];rw[eG,aW hk,sP (WW hk hl)];rfl) (by simp[eZ])
 have ha:l.any (λx=>v == x)=decide (v∈l):=aj
 grind[g7,m6,zZ,LF]
theorem ZI{l:List bB}:x∈fE l↔∃s∈l,x∈s.aV:=aGD
section
variable {m:Mem} (hsh:iA m.Heap) (hl:(iC m.aD).length<=1073741824) (hg:m.aD.Global.length<=maxLen) (ho:m.aD.Own.length<=maxLen)
include hl hg ho
theorem aMB(s:Int):XT m.aD s=some (decide (s∈iC m.aD)):=by grind[maxLen,XT,aPE,aAU]
theorem YQ(s:Int):JV m.aD s=some (decide (s∈iC m.aD)):=by
 have hb:(1073741824:Nat)<=maxLen:=by simp[maxLen]
 have hal:=vC m.aD;have e1:∀x∈m.aD.Global,pZ x s=some (decide (s∈x.aV)):=λx hx=>by have:=KE hx;grind[pZ,contains_eq]
 have e2:∀x∈m.aD.Own,pZ x s=some (decide (s∈x.aV)):=λx hx=>by have:=KE hx;grind[pZ,contains_eq]
 unfold JV FF;rw[YP hg (λx=>decide (s∈x.aV)) _ e1,YP ho (λx=>decide (s∈x.aV)) _ e2];have a1:(m.aD.Global.any λx=>decide (s∈x.aV))=decide (s∈fE m.aD.Global):=by rw[HP];simp[ZI]
 have a2:(m.aD.Own.any λx=>decide (s∈x.aV))=decide (s∈fE m.aD.Own):=by rw[HP];simp[ZI]
 grind[iC]
def eK(m:Mem)(s:Int):Int:=if bK m.Heap s<0 then 0 else if s∈iC m.aD then 1 else if 6<kP m.Heap s then 2 else 3
include hsh
theorem aIK(s:Int):T8 m s=some (eK m s):=by grind[T8,eK,CU,aMB,vU]
theorem aIL(s:Int):LY m s=some (eK m s):=by grind[LY,eK,kM,YQ,JJ]
def mN(m:Mem)(h:Int):Prop:=lK h/\eK m (h % 32)=3/\kP m.Heap (h % 32)=h/32
instance (m:Mem) (h:Int):Decidable (mN m h):=by unfold mN;infer_instance
omit hl hg ho hsh in
theorem dN{m:Mem}(h:eK m s=3):0<=bK m.Heap s:=by grind[eK]
theorem V7(h:Int):T9 m h=some (decide (mN m h)):=by
 unfold T9 CN;rw[rW,jN];by_cases q:lK h
 ·have hm:=q.mod;rw[cN q,aN q];simp only[aL,bW,aIK hsh hl hg ho];by_cases q2:eK m (h % 32)=3
  ·have n:(eK m (h % 32) == 3)=true:=aj
   have eg:NO h=some (h/32):=by grind[NO,lK,rW,cQ]
   rw[n,vU hsh (dN q2),eg];simp only[bW,aL];congr 1;rw[HP];simp only[beq_iff_eq,decide_eq_true_eq];exact⟨λa=>⟨q,q2,a⟩,λa=>a.2.2⟩
  grind[mN]
 grind[mN]
theorem GV(h:Int):xK m h=some (decide (mN m h)):=by
 unfold xK xJ;rw[gY];by_cases q:lK h
 ·have hm:=q.mod;rw[cN q,hm.1];simp only[aL,bW,aIL hsh hl hg ho];by_cases q2:eK m (h % 32)=3
  ·have n:(eK m (h % 32) == 3)=true:=aj
   have eg:bE (Int.tdiv h 32)=h/32:=by grind[lK,cQ]
   rw[n,JJ hsh (dN q2),eg];simp only[bW,aL];congr 1;rw[HP];simp only[beq_iff_eq,decide_eq_true_eq];exact⟨λa=>⟨q,q2,a⟩,λa=>a.2.2⟩
  grind[mN]
 grind[mN]
end
def P0(b:aA)(r:eN):Prop:=mN b.Mem r.Handle/\r.aK<=b.aC.aK
instance (b:aA) (r:eN):Decidable (P0 b r):=by unfold P0;infer_instance
def mV(b:aA):Prop:=(lU b.Mem/\K7 b.aC/\zW b.aQ/\aIJ b.qJ)/\∀r∈dV b.aQ,P0 b r
instance (b:aA):Decidable (mV b):=by unfold mV;infer_instance
def UR(b:aA):Prop:=DI b.Mem/\b.aC.cE.length<=1048576/\b.aQ.length<=1048576/\(dV b.aQ).length<=1048576/\b.qJ.length<=1048576
theorem UR.rows{b:aA}(h:UR b):∀s∈b.aQ,s.Rows.length<=1048576:=λs hs=>by have:=ZH hs;have:=h.2.2.2.1;omega
section
variable {b:aA} (hf:b.Mem.Heap.Bytes.length<=maxLen/\(iC b.Mem.aD).length<=1073741824/\b.aC.cE.length<=maxLen/\b.aQ.length<=maxLen/\(dV b.aQ).length<=1073741824/\b.qJ.length<=maxLen)
include hf
theorem aMC:PF b=some (decide (mV b)):=by
 obtain⟨f1,f2,f3,f4,f5,f6⟩:=hf;unfold PF rH;rw[BN f1 f2,vD f3,CV f5,aPF f6];by_cases q1:lU b.Mem
 ·by_cases q2:K7 b.aC
  ·by_cases q3:zW b.aQ
   ·by_cases q4:aIJ b.qJ
    ·have hg:b.Mem.aD.Global.length<=maxLen:=by rw[q1.1.2.1];simp[maxLen]
     have ho:b.Mem.aD.Own.length<=maxLen:=by rw[q1.1.2.2.1];simp[maxLen]
     have hmx:(1073741824:Nat)<=maxLen:=by simp[maxLen]
     simp only[cN q1,cN q2,cN q3,cN q4,aL,kW,bV,bR];have e1:(λy0=>BZ y0 b)=λr:eN=>some (!decide (P0 b r)):=by funext r;unfold BZ sZ;rw[GV q1.1.1.1 f2 hg ho];grind[P0]
     have e2:∀l∈b.aQ,(λy0=>IZ y0 b) l=some (!decide (∀r∈l.Rows,P0 b r)):=λl hl=>by have:=ZH hl;simp only[IZ];rw[e1,aAV aa,ZE];rfl
     rw[YO f4 _ _ e2,ZE];have hiff:mV b↔∀l∈b.aQ,∀r∈l.Rows,P0 b r:=by
      constructor
      ·intro x l hl r hr;exact x.2 r (aGD.2 ⟨l,hl,hr⟩)
      ·intro x;refine⟨⟨q1,q2,q3,q4⟩,λr hr=>?_⟩;obtain⟨l,hl,hr⟩:=aGD.1 hr;grind
     grind
    grind[mV]
   grind[mV]
  grind[mV]
 grind[mV]
end
theorem US{s:List aT}{p:aT->Bool}(hl:s.length<=4611686018427387904) :
  (∃j,∃h:j<s.length,(∀i (h:i<s.length),i<j->p s[i]=false)/\p s[j]=true/\cT s (λy=>some (p y))=some (j:Int))\/((∀i (h:i<s.length),p s[i]=false)/\cT s (λy=>some (p y))=some (-1)):=by
 rcases SR (f:=nZ s (λy=>some (p y))) (p:=p) hl (λk=>by
  simp only[nZ];by_cases h:k<s.length
  ·rw[dif_pos h,eG,aW h,aL,aL,dU];rfl
  grind) s.length 0 aa with ⟨j,h,_,h2,h3,h4⟩|⟨h1,h2⟩
 ·refine .inl ⟨j,h,λi hi a=>h2 i hi (i4 _) a,h3,?_⟩;unfold cT;rw[show(0:Int)=((0:Nat):Int) from rfl,h4];rfl
 ·refine .inr ⟨λi hi=>h1 i hi (i4 _),?_⟩;unfold cT;rw[show(0:Int)=((0:Nat):Int) from rfl,h2];rfl
theorem aGN{s:List Seen}{p:Seen->Bool}(hl:s.length<=4611686018427387904) :
  (∃j,∃h:j<s.length,(∀i (h:i<s.length),i<j->p s[i]=false)/\p s[j]=true/\eT s (λy=>some (p y))=some (j:Int))\/((∀i (h:i<s.length),p s[i]=false)/\eT s (λy=>some (p y))=some (-1)):=by
 rcases SR (f:=jB s (λy=>some (p y))) (p:=p) hl (λk=>by
  simp only[jB];by_cases h:k<s.length
  ·rw[dif_pos h,eG,aW h,aL,aL,dU];rfl
  grind) s.length 0 aa with ⟨j,h,_,h2,h3,h4⟩|⟨h1,h2⟩
 ·refine .inl ⟨j,h,λi hi a=>h2 i hi (i4 _) a,h3,?_⟩;unfold eT;rw[show(0:Int)=((0:Nat):Int) from rfl,h4];rfl
 ·refine .inr ⟨λi hi=>h1 i hi (i4 _),?_⟩;unfold eT;rw[show(0:Int)=((0:Nat):Int) from rfl,h2];rfl
theorem aPG{s:List aT}{p:aT->Bool}(hl:s.length<=4611686018427387904):jS s (λy=>some (p y))=some (s.filter λx=>!p x):=by
 unfold jS;rcases US (p:=p) hl with ⟨j,h,h1,h2,h3⟩|⟨h1,h3⟩
 ·have ne:¬(((j:Int) == -1)=true):=ae
  rw[h3,aL,aP ne,dU];obtain⟨M,k,g1,g2,g3,g4⟩:=aJB (p:=p) (n:=s.length) (f:=j7 (λy=>some (p y))) hl (λL i j h hn hi=>by
   simp only[j7];rw[eG,aW h,aL,aL];by_cases hp:p L[j]=true
   ·rw[aN hp,aP (by simp[hp])];grind[iI,cQ]
   ·rw[aP hp,aN aj,WL,aL];grind[iI,cQ]) (λL i j h=>by
   simp_all[j7]) (s.length-(j+1)) s j (j+1) aa rfl aa
  grind[xO,xN,b7,eU,aP4,aU7]
 ·rw[h3,aL,aN ak,List.filter_eq_self.2];grind[WT]
theorem aSI{O:Type}{q:O->Bool}:∀{s:List O} {j:Nat} (h:j<s.length),(∀i (h:i<s.length),i<j->q s[i]=true)->q s[j]=false->s.takeWhile q=s.take j/\s.dropWhile q=s.drop j
 |[],j,h,_,_=>by cases h
 |x::r,0,h,_,h2=>by simp_all
 |x::r,j + 1,h,h1,h2=>by have hx:q x=true:=h1 0 (Nat.zero_lt_succ _) (Nat.zero_lt_succ _);have:=aSI (s:=r) (j:=j) aj (λi hi hj=>h1 (i+1) aa aa) h2;simp_all
theorem bIQ{q:O->Bool}{s:List O}(h:∀i (h:i<s.length),q s[i]=true):s.takeWhile q=s/\s.dropWhile q=[]:=by
 have h':∀x∈s,q x=true:=λx hx=>by grind[WT]
 clear h;induction s with
 |nil=>simp
 |cons x r ih=>
  simp_all
def vF(l:List aT)(x:aT):List aT:=
 (l.filter λy=>!(y.Key == x.Key)).takeWhile (λy=>!decide (x.Key<y.Key))++[x]++(l.filter λy=>!(y.Key == x.Key)).dropWhile (λy=>!decide (x.Key<y.Key))
theorem aFU{l:List aT}(hl:l.length<=1000)(x:aT):I7 l x=some (vF l x):=by
 unfold I7 nD vF;rw[OE];simp only[aL,OU];have hd:jS l (λy0=>KR y0 x)=some (l.filter λy=>!(y.Key == x.Key)):=aPG (p:=λy=>y.Key == x.Key) aa;rw[hd,aL];have hlen:(l.filter λy=>!(y.Key == x.Key)).length<=1000:=lW (aTI _ _) hl;generalize (l.filter λy=>!(y.Key == x.Key))=o at hlen ⊢;have hi:(∃j,∃h:j<o.length,(∀i (h:i<o.length),i<j->decide (x.Key<o[i].Key)=false)/\decide (x.Key<o[j].Key)=true/\cT o (λy0=>B8 y0 x)=some (j:Int))\/((∀i (h:i<o.length),decide (x.Key<o[i].Key)=false)/\cT o (λy0=>B8 y0 x)=some (-1)):=US (p:=λy=>decide (x.Key<y.Key)) aa;rcases hi with ⟨j,h,h1,h2,h3⟩|⟨h1,h3⟩
 ·obtain⟨t1,t2⟩:=aSI (q:=λy:aT=>!decide (x.Key<y.Key)) h (λi hi a=>aj) (by simp[h2]);rw[h3,aL,gI,t1,t2];grind[rN,qQ,b7]
 ·obtain⟨t1,t2⟩:=bIQ (s:=o) (q:=λy:aT=>!decide (x.Key<y.Key)) (λi hi=>aj);rw[h3,aL,aN ai,t1,t2];grind[rN,qQ,b7,List.drop_length]
def OT(l:List aT)(k:Int):aT×Bool:=match l.find? (λy=>y.Key == k) with|some x=>(x,true)|none=>(⟨0,false,0⟩,false)
theorem aMD{p:O->Bool}{s:List O}{j:Nat}(h:j<s.length)(h1:∀i (h:i<s.length),i<j->p s[i]=false)(h2:p s[j]=true):s.find? p=some s[j]:=by grind[List.find?_eq_some_iff_getElem]
theorem a1F{p:O->Bool}{s:List O}(h1:∀i (h:i<s.length),p s[i]=false):s.find? p=none:=by grind[WT]
theorem aIM{l:List aT}(hl:l.length<=1000)(k:Int):L8 l k=some (OT l k):=by
 unfold L8 OT;have hi:(∃j,∃h:j<l.length,(∀i (h:i<l.length),i<j->(l[i].Key == k)=false)/\(l[j].Key == k)=true/\cT l (λy0=>FR y0 k)=some (j:Int))\/((∀i (h:i<l.length),(l[i].Key == k)=false)/\cT l (λy0=>FR y0 k)=some (-1)):=US (p:=λy=>y.Key == k) aa;rcases hi with ⟨j,h,h1,h2,h3⟩|⟨h1,h3⟩
 ·rw[h3,aL,gI,aW h,aMD (p:=λy:aT=>y.Key == k) h h1 h2];rfl
 simp_all[a1F]
def rX(l:List Seen)(b v:Int):List Seen×Bool:=match l.find? (λy=>y.bX == b) with|some x=>(l,x.eJ == v)|none=>(l++[⟨b,v⟩],true)
theorem aIN{l:List Seen}(hl:l.length<=1000)(b v:Int):MA l b v=some (rX l b v):=by
 unfold MA o6 rX;rw[OE];simp only[aL,OU];have hi:(∃j,∃h:j<l.length,(∀i (h:i<l.length),i<j->(l[i].bX == b)=false)/\(l[j].bX == b)=true/\eT l (λy0=>FX y0 b)=some (j:Int))\/((∀i (h:i<l.length),(l[i].bX == b)=false)/\eT l (λy0=>FX y0 b)=some (-1)):=aGN (p:=λy=>y.bX == b) aa;rcases hi with ⟨j,h,h1,h2,h3⟩|⟨h1,h3⟩
 ·rw[h3,aL,gI,aW h,aMD (p:=λy:Seen=>y.bX == b) h h1 h2];rfl
 ·rw[h3,aL,aN ai,OE,a1F (p:=λy:Seen=>y.bX == b) h1]
def fP(l:List aT)(n:Int):Int:=(((l.take n.toNat).filter λx=>!x.HC).length:Int)
theorem aYH(l:List aT)(n:Int):(l.take ((if(if(l.length:Int)<n then(l.length:Int) else n)<0 then 0 else(if(l.length:Int)<n then(l.length:Int) else n)).toNat)).drop 0=l.take n.toNat:=by
 (simp_all;omega)
theorem aD0{l:List aT}(hl:l.length<=1000)(n:Int):SF l n=some (fP l n):=by
 unfold SF fP;rw[TA];have hc:=aYH l n;obtain⟨s,hs⟩:∃s,s=l.take n.toNat:=⟨_,rfl⟩;have hsl:s.length<=1000:=aj
 rw[show((0:Int),(0:Int))=((((s.take 0).filter λx=>!x.HC).length:Int),((0:Nat):Int)) from rfl,
  gT s.length (λk=>((((s.take k).filter λx=>!x.HC).length:Int),(k:Int))) (((s.filter λx=>!x.HC).length:Nat):Int) (λk hk=>by
   have ht:s.take (k+1)=s.take k++[s[k]]:=JN hk;have hle:((s.take k).filter λx=>!x.HC).length<=1000:=lW (aTI _ _) aj;simp only[T0,hc,<-hs];rw[eG,aW hk,aL,ht,List.filter_append];cases hd:s[k].HC
   ·rw[aN ak,dU];simp only[FY];rw[dU];simp[hd]
   ·rw[gI];grind[FY,cQ]) (by
   simp only[T0,hc,<-hs];simp)]
 rw[hs];rfl
def jD(k:Int):Int:=if 0<=k/\k<=99 then k % 2 else -1
theorem RE(k:Int):H0 k=some (jD k):=by unfold H0 jD;rw[cV,aL];grind
def pR(l:List aT):List Int:=(if l.any (λx=>x.Key % 2 == 0) then [0] else [])++(if l.any (λx=>x.Key % 2 == 1) then [1] else [])
theorem aYI(hs:l.Pairwise (· < ·))(hm:∀x∈l,x=0\/x=1):l=(if 0∈l then [0] else [])++(if 1∈l then [1] else []):=by
 match l,hs,hm with
 |[],_,_=>rfl
 |[x],_,hm=>rcases hm x ae with rfl|rfl<;>rfl
 |[x,y],hs,hm=>
  have hxy:x<y:=aj
  rcases hm x ae with rfl|rfl<;>rcases hm y ae with rfl|rfl<;>first|omega|rfl
 |x::y::z::r,hs,hm=>
  (simp_all;omega)
theorem aIO{l:List aT}(hl:l.length<=12)(hk:∀x∈l,0<=x.Key/\x.Key<=99):MB l=some (pR l):=by
 unfold MB;rw[show(([]:List Int),(0:Int))=((l.take 0).map (λx=>x.Key % 2),((0:Nat):Int)) from rfl,
  gT l.length (λk=>((l.take k).map (λx=>x.Key % 2),(k:Int))) (l.map λx=>x.Key % 2) (λk hlt=>by
   have ht:l.take (k+1)=l.take k++[l[k]]:=JN hlt;have hkk:=hk l[k] (dB hlt);simp only[KU];rw[eG,aW hlt,aL,RE,aL];unfold jD;rw[aN hkk,eG,OE,ht,sH];grind[CB,cQ]) (by
   simp[KU]),aL]
 simp only[VT,KT];obtain⟨y,h1,h2,h3⟩:=a8N (x:=l.map λx=>x.Key % 2) aj (by grind[aYB]);rw[h1,aL];obtain⟨c1,c2⟩:=aVA h3;have hmem:∀a,a∈D5 y↔∃x∈l,x.Key % 2=a:=λa=>aj
 have h01:∀a∈D5 y,a=0\/a=1:=λa ha=>aj
 show some (D5 y)=_;rw[aYI c1 h01];grind[pR]
theorem aSJ(l:List aT):(pR l).length<=2:=by grind[pR]
theorem SY{l:List aT}{b:Int}(h:b∈pR l):b=0\/b=1:=by grind[pR]
theorem aME{f:(List O×Int)->Option (Step (List O×Int) (List O))}(l:List O)
  (h:∀k (hk:k<l.length),f (l.take k,(k:Int))=some (.next (l.take k++[l[k]],((k+1:Nat):Int)))) (he:f (l,(l.length:Int))=some (.stop l)):loop f ([],0)=some l:=by
 have:=gT (f:=f) l.length (λk=>(l.take k,(k:Int))) l (λk hk=>by simp_all) aj;grind
theorem ZJ{f:(Int×List O)->Option (Step (Int×List O) (List O))}(l:List O)
  (h:∀k (hk:k<l.length),f ((k:Int),l.take k)=some (.next (((k+1:Nat):Int),l.take k++[l[k]]))) (he:f ((l.length:Int),l)=some (.stop l)):loop f (0,[])=some l:=by
 have:=gT (f:=f) l.length (λk=>((k:Int),l.take k)) l (λk hk=>by simp_all) aj;grind
theorem pS(h:l.length<=1073741824):gC l=some l:=by grind[gC,b7]
theorem aSK{l:List wB}(h:l.length<=1073741824):yT l=some l:=by grind[yT,b7]
theorem aPH{l:List eN}(h:l.length<=1073741824):wC l=some l:=by grind[wC,b7]
theorem RF{l:aD}(h1:l.Global.length<=1048576)(h2:l.Own.length<=1048576)(h3:∀s∈l.Global,s.aV.length<=1048576)(h4:∀s∈l.Own,s.aV.length<=1048576):i7 l=some l:=by
 unfold i7;rw[ZJ l.Global]
 ·simp only[aL,PD,PC];rw[ZJ l.Own]
  ·rfl
  ·intro k hk;have:=h4 _ (dB hk);simp only[EW];rw[eG,aW hk];simp only[aL];rw[pS aa,aL,OE,EV,dU];rfl
  grind[EW]
 ·intro k hk;have:=h3 _ (dB hk);simp only[EY];rw[eG,aW hk];simp only[aL];rw[pS aa,aL,OE,EX,dU];rfl
 grind[EY]
theorem UT{h:Heap}(h1:h.Bytes.length<=1048576)(h2:h.Class.length<=1048576):vK h=some h:=by unfold vK;rw[pS aa,pS aa];rfl
theorem P1(h:DI m):o5 m=some m:=by have a:=UT h.1 h.2.1;have b:=RF h.2.2.1 h.2.2.2.1 h.aVB.1 h.aVB.2;simp_all[o5]
theorem mZ{c:aC}(h:c.cE.length<=1048576):zF c=some c:=by unfold zF;rw[OE];rfl
theorem BO{c:aC}(h:c.cE.length<=1048576):lN c=some c:=by unfold lN;rw[aSK aa];rfl
theorem RG{l:List bT}(hl:l.length<=1048576)(hs:∀s∈l,s.Rows.length<=1048576):lO l=some l:=by
 unfold lO;rw[aME l]
 ·rfl
 ·intro k hk;have:=hs _ (dB hk);simp only[EZ];rw[eG,aW hk];simp only[aL];rw[aPH aa,aL,OE,dU];rfl
 grind[EZ]
theorem aSL{b:aA}(h:UR b):IT b=some b:=by have m:=P1 h.1;have c:=BO h.2.1;have l:=RG h.2.2.1 h.rows;have:=h.2.2.2.2;unfold IT;rw[m,c,l,pS aa];rfl
theorem m0(w:Int):gX w=some (decide (0<=w/\w<=2)):=by grind[gX,cV]
section
variable {c:aC} (hc:K7 c) {w:Int} (hw:0<=w/\w<=2)
include hc
theorem K7.small:c.cE.length<=1048576/\c.cE.length<=maxLen:=by have:=hc.2.1;grind[maxLen]
theorem K7.aSM{p:wB}(hp:POk c.aK p):K7 ⟨c.aK,c.cE.set k p⟩:=⟨hc.1,by simpa using hc.2.1,λq hq=>(qW hq).elim (hc.2.2 q) (λe=>e ▸ hp)⟩
theorem K7.later(h:c.aK+1<=100000):K7 ⟨c.aK+1,c.cE⟩:=by
 have h1:=hc.1;exact⟨⟨aj,h⟩,hc.2.1,λq hq=>by
  obtain⟨a,b,d⟩:=hc.2.2 q hq;exact⟨⟨a.1,aj⟩,b,d⟩⟩
include hw
theorem aYJ:∃p,idx c.cE w=some p/\POk c.aK p:=by have h3:=hc.2.1;rw[hU hw.1 aa];exact⟨_,rfl,hc.2.2 _ (dB _)⟩
theorem a3O(e:Int):∃r,J7 c w e=some r/\PH c w e=some r/\K7 r.1/\r.1.aK=c.aK:=by
 obtain⟨p,hp,h1,⟨hs0,hs1⟩,h2⟩:=aYJ hc hw;have h3:=hc.2.1;unfold J7 PH;rw[mZ hc.small.1,BO hc.small.1,kN,vD hc.small.2,m0,fW,cN hc,cN hw];simp only[aL,kW,bV,bR,GK,FN,hp];cases h4:p.On
 ·exact⟨_,rfl,rfl,hc,rfl⟩
 ·cases h5:p.gL
  ·by_cases h6:p.aK=e
   ·simp_all[rR,rM]
   ·have h6':(p.aK == e)=false:=aj
    simp only[rR,rM,h6',kW,bV,bR,hp,aL];by_cases h7:p.Seen=2
    ·simp only[h7,beq_self_eq_true,bW,show ¬((2:Int)<2) by omega,decide_false,bV,bR];exact⟨_,rfl,rfl,hc.aSM ⟨h1,ae,λq=>aj⟩,rfl⟩
    ·have h7':(p.Seen == 2)=false:=aj
     simp only[h7',show p.Seen<2 by omega,decide_true,bW,bV,bR];have hw7:bE (p.Seen+1)=p.Seen+1:=dU;exact⟨_,rfl,rfl,hc.aSM ⟨h1,aj,λq=>aj⟩,rfl⟩
  ·exact⟨_,rfl,rfl,hc,rfl⟩
theorem a8S(e:Int):∃r,NS c w e=some r/\TZ c w e=some r/\(K7 r.1/\r.1.aK=c.aK)/\(r.2=false->r.1=c):=by
 obtain⟨p,hp,hpk⟩:=aYJ hc hw;have h3:=hc.2.1;unfold NS TZ;rw[mZ hc.small.1,BO hc.small.1,kN,vD hc.small.2,m0,fW,fW,cV,cN hc,cN hw];simp only[aL,kW,bV,bR,BE,A2,hp];by_cases h:0<=e/\e<=c.aK
 ·simp only[cN h,kW,bV,bR];exact⟨_,rfl,rfl,⟨hc.aSM ⟨h,ae,λq=>by cases q⟩,rfl⟩,λq=>by cases q⟩
 simp_all[gJ]
omit hw in
theorem bDQ(e:Int):∃r,SK c e=some r/\ZD c e=some r/\K7 r.1/\c.aK<=r.1.aK:=by
 have h3:=hc.2.1;unfold SK ZD;rw[mZ hc.small.1,BO hc.small.1,kN,vD hc.small.2,cN hc];simp only[aL,kW,bV,bR,GL,FO];by_cases h:c.aK=e
 ·subst h;simp only[bne_self_eq_false,bV,bR];by_cases h:c.aK=100000
  ·simp_all
  ·have h':(c.aK == 100000)=false:=aj
   have hE:=hc.1;have hw7:bE (c.aK+1)=c.aK+1:=dU;simp only[h',bV,bR,hw7];exact⟨_,rfl,rfl,hc.later aa,aj⟩
 simp_all
end
theorem bIR{b:aA}(hc:K7 b.aC)(hw:0<=w/\w<=2)(s:Sub) :
  ∃x y,J8 b w s=some (x,y)/\y6 s b w=some (y,x)/\∃cl,x=⟨b.Mem,cl,b.aQ,b.qJ⟩/\K7 cl/\b.aC.aK<=cl.aK:=by
 obtain⟨r,e1,e2,h3,h4⟩:=a8S hc hw s.E;unfold J8 y6;rw[e1,e2];simp only[bO,bJ,z8,aL];by_cases p0:s.Pc=0
 ·simp only[p0,beq_self_eq_true,bW];exact⟨_,_,rfl,rfl,_,rfl,hc,aa⟩
 ·have p0':(s.Pc == 0)=false:=aj
  simp only[p0',bV,bR];by_cases p1:s.Pc=1
  ·simp only[p1,beq_self_eq_true,bW];cases h:r.2
   ·rw[h4 h];exact⟨_,_,rfl,rfl,_,rfl,hc,aa⟩
   ·exact⟨_,_,rfl,rfl,_,rfl,h3.1,aa⟩
  ·have p1':(s.Pc == 1)=false:=aj
   simp only[p1',bV,bR];by_cases p2:s.Pc=2
   ·simp only[p2,beq_self_eq_true,bW];by_cases q:b.aC.aK=s.E
    ·simp only[q,beq_self_eq_true,bW];exact⟨_,_,rfl,rfl,_,rfl,hc,aa⟩
    ·have q':(b.aC.aK == s.E)=false:=aj
     simp only[q',bV,bR];exact⟨_,_,rfl,rfl,_,rfl,hc,aa⟩
   ·have p2':(s.Pc == 2)=false:=aj
    simp only[p2',bV,bR];exact⟨_,_,rfl,rfl,_,rfl,hc,aa⟩
theorem aYK{b:aA}(hc:K7 b.aC)(s:Sub) :
  ∃x y,uY b s=some (x,y)/\pC s b=some (y,x)/\∃cl,x=⟨b.Mem,cl,b.aQ,b.qJ⟩/\K7 cl/\b.aC.aK<=cl.aK:=by
 obtain⟨r2,e3,e4,h4⟩:=bDQ hc s.E;unfold uY pC l9;rw[e3,e4,fW,m0];simp only[bO,bJ,tR,tS,l6,aL];by_cases p0:s.Pc=0
 ·simp only[p0,beq_self_eq_true,bW];exact⟨_,_,rfl,rfl,_,rfl,hc,aa⟩
 ·have p0':(s.Pc == 0)=false:=aj
  simp only[p0',bV,bR];by_cases p1:s.Pc=1
  ·simp only[p1,beq_self_eq_true,bW,show((1:Int) == 2)=false from rfl,bV,bR];by_cases hB:0<=s.B/\s.B<=2
   ·obtain⟨r,e1,e2,h3,h3'⟩:=a3O hc hB s.E;simp only[cN hB,kW,bV,bR,bW,e1,e2,aL];cases h:r.2
    ·exact⟨_,_,rfl,rfl,_,rfl,h3,aa⟩
    ·by_cases q:bE (s.B+1)=3
     ·simp only[q,beq_self_eq_true,bW,kW,bV,bR];exact⟨_,_,rfl,rfl,_,rfl,h3,aa⟩
     ·have q':(bE (s.B+1) == 3)=false:=aj
      simp only[q',kW,bV,bR];exact⟨_,_,rfl,rfl,_,rfl,h3,aa⟩
   ·simp only[gJ hB,TB,bV,bR,bW];exact⟨_,_,rfl,rfl,_,rfl,hc,aa⟩
  ·have p1':(s.Pc == 1)=false:=aj
   simp only[p1',bV,bR];by_cases p2:s.Pc=2
   ·simp only[p2,beq_self_eq_true,bW];cases h:r2.2
    ·simp only[bV,bR];exact⟨_,_,rfl,rfl,_,rfl,h4⟩
    ·simp only[bW];exact⟨_,_,rfl,rfl,_,rfl,h4⟩
   ·have p2':(s.Pc == 2)=false:=aj
    simp only[p2',bV,bR];exact⟨_,_,rfl,rfl,_,rfl,hc,aa⟩
theorem aYL:∀(n:Nat) (l:List Int),l.Nodup->(∀x∈l,0<=x/\x<(n:Int))->l.length<=n
 |0,l,_,h=>by
  cases l with
  |nil=>simp
  |cons a t=>(simp_all;omega)
 |n + 1,l,hn,h=>by
  have ih:=aYL n (l.erase (n:Int)) (hn.erase _) (λx hx=>by
   grind)
  grind
theorem MW{l:List bT}(hk:k<l.length)(x:bT):dV (l.set k x)=dV (l.take k)++(x.Rows++dV (l.drop (k+1))):=by simp_all[List.set_eq_take_append_cons_drop,dV]
theorem KF{l:List bT}(hk:k<l.length):dV l=dV (l.take k)++(l[k].Rows++dV (l.drop (k+1))):=by grind[aPO,MW]
theorem IE{l:List bB}(hk:k<l.length)(x:bB):fE (l.set k x)=fE (l.take k)++(x.aV++fE (l.drop (k+1))):=by simp_all[List.set_eq_take_append_cons_drop,fE]
theorem D1{l:List bB}(hk:k<l.length):fE l=fE (l.take k)++(l[k].aV++fE (l.drop (k+1))):=by grind[aPO,IE]
def bG(l:List bT)(s:Int):Prop:=∃r∈dV l,lK r.Handle/\r.Handle % 32=s
instance (l:List bT) (s:Int):Decidable (bG l s):=by unfold bG;infer_instance
section
variable {l:List bT} (hl:zW l)
include hl
theorem zW.small:(dV l).length<=1073741824/\l.length<=maxLen/\l.length<=1048576/\∀s∈l,s.Rows.length<=24:=by have:=hl.1;have h2:=hl.2.1;refine⟨aa,by grind[maxLen],aa,λs hs=>?_⟩;have:=ZH hs;omega
theorem V8(s:Int):UA l s=some (decide (bG l s)):=by
 have hm:=hl.small;unfold UA;rw[aL9 hm.1 hm.2.1,aL];have key:=ID (f:=oP s (dV l)) (dV l) (λk=>(k:Int)) (λr=>¬(lK r.Handle/\r.Handle % 32=s)) (Out.brk ()) (Out.ret true)
  (λk hk hp=>by
   have hk':=hl.2.1;simp only[oP,CP];rw[eG,aW hk,sP (show k<maxLen by grind[maxLen])];grind[rW,jN])
  (λk hk hp=>by
   simp_all[oP,CP,aW,rW,jN])
  (by simp[oP])
 have key':loop (oP s (dV l)) 0=_:=key;rw[key'];by_cases q:bG l s
 ·rw[aP (λa=>by obtain⟨r,hr,e⟩:=q;grind),cN q];rfl
 ·rw[aN (λr hr e=>q ⟨r,hr,e⟩),gJ q];rfl
theorem V9(s:Int):FM l s=some (decide (bG l s)):=by
 have hm:=hl.small;unfold FM;have e1:∀(r:eN),rL r s=some (decide (lK r.Handle/\r.Handle % 32=s)):=by
  intro r;unfold rL qO;rw[gY];by_cases q:lK r.Handle
  ·rw[q.mod.1];grind
  ·simp[q]
 have e2:∀x∈l,FL x s=some (x.Rows.any λr=>decide (lK r.Handle/\r.Handle % 32=s)):=by
  intro x hx;unfold FL;have:x.Rows.length<=maxLen:=by grind[maxLen]
  rw[show(λy0=>rL y0 s)=λr=>some (decide (lK r.Handle/\r.Handle % 32=s)) from funext e1,aAV this];rfl
 rw[YO hm.2.1 (λx=>x.Rows.any λr=>decide (lK r.Handle/\r.Handle % 32=s)) _ e2];simp only[aL];congr 1;rw[HP,decide_eq_true_iff];simp only[List.any_eq_true,decide_eq_true_eq,bG,dV,aGD];grind
theorem zW.more(hk:k<l.length){r:eN}(hr:PZ r)(hn:¬bG l (r.Handle % 32)):zW (l.set k ⟨l[k].Rows++[r]⟩):=by
 have e:=MW hk (⟨l[k].Rows++[r]⟩:bT);have p:(dV (l.set k ⟨l[k].Rows++[r]⟩)).Perm (r::dV l):=by grind[KF]
 have h1:∀x∈dV (l.set k ⟨l[k].Rows++[r]⟩),PZ x:=λx hx=>by
  rcases j3.1 (p.mem_iff.1 hx) with rfl|h
  ·exact hr
  ·exact hl.2.2.1 x h
 have h2:((dV (l.set k ⟨l[k].Rows++[r]⟩)).map HM).Nodup:=by refine(List.Perm.nodup_iff (p.map HM)).2 ?_;rw[D9,WU];refine⟨λh=>hn ?_,hl.2.2.2⟩;obtain⟨x,hx,e⟩:=AR.1 h;exact⟨x,hx,(hl.2.2.1 x hx).1,e⟩
 refine⟨by simpa using hl.1,?_,h1,h2⟩;have:=aYL 24 _ h2 (λx hx=>by
  obtain⟨y,hy,rfl⟩:=AR.1 hx;have:=(h1 y hy).1.mod;grind[HM])
 grind
end
theorem a3P{b:aA}(hb:mV b)(hs:UR b)(hw:0<=w/\w<=2)(s:Sub) :
  ∃x y,xY b w s=some (x,y)/\qP s b w=some (y,x)/\∃L,x=⟨b.Mem,b.aC,L,b.qJ⟩/\zW L/\∀r∈dV L,P0 b r:=by
 have hL:=hb.1.2.2.1;have hm:=hb.1.1;have hlen:w.toNat<b.aQ.length:=by have:=hL.1;omega
 have hx:idx b.aQ w=some b.aQ[w.toNat]:=hU hw.1 aa;have hg:b.Mem.aD.Global.length<=maxLen:=by rw[hm.1.2.1];simp[maxLen]
 have ho:b.Mem.aD.Own.length<=maxLen:=by rw[hm.1.2.2.1];simp[maxLen]
 have hall:(iC b.Mem.aD).length<=1073741824:=by have:=hs.1.2.2.2.2;omega
 have hrow:=hL.small.2.2.2 _ (dB hlen);have he:=hb.1.2.1.1;unfold xY qP mU;rw[fW,cV,V7 hm.1.1.1 hall hg ho,GV hm.1.1.1 hall hg ho,jN];simp only[bO,bJ,aL,wN,GJ,mT];by_cases p0:s.Pc=0
 ·simp only[p0,beq_self_eq_true,bW];exact⟨_,_,rfl,rfl,_,rfl,hL,hb.2⟩
 ·have p0' : (s.Pc == 0) = false:=aj
  simp only[p0',bV,bR];by_cases p1:s.Pc=1
  ·simp only[p1,beq_self_eq_true,bne_self_eq_false,bV,bR,bW];by_cases q1:0<=s.E/\s.E<=b.aC.aK
   ·simp only[cN q1,kW,bV,bR];by_cases q2:mN b.Mem s.A
    ·have hh:=q2.1;simp only[cN q2,kW,bV,bR,aN hh,hh.mod.1,V8 hL,V9 hL,aL];by_cases q3:bG b.aQ (s.A % 32)
     ·simp only[cN q3,bW];exact⟨_,_,rfl,rfl,_,rfl,hL,hb.2⟩
     ·have hmore:=hL.more hlen (r:=⟨s.A,s.E⟩) ⟨hh,q1.1,aj⟩ q3;have e:I6 b.aQ w s.A s.E=some (b.aQ.set w.toNat ⟨b.aQ[w.toNat].Rows++[⟨s.A,s.E⟩]⟩,true):=by unfold I6 yZ;rw[CV hL.small.1,m0,RG hL.small.2.2.1 (λs h=>by have:=hL.small.2.2.2 s h;omega)];simp only[cN hL,cN hw,aL,kW,bV,bR,hx];rw[OE,CV hmore.small.1,cN hmore];rfl
      simp only[gJ q3,bV,bR,hx,e,aL];rw[OE];refine⟨_,_,rfl,rfl,_,rfl,hmore,λr hr=>?_⟩;rw[MW hlen] at hr;have hsp:=KF hlen;rcases dE.1 hr with h|h
      ·exact hb.2 r aj
      ·rcases dE.1 h with h|h
       ·rcases dE.1 h with h|h
        ·exact hb.2 r aj
        ·simp at h;subst h;exact⟨q2,q1.2⟩
       ·exact hb.2 r aj
    ·simp only[gJ q2,TB,bW];exact⟨_,_,rfl,rfl,_,rfl,hL,hb.2⟩
   ·simp only[gJ q1,TB,bW];exact⟨_,_,rfl,rfl,_,rfl,hL,hb.2⟩
  ·have p1':(s.Pc == 1)=false:=aj
   have p1'':(s.Pc != 1)=true:=aj
   simp only[p1',p1'',bV,bR,bW];exact⟨_,_,rfl,rfl,_,rfl,hL,hb.2⟩
def st4(b:List Int)(a:Nat)(n:Int):List Int:=(((b.set a 0).set (a+1) 0).set (a+2) 0).set (a+3) n
theorem GW(b:List Int)(a:Nat)(n:Int):(st4 b a n).length=b.length:=by simp[st4]
theorem aVF{b:List Int}(h:sN b)(a:Nat)(hn:0<=n/\n<=255):sN (st4 b a n):=by
 have key:∀{l:List Int} (i:Nat) (v:Int),sN l->0<=v/\v<=255->sN (l.set i v):=λi v hl hv x hx=>by
  rcases qW hx with h|rfl
  ·exact hl x h
  ·exact hv
 exact key _ _ (key _ _ (key _ _ (key _ _ h aa) aa) aa) hn
theorem a8T(hn:0<=n/\n<=255):((u8 n).toNat:Int)=n:=by grind[u8,UInt8.toNat_ofNat']
theorem aVG(i:Nat){v:Int}(hl:sN l)(hv:0<=v/\v<=255):sN (l.set i v):=λx hx=>by
 rcases qW hx with h|rfl
 ·exact hl x h
 ·exact hv
def RH(b:List Int)(a:Nat)(n:Int):List Int:=(((b.set a (n/16777216)).set (a+1) (n/65536 % 256)).set (a+2) (n/256 % 256)).set (a+3) (n % 256)
theorem aD1(b:List Int)(a:Nat)(n:Int):(RH b a n).length=b.length:=by simp[RH]
theorem a3Q{b:List Int}(h:sN b)(a:Nat)(hn:0<=n/\n<=4294967295):sN (RH b a n):=by grind[RH,aVG]
theorem a3R(b:List Int)(a:Nat)(x y z u:Int):(((b.set (a+3) u).set (a+2) z).set (a+1) y).set a x=(((b.set a x).set (a+1) y).set (a+2) z).set (a+3) u:=by refine List.ext_getElem ae λj h1 h2=>?_;grind
theorem a3S{b:List Int}{a:Nat}(h:a+4<=b.length)(hl:b.length<=100000)(hn:0<=n/\n<=4294967295):GH b (a:Int) 4 n=some (RH b a n):=by
 have st:∀(c:List Int) (m:Int) (i:Nat),c.length=b.length->0<=m->m<=4294967295->i<4->CQ (a:Int) (c,m,(i:Int))=some (.next (c.set (a+i) (m % 256),m/256,(i:Int)-1)):=λc m i hc h0 h1 hi=>by simp only[CQ];rw[aN ae,dU (x:=(a:Int)+i),show(a:Int)+i=((a+i:Nat):Int) by omega,WL,aL,N0 h0,aU6 h0,dU (x:=m/256),dU (x:=(i:Int)-1),JM]
 unfold GH;rw[show bE (4-1)=((3:Nat):Int) from by grind[cQ]];rw[bS (st b n 3 rfl hn.1 hn.2 aa),show((3:Nat):Int)-1=((2:Nat):Int) by rfl,
  bS (st _ _ 2 ae aa aa aa),show((2:Nat):Int)-1=((1:Nat):Int) by rfl,
  bS (st _ _ 1 ae aa aa aa),show((1:Nat):Int)-1=((0:Nat):Int) by rfl,
  bS (st _ _ 0 ae aa aa aa),aZ (r:=RH b a n)]
 ·rfl
 ·simp only[CQ];rw[gI];have e1:n/256/256=n/65536:=aa
  have e2:n/256/256/256=n/16777216:=aa
  have e3:n/16777216 % 256=n/16777216:=aa
  simp_all[RH,a3R]
def nV(n:Int):List UInt8:=[u8 (n/16777216),u8 (n/65536),u8 (n/256),u8 n]
theorem UU(hn:0<=n/\n<=4294967295):mD n 4=some (nV n):=by
 have hw:yX 4=some true:=by grind[yX,cV]
 unfold mD;rw[hw];have e1:IntKind.u64.wrap (bE (8*4))=32:=ai
 have e2:aJ5 .i64 1 32=4294967296:=ai
 simp only[aL,kW,bV,bR,e1,e2];rw[aIH,TA,gJ aa];simp only[vO,bV,bR];rw[TA,show bE (4-1)=((3:Nat):Int) from by grind[cQ]];have st:∀(m:Int) (c:List UInt8) (i:Nat),i<c.length->i<4->0<=m->qB (m,c,(i:Int))=some (.next (m/256,c.set i (u8 m),(i:Int)-1)):=λm c i hc hi h0=>by simp only[qB];rw[aN ae,aW hc,aL,show(8:Int)=((8:Nat):Int) from rfl,a1B h0 aa,dU,JM];rfl
 rw[bS (st n _ 3 ae aa hn.1),show((3:Nat):Int)-1=((2:Nat):Int) by rfl,
  bS (st _ _ 2 ae aa aa),show((2:Nat):Int)-1=((1:Nat):Int) by rfl,
  bS (st _ _ 1 ae aa aa),show((1:Nat):Int)-1=((0:Nat):Int) by rfl,
  bS (st _ _ 0 ae aa aa),aZ (r:=nV n)]
 ·rfl
 ·simp only[qB];rw[gI];have e1:n/256/256=n/65536:=aa
  rw[e1,show n/65536/256=n/16777216 by omega];rfl
theorem aSN(hn:0<=n):((u8 n).toNat:Int)=n % 256:=by
 have:u8 n=u8 (n % 256):=by grind[u8]
 grind[a8T]
theorem aYM{b:List Int}{a:Nat}(h:a+4<=b.length)(hl:b.length<=100000)(hn:0<=n/\n<=4294967295):mY b (a:Int) (nV n)=some (RH b a n):=by
 have st:∀(c:List Int) (i:Nat) (v:UInt8),c.length=b.length->i<4->idx (nV n) (i:Int)=some v->lQ b (a:Int) (nV n) (c,(i:Int))=some (.next (c.set (a+i) (v.toNat:Int),((i+1:Nat):Int))):=λc i v hc hi hv=>by simp only[lQ];rw[b7 hc,aN (by grind[nV]),hv,aL,dU (x:=(a:Int)+i),show(a:Int)+i=((a+i:Nat):Int) by omega,WL,aL,dU,JM];rfl
 unfold mY;rw[show(0:Int)=((0:Nat):Int) from rfl,bS (st b 0 _ rfl aa rfl),bS (st _ 1 _ ae aa rfl),bS (st _ 2 _ ae aa rfl),bS (st _ 3 _ ae aa rfl),aZ (r:=RH b a n)]
 ·grind[NB,NA,b7,aD1]
 ·simp only[lQ];rw[b7 ae,aP (by simp[nV])];simp only[aSN hn.1,aSN (show 0<=n/16777216 by omega),aSN (show 0<=n/65536 by omega),aSN (show 0<=n/256 by omega)];rw[show n/16777216 % 256=n/16777216 by omega];rfl
theorem a8U{b:List Int}{a:Nat}(hn:0<=n/\n<=255):RH b a n=st4 b a n:=by grind[RH,st4]
theorem K8{b:List Int}{a:Nat}(h:a+4<=b.length)(hl:b.length<=100000)(hn:0<=n/\n<=255):GH b (a:Int) 4 n=some (st4 b a n):=by grind[a3S,a8U]
theorem bLF(hn:0<=n/\n<=255):nV n=[0,0,0,u8 n]:=by unfold nV;rw[show n/16777216=0 by omega,show n/65536=0 by omega,show n/256=0 by omega];rfl
theorem aAW(hn:0<=n/\n<=255):mD n 4=some [0,0,0,u8 n]:=by grind[UU,bLF]
theorem YR{b:List Int}{a:Nat}(h:a+4<=b.length)(hl:b.length<=100000)(hn:0<=n/\n<=255):mY b (a:Int) [0,0,0,u8 n]=some (st4 b a n):=by rw[<-bLF hn,aYM h hl ⟨hn.1,aa⟩,a8U hn]
theorem bF9{x y z:Int}:∀(a:Nat) (l:List Int),a+3<=l.length->cR l a [x,y,z]=((l.set a x).set (a+1) y).set (a+2) z
 |0,l,h=>by
  match l,h with
  |_::_::_::t,_=>simp[cR]
 |a + 1,l,h=>by
  match l,h with
  |u::t,h=>
   have ih:=bF9 (x:=x) (y:=y) (z:=z) a t aj;grind[cR]
def a8V(p k:Nat)(c:Int):Nat:=(iZ ((p:Int)*4+k) c).toNat
def gB(b:List Int)(p:Nat)(c:Int):Nat->List Int
 |0=>((b.set (p*64) 171).set (p*64+1) c).set (p*64+2) (cH c)
 |k+1=>st4 (gB b p c k) (a8V p k c) 1
theorem K9(b:List Int)(p:Nat)(c:Int):∀k,(gB b p c k).length=b.length
 |0=>by simp[gB]
 |k+1=>by rw[gB,GW,K9 b p c k]
theorem aMF(i:Nat){v:Int}(hl:sN l)(hv:0<=v/\v<=255):sN (l.set i v):=λx hx=>by
 rcases qW hx with h|rfl
 ·exact hl x h
 ·exact hv
theorem aSO{b:List Int}(hb:sN b)(p:Nat){c:Int}(hc:0<=c/\c<=2):∀k,sN (gB b p c k)
 |0=>by have:=pQ c;exact aMF _ (aMF _ (aMF _ hb aa) aa) aa
 |k+1=>aVF (aSO hb p hc k) _ aa
def gS(p:Nat)(n:Nat):List Int:=(List.range n).map λ(i:Nat)=>(p:Int)*4+(i:Int)
theorem aFV(p n:Nat):(gS p n).length=n:=by simp[gS]
theorem a1G(p n:Nat):gS p (n+1)=gS p n++[(p:Int)*4+(n:Int)]:=by simp[gS,List.range_succ]
theorem aSP(hp:p<6)(hk:(k:Int)<cH c):iZ ((p:Int)*4+k) c=(a8V p k c:Int)/\a8V p k c+4<=384:=by
 have h4:=pQ c;have hm:=UQ (c:=c) (i:=(k:Int)) aa hk;have hst:4<=bD c:=by have:0<=c/\c<=2:=jW.1 aa;rcases m9 this with e|e|e<;>rw[e]<;>decide
 have e:iZ ((p:Int)*4+k) c=(p:Int)*64+8+(k:Int)*bD c:=by unfold iZ;grind
 grind[a8V]
theorem aP9(hp:p<6)(hk:k<4):PO (p:Int) (k:Int)=some ((p:Int)*4+k)/\PG (p:Int) (k:Int)=some ((p:Int)*4+k):=by grind[cQ,PO,NN,fW,PG,FK,cV]
section
variable {b:List Int} (hb:b.length=384) {p:Nat} (hp:p<6) {c:Int} (hc:0<=c/\c<=2)
include hb hp hc
theorem aMG:loop (CR c (p:Int)) ([],0,gB b p c 0)=some (gS p (cH c).toNat,gB b p c (cH c).toNat):=by
 have h4:=pQ c;refine gT (cH c).toNat (λk=>(gS p k,(k:Int),gB b p c k)) _ (λk hk=>?_) ?_
 ·have ho:=aSP (c:=c) hp (k:=k) aa;simp only[CR,VZ,oQ,aL];rw[eG,(aP9 hp aa).1];simp only[aL,BK,ho.1];rw[K8 (by grind[K9]) (by grind[K9]) aa];simp only[aL];rw[b7 (by grind[aFV]),dU,a1G];rfl
 ·simp only[CR,oQ,aL];grind
theorem aYN:loop (I4 c (p:Int) (cH c)) ([],0,gB b p c 0)=some (gS p (cH c).toNat,gB b p c (cH c).toNat):=by
 have h4:=pQ c;refine gT (cH c).toNat (λk=>(gS p k,(k:Int),gB b p c k)) _ (λk hk=>?_) ?_
 ·have ho:=aSP (c:=c) hp (k:=k) aa;simp only[I4,QF];rw[eG,(aP9 hp aa).2];simp only[aL,BL,ho.1];rw[aAW aa,aL,YR (by grind[K9]) (by grind[K9]) aa];simp only[aL];rw[b7 (by grind[aFV]),dU,a1G];rfl
 ·simp only[I4];grind
end
theorem a8W{h:Heap}(hh:HOk h)(hc:0<=c/\c<=2) :
  (tQ h c=some (h,[])/\HZ h c=some (h,[])) \/
  ∃p,p<6/\cX h p<0/\tQ h c=some (⟨gB h.Bytes p c (cH c).toNat,h.Class.set p c⟩,gS p (cH c).toNat)/\HZ h c=some (⟨gB h.Bytes p c (cH c).toNat,h.Class.set p c⟩,gS p (cH c).toNat):=by
 have hs:=hh.1;have h6:=hs.2.1;have h384:=hs.1;have hp4:=pQ c;have hcp:=UT (h:=h) aa aa;have hne:∀j (hj:j<6),j<h.Class.findIdx (λx=>decide (x = -1))->h.Class[j]≠-1:=λj hj hlt=>aj
 generalize hq:h.Class.findIdx (λx=>decide (x = -1))=q at hne;have hq6:q<=6:=aj
 have s1:∀k (hk:k<q),fH h c (k:Int)=some (.next ((k+1:Nat):Int)):=λk hk=>by
  have:=hne k aa hk;have n:(h.Class[k] != -1)=true:=aj
  simp only[fH,K0];rw[eG,WL,aL,n,aN rfl,dU];rfl
 have s2:∀k (hk:k<q),eZ h.Class (-1) (k:Int)=some (.next ((k+1:Nat):Int)):=λk hk=>by
  have:=hne k aa hk;have n:((-1:Int) == h.Class[k])=false:=aj
  simp only[eZ];rw[eG,WL,aL,n,dU];rfl
 have hm:h.Bytes.length<=maxLen:=by grind[maxLen]
 by_cases h5:q=6
 ·left;have a1:loop (fH h c) 0=some (Out.brk ()):=gT q (λk=>(k:Int)) _ s1 (by simp_all[fH]);have a2:loop (eZ h.Class (-1)) 0=some (Out.brk ()):=gT q (λk=>(k:Int)) _ s2 (by simp_all[eZ]);constructor
  ·unfold tQ;rw[a1];rfl
  ·unfold HZ m6;rw[a2,hcp,N3 hm,kL,cN hh,cN hc];rfl
 ·right;have hq5:q<6:=aa
  have he:h.Class[q] = -1:=aj
  refine⟨q,hq5,by grind[ZF],?_,?_⟩
  ·have a1:loop (fH h c) 0=some (Out.ret (⟨gB h.Bytes q c (cH c).toNat,h.Class.set q c⟩,gS q (cH c).toNat)):=gT q (λk=>(k:Int)) _ s1 (by
    have e0:bE ((q:Int)*64)=((q*64:Nat):Int):=by grind[cQ]
    have e1:bE (((q*64:Nat):Int)+1)=((q*64+1:Nat):Int):=by grind[cQ]
    have e2:bE (((q*64:Nat):Int)+2)=((q*64+2:Nat):Int):=by grind[cQ]
    have n:(h.Class[q] != -1)=false:=aj
    simp only[fH,e0,e1,e2,JM];rw[eG,WL,aL,n,gI,WL,aL,aW ah,aL,oQ,aL,aW ah,aL];have:=aMG h384 hq5 hc;simp only[gB] at this;rw[this];rfl)
   unfold tQ;rw[a1];rfl
  ·have a2:loop (eZ h.Class (-1)) 0=some (Out.ret (q:Int)):=gT q (λk=>(k:Int)) _ s2 (by
    have n:((-1:Int) == h.Class[q])=true:=by rw[he];rfl
    simp only[eZ];rw[eG,WL,aL,n];rfl)
   unfold HZ m6;rw[a2,hcp,N3 hm,kL,cN hh,cN hc];have e0:bE ((q:Int)*64)=((q*64:Nat):Int):=by grind[cQ]
   simp only[aL,zZ,kW,bV,bR,A1,e0,CT,QG,JM];rw[gJ aa,gI,WL,aL,TA,bF9 _ _ aa];have:=aYN h384 hq5 hc;simp only[gB] at this;rw[this];rfl
theorem LOk.count{l:aD}(h:LOk l):(iC l).length<=24:=aYL 24 _ h.2.2.2.2 (λx hx=>by have:=h.2.2.2.1 x hx;omega)
theorem a3T(hs:iA m.Heap)(hc:0<=bK m.Heap s):∃h,BC m s=some h/\I5 m s=some h:=by
 unfold BC I5 QV QH zE yY;rw[vU hs hc,JJ hs hc,aL,aL,fW,fW,yI,cV];have h1:=(qU hc).1;simp only[cN h1,aL,kW,bV,bR];by_cases q:1<=kP m.Heap s/\kP m.Heap s<=6
 ·simp only[cN q,kW,bV,bR];exact⟨_,rfl,rfl⟩
 ·simp only[gJ q,TB,bW];exact⟨_,rfl,rfl⟩
theorem aBU{l:List bB}(hk:k<l.length)(t:List Int):(fE (l.set k ⟨l[k].aV++t⟩)).length=(fE l).length+t.length:=by grind[IE,D1]
def bt(b:List Int)(i:Nat):Int:=b.getD i 0
theorem aMH{b:List Int}(h:i<b.length):b[i]=bt b i:=by grind[bt]
theorem ld4{b:List Int}{a:Nat}(h:a+4<=b.length):ld b a 4=((bt b a*256+bt b (a+1))*256+bt b (a+2))*256+bt b (a+3):=by grind[ld,uE,ldF,aMH]
theorem N5{b:List Int}{j:Nat}{v:Int}(hi:i<b.length):bt (b.set i v) j=if j=i then v else bt b j:=by grind[bt]
theorem IF{b:List Int}{a:Nat}(h:a+4<=b.length)(j:Nat):bt (st4 b a n) j=if j=a+3 then n else if a<=j/\j<a+3 then 0 else bt b j:=by unfold st4;rw[N5 ah,N5 ah,N5 ah,N5 aa];omega
theorem aYO{b:List Int}{a:Nat}(h:a+4<=b.length):ld (st4 b a n) a 4=n:=by simp_all[ld4,GW,IF]
theorem JK{b b':List Int}{a:Nat}(h:a+4<=b.length)(hl:b'.length=b.length)(hs:∀j,a<=j->j<a+4->bt b' j=bt b j):ld b' a 4=ld b a 4:=by simp_all[ld4]
def aBV(h:Heap)(p:Nat):Prop:=
 if cX h p<0 then ∀k,k<64->bt h.Bytes (p*64+k)=0
 else((bt h.Bytes (p*64)=171/\bt h.Bytes (p*64+1)=cX h p/\bt h.Bytes (p*64+2)=cH (cX h p))/\(∀k,3<=k->k<8->bt h.Bytes (p*64+k)=0)/\∀i,i<(cH (cX h p)).toNat->1<=ld h.Bytes (p*64+8+i*(bD (cX h p)).toNat) 4/\ld h.Bytes (p*64+8+i*(bD (cX h p)).toNat) 4<=7)
theorem aQA{h:Heap}(hs:iA h)(hp:p<6)(hk:k<64):(lG h p).getD k 0=bt h.Bytes (p*64+k):=by rw[<-a3J hs hp hk,aMH (by have:=hs.1;omega)]
theorem aD2:x∈l↔∃k,k<l.length/\l.getD k 0=x:=by
 rw[aGE];constructor
 ·rintro⟨k,hk,e⟩;exact⟨k,hk,aj⟩
 grind
theorem GX{h:Heap}(hs:iA h)(hp:p<6):GU h p↔aBV h p:=by
 unfold GU aBV;have hl:=YL hs hp;split
 ·constructor
  ·intro q k hk;rw[<-aQA hs hp hk];exact q _ (aD2.2 ⟨k,aa,rfl⟩)
  grind[aD2,aQA]
 ·rw[aQA hs hp aa,aQA hs hp aa,aQA hs hp aa];have e:(∀x∈((lG h p).drop 3).take 5,x=0)↔∀k,3<=k->k<8->bt h.Bytes (p*64+k)=0:=by
   have g:∀j,j<5->(((lG h p).drop 3).take 5).getD j 0=bt h.Bytes (p*64+(3+j)):=λj hj=>by rw[<-aQA hs hp aa,DN,DN,aB7,aN hj,aGB]
   constructor
   ·intro q k h3 h8;have:=q _ (aD2.2 ⟨k-3,aj,rfl⟩);grind
   ·intro q x hx;obtain⟨k,hk,rfl⟩:=aD2.1 hx;simp[hl] at hk;rw[g _ hk];exact q _ aa aa
  rw[e];rfl
theorem aBV.same{h h':Heap}(hp:p<6)(hs:iA h)(hl:h'.Bytes.length=h.Bytes.length)(hc:cX h' p=cX h p)(hb:∀k,k<64->bt h'.Bytes (p*64+k)=bt h.Bytes (p*64+k))(q:aBV h p):aBV h' p:=by
 have h1:=hs.1;unfold aBV at q ⊢;rw[hc];split
 ·grind
 ·rename_i q0;rw[aP q0] at q;obtain⟨⟨a1,a2,a3⟩,a4,a5⟩:=q;have b0:=hb 0 aa;have b1:=hb 1 aa;have b2:=hb 2 aa;simp only[U8] at b0;refine⟨⟨aa,aa,aa⟩,λk k3 k8=>aj,λi hi=>?_⟩;have hz:=zJ hs hp (c:=cX h p) rfl hi;rw[JK (b:=h.Bytes) aa hl λj j1 j2=>by
   have:=hb (j-p*64) aa;grind]
  grind
theorem pT{h:Heap}(hc:0<=bK h s):∃p i,p<6/\i<(cH (cX h p)).toNat/\s=(p:Int)*4+i/\bK h s=cX h p/\(iZ s (bK h s)).toNat=p*64+8+i*(bD (cX h p)).toNat/\(s/4).toNat=p:=by obtain⟨h1,h2,h3⟩:=qU hc;have hle:=pQ (cX h (s/4).toNat);refine⟨(s/4).toNat,(s % 4).toNat,aa,aa,aa,h3,?_,rfl⟩;rw[h3];unfold iZ;rw[aN ⟨h1,aa⟩];grind[bD]
theorem UW{j:Nat}(hi:i<(cH c).toNat)(hj:j<(cH c).toNat)(hn:i≠j):i*(bD c).toNat+4<=j*(bD c).toNat\/j*(bD c).toNat+4<=i*(bD c).toNat:=by
 have hc:0<=c/\c<=2:=jW.1 aa;have h12:12<=(bD c).toNat:=by rcases m9 hc with rfl|rfl|rfl<;>decide
 rcases Nat.lt_or_gt_of_ne hn with q|q
 ·left;have:(i+1)*(bD c).toNat<=j*(bD c).toNat:=uG _ q;rw[nU] at this;omega
 ·right;have:(j+1)*(bD c).toNat<=i*(bD c).toNat:=uG _ q;rw[nU] at this;omega
theorem HOk.a8X{h:Heap}(hh:HOk h){g:Int}(hc:0<=bK h s)(hg:1<=g/\g<=7) :
  HOk ⟨st4 h.Bytes (iZ s (bK h s)).toNat g,h.Class⟩/\∀t,0<=bK h t->kP ⟨st4 h.Bytes (iZ s (bK h s)).toNat g,h.Class⟩ t=if t=s then g else kP h t:=by
 obtain⟨hs,hp⟩:=hh;have h384:=hs.1;have hs':iA ⟨st4 h.Bytes (iZ s (bK h s)).toNat g,h.Class⟩:=⟨by grind[GW],hs.2.1,aVF hs.2.2.1 _ aa,hs.2.2.2⟩;obtain⟨p,i,p6,hi,es,ec,eo,ep⟩:=pT hc;have hz:=zJ hs p6 rfl hi;have h4:=pQ (cX h p);refine⟨⟨hs',λq hq=>?_⟩,λt ht=>?_⟩
 ·rw[GX hs' hq];have hold:=(GX hs hq).1 (hp q hq);by_cases e:q=p
  ·subst e;have hpos:0<cH (cX h q):=aa
   have hcl:¬cX h q<0:=aa
   unfold aBV at hold ⊢;have hcl':cX ⟨st4 h.Bytes (iZ s (bK h s)).toNat g,h.Class⟩ q=cX h q:=rfl;rw[hcl'];rw[aP hcl] at hold ⊢;obtain⟨⟨a1,a2,a3⟩,a4,a5⟩:=hold;have bs:∀k,k<8->bt (st4 h.Bytes (iZ s (bK h s)).toNat g) (q*64+k)=bt h.Bytes (q*64+k):=λk hk=>by rw[IF aa,gR,gR]
   have b0:=bs 0 aa;have b1:=bs 1 aa;have b2:=bs 2 aa;simp only[U8] at b0;refine⟨⟨aj,aj,aj⟩,λk k3 k8=>aj,λj hj=>?_⟩;have hzj:=zJ hs p6 rfl hj;by_cases ej:j=i
   ·grind[aYO]
   ·rw[JK (b:=h.Bytes) aa (by grind[GW]) λk k1 k2=>?_]
    ·grind
    ·simp only[eo];have:=UW hi hj (λq=>ej q.symm);rw[IF aa,gR,gR]
  ·refine aBV.same hq hs (by grind[GW]) rfl (λk hk=>?_) hold;rw[IF aa,gR,gR]
 ·have e2:bK ⟨st4 h.Bytes (iZ s (bK h s)).toNat g,h.Class⟩ t=bK h t:=rfl;unfold kP;rw[e2];by_cases e:t=s
  ·subst e;rw[aN rfl];grind[aYO]
  ·rw[aP e];obtain⟨p',i',p6',hi',es',ec',eo',ep'⟩:=pT ht;have hz':=zJ hs p6' rfl hi';rw[JK (b:=h.Bytes) aa (by grind[GW]) λk k1 k2=>?_];simp only;by_cases ee:p'=p
   ·subst ee;have:=UW hi hi' (λq=>e aa);rw[IF aa,gR,gR]
   ·have h4':=pQ (cX h p');rw[IF aa,gR,gR]
theorem aJC(hp:p<6)(hk:(k:Int)<cH c):a8V p k c=p*64+8+k*(bD c).toNat/\8+k*(bD c).toNat+4<=64:=by have hc:0<=c/\c<=2:=jW.1 aa;have h1:=aSP (c:=c) hp hk;have hle:=pQ c;have e:=h1.1;unfold iZ at e;rw[aN aa] at e;grind[bD,cH]
theorem a1H{b:List Int}{p:Nat}{c:Int}(hl:b.length=384)(hp:p<6)(hc:0<=c/\c<=2):∀k:Nat,(k:Int)<=cH c->∀j,(j<p*64\/p*64+64<=j->bt (gB b p c k) j=bt b j)/\(3<=j->j<8->bt (gB b p c k) (p*64+j)=bt b (p*64+j))/\bt (gB b p c k) (p*64)=171/\bt (gB b p c k) (p*64+1)=c/\bt (gB b p c k) (p*64+2)=cH c
 |0,hk,j=>by
  have key:∀i,bt (gB b p c 0) i=if i=p*64+2 then cH c else if i=p*64+1 then c else if i=p*64 then 171 else bt b i:=λi=>by grind[gB,N5]
  grind
 |k + 1,hk,j=>by
  have ih:=a1H hl hp hc k aa;have hoff:=aJC (c:=c) hp (by omega:(k:Int)<cH c);have hbl:=K9 b p c k;unfold gB;refine⟨λh=>?_,λh1 h2=>?_,?_,?_,?_⟩
  ·rw[IF aa,gR,gR];grind
  ·rw[IF aa,gR,gR];grind
  ·rw[IF aa,gR,gR];exact(ih j).2.2.1
  ·rw[IF aa,gR,gR];exact(ih j).2.2.2.1
  ·rw[IF aa,gR,gR];exact(ih j).2.2.2.2
theorem a8Y{b:List Int}{p:Nat}{c:Int}(hl:b.length=384)(hp:p<6):∀k:Nat,(k:Int)<=cH c->∀i,i<k->ld (gB b p c k) (p*64+8+i*(bD c).toNat) 4=1
 |0,_,i,h=>absurd h aa
 |k + 1,hk,i,h=>by
  have hbl:=K9 b p c k;have ho:=aJC (c:=c) hp (by omega:(k:Int)<cH c);unfold gB;by_cases e:i=k
  ·grind[aYO]
  ·have hoi:=aJC (c:=c) hp (by omega:(i:Int)<cH c);have ha:=UW (c:=c) (i:=i) (j:=k) aa aa e;rw[JK (b:=gB b p c k) aa (by rw[GW]) λj j1 j2=>by rw[IF aa,gR,gR]];exact a8Y hl hp k aa i aa
theorem YS{h:Heap}(hs:iA h){B:List Int}{q:Nat}(hq:q<6):cX ⟨B,h.Class.set p c⟩ q=if q=p then c else cX h q:=by have h6:=hs.2.1;grind[cX]
theorem HOk.a8Z{h:Heap}(hh:HOk h)(hp:p<6)(hun:cX h p<0)(hc:0<=c/\c<=2) :
  HOk ⟨gB h.Bytes p c (cH c).toNat,h.Class.set p c⟩/\(∀t,(t/4).toNat≠p->bK ⟨gB h.Bytes p c (cH c).toNat,h.Class.set p c⟩ t=bK h t)/\(∀t,0<=bK h t->(t/4).toNat≠p/\kP ⟨gB h.Bytes p c (cH c).toNat,h.Class.set p c⟩ t=kP h t) /\
   ∀i,i<(cH c).toNat->bK ⟨gB h.Bytes p c (cH c).toNat,h.Class.set p c⟩ ((p:Int)*4+i)=c/\kP ⟨gB h.Bytes p c (cH c).toNat,h.Class.set p c⟩ ((p:Int)*4+i)=1:=by
 obtain⟨hs,hpg⟩:=hh;have h384:=hs.1;have hle:=pQ c;have hpn:((cH c).toNat:Int)<=cH c:=aa
 have hb:=a1H h384 hp hc (cH c).toNat hpn;have hbl:=K9 h.Bytes p c (cH c).toNat;have hs':iA ⟨gB h.Bytes p c (cH c).toNat,h.Class.set p c⟩:=⟨by simp only[hbl];exact h384,by simp only[cW];exact hs.2.1,aSO hs.2.2.1 p hc _,λx hx=>by
  rcases qW hx with q|rfl
  ·exact hs.2.2.2 x q
  ·omega⟩
 have hcls:∀t:Int,(t/4).toNat≠p->bK ⟨gB h.Bytes p c (cH c).toNat,h.Class.set p c⟩ t=bK h t:=λt ht=>by
  unfold bK;by_cases q:0<=t/\t<=23
  ·rw[YS hs aa,aP ht]
  ·rw[aP (λz=>q z.1),aP (λz=>q z.1)]
 refine⟨⟨hs',λq hq=>?_⟩,hcls,λt ht=>?_,λi hi=>?_⟩
 ·rw[GX hs' hq];have hold:=(GX hs hq).1 (hpg q hq);by_cases e:q=p
  ·subst e;unfold aBV at hold ⊢;rw[aN hun] at hold;rw[YS hs hq,aN rfl,gR];refine⟨(hb 0).2.2,λk k3 k8=>?_,λi hi=>?_⟩
   ·simp only;rw[(hb k).2.1 k3 k8];exact hold k aa
   ·simp only;rw[a8Y h384 hp _ hpn i hi];omega
  ·refine aBV.same hq hs (by simp only[hbl]) (by rw[YS hs hq,aP e]) (λk hk=>?_) hold;exact(hb _).1 aa
 ·obtain⟨p',i',p6',hi',es',ec',eo',ep'⟩:=pT ht;have hne:(t/4).toNat≠p:=λz=>by rw[ec',<-ep',z] at ht;omega
  refine⟨hne,?_⟩;have hz':=zJ hs p6' rfl hi';unfold kP;rw[hcls t hne,JK (b:=h.Bytes) aa (by simp only[hbl]) λk k1 k2=>(hb k).1 aa]
 ·have e1:((p:Int)*4+i)/4=p:=aa
  have e2:((p:Int)*4+i) % 4=i:=aa
  have ec:bK ⟨gB h.Bytes p c (cH c).toNat,h.Class.set p c⟩ ((p:Int)*4+i)=c:=by unfold bK;rw[e1,e2,JM,YS hs hp,aN rfl,aN aa]
  refine⟨ec,?_⟩;unfold kP;rw[ec];have ho:=aJC (c:=c) hp (by omega:(i:Int)<cH c);have:(iZ ((p:Int)*4+i) c).toNat=p*64+8+i*(bD c).toNat:=ho.1;rw[this];exact a8Y h384 hp _ hpn i hi
def vG(m m':Mem)(k:Int):Prop:=lU m'/\∀s,eK m s=3->s≠k->eK m' s=3/\kP m'.Heap s=kP m.Heap s/\bK m'.Heap s=bK m.Heap s
theorem vG.refl(h:lU m)(k:Int):vG m m k:=⟨h,λ_ h _=>⟨h,rfl,rfl⟩⟩
theorem vG.live{m':Mem}{k h:Int}(q:vG m m' k)(hl:mN m h)(hn:h % 32≠k):mN m' h:=by obtain⟨h1,h2,h3⟩:=hl;obtain⟨a,b,_⟩:=q.2 _ h2 hn;exact⟨h1,a,aa⟩
theorem P2{l:List bB}{j:Nat}(hk:k<l.length){t:bB}:fM (l.set k t) j=if j=k then t.aV else fM l j:=by grind[fM]
theorem aQB{l:List bB}(hk:k<l.length){t:bB}(ht:t.aV.Sublist l[k].aV):(fE (l.set k t)).Sublist (fE l):=by grind[IE,D1]
theorem GY{l:List bB}(hk:k<l.length):s∈fE (l.set k ⟨l[k].aV++xs⟩)↔s∈fE l\/s∈xs:=by grind[IE,D1]
theorem YT{l:List bB}(hk:k<l.length){r q:List Int}(h:(q++(fE l++r)).Nodup)(hx:xs.Nodup)(hd:∀x∈xs,x∉q++(fE l++r)):(q++(fE (l.set k ⟨l[k].aV++xs⟩)++r)).Nodup:=by
 have hp:(q++(fE (l.set k ⟨l[k].aV++xs⟩)++r)).Perm (xs++(q++(fE l++r))):=by rw[IE hk,D1 hk];grind
 grind
theorem aD3{m':Mem}(h1:bK m'.Heap s=bK m.Heap s)(h2:kP m'.Heap s=kP m.Heap s)(h3:s∈iC m'.aD↔s∈iC m.aD):eK m' s=eK m s:=by simp_all[eK]
theorem iL:eK m s=3↔0<=bK m.Heap s/\s∉iC m.aD/\kP m.Heap s<=6:=by unfold eK;grind
section
variable {m:Mem} (hm:lU m)
include hm
theorem lU.bIS(hk:k<9){t:bB}(ht:t.aV.Sublist (fM m.aD.Own k)):vG m ⟨m.Heap,⟨m.aD.Global,m.aD.Own.set k t⟩⟩ (-1):=by
 obtain⟨⟨hh,h3,h9,h2,hr,hn⟩,hg,ho⟩:=hm;have hk':k<m.aD.Own.length:=aa
 have ht':t.aV.Sublist m.aD.Own[k].aV:=by grind[dY]
 have hsub:(iC ⟨m.aD.Global,m.aD.Own.set k t⟩).Sublist (iC m.aD):=(List.Sublist.refl _).append (aQB hk' ht');refine⟨⟨⟨hh,h3,aj,λs hs=>?_,λx hx=>hr x (hsub.subset hx),hsub.nodup hn⟩,hg,λj hj=>?_⟩,λs hs _=>⟨?_,rfl,rfl⟩⟩
 ·grind
 ·unfold Z2;simp only[P2 hk'];split
  ·rename_i e;subst e;exact λx hx=>ho j hj x (ht.subset hx)
  ·exact ho j hj
 grind[iL]
theorem lU.a3U(hk:k<3){t:bB}(ht:t.aV.Sublist (fM m.aD.Global k)):vG m ⟨m.Heap,⟨m.aD.Global.set k t,m.aD.Own⟩⟩ (-1):=by
 obtain⟨⟨hh,h3,h9,h2,hr,hn⟩,hg,ho⟩:=hm;have hk':k<m.aD.Global.length:=aa
 have ht':t.aV.Sublist m.aD.Global[k].aV:=by grind[dY]
 have hsub:(iC ⟨m.aD.Global.set k t,m.aD.Own⟩).Sublist (iC m.aD):=(aQB hk' ht').append (List.Sublist.refl _);refine⟨⟨⟨hh,aj,h9,h2,λx hx=>hr x (hsub.subset hx),hsub.nodup hn⟩,λj hj=>?_,ho⟩,λs hs _=>⟨?_,rfl,rfl⟩⟩
 ·unfold aDX;simp only[P2 hk'];split
  ·rename_i e;subst e;exact λx hx=>hg j hj x (ht.subset hx)
  ·exact hg j hj
 grind[iL]
theorem lU.bDR(hk:k<9)(hl:(fM m.aD.Own k).length+xs.length<=2)(hx:xs.Nodup)(hf:SW m.Heap xs ((k % 3:Nat):Int))(hd:∀x∈xs,x∉iC m.aD)(hk':k<m.aD.Own.length) :
  lU ⟨m.Heap,⟨m.aD.Global,m.aD.Own.set k ⟨m.aD.Own[k].aV++xs⟩⟩⟩/\∀s,s∉xs->eK m s=3->eK ⟨m.Heap,⟨m.aD.Global,m.aD.Own.set k ⟨m.aD.Own[k].aV++xs⟩⟩⟩ s=3:=by
 obtain⟨⟨hh,h3,h9,h2,hr,hn⟩,hg,ho⟩:=hm;have hmem:∀s,s∈iC ⟨m.aD.Global,m.aD.Own.set k ⟨m.aD.Own[k].aV++xs⟩⟩↔s∈iC m.aD\/s∈xs:=λs=>by simp[iC,GY,or_assoc]
 have hcl:∀x∈xs,0<=x/\x<=23:=λx h=>by have:=(hf x h).1;exact(qU (h:=m.Heap) (s:=x) aa).1
 refine⟨⟨⟨hh,h3,aj,λs hs=>?_,λx hx=>?_,?_⟩,hg,λj hj=>?_⟩,λs hs h3=>?_⟩
 ·grind[dY]
 ·grind
 ·have:=YT (q:=fE m.aD.Global) (r:=[]) hk' (by grind[iC]) hx (by grind[iC]);grind[iC]
 ·unfold Z2;simp only[P2 hk'];split
  ·rename_i e;subst e;intro x hx;rcases dE.1 hx with q|q
   ·rw[dY hk'] at q;exact ho j hj x q
   ·exact hf x q
  ·exact ho j hj
 grind[iL]
theorem lU.aMI(hk:k<3)(hx:xs.Nodup)(hf:SW m.Heap xs (k:Int))(hd:∀x∈xs,x∉iC m.aD)(hk':k<m.aD.Global.length) :
  lU ⟨m.Heap,⟨m.aD.Global.set k ⟨m.aD.Global[k].aV++xs⟩,m.aD.Own⟩⟩/\∀s,s∉xs->eK m s=3->eK ⟨m.Heap,⟨m.aD.Global.set k ⟨m.aD.Global[k].aV++xs⟩,m.aD.Own⟩⟩ s=3:=by
 obtain⟨⟨hh,h3,h9,h2,hr,hn⟩,hg,ho⟩:=hm;have hmem:∀s,s∈iC ⟨m.aD.Global.set k ⟨m.aD.Global[k].aV++xs⟩,m.aD.Own⟩↔s∈iC m.aD\/s∈xs:=λs=>by simp[iC,GY,or_right_comm]
 have hcl:∀x∈xs,0<=x/\x<=23:=λx h=>by have:=(hf x h).1;exact(qU (h:=m.Heap) (s:=x) aa).1
 refine⟨⟨⟨hh,aj,h9,h2,λx hx=>?_,?_⟩,λj hj=>?_,ho⟩,λs hs h3=>?_⟩
 ·grind
 ·have:=YT (q:=[]) (r:=fE m.aD.Own) hk' (by grind[iC]) hx (by grind[iC]);grind[iC]
 ·unfold aDX;simp only[P2 hk'];split
  ·rename_i e;subst e;intro x hx;rcases dE.1 hx with q|q
   ·rw[dY hk'] at q;exact hg j hj x q
   ·exact hf x q
  ·exact hg j hj
 grind[iL]
theorem lU.oC(hx:x∈iC m.aD):0<=bK m.Heap x/\kP m.Heap x<=6:=by
 obtain⟨⟨hh,h3,h9,h2,hr,hn⟩,hg,ho⟩:=hm;have key:∀(l:List bB),x∈fE l->∃k,k<l.length/\x∈fM l k:=λl h=>by grind[ZI,aGE,dY]
 rcases dE.1 hx with q|q
 ·obtain⟨k,hk,h⟩:=key _ q;have:=hg k aa x h;omega
 ·obtain⟨k,hk,h⟩:=key _ q;have:=ho k aa x h;omega
theorem lU.heap{h':Heap}(hh:HOk h')(hs:∀x∈iC m.aD,bK h' x=bK m.Heap x/\kP h' x=kP m.Heap x):lU ⟨h',m.aD⟩:=by
 obtain⟨⟨_,hl⟩,hg,ho⟩:=hm;have key:∀(l:List bB) k x,x∈fM l k->x∈fE l:=λl k x h=>by grind[fM,ZI]
 refine⟨⟨hh,hl⟩,λk hk x hx=>?_,λk hk x hx=>?_⟩
 ·obtain⟨a,b⟩:=hs x (U7 _ (key _ k x hx));show bK h' x=_/\kP h' x<=6;rw[a,b];exact hg k hk x hx
 ·obtain⟨a,b⟩:=hs x (aB8 _ (key _ k x hx));show bK h' x=_/\kP h' x<=6;rw[a,b];exact ho k hk x hx
theorem lU.bNS{g:Int}(hu:eK m s=3)(hg:1<=g/\g<=7):vG m ⟨⟨st4 m.Heap.Bytes (iZ s (bK m.Heap s)).toNat g,m.Heap.Class⟩,m.aD⟩ s/\kP ⟨st4 m.Heap.Bytes (iZ s (bK m.Heap s)).toNat g,m.Heap.Class⟩ s=g:=by
 have hu':=iL.1 hu;obtain⟨a,b⟩:=HOk.a8X hm.1.1 hu'.1 hg;refine⟨⟨lU.heap hm a λx hx=>⟨rfl,?_⟩,λt ht hn=>?_⟩,aj⟩
 ·rw[b x (lU.oC hm hx).1,aP (show ¬x=s from λe=>hu'.2.1 (e ▸ hx))]
 ·have ht':=iL.1 ht;have e:kP ⟨st4 m.Heap.Bytes (iZ s (bK m.Heap s)).toNat g,m.Heap.Class⟩ t=kP m.Heap t:=aj
  exact⟨iL.2 ⟨ht'.1,ht'.2.1,aj⟩,e,rfl⟩
theorem lU.bLG(hp:p<6)(hun:cX m.Heap p<0)(hc:0<=c/\c<=2)(hxs:∀x∈xs,∃i,i<(cH c).toNat/\x=(p:Int)*4+(i:Nat))(hx:xs.Nodup)(hk':c.toNat<m.aD.Global.length) :
  vG m ⟨⟨gB m.Heap.Bytes p c (cH c).toNat,m.Heap.Class.set p c⟩,⟨m.aD.Global.set c.toNat ⟨m.aD.Global[c.toNat].aV++xs⟩,m.aD.Own⟩⟩ (-1):=by
 obtain⟨a,b,d,e⟩:=HOk.a8Z hm.1.1 hp hun hc;have h1:lU ⟨⟨gB m.Heap.Bytes p c (cH c).toNat,m.Heap.Class.set p c⟩,m.aD⟩:=lU.heap hm a λx hx=>by grind[lU.oC]
 have hno:∀x∈xs,¬0<=bK m.Heap x:=λx h q=>by obtain⟨i,hi,rfl⟩:=hxs x h;have h4:=pQ c;exact(d _ q).1 aa
 obtain⟨f,g⟩:=lU.aMI h1 (k:=c.toNat) aa hx (λx h=>by
  obtain⟨i,hi,rfl⟩:=hxs x h
  (simp_all;omega)) (λx h q=>hno x h (lU.oC hm q).1) hk'
 refine⟨f,λs hs _=>?_⟩;grind[iL]
end
theorem a80{n:Nat}(h:x∈gS p n):∃i,i<n/\x=(p:Int)*4+(i:Nat):=by grind[gS]
theorem aVH(p n:Nat):(gS p n).Nodup:=by grind[gS,List.nodup_range]
theorem aVI(hm:lU m)(hc:0<=c/\c<=2) :
  ∃m' s,GI m c=some (m',s)/\L5 m c=some (m',s)/\DI m'/\(0<=s->iA m'.Heap/\0<=bK m'.Heap s)/\vG m m' (-1):=by
 have hl:=hm.1.2;have hcnt:=hl.count;have hs:=hm.1.1.1;have hsl:=hl.aVB aa;have hp4:=pQ c;have hpp:0<cH c:=jW.2 hc;have hall:=vC m.aD;have hsG:∀s∈m.aD.Global,s.aV.length<=24:=λs h=>by have:=KE h;omega
 have hsO:∀s∈m.aD.Own,s.aV.length<=24:=λs h=>by have:=KE h;omega
 have h3:=hl.1;have h9:=hl.2.1;have hcpl:=RF (l:=m.aD) aa aa (λs h=>aj) (λs h=>aj);unfold GI L5;rcases a8W hm.1.1 hc with ⟨e1,e2⟩|⟨p,hp,hun,e1,e2⟩
 ·rw[e1,e2,hcpl];have h1:=hs.1;have h2:=hs.2.1;exact⟨_,_,rfl,rfl,⟨aj,aj,aj,aj,aj⟩,λh=>absurd h aa,vG.refl hm _⟩
 ·rw[e1,e2,hcpl];simp only[aL,KQ,KP,K2,aFV];have hn:(((cH c).toNat:Int) == 0)=false:=aj
  have hk:c.toNat<m.aD.Global.length:=aa
  have hg0:=hsG _ (dB hk);have hx:idx m.aD.Global c=some m.aD.Global[c.toNat]:=hU hc.1 aa;have hz:idx (gS p (cH c).toNat) 0=some ((p:Int)*4):=by grind[aW,gS]
  have hlen:(List.drop (1:Int).toNat (List.take (cH c).toNat (gS p (cH c).toNat))).length<=4:=aj
  simp only[hn,bV,bR,hx,aL,hz];rw[TA,TA];have hcl:cX ⟨gB m.Heap.Bytes p c (cH c).toNat,m.Heap.Class.set p c⟩ p=c:=by grind[cX]
  refine⟨_,_,rfl,rfl,⟨by simp only[K9];have:=hs.1;omega,by simp only[cW];have:=hs.2.1;omega,aj,aj,?_⟩,λ_=>⟨⟨by simp only[K9];exact hs.1,by simp only[cW];exact hs.2.1,aSO hs.2.2.1 p hc _,λx hx=>?_⟩,?_⟩,?_⟩
  ·grind[vC,aBU]
  ·rcases qW hx with h|rfl
   ·exact hs.2.2.2 x h
   ·omega
  ·unfold bK
   (simp_all;omega)
  grind[lU.bLG,a80,aVH]
theorem aYP(n:Int):∃c,GG n=some c/\LZ n=some c/\(c = -1\/(0<=c/\c<=2)):=by
 have s1:∀k,0<=k/\k<=2->fZ n k=some (if 1<=n/\n<=jC k then .stop (Out.ret k) else .next (k+1)):=λk hk=>by simp only[fZ];rw[eG,YI,aL,fW,aL,dU];grind
 have s2:∀k,0<=k/\k<=2->kJ n k=some (if 1<=n/\n<=jC k then .stop (Out.ret k) else .next (k+1)):=λk hk=>by simp only[kJ,B4];rw[eG,YJ,aL,dU];grind
 have st:∀k,0<=k/\k<=2->1<=n/\n<=jC k->loop (fZ n) k=some (Out.ret k)/\loop (kJ n) k=some (Out.ret k):=λk hk h=>
  ⟨aZ aj,aZ aj⟩
 have nx:∀k,0<=k/\k<=2->¬(1<=n/\n<=jC k)->loop (fZ n) k=loop (fZ n) (k+1)/\loop (kJ n) k=loop (kJ n) (k+1):=λk hk h=>
  ⟨bS aj,bS aj⟩
 unfold GG LZ;by_cases q0:1<=n/\n<=jC 0
 ·have:=st 0 aa q0;rw[this.1,this.2];exact⟨_,rfl,rfl,.inr aa⟩
 ·have h0:=nx 0 aa q0;rw[h0.1,h0.2,show(0:Int)+1=1 from rfl];by_cases q1:1<=n/\n<=jC 1
  ·have:=st 1 aa q1;rw[this.1,this.2];exact⟨_,rfl,rfl,.inr aa⟩
  ·have h1:=nx 1 aa q1;rw[h1.1,h1.2,show(1:Int)+1=2 from rfl];by_cases q2:1<=n/\n<=jC 2
   ·have:=st 2 aa q2;rw[this.1,this.2];exact⟨_,rfl,rfl,.inr aa⟩
   ·have h2:=nx 2 aa q2;rw[h2.1,h2.2,show(2:Int)+1=3 from rfl,aZ (body:=fZ n) (r:=Out.brk ()) (by simp[fZ]),aZ (body:=kJ n) (r:=Out.brk ()) (by simp[kJ])];exact⟨_,rfl,rfl,.inl rfl⟩
theorem a81{s:bB}(hl:s.aV.length<=1048576):∃t x,tP s=some (t,x)/\xM s=some (x,t)/\t.aV.length<=s.aV.length/\(0<=x->x∈s.aV)/\t.aV.Sublist s.aV:=by
 unfold tP xM QU;rw[dU];by_cases q:s.aV.length=0
 ·rw[aN aj,eG];grind
 ·have hx:idx s.aV ((s.aV.length:Int)-1)=some (s.aV[s.aV.length-1]' aa):=by grind[aW]
  rw[aP aj,aIH,TA,hx];simp only[aL];grind[b7]
theorem SZ(hw:0<=w/\w<=2)(hc:0<=c/\c<=2):T7 w c=some (w*3+c)/\M9 w c=some (w*3+c):=by grind[cQ,T7,QT,fW,M9,I3,m0,kL]
theorem aMJ{l:List bB}(hk:k<l.length){t:bB}(ht:t.aV.length<=l[k].aV.length):(fE (l.set k t)).length<=(fE l).length:=by grind[IE,D1]
section
variable {m:Mem} (hm:lU m)
include hm
theorem lU.facts:(iC m.aD).length<=24/\m.aD.Global.length=3/\m.aD.Own.length=9/\m.Heap.Bytes.length=384/\m.Heap.Class.length=6/\DI m/\i7 m.aD=some m.aD/\o9 m.aD=some true /\
  (∀s∈m.aD.Global,s.aV.length<=24)/\(∀s∈m.aD.Own,s.aV.length<=24):=by
 have hl:=hm.1.2;have hcnt:=hl.count;have hall:=vC m.aD;have hsG:∀s∈m.aD.Global,s.aV.length<=24:=λs h=>by have:=KE h;omega
 have hsO:∀s∈m.aD.Own,s.aV.length<=24:=λs h=>by have:=KE h;omega
 have h3:=hl.1;have h9:=hl.2.1;have h1:=hm.1.1.1.1;have h2:=hm.1.1.1.2.1;refine⟨hcnt,h3,h9,h1,h2,⟨aa,aa,aa,aa,aa⟩,RF aa aa (λs h=>aj) (λs h=>aj),by grind[V6],hsG,hsO⟩
theorem aMK(hw:0<=w/\w<=2)(hc:0<=c/\c<=2) :
  ∃l t x,idx m.aD.Own (w*3+c)=some l/\tP l=some (t,x)/\L4 m.aD w c=some (⟨m.aD.Global,m.aD.Own.set (w*3+c).toNat t⟩,x) /\
   DI ⟨m.Heap,⟨m.aD.Global,m.aD.Own.set (w*3+c).toNat t⟩⟩/\(0<=x->0<=bK m.Heap x)/\vG m ⟨m.Heap,⟨m.aD.Global,m.aD.Own.set (w*3+c).toNat t⟩⟩ (-1):=by
 obtain⟨hcnt,h3,h9,h1,h2,hsm,hcp,hlo,hsG,hsO⟩:=lU.facts hm;have hk:(w*3+c).toNat<m.aD.Own.length:=aa
 have hx:idx m.aD.Own (w*3+c)=some m.aD.Own[(w*3+c).toNat]:=hU aa aa;have h24:=hsO _ (dB hk);obtain⟨t,x,e1,e2,ht,hmem,hsub⟩:=a81 (s:=m.aD.Own[(w*3+c).toNat]) aa;have hall:=vC m.aD;refine⟨_,t,x,hx,e1,?_,⟨aj,aj,aj,aj,?_⟩,λh0=>?_,lU.bIS hm aa (by grind[dY])⟩
 ·unfold L4 B5;rw[hcp,(SZ hw hc).2,hlo];grind
 ·grind[aMJ,vC]
 ·have:=hm.2.2 (w*3+c).toNat aa x (by grind[dY]);omega
theorem aAX(hc:0<=c/\c<=2) :
  ∃l t x,idx m.aD.Global c=some l/\tP l=some (t,x)/\B6 m.aD c=some (⟨m.aD.Global.set c.toNat t,m.aD.Own⟩,x) /\
   DI ⟨m.Heap,⟨m.aD.Global.set c.toNat t,m.aD.Own⟩⟩/\(0<=x->0<=bK m.Heap x)/\vG m ⟨m.Heap,⟨m.aD.Global.set c.toNat t,m.aD.Own⟩⟩ (-1):=by
 obtain⟨hcnt,h3,h9,h1,h2,hsm,hcp,hlo,hsG,hsO⟩:=lU.facts hm;have hk:c.toNat<m.aD.Global.length:=aa
 have hx:idx m.aD.Global c=some m.aD.Global[c.toNat]:=hU aa aa;have h24:=hsG _ (dB hk);obtain⟨t,x,e1,e2,ht,hmem,hsub⟩:=a81 (s:=m.aD.Global[c.toNat]) aa;have hall:=vC m.aD;refine⟨_,t,x,hx,e1,?_,⟨aj,aj,aj,aj,?_⟩,λh0=>?_,lU.a3U hm aa (by grind[dY])⟩
 ·simp_all[B6,tD,kL]
 ·grind[aMJ,vC]
 ·have:=hm.2.1 c.toNat aa x (by grind[dY]);omega
theorem aJD{h:Int}(hw:0<=w/\w<=2)(hv:mN m h):∃m',J6 m w (h % 32)=some m'/\NF m w h=some m'/\DI m'/\vG m m' (h % 32):=by
 obtain⟨hcnt,h3,h9,h1,h2,hsm,hcp,hlo,hsG,hsO⟩:=lU.facts hm;have hs:=hm.1.1.1;have hh:=hv.1;have hhm:=hh.mod;have hcl:=dN hv.2.1;have hgo:=ZG hcl;have hc2:0<=bK m.Heap (h % 32)/\bK m.Heap (h % 32)<=2:=by obtain⟨_,q,e⟩:=qU hcl;rw[e];exact jW.1 aa
 have hg6:1<=h/32/\h/32<=6:=by grind[lK]
 have hbl:m.Heap.Bytes.length<=maxLen:=by grind[maxLen]
 have hnot:h % 32∉iC m.aD:=λq=>by have:=hv.2.1;simp_all[eK,aP]
 have hcpH:=UT (h:=m.Heap) aa aa;have eo:iZ (h % 32) (bK m.Heap (h % 32))=(((iZ (h % 32) (bK m.Heap (h % 32))).toNat:Nat):Int):=aa
 have ew:bE (h/32+1)=h/32+1:=dU;have ed:bE (Int.tdiv h 32)=h/32:=by grind[cQ]
 have hall:=vC m.aD;obtain⟨hr1,hr2⟩:=lU.bNS hm hv.2.1 (g:=h/32+1) aa;have hu:=iL.1 hv.2.1;unfold J6 NF XH FD;rw[hhm.1,CU hs,hcpH,N2 hbl,cN hs,kM hs,ed,ew,hcp];simp only[aL,kW,bV,bR,ND,FP,NC];rw[vU hs hcl,hv.2.2,cV,gJ (show ¬bK m.Heap (h % 32)<0 by omega),cN (show 1<=h/32+1/\h/32+1<=7 by omega)];simp only[aL,kW,bV,bR,BK,BL,ew];generalize hgn:(iZ (h % 32) (bK m.Heap (h % 32))).toNat=a at eo;rw[hgn] at hr1 hr2;rw[eo,K8 aa aa aa,aAW aa];simp only[aL];rw[YR aa aa aa];simp only[aL,NR,QJ,ed,ew,hhm.1];by_cases q:h/32+1<=6
 ·have hk:(w*3+bK m.Heap (h % 32)).toNat<m.aD.Own.length:=aa
  have hx:idx m.aD.Own (w*3+bK m.Heap (h % 32))=some m.aD.Own[(w*3+bK m.Heap (h % 32)).toNat]:=hU aa aa;have hk2:(bK m.Heap (h % 32)).toNat<m.aD.Global.length:=aa
  have hx2:idx m.aD.Global (bK m.Heap (h % 32))=some m.aD.Global[(bK m.Heap (h % 32)).toNat]:=hU aa aa;have b1:=hsO _ (dB hk);have b2:=hsG _ (dB hk2);rw[cN q,aN rfl,aN rfl];unfold XW aE9 y5;rw[kM hs,aL,hcp,(SZ hw hc2).1,(SZ hw hc2).2,hlo,yI,cN (show 0<=h % 32/\h % 32<=23 by omega),YQ aa aa aa,gJ hnot];simp only[aL,kW,bV,bR,hx,hx2];have nz:¬w*3+bK m.Heap (h % 32)<0:=aa
  simp only[gJ nz,bV,bR];by_cases q2:m.aD.Own[(w*3+bK m.Heap (h % 32)).toNat].aV.length<2
  ·have y1:(m.aD.Own[(w*3+bK m.Heap (h % 32)).toNat].aV.length:Int)<2:=aa
   have y2:¬(2:Int)<=m.aD.Own[(w*3+bK m.Heap (h % 32)).toNat].aV.length:=aa
   simp only[cN y1,gJ y2,bV,bR,bW];rw[OE,OE];refine⟨_,rfl,rfl,⟨by grind[GW],aj,aj,aj,?_⟩,?_⟩
   ·grind[vC,aBU]
   ·have hmod:((w*3+bK m.Heap (h % 32)).toNat % 3:Nat)=(bK m.Heap (h % 32)).toNat:=aa
    obtain⟨z1,z2⟩:=lU.bDR hr1.1 (k:=(w*3+bK m.Heap (h % 32)).toNat) aa (xs:=[h % 32]) (by grind[dY]) ae (λx hx=>by
     simp at hx;subst hx;exact⟨by rw[hmod];show bK m.Heap (h % 32)=_;omega,aj⟩) (λx hx=>aj) hk
    refine⟨z1,λs h1 h2=>?_⟩;obtain⟨y1,y2,y3⟩:=hr1.2 s h1 h2;grind
  ·have y1:¬(m.aD.Own[(w*3+bK m.Heap (h % 32)).toNat].aV.length:Int)<2:=aa
   have y2:(2:Int)<=m.aD.Own[(w*3+bK m.Heap (h % 32)).toNat].aV.length:=aa
   simp only[cN y2,gJ y1,bV,bR,bW];rw[OE,OE];refine⟨_,rfl,rfl,⟨by grind[GW],aj,aj,aj,?_⟩,?_⟩
   ·grind[vC,aBU]
   ·obtain⟨z1,z2⟩:=lU.aMI hr1.1 (k:=(bK m.Heap (h % 32)).toNat) aa (xs:=[h % 32]) ae (λx hx=>by
     simp at hx;subst hx;exact⟨by show bK m.Heap (h % 32)=_;omega,aj⟩) (λx hx=>aj) hk2
    refine⟨z1,λs h1 h2=>?_⟩;obtain⟨y1,y2,y3⟩:=hr1.2 s h1 h2;grind
 ·rw[gJ q,gI,gI];refine⟨_,rfl,rfl,⟨by grind[GW],aj,aj,aj,by(simp_all;omega)⟩,hr1⟩
end
theorem alloc_eq{b:aA}(hm:lU b.Mem)(hw:0<=w/\w<=2)(s:Sub) :
  ∃x y,BD b w s=some (x,y)/\tE s b w=some (y,x)/\∃m',x=⟨m',b.aC,b.aQ,b.qJ⟩/\DI m'/\vG b.Mem m' (-1):=by
 have hsm:=(lU.facts hm).2.2.2.2.2.1;have hs:=hm.1.1.1;obtain⟨c,ec,ei,hcc⟩:=aYP s.A;unfold BD tE;rw[ec,ei];simp only[aL];by_cases c0:c<0
 ·simp only[cN c0,bW,bO,bJ];exact⟨_,_,rfl,rfl,_,rfl,hsm,vG.refl hm _⟩
 have hc:0<=c/\c<=2:=aa
 simp only[gJ c0,bV,bR];have fin:∀(m':Mem) (x:Int),DI m'->vG b.Mem m' (-1)->(0<=x->iA m'.Heap/\0<=bK m'.Heap x) ->
   ∃X Y,jU s x ⟨m',b.aC,b.aQ,b.qJ⟩=some (X,Y)/\i6 s x ⟨m',b.aC,b.aQ,b.qJ⟩=some (Y,X)/\∃m',X=⟨m',b.aC,b.aQ,b.qJ⟩/\DI m'/\vG b.Mem m' (-1):=by
  intro m' x hs' hst hx;unfold jU i6;simp only[zG,UB,bO,bJ];by_cases x0:0<=x
  ·obtain⟨h,e1,e2⟩:=a3T (m:=m') (hx x0).1 (hx x0).2;rw[gJ (show ¬x<0 by omega),cN x0];simp only[bV,bR,bW,e1,e2,aL];grind
  ·rw[cN (show x<0 by omega),gJ x0];by_cases p3:s.Pc=3
   ·simp only[p3,beq_self_eq_true,bW,bV,bR,aL];grind
   ·have p3':(s.Pc == 3)=false:=aj
    simp only[p3',bW,bV,bR,aL];grind
 by_cases p0:s.Pc=0
 ·obtain⟨l,t,x,e1,e2,e3,h1,h2,h3⟩:=aMK hm hw hc;simp_all[SZ]
 ·have p0':(s.Pc == 0)=false:=aj
  simp only[p0',bV,bR,zH,nQ];obtain⟨l,t,x,e1,e2,e3,h1,h2,h3⟩:=aAX hm hc;by_cases p1:s.Pc=1
  ·simp_all
  ·have p1':(s.Pc == 1)=false:=aj
   simp only[p1',bV,bR];by_cases p3:s.Pc=3
   ·simp_all
   ·have p3':(s.Pc == 3)=false:=aj
    simp only[p3',bV,bR];by_cases p2:s.Pc=2
    ·obtain⟨m',x,e1,e2,h1,h2,h3⟩:=aVI hm hc;simp_all
    ·have p2':(s.Pc == 2)=false:=aj
     simp only[p2',bV,bR,bO,bJ];exact⟨_,_,rfl,rfl,_,rfl,hsm,vG.refl hm _⟩
theorem a1I(r:eN)(e:Int):∃v,MV r e=some v/\SD r e=some v:=by
 unfold MV SD MH L6;by_cases h:2<=e
 ·simp only[cN h,bW];exact⟨_,rfl,rfl⟩
 ·simp only[gJ h,bV,bR];exact⟨_,rfl,rfl⟩
theorem bDS{b:aA}{l:bT}(hx:idx b.aQ w=some l)(hl:l.Rows.length<=1000)(s:Sub) :
  (zI l.Rows s.Row s.E=some (-1)/\pD s b w=(bJ s 0).bind λx=>some (x,b)) \/
  ∃k,∃h:k<l.Rows.length,zI l.Rows s.Row s.E=some (k:Int)/\pD s b w=some (⟨s.Kind,s.A,2,s.E,(k:Int),0,l.Rows[k].Handle,s.Out,s.Code,s.gU⟩,b):=by
 have key:∀d k,k+d=l.Rows.length ->
   (loop (fI l.Rows s.E) (k:Int)=some (Out.brk ())/\loop (fK s b w) (k:Int)=some (Out.brk ())) \/
   ∃j,∃h:j<l.Rows.length,loop (fI l.Rows s.E) (k:Int)=some (Out.ret (j:Int))/\loop (fK s b w) (k:Int)=some (Out.ret (⟨s.Kind,s.A,2,s.E,(j:Int),0,l.Rows[j].Handle,s.Out,s.Code,s.gU⟩,b)):=by
  intro d;induction d with
  |zero=>
   simp_all[aZ,fI,fK]
  |succ d ih=>
   intro k hk;have hk':k<l.Rows.length:=aa
   obtain⟨v,e1,e2⟩:=a1I l.Rows[k] s.E;cases v with
   |true=>
    right;refine⟨k,hk',aZ ?_,aZ ?_⟩
    ·simp only[fI];rw[eG,aW hk',aL,e1];rfl
    ·simp only[fK,hx,aL];rw[eG,aW hk',aL,e2];rfl
   |false=>
    have n1:fI l.Rows s.E (k:Int)=some (.next ((k+1:Nat):Int)):=by simp only[fI];rw[eG,aW hk',aL,e1,aL,dU];rfl
    have n2:fK s b w (k:Int)=some (.next ((k+1:Nat):Int)):=by simp only[fK,hx,aL];rw[eG,aW hk',aL,e2,aL,dU];rfl
    rw[bS n1,bS n2];exact ih (k+1) aa
 unfold zI pD;have hst:∃i:Nat,(if 0<s.Row then s.Row else 0)=(i:Int)/\(if s.Row<0 then 0 else s.Row)=(i:Int):=by refine⟨s.Row.toNat,?_,?_⟩<;>split<;>omega
 obtain⟨i,i1,i2⟩:=hst;rw[i1,i2];by_cases hi:i<=l.Rows.length
 ·rcases key (l.Rows.length-i) i aa with ⟨a,c⟩|⟨j,hj,a,c⟩
  ·left;rw[a,c];exact⟨rfl,rfl⟩
  ·right;rw[a,c];exact⟨j,hj,rfl,rfl⟩
 ·left;rw[aZ (body:=fI l.Rows s.E) (r:=Out.brk ()) (by simp only[fI];grind),
   aZ (body:=fK s b w) (r:=Out.brk ()) (by simp only[fK,hx,aL];grind)]
  exact⟨rfl,rfl⟩
theorem del_eq{l:List O}(h:k<l.length):((cR l k (l.drop (k+1))).take (k+(l.length-(k+1)))).drop 0=l.eraseIdx k:=by grind[cR,aB9]
theorem aML{l:List O}(h:k<l.length):l.Perm (l[k]::l.eraseIdx k):=by grind[uE,aAC,List.eraseIdx_eq_take_drop_succ,List.perm_middle]
theorem zW.drop{b:List bT}(hL:zW b){w:Nat}(hw:w<b.length):∀k (hk:k<b[w].Rows.length),zW (b.set w ⟨b[w].Rows.eraseIdx k⟩)/\∀r∈dV (b.set w ⟨b[w].Rows.eraseIdx k⟩),r∈dV b/\r.Handle % 32≠b[w].Rows[k].Handle % 32:=by
 intro k hk;have hsub:(dV (b.set w ⟨b[w].Rows.eraseIdx k⟩)).Sublist (dV b):=by grind[MW,KF]
 have hnd:=hL.2.2.2;refine⟨⟨by simpa using hL.1,lW hsub.length_le hL.2.1,λr hr=>hL.2.2.1 r (hsub.subset hr),(hsub.map HM).nodup hnd⟩,λr hr=>⟨hsub.subset hr,?_⟩⟩;have hp:(dV b).Perm (b[w].Rows[k]::dV (b.set w ⟨b[w].Rows.eraseIdx k⟩)):=by rw[MW hw,KF hw];refine List.Perm.trans (List.Perm.append_left _ (List.Perm.append_right _ (aML hk))) ?_;simp
 grind[HM]
theorem aYQ{b:aA}(hb:mV b)(hw:0<=w/\w<=2)(s:Sub) :
  ∃x y,uZ b w s=some (x,y)/\pE s b w=some (y,x)/\∃m' L,x=⟨m',b.aC,L,b.qJ⟩/\DI m'/\lU m'/\zW L/\∀r∈dV L,mN m' r.Handle/\r.aK<=b.aC.aK:=by
 have hm:=hb.1.1;have hL:=hb.1.2.2.1;have hZ:=hb.1.2.2.2;have hsm:=(lU.facts hm).2.2.2.2.2.1;have hlen:w.toNat<b.aQ.length:=by have:=hL.1;omega
 have hx:idx b.aQ w=some b.aQ[w.toNat]:=hU hw.1 aa;have hrow:=hL.small.2.2.2 _ (dB hlen);have hmemL:b.aQ[w.toNat]∈b.aQ:=dB hlen;have hset:=zW.drop hL hlen;generalize b.aQ[w.toNat]=l at hx hrow hset hmemL;have done:∀y:Sub,∃x z,(some (b,y):Option (aA×Sub))=some (x,z)/\(some (y,b):Option (Sub×aA))=some (z,x)/\∃m' L,x=⟨m',b.aC,L,b.qJ⟩/\DI m'/\lU m'/\zW L/\∀r∈dV L,mN m' r.Handle/\r.aK<=b.aC.aK:=
  λy=>⟨_,_,rfl,rfl,b.Mem,b.aQ,rfl,hsm,hm,hL,hb.2⟩
 have hw1:bE ((l.Rows.length:Int)-1)=(l.Rows.length:Int)-1:=dU;have hhas:JY b.aQ w s.Row=some (decide (0<=s.Row/\s.Row<=(l.Rows.length:Int)-1)):=by simp_all[JY,FQ,m0,cV]
 unfold uZ pE;rw[hhas,hx];simp only[aL,bO,fW,hw1];have hat:∃a:Bool,(if decide (0<=s.Row/\s.Row<=(l.Rows.length:Int)-1)=true then(idx l.Rows s.Row).bind λx15=>gD s b w (x15.Handle == s.H) else gD s b w false)=gD s b w a /\
   (if(!decide (0<=s.Row/\s.Row<=(l.Rows.length:Int)-1))=true then fS b s true else(idx l.Rows s.Row).bind λx11=>fS b s (x11.Handle != s.H))=fS b s (!a) /\
   (a=true->∃r,r∈l.Rows/\idx l.Rows s.Row=some r/\r.Handle=s.H/\0<=s.Row/\s.Row<l.Rows.length) /\
   (a=false->∀f:eN->Option (aA×Sub),(if(!decide (0<=s.Row/\s.Row<=(l.Rows.length:Int)-1))=true then fT b w s l true else(idx l.Rows s.Row).bind λx=>if(x.Handle != s.H)=true then fT b w s l true else f x)=fT b w s l true):=by
  by_cases q:0<=s.Row/\s.Row<=(l.Rows.length:Int)-1
  ·have hr:idx l.Rows s.Row=some (l.Rows[s.Row.toNat]' aa):=hU q.1 aa;by_cases q2:(l.Rows[s.Row.toNat]' aa).Handle=s.H
   ·refine⟨true,?_,?_,λ_=>⟨_,dB _,hr,q2,q.1,aa⟩,λh=>by cases h⟩
    ·rw[cN q,aN rfl,hr,aL,q2,beq_self_eq_true]
    ·rw[cN q,gI,hr,aL,q2,bne_self_eq_false];rfl
   ·have n1:((l.Rows[s.Row.toNat]' aa).Handle == s.H)=false:=by simpa using q2
    have n2:((l.Rows[s.Row.toNat]' aa).Handle != s.H)=true:=by simpa using q2
    refine⟨false,?_,?_,(λh=>by cases h),λ_ f=>?_⟩
    ·rw[cN q,aN rfl,hr,aL,n1]
    ·rw[cN q,gI,hr,aL,n2];rfl
    ·rw[cN q,gI,hr,aL,n2,aN rfl]
  simp_all[gJ]
 obtain⟨a,ha1,ha2,ha3,ha4⟩:=hat;rw[ha1,ha2];unfold gD;by_cases p0:s.Pc=0
 ·simp_all
 have p0':(s.Pc == 0)=false:=aj
 simp only[p0',bV,bR];by_cases p1:s.Pc=1
 ·simp only[p1,beq_self_eq_true,bW];rcases bDS hx aa s with ⟨e1,e2⟩|⟨k,hk,e1,e2⟩
  ·simp_all[bJ]
  simp_all[aP,aW]
 have p1':(s.Pc == 1)=false:=aj
 simp only[p1',bV,bR];by_cases p2:s.Pc=2
 ·simp only[p2,beq_self_eq_true,bW,m0,aL];by_cases hB:0<=s.B/\s.B<=2
  ·rw[cN hB];simp only[kW,bV,bR,bW];cases a with
   |true=>
    have hz:idx b.qJ s.B=some (b.qJ[s.B.toNat]'(by have:=hZ.1;omega)):=hU hB.1 (by have:=hZ.1;omega);simp only[fS,eX,kW,bV,bR,bW,hz,aL,tT];by_cases q:(b.qJ[s.B.toNat]' aj)=s.H
    ·simp_all
    ·have q':((b.qJ[s.B.toNat]' aj) == s.H)=false:=aj
     simp only[q',bV,bR];by_cases q3:bE (s.B+1)=3
     ·simp_all
     simp_all
   |false=>
    simp_all[fS,eX,dO,bO,bJ]
  simp_all[gJ,fS,eX,dO,bO,bJ]
 have p2':(s.Pc == 2)=false:=aj
 simp only[p2',bV,bR,eX];by_cases p3:s.Pc=3
 ·simp only[p3,beq_self_eq_true,bW];cases a with
  |false=>
   rw[ha4 rfl];simp_all[fT,dO,bO,bJ]
  |true=>
   obtain⟨r,hrm,hr,hrH,r0,r1⟩:=ha3 rfl;obtain⟨v,e1,e2⟩:=a1I r s.E;rw[cN (show 0<=s.Row/\s.Row<=(l.Rows.length:Int)-1 by omega)];simp only[kW,bV,bR,bW,hr,aL,hrH,bne_self_eq_false,hx,e1,e2];cases v with
   |false=>
    simp_all[fT,dO,bO,bJ]
   |true=>
    have hlive:mN b.Mem s.H:=by have:r∈dV b.aQ:=aGD.2 ⟨l,hmemL,hrm⟩;have:=(hb.2 r this).1;grind
    obtain⟨m',f1,f2,f3,f4⟩:=aJD hm hw hlive;have ew:bE (s.Row+1)=s.Row+1:=dU;have hdrop:L7 b.aQ w s.Row=some (b.aQ.set w.toNat ⟨((cR l.Rows s.Row.toNat (l.Rows.drop (s.Row+1).toNat)).take (s.Row.toNat+(l.Rows.length-(s.Row+1).toNat))).drop 0⟩,true):=by
     unfold L7 B7;rw[RG hL.small.2.2.1 (λs h=>by have:=hL.small.2.2.2 s h;omega),CV hL.small.1,cN hL,hhas,cN (show 0<=s.Row/\s.Row<=(l.Rows.length:Int)-1 by omega)];simp only[aL,kW,bV,bR,hx,ew];unfold C5;rw[TA,aIH,TA,TA,TA,b7]
     ·rfl
     grind[eU]
    simp only[fT,dO,DF,ew,kW,bV,bR,bW];rw[TA,TA,TA,jN,aN hlive.1,aL,f1,f2,hdrop];have hk:s.Row.toNat<l.Rows.length:=aa
    have eL:((cR l.Rows s.Row.toNat (l.Rows.drop (s.Row+1).toNat)).take (s.Row.toNat+(l.Rows.length-(s.Row+1).toNat))).drop 0=l.Rows.eraseIdx s.Row.toNat:=by rw[show(s.Row+1).toNat=s.Row.toNat+1 by omega];exact del_eq hk
    have er:l.Rows[s.Row.toNat]=r:=by grind[aW]
    rw[eL] at hdrop ⊢;obtain⟨g1,g2⟩:=hset s.Row.toNat hk;refine⟨_,_,rfl,rfl,m',_,rfl,f3,f4.1,g1,λq hq=>?_⟩;obtain⟨g3,g4⟩:=g2 q hq;obtain⟨g5,g6⟩:=hb.2 q g3;refine⟨f4.live g5 λe=>?_,g6⟩;grind
 simp_all[dO,bJ]
theorem UR.fits{b:aA}(h:UR b):b.Mem.Heap.Bytes.length<=maxLen/\(iC b.Mem.aD).length<=1073741824/\b.aC.cE.length<=maxLen/\b.aQ.length<=maxLen/\(dV b.aQ).length<=1073741824/\b.qJ.length<=maxLen:=by
 have hb:(1048576:Nat)<=maxLen:=by simp[maxLen]
 have g1:=h.1.1;have g2:=h.1.2.2.2.2;have g3:=h.2.1;have g4:=h.2.2.1;have g5:=h.2.2.2.1;have g6:=h.2.2.2.2;omega
theorem step_eq{b:aA}(hb:mV b)(hs:UR b)(hw:0<=w/\w<=2)(s:Sub) :
  ∃x y,UC b w s=some (x,y)/\qC s b w=some (y,x)/\mV x:=by
 have hz:=hb.1.2.2.2.1;have hl:=hb.1.2.2.1;unfold UC qC;cases hd:s.gU with
 |true=>grind
 |false=>
  simp only[bV,bR];by_cases k1:s.Kind=1
  ·obtain⟨x,y,e1,e2,m,rfl,h1,h2⟩:=alloc_eq hb.1.1 hw s;simp only[k1,beq_self_eq_true,bW,e1,e2,aL];exact⟨_,_,rfl,rfl,⟨h2.1,hb.1.2⟩,λr hr=>⟨h2.live (hb.2 r hr).1 aa,(hb.2 r hr).2⟩⟩
  have k1':(s.Kind == 1)=false:=aj
  simp only[k1',bV,bR];by_cases k2:s.Kind=2
  ·obtain⟨x,y,e1,e2,L,rfl,h1,h2⟩:=a3P hb hs hw s;simp only[k2,beq_self_eq_true,bW,e1,e2,aL];exact⟨_,_,rfl,rfl,⟨hb.1.1,hb.1.2.1,h1,hb.1.2.2.2⟩,h2⟩
  have k2':(s.Kind == 2)=false:=aj
  simp only[k2',bV,bR];by_cases k3:s.Kind=3
  ·obtain⟨x,y,e1,e2,c,rfl,h1,h2⟩:=aYK hb.1.2.1 s;simp only[k3,beq_self_eq_true,bW,e1,e2,aL];exact⟨_,_,rfl,rfl,⟨hb.1.1,h1,hb.1.2.2⟩,λr hr=>⟨(hb.2 r hr).1,aJY (hb.2 r hr).2 h2⟩⟩
  have k3':(s.Kind == 3)=false:=aj
  simp only[k3',bV,bR];by_cases k4:s.Kind=4
  ·obtain⟨x,y,e1,e2,m,L,rfl,h1,h2,h3,h4⟩:=aYQ hb hw s;simp only[k4,beq_self_eq_true,bW,e1,e2,aL];exact⟨_,_,rfl,rfl,⟨h2,hb.1.2.1,h3,hb.1.2.2.2⟩,h4⟩
  have k4':(s.Kind == 4)=false:=aj
  simp only[k4',bV,bR];by_cases k5:s.Kind=5
  ·obtain⟨x,y,e1,e2,c,rfl,h1,h2⟩:=bIR hb.1.2.1 hw s;simp only[k5,beq_self_eq_true,bW,e1,e2,aL];exact⟨_,_,rfl,rfl,⟨hb.1.1,h1,hb.1.2.2⟩,λr hr=>⟨(hb.2 r hr).1,aJY (hb.2 r hr).2 h2⟩⟩
  have k5':(s.Kind == 5)=false:=aj
  simp only[k5',bV,bR,bO,bJ,aL];grind
theorem mV.small{b:aA}(hb:mV b):UR b:=by have h1:=hb.1.2.1.2.1;have h2:=hb.1.2.2.1.1;have h3:=hb.1.2.2.1.2.1;have h4:=hb.1.2.2.2.1;exact⟨(lU.facts hb.1.1).2.2.2.2.2.1,aa,aa,aa,aa⟩
def yJ(s:Sub)(code:Int):Sub:={s with Code:=code,gU:=true}
def LA(n:Int):Int:=if 1<=n/\n<=8 then 0 else if 1<=n/\n<=16 then 1 else if 1<=n/\n<=40 then 2 else -1
theorem aYR(n:Int):-1<=LA n/\LA n<=2:=by grind[LA]
theorem a3V(n:Int):GG n=some (LA n):=by
 have s1:∀k,0<=k/\k<=2->fZ n k=some (if 1<=n/\n<=jC k then .stop (Out.ret k) else .next (k+1)):=λk hk=>by simp only[fZ];rw[eG,YI,aL,fW,aL,dU];grind
 have z0:jC 0=8:=rfl;have z1:jC 1=16:=rfl;have z2:jC 2=40:=rfl;unfold GG LA;by_cases q0:1<=n/\n<=8
 ·rw[aZ (by rw[s1 0 aa,aN aa]),aN q0];rfl
 ·rw[bS (by rw[s1 0 aa,gR]),aP q0,show(0:Int)+1=1 from rfl];by_cases q1:1<=n/\n<=16
  ·rw[aZ (by rw[s1 1 aa,aN aa]),aN q1];rfl
  ·rw[bS (by rw[s1 1 aa,gR]),aP q1,show(1:Int)+1=2 from rfl];by_cases q2:1<=n/\n<=40
   ·rw[aZ (by rw[s1 2 aa,aN aa]),aN q2];rfl
   ·rw[bS (by rw[s1 2 aa,gR]),aP q2,show(2:Int)+1=3 from rfl,aZ (body:=fZ n) (r:=Out.brk ()) (by simp[fZ])];rfl
def N6(l:List Int):List Int×Int:=(l.dropLast,l.getLastD (-1))
theorem aJE{s:bB}(h:s.aV.length<=1048576):tP s=some (⟨(N6 s.aV).1⟩,(N6 s.aV).2):=by
 unfold tP QU N6;obtain⟨l⟩:=s;rcases Z8 l with rfl|⟨L,b,rfl⟩
 ·rfl
 ·simp only[aJZ] at h ⊢;have hl:(L++[b]).length=L.length+1:=ae
  rw[hl,dU,show((L.length+1:Nat):Int)-1=(L.length:Int) by omega,aIH,TA,WL];simp
def GZ(m:Mem)(w c:Int):Mem×Int:=(⟨m.Heap,⟨m.aD.Global,m.aD.Own.set (w*3+c).toNat ⟨(N6 (fM m.aD.Own (w*3+c).toNat)).1⟩⟩⟩,(N6 (fM m.aD.Own (w*3+c).toNat)).2)
def zK(m:Mem)(c:Int):Mem×Int:=(⟨m.Heap,⟨m.aD.Global.set c.toNat ⟨(N6 (fM m.aD.Global c.toNat)).1⟩,m.aD.Own⟩⟩,(N6 (fM m.aD.Global c.toNat)).2)
def pgF(h:Heap):Nat:=h.Class.findIdx (λx=>decide (x = -1))
def yK(m:Mem)(c:Int):Mem×Int:=if pgF m.Heap=6 then(m,-1) else
 (⟨⟨gB m.Heap.Bytes (pgF m.Heap) c (cH c).toNat,m.Heap.Class.set (pgF m.Heap) c⟩,⟨m.aD.Global.set c.toNat ⟨fM m.aD.Global c.toNat++(gS (pgF m.Heap) (cH c).toNat).drop 1⟩,m.aD.Own⟩⟩,(pgF m.Heap:Int)*4)
theorem a82{h:Heap}(hs:iA h):pgF h<=6:=by rw[<-hs.2.1];exact List.findIdx_le_length
theorem aYS{h:Heap}(hs:iA h)(hq:pgF h≠6):pgF h<6/\cX h (pgF h) = -1:=by
 have h6:=hs.2.1;have hlt:pgF h<6:=by grind[a82]
 refine⟨hlt,?_⟩;rw[<-ZF hs hlt];have:=aJ0 (xs:=h.Class) (p:=λx=>decide (x = -1)) (w:=by grind[pgF]);exact of_decide_eq_true this
theorem bDT{h:Heap}(hs:iA h):∀j (hj:j<6),j<pgF h->cX h j≠-1:=λj hj hlt=>by have:=List.not_of_lt_findIdx hlt;grind[ZF]
theorem bIT{h:Heap}(hh:HOk h)(hc:0<=c/\c<=2):tQ h c=some (if pgF h=6 then(h,[]) else(⟨gB h.Bytes (pgF h) c (cH c).toNat,h.Class.set (pgF h) c⟩,gS (pgF h) (cH c).toNat)):=by
 have hs:=hh.1;have h6:=hs.2.1;have h384:=hs.1;have hle:=a82 hs;have s1:∀k (hk:k<pgF h),fH h c (k:Int)=some (.next ((k+1:Nat):Int)):=λk hk=>by
  have n:(h.Class[k] != -1)=true:=by grind[bDT,ZF]
  simp only[fH,K0];rw[eG,WL,aL,n,aN rfl,dU];rfl
 unfold tQ;by_cases hq:pgF h=6
 ·have a1:loop (fH h c) 0=some (Out.brk ()):=gT (pgF h) (λk=>(k:Int)) _ s1 (by simp_all[fH]);rw[a1,aN hq];rfl
 ·obtain⟨hlt,he⟩:=aYS hs hq;rw[<-ZF hs hlt] at he;generalize hqq:pgF h=q at *;have a1:loop (fH h c) 0=some (Out.ret (⟨gB h.Bytes q c (cH c).toNat,h.Class.set q c⟩,gS q (cH c).toNat)):=gT q (λk=>(k:Int)) _ s1 (by
   have e0:bE ((q:Int)*64)=((q*64:Nat):Int):=by grind[cQ]
   have e1:bE (((q*64:Nat):Int)+1)=((q*64+1:Nat):Int):=by grind[cQ]
   have e2:bE (((q*64:Nat):Int)+2)=((q*64+2:Nat):Int):=by grind[cQ]
   have n:(h.Class[q] != -1)=false:=aj
   simp only[fH,e0,e1,e2,JM];rw[eG,WL,aL,n,gI,WL,aL,aW ah,aL,oQ,aL,aW ah,aL];have:=aMG h384 hlt hc;simp only[gB] at this;rw[this];rfl)
  rw[a1,aP hq];rfl
theorem a3W(hm:lU m)(hc:0<=c/\c<=2):GI m c=some (yK m c):=by
 have h3:=hm.1.2.1;have hpp:0<cH c:=jW.2 hc;have hp4:=pQ c;obtain⟨_,_,_,_,_,_,_,_,hsG,_⟩:=lU.facts hm;unfold GI yK;rw[bIT hm.1.1 hc];by_cases hq:pgF m.Heap=6
 ·simp_all
 ·have hk:c.toNat<m.aD.Global.length:=aa
  have hg0:=hsG _ (dB hk);have hx:idx m.aD.Global c=some m.aD.Global[c.toNat]:=hU hc.1 aa;have hz:idx (gS (pgF m.Heap) (cH c).toNat) 0=some ((pgF m.Heap:Int)*4):=by grind[aW,gS]
  have hn:(((cH c).toNat:Int) == 0)=false:=aj
  have ht:(gS (pgF m.Heap) (cH c).toNat).take (cH c).toNat=gS (pgF m.Heap) (cH c).toNat:=aB9 (by grind[aFV]);have hd:((gS (pgF m.Heap) (cH c).toNat).drop 1).length<=4:=aj
  simp only[aP hq,aL,aFV,hn,bV,bR,hx,hz,K2,ht];grind[b7,dY]
def aYT(m:Mem)(s:Int):Int:=if 1<=kP m.Heap s/\kP m.Heap s<=6 then kP m.Heap s*32+s else 0
theorem bDU(hs:iA m.Heap)(hc:0<=bK m.Heap s):BC m s=some (aYT m s):=by
 unfold BC QV zE aYT;rw[vU hs hc,aL,fW,fW];have h1:=(qU hc).1;simp only[cN h1,aL,kW,bV,bR];by_cases q:1<=kP m.Heap s/\kP m.Heap s<=6
 ·simp only[cN q,kW,bV,bR,aN q];grind[cQ]
 grind
def N7(b:aA)(s:Sub)(p:Mem×Int):aA×Sub:=
 if 0<=p.2 then({b with Mem:=p.1},yJ {s with Out:=aYT p.1 p.2} 0) else if s.Pc=3 then({b with Mem:=p.1},yJ s 3) else({b with Mem:=p.1},{s with Pc:=s.Pc+1})
def YU(b:aA)(w:Int)(s:Sub):aA×Sub:=
 if LA s.A<0 then(b,yJ s 2)
 else if s.Pc=0 then N7 b s (GZ b.Mem w (LA s.A))
 else if s.Pc=1\/s.Pc=3 then N7 b s (zK b.Mem (LA s.A))
 else if s.Pc=2 then N7 b s (yK b.Mem (LA s.A))
 else(b,yJ s 1)
theorem a3X{b:aA}(hm:lU b.Mem)(hw:0<=w/\w<=2)(s:Sub):BD b w s=some (YU b w s):=by
 obtain⟨hcnt,h3,h9,h1,h2,hsm,hcp,hlo,hsG,hsO⟩:=lU.facts hm;have hs:=hm.1.1.1;have hr:=aYR s.A;unfold BD YU;rw[a3V];simp only[aL];by_cases c0:LA s.A<0
 ·simp only[cN c0,bW,bO,aN c0];rfl
 generalize LA s.A=c at *;have hc:0<=c/\c<=2:=aa
 simp only[gJ c0,bV,bR,aP c0];have fin:∀(p:Mem×Int),-1<=p.2->(0<=p.2->iA p.1.Heap/\0<=bK p.1.Heap p.2)->s.Pc<=3/\0<=s.Pc->jU s p.2 ⟨p.1,b.aC,b.aQ,b.qJ⟩=some (N7 b s p):=by
  intro p hp hx hpc;unfold jU N7;simp only[zG,UB,bO];by_cases x0:0<=p.2
  ·rw[gJ (show ¬p.2<0 by omega),cN x0];simp only[bV,bR,bW,aN x0,bDU (hx x0).1 (hx x0).2,aL];rfl
  ·rw[cN (show p.2<0 by omega),gJ x0];by_cases p3:s.Pc=3
   ·have p3':(s.Pc == 3)=true:=aj
    simp only[p3',bW,aP x0,aN p3,aL];rfl
   ·have p3':(s.Pc == 3)=false:=aj
    have e:bE (s.Pc+1)=s.Pc+1:=dU;grind
 have popL:∀l:List Int,-1<=(N6 l).2\/(N6 l).2∈l:=λl=>by unfold N6;grind
 by_cases p0:s.Pc=0
 ·have hk:(w*3+c).toNat<b.Mem.aD.Own.length:=aa
  have hx:idx b.Mem.aD.Own (w*3+c)=some b.Mem.aD.Own[(w*3+c).toNat]:=hU aa aa;obtain⟨l,t,x,e1,e2,e3,g1,g2,g3⟩:=aMK hm hw hc;have hl:=hsO _ (dB hk);rw[hx] at e1;cases e1;rw[aJE aa] at e2;have ep:GZ b.Mem w c=(⟨b.Mem.Heap,⟨b.Mem.aD.Global,b.Mem.aD.Own.set (w*3+c).toNat t⟩⟩,x):=by grind[GZ,dY]
  have hx0:-1<=x:=by
   injection e2 with e2;injection e2 with e4 e5
   rcases popL b.Mem.aD.Own[(w*3+c).toNat].aV with h|h
   ·omega
   ·rw[<-e5];have:=hm.1.2.2.2.2.1 _ (aB8 _ (aGD.2 ⟨_,dB hk,h⟩));omega
  have p0':(s.Pc == 0)=true:=aj
  have:=fin (GZ b.Mem w c) aj aj aa;rw[ep] at this;simp only[p0',bW,aN p0,(SZ hw hc).1,aL,hx];grind[aJE]
 ·have p0':(s.Pc == 0)=false:=aj
  simp only[p0',bV,bR,zH,aP p0];have hk:c.toNat<b.Mem.aD.Global.length:=aa
  have hx:idx b.Mem.aD.Global c=some b.Mem.aD.Global[c.toNat]:=hU aa aa;obtain⟨l,t,x,e1,e2,e3,g1,g2,g3⟩:=aAX hm hc;have hl:=hsG _ (dB hk);rw[hx] at e1;cases e1;rw[aJE aa] at e2;have ep:zK b.Mem c=(⟨b.Mem.Heap,⟨b.Mem.aD.Global.set c.toNat t,b.Mem.aD.Own⟩⟩,x):=by grind[zK,dY]
  have hx0:-1<=x:=by
   injection e2 with e2;injection e2 with e4 e5
   rcases popL b.Mem.aD.Global[c.toNat].aV with h|h
   ·omega
   ·rw[<-e5];have:=hm.1.2.2.2.2.1 _ (U7 _ (aGD.2 ⟨_,dB hk,h⟩));omega
  have tg:0<=s.Pc/\s.Pc<=3->(idx b.Mem.aD.Global c).bind (λx13=>(tP x13).bind λx14=>jU s x14.2 ({b with Mem:=(⟨b.Mem.Heap,(⟨b.Mem.aD.Global.set c.toNat x14.1,b.Mem.aD.Own⟩:aD)⟩:Mem)}:aA))=some (N7 b s (zK b.Mem c)):=λhpc=>by grind[aJE]
  by_cases p1:s.Pc=1
  ·grind
  ·have p1':(s.Pc == 1)=false:=aj
   simp only[p1',bV,bR];by_cases p3:s.Pc=3
   ·grind
   ·have p3':(s.Pc == 3)=false:=aj
    have n13:¬(s.Pc=1\/s.Pc=3):=aa
    simp only[p3',bV,bR,aP n13];by_cases p2:s.Pc=2
    ·obtain⟨m',y,f1,f2,k1,k2,k3⟩:=aVI hm hc;have hg:=a3W hm hc;rw[f1] at hg;have hg':yK b.Mem c=(m',y):=aj
     have hy:-1<=(yK b.Mem c).2:=by grind[yK]
     grind
    ·have p2':(s.Pc == 2)=false:=aj
     simp only[p2',bV,bR,bO,aP p2,aL];rfl
def cS(c:aC)(w:Int):wB:=c.cE.getD w.toNat ⟨false,0,false,0⟩
theorem S1{c:aC}(hc:K7 c)(hw:0<=w/\w<=2):idx c.cE w=some (cS c w):=by have:=hc.2.1;grind[hU,cS]
def HN(c:aC)(w e:Int):aC×Bool:=
 if(cS c w).On=false\/(cS c w).gL=true\/(cS c w).aK=e then(c,true)
 else if(cS c w).Seen=2 then(⟨c.aK,c.cE.set w.toNat {cS c w with gL:=true,Seen:=0}⟩,true)
 else(⟨c.aK,c.cE.set w.toNat {cS c w with Seen:=(cS c w).Seen+1}⟩,false)
theorem aMM{c:aC}(hc:K7 c)(hw:0<=w/\w<=2):POk c.aK (cS c w):=by
 have:=S1 hc hw;have h2:=hc.2.1;rw[hU hw.1 aa] at this;injection this with this
 rw[<-this];exact hc.2.2 _ (dB _)
theorem a83{c:aC}(hc:K7 c)(hw:0<=w/\w<=2)(e:Int):J7 c w e=some (HN c w e):=by have hp:=aMM hc hw;have hx:=S1 hc hw;have hsm:=hc.small;unfold J7 GK HN;rw[mZ hsm.1,kN,cN hc,fW,cN hw,hx];simp only[aL,kW,bV,bR,rR,hx];generalize cS c w=p at *;have ew:bE (p.Seen+1)=p.Seen+1:=cQ (by have:=hp.2.1;omega) (by have:=hp.2.1;omega);grind
def aGO(c:aC)(e:Int):aC×Bool:=if c.aK=e/\e≠100000 then(⟨e+1,c.cE⟩,true) else(c,false)
theorem a84{c:aC}(hc:K7 c)(e:Int):SK c e=some (aGO c e):=by
 have hsm:=hc.small;unfold SK GL aGO;rw[mZ hsm.1,kN,cN hc];simp only[aL,kW,bV,bR];by_cases h1:c.aK=e
 ·have he:=hc.1;grind[cQ]
 ·simp[h1]
def RI(c:aC)(w e:Int):aC×Bool:=if 0<=e/\e<=c.aK then(⟨c.aK,c.cE.set w.toNat ⟨true,e,false,0⟩⟩,true) else(c,false)
theorem a3Y{c:aC}(hc:K7 c)(hw:0<=w/\w<=2)(e:Int):NS c w e=some (RI c w e):=by have hsm:=hc.small;unfold NS BE RI;rw[mZ hsm.1,kN,cN hc,fW,cN hw,fW];simp only[aL,kW,bV,bR];grind[S1]
def LB(c:aC)(w:Int):aC×Bool:=if(cS c w).On then(⟨c.aK,c.cE.set w.toNat ⟨false,0,false,0⟩⟩,true) else(c,false)
theorem aQC{c:aC}(hc:K7 c)(hw:0<=w/\w<=2):UD c w=some (LB c w):=by have hsm:=hc.small;have hx:=S1 hc hw;unfold UD BF LB;rw[mZ hsm.1,kN,cN hc,fW,cN hw,hx];grind
def fA(b:aA)(s:Sub):aA×Sub:=
 if s.Pc=0 then(b,{s with Pc:=1,E:=b.aC.aK,B:=0})
 else if s.Pc=1 then
  if 0<=s.B/\s.B<=2 then
   if(HN b.aC s.B s.E).2 then({b with aC:=(HN b.aC s.B s.E).1},{s with Pc:=if s.B=2 then 2 else 1,B:=s.B+1})
   else({b with aC:=(HN b.aC s.B s.E).1},yJ s 8)
  else(b,yJ s 1)
 else if s.Pc=2 then({b with aC:=(aGO b.aC s.E).1},yJ {s with Out:=if(aGO b.aC s.E).2 then 1 else s.Out} 0)
 else(b,yJ s 1)
theorem aVJ{b:aA}(hc:K7 b.aC)(s:Sub):uY b s=some (fA b s):=by
 unfold uY fA;rw[a84 hc,fW];simp only[bO,tR,tS,aL];by_cases p0:s.Pc=0
 ·grind
 ·have p0':(s.Pc == 0)=false:=aj
  simp only[p0',bV,bR,aP p0];by_cases p1:s.Pc=1
  ·have p1':(s.Pc == 1)=true:=aj
   simp only[p1',bW,aN p1];by_cases hB:0<=s.B/\s.B<=2
   ·have ew:bE (s.B+1)=s.B+1:=dU;simp only[cN hB,kW,bV,bR,aN hB,a83 hc hB,aL,ew];grind[yJ]
   ·simp only[gJ hB,TB,bW,aP hB];rfl
  ·have p1':(s.Pc == 1)=false:=aj
   simp only[p1',bV,bR,aP p1];by_cases p2:s.Pc=2
   ·have p2':(s.Pc == 2)=true:=aj
    simp only[p2',bW,aN p2];cases h:(aGO b.aC s.E).2<;>rfl
   ·have p2':(s.Pc == 2)=false:=aj
    simp only[p2',bV,bR,aP p2];rfl
def zL(b:aA)(w:Int)(s:Sub):aA×Sub:=
 if s.Pc=0 then(b,{s with Pc:=1,E:=b.aC.aK})
 else if s.Pc=1 then
  if(RI b.aC w s.E).2 then({b with aC:=(RI b.aC w s.E).1},{s with Pc:=2}) else({b with aC:=(RI b.aC w s.E).1},yJ s 1)
 else if s.Pc=2 then if b.aC.aK=s.E then(b,yJ s 0) else(b,{s with Pc:=0})
 else(b,yJ s 1)
theorem bDV{b:aA}(hc:K7 b.aC)(hw:0<=w/\w<=2)(s:Sub):J8 b w s=some (zL b w s):=by
 unfold J8 zL;rw[a3Y hc hw];simp only[bO,aL];by_cases p0:s.Pc=0
 ·grind
 ·have p0':(s.Pc == 0)=false:=aj
  simp only[p0',bV,bR,aP p0];by_cases p1:s.Pc=1
  ·have p1':(s.Pc == 1)=true:=aj
   simp only[p1',bW,aN p1];cases h:(RI b.aC w s.E).2<;>rfl
  ·have p1':(s.Pc == 1)=false:=aj
   simp only[p1',bV,bR,aP p1];by_cases p2:s.Pc=2
   ·have p2':(s.Pc == 2)=true:=aj
    simp only[p2',bW,aN p2];by_cases q:b.aC.aK=s.E
    ·have q':(b.aC.aK == s.E)=true:=aj
     simp only[q',bW,aN q];rfl
    grind
   ·have p2':(s.Pc == 2)=false:=aj
    simp only[p2',bV,bR,aP p2];rfl
def dI(l:List bT)(w:Int):List eN:=(l.getD w.toNat ⟨[]⟩).Rows
theorem N8{l:List bT}(hl:zW l)(hw:0<=w/\w<=2):idx l w=some ⟨dI l w⟩:=by have:=hl.1;rw[hU hw.1 aa];simp[dI,DN,iS (show w.toNat<l.length by omega)]
theorem aQD{l:List bT}(hl:zW l)(hw:0<=w/\w<=2):(dI l w).length<=24:=by
 have h:=N8 hl hw;have h3:=hl.1;rw[hU hw.1 aa] at h;injection h with h
 have:=hl.small.2.2.2 _ (dB (show w.toNat<l.length by omega));grind
def tY(b:aA)(w:Int)(s:Sub):aA×Sub:=
 if s.Pc=0 then(b,{s with Pc:=1,E:=b.aC.aK})
 else if s.Pc=1 then
  if 0<=s.E/\s.E<=b.aC.aK then
   if mN b.Mem s.A/\¬bG b.aQ (s.A % 32) then({b with aQ:=b.aQ.set w.toNat ⟨dI b.aQ w++[⟨s.A,s.E⟩]⟩},yJ s 0) else(b,yJ s 4)
  else(b,yJ s 1)
 else(b,yJ s 1)
theorem aYU{b:aA}(hb:mV b)(hw:0<=w/\w<=2)(s:Sub):xY b w s=some (tY b w s):=by
 have hL:=hb.1.2.2.1;have hm:=hb.1.1;obtain⟨h1,h2,h3,_⟩:=lU.facts hm;have hx:=N8 hL hw;have hrow:=aQD hL hw;unfold xY tY;rw[fW,V7 hm.1.1.1 aa (by grind[maxLen]) (by grind[maxLen]),jN];simp only[bO,aL,wN,GJ];by_cases p0:s.Pc=0
 ·grind
 ·have p0':(s.Pc == 0)=false:=aj
  simp only[p0',bV,bR,aP p0];by_cases p1:s.Pc=1
  ·have p1':(s.Pc == 1)=true:=aj
   simp only[p1',bW,aN p1];by_cases q1:0<=s.E/\s.E<=b.aC.aK
   ·simp only[cN q1,kW,bV,bR,aN q1];by_cases q2:mN b.Mem s.A
    ·have hh:=q2.1;simp only[cN q2,kW,bV,bR,aN hh,V8 hL,aL];by_cases q3:bG b.aQ (s.A % 32)
     ·simp only[cN q3,bW,aP (show ¬(mN b.Mem s.A/\¬bG b.aQ (s.A % 32)) from λh=>h.2 q3)];rfl
     ·simp only[gJ q3,bV,bR,hx,aL,aN (show mN b.Mem s.A/\¬bG b.aQ (s.A % 32) from⟨q2,q3⟩)];rw[OE];rfl
    ·simp only[gJ q2,TB,bW,aP (show ¬(mN b.Mem s.A/\¬bG b.aQ (s.A % 32)) from λh=>q2 h.1)];rfl
   ·simp only[gJ q1,TB,bW,aP q1];rfl
  ·have p1':(s.Pc == 1)=false:=aj
   simp only[p1',bV,bR,aP p1];rfl
def KG(r:eN)(e:Int):Prop:=2<=e/\r.aK<=bE (e-2)
instance (r:eN) (e:Int):Decidable (KG r e):=by unfold KG;infer_instance
theorem aMN(r:eN)(e:Int):MV r e=some (decide (KG r e)):=by unfold MV MH KG;grind
def rY(l:List eN)(e:Int)(k:Nat):Nat:=k+(l.drop k).findIdx (λr=>decide (KG r e))
theorem a85{l:List eN}(hl:l.length<=1000){from_ e:Int}:zI l from_ e=some (if rY l e from_.toNat<l.length then(rY l e from_.toNat:Int) else -1):=by
 have hst:(if 0<from_ then from_ else 0)=(from_.toNat:Int):=aa
 unfold zI;rw[hst];have key:∀d k:Nat,l.length<=k+d->loop (fI l e) (k:Int)=some (if rY l e k<l.length then Out.ret (rY l e k:Int) else Out.brk ()):=by
  intro d;induction d with
  |zero=>
   intro k hk;rw[aZ (r:=Out.brk ()) (by simp_all[fI,aP]),aP (by grind[rY])]
  |succ d ih=>
   intro k hk;by_cases hkl:k<l.length
   ·have hd:l.drop k=l[k]::l.drop (k+1):=uE hkl;by_cases hr:KG l[k] e
    ·have hs:rY l e k=k:=by grind[rY]
     simp_all[aZ,fI,aW,aMN]
    ·have hs:rY l e k=rY l e (k+1):=by unfold rY;grind
     rw[bS (s':=((k+1:Nat):Int)) (by simp only[fI];rw[eG,aW hkl,aL,aMN _ e,aL,gJ hr,gI,dU];rfl),ih (k+1) aa,hs]
   grind
 rw[key l.length from_.toNat aa];split<;>rfl
theorem aYV{l:List eN}{e:Int}(h:rY l e k<l.length):k<=rY l e k/\KG l[rY l e k] e:=by
 refine⟨by grind[rY],?_⟩;have h1:(l.drop k).findIdx (λr=>decide (KG r e))<(l.drop k).length:=by grind[rY]
 have:=aJ0 (xs:=l.drop k) (p:=λr=>decide (KG r e)) (w:=h1);rw[List.getElem_drop] at this;exact of_decide_eq_true this
def pU(m:Mem)(w h:Int):Mem:=
 if h/32+1<=6 then
  if(fM m.aD.Own (w*3+bK m.Heap (h % 32)).toNat).length<2 then⟨⟨st4 m.Heap.Bytes (iZ (h % 32) (bK m.Heap (h % 32))).toNat (h/32+1),m.Heap.Class⟩,⟨m.aD.Global,m.aD.Own.set (w*3+bK m.Heap (h % 32)).toNat ⟨fM m.aD.Own (w*3+bK m.Heap (h % 32)).toNat++[h % 32]⟩⟩⟩
  else⟨⟨st4 m.Heap.Bytes (iZ (h % 32) (bK m.Heap (h % 32))).toNat (h/32+1),m.Heap.Class⟩,⟨m.aD.Global.set (bK m.Heap (h % 32)).toNat ⟨fM m.aD.Global (bK m.Heap (h % 32)).toNat++[h % 32]⟩,m.aD.Own⟩⟩
 else⟨⟨st4 m.Heap.Bytes (iZ (h % 32) (bK m.Heap (h % 32))).toNat (h/32+1),m.Heap.Class⟩,m.aD⟩
theorem aD4(hm:lU m){h:Int}(hw:0<=w/\w<=2)(hv:mN m h):J6 m w (h % 32)=some (pU m w h):=by
 obtain⟨hcnt,h3,h9,h1,h2,hsm,hcp,hlo,hsG,hsO⟩:=lU.facts hm;have hs:=hm.1.1.1;have hh:=hv.1;have hcl:=dN hv.2.1;have hgo:=ZG hcl;have hc2:0<=bK m.Heap (h % 32)/\bK m.Heap (h % 32)<=2:=by obtain⟨_,q,e⟩:=qU hcl;rw[e];exact jW.1 aa
 have hg6:1<=h/32/\h/32<=6:=by grind[lK]
 have eo:iZ (h % 32) (bK m.Heap (h % 32))=(((iZ (h % 32) (bK m.Heap (h % 32))).toNat:Nat):Int):=aa
 have ew:bE (h/32+1)=h/32+1:=dU;unfold J6 pU;rw[CU hs,aL,vU hs hcl,hv.2.2,aL,BK,aL,ew];generalize hgn:(iZ (h % 32) (bK m.Heap (h % 32))).toNat=a at eo;rw[eo,K8 aa aa aa];simp only[aL,NR,NQ,ew];generalize bK m.Heap (h % 32)=c at *;by_cases q:h/32+1<=6
 ·have hk:(w*3+c).toNat<m.aD.Own.length:=aa
  have hx:idx m.aD.Own (w*3+c)=some m.aD.Own[(w*3+c).toNat]:=hU aa aa;have hk2:c.toNat<m.aD.Global.length:=aa
  have hx2:idx m.aD.Global c=some m.aD.Global[c.toNat]:=hU aa aa;have b1:=hsO _ (dB hk);have b2:=hsG _ (dB hk2);rw[cN q,aN rfl,aN q];unfold XW;rw[(SZ hw hc2).1];simp only[aL,hx,hx2,NP,XU,XV,<-dY hk,<-dY hk2];by_cases q2:m.aD.Own[(w*3+c).toNat].aV.length<2
  ·have y1:(m.aD.Own[(w*3+c).toNat].aV.length:Int)<2:=aa
   simp only[cN y1,bW,aN q2];grind[b7]
  ·have y1:¬(m.aD.Own[(w*3+c).toNat].aV.length:Int)<2:=aa
   simp only[gJ y1,bV,bR,aP q2];grind[b7]
 simp_all[aP]
def a1J(z:List Int)(w:Int):Int:=z.getD w.toNat 0
theorem a3Z(hz:aIJ z)(hw:0<=w/\w<=2):idx z w=some (a1J z w):=by have:=hz.1;grind[hU,a1J]
def ML(l:List eN)(k:Int):eN:=l.getD k.toNat ⟨0,0⟩
theorem YV{l:List eN}{k:Int}(h:0<=k/\k<l.length):idx l k=some (ML l k):=by grind[hU,ML]
def N9(l:List eN)(s:Sub):Prop:=0<=s.Row/\s.Row<l.length/\(ML l s.Row).Handle=s.H
instance (l:List eN) (s:Sub):Decidable (N9 l s):=by unfold N9;infer_instance
def cO(b:aA)(w:Int)(s:Sub):aA×Sub:=
 if s.Pc=0 then(b,{s with Pc:=1,E:=b.aC.aK,Row:=0})
 else if s.Pc=1 then
  if rY (dI b.aQ w) s.E s.Row.toNat<(dI b.aQ w).length then(b,{s with Pc:=2,Row:=(rY (dI b.aQ w) s.E s.Row.toNat:Int),B:=0,H:=(ML (dI b.aQ w) (rY (dI b.aQ w) s.E s.Row.toNat:Int)).Handle})
  else(b,yJ s 0)
 else if s.Pc=2 then
  if(0<=s.B/\s.B<=2)/\N9 (dI b.aQ w) s then
   if a1J b.qJ s.B=s.H then(b,{s with Pc:=1,Row:=s.Row+1}) else(b,{s with Pc:=if s.B=2 then 3 else 2,B:=s.B+1})
  else(b,yJ s 1)
 else if s.Pc=3 then
  if N9 (dI b.aQ w) s/\KG (ML (dI b.aQ w) s.Row) s.E then({b with Mem:=pU b.Mem w s.H,aQ:=b.aQ.set w.toNat ⟨(dI b.aQ w).eraseIdx s.Row.toNat⟩},{s with Pc:=1,Out:=bE (s.Out+1)})
  else(b,yJ s 1)
 else(b,yJ s 1)
theorem P3{l:List bT}(hl:zW l)(hw:0<=w/\w<=2){r:eN}(hr:r∈dI l w):r∈dV l:=by
 have h:=N8 hl hw;have h3:=hl.1;rw[hU hw.1 aa] at h;injection h with h
 exact aGD.2 ⟨l[w.toNat],dB _,aj⟩
theorem aD5{l:List eN}{k:Int}(h:0<=k/\k<l.length):ML l k∈l:=by have:=YV h;grind[hU]
theorem aVK{b:aA}(hb:mV b)(hw:0<=w/\w<=2)(s:Sub):uZ b w s=some (cO b w s):=by
 have hL:=hb.1.2.2.1;have hm:=hb.1.1;have hx:=N8 hL hw;have hrow:=aQD hL hw;have hfl:=λr hr=>P3 hL hw (r:=r) hr;unfold uZ cO;rw[hx];simp only[aL,bO];generalize dI b.aQ w=l at *;by_cases p0:s.Pc=0
 ·grind
 have p0':(s.Pc == 0)=false:=aj
 simp only[p0',bV,bR,aP p0];by_cases p1:s.Pc=1
 ·have p1':(s.Pc == 1)=true:=aj
  simp only[p1',bW,aN p1,a85 (show l.length<=1000 by omega),aL];by_cases q:rY l s.E s.Row.toNat<l.length
  ·have n:¬(rY l s.E s.Row.toNat:Int)<0:=aa
   simp only[aN q,gJ n,bV,bR,YV (l:=l) (k:=(rY l s.E s.Row.toNat:Int)) aa,aL]
  ·simp only[aP q,cN (show(-1:Int)<0 by omega),bW];rfl
 have p1':(s.Pc == 1)=false:=aj
 simp only[p1',bV,bR,aP p1];have el:bE ((l.length:Int)-1)=(l.length:Int)-1:=dU;by_cases p2:s.Pc=2
 ·have p2':(s.Pc == 2)=true:=aj
  simp only[p2',bW,aN p2,fW,el,aL,fS,tT,bO];by_cases hB:0<=s.B/\s.B<=2
  ·simp only[cN hB,kW,bV,bR];by_cases hR:0<=s.Row/\s.Row<=(l.length:Int)-1
   ·simp only[cN hR,kW,bV,bR,YV (l:=l) (k:=s.Row) aa,aL];by_cases hH:(ML l s.Row).Handle=s.H
    ·have hH':((ML l s.Row).Handle != s.H)=false:=aj
     have ha:(0<=s.B/\s.B<=2)/\N9 l s:=⟨hB,hR.1,aa,hH⟩;have e1:bE (s.B+1)=s.B+1:=dU;have e2:bE (s.Row+1)=s.Row+1:=dU;simp only[hH',bV,bR,aN ha,a3Z hb.1.2.2.2 hB,aL,e1,e2];grind
    ·have hH':((ML l s.Row).Handle != s.H)=true:=aj
     have ha:¬((0<=s.B/\s.B<=2)/\N9 l s):=λh=>hH h.2.2.2;simp only[hH',bW,aP ha,aL];rfl
   ·have ha:¬((0<=s.B/\s.B<=2)/\N9 l s):=λh=>hR ⟨h.2.1,by have:=h.2.2.1;omega⟩;simp only[gJ hR,TB,bW,aP ha,aL];rfl
  ·have ha:¬((0<=s.B/\s.B<=2)/\N9 l s):=λh=>hB h.1;simp only[gJ hB,TB,bW,aP ha,aL];rfl
 have p2':(s.Pc == 2)=false:=aj
 simp only[p2',bV,bR,aP p2];by_cases p3:s.Pc=3
 ·have p3':(s.Pc == 3)=true:=aj
  simp only[p3',bW,aN p3,fW,el,aL,fT,DF,bO];by_cases hR:0<=s.Row/\s.Row<=(l.length:Int)-1
  ·simp only[cN hR,kW,bV,bR,YV (l:=l) (k:=s.Row) aa,aL];by_cases hH:(ML l s.Row).Handle=s.H
   ·have hH':((ML l s.Row).Handle != s.H)=false:=aj
    simp only[hH',bV,bR,aMN,aL];by_cases hr:KG (ML l s.Row) s.E
    ·have ha:N9 l s/\KG (ML l s.Row) s.E:=⟨⟨hR.1,aa,hH⟩,hr⟩;have e2:bE (s.Row+1)=s.Row+1:=dU;have hlive:=(hb.2 _ (hfl _ (aD5 (l:=l) (k:=s.Row) aa))).1;rw[hH] at hlive;have et:(s.Row+1).toNat=s.Row.toNat+1:=aa
     simp only[cN hr,kW,bV,bR,aN ha,e2,jN,aN hlive.1,aL,aD4 hm hw hlive,et];grind[b7,del_eq]
    ·have ha:¬(N9 l s/\KG (ML l s.Row) s.E):=λh=>hr h.2;simp only[gJ hr,TB,bW,aP ha,aL];rfl
   ·have hH':((ML l s.Row).Handle != s.H)=true:=aj
    have ha:¬(N9 l s/\KG (ML l s.Row) s.E):=λh=>hH h.1.2.2;simp only[hH',bW,aP ha,aL];rfl
  ·have ha:¬(N9 l s/\KG (ML l s.Row) s.E):=λh=>hR ⟨h.1.1,by have:=h.1.2.1;omega⟩;simp only[gJ hR,TB,bW,aP ha,aL];rfl
 ·have p3':(s.Pc == 3)=false:=aj
  simp only[p3',bV,bR,aP p3];rfl
def iG(b:aA)(w:Int)(s:Sub):aA×Sub:=
 if s.gU then(b,s) else if s.Kind=1 then YU b w s else if s.Kind=2 then tY b w s else if s.Kind=3 then fA b s else if s.Kind=4 then cO b w s else if s.Kind=5 then zL b w s else(b,yJ s 1)
theorem a1K{b:aA}(hb:mV b)(hw:0<=w/\w<=2)(s:Sub):UC b w s=some (iG b w s):=by
 unfold UC iG;rw[a3X hb.1.1 hw,aYU hb hw,aVJ hb.1.2.1,aVK hb hw,bDV hb.1.2.1 hw];simp only[aL,bO];cases s.gU
 ·simp only[bV,bR,beq_iff_eq];split<;>(try rfl);split<;>(try rfl);split<;>(try rfl);split<;>(try rfl);split<;>rfl
 ·rfl
theorem bDW{b:aA}(hb:mV b)(hw:0<=w/\w<=2)(s:Sub):mV (iG b w s).1:=by obtain⟨x,y,e1,_,h⟩:=step_eq hb hb.small hw s;grind[a1K]
theorem aJF{b:List Int}{a:Nat}(h:a+4<=b.length){j:Nat}(hj:j<a\/a+4<=j):bt (RH b a n) j=bt b j:=by unfold RH;rw[N5 ah,N5 ah,N5 ah,N5 aa,gR,gR,gR,gR]
theorem HOk.put{h:Heap}(hh:HOk h)(hc:0<=bK h s)(hn:0<=n/\n<=4294967295) :
  HOk ⟨RH h.Bytes ((iZ s (bK h s)).toNat+4) n,h.Class⟩/\∀t,0<=bK h t->kP ⟨RH h.Bytes ((iZ s (bK h s)).toNat+4) n,h.Class⟩ t=kP h t:=by
 obtain⟨hs,hp⟩:=hh;have h384:=hs.1;have hs':iA ⟨RH h.Bytes ((iZ s (bK h s)).toNat+4) n,h.Class⟩:=⟨by grind[aD1],hs.2.1,a3Q hs.2.2.1 _ hn,hs.2.2.2⟩;obtain⟨p,i,p6,hi,es,ec,eo,ep⟩:=pT hc;have hcl:0<=cX h p/\cX h p<=2:=jW.1 aa;have hroom:8+i*(bD (cX h p)).toNat+8<=64/\∀j,j<(cH (cX h p)).toNat->j*(bD (cX h p)).toNat+4<=i*(bD (cX h p)).toNat+4\/i*(bD (cX h p)).toNat+12<=j*(bD (cX h p)).toNat:=by grind[cH,bD]
 have hgen:∀q j,q<6->j<(cH (cX h q)).toNat->ld (RH h.Bytes ((iZ s (bK h s)).toNat+4) n) (q*64+8+j*(bD (cX h q)).toNat) 4=ld h.Bytes (q*64+8+j*(bD (cX h q)).toNat) 4:=λq j hq hj=>by
  have hz:=zJ hs hq rfl hj;refine JK aa (by grind[aD1]) λk k1 k2=>?_;by_cases e:q=p
  ·grind[aJF]
  grind[aJF]
 refine⟨⟨hs',λq hq=>?_⟩,λt ht=>?_⟩
 ·rw[GX hs' hq];have hold:=(GX hs hq).1 (hp q hq);by_cases e:q=p
  ·subst e;have hcl':¬cX h q<0:=aa
   unfold aBV at hold ⊢;have hcc:cX ⟨RH h.Bytes ((iZ s (bK h s)).toNat+4) n,h.Class⟩ q=cX h q:=rfl;rw[hcc];rw[aP hcl'] at hold ⊢;obtain⟨⟨a1,a2,a3⟩,a4,a5⟩:=hold;have bs:∀k,k<8->bt (RH h.Bytes ((iZ s (bK h s)).toNat+4) n) (q*64+k)=bt h.Bytes (q*64+k):=λk hk=>aJF aa aa;have b0:=bs 0 aa;grind
  ·refine aBV.same hq hs (by grind[aD1]) rfl (λk hk=>aJF aa aa) hold
 ·obtain⟨p',i',p6',hi',es',ec',eo',ep'⟩:=pT ht;have e2:bK ⟨RH h.Bytes ((iZ s (bK h s)).toNat+4) n,h.Class⟩ t=bK h t:=rfl;grind[kP]
theorem lU.put(hm:lU m)(hc:0<=bK m.Heap s)(hn:0<=n/\n<=4294967295):vG m ⟨⟨RH m.Heap.Bytes ((iZ s (bK m.Heap s)).toNat+4) n,m.Heap.Class⟩,m.aD⟩ (-1):=by obtain⟨a,b⟩:=HOk.put hm.1.1 hc hn;refine⟨lU.heap hm a λx hx=>⟨rfl,b x (lU.oC hm hx).1⟩,λt ht _=>?_⟩;have ht':=iL.1 ht;have e:=b t ht'.1;exact⟨iL.2 ⟨ht'.1,ht'.2.1,aj⟩,e,rfl⟩
theorem start_eq{h:Heap}(hs:iA h)(hc:0<=bK h s):aDB s (bK h s)=some (iZ s (bK h s)+4)/\L9 s (bK h s)=some (iZ s (bK h s)+4):=by have hg:=ZG hc;unfold aDB L9;rw[BK,BL,aL,aIH,dU];simp
theorem hb0(x:Int):(x == 0)=decide (x=0):=aj
theorem G3(h:Int):mX h=some (decide (oB h)):=by grind[mX,xI,oB,gY]
theorem aVL{c:aC}(hc:K7 c)(hw:0<=w/\w<=2):∃r,UD c w=some r/\T1 c w=some r/\K7 r.1/\r.1.aK=c.aK:=by
 obtain⟨p,hp,hpk⟩:=aYJ hc hw;unfold UD T1;rw[mZ hc.small.1,BO hc.small.1,kN,vD hc.small.2,m0,fW,cN hc,cN hw];simp only[aL,kW,bV,bR,hp,BF,A4];cases p.On with
 |true=>
  simp only[kW,bV,bR];have h0:=hc.1;exact⟨_,rfl,rfl,hc.aSM ⟨aj,ae,λ_=>rfl⟩,rfl⟩
 |false=>simp_all
theorem aIJ.set(hz:aIJ z)(k:Nat){h:Int}(hh:oB h):aIJ (z.set k h):=⟨by simpa using hz.1,λq hq=>(qW hq).elim (hz.2 q) (λe=>e ▸ hh)⟩
theorem mV.clock{b:aA}(hb:mV b){cl:aC}(h:K7 cl)(e:b.aC.aK<=cl.aK):mV ⟨b.Mem,cl,b.aQ,b.qJ⟩:=⟨⟨hb.1.1,h,hb.1.2.2⟩,λr hr=>⟨(hb.2 r hr).1,aJY (hb.2 r hr).2 e⟩⟩
theorem mV.haz{b:aA}(hb:mV b)(h:aIJ z):mV ⟨b.Mem,b.aC,b.aQ,z⟩:=⟨⟨hb.1.1,hb.1.2.1,hb.1.2.2.1,h⟩,hb.2⟩
theorem mV.mem{b:aA}(hb:mV b)(h:vG b.Mem m (-1)):mV ⟨m,b.aC,b.aQ,b.qJ⟩:=⟨⟨h.1,hb.1.2⟩,λr hr=>⟨h.live (hb.2 r hr).1 aa,(hb.2 r hr).2⟩⟩
theorem bLH{h:Heap}(hcl:0<=bK h s):(iZ s (bK h s)).toNat+8<=384/\8<=jC (bK h s)/\jC (bK h s)<=40:=by
 have hc2:0<=bK h s/\bK h s<=2:=by obtain⟨_,q,e⟩:=qU hcl;rw[e];exact jW.1 aa
 grind[jC,bK,pT,cH,bD]
def zN(kind a:Int):Sub:=⟨kind,a,0,0,0,0,0,0,0,false⟩
def jX:List Int->Nat->List UInt8->List Int
 |b,_,[]=>b
 |b,a,c::t=>jX (b.set a (c.toNat:Int)) (a+1) t
theorem BP:∀(t:List UInt8) (b:List Int) (a:Nat),(jX b a t).length=b.length
 |[],b,a=>rfl
 |c::t,b,a=>by rw[jX,BP];simp
theorem aQE:∀(t:List UInt8) {b:List Int} (a:Nat),sN b->sN (jX b a t)
 |[],b,a,h=>h
 |c::t,b,a,h=>aQE t (a+1) (aVG a h ⟨aa,by have:=c.toNat_lt;omega⟩)
theorem MM:∀(t:List UInt8) {b:List Int} {a:Nat},a+t.length<=b.length->∀{j:Nat},(j<a\/a+t.length<=j)->bt (jX b a t) j=bt b j
 |[],b,a,h,j,hj=>rfl
 |c::t,b,a,h,j,hj=>by simp only[HD] at h hj;rw[jX,MM t ah aa,N5 aa,gR]
theorem aMO:∀(t:List UInt8) {b:List Int} {a:Nat},a+t.length<=b.length->∀{j:Nat} (hj:j<t.length),bt (jX b a t) (a+j)=(t[j].toNat:Int)
 |c::t,b,a,h,j,hj=>by
  simp only[HD] at h hj;rw[jX];cases j with
  |zero=>rw[MM t ah aa,N5 aa,aN aa];rfl
  |succ j=>
   have:=aMO t (b:=b.set a (c.toNat:Int)) (a:=a+1) ah (j:=j) aa;grind
theorem aGP(b:List Int)(a:Nat)(t:List UInt8)(hl:b.length<=100000)(h:a+t.length<=b.length):∀(r:List UInt8) (k:Nat) (c:List Int),c.length=b.length->t.drop k=r->k+r.length=t.length->loop (lQ b (a:Int) t) (c,(k:Int))=some (jX c (a+k) r)
 |[],k,c,hc,hr,hk=>by refine aZ ?_;simp only[lQ];rw[b7 hc,aP aj];rfl
 |x::r,k,c,hc,hr,hk=>by
  simp only[HD] at hk;have hkt:k<t.length:=aa
  have e:=uE hkt;rw[hr] at e;injection e with e1 e2
  have st:lQ b (a:Int) t (c,(k:Int))=some (.next (c.set (a+k) (x.toNat:Int),((k+1:Nat):Int))):=by simp only[lQ];rw[b7 hc,eG,aW hkt,aL,dU (x:=(a:Int)+k),show(a:Int)+k=((a+k:Nat):Int) by omega,WL,aL,dU,<-e1];rfl
  rw[bS st,aGP b a t hl h r (k+1) _ aj e2.symm aa,jX];rfl
theorem aQF{b:List Int}{a:Nat}{t:List UInt8}(hl:b.length<=100000)(h:a+t.length<=b.length):mY b (a:Int) t=some (jX b a t):=by unfold mY;rw[show(0:Int)=((0:Nat):Int) from rfl,aGP b a t hl h t 0 b rfl rfl aa,aL];grind[NB,NA,b7,BP]
theorem HOk.jX{h:Heap}(hh:HOk h)(hc:0<=bK h s){o:Nat}{t:List UInt8}(ht:((o+t.length:Nat):Int)<=jC (bK h s)) :
  HOk ⟨Gv.jX h.Bytes ((iZ s (bK h s)).toNat+4+o) t,h.Class⟩/\∀u,0<=bK h u->kP ⟨Gv.jX h.Bytes ((iZ s (bK h s)).toNat+4+o) t,h.Class⟩ u=kP h u:=by
 obtain⟨hs,hp⟩:=hh;have h384:=hs.1;have hs':iA ⟨Gv.jX h.Bytes ((iZ s (bK h s)).toNat+4+o) t,h.Class⟩:=⟨by grind[BP],hs.2.1,aQE _ _ hs.2.2.1,hs.2.2.2⟩;obtain⟨p,i,p6,hi,es,ec,eo,ep⟩:=pT hc;have hcl:0<=cX h p/\cX h p<=2:=jW.1 aa;rw[ec] at ht;have hroom:8+i*(bD (cX h p)).toNat+4+(jC (cX h p)).toNat<=64/\∀j,j<(cH (cX h p)).toNat->j*(bD (cX h p)).toNat+4<=i*(bD (cX h p)).toNat+4\/i*(bD (cX h p)).toNat+4+(jC (cX h p)).toNat<=j*(bD (cX h p)).toNat:=by grind[cH,bD,jC]
 have hot:o+t.length<=(jC (cX h p)).toNat:=aa
 have hgen:∀q j,q<6->j<(cH (cX h q)).toNat->ld (Gv.jX h.Bytes ((iZ s (bK h s)).toNat+4+o) t) (q*64+8+j*(bD (cX h q)).toNat) 4=ld h.Bytes (q*64+8+j*(bD (cX h q)).toNat) 4:=λq j hq hj=>by
  have hz:=zJ hs hq rfl hj;refine JK aa (by grind[BP]) λk k1 k2=>?_;by_cases e:q=p
  ·subst e;have:=hroom.2 j hj;exact MM _ aa aa
  ·exact MM _ aa aa
 refine⟨⟨hs',λq hq=>?_⟩,λu hu=>?_⟩
 ·rw[GX hs' hq];have hold:=(GX hs hq).1 (hp q hq);by_cases e:q=p
  ·subst e;have hcl':¬cX h q<0:=aa
   unfold aBV at hold ⊢;have hcc:cX ⟨Gv.jX h.Bytes ((iZ s (bK h s)).toNat+4+o) t,h.Class⟩ q=cX h q:=rfl;rw[hcc];rw[aP hcl'] at hold ⊢;obtain⟨⟨a1,a2,a3⟩,a4,a5⟩:=hold;have bs:∀k,k<8->bt (Gv.jX h.Bytes ((iZ s (bK h s)).toNat+4+o) t) (q*64+k)=bt h.Bytes (q*64+k):=λk hk=>MM _ aa aa;have b0:=bs 0 aa;grind
  ·refine aBV.same hq hs (by grind[BP]) rfl (λk hk=>MM _ aa aa) hold
 ·obtain⟨p',i',p6',hi',es',ec',eo',ep'⟩:=pT hu;have e2:bK ⟨Gv.jX h.Bytes ((iZ s (bK h s)).toNat+4+o) t,h.Class⟩ u=bK h u:=rfl;grind[kP]
theorem lU.jX(hm:lU m)(hc:0<=bK m.Heap s){o:Nat}{t:List UInt8}(ht:((o+t.length:Nat):Int)<=jC (bK m.Heap s)):vG m ⟨⟨Gv.jX m.Heap.Bytes ((iZ s (bK m.Heap s)).toNat+4+o) t,m.Heap.Class⟩,m.aD⟩ (-1):=by obtain⟨a,b⟩:=HOk.jX hm.1.1 hc ht;refine⟨lU.heap hm a λx hx=>⟨rfl,b x (lU.oC hm hx).1⟩,λt ht _=>?_⟩;have ht':=iL.1 ht;have e:=b t ht'.1;exact⟨iL.2 ⟨ht'.1,ht'.2.1,aj⟩,e,rfl⟩
def aQG:gN:=⟨0,0,0⟩
def AN(h:Heap)(s:Int):Nat:=(iZ s (bK h s)).toNat+4
def Z3(h:Heap)(s:Int):gN:=⟨ld h.Bytes (AN h s) 2,ld h.Bytes (AN h s+2) 4,ld h.Bytes (AN h s+6) 4⟩
def WM(h:Heap)(x:Int):gN:=if lK x/\0<=bK h (x % 32)/\10<=jC (bK h (x % 32)) then Z3 h (x % 32) else aQG
theorem DJ{h:Heap}(hcl:0<=bK h s)(h10:10<=jC (bK h s)):AN h s+10<=384/\16<=jC (bK h s):=by grind[bK,AN,pT,jC,cH,bD]
theorem aMP{h:Heap}(hs:iA h)(s:Int):FV h s=some (decide (10<=jC (bK h s))):=by grind[FV,kM,YJ]
theorem aBW{h:Heap}(hs:iA h)(hc:0<=bK h s):y7 h s=some (AN h s:Int):=by have:=ZG hc;grind[y7,AN,kM,start_eq]
theorem aFW{h:Heap}(hs:iA h)(hc:0<=bK h s)(h10:10<=jC (bK h s)):pH h s=some (Z3 h s):=by
 have hr:=(DJ hc h10).1;have h1:=hs.1;unfold pH Z3;rw[aBW hs hc,aL,show(2:Int)=((2:Nat):Int) from rfl,show(4:Int)=((4:Nat):Int) from rfl,vB hs.2.2.1 aa aa aa,aL,
  dU,show(AN h s:Int)+((2:Nat):Int)=((AN h s+2:Nat):Int) by omega,vB hs.2.2.1 aa aa aa,aL,
  dU,show(AN h s:Int)+6=((AN h s+6:Nat):Int) by omega,vB hs.2.2.1 aa aa aa];rfl
theorem aQH(hm:lU m)(x:Int):∃c,J0 m x=some (WM m.Heap x,c):=by
 have hs:=hm.1.1.1;unfold J0 WM;rw[gY,aL];by_cases hh:lK x
 ·rw[cN hh,gI,(lK.mod hh).1,kM hs,aL];unfold FW;by_cases hc:bK m.Heap (x % 32)<0
  ·rw[cN hc,aN rfl,gR];exact⟨_,rfl⟩
  ·rw[gJ hc,gI,(lK.mod hh).1,aMP hs,aL];by_cases h10:10<=jC (bK m.Heap (x % 32))
   ·simp_all[aFW]
   ·rw[gJ h10,aN ak,gR];exact⟨_,rfl⟩
 ·rw[gJ hh,aN ak,aP (λq=>hh q.1)];exact⟨_,rfl⟩
def MN(n:gN):Int:=if lK n.Next then n.Next else 0
theorem aSQ(n:gN):g8 n=some (MN n):=by unfold g8 MN;rw[gY,aL];grind
theorem aFX(n:gN):oB (MN n):=by
 unfold MN;split
 ·exact .inr (by assumption)
 ·exact .inl rfl
def kE(m:Mem)(x:Int):Prop:=mN m x/\10<=jC (bK m.Heap (x % 32))
instance (m:Mem) (x:Int):Decidable (kE m x):=by unfold kE;infer_instance
theorem YW(hm:lU m)(x:Int):∃c,vP m x=some c/\(c=0↔kE m x):=by
 obtain⟨hcnt,h3,h9,h1,h2,hsm,hcp,hlo,hsG,hsO⟩:=lU.facts hm;have hs:=hm.1.1.1;unfold vP kE;rw[GV hs aa (by rw[h3];simp[maxLen]) (by rw[h9];simp[maxLen]),aL];by_cases hl:mN m x
 ·rw[cN hl,gI,(lK.mod hl.1).1,aMP hs,aL];by_cases h10:10<=jC (bK m.Heap (x % 32))
  ·rw[cN h10,gI];exact⟨_,rfl,by simp[hl,h10]⟩
  ·rw[gJ h10,aN ak];exact⟨_,rfl,by simp[hl,h10]⟩
 simp_all
def S3(n:Int):List UInt8:=[u8 (n/256),u8 n]
theorem aYW(hn:0<=n/\n<=65535):mD n 2=some (S3 n):=by
 have hw:yX 2=some true:=by grind[yX,cV]
 unfold mD;rw[hw];have e1:IntKind.u64.wrap (bE (8*2))=16:=ai
 have e2:aJ5 .i64 1 16=65536:=ai
 simp only[aL,kW,bV,bR,e1,e2];rw[aIH,TA,gJ aa];simp only[vO,bV,bR];rw[TA,show bE (2-1)=((1:Nat):Int) from by grind[cQ]];have st:∀(m:Int) (c:List UInt8) (i:Nat),i<c.length->i<4->0<=m->qB (m,c,(i:Int))=some (.next (m/256,c.set i (u8 m),(i:Int)-1)):=λm c i hc hi h0=>by simp only[qB];rw[aN ae,aW hc,aL,show(8:Int)=((8:Nat):Int) from rfl,a1B h0 aa,dU,JM];rfl
 rw[bS (st n _ 1 ae aa hn.1),show((1:Nat):Int)-1=((0:Nat):Int) by rfl,
  bS (st _ _ 0 ae aa aa),aZ (r:=S3 n)]
 ·rfl
 ·simp only[qB];rw[gI];rfl
def aPI(n:gN):List UInt8:=S3 n.Key++nV n.dM++nV n.Next
def aBX(n:gN):Prop:=(0<=n.Key/\n.Key<=99)/\(0<=n.dM/\n.dM<=65535)/\oB n.Next
instance (n:gN):Decidable (aBX n):=by unfold aBX;infer_instance
theorem aQI(n:gN):J1 n=some (decide (aBX n)):=by grind[J1,aBX,cV,G3,xP]
theorem aD6(h:oB x):0<=x/\x<=223:=by
 rcases h with h|h
 ·omega
 ·have:=h.1;omega
def aAY(m:Mem)(x:Int)(n:gN):Mem:=if aBX n/\kE m x then⟨⟨jX m.Heap.Bytes (AN m.Heap (x % 32)) (aPI n),m.Heap.Class⟩,m.aD⟩ else m
theorem aYX(hm:lU m)(x:Int)(n:gN):∃c,MC m x n=some (aAY m x n,c):=by
 obtain⟨hcnt,h3,h9,h1,h2,hsm,hcp,hlo,hsG,hsO⟩:=lU.facts hm;have hs:=hm.1.1.1;have hbl:m.Heap.Bytes.length<=maxLen:=by grind[maxLen]
 unfold MC aAY;rw[P1 hsm,aL,BN hbl aa,cN hm,aL,gI,aQI,aL];unfold CD;by_cases hn:aBX n
 ·rw[cN hn,gI];obtain⟨c,e,hc⟩:=YW hm x;rw[e,aL];by_cases hw:kE m x
  ·have hcl:=dN hw.1.2.1;have hr:=(DJ hcl hw.2).1;have hnx:=aD6 hn.2.2;have hk1:=hn.1.2;have hv1:=hn.2.1.2;obtain rfl:=hc.2 hw;rw[aN ak,(lK.mod hw.1.1).1,aBW hs hcl,aL,aYW ⟨hn.1.1,aa⟩,aL,UU ⟨hn.2.1.1,aa⟩,aL,b7 (by simp[S3,nV]),
    UU ⟨hnx.1,aa⟩,aL,b7 (by simp[S3,nV]),aQF aa (by grind[S3,nV]),aL,aN ⟨hn,hw⟩]
   exact⟨_,rfl⟩
  ·rw[aP aj,aP (λq=>hw q.2)];exact⟨_,rfl⟩
 simp_all
def aGQ(m:Mem)(x y:Int):Mem:=if oB y/\kE m x then⟨⟨jX m.Heap.Bytes (AN m.Heap (x % 32)+6) (nV y),m.Heap.Class⟩,m.aD⟩ else m
theorem a30(hm:lU m)(x y:Int):∃c,PI m x y=some (Gv.aGQ m x y,c):=by
 obtain⟨hcnt,h3,h9,h1,h2,hsm,hcp,hlo,hsG,hsO⟩:=lU.facts hm;have hs:=hm.1.1.1;have hbl:m.Heap.Bytes.length<=maxLen:=by grind[maxLen]
 unfold PI Gv.aGQ;rw[P1 hsm,aL,BN hbl aa,cN hm,aL,gI,G3,aL];unfold FZ;by_cases hn:oB y
 ·rw[cN hn,gI];obtain⟨c,e,hc⟩:=YW hm x;rw[e,aL];by_cases hw:kE m x
  ·have hcl:=dN hw.1.2.1;have hr:=(DJ hcl hw.2).1;have hnx:=aD6 hn;obtain rfl:=hc.2 hw;rw[aN ak,(lK.mod hw.1.1).1,aBW hs hcl,aL,UU ⟨hnx.1,aa⟩,aL,dU,show(AN m.Heap (x % 32):Int)+6=((AN m.Heap (x % 32)+6:Nat):Int) by omega,
    aQF aa (by grind[nV]),aL,aN ⟨hn,hw⟩]
   exact⟨_,rfl⟩
  ·rw[aP aj,aP (λq=>hw q.2)];exact⟨_,rfl⟩
 simp_all
theorem a86(hm:lU m)(x:Int)(n:gN):vG m (aAY m x n) (-1):=by
 unfold aAY;split
 ·rename_i h;have:=DJ (dN h.2.1.2.1) h.2.2;exact lU.jX hm (dN h.2.1.2.1) (o:=0) (by grind[aPI,S3,nV])
 ·exact⟨hm,λs h _=>⟨h,rfl,rfl⟩⟩
theorem a87(hm:lU m)(x y:Int):vG m (Gv.aGQ m x y) (-1):=by
 unfold Gv.aGQ;split
 ·rename_i h;have:=DJ (dN h.2.1.2.1) h.2.2;exact lU.jX hm (dN h.2.1.2.1) (o:=6) (by grind[nV])
 ·exact⟨hm,λs h _=>⟨h,rfl,rfl⟩⟩
def a1L:Heap:=⟨List.replicate 384 0,[-1,-1,-1,-1,-1,-1]⟩
def bIU:aD:=⟨List.replicate 3 ⟨[]⟩,List.replicate 9 ⟨[]⟩⟩
def a1M:aA:=⟨⟨a1L,bIU⟩,⟨0,List.replicate 3 ⟨false,0,false,0⟩⟩,List.replicate 3 ⟨[]⟩,List.replicate 3 0⟩
theorem aIQ:LU=some a1L:=by
 unfold LU;have key:loop uI (0,[])=some (List.replicate 6 (-1)):=gT (f:=uI) 6 (λk=>((k:Int),List.replicate k (-1))) _ (λk hk=>by
  simp only[uI];rw[eG,OE,dU,List.replicate_succ'];rfl) (by simp[uI])
 rw[TA,key];rfl
theorem bIV:wJ [-1] 6=some [-1,-1,-1,-1,-1,-1]:=by
 unfold wJ;rw[gI,show QK (IntKind.u64.wrap (([-1]:List Int).length:Int)) (IntKind.u64.wrap 6)=some (0,6) by kernel_rfl];simp only[aL];rw[gI,gJ aa];simp only[pK,bV,bR];rw[show IntKind.i64.wrap 6=6 from wrap_i64 aa aa,TA,
  show(cR (List.replicate (Int.toNat 6) 0) 0 [-1],((min ([-1]:List Int).length ((List.replicate (Int.toNat 6) (0:Int)).length-0):Nat):Int))=([-1,0,0,0,0,0],1) by kernel_rfl,
  bS (body:=lT) (s':=([-1,-1,0,0,0,0],2)) (by kernel_rfl),bS (body:=lT) (s':=([-1,-1,-1,-1,0,0],4)) (by kernel_rfl),
  bS (body:=lT) (s':=([-1,-1,-1,-1,-1,-1],6)) (by kernel_rfl),aZ (body:=lT) (r:=[-1,-1,-1,-1,-1,-1]) (by kernel_rfl)]
 rfl
theorem aIR:ME=some a1L:=by unfold ME;rw[TA,bIV];rfl
theorem aMQ:LV=some a1M/\MF=some a1M:=by unfold LV MF XA XN P9 QL QA QM QB QN XB XO;rw[aIQ,aIR,TA,TA,TA,TA,TA];exact⟨rfl,rfl⟩
theorem a88:mV a1M:=of_decide_eq_true (by kernel_rfl)
def DK{O:Type}(o:Option O)(Q:O->Prop):Prop:=∃x,o=some x/\Q x
abbrev bGA{σ ρ:Type}(I:σ->Prop)(Q:ρ->Prop):Step σ ρ->Prop
 |.next s=>I s
 |.stop r=>Q r
namespace DK
variable {O β σ ρ:Type} {Q:O->Prop}
theorem ret{x:O}(h:Q x):DK (some x) Q:=⟨x,rfl,h⟩
theorem bind{P:β->Prop}{o:Option β}{f:β->Option O}(h:DK o P)(hf:∀x,P x->DK (f x) Q):DK (o.bind f) Q:=by obtain⟨x,e,hx⟩:=h;grind
theorem need{p:Prop}[Decidable p]{k:Option O}(h:p)(hk:DK k Q):DK (Gv.need p k) Q:=by grind[b7]
theorem ite{c:Prop}[Decidable c]{a b:Option O}(h1:c->DK a Q)(h2:¬c->DK b Q):DK (if c then a else b) Q:=aj
theorem mono{P:O->Prop}{o:Option O}(h:DK o P)(hf:∀x,P x->Q x):DK o Q:=by obtain⟨x,e,hx⟩:=h;exact⟨x,e,hf x hx⟩
theorem idx{l:List β}{i:Int}(h:0<=i/\i<l.length):DK (Gv.idx l i) (λx=>x∈l):=⟨_,hU h.1 h.2,dB _⟩
theorem loop{Q:ρ->Prop}{f:σ->Option (Step σ ρ)}{s:σ}(μ:σ->Nat)(Inv:σ->Prop)(h0:Inv s)(hb:∀s,Inv s->DK (f s) (bGA (λs'=>Inv s'/\μ s'<μ s) (λr=>Q r))):DK (Gv.loop f s) Q:=by
 have key:∀n s,μ s<n->Inv s->DK (Gv.loop f s) Q:=by
  intro n;induction n with
  |zero=>omega
  |succ n ih=>
   intro s h hs;obtain⟨q,e,hq⟩:=hb s hs;cases q with
   |next s'=>grind[bS]
   |stop r=>rw[aZ e];exact⟨r,rfl,hq⟩
 exact key _ s (Nat.lt_succ_self _) h0
theorem of{o:Option O}{x:O}(h:o=some x):DK o (λy=>y=x):=⟨x,h,rfl⟩
end DK
def Cu(b:List UInt8)(i:Int):Prop:=(0<=i/\i<=b.length)/\b.length<=1048576
theorem a89(x:Int):0<=iF .and .i64 x 255/\iF .and .i64 x 255<=255:=by have e:iF .and .i64 x 255=IntKind.i64.wrap ((BitVec.ofInt 64 x &&& BitVec.ofInt 64 255).toNat:Int):=rfl;grind[Nat.and_le_right,wrap_i64]
section
variable {b:List UInt8} {i h:Int} (hc:Cu b i)
include hc
theorem aVM:DK (sJ ⟨b,i,h⟩) (λx=>(0<=x.1/\x.1<=255)/\Cu b x.2.1):=by
 unfold sJ EI;obtain⟨⟨a1,a2⟩,a3⟩:=hc;refine .ite (λq=>?_) (λq=>?_)
 ·have q':=of_decide_eq_true q;simp only at q';refine .bind (.idx ⟨a1,q'⟩) λx _=>.ret ⟨a89 _,?_⟩;grind[Cu,cQ]
 ·exact .ret ⟨a89 _,⟨a1,a2⟩,a3⟩
theorem below(hn:n<=1000000):DK (fY ⟨b,i,h⟩ n) (λx=>(0<=x.1/\(x.1<n\/n<=0/\x.1=0))/\Cu b x.2.1):=by
 unfold fY;refine .ite (λq=>?_) (λq=>?_)
 ·have q':=of_decide_eq_true q;exact .ret ⟨ah,hc⟩
 ·have q0:0<n:=aj
  refine .ite (λq=>?_) (λq=>?_)
  ·refine .bind (aVM hc) λx ⟨hx,h1⟩=>.need aa (.ret ⟨?_,h1⟩);simp only[N0 hx.1];exact⟨Int.emod_nonneg _ aa,.inl (Int.emod_lt_of_pos _ q0)⟩
  ·refine .bind (aVM hc) λx ⟨hx,h1⟩=>.bind (aVM h1) λy ⟨hy,h2⟩=>.bind (aVM h2) λz ⟨hz,h3⟩=>.bind (aVM h3) λw ⟨hw,h4⟩=>.need aa (.ret ⟨?_,h4⟩);have e:bE (bE (bE (bE (x.1*16777216)+bE (y.1*65536))+bE (z.1*256))+w.1)=x.1*16777216+y.1*65536+z.1*256+w.1:=by grind[cQ]
   simp only[e];rw[N0 aa];exact⟨Int.emod_nonneg _ aa,.inl (Int.emod_lt_of_pos _ q0)⟩
theorem bLI(hn:n<=1000000):DK (W9 ⟨b,i,h⟩ n) (λx=>Cu b x.2.1):=
 .bind (below hc hn) λ_ ⟨_,h1⟩=>.ret h1
theorem aQJ(hl:0<l.length)(hl2:l.length<=1000):DK (nC ⟨b,i,h⟩ l) (λx=>x.1∈l/\Cu b x.2.1):=
 .bind (below hc aa) λx ⟨hx,h1⟩=>.bind (.idx aa) λy hy=>.ret ⟨hy,h1⟩
end
theorem bNT{code:List UInt8}(hl:code.length<=1048576):DK (TP code) (λx=>Cu code x.1):=by
 unfold TP;refine .bind (P:=λ_=>True) (.loop (λs=>code.length-s.2.toNat) (λs=>0<=s.2/\s.2<=code.length) ⟨ae,ae⟩ ?_) λx _=>.ret ⟨⟨ae,ae⟩,hl⟩;rintro⟨a,k⟩ ⟨h1,h2⟩;simp only[aAE,IL];simp only at h1 h2;have nx:k<code.length->DK ((idx code k).bind λx7=>some (Step.next (iF .and .i64 (bE ((bE ((bE (a*131))+(x7.toNat:Int)))+7)) 1073741823,bE (k+1)))) (bGA (ρ:=Int) (λs'=>(0<=s'.2/\s'.2<=code.length)/\code.length-s'.2.toNat<code.length-k.toNat) (λr=>True)):=λhk=>by refine .bind (.idx ⟨h1,hk⟩) λx _=>.ret ?_;grind[cQ]
 refine .ite (λq=>?_) (λq=>?_)
 ·have q':=of_decide_eq_true q;exact .ite (λ_=>nx q') (λ_=>.ret trivial)
 ·rw[gI];exact .ret trivial
def Hk(h:Heap):Prop:=h.Bytes.length=384/\h.Class.length=6
def Wk(m:Mem):Prop:=Hk m.Heap/\m.aD.Global.length=3/\m.aD.Own.length=9/\(iC m.aD).length<=24
theorem lU.wk(hm:lU m):Wk m:=by obtain⟨a,b,c,d,e,_⟩:=lU.facts hm;exact⟨⟨d,e⟩,b,c,a⟩
theorem Wk.small(h:Wk m):DI m:=by obtain⟨⟨a,b⟩,c,d,e⟩:=h;exact⟨aa,aa,aa,aa,aa⟩
theorem a31(b:aA)(w:Int)(s:Sub):(iG b w s).2.Kind=s.Kind:=by unfold iG YU N7 tY fA cO zL yJ;grind
theorem OA{b:aA}{s:Sub}(h:s.Kind=1\/s.Kind=2\/s.Kind=4):(iG b w s).1.aC=b.aC:=by
 unfold iG;rcases h with k|k|k
 ·simp only[k,bW];unfold YU N7;grind
 ·simp only[k];unfold tY;grind
 ·simp only[k];unfold cO;grind
theorem zO{c:aC}(hc:K7 c){v:Int}(hw:0<=w/\w<=2)(hv:0<=v/\v<=2)(e:Int)(x:wB):cS ⟨e,c.cE.set w.toNat x⟩ v=if v=w then x else cS c v:=by have h3:=hc.2.1;unfold cS;grind
def pW(j:Job):Prop:=j.bU=true/\(j.Op.Kind=2\/j.Op.Kind=5)/\j.Pc=0
def Adv(j:Job):Prop:=j.bU=true/\j.Op.Kind=4/\j.Pc=0
def JI(e:Int)(p:wB)(j:Job):Prop:=j.bU=true ->
 (j.Op.Kind=1->j.Sub.Kind=1\/j.Sub.Kind=2)/\(j.Op.Kind=4->j.Pc=1->j.Sub.Kind=4) /\
 (Adv j->j.Sub.Kind=3/\j.Sub.gU=false/\(j.Sub.Pc=0\/j.Sub.E<=e/\(j.Sub.Pc=1/\(0<=j.Sub.B/\j.Sub.B<=2)\/j.Sub.Pc=2/\j.Sub.B=3))) /\
 (pW j->j.Sub.Kind=5/\j.Sub.gU=false/\(j.Sub.Pc=0\/j.Sub.Pc=1/\(0<=j.Sub.E/\j.Sub.E<=e)\/j.Sub.Pc=2/\p.aK=j.Sub.E))
def Calm(j:Job):Prop:=¬pW j/\¬Adv j/\(j.Op.Kind=1->j.Sub.Kind=1\/j.Sub.Kind=2)/\(j.Op.Kind=4->j.Pc=1->j.Sub.Kind=4)
theorem Calm.ji{j:Job}(h:Calm j)(e:Int)(p:wB):JI e p j:=λ_=>⟨h.2.2.1,h.2.2.2,λq=>absurd q h.2.1,λq=>absurd q h.1⟩
def Ep(c:aC)(J:Int->Job):Prop:=(∀w,0<=w/\w<=2->JI c.aK (cS c w) (J w))/\∀p,0<=p/\p<=2->¬pW (J p)->(cS c p).On=true->(cS c p).gL=false->c.aK<=(cS c p).aK+1/\(c.aK=(cS c p).aK+1->∀a,0<=a/\a<=2->Adv (J a)->(J a).Sub.Pc≠0->(J a).Sub.E=c.aK->(J a).Sub.B<=p)
def upJ(J:Int->Job)(w:Int)(j:Job):Int->Job:=λv=>if v=w then j else J v
theorem G4(J:Int->Job)(w:Int)(j:Job):upJ J w j w=j:=aN rfl
theorem oR(J:Int->Job){v:Int}(j:Job)(h:v≠w):upJ J w j v=J v:=aP h
section
variable {c:aC} {J:Int->Job} (h:Ep c J)
include h
theorem Ep.congr{J':Int->Job}(e:∀v,0<=v/\v<=2->J' v=J v):Ep c J':=by refine⟨λw hw=>by rw[e w hw];exact h.1 w hw,λp hp hn h1 h2=>?_⟩;rw[e p hp] at hn;obtain⟨a1,a2⟩:=h.2 p hp hn h1 h2;grind
variable {w:Int} (hw:0<=w/\w<=2) {j:Job}
include hw
theorem Ep.step{c':aC}(he:c'.aK=c.aK)(hp:∀v,0<=v/\v<=2->v≠w->cS c' v=cS c v)(hj:JI c.aK (cS c' w) j)
  (h2:¬pW j->(cS c' w).On=true->(cS c' w).gL=false->c.aK<=(cS c' w).aK+1/\(c.aK=(cS c' w).aK+1->∀a,0<=a/\a<=2->a≠w->Adv (J a)->(J a).Sub.Pc≠0->(J a).Sub.E=c.aK->(J a).Sub.B<=w))
  (ha:Adv j->j.Sub.Pc=0\/j.Sub.B=0):Ep c' (upJ J w j):=by
 constructor
 ·intro v hv;rw[he];by_cases q:v=w
  ·grind[G4]
  ·rw[oR _ _ q,hp v hv q];exact h.1 v hv
 ·intro p hpr hn o1 o2;rw[he];have hadv:∀a,0<=a/\a<=2->(∀q:a≠w,Adv (J a)->(J a).Sub.Pc≠0->(J a).Sub.E=c.aK->(J a).Sub.B<=p)->Adv (upJ J w j a)->(upJ J w j a).Sub.Pc≠0->(upJ J w j a).Sub.E=c.aK->(upJ J w j a).Sub.B<=p:=by grind[G4,oR]
  by_cases q:p=w
  ·grind[G4]
  ·rw[oR _ _ q] at hn;rw[hp p hpr q] at o1 o2 ⊢;obtain⟨a1,a2⟩:=h.2 p hpr hn o1 o2;grind
theorem Ep.still(hn:¬pW (J w))(hj:Calm j):Ep c (upJ J w j):=
 h.step hw rfl (λ_ _ _=>rfl) (hj.ji _ _) (λ_ o1 o2=>by
  obtain⟨a1,a2⟩:=h.2 w hw hn o1 o2;grind) (λq=>absurd q hj.2.1)
theorem Ep.bLJ(hc:K7 c)(hn:¬pW (J w))(hj:Calm j):Ep (LB c w).1 (upJ J w j):=by
 unfold LB;by_cases q:(cS c w).On
 ·rw[aN q];refine h.step hw rfl (λv hv hvw=>by simp_all[zO]) (hj.ji _ _) (λ_ o1=>?_) (λq=>absurd q hj.2.1);simp_all[zO]
 ·rw[aP q];exact h.still hw hn hj
theorem Ep.pin{b:aA}(hb:b.aC=c)(hc:K7 c)(hj:J w=j)(hP:pW j){fin:Job}(hf:Calm fin) :
  Ep (zL b w j.Sub).1.aC (upJ J w (if(zL b w j.Sub).2.gU then fin else {j with Sub:=(zL b w j.Sub).2})):=by
 have hji:=h.1 w hw;rw[hj] at hji;have hk5:=hP.2.1;obtain⟨k,d,hpc⟩:=(hji hP.1).2.2.2 hP;have noadv:∀s:Sub,¬Adv {j with Sub:=s}:=λs q=>by have:=q.2.1;grind
 have hP':∀s:Sub,pW {j with Sub:=s}:=λs=>hP;have mk:∀(s:Sub) (p:wB),(s.Kind=5/\s.gU=false/\(s.Pc=0\/s.Pc=1/\(0<=s.E/\s.E<=c.aK)\/s.Pc=2/\p.aK=s.E))->JI c.aK p {j with Sub:=s}:=λs p hs _=>⟨λq=>aj,λq=>aj,λq=>absurd q (noadv s),λ_=>hs⟩;unfold zL;rw[hb];rcases hpc with p0|⟨p1,e0,e1⟩|⟨p2,pe⟩
 ·simp only[aN p0,d,bV,bR,hb];exact h.step hw rfl (λ_ _ _=>rfl) (mk _ _ ⟨k,rfl,.inr (.inl ⟨rfl,hc.1.1,KJ _⟩)⟩) (λq=>absurd (hP' _) q) (λq=>absurd q (noadv _))
 ·have hpt:RI c w j.Sub.E=(⟨c.aK,c.cE.set w.toNat ⟨true,j.Sub.E,false,0⟩⟩,true):=by simp_all[RI]
  simp only[aP (show ¬j.Sub.Pc=0 by omega),aN p1,hpt,bW,d,bV,bR];exact h.step hw rfl (λv hv hvw=>by simp_all[zO]) (mk _ _ ⟨k,rfl,.inr (.inr ⟨rfl,by simp_all[zO]⟩)⟩) (λq=>absurd (hP' _) q) (λq=>absurd q (noadv _))
 ·simp only[aP (show ¬j.Sub.Pc=0 by omega),aP (show ¬j.Sub.Pc=1 by omega),aN p2];by_cases q:c.aK=j.Sub.E
  ·simp only[aN q,yJ,bW,hb];exact h.step hw rfl (λ_ _ _=>rfl) (hf.ji _ _) (λ_ _ _=>⟨aa,λe=>aa⟩) (λq=>absurd q hf.2.1)
  ·simp only[aP q,d,bV,bR,hb];exact h.step hw rfl (λ_ _ _=>rfl) (mk _ _ ⟨k,rfl,.inl rfl⟩) (λq=>absurd (hP' _) q) (λq=>absurd q (noadv _))
omit h hw in
theorem aMR(hc:K7 c){q:Int}(hq:0<=q/\q<=2)(e:Int):(HN c q e).1.aK=c.aK/\(∀v,0<=v/\v<=2->(cS (HN c q e).1 v).On=(cS c v).On/\(cS (HN c q e).1 v).aK=(cS c v).aK/\((cS (HN c q e).1 v).gL=false->(cS c v).gL=false)) /\
  ((HN c q e).2=true->(cS (HN c q e).1 q).On=true->(cS (HN c q e).1 q).gL=false->(cS c q).aK=e):=by
 unfold HN;by_cases k1:(cS c q).On=false\/(cS c q).gL=true\/(cS c q).aK=e
 ·grind
 ·rw[aP k1];by_cases k2:(cS c q).Seen=2
  ·rw[aN k2];refine⟨rfl,λv hv=>?_,λ_ _ o2=>?_⟩
   ·rw[zO hc hq hv];grind
   simp_all[zO]
  ·rw[aP k2];refine⟨rfl,λv hv=>?_,λx=>by cases x⟩;rw[zO hc hq hv];grind
theorem Ep.advance{b:aA}(hb:b.aC=c)(hc:K7 c)(hj:J w=j)(hA:Adv j){fin:Job}(hf:Calm fin) :
  Ep (fA b j.Sub).1.aC (upJ J w (if(fA b j.Sub).2.gU then fin else {j with Sub:=(fA b j.Sub).2})):=by
 have hji:=h.1 w hw;rw[hj] at hji;have hk4:=hA.2.1;obtain⟨k,d,hpc⟩:=(hji hA.1).2.2.1 hA;have nopin:∀s:Sub,¬pW {j with Sub:=s}:=λs q=>by have:=q.2.1;grind
 have nopw:¬pW (J w):=by simp_all
 have mk:∀(s:Sub) (p:wB) (e:Int),(s.Kind=3/\s.gU=false/\(s.Pc=0\/s.E<=e/\(s.Pc=1/\(0<=s.B/\s.B<=2)\/s.Pc=2/\s.B=3)))->JI e p {j with Sub:=s}:=λs p e hs _=>⟨λq=>aj,λ_ q=>by simp only at q;have:=hA.2.2;omega,λ_=>hs,λq=>absurd q (nopin s)⟩;unfold fA;rw[hb];rcases hpc with p0|⟨el,⟨p1,B0,B2⟩|⟨p2,B3⟩⟩
 ·simp only[aN p0,d,bV,bR,hb];refine h.step hw rfl (λ_ _ _=>rfl) (mk _ _ _ ⟨k,rfl,.inr ⟨KJ _,.inl ⟨rfl,ae,ae⟩⟩⟩) (λ_ o1 o2=>?_) (λ_=>.inr rfl);obtain⟨a1,a2⟩:=h.2 w hw nopw o1 o2;grind
 ·obtain⟨le,lv,lq⟩:=aMR hc (q:=j.Sub.B) ⟨B0,B2⟩ j.Sub.E;simp only[aP (show ¬j.Sub.Pc=0 by omega),aN p1,aN (show 0<=j.Sub.B/\j.Sub.B<=2 from⟨B0,B2⟩)];have others:∀v,0<=v/\v<=2->JI (HN c j.Sub.B j.Sub.E).1.aK (cS (HN c j.Sub.B j.Sub.E).1 v) (J v):=λv hv=>by have:=h.1 v hv;rw[le];intro hbv;obtain⟨x1,x2,x3,x4⟩:=this hbv;grind
  cases hl:(HN c j.Sub.B j.Sub.E).2
  ·simp only[bV,bR,yJ,bW];refine⟨λv hv=>?_,λp hp hn o1 o2=>?_⟩
   ·by_cases q:v=w
    ·subst q;rw[G4];exact hf.ji _ _
    grind[oR]
   ·have hn':¬pW (J p):=by grind[oR]
    obtain⟨y1,y2,y3⟩:=lv p hp;rw[y1] at o1;obtain⟨a1,a2⟩:=h.2 p hp hn' o1 (y3 o2);rw[le,y2];refine⟨a1,λe a har=>?_⟩;by_cases q:a=w
    ·subst q;rw[G4];exact λq=>absurd q hf.2.1
    grind[oR]
  ·simp only[bW,d,bV,bR];refine⟨λv hv=>?_,λp hp hn o1 o2=>?_⟩
   ·by_cases q:v=w
    ·subst q;rw[G4,le];grind
    grind[oR]
   ·have hn':¬pW (J p):=by grind[oR]
    obtain⟨y1,y2,y3⟩:=lv p hp;have o1':=o1;rw[y1] at o1';obtain⟨a1,a2⟩:=h.2 p hp hn' o1' (y3 o2);grind[G4,oR]
 ·simp only[aP (show ¬j.Sub.Pc=0 by omega),aP (show ¬j.Sub.Pc=1 by omega),aN p2,yJ,bW];unfold aGO;by_cases q:c.aK=j.Sub.E/\j.Sub.E≠100000
  ·simp only[aN q];refine⟨λv hv=>?_,λp hp hn o1 o2=>?_⟩
   ·by_cases z:v=w
    ·subst z;rw[G4];exact hf.ji _ _
    ·rw[oR _ _ z];intro hbv;obtain⟨x1,x2,x3,x4⟩:=h.1 v hv hbv;refine⟨x1,x2,λq=>?_,λq=>?_⟩
     ·grind
     ·obtain⟨z1,z2,z3⟩:=x4 q;exact⟨z1,z2,z3.imp id λz4=>z4.imp (λz5=>⟨z5.1,z5.2.1,aj⟩) id⟩
   ·have hn':¬pW (J p):=by grind[oR]
    have o1':(cS c p).On=true:=o1;have o2':(cS c p).gL=false:=o2;obtain⟨a1,a2⟩:=h.2 p hp hn' o1' o2';have hpk:=(aMM hc hp).1.2;have hne:c.aK≠(cS c p).aK+1:=λe=>aj
    have hep:cS ⟨j.Sub.E+1,c.cE⟩ p=cS c p:=rfl;rw[hep];refine⟨aj,λe a har hA' hp' hE'=>?_⟩;exfalso;by_cases z:a=w
    ·subst z;rw[G4] at hA';exact hf.2.1 hA'
    ·rw[oR _ _ z] at hA' hp' hE';obtain⟨_,_,z3⟩:=(h.1 a har hA'.1).2.2.1 hA';omega
  ·simp only[aP q];exact h.still hw nopw hf
end
theorem aFY{b:aA}(hb:mV b)(hw:0<=w/\w<=2)(s:Sub):qC s b w=some ((iG b w s).2,(iG b w s).1):=by obtain⟨x,y,e1,e2,h⟩:=step_eq hb hb.small hw s;grind[a1K]
def cZ:aI:=⟨false,⟨false,[]⟩,0,0,0,0,0,0,0,0,aQG,false,0,⟨0,0,0,0,0,0,0,0,0,false⟩,[],[],[],[],[],[]⟩
def dW(k:List bX)(i:Int):bX:=k.getD i.toNat ⟨0,0,0⟩
def sE(j:aI)(c:Int):aI:={j with Pc:=16,Code:=c}
def G5(a b:Int):Int:=Int.tmod (bE (a+b)) 65536
def nT(j:aI)(x:aT):Bool×aI:=if 6<(vF j.aH x).length then(false,sE j 1) else(true,{j with aH:=vF j.aH x})
def UX(j:aI)(is:Bool)(v:Int):aI:={j with fV:=j.fV++[⟨is,v⟩],Pc:=1,At:=j.At+1}
def WN(j:aI)(c:iB)(v:Int):aI:=if(nT j ⟨c.Key,false,G5 v c.dM⟩).1 then UX (nT j ⟨c.Key,false,G5 v c.dM⟩).2 true (G5 v c.dM) else(nT j ⟨c.Key,false,G5 v c.dM⟩).2
def qL(j:aI)(c:iB)(v:Int)(is:Bool):aI:=if c.Kind=4 then WN j c (if is then v else 0) else UX j is (if is then v else 0)
def cD(j:aI):iB:=j.Batch.bM.getD j.At.toNat ⟨0,0,0⟩
def tZ(j:aI):Prop:=j.At<j.Batch.bM.length
instance (j:aI):Decidable (tZ j):=by unfold tZ;infer_instance
def qH(j:aI):aI:=
 if tZ j then
  if(cD j).Kind=2\/(cD j).Kind=3 then
   if(nT j ⟨(cD j).Key,(cD j).Kind == 3,(cD j).dM⟩).1 then {(nT j ⟨(cD j).Key,(cD j).Kind == 3,(cD j).dM⟩).2 with At:=j.At+1,fV:=j.fV++[⟨false,0⟩]}
   else(nT j ⟨(cD j).Key,(cD j).Kind == 3,(cD j).dM⟩).2
  else if(OT j.aH (cD j).Key).2 then qL j (cD j) (OT j.aH (cD j).Key).1.dM (!(OT j.aH (cD j).Key).1.HC)
  else {j with Pc:=2,bX:=jD (cD j).Key}
 else {j with Pc:=6,K:=0,Sub:=zN 1 16}
def iM(b:aA)(k:List bX)(w:Int)(j:aI):aI:=
 if j.Pc=2 then
  if(dW k j.bX).eI≠0 then sE j 7
  else {j with eJ:=(dW k j.bX).eJ,H:=(dW k j.bX).Head,Found:=false,Node:=aQG,Pc:=if(dW k j.bX).Head=0 then 5 else 3}
 else if j.Pc=3 then {j with Node:=WM b.Mem.Heap j.H,Pc:=4}
 else if j.Pc=4 then
  if ¬((cS b.aC w).On=true/\(cS b.aC w).gL=false) then sE j 6
  else if tZ j then {j with Found:=j.Node.Key == (cD j).Key,H:=MN j.Node,Pc:=if j.Node.Key=(cD j).Key\/MN j.Node=0 then 5 else 3}
  else sE j 1
 else
  if(dW k j.bX).eI≠0\/(dW k j.bX).eJ≠j.eJ then sE j 7
  else if(rX j.Reads j.bX j.eJ).2=false then sE {j with Reads:=(rX j.Reads j.bX j.eJ).1} 7
  else if tZ j then qL {j with Reads:=(rX j.Reads j.bX j.eJ).1} (cD j) j.Node.dM j.Found
  else sE {j with Reads:=(rX j.Reads j.bX j.eJ).1} 1
def vH(b:aA)(w:Int)(j:aI):aA×aI:=
 if fP j.aH j.aH.length<=j.K then(b,{j with Pc:=7,K:=0})
 else((iG b w j.Sub).1,
  if(iG b w j.Sub).2.gU=false then {j with Sub:=(iG b w j.Sub).2}
  else if(iG b w j.Sub).2.Code≠0\/¬lK (iG b w j.Sub).2.Out\/6<=j.gK.length then sE {j with Sub:=(iG b w j.Sub).2} (iG b w j.Sub).2.Code
  else {j with gK:=j.gK++[(iG b w j.Sub).2.Out],K:=j.K+1,Sub:=zN 1 16})
def fU(j:aI):Int:=(pR j.aH).getD j.K.toNat 0
def IG(j:aI):aI:={j with bG:=if fU j∈j.bG then j.bG else j.bG++[fU j],K:=j.K+1}
def oD(k:List bX)(w:Int)(j:aI):List bX×aI×Bool:=
 if j.K<(pR j.aH).length then
  if(dW k (fU j)).eI≠0\/(j.Reads.any λs=>s.bX == fU j && s.eJ != (dW k (fU j)).eJ)=true then(k,sE j 7,false)
  else if(dW k (fU j)).eJ=1000000 then(k,sE j 3,false)
  else if(pR j.aH).length<=j.K+1 then(k.set (fU j).toNat {dW k (fU j) with eI:=w+1},{IG j with Pc:=8,K:=0},true)
  else(k.set (fU j).toNat {dW k (fU j) with eI:=w+1},IG j,false)
 else(k,{j with Pc:=8,K:=0},true)
def rdN(j:aI):Seen:=j.Reads.getD j.K.toNat ⟨0,0⟩
def KH(k:List bX)(w:Int)(j:aI):aI:=
 if j.Reads.length<=j.K then {j with Pc:=9,K:=0}
 else if((dW k (rdN j).bX).eI≠0/\(dW k (rdN j).bX).eI≠w+1)\/(dW k (rdN j).bX).eJ≠(rdN j).eJ then sE j 7
 else {j with K:=j.K+1}
def MO(j:aI)(x:aT):aI:=if x.HC then {j with Pc:=9,K:=j.K+1} else {j with Pc:=12}
def mO(j:aI):aT:=j.aH.getD j.K.toNat ⟨0,false,0⟩
def G6(j:aI):Int:=j.gK.getD (fP j.aH j.K).toNat 0
def MP(j:aI):aI:=if lK j.H/\j.b9.length<6 then {j with b9:=j.b9++[j.H]} else j
def lV(b:aA)(k:List bX)(j:aI):aA×List bX×aI:=
 if j.aH.length<=j.K then(b,k,{j with Pc:=14})
 else if j.Pc=9 then(b,k,if(dW k (jD (mO j).Key)).Head=0 then MO {j with Pc:=10,H:=(dW k (jD (mO j).Key)).Head,gO:=0} (mO j) else {j with Pc:=10,H:=(dW k (jD (mO j).Key)).Head,gO:=0})
 else if j.Pc=10 then
  (b,k,if(WM b.Mem.Heap j.H).Key=(mO j).Key then {j with Pc:=11,Node:=WM b.Mem.Heap j.H}
   else if MN (WM b.Mem.Heap j.H)=0 then MO {j with Node:=WM b.Mem.Heap j.H} (mO j)
   else {j with H:=MN (WM b.Mem.Heap j.H),gO:=j.H,Node:=WM b.Mem.Heap j.H})
 else if j.Pc=11 then
  if j.gO=0 then(b,k.set (jD (mO j).Key).toNat {dW k (jD (mO j).Key) with Head:=MN j.Node},MO (MP j) (mO j))
  else({b with Mem:=Gv.aGQ b.Mem j.gO (MN j.Node)},k,MO (MP j) (mO j))
 else if j.gK.length<=fP j.aH j.K then(b,k,sE j 1)
 else if j.Pc=12 then({b with Mem:=aAY b.Mem (G6 j) ⟨(mO j).Key,(mO j).dM,(dW k (jD (mO j).Key)).Head⟩},k,{j with Pc:=13})
 else(b,k.set (jD (mO j).Key).toNat {dW k (jD (mO j).Key) with Head:=G6 j},{j with Pc:=9,K:=j.K+1})
def KI(j:aI):aI:=if j.K<j.b9.length then {j with Sub:=zN 2 (j.b9.getD j.K.toNat 0)} else j
def wQ(j:aI):Int:=j.bG.getD 0 0
def AO(k:List bX)(j:aI):List bX×aI:=
 if 0<j.bG.length then
  (k.set (wQ j).toNat (if j.Pc=14 then⟨(dW k (wQ j)).Head,if 1000000<(dW k (wQ j)).eJ+1 then 1000000 else(dW k (wQ j)).eJ+1,0⟩ else {dW k (wQ j) with eI:=0}),{j with bG:=j.bG.drop 1})
 else if j.Pc=16 then(k,{j with Pc:=17})
 else(k,KI {j with Pc:=15,K:=0})
def DL(b:aA)(w:Int)(j:aI):aA×aI:=
 if j.b9.length<=j.K then(b,{j with Pc:=18})
 else((iG b w j.Sub).1,if(iG b w j.Sub).2.gU then KI {j with K:=j.K+1,Sub:=(iG b w j.Sub).2} else {j with Sub:=(iG b w j.Sub).2})
def aVN(m:Mem)(w x:Int):Mem:=if mN m x then pU m w x else m
def DM(b:aA)(w:Int)(j:aI):aA×aI:=
 if j.gK.length=0 then(b,{j with Pc:=18})
 else(if bG b.aQ (j.gK.getD 0 0 % 32) then b else {b with Mem:=aVN b.Mem w (j.gK.getD 0 0)},{j with gK:=j.gK.drop 1})
def oE(b:aA)(w:Int)(j:aI):aA×aI:=
 ((iG b w j.Sub).1,if(iG b w j.Sub).2.gU = false then {j with Sub:=(iG b w j.Sub).2}
  else if j.Pc=0 then {j with Pc:=1,Sub:=(iG b w j.Sub).2}
  else if j.Pc=20 then {j with Pc:=21,Sub:=zN 4 0}
  else {j with Pc:=19,Sub:=(iG b w j.Sub).2})
def tlE(w:Int)(j:aI):iD:=⟨3,w,j.aG,j.Code,[],if j.Code=0 then j.fV else []⟩
structure TR where
 b:aA
 k:List bX
 j:aI
 l:List iD
def fF(b:aA)(k:List bX)(w:Int)(j:aI):TR:=
 if j.Pc=0\/j.Pc=20\/j.Pc=21 then⟨(oE b w j).1,k,(oE b w j).2,[]⟩
 else if j.Pc=1 then⟨b,k,qH j,[]⟩
 else if 2<=j.Pc/\j.Pc<=5 then⟨b,k,iM b k w j,[]⟩
 else if j.Pc=6 then⟨(vH b w j).1,k,(vH b w j).2,[]⟩
 else if j.Pc=7 then⟨b,(oD k w j).1,(oD k w j).2.1,if(oD k w j).2.2 then [⟨2,w,j.aG,0,[],[]⟩] else []⟩
 else if j.Pc=8 then⟨b,k,KH k w j,[]⟩
 else if 9<=j.Pc/\j.Pc<=13 then⟨(lV b k j).1,(lV b k j).2.1,(lV b k j).2.2,[]⟩
 else if j.Pc=14\/j.Pc=16 then⟨b,(AO k j).1,(AO k j).2,[]⟩
 else if j.Pc=15 then⟨(DL b w j).1,k,(DL b w j).2,[]⟩
 else if j.Pc=17 then⟨(DM b w j).1,k,(DM b w j).2,[]⟩
 else if j.Pc=18 then⟨{b with aC:=(LB b.aC w).1},k,{j with Pc:=19},[]⟩
 else if j.Pc=19 then⟨b,k,cZ,[tlE w j]⟩
 else⟨b,k,sE j 1,[]⟩
def aE(t:Table)(w:Int):aI:=t.aR.getD w.toNat cZ
def rZ(t:Table)(w:Int):List Batch:=(t.eF.getD w.toNat ⟨[]⟩).List
def jG(b:Batch)(s:Int):aI:=⟨true,b,s,if b.Collect then 20 else 0,0,0,0,0,0,0,aQG,false,0,if b.Collect then zN 3 0 else zN 5 0,[],[],[],[],[],[]⟩
def sA(t:Table)(w:Int)(b:Batch):Table:=⟨t.aA,t.aS,t.aR.set w.toNat (jG b (t.aG+1)),t.eF.set w.toNat ⟨(rZ t w).drop 1⟩,t.Log++[⟨1,w,t.aG+1,0,b.bM,[]⟩],t.aG+1⟩
def yL(t:Table)(w:Int)(r:TR):Table:=⟨r.b,r.k,t.aR.set w.toNat r.j,t.eF,t.Log++r.l,t.aG⟩
def bH(t:Table)(w:Int):Table:=
 if(aE t w).bU then yL t w (fF t.aA t.aS w (aE t w))
 else if(rZ t w).length=0\/t.aG=1000000 then t else sA t w ((rZ t w).getD 0 ⟨false,[]⟩)
def RJ(c:iB):Prop:=(1<=c.Kind/\c.Kind<=4)/\(0<=c.Key/\c.Key<=99)/\(0<=c.dM/\c.dM<=65535)/\(c.Kind=2\/c.Kind=4\/c.dM=0)
instance (c:iB):Decidable (RJ c):=by unfold RJ;infer_instance
def Z4(b:Batch):Prop:=(b.Collect=true->b.bM=[])/\b.bM.length<=6/\(∀c∈b.bM,RJ c)/\(b.Collect=false->1<=b.bM.length)
instance (b:Batch):Decidable (Z4 b):=by unfold Z4;infer_instance
def QuV(q:aO):Prop:=q.List.length<=12/\∀b∈q.List,Z4 b
instance (q:aO):Decidable (QuV q):=by unfold QuV;infer_instance
def S4(l:List aO):Prop:=l.length=3/\∀q∈l,QuV q
instance (l:List aO):Decidable (S4 l):=by unfold S4;infer_instance
def BkV(b:bX):Prop:=oB b.Head/\(0<=b.eJ/\b.eJ<=1000000)/\(0<=b.eI/\b.eI<=3)
def WrV(l:List aT):Prop:=l.length<=6/\(∀x∈l,(0<=x.Key/\x.Key<=99)/\(0<=x.dM/\x.dM<=65535))/\l.Pairwise (λx y=>x.Key<y.Key)
structure JB (j:aI):Prop where
 busy:j.bU=true
 WR:Z4 j.Batch
 h:oB j.H
 prev:oB j.gO
 bkt:0<=j.bX/\j.bX<=1
 at_:0<=j.At/\j.At<=j.Batch.bM.length
 k:0<=j.K/\j.K<=6
 new:j.gK.length<=6/\∀x∈j.gK,lK x
 old:j.b9.length<=6/\∀x∈j.b9,lK x
 reads:(∀s∈j.Reads,0<=s.bX/\s.bX<=1)/\(j.Reads.map Seen.bX).Nodup
 wr:WrV j.aH
 held:(∀x∈j.bG,0<=x/\x<=1)/\j.bG.Nodup
 res:(j.fV.length:Int)=j.At
 node:0<=j.Node.dM/\j.Node.dM<=4294967295
structure TV (t:Table):Prop where
 base:mV t.aA
 bk:t.aS.length=2/\∀x∈t.aS,BkV x
 yN:t.aR.length=3/\∀j∈t.aR,j=cZ\/JB j
 todo:S4 t.eF
 ser:0<=t.aG/\t.aG<=1000000
theorem aQK(hw:j.aH.length<=1000)(x:aT):rO j x=some (nT j x):=by
 unfold rO nT;rw[aFU hw,aL];by_cases h:6<(vF j.aH x).length
 ·rw[eG,aN h];rfl
 grind
theorem aFZ(j:aI)(x:aT):(nT j x).2.fV=j.fV/\(nT j x).2.At=j.At:=by grind[nT,sE]
theorem aQL(hw:j.aH.length<=1000)(hr:j.fV.length<=1000)(ha:0<=j.At/\j.At<=1000)(c:iB)(v:Int)(is:Bool):rP j c v is=some (qL j c v is):=by
 have key:∀u,mI j c is u=some (if c.Kind=4 then WN j c u else UX j is u):=λu=>by
  unfold mI;by_cases hk:c.Kind=4
  ·rw[aN aj,aN hk];unfold NG WN;rw[aL,show Int.tmod (bE (u+c.dM)) 65536=G5 u c.dM from rfl,aQK hw,aL];obtain⟨e1,e2⟩:=aFZ j ⟨c.Key,false,G5 u c.dM⟩;cases h:(nT j ⟨c.Key,false,G5 u c.dM⟩).1
   ·simp
   ·rw[gI,aN rfl];grind[mH,qR,UX,b7,cQ]
  ·rw[aP aj,aP hk];grind[mH,qR,UX,b7,cQ]
 unfold rP qL;grind
theorem aMT(hl:j.Batch.bM.length<=1000)(ha:0<=j.At):pG j=some (if tZ j then(cD j,true,j) else(⟨0,0,0⟩,false,j)):=by
 unfold pG cD;rw[cV,aL,dU];by_cases hc:tZ j
 ·have h:j.At<j.Batch.bM.length:=hc;rw[cN aa,gI,aN hc,hU ha h,aL];grind
 ·have h:¬j.At<j.Batch.bM.length:=hc;grind
theorem a9A(hl:j.Batch.bM.length<=1000)(hw:j.aH.length<=1000)(hr:j.fV.length<=1000)(ha:0<=j.At/\j.At<=1000):FU j=some (qH j):=by
 unfold FU qH;rw[aMT hl ha.1,aL];by_cases h:tZ j
 ·rw[aN h,aN h];have put:j8 (cD j,true,j) true j=some (if(nT j ⟨(cD j).Key,(cD j).Kind == 3,(cD j).dM⟩).1 then {(nT j ⟨(cD j).Key,(cD j).Kind == 3,(cD j).dM⟩).2 with At:=j.At+1,fV:=j.fV++[⟨false,0⟩]} else(nT j ⟨(cD j).Key,(cD j).Kind == 3,(cD j).dM⟩).2):=by
   unfold j8;rw[aN rfl,aQK hw,aL];obtain⟨e1,e2⟩:=aFZ j ⟨(cD j).Key,(cD j).Kind == 3,(cD j).dM⟩;cases (nT j ⟨(cD j).Key,(cD j).Kind == 3,(cD j).dM⟩).1
   ·rw[gI,gI]
   ·rw[aN rfl,aN rfl,b7 (by rw[e1];simp;omega)];simp only[e1,e2];rw[dU]
  have get:j8 (cD j,true,j) false j=some (if(OT j.aH (cD j).Key).2 then qL j (cD j) (OT j.aH (cD j).Key).1.dM (!(OT j.aH (cD j).Key).1.HC) else {j with Pc:=2,bX:=jD (cD j).Key}):=by
   unfold j8 FT;rw[gI,aIM hw,aL];cases (OT j.aH (cD j).Key).2
   ·rw[gI,gI,RE];rfl
   ·rw[aN rfl,aN rfl,aQL hw hr ha];rfl
  grind
 ·rw[aP h,aP h];rfl
theorem CX(h3:t.aR.length=3)(hw:0<=w/\w<=2):idx t.aR w=some (aE t w):=by grind[hU,aE]
theorem aF0{k:List bX}{i:Int}(h2:k.length=2)(hi:0<=i/\i<=1):idx k i=some (dW k i):=by grind[hU,dW]
theorem aD7{l:List O}{i:Int}{x:O}(h:0<=i/\i<l.length):idx (l.set i.toNat x) i=some x:=by grind[hU]
theorem zP(h3:t.aR.length=3)(hw:0<=w/\w<=2):aE t w∈t.aR:=by grind[aE]
def aVO(t:Table)(w:Int)(j:aI):Table:={t with aR:=t.aR.set w.toNat j}
section
variable {t:Table} {w:Int} (h3:t.aR.length=3) (h2:t.aS.length=2) (hb:mV t.aA) (hw:0<=w/\w<=2) (hj:JB (aE t w))
include h3 h2 hb hw hj
theorem YX:(aE t w).Batch.bM.length<=1000/\(aE t w).aH.length<=1000/\(aE t w).fV.length<=1000/\(0<=(aE t w).At/\(aE t w).At<=1000)/\(aE t w).Reads.length<=2:=by
 have h1:=hj.WR.2.1;have h4:=hj.at_;have h5:=hj.res;have h6:=hj.wr.1;refine⟨aa,aa,aa,aa,?_⟩;have hn:=hj.reads.2;have hm:∀x∈(aE t w).Reads.map Seen.bX,x=0\/x=1:=λx hx=>by obtain⟨s,hs,rfl⟩:=AR.1 hx;have:=hj.reads.1 s hs;omega
 have hl:((aE t w).Reads.map Seen.bX).length<=2:=by
  match h:(aE t w).Reads.map Seen.bX,hn,hm with
  |[],_,_=>simp
  |[_],_,_=>simp
  |[_,_],_,_=>simp
  |x::y::z::r,hn,hm=>
   (simp_all;omega)
 grind
theorem bDZ:B9 t w=some (aVO t w (iM t.aA t.aS w (aE t w))):=by
 obtain⟨s1,s2,s3,s4,s5⟩:=YX h3 h2 hb hw hj;have hjob:=CX h3 hw;unfold B9 C9 iM aVO;rw[hjob,aL,aF0 h2 hj.bkt,aL,aL,aMT s1 s4.1,aL];generalize hjj:aE t w=j at *;have e62:(if tZ j then(cD j,true,j) else((⟨0,0,0⟩:iB),false,j)).2.2=j:=aj
 have set2:∀x y:aI,(t.aR.set w.toNat x).set w.toNat y=t.aR.set w.toNat y:=λx y=>aTJ ..;have iset:∀x:aI,idx (t.aR.set w.toNat x) w=some x:=λx=>aD7 ⟨hw.1,aa⟩;simp only[e62];by_cases p2:j.Pc=2
 ·have p2':(j.Pc == 2)=true:=aj
  simp only[p2',bW,aN p2];by_cases hl:(dW t.aS j.bX).eI=0
  ·have e:((dW t.aS j.bX).eI != 0)=false:=aj
   simp only[e,bV,bR,aP (not_not_intro hl)];by_cases hh:(dW t.aS j.bX).Head=0
   ·have e:((dW t.aS j.bX).Head == 0)=true:=aj
    simp only[e,bW,aN hh];rfl
   ·have e:((dW t.aS j.bX).Head == 0)=false:=aj
    simp only[e,bV,bR,aP hh];rfl
  ·have e:((dW t.aS j.bX).eI != 0)=true:=aj
   simp only[e,bW,aN hl];rfl
 ·have p2':(j.Pc == 2)=false:=aj
  simp only[p2',bV,bR,aP p2];by_cases p3:j.Pc=3
  ·have p3':(j.Pc == 3)=true:=aj
   simp only[p3',bW,aN p3];obtain⟨c,e⟩:=aQH hb.1.1 j.H;rw[e];rfl
  ·have p3':(j.Pc == 3)=false:=aj
   simp only[p3',bV,bR,aP p3];by_cases p4:j.Pc=4
   ·have p4':(j.Pc == 4)=true:=aj
    simp only[p4',bW,aN p4];rw[S1 hb.1.2.1 hw,aL];simp only[C6,nR];have hp:(if(cS t.aA.aC w).On=true then some (!(cS t.aA.aC w).gL) else some false)=some (decide ((cS t.aA.aC w).On=true/\(cS t.aA.aC w).gL=false)):=by cases (cS t.aA.aC w).On<;>cases (cS t.aA.aC w).gL<;>rfl
    rw[hp,aL];by_cases hpin:(cS t.aA.aC w).On=true/\(cS t.aA.aC w).gL=false
    ·simp only[cN hpin,kW,bV,bR,aP (not_not_intro hpin)];by_cases hc:tZ j
     ·simp only[aN hc,kW,bV,bR,aSQ,aL,C7,tG,iset,set2];grind
     ·simp only[aP hc,TB,bW];rfl
    ·simp only[gJ hpin,TB,bW,aN hpin];rfl
   ·have p4':(j.Pc == 4)=false:=aj
    simp only[p4',bV,bR,aP p4];have tail:jI t w (if tZ j then(cD j,true,j) else((⟨0,0,0⟩:iB),false,j)) false=some (aVO t w (if(rX j.Reads j.bX j.eJ).2=false then sE {j with Reads:=(rX j.Reads j.bX j.eJ).1} 7
      else if tZ j then qL {j with Reads:=(rX j.Reads j.bX j.eJ).1} (cD j) j.Node.dM j.Found
      else sE {j with Reads:=(rX j.Reads j.bX j.eJ).1} 1)):=by
     simp only[jI,C8,e62,iset,aL,set2,bV,bR];rw[aIN aa,aL];cases hs:(rX j.Reads j.bX j.eJ).2
     ·rfl
     ·simp only[kW,bV,bR,reduceCtorEq];by_cases hc:tZ j
      ·simp only[aN hc,kW,bV,bR];rw[aQL (j:={j with Reads:=(rX j.Reads j.bX j.eJ).1}) s2 s3 s4];rfl
      ·simp only[aP hc,TB,bW];rfl
    have ab:jI t w (if tZ j then(cD j,true,j) else((⟨0,0,0⟩:iB),false,j)) true=some (aVO t w (sE j 7)):=by simp only[jI,e62,iset,aL,set2,bW];rfl
    by_cases hl:(dW t.aS j.bX).eI=0
    ·have e:((dW t.aS j.bX).eI != 0)=false:=aj
     simp only[e,bV,bR];by_cases hv:(dW t.aS j.bX).eJ=j.eJ
     ·have e:((dW t.aS j.bX).eJ != j.eJ)=false:=aj
      rw[e,tail,aP (show ¬((dW t.aS j.bX).eI≠0\/(dW t.aS j.bX).eJ≠j.eJ) from λq=>q.elim (λh=>h hl) λh=>h hv)];rfl
     ·have e:((dW t.aS j.bX).eJ != j.eJ)=true:=aj
      rw[e,ab,aN (.inr hv)];rfl
    ·have e:((dW t.aS j.bX).eI != 0)=true:=aj
     simp only[e,bW];rw[ab,aN (.inl hl)];rfl
end
def YY(t:Table)(w:Int)(p:aA×aI):Table:={t with aA:=p.1,aR:=t.aR.set w.toNat p.2}
section
variable {t:Table} {w:Int} (h3:t.aR.length=3) (h2:t.aS.length=2) (hb:mV t.aA) (hw:0<=w/\w<=2) (hj:JB (aE t w))
include h3 h2 hb hw hj
theorem a9B:tF t w=some (YY t w (oE t.aA w (aE t w))):=by
 unfold tF oE YY;rw[CX h3 hw,aL,aFY hb hw,aL];generalize aE t w=j at *;generalize iG t.aA w j.Sub=r;cases hd:r.2.gU
 ·rfl
 ·simp only[hd,kW,bV,bR,reduceCtorEq];by_cases p0:j.Pc=0
  ·grind
  ·have e:(j.Pc == 0)=false:=aj
   simp only[e,bV,bR,aP p0];by_cases p20:j.Pc=20
   ·have e:(j.Pc == 20)=true:=aj
    simp only[e,bW,aN p20];rfl
   grind
theorem a33:y8 t w=some (YY t w (vH t.aA w (aE t w))):=by
 obtain⟨s1,s2,s3,s4,s5⟩:=YX h3 h2 hb hw hj;have hjob:=CX h3 hw;have hk:=hj.k;have hn:=hj.new.1;unfold y8 vH YY;rw[hjob,aL,aD0 s2,aL];generalize hjj:aE t w=j at *;have set2:∀x y:aI,(t.aR.set w.toNat x).set w.toNat y=t.aR.set w.toNat y:=λx y=>aTJ ..;have iset:∀x:aI,idx (t.aR.set w.toNat x) w=some x:=λx=>aD7 ⟨hw.1,aa⟩;unfold AD;by_cases hp:fP j.aH j.aH.length<=j.K
 ·grind
 ·rw[gJ hp,gI,aP hp,hjob,aL,aFY hb hw,aL];generalize iG t.aA w j.Sub=r;cases hd:r.2.gU
  ·rfl
  ·have ab:g9 w true {t with aA:=r.1,aR:=t.aR.set w.toNat {j with Sub:=r.2}}=some {t with aA:=r.1,aR:=t.aR.set w.toNat (sE {j with Sub:=r.2} r.2.Code)}:=by simp_all[g9,cJ,sE]
   have go:j.gK.length<6->g9 w false {t with aA:=r.1,aR:=t.aR.set w.toNat {j with Sub:=r.2}}=some {t with aA:=r.1,aR:=t.aR.set w.toNat {j with gK:=j.gK++[r.2.Out],K:=j.K+1,Sub:=zN 1 16}}:=λh6=>by simp only[g9,bV,bR,iset,aL,set2,AB,lP,AA];rw[OE,dU];rfl
   simp only[hd,kW,bV,bR,reduceCtorEq];by_cases hc:r.2.Code=0
   ·have e:(r.2.Code != 0)=false:=aj
    simp only[e,bV,bR,gY,aL];grind
   grind
theorem a9C:qS t w=some (aVO t w (KH t.aS w (aE t w))):=by
 have hjob:=CX h3 hw;have hk:=hj.k;have hr:=hj.reads.1;unfold qS tK KH aVO;rw[hjob,aL,aL];generalize hjj:aE t w=j at *;by_cases hp:(j.Reads.length:Int)<=j.K
 ·grind
 ·have hi:j.K.toNat<j.Reads.length:=aa
  have er:rdN j=j.Reads[j.K.toNat]:=by grind[rdN]
  have hbk:=hr j.Reads[j.K.toNat] (dB hi);rw[aP aj,aP hp,aL,hU hk.1 aa,aL,<-er];rw[<-er] at hbk;unfold tJ tI;rw[aF0 h2 hbk,aL,dU];have ab:fL t w true=some {t with aR:=t.aR.set w.toNat (sE j 7)}:=by simp_all[fL,cJ,sE]
  have go:fL t w false=some {t with aR:=t.aR.set w.toNat {j with K:=j.K+1}}:=by simp only[fL,bV,bR,hjob,aL];grind[cQ]
  grind
theorem aPJ{l:List Seen}(hl:l.length<=1000)(f:Seen->Bool)(g:Seen->Option Bool)(hg:∀x,g x=some (f x)):fQ l g=some (l.any f):=by
 have e:g=λx=>some (f x):=funext hg;rw[e];unfold fQ;rcases aGN (s:=l) (p:=f) aa with ⟨j,h,h1,h2,h3⟩|⟨h1,h3⟩
 ·rw[h3,aL,cN aa];congr 1;exact(List.any_eq_true.2 ⟨l[j],dB h,h2⟩).symm
 ·rw[h3,aL,gJ aa];congr 1;refine(aTG.2 λx hx=>?_).symm;obtain⟨i,hi,rfl⟩:=WT hx;simp[h1 i hi]
def bLK(t:Table)(w:Int)(p:List bX×aI×Bool):Table:={t with aS:=p.1,aR:=t.aR.set w.toNat p.2.1,Log:=t.Log++if p.2.2 then [⟨2,w,(aE t w).aG,0,[],[]⟩] else []}
theorem bD0(hl:t.Log.length<=1000000):CC t w=some (bLK t w (oD t.aS w (aE t w))):=by
 obtain⟨s1,s2,s3,s4,s5⟩:=YX h3 h2 hb hw hj;have hjob:=CX h3 hw;have hk:=hj.k;have hd:=hj.held;have hwr:=hj.wr;unfold CC oD bLK;rw[hjob,aL,aIO (by have:=hwr.1;omega) (λx hx=>(hwr.2.1 x hx).1),aL];generalize hjj:aE t w=j at *;have set2:∀x y:aI,(t.aR.set w.toNat x).set w.toNat y=t.aR.set w.toNat y:=λx y=>aTJ ..;have iset:∀x:aI,idx (t.aR.set w.toNat x) w=some x:=λx=>aD7 ⟨hw.1,aa⟩;have hheld:j.bG.length<=2:=by
  match h:j.bG,hd with
  |[],_=>simp
  |[_],_=>simp
  |[_,_],_=>simp
  |x::y::z::r,⟨hm,hn⟩=>
   (simp_all;omega)
 by_cases hp:j.K<(pR j.aH).length
 ·have hi:j.K.toNat<(pR j.aH).length:=aa
  have er:fU j=(pR j.aH)[j.K.toNat]:=by grind[fU]
  have hbk:0<=fU j/\fU j<=1:=by grind[SY,dB]
  rw[aN aj,aN hp,hU hk.1 hp,aL,<-er,aF0 h2 hbk,aL];have ab:iJ t w (pR j.aH) (fU j) true=some {t with aR:=t.aR.set w.toNat (sE j 7)}:=by simp_all[iJ,cJ,sE]
  have en:∀x:aI,x.K=j.K->x.aG=j.aG->nJ t w (pR j.aH) (fU j) (dW t.aS (fU j)) (t.aR.set w.toNat x) =
    some {t with aS:=t.aS.set (fU j).toNat {dW t.aS (fU j) with eI:=w+1},aR:=t.aR.set w.toNat (if(pR j.aH).length<=j.K+1 then {x with K:=0,Pc:=8} else {x with K:=j.K+1}),Log:=t.Log++if(pR j.aH).length<=j.K+1 then [⟨2,w,j.aG,0,[],[]⟩] else []}:=λx hx hs=>by
   simp only[nJ,nI,tH,iset,set2,aL,hx,hs];rw[dU,dU];by_cases hq:((pR j.aH).length:Int)<=j.K+1
   ·rw[aN aj,OE,aN hq,aN hq]
   grind
  have go:iJ t w (pR j.aH) (fU j) false=some (if(dW t.aS (fU j)).eJ=1000000 then {t with aR:=t.aR.set w.toNat (sE j 3)} else
    {t with aS:=t.aS.set (fU j).toNat {dW t.aS (fU j) with eI:=w+1},aR:=t.aR.set w.toNat (if(pR j.aH).length<=j.K+1 then {IG j with K:=0,Pc:=8} else IG j),Log:=t.Log++if(pR j.aH).length<=j.K+1 then [⟨2,w,j.aG,0,[],[]⟩] else []}):=by
   unfold iJ;rw[gI,aF0 h2 hbk,aL];by_cases hv:(dW t.aS (fU j)).eJ=1000000
   ·simp_all[cJ,sE]
   ·have e:((dW t.aS (fU j)).eJ == 1000000)=false:=aj
    simp only[e,bV,bR,aP hv,hjob,aL];rw[contains_eq (by grind[maxLen]),aL];by_cases hm:fU j∈j.bG
    ·rw[cN hm,gI];have:=en j rfl rfl;rw[show t.aR.set w.toNat j=t.aR by
      rw[<-hjj];unfold aE;rw[DN,iS (show w.toNat<t.aR.length by omega)];simp] at this
     simp_all[IG]
    ·rw[gJ hm,aN ak,OE];unfold DD;rw[en {j with bG:=j.bG++[fU j]} rfl rfl];unfold IG;rw[aP hm]
  have fin:∀B:Bool,iJ t w (pR j.aH) (fU j) B=some (if B=true then {t with aR:=t.aR.set w.toNat (sE j 7)} else if(dW t.aS (fU j)).eJ=1000000 then {t with aR:=t.aR.set w.toNat (sE j 3)} else
    {t with aS:=t.aS.set (fU j).toNat {dW t.aS (fU j) with eI:=w+1},aR:=t.aR.set w.toNat (if(pR j.aH).length<=j.K+1 then {IG j with K:=0,Pc:=8} else IG j),Log:=t.Log++if(pR j.aH).length<=j.K+1 then [⟨2,w,j.aG,0,[],[]⟩] else []}):=λB=>by
   cases B
   ·simp only[bV,bR];exact go
   ·simp only[bW];exact ab
  have cf:fQ j.Reads (λy0=>wG y0 (fU j) (dW t.aS (fU j)))=some (j.Reads.any λs=>s.bX == fU j && s.eJ != (dW t.aS (fU j)).eJ):=
   aPJ h3 h2 hb hw aj aa _ _ λx=>by unfold wG pI;cases x.bX == fU j<;>rfl
  by_cases hl0:(dW t.aS (fU j)).eI=0
  ·have e:((dW t.aS (fU j)).eI != 0)=false:=aj
   simp only[e,bV,bR];rw[cf,aL,fin];by_cases hany:(j.Reads.any λs=>s.bX == fU j && s.eJ != (dW t.aS (fU j)).eJ)=true
   ·grind
   ·rw[aP hany,aP (show ¬((dW t.aS (fU j)).eI≠0\/(j.Reads.any λs=>s.bX == fU j && s.eJ != (dW t.aS (fU j)).eJ)=true) from λq=>q.elim (λa=>a hl0) hany)];by_cases hv:(dW t.aS (fU j)).eJ=1000000
    ·rw[aN hv,aN hv];simp
    ·rw[aP hv,aP hv];by_cases hq:((pR j.aH).length:Int)<=j.K+1
     ·simp only[aN hq];rfl
     ·simp only[aP hq];rfl
  grind
 ·rw[aP aj,aP hp];unfold nI tH;rw[hjob,aL,eG,OE,aL];rfl
end
def aYY(t:Table)(w:Int)(p:aA×List bX×aI):Table:={t with aA:=p.1,aS:=p.2.1,aR:=t.aR.set w.toNat p.2.2}
theorem aMU(hk:0<=j.K/\j.K<=100)(x:aT):oK j x=some (MO j x):=by
 unfold oK MO;cases x.HC
 ·rfl
 ·simp only[bW];grind[cQ]
theorem a9D(hk:0<=j.K):lR j=some (KI j):=by
 unfold lR KI;by_cases h:j.K<j.b9.length
 ·have hi:j.K.toNat<j.b9.length:=aa
  rw[aN aj,aN h,hU hk h,aL];simp only[lP,aL,rQ,DN,iS hi,aCC];rfl
 grind
theorem aYZ(hm:lU m)(hw:0<=w/\w<=2)(x:Int):∃c,MD m w x=some (aVN m w x,c):=by
 obtain⟨hcnt,h3,h9,h1,h2,hsm,hcp,hlo,hsG,hsO⟩:=lU.facts hm;have hbl:m.Heap.Bytes.length<=maxLen:=by grind[maxLen]
 unfold MD aVN;rw[BN hbl aa,cN hm,aL,gI,m0,cN hw,aL];unfold CE;rw[gI,GV hm.1.1.1 aa aa aa,aL];by_cases hl:mN m x
 ·obtain⟨m',e1,e2,_,_⟩:=aJD hm hw hl;simp_all[aD4]
 simp_all[P1]
theorem bD1{l:List O}{a b:Nat}(hab:a<=b)(hb:b<=l.length):((cR l a (l.drop b)).take (a+(l.length-b))).drop 0=l.take a++l.drop b:=by
 have h1:(l.take a).length=a:=aj
 have h2:(l.drop b).length=l.length-b:=ae
 unfold cR;rw[U5,aB9 (l:=l.drop b) aa,<-oV,show a+(l.length-b)=(l.take a++l.drop b).length by grind];grind
theorem aVP(h:0<l.length)(hl:l.length<=1000):pJ l 0 1=some (l.drop 1):=by
 unfold pJ;rw[TA,gI,TA,TA,b7 ai,bD1 ai (show Int.toNat 1<=l.length from h),b7]
 ·rfl
 ·rw[eU ae];simp only[D8,aAA,U6,Int.toNat_zero];omega
section
variable {t:Table} {w:Int} (h3:t.aR.length=3) (h2:t.aS.length=2) (hb:mV t.aA) (hw:0<=w/\w<=2) (hj:JB (aE t w))
include h3 h2 hb hw hj
theorem a9E:y9 t w=some (aYY t w (lV t.aA t.aS (aE t w))):=by
 obtain⟨s1,s2,s3,s4,s5⟩:=YX h3 h2 hb hw hj;have hjob:=CX h3 hw;have hk:=hj.k;have hwr:=hj.wr;have hol:=hj.old.1;unfold y9 AJ lV aYY;rw[hjob,aL,aL];generalize hjj:aE t w=j at *;have set2:∀x y:aI,(t.aR.set w.toNat x).set w.toNat y=t.aR.set w.toNat y:=λx y=>aTJ ..;have iset:∀x:aI,idx (t.aR.set w.toNat x) w=some x:=λx=>aD7 ⟨hw.1,aa⟩;by_cases hp:(j.aH.length:Int)<=j.K
 ·grind
 ·have hi:j.K.toNat<j.aH.length:=aa
  have er:mO j=j.aH[j.K.toNat]:=by grind[mO]
  have hx:=hwr.2.1 j.aH[j.K.toNat] (dB hi);rw[<-er] at hx;have hbk:0<=jD (mO j).Key/\jD (mO j).Key<=1:=by unfold jD;omega
  rw[aP aj,aP hp,aL,hU hk.1 aa,aL,<-er];unfold AI;rw[RE,aL,aF0 h2 hbk,aL,hjob,aL];generalize mO j=x at *;generalize hbb:jD x.Key=bi at *;have ex:(⟨x.Key,x.HC,x.dM⟩:aT)=x:=rfl;rw[ex];by_cases p9:j.Pc=9
  ·have e:(j.Pc == 9)=true:=aj
   simp only[e,bW,aN p9];by_cases hh:(dW t.aS bi).Head=0
   ·have e:((dW t.aS bi).Head == 0)=true:=aj
    simp only[e,bW,aN hh];grind[aMU]
   grind
  ·have e : (j.Pc == 9) = false:=aj
   simp only[e,bV,bR,aP p9];by_cases p10:j.Pc=10
   ·have e:(j.Pc == 10)=true:=aj
    simp only[e,bW,aN p10];obtain⟨c,e⟩:=aQH hb.1.1 j.H;rw[e,aL];simp only;by_cases hkey:(WM t.aA.Mem.Heap j.H).Key=x.Key
    ·grind
    ·have e:((WM t.aA.Mem.Heap j.H).Key == x.Key)=false:=aj
     simp only[e,bV,bR,aP hkey,aSQ,aL];by_cases hs:MN (WM t.aA.Mem.Heap j.H)=0
     ·have e:(MN (WM t.aA.Mem.Heap j.H) == 0)=true:=aj
      simp only[e,bW,aN hs];grind[aMU]
     simp_all[AE]
   ·have e:(j.Pc == 10)=false:=aj
    simp only[e,bV,bR,aP p10];by_cases p11:j.Pc=11
    ·have e:(j.Pc == 11)=true:=aj
     simp only[e,bW,aN p11];have cut:∀u:Table,u.aR=t.aR->mK w x.Key x.HC x.dM u=some {u with aR:=t.aR.set w.toNat (MO (MP j) x)}:=λu hu=>by
      have hju:idx u.aR w=some j:=aj
      have last:∀v:Table,∀y:aI,idx v.aR w=some y->(0<=y.K/\y.K<=100)->mJ w x.Key x.HC x.dM v=some {v with aR:=v.aR.set w.toNat (MO y x)}:=λv y hy hyk=>by simp_all[mJ,aMU]
      unfold mK qT AF MP;rw[hju,aL,gY,aL];by_cases hh:lK j.H
      ·rw[cN hh,aN rfl];by_cases h6:j.b9.length<6
       ·rw[cN aa,aN rfl,aL,OE,last _ {j with b9:=j.b9++[j.H]} aj aj,aN ⟨hh,h6⟩];grind
       grind
      grind
     by_cases hpv:j.gO=0
     ·simp_all[aSQ]
     ·have e:(j.gO == 0)=false:=aj
      simp only[e,bV,bR,aP hpv,aSQ,aL];obtain⟨c,e⟩:=a30 hb.1.1 j.gO (MN j.Node);grind[AG]
    ·have e:(j.Pc == 11)=false:=aj
     simp only[e,bV,bR,aP p11];have hpn:0<=fP j.aH j.K:=by grind[fP]
     have hbs:t.aS.set bi.toNat (dW t.aS bi)=t.aS:=by grind[dW,aPO]
     unfold KY;rw[aD0 s2,aL];by_cases hn:(j.gK.length:Int)<=fP j.aH j.K
     ·rw[aN aj,aN hn];simp only[cJ,aL,hbs];rfl
     ·have hi2:(fP j.aH j.K).toNat<j.gK.length:=aa
      have en:G6 j=j.gK[(fP j.aH j.K).toNat]:=by grind[G6]
      rw[aP aj,aP hn,hU hpn aa,<-en];by_cases p12:j.Pc=12
      ·have e:(j.Pc == 12)=true:=aj
       simp only[e,bW,aN p12,aL];obtain⟨c,e⟩:=aYX hb.1.1 (G6 j) ⟨x.Key,x.dM,(dW t.aS bi).Head⟩;grind[DE]
      ·have e:(j.Pc == 12)=false:=aj
       simp only[e,bV,bR,aP p12,aL];grind[cQ]
def a1O(t:Table)(w:Int)(p:List bX×aI):Table:={t with aS:=p.1,aR:=t.aR.set w.toNat p.2}
theorem a34(hk1:∀x∈t.aS,BkV x):wH t w=some (a1O t w (AO t.aS (aE t w))):=by
 have hjob:=CX h3 hw;have hd:=hj.held;unfold wH AO a1O;rw[hjob,aL];generalize hjj:aE t w=j at *;have hheld:j.bG.length<=2:=by
  match h:j.bG,hd with
  |[],_=>simp
  |[_],_=>simp
  |[_,_],_=>simp
  |x::y::z::r,⟨hm,hn⟩=>
   (simp_all;omega)
 by_cases hp:0<j.bG.length
 ·have er:wQ j=j.bG[0]:=by grind[wQ]
  have hbk:=hd.1 j.bG[0] (dB hp);rw[<-er] at hbk;have hbv:BkV (dW t.aS (wQ j)):=by grind[dW]
  have hver:=hbv.2.1;rw[aN aj,aN hp,show(0:Int)=((0:Nat):Int) from rfl,aW hp,aL,<-er,aF0 h2 hbk,aL];have un:∀k,lS t w k=some {t with aS:=k,aR:=t.aR.set w.toNat {j with bG:=j.bG.drop 1}}:=λk=>by grind[lS,aVP]
  by_cases p14:j.Pc=14
  ·have e:(j.Pc == 14)=true:=aj
   simp only[e,bW,aN p14];grind[cQ]
  ·have e:(j.Pc == 14)=false:=by simpa using p14
   simp only[e,bV,bR,aP p14];rw[un]
 ·rw[aP (by simpa using hp),aP hp];by_cases p16:j.Pc=16
  ·have e:(j.Pc == 16)=true:=by simpa using p16
   simp only[e,bW,aN p16]
  ·have e:(j.Pc == 16)=false:=by simpa using p16
   simp only[e,bV,bR,aP p16];rw[a9D (j:={j with Pc:=15,K:=0}) (KJ _)];rfl
theorem aY0:wI t w=some (YY t w (DL t.aA w (aE t w))):=by
 have hjob:=CX h3 hw;have hk:=hj.k;unfold wI xQ DL YY;rw[hjob,aL,aL];generalize hjj:aE t w=j at *;by_cases hp:(j.b9.length:Int)<=j.K
 ·grind
 ·rw[aP aj,aP hp,aL,aFY hb hw,aL];generalize iG t.aA w j.Sub=r;cases hd:r.2.gU
  ·simp
  ·simp only[hd,bW];grind[cQ,a9D]
theorem drop_eq:CF t w=some (YY t w (DM t.aA w (aE t w))):=by
 have hjob:=CX h3 hw;have hn:=hj.new;unfold CF DM YY;rw[hjob,aL];generalize hjj:aE t w=j at *;by_cases hp:j.gK.length=0
 ·grind
 ·have hp0:0<j.gK.length:=aa
  have er:j.gK.getD 0 0=j.gK[0]:=aj
  have hh:=hn.2 j.gK[0] (dB hp0);rw[<-er] at hh;rw[aP aj,aP hp,show(0:Int)=((0:Nat):Int) from rfl,aW hp0,aL,<-er,show((0:Nat):Int)=0 from rfl,aVP hp0 aa,aL,(lK.mod hh).1,V9 hb.1.2.2.1,aL];by_cases hl:bG t.aA.aQ (j.gK.getD 0 0 % 32)
  ·grind
  ·rw[gJ hl,aN ak,aP hl];obtain⟨c,e⟩:=aYZ hb.1.1 hw (j.gK.getD 0 0);rw[e];rfl
theorem aY1(hl:t.Log.length<=1000000):tL t w=some {t with aR:=t.aR.set w.toNat cZ,Log:=t.Log++[tlE w (aE t w)]}:=by
 have hjob:=CX h3 hw;unfold tL tlE;rw[hjob,aL];generalize hjj:aE t w=j at *;by_cases hc:j.Code=0
 ·have e:(j.Code == 0)=true:=aj
  simp only[e,bW,aN hc];rw[OE];rfl
 ·have e:(j.Code == 0)=false:=aj
  simp only[e,bV,bR,aP hc];rw[OE];rfl
end
theorem a35{b:aA}(hb:mV b)(hw:0<=w/\w<=2):∃c,CG b w=some (c,{b with aC:=(LB b.aC w).1}):=by obtain⟨r,e1,e2,_,_⟩:=aVL hb.1.2.1 hw;rw[aQC hb.1.2.1 hw] at e1;simp_all[CG]
section
variable {t:Table} {w:Int} (h3:t.aR.length=3) (h2:t.aS.length=2) (hb:mV t.aA) (hw:0<=w/\w<=2)
include h3 h2 hb hw
theorem bD2(hq3:t.eF.length=3)(hqv:∀q∈t.eF,q.List.length<=12/\∀b∈q.List,Z4 b)(hs:0<=t.aG/\t.aG<=1000000)(hl:t.Log.length<=1000000) :
  yW t w=some (if(rZ t w).length=0\/t.aG=1000000 then t else sA t w ((rZ t w).getD 0 ⟨false,[]⟩)):=by
 have hqi:w.toNat<t.eF.length:=aa
 have hq:idx t.eF w=some ⟨rZ t w⟩:=by simp_all[hU,rZ]
 have hqm:(⟨rZ t w⟩:aO)∈t.eF:=by unfold rZ;rw[DN,iS hqi];exact dB _
 have hqq:=hqv _ hqm;simp only at hqq;unfold yW;rw[hq,aL];simp only;by_cases h0:(rZ t w).length=0
 ·simp_all[mG]
 ·have e:(((rZ t w).length:Int) == 0)=false:=aj
  rw[aP (by rw[e];simp)];unfold mG;by_cases hm:t.aG=1000000
  ·grind
  ·have e:(t.aG == 1000000)=false:=aj
   have hp0:0<(rZ t w).length:=aa
   have er:(rZ t w).getD 0 ⟨false,[]⟩=(rZ t w)[0]:=aj
   have hbv:=hqq.2 (rZ t w)[0] (dB hp0);rw[<-er] at hbv;rw[aP (by rw[e];simp),hq,aL];simp only;have i0:idx (rZ t w) 0=some ((rZ t w)[0]):=aW hp0;rw[i0,aL,<-er,aP (λq=>q.elim h0 hm)];unfold LI;rw[TA,aL];generalize hbb:(rZ t w).getD 0 ⟨false,[]⟩=b at *;simp only[lP,aL];unfold z7;have fin:∀x:aI,x.aG=t.aG+1->x.Batch.Collect=b.Collect->mF t w ⟨rZ t w⟩ b x=some ⟨t.aA,t.aS,t.aR.set w.toNat {x with Batch:=⟨x.Batch.Collect,b.bM⟩,Reads:=[],aH:=[],fV:=[],gK:=[],bG:=[],b9:=[]},t.eF.set w.toNat ⟨(rZ t w).drop 1⟩,t.Log++[⟨1,w,t.aG+1,0,b.bM,[]⟩],t.aG+1⟩:=λx hx _=>by unfold mF kZ z6;rw[CX h3 hw,aL,b7 (by have:=hbv.2.1;simp;omega),aL,OE,hx,dU];rfl
   have e1:bE (t.aG+1)=t.aG+1:=dU;unfold sA jG;cases hc:b.Collect
   ·rw[gI,fin _ aa aj];simp only[e1,hc,bV,bR];have eb:(⟨false,b.bM⟩:Batch)=b:=by cases b;grind
    rw[eb];rfl
   ·rw[aN rfl];simp only[lP,aL];rw[fin _ aa aj];simp only[e1,hc,bW];have eb:(⟨true,b.bM⟩:Batch)=b:=by cases b;grind
    rw[eb];rfl
end
theorem UY(t:Table)(w:Int)(p:aA×aI):yL t w ⟨p.1,t.aS,p.2,[]⟩=YY t w p:=by grind[yL,YY]
theorem aVQ(hv:TV t)(hl:t.Log.length<=1000000)(hw:0<=w/\w<=2):uU t w=some (bH t w):=by
 have h3:=hv.yN.1;have h2:=hv.bk.1;have hb:=hv.base;have hjob:=CX h3 hw;have hjv:=hv.yN.2 _ (zP h3 hw);unfold uU bH;rw[hjob,aL];cases hbusy:(aE t w).bU
 ·simp only[TB,bW,bV,bR];rw[bD2 h3 h2 hb hw hv.todo.1 hv.todo.2 hv.ser hl];rfl
 ·have hj : JB (aE t w):=hjv.resolve_left λe=>by rw[e] at hbusy; cases hbusy
  simp only[kW,bV,bR,bW];unfold fF;by_cases p0:(aE t w).Pc=0\/(aE t w).Pc=20\/(aE t w).Pc=21
  ·rw[aN p0,UY];have go:jM t w (aE t w) true=some (YY t w (oE t.aA w (aE t w))):=by simp_all[jM,a9B]
   grind
  ·rw[aP p0];have e0:((aE t w).Pc == 0)=false:=ah
   have e20:((aE t w).Pc == 20)=false:=ah
   have e21:((aE t w).Pc == 21)=false:=ah
   simp only[e0,e20,e21,bV,bR];unfold jM;simp only[bV,bR,cV,aL];by_cases p1:(aE t w).Pc=1
   ·have e:((aE t w).Pc == 1)=true:=aj
    simp_all[YX,a9A,yL]
   ·have e : ((aE t w).Pc == 1) = false:=aj
    simp only[e,bV,bR,aP p1];by_cases p2:2<=(aE t w).Pc/\(aE t w).Pc<=5
    ·simp_all[bDZ,yL,aVO]
    ·simp only[gJ p2,bV,bR,aP p2];by_cases p6:(aE t w).Pc=6
     ·simp_all[a33,UY]
     ·have e : ((aE t w).Pc == 6) = false:=aj
      simp only[e,bV,bR,aP p6];by_cases p7:(aE t w).Pc=7
      ·have e:((aE t w).Pc == 7)=true:=aj
       simp only[e,bW,aN p7];rw[bD0 h3 h2 hb hw hj hl];rfl
      ·have e : ((aE t w).Pc == 7) = false:=aj
       simp only[e,bV,bR,aP p7];by_cases p8:(aE t w).Pc=8
       ·simp_all[a9C,yL,aVO]
       ·have e : ((aE t w).Pc == 8) = false:=aj
        simp only[e,bV,bR,aP p8];by_cases p9:9<=(aE t w).Pc/\(aE t w).Pc<=13
        ·simp_all[a9E,yL,aYY]
        ·simp only[gJ p9,bV,bR,aP p9];by_cases p14:(aE t w).Pc=14\/(aE t w).Pc=16
         ·rw[aN p14];have go:lC t w (aE t w) true=some (a1O t w (AO t.aS (aE t w))):=by unfold lC;rw[aN rfl,a34 h3 h2 hb hw hj hv.bk.2];rfl
          grind[a1O,yL]
         ·have e14:((aE t w).Pc == 14)=false:=ah
          have e16:((aE t w).Pc == 16)=false:=ah
          simp only[e14,e16,bV,bR,aP p14];unfold lC;simp only[bV,bR];by_cases p15:(aE t w).Pc=15
          ·simp_all[aY0,UY]
          ·have e:((aE t w).Pc == 15)=false:=aj
           simp only[e,bV,bR,aP p15];by_cases p17:(aE t w).Pc=17
           ·simp_all[drop_eq,UY]
           ·have e:((aE t w).Pc == 17)=false:=aj
            simp only[e,bV,bR,aP p17];by_cases p18:(aE t w).Pc=18
            ·have e:((aE t w).Pc == 18)=true:=aj
             simp only[e,bW,aN p18];grind[a35,yL]
            ·have e:((aE t w).Pc == 18)=false:=aj
             simp only[e,bV,bR,aP p18];by_cases p19:(aE t w).Pc=19
             ·have e:((aE t w).Pc == 19)=true:=aj
              simp only[e,bW,aN p19];rw[aY1 h3 h2 hb hw hj hl];rfl
             simp_all[yL,cJ,sE]
def aSR(o:List aT)(x:aT):List aT:=o.takeWhile (λy=>!decide (x.Key<y.Key))++[x]++o.dropWhile (λy=>!decide (x.Key<y.Key))
theorem aQM(y:aT)(r:List aT)(x:aT):aSR (y::r) x=if x.Key<y.Key then x::y::r else y::aSR r x:=by grind[aSR,List.takeWhile_cons,List.dropWhile_cons]
theorem aMV(o:List aT)(x z:aT):z∈aSR o x↔z=x\/z∈o:=by
 induction o with
 |nil=>simp[aSR]
 |cons y r ih=>
  grind[aQM]
theorem aVR{o:List aT}{x:aT}(hs:o.Pairwise (λa b=>a.Key<b.Key))(hx:∀y∈o,y.Key≠x.Key):(aSR o x).Pairwise (λa b=>a.Key<b.Key):=by
 induction o with
 |nil=>simp[aSR]
 |cons y r ih=>
  grind[aQM,aJ3,aMV]
theorem a9F{l:List aT}(h:WrV l){x:aT}(hx:(0<=x.Key/\x.Key<=99)/\(0<=x.dM/\x.dM<=65535))(hl:(vF l x).length<=6):WrV (vF l x):=by
 refine⟨hl,λy hy=>?_,?_⟩
 ·rcases(aMV _ _ _).1 (show y∈aSR _ x from hy) with rfl|hy
  ·exact hx
  ·exact h.2.1 y (aJ1.1 hy).1
 ·exact aVR (h.2.2.sublist List.filter_sublist) λy hy=>aj
theorem a9G{a b:Int}(ha:0<=a/\a<=4294967295)(hb:0<=b/\b<=65535):0<=G5 a b/\G5 a b<=65535:=by grind[G5,cQ]
section
variable {j:aI} (hj:JB j)
include hj
theorem JB.ab(c:Int):JB (sE j c):=⟨hj.busy,hj.WR,hj.h,hj.prev,hj.bkt,hj.at_,hj.k,hj.new,hj.old,hj.reads,hj.wr,hj.held,hj.res,hj.node⟩
theorem JB.pc(p:Int):JB {j with Pc:=p}:=⟨hj.busy,hj.WR,hj.h,hj.prev,hj.bkt,hj.at_,hj.k,hj.new,hj.old,hj.reads,hj.wr,hj.held,hj.res,hj.node⟩
theorem JB.sub(s:Sub):JB {j with Sub:=s}:=⟨hj.busy,hj.WR,hj.h,hj.prev,hj.bkt,hj.at_,hj.k,hj.new,hj.old,hj.reads,hj.wr,hj.held,hj.res,hj.node⟩
theorem JB.kk{k:Int}(h:0<=k/\k<=6):JB {j with K:=k}:=⟨hj.busy,hj.WR,hj.h,hj.prev,hj.bkt,hj.at_,h,hj.new,hj.old,hj.reads,hj.wr,hj.held,hj.res,hj.node⟩
theorem JB.nd{n:gN}(h:0<=n.dM/\n.dM<=4294967295):JB {j with Node:=n}:=⟨hj.busy,hj.WR,hj.h,hj.prev,hj.bkt,hj.at_,hj.k,hj.new,hj.old,hj.reads,hj.wr,hj.held,hj.res,h⟩
theorem JB.hh(h:oB x):JB {j with H:=x}:=⟨hj.busy,hj.WR,h,hj.prev,hj.bkt,hj.at_,hj.k,hj.new,hj.old,hj.reads,hj.wr,hj.held,hj.res,hj.node⟩
theorem JB.pv(h:oB x):JB {j with gO:=x}:=⟨hj.busy,hj.WR,hj.h,h,hj.bkt,hj.at_,hj.k,hj.new,hj.old,hj.reads,hj.wr,hj.held,hj.res,hj.node⟩
theorem JB.rd2:j.Reads.length<=2:=by
 have hn:=hj.reads.2;have hm:∀x∈j.Reads.map Seen.bX,x=0\/x=1:=λx hx=>by obtain⟨s,hs,rfl⟩:=AR.1 hx;have:=hj.reads.1 s hs;omega
 have hl:(j.Reads.map Seen.bX).length<=2:=by
  match h:j.Reads.map Seen.bX,hn,hm with
  |[],_,_=>simp
  |[_],_,_=>simp
  |[_,_],_,_=>simp
  |x::y::z::r,hn,hm=>
   (simp_all;omega)
 grind
theorem JB.cmd(h:tZ j):RJ (cD j):=by
 have ha:=hj.at_;have hi:j.At.toNat<j.Batch.bM.length:=by grind[tZ]
 unfold cD;rw[DN,iS hi];exact hj.WR.2.2.1 _ (dB hi)
theorem JB.UX(h:tZ j)(is:Bool)(v:Int):JB (Gv.UX j is v):=by have h':j.At<j.Batch.bM.length:=h;have ha:=hj.at_;have hr:=hj.res;exact⟨hj.busy,hj.WR,hj.h,hj.prev,hj.bkt,⟨by show 0<=j.At+1;omega,by show j.At+1<=(j.Batch.bM.length:Int);omega⟩,hj.k,hj.new,hj.old,hj.reads,hj.wr,hj.held,by show(((j.fV++[_]).length:Nat):Int)=j.At+1;simp;omega,hj.node⟩
theorem JB.rcw{x:aT}(hx:(0<=x.Key/\x.Key<=99)/\(0<=x.dM/\x.dM<=65535)):JB (nT j x).2:=by
 unfold nT;split
 ·exact hj.ab 1
 ·exact⟨hj.busy,hj.WR,hj.h,hj.prev,hj.bkt,hj.at_,hj.k,hj.new,hj.old,hj.reads,a9F hj.wr hx aa,hj.held,hj.res,hj.node⟩
theorem aMW(x:aT):(nT j x).2.Batch=j.Batch:=by grind[nT,sE]
theorem JB.ans(h:tZ j){c:iB}(hc:RJ c){v:Int}(hv:0<=v/\v<=4294967295)(is:Bool):JB (qL j c v is):=by
 unfold qL;split
 ·have hv':0<=(if is then v else 0)/\(if is then v else 0)<=4294967295:=aa
  generalize (if is then v else 0)=u at hv';unfold WN;have hr:=hj.rcw (x:=⟨c.Key,false,G5 u c.dM⟩) ⟨hc.2.1,a9G hv' hc.2.2.1⟩;split
  ·refine hr.UX ?_ _ _;grind[tZ,aMW,aFZ]
  ·exact hr
 ·exact hj.UX h _ _
theorem JB.jnx:JB (qH j):=by
 unfold qH;split
 ·rename_i h;have hc:=hj.cmd h;have h':j.At<j.Batch.bM.length:=h;have ha:=hj.at_;have hr:=hj.res;split
  ·have hr':=hj.rcw (x:=⟨(cD j).Key,(cD j).Kind == 3,(cD j).dM⟩) ⟨hc.2.1,hc.2.2.1⟩;split
   ·refine⟨hr'.busy,hr'.WR,hr'.h,hr'.prev,hr'.bkt,⟨aj,?_⟩,hr'.k,hr'.new,hr'.old,hr'.reads,hr'.wr,hr'.held,aj,hr'.node⟩;grind[aMW]
   ·exact hr'
  ·split
   ·refine hj.ans h hc ?_ _;unfold OT;split
    ·rename_i x hf;have:=hj.wr.2.1 x (List.mem_of_find?_eq_some hf);grind
    simp
   ·exact⟨hj.busy,hj.WR,hj.h,hj.prev,by show 0<=jD _/\jD _<=1;unfold jD;rw[aN hc.2.1];omega,hj.at_,hj.k,hj.new,hj.old,hj.reads,hj.wr,hj.held,hj.res,hj.node⟩
 ·exact((hj.pc 6).kk (k:=0) aa).sub _
theorem JB.spt(b v:Int)(hb:0<=b/\b<=1):JB {j with Reads:=(rX j.Reads b v).1}:=by
 refine⟨hj.busy,hj.WR,hj.h,hj.prev,hj.bkt,hj.at_,hj.k,hj.new,hj.old,?_,hj.wr,hj.held,hj.res,hj.node⟩;show(∀s∈(rX j.Reads b v).1,0<=s.bX/\s.bX<=1)/\((rX j.Reads b v).1.map Seen.bX).Nodup;unfold rX;split
 ·exact hj.reads
 ·rename_i hf;refine⟨λs hs=>?_,?_⟩
  ·rcases dE.1 hs with hs|hs
   ·exact hj.reads.1 s hs
   grind
  ·rw[sH,aJ2];refine⟨hj.reads.2,ae,λa ha c hc=>?_⟩;grind
theorem JB.pl(h:j.K<j.aH.length)(x:aT):JB (MO j x):=by
 have hk:=hj.k;have hw:=hj.wr.1;unfold MO;split
 ·exact(hj.pc 9).kk (k:=j.K+1) aa
 ·exact hj.pc 12
theorem JB.bNV:JB (MP j):=by
 unfold MP;split
 ·rename_i h;refine⟨hj.busy,hj.WR,hj.h,hj.prev,hj.bkt,hj.at_,hj.k,hj.new,⟨aj,λx hx=>?_⟩,hj.reads,hj.wr,hj.held,hj.res,hj.node⟩;rcases dE.1 hx with hx|hx
  ·exact hj.old.2 x hx
  grind
 ·exact hj
theorem JB.rtn:JB (KI j):=by
 unfold KI;split
 ·exact hj.sub _
 ·exact hj
end
theorem bD3(h:sN l){a:Nat}(ha:a+4<=l.length):0<=ld l a 4/\ld l a 4<=4294967295:=by
 rw[ld4 ha];have b:∀k,k<l.length->0<=bt l k/\bt l k<=255:=λk hk=>by rw[<-aMH hk];exact h _ (dB hk)
 grind
theorem aVS(hm:lU m)(x:Int):0<=(WM m.Heap x).dM/\(WM m.Heap x).dM<=4294967295:=by
 unfold WM;split
 ·rename_i h;have hr:=(DJ h.2.1 h.2.2).1;have h1:=hm.1.1.1.1;exact bD3 hm.1.1.1.2.2.1 aa
 ·show(0:Int)<=0/\(0:Int)<=4294967295;omega
theorem S5(l:List aT)(n:Int):fP l n<=l.length:=by grind[fP]
theorem aSS{k:List bX}{i:Int}(h2:k.length=2)(hi:0<=i/\i<=1):dW k i∈k:=by grind[dW]
theorem aJG{k:List bX}(h:k.length=2/\∀x∈k,BkV x)(i:Nat){y:bX}(hy:BkV y):(k.set i y).length=2/\∀x∈k.set i y,BkV x:=
 ⟨aj,λx hx=>(qW hx).elim (h.2 x) λe=>e ▸ hy⟩
theorem bIW{b:aA}(hb:mV b)(hw:0<=w/\w<=2)(hx:lK x)(hn:¬bG b.aQ (x % 32)):mV {b with Mem:=aVN b.Mem w x}:=by
 unfold aVN;by_cases hl:mN b.Mem x
 ·obtain⟨m',e1,e2,_,h⟩:=aJD hb.1.1 hw hl;rw[aD4 hb.1.1 hw hl] at e1;injection e1 with e1
  rw[aN hl,e1];refine⟨⟨h.1,hb.1.2⟩,λr hr=>⟨h.live (hb.2 r hr).1 ?_,(hb.2 r hr).2⟩⟩;intro e;exact hn ⟨r,hr,(hb.2 r hr).1.1,e⟩
 simp_all
structure TRV (r:TR):Prop where
 b:mV r.b
 k:r.k.length=2/\∀x∈r.k,BkV x
 j:r.j=cZ\/JB r.j
theorem aIS{c:Prop}[Decidable c]{a b:TR}(h1:c->TRV a)(h2:¬c->TRV b):TRV (if c then a else b):=aj
theorem bIX{b:aA}{k:List bX}(hb:mV b)(hk:k.length=2/\∀x∈k,BkV x)(hw:0<=w/\w<=2)(hj:JB j):TRV (fF b k w j):=by
 have hkk:=hj.k;have hwr:=hj.wr;have hrd:=hj.rd2;have hbs:=bDW hb hw j.Sub;have bkv:∀{i},0<=i/\i<=1->BkV (dW k i):=λhi=>hk.2 _ (aSS hk.1 hi);unfold fF;refine aIS (λ_=>?_) λ_=>?_
 ·refine⟨hbs,hk,.inr ?_⟩;unfold oE;split
  ·exact hj.sub _
  ·split
   ·exact(hj.pc 1).sub _
   ·split
    ·exact(hj.pc 21).sub _
    ·exact(hj.pc 19).sub _
 refine aIS (λ_=>?_) λ_=>?_
 ·exact⟨hb,hk,.inr hj.jnx⟩
 refine aIS (λ_=>?_) λ_=>?_
 ·refine⟨hb,hk,.inr ?_⟩;unfold iM;have hbk:=bkv hj.bkt;split
  ·split
   ·exact hj.ab _
   ·have h1:JB {j with eJ:=(dW k j.bX).eJ}:=⟨hj.busy,hj.WR,hj.h,hj.prev,hj.bkt,hj.at_,hj.k,hj.new,hj.old,hj.reads,hj.wr,hj.held,hj.res,hj.node⟩;have h2:JB {j with eJ:=(dW k j.bX).eJ,Found:=false}:=⟨hj.busy,hj.WR,hj.h,hj.prev,hj.bkt,hj.at_,hj.k,hj.new,hj.old,hj.reads,hj.wr,hj.held,hj.res,hj.node⟩;exact((h2.hh hbk.1).nd (n:=aQG) (by show(0:Int)<=0/\(0:Int)<=4294967295;omega)).pc _
  ·split
   ·exact(hj.nd (aVS hb.1.1 _)).pc _
   ·split
    ·split
     ·exact hj.ab _
     ·split
      ·have h1:JB {j with Found:=j.Node.Key == (cD j).Key}:=⟨hj.busy,hj.WR,hj.h,hj.prev,hj.bkt,hj.at_,hj.k,hj.new,hj.old,hj.reads,hj.wr,hj.held,hj.res,hj.node⟩;exact(h1.hh (aFX _)).pc _
      ·exact hj.ab _
    ·split
     ·exact hj.ab _
     ·have hs:=hj.spt j.bX j.eJ hj.bkt;split
      ·exact hs.ab _
      ·split
       ·rename_i h;exact hs.ans h (hj.cmd h) hj.node _
       ·exact hs.ab _
 refine aIS (λ_=>?_) λ_=>?_
 ·unfold vH;split
  ·exact⟨hb,hk,.inr ((hj.pc 7).kk (k:=0) aa)⟩
  ·rename_i hp;have:=S5 j.aH j.aH.length;have:=hwr.1;refine⟨hbs,hk,.inr ?_⟩;simp only;split
   ·exact hj.sub _
   ·split
    ·exact(hj.sub _).ab _
    ·rename_i hq;have q1:lK (iG b w j.Sub).2.Out:=Classical.byContradiction λq=>hq (.inr (.inl q));have q2:j.gK.length<6:=aa
     refine⟨hj.busy,hj.WR,hj.h,hj.prev,hj.bkt,hj.at_,⟨aj,aj⟩,⟨aj,λx hx=>?_⟩,hj.old,hj.reads,hj.wr,hj.held,hj.res,hj.node⟩;rcases dE.1 hx with hx|hx
     ·exact hj.new.2 x hx
     grind
 refine aIS (λ_=>?_) λ_=>?_
 ·have ht:=aSJ j.aH;unfold oD;split
  ·rename_i hp;have hi:j.K.toNat<(pR j.aH).length:=aa
   have er:fU j=(pR j.aH)[j.K.toNat]:=by grind[fU]
   have hbk:0<=fU j/\fU j<=1:=by grind[SY,dB]
   have hbv:=bkv hbk;have hset:=aJG hk (fU j).toNat (y:={dW k (fU j) with eI:=w+1}) ⟨hbv.1,hbv.2.1,aj⟩;have hlh:JB (IG j):=by
    refine⟨hj.busy,hj.WR,hj.h,hj.prev,hj.bkt,hj.at_,⟨by show 0<=j.K+1;omega,by show j.K+1<=6;omega⟩,hj.new,hj.old,hj.reads,hj.wr,?_,hj.res,hj.node⟩;show(∀x∈(if fU j∈j.bG then j.bG else j.bG++[fU j]),0<=x/\x<=1)/\(if fU j∈j.bG then j.bG else j.bG++[fU j]).Nodup;split
    ·exact hj.held
    ·rename_i hm;refine⟨λx hx=>?_,?_⟩
     ·rcases dE.1 hx with hx|hx
      ·exact hj.held.1 x hx
      grind
     ·rw[aJ2];exact⟨hj.held.2,ae,λa ha c hc e=>aj⟩
   split
   ·exact⟨hb,hk,.inr (hj.ab _)⟩
   ·split
    ·exact⟨hb,hk,.inr (hj.ab _)⟩
    ·split
     ·exact⟨hb,hset,.inr ((hlh.pc 8).kk (k:=0) aa)⟩
     ·exact⟨hb,hset,.inr hlh⟩
  ·exact⟨hb,hk,.inr ((hj.pc 8).kk (k:=0) aa)⟩
 refine aIS (λ_=>?_) λ_=>?_
 ·refine⟨hb,hk,.inr ?_⟩;unfold KH;split
  ·exact(hj.pc 9).kk (k:=0) aa
  ·split
   ·exact hj.ab _
   ·exact hj.kk (k:=j.K+1) aa
 refine aIS (λ_=>?_) λ_=>?_
 ·have hwl:=hwr.1;unfold lV;split
  ·exact⟨hb,hk,.inr (hj.pc 14)⟩
  ·rename_i hp;have hi:j.K.toNat<j.aH.length:=aa
   have er:mO j=j.aH[j.K.toNat]:=by grind[mO]
   have hx:=hwr.2.1 j.aH[j.K.toNat] (dB hi);rw[<-er] at hx;have hbk:0<=jD (mO j).Key/\jD (mO j).Key<=1:=by unfold jD;omega
   have hbv:=bkv hbk;have l0:oB 0:=.inl rfl;split
   ·have h1:=((hj.pc 10).hh hbv.1).pv l0;refine⟨hb,hk,.inr ?_⟩;simp only;split
    ·exact h1.pl aj _
    ·exact h1
   ·split
    ·have h1:=hj.nd (aVS hb.1.1 j.H);refine⟨hb,hk,.inr ?_⟩;simp only;split
     ·exact h1.pc 11
     ·split
      ·exact h1.pl aj _
      ·exact(h1.hh (aFX _)).pv hj.h
    ·split
     ·have h1:=hj.bNV;have hkl:(MP j).K<(MP j).aH.length:=by grind[MP]
      split
      ·exact⟨hb,aJG hk _ ⟨aFX _,hbv.2⟩,.inr (h1.pl hkl _)⟩
      ·exact⟨hb.mem (a87 hb.1.1 _ _),hk,.inr (h1.pl hkl _)⟩
     ·split
      ·exact⟨hb,hk,.inr (hj.ab _)⟩
      ·rename_i hn;have hpn:0<=fP j.aH j.K:=by grind[fP]
       have hi2:(fP j.aH j.K).toNat<j.gK.length:=aa
       have en:G6 j=j.gK[(fP j.aH j.K).toNat]:=by grind[G6]
       have hnew:lK (G6 j):=by rw[en];exact hj.new.2 _ (dB hi2)
       split
       ·exact⟨hb.mem (a86 hb.1.1 _ _),hk,.inr (hj.pc 13)⟩
       ·exact⟨hb,aJG hk _ ⟨.inr hnew,hbv.2⟩,.inr ((hj.pc 9).kk (k:=j.K+1) aa)⟩
 refine aIS (λ_=>?_) λ_=>?_
 ·unfold AO;split
  ·rename_i hp;have er:wQ j=j.bG[0]:=by grind[wQ]
   have hbk:=hj.held.1 j.bG[0] (dB hp);rw[<-er] at hbk;have hbv:=bkv hbk;have hver:=hbv.2.1;refine⟨hb,aJG hk _ ?_,.inr ⟨hj.busy,hj.WR,hj.h,hj.prev,hj.bkt,hj.at_,hj.k,hj.new,hj.old,hj.reads,hj.wr,⟨λx hx=>hj.held.1 x (RN hx),hj.held.2.sublist (List.drop_sublist _ _)⟩,hj.res,hj.node⟩⟩;split
   ·refine⟨hbv.1,?_,ae⟩;grind
   ·exact⟨hbv.1,hbv.2.1,ae⟩
  ·split
   ·exact⟨hb,hk,.inr (hj.pc 17)⟩
   ·exact⟨hb,hk,.inr (((hj.pc 15).kk (k:=0) aa).rtn)⟩
 refine aIS (λ_=>?_) λ_=>?_
 ·have hol:=hj.old.1;unfold DL;split
  ·exact⟨hb,hk,.inr (hj.pc 18)⟩
  ·refine⟨hbs,hk,.inr ?_⟩;simp only;split
   ·exact((hj.kk (k:=j.K+1) aa).sub _).rtn
   ·exact hj.sub _
 refine aIS (λ_=>?_) λ_=>?_
 ·unfold DM;split
  ·exact⟨hb,hk,.inr (hj.pc 18)⟩
  ·rename_i hp;have hp0:0<j.gK.length:=aa
   have er:j.gK.getD 0 0=j.gK[0]:=aj
   have hh:=hj.new.2 j.gK[0] (dB hp0);rw[<-er] at hh;refine⟨?_,hk,.inr ⟨hj.busy,hj.WR,hj.h,hj.prev,hj.bkt,hj.at_,hj.k,⟨by show(j.gK.drop 1).length<=6;have:=hj.new.1;simp;omega,λx hx=>hj.new.2 x (RN hx)⟩,hj.old,hj.reads,hj.wr,hj.held,hj.res,hj.node⟩⟩;grind[bIW]
 refine aIS (λ_=>?_) λ_=>?_
 ·obtain⟨r,e1,e2,h1,h2⟩:=aVL hb.1.2.1 hw;rw[aQC hb.1.2.1 hw] at e1;injection e1 with e1
  refine⟨hb.clock aj aj,hk,.inr (hj.pc 19)⟩
 refine aIS (λ_=>?_) λ_=>?_
 ·exact⟨hb,hk,.inl rfl⟩
 ·exact⟨hb,hk,.inr (hj.ab 1)⟩
theorem a9H{b:Batch}(hb:Z4 b)(s:Int):JB (jG b s):=
 ⟨rfl,hb,.inl rfl,.inl rfl,by simp[jG],by simp[jG],by simp[jG],by simp[jG],by simp[jG],by simp[jG],⟨by simp[jG],by simp[jG],by simp[jG]⟩,by simp[jG],by simp[jG],by show(0:Int)<=0/\(0:Int)<=4294967295;omega⟩
theorem TV.step(hv:TV t)(hw:0<=w/\w<=2):TV (bH t w):=by
 have hjv:=hv.yN.2 _ (zP hv.yN.1 hw);have setj:∀{x:aI},(x=cZ\/JB x)->(t.aR.set w.toNat x).length=3/\∀j∈t.aR.set w.toNat x,j=cZ\/JB j:=λhx=>
  ⟨by simpa using hv.yN.1,λj hj=>(qW hj).elim (hv.yN.2 j) λe=>e ▸ hx⟩
 unfold bH;split
 ·rename_i hbusy;have hj:JB (aE t w):=hjv.resolve_left λe=>by rw[e] at hbusy;cases hbusy
  have h:=bIX hv.base hv.bk hw hj;exact⟨h.b,h.k,setj h.j,hv.todo,hv.ser⟩
 ·split
  ·exact hv
  ·rename_i hq;have hqi:w.toNat<t.eF.length:=by have:=hv.todo.1;omega
   have hqm:(⟨rZ t w⟩:aO)∈t.eF:=by unfold rZ;rw[DN,iS hqi];exact dB _
   have hqq:(rZ t w).length<=12/\∀b∈rZ t w,Z4 b:=hv.todo.2 _ hqm;have hp0:0<(rZ t w).length:=aa
   have er:(rZ t w).getD 0 ⟨false,[]⟩=(rZ t w)[0]:=aj
   have hbv:=hqq.2 (rZ t w)[0] (dB hp0);rw[<-er] at hbv;have hs:=hv.ser;have hsn:t.aG≠1000000:=λe=>hq (.inr e);unfold sA;refine⟨hv.base,hv.bk,setj (.inr (a9H hbv _)),⟨by simpa using hv.todo.1,λq hq'=>?_⟩,⟨aj,aj⟩⟩;rcases qW hq' with h|h
   ·exact hv.todo.2 q h
   ·subst h;exact⟨aj,λb hb=>hqq.2 b (RN hb)⟩
theorem aY2(c:iB):TQ c=some (decide (RJ c)):=by
 unfold TQ IP IN;simp only[fW,aL];by_cases h1:1<=c.Kind/\c.Kind<=4
 ·by_cases h2:0<=c.Key/\c.Key<=99
  ·simp only[cN h1,cN h2,kW,bV,bR];have dv:(c.Kind=2\/c.Kind=4)->decide (0<=c.dM/\c.dM<=65535)=decide (RJ c):=λk=>by rw[HP,decide_eq_true_eq,decide_eq_true_eq];exact⟨λh=>⟨h1,h2,h,aa⟩,λh=>h.2.2.1⟩
   by_cases k2:c.Kind=2
   ·grind
   ·have e:(c.Kind == 2)=false:=aj
    by_cases k4:c.Kind=4
    ·grind
    ·have e4:(c.Kind == 4)=false:=aj
     simp only[e,e4,bV,bR];congr 1;rw[HP,beq_iff_eq,decide_eq_true_eq];constructor
     ·intro h;exact⟨h1,h2,aa,.inr (.inr h)⟩
     ·rintro⟨_,_,_,h|h|h⟩<;>omega
  simp_all[gJ,RJ]
 ·simp only[gJ h1,TB,bW];grind[RJ]
theorem aY3(c:iB):C2 c=some (decide (RJ c)):=by
 have key:∀B:Bool,pY c B=some (decide ((1<=c.Kind/\c.Kind<=4)/\(0<=c.Key/\c.Key<=99)/\((B=true/\(0<=c.dM/\c.dM<=65535))\/c.dM=0))):=λB=>by unfold pY mW;simp only[cV,aL];grind
 unfold C2;have fin:∀B:Bool,(B=true↔c.Kind=2\/c.Kind=4)->pY c B=some (decide (RJ c)):=λB hB=>by rw[key];congr 1;rw[HP,decide_eq_true_eq,decide_eq_true_eq];grind[RJ]
 grind
theorem aY4{b:Batch}(hl:b.bM.length<=1000):LR b=some (decide (Z4 b)):=by
 unfold LR;cases hc:b.Collect
 ·rw[gI];have hs:∀k (hk:k<b.bM.length),oF b (k:Int)=if RJ b.bM[k] then some (.next ((k+1:Nat):Int)) else some (.stop (Out.ret false)):=λk hk=>by simp only[oF];rw[eG,aW hk,aL,aY2,aL,dU];simp
  have key:loop (oF b) 0=_:=ID (f:=oF b) b.bM (λk=>(k:Int)) RJ (Out.brk ()) (Out.ret false) (λk hk hp=>aj) (λk hk hp=>aj) (by simp[oF]);rw[key];by_cases q:∀x∈b.bM,RJ x
  ·rw[aN q];simp only[aL,VE,VD,fW];congr 1;rw[HP,decide_eq_true_eq,decide_eq_true_eq];exact⟨λa=>⟨λh=>aj,aa,q,λ_=>aa⟩,λa=>by have:=a.2.2.2 hc;have:=a.2.1;omega⟩
  ·rw[aP q,gJ (show ¬Z4 b from λa=>q a.2.2.1)];rfl
 ·rw[aN rfl];congr 1;rw[HP,beq_iff_eq,decide_eq_true_eq];constructor
  ·intro h;have h0:b.bM=[]:=uF aa;exact⟨λ_=>h0,aa,aj,λh=>aj⟩
  ·intro h;rw[h.1 hc];rfl
def BsV(l:List Batch):Prop:=∀b∈l,Z4 b
instance (l:List Batch):Decidable (BsV l):=by unfold BsV;infer_instance
theorem aY5{l:List aO}(hl:l.length<=1000)(hb:∀q∈l,∀b∈q.List,b.bM.length<=1000):LS l=some (decide (S4 l)):=by
 unfold LS;have inner:∀k (hk:k<l.length),l[k].List.length<=12->loop (oG l (k:Int)) 0=some (if BsV l[k].List then Out.brk () else Out.ret false):=by
  intro k hk h12;have hs:∀j (hj:j<l[k].List.length),oG l (k:Int) (j:Int)=if Z4 l[k].List[j] then some (.next ((j+1:Nat):Int)) else some (.stop (Out.ret false)):=by intro j hj;simp only[oG];rw[aW hk,aL,eG,aL,aW hj,aL,aY4 (hb _ (dB hk) _ (dB hj)),aL,dU];simp
  have:=ID (f:=oG l (k:Int)) l[k].List (λj=>(j:Int)) Z4 (Out.brk ()) (Out.ret false) (λj hj hp=>aj) (λj hj hp=>aj) (by
   simp_all[oG,aW])
  refine Eq.trans this ?_;congr 1
 have hs:∀k (hk:k<l.length),oH l (k:Int)=if QuV l[k] then some (.next ((k+1:Nat):Int)) else some (.stop (Out.ret false)):=by
  intro k hk;simp only[oH];rw[eG,aW hk,aL];by_cases h12:l[k].List.length<=12
  ·rw[aIH,inner k hk h12];by_cases q:BsV l[k].List
   ·rw[aN q,aN (show QuV l[k] from⟨h12,q⟩)];simp only[aL,VH,VG];grind[cQ]
   ·rw[aP q,aP (show ¬QuV l[k] from λa=>q a.2)];rfl
  ·rw[eG,aP (show ¬QuV l[k] from λa=>h12 a.1)]
 have key:loop (oH l) 0=_:=ID (f:=oH l) l (λk=>(k:Int)) QuV (Out.brk ()) (Out.ret false) (λk hk hp=>aj) (λk hk hp=>aj) (by simp[oH]);rw[key];by_cases q:∀x∈l,QuV x
 ·rw[aN q];simp only[aL,VJ,VF];congr 1;rw[HP];simp only[beq_iff_eq,decide_eq_true_eq];exact⟨λa=>⟨aa,q⟩,λa=>by have:=a.1;omega⟩
 ·rw[aP q,gJ (show ¬S4 l from λa=>q a.2)];rfl
theorem MX{l:List O}{f:Int->Option (Step Int (Out Unit Int))}{p:O->Bool}{m:(Out Unit Int)->Option Int}(hl:l.length<=4611686018427387904)
  (hf:∀k:Nat,f (k:Int)=if h:k<l.length then(if p l[k] then some (.stop (Out.ret (k:Int))) else some (.next ((k+1:Nat):Int))) else some (.stop (Out.brk ()))) (m1:∀r,m (.ret r)=some r) (m2:m (.brk ())=some (-1)) :
  ((loop f 0).bind m).bind (λx1=>some (decide (0<=x1)))=some (l.any p):=by
 rcases SR (f:=f) (p:=p) hl hf l.length 0 aa with ⟨j,h,_,h2,h3,h4⟩|⟨h1,h2⟩
 ·rw[show(0:Int)=((0:Nat):Int) from rfl,h4,aL,m1,aL,cN aa];grind
 ·rw[show(0:Int)=((0:Nat):Int) from rfl,h2,aL,m2,aL,gJ aa];congr 1;refine(aTG.2 λx hx=>?_).symm;obtain⟨i,hi,rfl⟩:=WT hx;grind
theorem aST{l:List iB}(hl:l.length<=1000){f:iB->Bool}{g:iB->Option Bool}(hg:∀x∈l,g x=some (f x)):rC l g=some (l.any f):=
 MX (f:=rB l g) (m:=DQ) aa (λk=>by
  simp only[rB];by_cases h:k<l.length
  ·rw[dif_pos h,eG,aW h,aL,hg _ (dB h),aL,dU];rfl
  grind) (λ_=>rfl) rfl
theorem aMX{l:List Batch}(hl:l.length<=1000){f:Batch->Bool}{g:Batch->Option Bool}(hg:∀x∈l,g x=some (f x)):nY l g=some (l.any f):=
 MX (f:=nX l g) (m:=zR) aa (λk=>by
  simp only[nX];by_cases h:k<l.length
  ·rw[dif_pos h,eG,aW h,aL,hg _ (dB h),aL,dU];rfl
  grind) (λ_=>rfl) rfl
theorem WA{l:List aO}(hl:l.length<=1000){f:aO->Bool}{g:aO->Option Bool}(hg:∀x∈l,g x=some (f x)):j4 l g=some (l.any f):=
 MX (f:=nE l g) (m:=xB) aa (λk=>by
  simp only[nE];by_cases h:k<l.length
  ·rw[dif_pos h,eG,aW h,aL,hg _ (dB h),aL,dU];rfl
  grind) (λ_=>rfl) rfl
theorem aSU{l:List O}{P:O->Prop}[DecidablePred P]:(!(l.any λx=>!decide (P x)))=decide (∀x∈l,P x):=aj
theorem aMY{b:Batch}(hl:b.bM.length<=1000):E6 b=some (decide (Z4 b)):=by
 unfold E6;cases hc:b.Collect
 ·rw[gI,cV,aL];by_cases h:1<=(b.bM.length:Int)/\(b.bM.length:Int)<=6
  ·rw[cN h,aN rfl,aST hl (f:=λx=>!decide (RJ x)) (λx _=>by grind[M6,aY3]),aL,aSU];unfold uJ;congr 1;rw[HP,decide_eq_true_eq,decide_eq_true_eq];exact⟨λa=>⟨λh=>aj,aa,a,λ_=>aa⟩,λa=>a.2.2.1⟩
  ·rw[gJ h,gI];grind[uJ,Z4]
 ·rw[aN rfl];congr 1;rw[HP,beq_iff_eq,decide_eq_true_eq];constructor
  ·intro h;have h0:b.bM=[]:=uF aa;exact⟨λ_=>h0,aa,aj,λh=>aj⟩
  ·intro h;rw[h.1 hc];rfl
theorem aMZ{l:List aO}(hl:l.length<=1000)(hq:∀q∈l,q.List.length<=1000)(hb:∀q∈l,∀b∈q.List,b.bM.length<=1000):E8 l=some (decide (S4 l)):=by
 have e1:∀q∈l,E7 q=some (!decide (QuV q)):=λq hm=>by
  unfold E7 wD;by_cases h:q.List.length<=12
  ·rw[aIH,aMX (hq q hm) (f:=λx=>!decide (Z4 x)) (λx hx=>by grind[HW,aMY]),aL];congr 1;rw[<-Bool.not_not ((q.List.any λx=>!decide (Z4 x))),aSU];congr 1;rw[HP,decide_eq_true_eq,decide_eq_true_eq];exact⟨λa=>⟨h,a⟩,λa=>a.2⟩
  ·rw[eG,gJ (show ¬QuV q from λa=>h a.1)];rfl
 unfold E8 BV;by_cases h:l.length=3
 ·rw[eG,WA hl e1,aL,aSU];congr 1;rw[HP,decide_eq_true_eq,decide_eq_true_eq];exact⟨λa=>⟨h,a⟩,λa=>a.2⟩
 ·rw[aIH,gJ (show ¬S4 l from λa=>h a.1)]
theorem aSV{b:Batch}(h:b.bM.length<=1000):IQ b=some b/\wZ b=some b:=by unfold IQ wZ TS kZ;rw[OE];simp
theorem aM0{l:List aO}(hl:l.length<=1000)(hq:∀q∈l,q.List.length<=1000)(hb:∀q∈l,∀b∈q.List,b.bM.length<=1000):EP l=some l/\xA l=some l:=by
 constructor
 ·unfold EP;rw[aME l]
  ·rfl
  ·intro k hk;have h1:=hq _ (dB hk);simp only[EO];rw[eG,ZJ l[k].List]
   ·simp only[aL,O8,O7];rw[OE,dU];rfl
   ·intro i hi;simp only[EN,EM];rw[aW hk,aL,eG,aL,aW hi,aL,(aSV (hb _ (dB hk) _ (dB hi))).1,aL,OE,dU];rfl
   simp_all[EN,aW]
  grind[EO]
 ·unfold xA;rw[aME l]
  ·rfl
  ·intro k hk;have h1:=hq _ (dB hk);simp only[EU];rw[eG,aW hk,aL,ZJ l[k].List]
   ·simp only[aL,PB,PA];rw[OE,dU];rfl
   ·intro i hi;simp only[ET,ES];rw[eG,aW hi,aL,(aSV (hb _ (dB hk) _ (dB hi))).2,aL,OE,dU];rfl
   grind[ET]
  grind[EU]
def a1P:Table:=⟨⟨⟨⟨[],[]⟩,⟨[],[]⟩⟩,⟨0,[]⟩,[],[]⟩,[],[],[],[],0⟩
def dC(t:List aO):Table:=⟨a1M,List.replicate 2 ⟨0,0,0⟩,List.replicate 3 cZ,t,[],0⟩
theorem aGR{t:List aO}(hl:t.length<=1000)(hq:∀q∈t,q.List.length<=1000)(hb:∀q∈t,∀b∈q.List,b.bM.length<=1000):IS t=some (if S4 t then dC t else a1P)/\I8 t=some (if S4 t then dC t else a1P):=by
 unfold IS I8;rw[aY5 hl hb,aMZ hl hq hb];simp only[aL];by_cases h:S4 t
 ·simp only[cN h,kW,bV,bR,aN h,aMQ.1,aMQ.2,aL,(aM0 hl hq hb).1,(aM0 hl hq hb).2];rw[TA,TA];exact⟨rfl,rfl⟩
 ·simp only[gJ h,TB,bW,aP h];exact⟨rfl,rfl⟩
theorem aF1{t:List aO}(h:S4 t):TV (dC t):=
 ⟨a88,⟨rfl,λx hx=>by simp[dC] at hx;subst hx;exact⟨.inl rfl,ae,ae⟩⟩,⟨rfl,λj hj=>by grind[dC]⟩,h,by show(0:Int)<=0/\(0:Int)<=1000000;omega⟩
def P4(t:Table)(p:Int):Table:=if 0<=p/\p<=2 then bH t p else t
def HO(t:Table)(l:List Int):Table:=l.foldl P4 t
theorem dL{P:TR->Prop}{c:Prop}[Decidable c]{a b:TR}(h1:c->P a)(h2:¬c->P b):P (if c then a else b):=aj
theorem bD4(b:aA)(k:List bX)(w:Int)(j:aI):(fF b k w j).l.length<=1:=by unfold fF;refine dL (P:=λr=>r.l.length<=1) (λ_=>i4 _) λ_=>dL (P:=λr=>r.l.length<=1) (λ_=>i4 _) λ_=>dL (P:=λr=>r.l.length<=1) (λ_=>i4 _) λ_=>dL (P:=λr=>r.l.length<=1) (λ_=>i4 _) λ_=>dL (P:=λr=>r.l.length<=1) (λ_=>?_) λ_=>dL (P:=λr=>r.l.length<=1) (λ_=>i4 _) λ_=>dL (P:=λr=>r.l.length<=1) (λ_=>i4 _) λ_=>dL (P:=λr=>r.l.length<=1) (λ_=>i4 _) λ_=>dL (P:=λr=>r.l.length<=1) (λ_=>i4 _) λ_=>dL (P:=λr=>r.l.length<=1) (λ_=>i4 _) λ_=>dL (P:=λr=>r.l.length<=1) (λ_=>i4 _) λ_=>dL (P:=λr=>r.l.length<=1) (λ_=>iT _) λ_=>i4 _;grind
theorem ZK(t:Table)(p:Int):(P4 t p).Log.length<=t.Log.length+1:=by
 unfold P4 bH;split
 ·split
  ·have:=bD4 t.aA t.aS p (aE t p);show(t.Log++_).length<=_;grind
  ·split
   ·omega
   ·show(t.Log++_).length<=_;simp
 ·omega
theorem aVT(h:TV t)(p:Int):TV (P4 t p):=by
 unfold P4;split
 ·exact h.step (by assumption)
 ·exact h
theorem aM1{P:Table->Prop}(hs:∀t w,TV t->(0<=w/\w<=2)->P t->P (bH t w)):∀(l:List Int) {t:Table},TV t->P t->TV (HO t l)/\P (HO t l)
 |[],t,h,hp=>⟨h,hp⟩
 |p::l,t,h,hp=>aM1 hs l (aVT h p) (by grind[P4])
theorem aQN{x:wA}{n:Nat}(hn:((x.kH.take ((if 400<(x.kH.length:Int) then 400 else(x.kH.length:Int)).toNat)).drop 0)=x.kH.take n)(h400:(x.kH.take n).length<=400):∀(d k:Nat) (t:Table),k+d=(x.kH.take n).length->TV t->t.Log.length<=k->loop (pL x) ((k:Int),t)=some (HO t ((x.kH.take n).drop k))
 |0,k,t,hk,hv,hl=>by rw[List.drop_of_length_le aa];refine aZ ?_;simp only[pL,hn];rw[aP aj];rfl
 |d + 1,k,t,hk,hv,hl=>by
  have hkl:k<(x.kH.take n).length:=aa
  have st:pL x ((k:Int),t)=some (.next (((k+1:Nat):Int),P4 t (x.kH.take n)[k])):=by
   simp only[pL,hn];rw[aN aj,aW hkl,aL,m0,aL];unfold wK P4;rw[dU];by_cases hp:0<=(x.kH.take n)[k]/\(x.kH.take n)[k]<=2
   ·rw[cN hp,aN rfl,aVQ hv aa hp,aN hp];rfl
   grind
  rw[bS st,aQN hn h400 d (k+1) _ aa (aVT hv _) (by grind[ZK]),uE hkl];rfl
theorem aSW{x:wA}(hl:x.eF.length<=1000)(hq:∀q∈x.eF,q.List.length<=1000)(hb:∀q∈x.eF,∀b∈q.List,b.bM.length<=1000)(ht:S4 x.eF):F7 x=some (HO (dC x.eF) (x.kH.take 400)):=by
 unfold F7;rw[(aGR hl hq hb).2,aN ht,aL,aP (by simp[dC])];have hn:((x.kH.take ((if 400<(x.kH.length:Int) then 400 else(x.kH.length:Int)).toNat)).drop 0)=x.kH.take 400:=by
  (simp_all;omega)
 rw[TA,show(0:Int)=((0:Nat):Int) from rfl,aQN hn aj (x.kH.take 400).length 0 _ aa (aF1 ht) (by simp[dC]),aL];rfl
def QuS(m:Int)(q:aO):Prop:=(q.List.length:Int)<=m/\∀x∈q.List,x.bM.length<=1000
section
variable {b:List UInt8} {i h:Int} (hc:Cu b i)
include hc
def bD5(l:List aO):Prop:=l.length<=3/\∀q∈l,QuS 100 q
theorem bD6{m:Int}(hm:m<=100):DK (IM ⟨b,i,h⟩ m) (λx=>x.1.length<=4000/\Cu b x.2.1):=by
 unfold IM;refine .bind (below hc aa) λx1 ⟨hx1,h1⟩=>?_;refine .bind (P:=λx=>x.1.length<=4000/\Cu b x.2.1) (.loop (λs=>s.2.1.toNat) (λs=>(0<=s.2.1/\s.1.length+8*s.2.1<=4000)/\Cu b s.2.2.1) ⟨⟨hx1.1,ah⟩,h1⟩ ?_) λx hx=>.ret hx;rintro⟨l,n,i1,h1⟩ ⟨⟨n0,n1⟩,hi1⟩;simp only at n0 n1 hi1;simp only[R5];refine .ite (λq=>?_) (λq=>?_)
 ·have q':=of_decide_eq_true q;refine .bind (below hi1 aa) λx13 ⟨_,h13⟩=>.bind (below h13 aa) λx14 ⟨hx14,h14⟩=>?_;rw[dU];refine .bind (P:=λx=>(x.length:Int)<=l.length+8) (.loop (λs=>s.2.toNat) (λs=>0<=s.2/\(s.1.length:Int)+s.2<=l.length+8) ⟨aa,aj⟩ ?_) ?_
  ·rintro⟨r,k⟩ ⟨k0,k1⟩;simp only at k0 k1;simp only[R3];refine .ite (λq=>?_) (λq=>?_)
   ·have q2:=of_decide_eq_true q;refine .need ah (.ret ?_);grind[cQ]
   ·exact .ret aa
  ·intro r hr;simp only[R4,R1];refine .ret ?_;grind[cQ]
 ·exact .ret ⟨aj,hi1⟩
end
theorem bD5.fit{l:List aO}(h:bD5 l):l.length<=1000/\(∀q∈l,q.List.length<=1000)/\∀q∈l,∀b∈q.List,b.bM.length<=1000:=
 ⟨by have:=h.1;omega,λq hq=>by have:=(h.2 q hq).1;omega,λq hq=>(h.2 q hq).2⟩
theorem a36{x:wA}(hx:bD5 x.eF):O9 x=some (decide (S4 x.eF)):=by
 obtain⟨h1,h2,h3⟩:=hx.fit;unfold O9;rw[(aGR h1 h2 h3).1,aL];by_cases h:S4 x.eF
 ·rw[aN h,cN h];rfl
 ·rw[aP h,gJ h];rfl
def uA(p:Int):Prop:=(7<=p/\p<=14)\/p=16
structure ZL (k:List bX) (w:Int) (j:aI):Prop where
 iff:∀b,0<=b/\b<=1->(b∈j.bG↔(dW k b).eI=w+1)
 pc:j.bG≠[]->uA j.Pc
def aY6(k k':List bX)(w:Int):Prop:=∀b,0<=b/\b<=1->(dW k' b).eI=(dW k b).eI\/((dW k b).eI=0/\(dW k' b).eI=w+1)\/((dW k b).eI=w+1/\(dW k' b).eI=0)
theorem qV{k:List bX}{i b:Int}{y:bX}(h2:k.length=2)(hi:0<=i/\i<=1)(hb:0<=b/\b<=1):dW (k.set i.toNat y) b=if b=i then y else dW k b:=by unfold dW;grind
def LkR(k:List bX)(w:Int)(r:TR):Prop:=ZL r.k w r.j/\aY6 k r.k w
section
variable {k:List bX} {w:Int} {j:aI} (h:ZL k w j)
include h
theorem ZL.same{j':aI}(e:j'.bG=j.bG)(hp:j.bG≠[]->uA j'.Pc):ZL k w j':=⟨λb hb=>by rw[e];exact h.iff b hb,λq=>hp aj⟩
theorem ZL.none(hp:¬uA j.Pc):j.bG=[]:=Classical.byContradiction λq=>hp (h.pc q)
end
theorem gZ(k:List bX)(w:Int):aY6 k k w:=λ_ _=>.inl rfl
theorem aVU(j:aI)(x:aT):(nT j x).2.bG=j.bG:=by grind[nT,sE]
theorem aVV(j:aI)(c:iB)(v:Int)(is:Bool):(qL j c v is).bG=j.bG:=by
 unfold qL;split
 ·generalize (if is then v else 0)=u;unfold WN;have h:=aVU j ⟨c.Key,false,G5 u c.dM⟩;split
  ·exact h
  ·exact h
 ·rfl
theorem a9I(j:aI):(qH j).bG=j.bG:=by grind[qH,aVU,aVV]
theorem a38(b:aA)(k:List bX)(w:Int)(j:aI):(iM b k w j).bG=j.bG:=by
 unfold iM;split
 ·split<;>rfl
 ·split
  ·rfl
  ·split
   ·split
    ·rfl
    ·split<;>rfl
   ·split
    ·rfl
    ·split
     ·rfl
     ·split
      ·grind[aVV]
      ·rfl
theorem a9J(b:aA)(w:Int)(j:aI):(vH b w j).2.bG=j.bG:=by
 unfold vH;split
 ·rfl
 ·simp only;split
  ·rfl
  ·split<;>rfl
theorem bD7(j:aI)(x:aT):(MO j x).bG=j.bG/\((MO j x).Pc=9\/(MO j x).Pc=12):=by grind[MO]
theorem a9K(j:aI):(MP j).bG=j.bG:=by grind[MP]
theorem aVW(j:aI):(KI j).bG=j.bG:=by grind[KI]
theorem a9L(b:aA)(w:Int)(j:aI):(DL b w j).2.bG=j.bG:=by grind[DL,aVW]
theorem a9M(b:aA)(w:Int)(j:aI):(DM b w j).2.bG=j.bG:=by grind[DM]
theorem a9N(b:aA)(w:Int)(j:aI):(oE b w j).2.bG=j.bG:=by grind[oE]
theorem bD8(b:aA){k:List bX}(h2:k.length=2)(hj:JB j)(h:ZL k w j)(hpc:9<=j.Pc/\j.Pc<=13):ZL (lV b k j).2.1 w (lV b k j).2.2/\aY6 k (lV b k j).2.1 w:=by
 have p14:uA 14:=.inl aa;have pl:∀(j':aI) (x:aT),j'.bG=j.bG->ZL k w (MO j' x):=λj' x e=>by obtain⟨e1,e2⟩:=bD7 j' x;exact h.same (e1.trans e) λ_=>by rcases e2 with e2|e2<;>rw[e2]<;>exact .inl aa
 have head:∀{i:Int} {x:Int} {j':aI},0<=i/\i<=1->ZL k w j'->ZL (k.set i.toNat {dW k i with Head:=x}) w j'/\aY6 k (k.set i.toNat {dW k i with Head:=x}) w:=λ{i x j'} hi hj'=>by
  have e:∀b,0<=b/\b<=1->(dW (k.set i.toNat {dW k i with Head:=x}) b).eI=(dW k b).eI:=λb hb=>by grind[qV]
  exact⟨⟨λb hb=>by rw[e b hb];exact hj'.iff b hb,hj'.pc⟩,λb hb=>.inl (e b hb)⟩
 unfold lV;by_cases c1:(j.aH.length:Int)<=j.K
 ·rw[aN c1];exact⟨h.same rfl λ_=>p14,gZ _ _⟩
 rw[aP c1];have hk:=hj.k;have hi:j.K.toNat<j.aH.length:=aa
 have er:mO j=j.aH[j.K.toNat]:=by grind[mO]
 have hx:=hj.wr.2.1 j.aH[j.K.toNat] (dB hi);rw[<-er] at hx;have hbk:0<=jD (mO j).Key/\jD (mO j).Key<=1:=by unfold jD;omega
 by_cases c2:j.Pc=9
 ·rw[aN c2];refine⟨?_,gZ _ _⟩;simp only;split
  ·grind
  ·exact h.same rfl λ_=>.inl ae
 rw[aP c2];by_cases c3:j.Pc=10
 ·rw[aN c3];refine⟨?_,gZ _ _⟩;simp only;split
  ·exact h.same rfl λ_=>.inl ae
  ·split
   ·grind
   ·exact h.same rfl λq=>h.pc q
 rw[aP c3];by_cases c4:j.Pc=11
 ·rw[aN c4];grind[a9K,gZ]
 rw[aP c4];split
 ·exact⟨h.same rfl λ_=>.inr rfl,gZ _ _⟩
 ·split
  ·exact⟨h.same rfl λ_=>.inl ae,gZ _ _⟩
  ·exact head hbk (h.same rfl λ_=>.inl ae)
theorem bD9{k:List bX}(h2:k.length=2)(hw:0<=w)(hj:JB j)(h:ZL k w j)(hpc:j.Pc=7):ZL (oD k w j).1 w (oD k w j).2.1/\aY6 k (oD k w j).1 w:=by
 have p8:uA 8:=.inl aa;unfold oD;by_cases c1:j.K<(pR j.aH).length
 ·rw[aN c1];have hk:=hj.k;have hi:j.K.toNat<(pR j.aH).length:=aa
  have er:fU j=(pR j.aH)[j.K.toNat]:=by grind[fU]
  have hbk:0<=fU j/\fU j<=1:=by grind[SY,dB]
  by_cases c2:(dW k (fU j)).eI≠0\/(j.Reads.any λs=>s.bX == fU j && s.eJ != (dW k (fU j)).eJ)=true
  ·rw[aN c2];exact⟨h.same rfl λ_=>.inr rfl,gZ _ _⟩
  rw[aP c2];have c0:(dW k (fU j)).eI=0:=Classical.byContradiction λq=>c2 (.inl q);split
  ·exact⟨h.same rfl λ_=>.inr rfl,gZ _ _⟩
  have hnm:fU j∉j.bG:=λq=>by have:=(h.iff _ hbk).1 q;omega
  have hto:aY6 k (k.set (fU j).toNat {dW k (fU j) with eI:=w+1}) w:=λb hb=>by grind[qV]
  have hkeep:∀j':aI,j'.bG=j.bG++[fU j]->uA j'.Pc->ZL (k.set (fU j).toNat {dW k (fU j) with eI:=w+1}) w j':=λj' e hp=>⟨λb hb=>by
   rw[e,dE,jO,qV h2 hbk hb];split
   ·grind
   ·rename_i q;rw[h.iff b hb];omega,λ_=>hp⟩
  have hh:(IG j).bG=j.bG++[fU j]:=by simp_all[IG]
  split
  ·grind
  ·refine⟨hkeep _ hh ?_,hto⟩;show uA j.Pc;rw[hpc];exact .inl aa
 ·rw[aP c1];exact⟨h.same rfl λ_=>p8,gZ _ _⟩
theorem bEA{k:List bX}(h2:k.length=2)(hw:0<=w)(hj:JB j)(h:ZL k w j)(hpc:j.Pc=14\/j.Pc=16):ZL (AO k j).1 w (AO k j).2/\aY6 k (AO k j).1 w:=by
 have hp:uA j.Pc:=by rcases hpc with e|e<;>rw[e];exact .inl aa;exact .inr rfl
 unfold AO;by_cases c1:0<j.bG.length
 ·rw[aN c1];have er:wQ j=j.bG[0]:=by grind[wQ]
  have hm:wQ j∈j.bG:=aj
  have hbk:=hj.held.1 _ hm;have hl:=(h.iff _ hbk).1 hm;obtain⟨y,hy,hy0⟩:∃y:bX,(if j.Pc=14 then(⟨(dW k (wQ j)).Head,if 1000000<(dW k (wQ j)).eJ+1 then 1000000 else(dW k (wQ j)).eJ+1,0⟩:bX) else {dW k (wQ j) with eI:=0})=y/\y.eI=0:=aj
  simp only;rw[hy];have hd:j.bG=wQ j::j.bG.drop 1:=by rw[er];exact(uE (i:=0) c1)
  have hn:=hj.held.2;rw[hd,WU] at hn;refine⟨⟨λb hb=>?_,λ_=>hp⟩,λb hb=>?_⟩
  ·show b∈j.bG.drop 1↔_;rw[qV h2 hbk hb];split
   ·grind
   ·rename_i e;have:=h.iff b hb;grind
  grind[qV]
 ·rw[aP c1];have hnil:j.bG=[]:=uF aa;split
  ·exact⟨h.same rfl λq=>absurd hnil q,gZ _ _⟩
  ·exact⟨h.same (aVW {j with Pc:=15,K:=0}) λq=>absurd hnil q,gZ _ _⟩
theorem bIY{b:aA}{k:List bX}(h2:k.length=2)(hw:0<=w/\w<=2)(hj:JB j)(h:ZL k w j):LkR k w (fF b k w j):=by
 have nh:∀{p:Int},¬uA p->j.Pc=p->j.bG=[]:=λhp e=>h.none aj;have no:∀{j':aI},j'.bG=j.bG->j.bG=[]->ZL k w j':=λe e0=>h.same e λq=>absurd e0 q;have out:∀{p:Int},j.Pc=p->¬uA p->j.bG=[]:=λe hp=>nh hp e;unfold fF;refine dL (P:=LkR k w) (λp=>⟨no (a9N b w j) (h.none (by grind[uA])),gZ _ _⟩) λ_=>dL (P:=LkR k w) (λp=>⟨no (a9I j) (h.none (by grind[uA])),gZ _ _⟩) λ_=>
  dL (P:=LkR k w) (λp=>⟨no (a38 b k w j) (h.none (by grind[uA])),gZ _ _⟩) λ_=>dL (P:=LkR k w) (λp=>⟨no (a9J b w j) (h.none (by grind[uA])),gZ _ _⟩) λ_=>
  dL (P:=LkR k w) (λp=>bD9 h2 hw.1 hj h p) λ_=>dL (P:=LkR k w) (λp=>⟨?_,gZ _ _⟩) λ_=>
  dL (P:=LkR k w) (λp=>bD8 b h2 hj h p) λ_=>dL (P:=LkR k w) (λp=>bEA h2 hw.1 hj h p) λ_=>
  dL (P:=LkR k w) (λp=>⟨no (a9L b w j) (h.none (by grind[uA])),gZ _ _⟩) λ_=>dL (P:=LkR k w) (λp=>⟨no (a9M b w j) (h.none (by grind[uA])),gZ _ _⟩) λ_=>
  dL (P:=LkR k w) (λp=>⟨no rfl (h.none (by grind[uA])),gZ _ _⟩) λ_=>dL (P:=LkR k w) (λp=>⟨no (j':=cZ) (h.none (by grind[uA])).symm (h.none (by grind[uA])),gZ _ _⟩) λ_=>⟨h.same rfl λ_=>.inr rfl,gZ _ _⟩
 show ZL k w (KH k w j);unfold KH;split
 ·exact h.same rfl λ_=>.inl ae
 ·split
  ·exact h.same rfl λ_=>.inr rfl
  ·exact h.same rfl λq=>h.pc q
def aM2(t:Table):Prop:=∀w,0<=w/\w<=2->ZL t.aS w (aE t w)
theorem aM3{l:List aI}{v:Int}{x:aI}(h3:t.aR.length=3)(hl:l=t.aR.set w.toNat x)(hw:0<=w/\w<=2)(hv:0<=v/\v<=2):l.getD v.toNat cZ=if v=w then x else aE t v:=by subst hl;unfold aE;grind
theorem aM2.step(hv:TV t)(hw:0<=w/\w<=2)(h:aM2 t):aM2 (bH t w):=by
 have h3:=hv.yN.1;have hjv:=hv.yN.2 _ (zP h3 hw);unfold bH;split
 ·rename_i hbusy;have hj:JB (aE t w):=hjv.resolve_left λe=>by rw[e] at hbusy;cases hbusy
  obtain⟨g1,g2⟩:=bIY (b:=t.aA) hv.bk.1 hw hj (h w hw);intro v hv';have ej:aE (yL t w (fF t.aA t.aS w (aE t w))) v=if v=w then(fF t.aA t.aS w (aE t w)).j else aE t v:=aM3 h3 rfl hw hv';rw[ej];show ZL (fF t.aA t.aS w (aE t w)).k v _;split
  ·rename_i e;rw[e];exact g1
  ·rename_i e;refine⟨λb hb=>?_,(h v hv').pc⟩;rw[(h v hv').iff b hb];rcases g2 b hb with q|⟨q1,q2⟩|⟨q1,q2⟩
   ·rw[q]
   ·rw[q1,q2];omega
   ·rw[q1,q2];omega
 ·rename_i hbusy;split
  ·exact h
  ·intro v hv';generalize (rZ t w).getD 0 ⟨false,[]⟩=b;have ej:aE (sA t w b) v=if v=w then jG b (t.aG+1) else aE t v:=aM3 h3 rfl hw hv';rw[ej];show ZL t.aS v _;split
   ·rename_i e;subst e;have hn:(aE t v).bG=[]:=by
     rcases hjv with e|hj
     ·rw[e];rfl
     ·exact absurd hj.busy hbusy
    exact(h v hv').same hn.symm λq=>absurd hn q
   ·exact h v hv'
theorem aM2.zero(l:List aO):aM2 (dC l):=λw hw=>by
 have e:aE (dC l) w=cZ:=by
  have:w=0\/w=1\/w=2:=aa
  rcases this with rfl|rfl|rfl<;>rfl
 rw[e];refine⟨λb hb=>?_,λq=>absurd rfl q⟩;have eb:(dW (dC l).aS b).eI=0:=by
  have:b=0\/b=1:=aa
  rcases this with rfl|rfl<;>rfl
 rw[eb];exact⟨λq=>(by cases q),λq=>aa⟩
theorem has_eq(hl:l.length<=1000000)(x:Int):aDA l x=some (decide (x∈l)):=by
 unfold aDA;have hs:∀k (hk:k<l.length),DW l x (k:Int)=if l[k]≠x then some (.next ((k+1:Nat):Int)) else some (.stop (Out.ret true)):=λk hk=>by simp only[DW];rw[eG,aW hk,aL,dU];simp
 have key:loop (DW l x) 0=_:=ID (f:=DW l x) l (λk=>(k:Int)) (λy=>y≠x) (Out.brk ()) (Out.ret true) (λk hk hp=>aj) (λk hk hp=>aj) (by simp[DW]);rw[key];by_cases q:∀y∈l,y≠x
 ·rw[aN q,gJ (λh=>q x h rfl)];rfl
 ·rw[aP q,cN (Classical.byContradiction λh=>q λy hy e=>h (e ▸ hy))];rfl
end Go.Gv
end
