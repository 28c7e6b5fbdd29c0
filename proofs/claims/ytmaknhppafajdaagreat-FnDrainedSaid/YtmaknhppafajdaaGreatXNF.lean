import Derived.Test.YtmaknhppafajdaaGreatXNE
set_option linter.unusedVariables false
set_option linter.unusedSimpArgs false
set_option linter.unusedSectionVars false
set_option linter.constructorNameAsVariable false
set_option linter.unnecessarySimpa false
noncomputable section
namespace Go.Gv
def gR(c:Int):Int:=if c=0 then 8 else if c=1 then 16 else if c=2 then 40 else 0
def aT(c:Int):Int:=if c=0 then 12 else if c=1 then 20 else if c=2 then 44 else 0
def bY(c:Int):Int:=if c=0 then 4 else if c=1 then 2 else if c=2 then 1 else 0
theorem fU{c:Int}(h:0<=c/\c<=2):c=0\/c=1\/c=2:=by omega
theorem aS8{c:Int}(h:¬(0<=c/\c<=2)):gR c=0:=by unfold gR;rw [if_neg (by omega),if_neg (by omega),if_neg (by omega)]
theorem aC7{c:Int}(h:¬(0<=c/\c<=2)):aT c=0:=by unfold aT;rw [if_neg (by omega),if_neg (by omega),if_neg (by omega)]
theorem aIA{c:Int}(h:¬(0<=c/\c<=2)):bY c=0:=by unfold bY;rw [if_neg (by omega),if_neg (by omega),if_neg (by omega)]
theorem mE(c:Int):0<=bY c/\bY c<=4:=by unfold bY;split <;> (try split) <;> (try split) <;> omega
theorem UG(c:Int):0<=aT c/\aT c<=44:=by unfold aT;split <;> (try split) <;> (try split) <;> omega
theorem g9{c:Int}:0 < bY c↔0<=c/\c<=2:=by
 unfold bY;constructor
 ·intro h;split at h <;> (try split at h) <;> (try split at h) <;> omega
 ·intro h;rcases fU h with rfl | rfl | rfl <;> decide
theorem qR(c:Int):oG c=some (gR c):=by
 unfold oG gR
 by_cases h0:c=0 <;> by_cases h1:c=1 <;> by_cases h2:c=2 <;> simp [h0,h1,h2]
theorem jZ(c:Int):kE c=some (decide (0<=c/\c<=2)):=by simp [kE,eB]
theorem RC(c:Int):A6 c=some (gR c):=by
 unfold A6
 rw [jZ]
 by_cases h:0<=c/\c<=2
 ·rcases fU h with rfl | rfl | rfl <;> rfl
 ·simp [h,aS8 h]
theorem XR(c:Int):yI c=some (aT c):=by
 unfold yI
 rw [b8]
 by_cases h:0<=c/\c<=2
 ·rcases fU h with rfl | rfl | rfl <;> rfl
 ·simp [h,aC7 h]
theorem M4(c:Int):tC c=some (aT c):=by
 unfold tC
 rw [jZ]
 by_cases h:0<=c/\c<=2
 ·rcases fU h with rfl | rfl | rfl <;> rfl
 ·simp [h,aC7 h]
theorem hY(c:Int):mC c=some (bY c):=by
 unfold mC
 rw [b8]
 by_cases h:0<=c/\c<=2
 ·rcases fU h with rfl | rfl | rfl <;> rfl
 ·simp [h,aIA h]
theorem AJ(c:Int):nY c=some (bY c):=by
 unfold nY
 rw [jZ]
 by_cases h:0<=c/\c<=2
 ·rcases fU h with rfl | rfl | rfl <;> rfl
 ·simp [h,aIA h]
theorem RD(s:Int):BA s=some (if 0<=s/\s<=23 then s / 4 else -1):=by
 unfold BA
 rw [b8]
 by_cases h:0<=s/\s<=23
 ·simp [h,GC h.1];rw [aO (by omega) (by omega)]
 ·simp [h]
theorem PI(s:Int):wR s=some (if 0<=s/\s<=23 then s % 4 else -1):=by
 unfold wR
 rw [b8]
 by_cases h:0<=s/\s<=23
 ·simp [h,v5 h.1]
 ·simp [h]
def eG(s c:Int):Int:=if (0<=s/\s<=23)/\s % 4 < bY c then s / 4 * 64+8+s % 4 * aT c else -1
theorem JG{i c:Int}(h0:0<=i)(h1:i < bY c):0<=i * aT c/\i * aT c+aT c<=56:=by
 unfold bY at h1;unfold aT
 split at h1
 ·rw [if_pos ‹_›];omega
 ·split at h1
  ·rw [if_neg ‹_›,if_pos ‹_›];omega
  ·split at h1
   ·rw [if_neg ‹_›,if_neg ‹_›,if_pos ‹_›];omega
   ·omega
theorem tI(s c:Int):vD s c=some (eG s c):=by
 unfold vD E5 eG
 rw [RD,PI,hY,XR]
 by_cases h:0<=s/\s<=23
 ·have hp:=mE c
  have h1:¬s / 4 < 0:=by omega
  have h2:bG (bY c - 1)=bY c - 1:=aO (by omega) (by omega)
  by_cases h3:s % 4 < bY c
  ·have hm:=JG (by omega) h3
   have hs:=UG c
   have h4:0<=s % 4/\s % 4<=bY c - 1:=by omega
   have h5:¬bY c - 1 < s % 4:=by omega
   have e1:bG (s / 4 * 64)=s / 4 * 64:=aO (by omega) (by omega)
   have e2:bG (s / 4 * 64+8)=s / 4 * 64+8:=aO (by omega) (by omega)
   have e3:bG (s % 4 * aT c)=s % 4 * aT c:=aO (by omega) (by omega)
   have e4:bG (s / 4 * 64+8+s % 4 * aT c)=s / 4 * 64+8+s % 4 * aT c:=aO (by omega) (by omega)
   simp [h,h1,h2,h3,h4,h5,b8,e1,e2,e3,e4]
  ·have h4:¬s % 4<=bY c - 1:=by omega
   simp [h,h1,h2,h3,h4,b8]
 ·simp [h]
theorem v7(s:Int):mG s=some (decide (0<=s/\s<=23)):=by simp [mG,eB]
theorem zF(s c:Int):uN s c=some (eG s c):=by
 unfold uN xY eG
 rw [v7,jZ,AJ,M4]
 by_cases h:0<=s/\s<=23
 ·have hp:=mE c
  rw [v5 h.1,GC h.1]
  by_cases h3:s % 4 < bY c
  ·have hm:=JG (by omega) h3
   have hs:=UG c
   have hc:0<=c/\c<=2:=g9.1 (by omega)
   have e0:bG (s / 4)=s / 4:=aO (by omega) (by omega)
   have e1:bG (s / 4 * 64)=s / 4 * 64:=aO (by omega) (by omega)
   have e2:bG (s / 4 * 64+8)=s / 4 * 64+8:=aO (by omega) (by omega)
   have e3:bG (s % 4 * aT c)=s % 4 * aT c:=aO (by omega) (by omega)
   have e4:bG (s / 4 * 64+8+s % 4 * aT c)=s / 4 * 64+8+s % 4 * aT c:=aO (by omega) (by omega)
   have h5:¬bY c<=s % 4:=by omega
   simp [h,hc,h3,h5,e0,e1,e2,e3,e4]
  ·have h5:bY c<=s % 4:=by omega
   by_cases hc:0<=c/\c<=2 <;> simp [h,hc,h3,h5]
 ·simp [h]
end Go.Gv
end
noncomputable section
namespace Go.Gv
def ldF(l:List Int):Int:=l.foldl (fun n x=>n * 256+x) 0
def uG(l:List Int):Prop:=∀x∈l,0<=x/\x<=255
instance (l:List Int):Decidable (uG l):=by unfold uG;infer_instance
theorem aC8{l:List Int}{k:Nat}(h:k < l.length):ldF (l.take (k+1))=ldF (l.take k) * 256+l[k]:=by
 unfold ldF
 rw [List.take_succ_eq_append_getElem h,List.foldl_append];rfl
theorem aGN{l:List Int}(h:uG l):∀k,k<=l.length->0<=ldF (l.take k)/\ldF (l.take k) < 256 ^ k:=by
 intro k
 induction k with
 | zero=>intro _;simp [ldF]
 | succ k ih =>
  intro hk
  have h1:=ih (by omega)
  have h2:=h _ (List.getElem_mem (show k < l.length by omega))
  rw [aC8 (by omega),Int.pow_succ]
  omega
theorem aZH{k:Nat}(h:k<=6):(256:Int) ^ k<=281474976710656:=by
 have h1:(256:Nat) ^ k<=256 ^ 6:=Nat.pow_le_pow_right (by omega) h
 have h2:(256:Nat) ^ 6=281474976710656:=by decide
 rw [h2] at h1
 have h3:((256 ^ k:Nat):Int)<=281474976710656:=by omega
 rw [Int.natCast_pow] at h3
 exact h3
def ld(b:List Int)(at_ w:Nat):Int:=ldF ((b.drop at_).take w)
theorem aN3{n x:Int}{k:Nat}(hk:k<=6)(h:0<=n/\n < 256 ^ k)(hx:0<=x/\x<=255):bG (bG (n * 256)+x)=n * 256+x/\bG (bG (256 * n)+x)=n * 256+x:=by
 have:=aZH hk
 rw [Int.mul_comm 256 n,aO (x:=n * 256) (by omega) (by omega),aO (by omega) (by omega)]
 exact⟨rfl,rfl⟩
theorem aL1{b:List Int}{a w:Nat}(h:a+w<=b.length):((b.drop a).take w).length=w:=by simp;omega
theorem aC9{b:List Int}{a w k:Nat}(h:k < ((b.drop a).take w).length)(h':a+k < b.length):((b.drop a).take w)[k]=b[a+k]:=by simp
theorem aIB{b:List Int}(hb:uG b)(a w:Nat):uG ((b.drop a).take w):=fun x hx=>hb x (List.mem_of_mem_drop (List.mem_of_mem_take hx))
theorem DF{b:List Int}(hb:uG b){a w:Nat}(hw:w<=7)(h:a+w<=b.length)(hl:b.length<=100000):vC b (a:Int) (w:Int)=some (ld b a w):=by
 unfold vC
 have hlen:=aL1 h
 have hbb:=aIB hb a w
 have key:loop (vB b (a:Int) (w:Int)) (0,0)=some (ld b a w):=by
  refine jG (f:=vB b (a:Int) (w:Int)) w (fun k=>(ldF (((b.drop a).take w).take k),(k:Int))) _ (fun k hk=>?_) ?_
  ·have hb1:=aGN hbb k (by omega)
   have hk':k < ((b.drop a).take w).length:=by omega
   have hx:=hbb _ (List.getElem_mem hk')
   have hs:=aN3 (by omega) hb1 hx
   rw [aC9 hk' (by omega)] at hs
   have e1:bG ((a:Int)+k)=((a+k:Nat):Int):=by rw [aO (by omega) (by omega)];omega
   simp only [vB]
   rw [if_pos (by simp;omega),e1,aV (by omega)]
   simp only [aK,hs.1,aC8 hk',aC9 hk' (show a+k < b.length by omega)]
   rw [aO (x:=(k:Int)+1) (by omega) (by omega)];rfl
  ·have:((b.drop a).take w).take w=(b.drop a).take w:=by rw [List.take_take];simp
   simp [vB,this,ld]
 rw [key];rfl
theorem AK{b:List Int}(hb:uG b){a w:Nat}(hw:w<=7)(h:a+w<=b.length)(hl:b.length<=100000):l7 b (a:Int) (w:Int)=some (ld b a w):=by
 unfold l7
 have hlen:=aL1 h
 have hbb:=aIB hb a w
 have e0:bG ((a:Int)+w)=((a+w:Nat):Int):=by rw [aO (by omega) (by omega)];omega
 have e2:(b.take (a+w)).drop a=(b.drop a).take w:=by rw [List.drop_take];congr 1;omega
 rw [aQ (by rw [e0];omega)]
 have key:loop (sC b (a:Int) (w:Int)) (0,0)=some (ld b a w):=by
  refine jG (f:=sC b (a:Int) (w:Int)) w (fun k=>(ldF (((b.drop a).take w).take k),(k:Int))) _ (fun k hk=>?_) ?_
  ·have hb1:=aGN hbb k (by omega)
   have hk':k < ((b.drop a).take w).length:=by omega
   have hx:=hbb _ (List.getElem_mem hk')
   have hs:=aN3 (by omega) hb1 hx
   simp only [sC,e0,Int.toNat_natCast,e2]
   rw [if_pos (by simp;omega),aV hk']
   simp only [aK,hs.2,aC8 hk']
   rw [aO (x:=(k:Int)+1) (by omega) (by omega)];rfl
  ·have:((b.drop a).take w).take w=(b.drop a).take w:=by rw [List.take_take];simp
   simp only [sC,e0,Int.toNat_natCast,e2,this,ld]
   rw [if_neg (by rw [hlen];simp)]
 rw [key];rfl
theorem DG{l:List Int}(hl:l.length<=maxLen)(f:Int->Bool):eO l (fun x=>some (f x))=some (l.any f):=by
 unfold eO uL
 have key:∀k:Nat,k<=l.length->loop (iZ l (fun x=>some (f x))) (k:Int)=some (if (l.drop k).any f then Out.ret ((k+(l.drop k).findIdx f:Nat):Int) else Out.brk ()):=by
  refine aHA l.length _ fun k hk=>?_
  by_cases h3:k < l.length
  ·have hd:l.drop k=l[k] :: l.drop (k+1):=List.drop_eq_getElem_cons h3
   simp only [iZ]
   rw [if_pos (by simp;omega),aV h3,iT (m9 h3 hl),hd]
   simp only [aK,List.any_cons,List.findIdx_cons]
   by_cases h4:f l[k]=true
   ·left;simp [h4]
   ·right
    have h4:f l[k]=false:=by simpa using h4
    refine⟨h3,by simp [h4],?_⟩
    simp only [h4,Bool.false_or,cond_false]
    congr 2;omega
  ·left
   obtain rfl:k=l.length:=by omega
   simp [iZ]
 have t0:loop (iZ l (fun x=>some (f x))) 0=_:=key 0 (by omega)
 rw [t0]
 simp only [List.drop_zero]
 by_cases h:l.any f=true
 ·simp [h,pW]
 ·have h:l.any f=false:=by simpa using h
  simp [h,pW,A5]
def BOk(b:List Int):Prop:=b.length<=1000/\uG b
instance (b:List Int):Decidable (BOk b):=by unfold BOk;infer_instance
theorem Z4{b:List Int}(hl:b.length<=maxLen):HY b=some (decide (BOk b)):=by
 unfold HY
 have key:loop (nH b) 0=some (if ∀x∈b,0<=x/\x<=255 then Out.brk () else Out.ret false):=by
  refine jB (f:=nH b) b (fun k=>(k:Int)) (fun x=>0<=x/\x<=255) _ _ (fun k h hp=>?_) (fun k h hp=>?_) ?_
  ·simp only [nH]
   rw [if_pos (by simp;omega),aV h,iT (m9 h hl)]
   simp [b8,hp]
  ·simp only [nH]
   rw [if_pos (by simp;omega),aV h]
   simp only [aK,b8,hp,decide_false,iA,if_true]
  ·simp [nH]
 rw [key]
 by_cases h:∀x∈b,0<=x/\x<=255
 ·rw [if_pos h]
  have:BOk b↔b.length<=1000:=⟨fun q=>q.1,fun q=>⟨q,h⟩⟩
  simp only [aK,GQ,O0,this]
  congr 1;rw [Bool.eq_iff_iff];simp;omega
 ·rw [if_neg h]
  have:¬BOk b:=fun q=>h q.2
  simp [GQ,this]
theorem FM{α:Type}{p:α->Prop}[DecidablePred p](l:List α):(l.any fun x=>!decide (p x))=!decide (∀x∈l,p x):=by
 rw [Bool.eq_iff_iff];simp
theorem Z5{b:List Int}(hl:b.length<=maxLen):HF b=some (decide (BOk b)):=by
 unfold HF zR
 have e:(fun y0=>BV y0)=fun y:Int=>some (!decide (0<=y/\y<=255)):=by
  funext y;simp [BV,P7,eB]
 rw [e,DG hl,FM]
 by_cases h:b.length<=1000
 ·have:BOk b↔∀x∈b,0<=x/\x<=255:=⟨fun q=>q.2,fun q=>⟨h,q⟩⟩
  have h':(b.length:Int)<=1000:=by omega
  simp [h',this]
 ·have:¬BOk b:=fun q=>h q.1
  have h':¬(b.length:Int)<=1000:=by omega
  simp [h',this]
def fV(h:aE):Prop:=h.Bytes.length=384/\h.Class.length=6/\uG h.Bytes/\∀c∈h.Class,-1<=c/\c<=2
instance (h:aE):Decidable (fV h):=by unfold fV;infer_instance
theorem Z6{h:aE}(hl:h.Bytes.length<=maxLen):HZ h=some (decide (fV h)):=by
 unfold HZ sK
 by_cases h1:h.Bytes.length=384
 ·by_cases h2:h.Class.length=6
  ·rw [Z4 hl]
   have n1:((h.Bytes.length:Int) != 384)=false:=by simp;omega
   have n2:((h.Class.length:Int) != 6)=false:=by simp;omega
   simp only [n1,n2,aN,if_false,aK]
   by_cases h3:uG h.Bytes
   ·have b1:BOk h.Bytes:=⟨by omega,h3⟩
    have key:loop (nI h) 0=some (if ∀x∈h.Class,-1<=x/\x<=2 then Out.brk () else Out.ret false):=by
     refine jB (f:=nI h) h.Class (fun k=>(k:Int)) (fun x=>-1<=x/\x<=2) _ _ (fun k h hp=>?_) (fun k h hp=>?_) ?_
     ·simp only [nI]
      rw [if_pos (by simp;omega),aV h,aO (by omega) (by omega)]
      simp [b8,hp]
     ·simp only [nI]
      rw [if_pos (by simp;omega),aV h]
      simp only [aK,b8]
      rw [bI hp];rfl
     ·simp [nI,h2]
    rw [key]
    have:fV h↔∀x∈h.Class,-1<=x/\x<=2:=⟨fun q=>q.2.2.2,fun q=>⟨h1,h2,h3,q⟩⟩
    simp only [b1,decide_true,dK,aN,if_false,this]
    by_cases h4:∀x∈h.Class,-1<=x/\x<=2
    ·rw [if_pos h4,aZ h4];rfl
    ·rw [if_neg h4,bI h4];rfl
   ·have b1:¬BOk h.Bytes:=fun q=>h3 q.2
    have:¬fV h:=fun q=>h3 q.2.2.1
    simp [b1,this]
  ·have n1:((h.Bytes.length:Int) != 384)=false:=by simp;omega
   have n2:((h.Class.length:Int) != 6)=true:=by simp;omega
   have:¬fV h:=fun q=>h2 q.2.1
   simp [n1,n2,this]
 ·have n1:((h.Bytes.length:Int) != 384)=true:=by simp;omega
  have:¬fV h:=fun q=>h1 q.1
  simp [n1,this]
theorem DH{h:aE}(hl:h.Bytes.length<=maxLen):FR h=some (decide (fV h)):=by
 unfold FR pX
 by_cases h1:h.Bytes.length=384
 ·have n1:((h.Bytes.length:Int) == 384)=true:=by simp;omega
  rw [Z5 hl]
  by_cases h3:uG h.Bytes
  ·have b1:BOk h.Bytes:=⟨by omega,h3⟩
   by_cases h2:h.Class.length=6
   ·have n2:((h.Class.length:Int) == 6)=true:=by simp;omega
    have e:(fun y0=>ET y0)=fun y:Int=>some (!decide (-1<=y/\y<=2)):=by
     funext y;simp [ET,eB]
    rw [e,DG (by rw [h2];simp [maxLen]),FM]
    have:fV h↔∀x∈h.Class,-1<=x/\x<=2:=⟨fun q=>q.2.2.2,fun q=>⟨h1,h2,h3,q⟩⟩
    simp [n1,n2,b1,this]
   ·have n2:((h.Class.length:Int) == 6)=false:=by simp;omega
    have:¬fV h:=fun q=>h2 q.2.1
    simp [n1,n2,b1,this]
  ·have b1:¬BOk h.Bytes:=fun q=>h3 q.2
   have:¬fV h:=fun q=>h3 q.2.2.1
   simp [n1,b1,this]
 ·have n1:((h.Bytes.length:Int) == 384)=false:=by simp;omega
  have:¬fV h:=fun q=>h1 q.1
  simp [n1,this]
end Go.Gv
end
noncomputable section
namespace Go.Gv
def d8(h:aE)(p:Nat):List Int:=(h.Bytes.drop (p * 64)).take 64
def bV(h:aE)(p:Nat):Int:=h.Class.getD p 0
def mV(h:aE)(p:Nat):Prop:=
 if bV h p < 0 then ∀x∈d8 h p,x=0
 else ((d8 h p).getD 0 0=171/\(d8 h p).getD 1 0=bV h p/\(d8 h p).getD 2 0=bY (bV h p))/\(∀x∈((d8 h p).drop 3).take 5,x=0)/\∀i,i < (bY (bV h p)).toNat->1<=ld h.Bytes (p * 64+8+i * (aT (bV h p)).toNat) 4/\ld h.Bytes (p * 64+8+i * (aT (bV h p)).toNat) 4<=7
instance (h:aE) (p:Nat):Decidable (mV h p):=by unfold mV;infer_instance
noncomputable section
variable {h:aE} (hs:fV h) {p:Nat} (hp:p < 6)
include hs hp
theorem JH:(d8 h p).length=64:=aL1 (by have:=hs.1;omega)
theorem RE{k:Nat}(hk:k < 64):h.Bytes[p * 64+k]'(by have:=hs.1;omega)=(d8 h p)[k]'(by rw [JH hs hp];exact hk):=(aC9 (show k < ((h.Bytes.drop (p * 64)).take 64).length by have:=JH hs hp;unfold d8 at this;omega) _).symm
theorem aGO{k:Nat}(hk:k < 64):h.Bytes[p * 64+k]'(by have:=hs.1;omega)=(d8 h p).getD k 0:=by
 rw [RE hs hp hk,List.getD_eq_getElem?_getD,List.getElem?_eq_getElem (by rw [JH hs hp];exact hk)];rfl
theorem SG:h.Class[p]'(by have:=hs.2.1;omega)=bV h p:=by
 unfold bV
 rw [List.getD_eq_getElem?_getD,List.getElem?_eq_getElem (by have:=hs.2.1;omega)];rfl
theorem aAZ:idx h.Class (p:Int)=some (bV h p):=by rw [aV (by have:=hs.2.1;omega),SG hs hp]
theorem aDA{k:Nat}(hk:k < 64):idx h.Bytes (((p * 64+k:Nat)):Int)=some ((d8 h p).getD k 0):=by
 rw [aV (by have:=hs.1;omega),aGO hs hp hk]
theorem aO8:uG (d8 h p):=aIB hs.2.2.1 _ _
theorem tJ{c:Int}(hc:bV h p=c){i:Nat}(hi:i < (bY c).toNat):(8+i * (aT c).toNat)+4<=64/\0<=(i:Int) * aT c/\((8+i * (aT c).toNat:Nat):Int)=8+(i:Int) * aT c:=by
 have h1:(i:Int) < bY c:=by omega
 have hc2:0<=c/\c<=2:=g9.1 (by omega)
 rcases fU hc2 with rfl | rfl | rfl
 ·have e:aT 0=12:=rfl
  have g:(12:Int).toNat=12:=rfl
  have f:(bY 0).toNat=4:=rfl
  rw [e,g];rw [f] at hi;omega
 ·have e:aT 1=20:=rfl
  have g:(20:Int).toNat=20:=rfl
  have f:(bY 1).toNat=2:=rfl
  rw [e,g];rw [f] at hi;omega
 ·have e:aT 2=44:=rfl
  have g:(44:Int).toNat=44:=rfl
  have f:(bY 2).toNat=1:=rfl
  rw [e,g];rw [f] at hi;omega
theorem aS9{i:Nat}(hi:i < (bY (bV h p)).toNat):eG ((p:Int) * 4+i) (bV h p)=((p * 64+(8+i * (aT (bV h p)).toNat):Nat):Int):=by
 have hz:=tJ hs hp rfl hi
 have hle:=mE (bV h p)
 unfold eG
 rw [if_pos (by omega)]
 have e1:((p:Int) * 4+i) / 4=p:=by omega
 have e2:((p:Int) * 4+i) % 4=i:=by omega
 rw [e1,e2]
 omega
theorem RF:KE h (p:Int)=some (decide (mV h p)):=by
 have hb:=hs.1
 have hl:=JH hs hp
 have e0:bG ((p:Int) * 64)=((p * 64+0:Nat):Int):=by rw [aO (by omega) (by omega)];omega
 have e1:bG (((p * 64+0:Nat):Int)+1)=((p * 64+1:Nat):Int):=by rw [aO (by omega) (by omega)];omega
 have e2:bG (((p * 64+0:Nat):Int)+2)=((p * 64+2:Nat):Int):=by rw [aO (by omega) (by omega)];omega
 have e3:bG (((p * 64+0:Nat):Int)+3)=((p * 64+3:Nat):Int):=by rw [aO (by omega) (by omega)];omega
 have e8:bG (((p * 64+0:Nat):Int)+8)=((p * 64+8:Nat):Int):=by rw [aO (by omega) (by omega)];omega
 have e64:bG (((p * 64+0:Nat):Int)+64)=((p * 64+64:Nat):Int):=by rw [aO (by omega) (by omega)];omega
 unfold KE
 rw [aAZ hs hp]
 simp only [aK]
 by_cases hc:bV h p < 0
 ·simp only [hc,decide_true,if_true,e0]
  have key:loop (qE h (p:Int)) (((p * 64+0:Nat)):Int)=some (if ∀x∈d8 h p,x=0 then Out.brk () else Out.ret false):=by
   refine jB (f:=qE h (p:Int)) (d8 h p) (fun k=>((p * 64+k:Nat):Int)) (fun x=>x=0) _ _ (fun k hk hx=>?_) (fun k hk hx=>?_) ?_
   ·simp only [qE,e0,e64]
    rw [if_pos (by simp;omega),aV (by omega),RE hs hp (by omega),aO (by omega) (by omega)]
    simp only [aK,hx];simp;omega
   ·simp only [qE,e0,e64]
    rw [if_pos (by simp;omega),aV (by omega),RE hs hp (by omega)]
    have hx':((d8 h p)[k] != 0)=true:=by simpa using hx
    simp only [aK,hx',if_true]
   ·simp only [qE,e0,e64,hl]
    rw [if_neg (by simp)]
  rw [key]
  have hP:mV h p↔∀x∈d8 h p,x=0:=by unfold mV;rw [if_pos hc]
  by_cases h4:∀x∈d8 h p,x=0
  ·rw [if_pos h4,aZ (hP.2 h4)];rfl
  ·rw [if_neg h4,bI (fun q=>h4 (hP.1 q))];rfl
 ·have hP:mV h p↔((d8 h p).getD 0 0=171/\(d8 h p).getD 1 0=bV h p/\(d8 h p).getD 2 0=bY (bV h p))/\(∀x∈((d8 h p).drop 3).take 5,x=0)/\∀i,i < (bY (bV h p)).toNat->1<=ld h.Bytes (p * 64+8+i * (aT (bV h p)).toNat) 4/\ld h.Bytes (p * 64+8+i * (aT (bV h p)).toNat) 4<=7:=by unfold mV;rw [if_neg hc]
  simp only [hc,decide_false,aN,if_false,e0,e1,e2,aDA hs hp (show 0 < 64 by omega),aDA hs hp (show 1 < 64 by omega),aDA hs hp (show 2 < 64 by omega),aK,hY]
  by_cases a0:(d8 h p).getD 0 0=171
  ·by_cases a1:(d8 h p).getD 1 0=bV h p
   ·by_cases a2:(d8 h p).getD 2 0=bY (bV h p)
    ·have n0:((d8 h p).getD 0 0 != 171)=false:=by simp only [bne_eq_false_iff_eq];exact a0
     have n1:((d8 h p).getD 1 0 != bV h p)=false:=by simp only [bne_eq_false_iff_eq];exact a1
     have n2:((d8 h p).getD 2 0 != bY (bV h p))=false:=by simp only [bne_eq_false_iff_eq];exact a2
     simp only [n0,n1,n2,aN,if_false,kT,e0,e3]
     have hl5:(((d8 h p).drop 3).take 5).length=5:=by simp [hl]
     have key:loop (qG h (p:Int)) (((p * 64+3:Nat)):Int)=some (if ∀x∈((d8 h p).drop 3).take 5,x=0 then Out.brk () else Out.ret false):=by
      refine jB (f:=qG h (p:Int)) (((d8 h p).drop 3).take 5) (fun k=>((p * 64+(3+k):Nat):Int)) (fun x=>x=0) _ _ (fun k hk hx=>?_) (fun k hk hx=>?_) ?_
      ·simp only [qG,e0,e8]
       rw [if_pos (by simp;omega),aV (by omega),RE hs hp (by omega),aO (by omega) (by omega),<-aC9 hk (by omega),hx]
       simp;omega
      ·simp only [qG,e0,e8]
       rw [if_pos (by simp;omega),aV (by omega),RE hs hp (by omega),<-aC9 hk (by omega)]
       have hx':((((d8 h p).drop 3).take 5)[k] != 0)=true:=by simp only [bne_iff_ne];exact hx
       simp only [aK,hx',if_true]
      ·simp only [qG,e0,e8,hl5]
       rw [if_neg (by simp)]
     rw [key]
     by_cases h4:∀x∈((d8 h p).drop 3).take 5,x=0
     ·rw [if_pos h4]
      simp only [aK,QK,QJ]
      have key2:loop (qF h (p:Int) (bV h p)) 0=some (if ∀i,i < (bY (bV h p)).toNat->1<=ld h.Bytes (p * 64+8+i * (aT (bV h p)).toNat) 4/\ld h.Bytes (p * 64+8+i * (aT (bV h p)).toNat) 4<=7 then Out.brk () else Out.ret false):=by
       have hle:=mE (bV h p)
       have hst:∀k:Nat,k < (bY (bV h p)).toNat->qF h (p:Int) (bV h p) (k:Int)=if 1<=ld h.Bytes (p * 64+8+k * (aT (bV h p)).toNat) 4/\ld h.Bytes (p * 64+8+k * (aT (bV h p)).toNat) 4<=7 then some (.next ((k+1:Nat):Int)) else some (.stop (Out.ret false)):=by
        intro k hk
        have hz:=tJ hs hp rfl hk
        have s1:qY (p:Int) (k:Int)=some ((p:Int) * 4+k):=by
         unfold qY vF
         rw [b8,b8]
         have g1:(0:Int)<=p/\(p:Int)<=5:=by omega
         have g2:(0:Int)<=k/\(k:Int)<=3:=by omega
         simp only [aK,g1,g2,and_self,decide_true,dK,aN,if_false]
         rw [aO (x:=(p:Int) * 4) (by omega) (by omega),aO (by omega) (by omega)]
        have l1:=DF hs.2.2.1 (a:=p * 64+(8+k * (aT (bV h p)).toNat)) (w:=4) (by omega) (by omega) (by omega)
        simp only [qF,hY,aK]
        rw [if_pos (by simp;omega),s1]
        simp only [aK,tI,aS9 hs hp hk]
        rw [show((4:Nat):Int)=4 from rfl] at l1
        rw [l1,Nat.add_assoc,aO (x:=(k:Int)+1) (by omega) (by omega)]
        simp only [aK,b8]
        by_cases q:1<=ld h.Bytes (p * 64+(8+k * (aT (bV h p)).toNat)) 4/\ld h.Bytes (p * 64+(8+k * (aT (bV h p)).toNat)) 4<=7
        ·rw [if_pos q,aZ q];rfl
        ·rw [if_neg q,bI q];rfl
       refine vZ (f:=qF h (p:Int) (bV h p)) (bY (bV h p)).toNat (fun k=>(k:Int)) (fun i=>1<=ld h.Bytes (p * 64+8+i * (aT (bV h p)).toNat) 4/\ld h.Bytes (p * 64+8+i * (aT (bV h p)).toNat) 4<=7) _ _ (fun k hk hx=>?_) (fun k hk hx=>?_) ?_
       ·rw [hst k hk,if_pos hx]
       ·rw [hst k hk,if_neg hx]
       ·simp only [qF,hY,aK]
        rw [if_neg (by simp;omega)]
      rw [key2]
      by_cases h5:∀i,i < (bY (bV h p)).toNat->1<=ld h.Bytes (p * 64+8+i * (aT (bV h p)).toNat) 4/\ld h.Bytes (p * 64+8+i * (aT (bV h p)).toNat) 4<=7
      ·rw [if_pos h5,aZ (hP.2 ⟨⟨a0,a1,a2⟩,h4,h5⟩)];rfl
      ·rw [if_neg h5,bI (fun q=>h5 (hP.1 q).2.2)];rfl
     ·rw [if_neg h4,bI (fun q=>h4 (hP.1 q).2.1)];rfl
    ·have n0:((d8 h p).getD 0 0 != 171)=false:=by simp only [bne_eq_false_iff_eq];exact a0
     have n1:((d8 h p).getD 1 0 != bV h p)=false:=by simp only [bne_eq_false_iff_eq];exact a1
     have n2:((d8 h p).getD 2 0 != bY (bV h p))=true:=by simp only [bne_iff_ne];exact a2
     simp only [n0,n1,n2,aN,if_false,kT,if_true]
     rw [bI (fun q=>a2 (hP.1 q).1.2.2)]
   ·have n0:((d8 h p).getD 0 0 != 171)=false:=by simp only [bne_eq_false_iff_eq];exact a0
    have n1:((d8 h p).getD 1 0 != bV h p)=true:=by simp only [bne_iff_ne];exact a1
    simp only [n0,n1,aN,if_false,kT,if_true]
    rw [bI (fun q=>a1 (hP.1 q).1.2.1)]
  ·have n0:((d8 h p).getD 0 0 != 171)=true:=by simp only [bne_iff_ne];exact a0
   simp only [n0,aN,if_false,kT,if_true]
   rw [bI (fun q=>a0 (hP.1 q).1.1)]
end
end Go.Gv
end
noncomputable section
namespace Go.Gv
theorem RG{l:List Int}(hl:l.length<=maxLen):FT l=some (decide (∀x∈l,x=0)):=by
 unfold FT
 have e:(fun y0=>EU y0)=fun y:Int=>some (!decide (y=0)):=by
  funext y;simp [EU,bne];rfl
 rw [e,DG hl,FM]
 simp
noncomputable section
variable {h:aE} (hs:fV h) {p:Nat} (hp:p < 6)
include hs hp
theorem aXZ:(h.Bytes.take ((p+1) * 64)).drop (p * 64)=d8 h p:=by
 unfold d8
 rw [List.drop_take];congr 1;omega
theorem aWJ{a:Nat}(ha:a+4<=64):ld (d8 h p) a 4=ld h.Bytes (p * 64+a) 4:=by
 unfold ld d8
 rw [List.drop_take,List.take_take,List.drop_drop]
 congr 2;omega
theorem aL2{k:Nat}(hk:k < 64):idx (d8 h p) (k:Int)=some ((d8 h p).getD k 0):=by
 have:=JH hs hp
 rw [aV (by omega),List.getD_eq_getElem?_getD,List.getElem?_eq_getElem (by omega)];rfl
theorem RH:KA h (p:Int)=some (decide (mV h p)):=by
 have hb:=hs.1
 have hl:=JH hs hp
 have hm:(d8 h p).length<=maxLen:=by rw [hl];simp [maxLen]
 have e0:bG ((p:Int) * 64)=((p * 64:Nat):Int):=by rw [aO (by omega) (by omega)];omega
 have e1:bG (bG ((p:Int)+1) * 64)=(((p+1) * 64:Nat):Int):=by rw [aO (x:=(p:Int)+1) (by omega) (by omega),aO (by omega) (by omega)];omega
 have i0:=aL2 hs hp (show 0 < 64 by omega)
 have i1:=aL2 hs hp (show 1 < 64 by omega)
 have i2:=aL2 hs hp (show 2 < 64 by omega)
 rw [show((0:Nat):Int)=0 from rfl] at i0
 rw [show((1:Nat):Int)=1 from rfl] at i1
 rw [show((2:Nat):Int)=2 from rfl] at i2
 unfold KA
 rw [aAZ hs hp]
 simp only [aK,e0,e1,Int.toNat_natCast,aXZ hs hp]
 rw [aQ (by omega)]
 by_cases hc:bV h p < 0
 ·have hP:mV h p↔∀x∈d8 h p,x=0:=by unfold mV;rw [if_pos hc]
  simp only [hc,decide_true,if_true,RG hm,aK,hP]
 ·have hP:mV h p↔((d8 h p).getD 0 0=171/\(d8 h p).getD 1 0=bV h p/\(d8 h p).getD 2 0=bY (bV h p))/\(∀x∈((d8 h p).drop 3).take 5,x=0)/\∀i,i < (bY (bV h p)).toNat->1<=ld h.Bytes (p * 64+8+i * (aT (bV h p)).toNat) 4/\ld h.Bytes (p * 64+8+i * (aT (bV h p)).toNat) 4<=7:=by unfold mV;rw [if_neg hc]
  simp only [hc,decide_false,aN,if_false,i0,i1,i2,aK,AJ]
  by_cases a0:(d8 h p).getD 0 0=171
  ·by_cases a1:(d8 h p).getD 1 0=bV h p
   ·by_cases a2:(d8 h p).getD 2 0=bY (bV h p)
    ·have n0:((d8 h p).getD 0 0 != 171)=false:=by simp only [bne_eq_false_iff_eq];exact a0
     have n1:((d8 h p).getD 1 0 != bV h p)=false:=by simp only [bne_eq_false_iff_eq];exact a1
     have n2:((d8 h p).getD 2 0 != bY (bV h p))=false:=by simp only [bne_eq_false_iff_eq];exact a2
     have t8:((d8 h p).take (8:Int).toNat).drop (3:Int).toNat=((d8 h p).drop 3).take 5:=by
      rw [show(8:Int).toNat=8 from rfl,show(3:Int).toNat=3 from rfl,List.drop_take]
     simp only [n0,n1,n2,aN,if_false,jL,t8]
     rw [aQ (by omega),RG (by simp [maxLen];omega)]
     by_cases h4:∀x∈((d8 h p).drop 3).take 5,x=0
     ·simp only [aZ h4,aK,dK,aN,if_false,AJ]
      have key2:loop (pY h (p:Int) (bV h p) (bY (bV h p))) 0=some (if ∀i,i < (bY (bV h p)).toNat->1<=ld h.Bytes (p * 64+8+i * (aT (bV h p)).toNat) 4/\ld h.Bytes (p * 64+8+i * (aT (bV h p)).toNat) 4<=7 then Out.brk () else Out.ret false):=by
       have hle:=mE (bV h p)
       have hst:∀k:Nat,k < (bY (bV h p)).toNat->pY h (p:Int) (bV h p) (bY (bV h p)) (k:Int)=if 1<=ld h.Bytes (p * 64+8+k * (aT (bV h p)).toNat) 4/\ld h.Bytes (p * 64+8+k * (aT (bV h p)).toNat) 4<=7 then some (.next ((k+1:Nat):Int)) else some (.stop (Out.ret false)):=by
        intro k hk
        have hz:=tJ hs hp rfl hk
        have e5:bG (8+bG ((k:Int) * aT (bV h p)))=((8+k * (aT (bV h p)).toNat:Nat):Int):=by
         rw [aO (x:=(k:Int) * aT (bV h p)) (by omega) (by omega),aO (by omega) (by omega)];omega
        have l1:=AK (aO8 hs hp) (a:=8+k * (aT (bV h p)).toNat) (w:=4) (by omega) (by omega) (by omega)
        rw [show((4:Nat):Int)=4 from rfl,aWJ hs hp (by omega)] at l1
        simp only [pY,M4,aK,e0,e1,Int.toNat_natCast,aXZ hs hp,e5]
        rw [if_pos (by simp;omega),l1,Nat.add_assoc,aO (x:=(k:Int)+1) (by omega) (by omega)]
        simp only [aK,eB]
        by_cases q:1<=ld h.Bytes (p * 64+(8+k * (aT (bV h p)).toNat)) 4/\ld h.Bytes (p * 64+(8+k * (aT (bV h p)).toNat)) 4<=7
        ·rw [if_pos q,aZ q];rfl
        ·rw [if_neg q,bI q];rfl
       refine vZ (f:=pY h (p:Int) (bV h p) (bY (bV h p))) (bY (bV h p)).toNat (fun k=>(k:Int)) (fun i=>1<=ld h.Bytes (p * 64+8+i * (aT (bV h p)).toNat) 4/\ld h.Bytes (p * 64+8+i * (aT (bV h p)).toNat) 4<=7) _ _ (fun k hk hx=>?_) (fun k hk hx=>?_) ?_
       ·rw [hst k hk,if_pos hx]
       ·rw [hst k hk,if_neg hx]
       ·simp only [pY]
        rw [if_neg (by simp;omega)]
      rw [key2]
      by_cases h5:∀i,i < (bY (bV h p)).toNat->1<=ld h.Bytes (p * 64+8+i * (aT (bV h p)).toNat) 4/\ld h.Bytes (p * 64+8+i * (aT (bV h p)).toNat) 4<=7
      ·rw [if_pos h5,aZ (hP.2 ⟨⟨a0,a1,a2⟩,h4,h5⟩)];rfl
      ·rw [if_neg h5,bI (fun q=>h5 (hP.1 q).2.2)];rfl
     ·simp only [bI h4,aK,iA,if_true]
      rw [bI (fun q=>h4 (hP.1 q).2.1)]
    ·have n0:((d8 h p).getD 0 0 != 171)=false:=by simp only [bne_eq_false_iff_eq];exact a0
     have n1:((d8 h p).getD 1 0 != bV h p)=false:=by simp only [bne_eq_false_iff_eq];exact a1
     have n2:((d8 h p).getD 2 0 != bY (bV h p))=true:=by simp only [bne_iff_ne];exact a2
     simp only [n0,n1,n2,aN,if_false,jL,if_true]
     rw [bI (fun q=>a2 (hP.1 q).1.2.2)]
   ·have n0:((d8 h p).getD 0 0 != 171)=false:=by simp only [bne_eq_false_iff_eq];exact a0
    have n1:((d8 h p).getD 1 0 != bV h p)=true:=by simp only [bne_iff_ne];exact a1
    simp only [n0,n1,aN,if_false,jL,if_true]
    rw [bI (fun q=>a1 (hP.1 q).1.2.1)]
  ·have n0:((d8 h p).getD 0 0 != 171)=true:=by simp only [bne_iff_ne];exact a0
   simp only [n0,aN,if_false,jL,if_true]
   rw [bI (fun q=>a0 (hP.1 q).1.1)]
end
instance (h:aE):Decidable (∀p,p < 6->mV h p):=Nat.decidableBallLT 6 fun p _=>mV h p
def TL(h:aE):Prop:=fV h/\∀p,p < 6->mV h p
instance (h:aE):Decidable (TL h):=by unfold TL;infer_instance
theorem aDB{h:aE}(hl:h.Bytes.length<=maxLen):KF h=some (decide (TL h)):=by
 unfold KF
 rw [Z6 hl]
 by_cases hs:fV h
 ·have key:loop (vG h) 0=some (if ∀p,p < 6->mV h p then Out.brk () else Out.ret false):=by
   refine vZ (f:=vG h) 6 (fun k=>(k:Int)) (fun p=>mV h p) _ _ (fun k hk hx=>?_) (fun k hk hx=>?_) ?_
   ·simp only [vG]
    rw [if_pos (by simp;omega),RF hs hk,aO (by omega) (by omega),aZ hx];rfl
   ·simp only [vG]
    rw [if_pos (by simp;omega),RF hs hk,bI hx];rfl
   ·rfl
  simp only [aK,aZ hs,dK,aN,if_false]
  rw [key]
  by_cases h4:∀p,p < 6->mV h p
  ·rw [if_pos h4,aZ (show TL h from ⟨hs,h4⟩)];rfl
  ·rw [if_neg h4,bI (fun q:TL h=>h4 q.2)];rfl
 ·rw [bI (fun q:TL h=>hs q.1),bI hs];rfl
theorem JJ{h:aE}(hl:h.Bytes.length<=maxLen):FU h=some (decide (TL h)):=by
 unfold FU
 rw [DH hl]
 by_cases hs:fV h
 ·have key:loop (uM h) 0=some (if ∀p,p < 6->mV h p then Out.brk () else Out.ret false):=by
   refine vZ (f:=uM h) 6 (fun k=>(k:Int)) (fun p=>mV h p) _ _ (fun k hk hx=>?_) (fun k hk hx=>?_) ?_
   ·simp only [uM]
    rw [if_pos (by simp;omega),RH hs hk,aO (by omega) (by omega),aZ hx];rfl
   ·simp only [uM]
    rw [if_pos (by simp;omega),RH hs hk,bI hx];rfl
   ·rfl
  simp only [aK,aZ hs,dK,aN,if_false]
  rw [key]
  by_cases h4:∀p,p < 6->mV h p
  ·rw [if_pos h4,aZ (show TL h from ⟨hs,h4⟩)];rfl
  ·rw [if_neg h4,bI (fun q:TL h=>h4 q.2)];rfl
 ·rw [bI (fun q:TL h=>hs q.1),bI hs];rfl
def aW(h:aE)(s:Int):Int:=if (0<=s/\s<=23)/\s % 4 < bY (bV h (s / 4).toNat) then bV h (s / 4).toNat else -1
theorem pR{h:aE}{s:Int}(hc:0<=aW h s):(0<=s/\s<=23)/\s % 4 < bY (bV h (s / 4).toNat)/\aW h s=bV h (s / 4).toNat:=by
 unfold aW at hc ⊢
 split at hc
 ·rename_i h1;exact⟨h1.1,h1.2,by rw [if_pos h1]⟩
 ·omega
theorem iW{h:aE}(hs:fV h)(s:Int):mD h s=some (aW h s):=by
 unfold mD sL aW
 rw [RD,PI]
 by_cases h1:0<=s/\s<=23
 ·obtain⟨k,rfl⟩:=Int.eq_ofNat_of_zero_le h1.1
  have hk:k / 4 < 6:=by omega
  have e1:((k:Int) / 4)=((k / 4:Nat):Int):=by omega
  have hi:=aAZ hs hk
  have n1:¬((k / 4:Nat):Int) < 0:=by omega
  simp only [h1,and_self,if_true,aK,e1,n1,decide_false,aN,if_false,hi,Int.toNat_natCast,true_and]
  by_cases h2:bV h (k / 4) < 0
  ·have h3:bY (bV h (k / 4))=0:=aIA (by omega)
   have h4:¬(k:Int) % 4 < 0:=by omega
   simp [h2,h3,h4]
  ·by_cases h3:(k:Int) % 4 < bY (bV h (k / 4))
   ·have h4:¬bY (bV h (k / 4))<=(k:Int) % 4:=by omega
    simp [h2,h3,h4,hY]
   ·have h4:bY (bV h (k / 4))<=(k:Int) % 4:=by omega
    simp [h2,h3,h4,hY]
 ·simp [h1]
theorem lT{h:aE}(hs:fV h)(s:Int):nZ h s=some (aW h s):=by
 unfold nZ zU aW
 rw [v7]
 by_cases h1:0<=s/\s<=23
 ·obtain⟨k,rfl⟩:=Int.eq_ofNat_of_zero_le h1.1
  have hk:k / 4 < 6:=by omega
  have e1:((k:Int) / 4)=((k / 4:Nat):Int):=by omega
  have hi:=aAZ hs hk
  have e2:bG (Int.tdiv (k:Int) 4)=((k / 4:Nat):Int):=by rw [GC (by omega),aO (by omega) (by omega)];omega
  simp only [h1,and_self,decide_true,dK,aN,if_true,aK,e1,e2,if_false,hi,Int.toNat_natCast,true_and,zF]
  by_cases h3:(k:Int) % 4 < bY (bV h (k / 4))
  ·have hm:=JG (c:=bV h (k / 4)) (by omega) h3
   have hg:¬eG (k:Int) (bV h (k / 4)) < 0:=by
    unfold eG;rw [if_pos ⟨h1,h3⟩];omega
   simp [h3,hg]
  ·have hg:eG (k:Int) (bV h (k / 4)) < 0:=by
    unfold eG;rw [if_neg (fun q=>h3 q.2)];omega
   simp [h3,hg]
 ·simp [h1]
def iG(h:aE)(s:Int):Int:=ld h.Bytes (eG s (aW h s)).toNat 4
theorem FN{h:aE}{s:Int}(hc:0<=aW h s):0<=eG s (aW h s)/\eG s (aW h s)+4<=384:=by
 obtain⟨h1,h2,h3⟩:=pR hc
 rw [h3]
 have hm:=JG (c:=bV h (s / 4).toNat) (by omega) h2
 have hst:0 < aT (bV h (s / 4).toNat):=by
  have:0<=bV h (s / 4).toNat/\bV h (s / 4).toNat<=2:=g9.1 (by omega)
  rcases fU this with e | e | e <;> rw [e] <;> decide
 have:4<=aT (bV h (s / 4).toNat):=by
  have:0<=bV h (s / 4).toNat/\bV h (s / 4).toNat<=2:=g9.1 (by omega)
  rcases fU this with e | e | e <;> rw [e] <;> decide
 unfold eG;rw [if_pos ⟨h1,h2⟩];omega
theorem oY{h:aE}(hs:fV h){s:Int}(hc:0<=aW h s):vH h s=some (iG h s):=by
 have hg:=FN hc
 unfold vH
 rw [iW hs]
 simp only [aK,tI]
 have l1:=DF hs.2.2.1 (a:=(eG s (aW h s)).toNat) (w:=4) (by omega) (by have:=hs.1;omega) (by have:=hs.1;omega)
 rw [show((4:Nat):Int)=4 from rfl,Int.toNat_of_nonneg hg.1] at l1
 rw [l1];rfl
theorem FO{h:aE}(hs:fV h){s:Int}(hc:0<=aW h s):AR h s=some (iG h s):=by
 have hg:=FN hc
 have hm:h.Bytes.length<=maxLen:=by rw [hs.1];simp [maxLen]
 unfold AR rF
 rw [DH hm,lT hs]
 have l1:=AK hs.2.2.1 (a:=(eG s (aW h s)).toNat) (w:=4) (by omega) (by have:=hs.1;omega) (by have:=hs.1;omega)
 rw [show((4:Nat):Int)=4 from rfl,Int.toNat_of_nonneg hg.1] at l1
 have n1:¬aW h s < 0:=by omega
 simp [hs,n1,zF,l1,iG]
end Go.Gv
end
noncomputable section
namespace Go.Gv
def cS(l:List aP):List Int:=l.flatMap aP.aS
def c9(l:aC):List Int:=cS l.Global++cS l.cL
def LOk(l:aC):Prop:=l.Global.length=3/\l.cL.length=9/\(∀s∈l.cL,s.aS.length<=2)/\(∀x∈c9 l,0<=x/\x<=23)/\(c9 l).Nodup
instance (l:aC):Decidable (LOk l):=by unfold LOk;infer_instance
theorem M5{l:List aP}{k:Nat}(h:k < l.length):cS (l.take (k+1))=cS (l.take k)++l[k].aS:=by
 unfold cS
 rw [List.take_succ_eq_append_getElem h,List.flatMap_append];simp
theorem aIC(l:List aP)(k:Nat):(cS (l.take k)).length<=(cS l).length:=by
 have:cS l=cS (l.take k)++cS (l.drop k):=by
  unfold cS;rw [<-List.flatMap_append,List.take_append_drop]
 rw [this];simp
theorem RI(l:List aP){k:Nat}(h:k < l.length):l[k].aS.length<=(cS l).length:=by
 have h1:=aIC l (k+1)
 rw [M5 h] at h1
 simp at h1;omega
theorem TM{l:aC}(h:(c9 l).length<=1073741824)(hg:l.Global.length<=maxLen)(ho:l.cL.length<=maxLen):I0 l=some (c9 l):=by
 have hsum:(cS l.Global).length+(cS l.cL).length<=1073741824:=by simpa [c9] using h
 unfold I0
 have k1:loop (yK l) ([],0)=some (cS l.Global):=by
  refine jG (f:=yK l) l.Global.length (fun k=>(cS (l.Global.take k),(k:Int))) _ (fun k hk=>?_) ?_
  ·have h1:=aIC l.Global (k+1)
   rw [M5 hk] at h1
   simp only [yK]
   rw [if_pos (by simp;omega),aV hk]
   simp only [aK]
   rw [aQ (by simp at h1;omega),M5 hk,iT (m9 hk hg)]
  ·simp [yK]
 rw [k1]
 simp only [aK,SZ,SY]
 have k2:loop (yJ l) (cS l.Global,0)=some (c9 l):=by
  have:=jG (f:=yJ l) l.cL.length (fun k=>(cS l.Global++cS (l.cL.take k),(k:Int))) (c9 l) (fun k hk=>?_) ?_
  ·simpa [cS] using this
  ·have h1:=aIC l.cL (k+1)
   rw [M5 hk] at h1
   simp only [yJ]
   rw [if_pos (by simp;omega),aV hk]
   simp only [aK]
   rw [aQ (by simp at h1 ⊢;omega),M5 hk,iT (m9 hk ho),List.append_assoc]
  ·simp [yJ,c9]
 rw [k2];rfl
theorem LR{l:List Int}(hl:l.length<=maxLen)(x:Int):D9 l x=some (decide (x∈l)):=by
 unfold D9
 have key:loop (tG l x) 0=some (if ∀y∈l,y≠x then Out.brk () else Out.ret true):=by
  refine jB (f:=tG l x) l (fun k=>(k:Int)) (fun y=>y≠x) _ _ (fun k h hp=>?_) (fun k h hp=>?_) ?_
  ·simp only [tG]
   rw [if_pos (by simp;omega),aV h,iT (m9 h hl)]
   have:(l[k] == x)=false:=by simpa using hp
   simp only [aK,this,aN,if_false]
  ·simp only [tG]
   rw [if_pos (by simp;omega),aV h]
   have:(l[k] == x)=true:=by simpa using hp
   simp only [aK,this,if_true]
  ·simp [tG]
 rw [key]
 by_cases h:x∈l
 ·rw [if_neg (fun q=>q x h rfl),aZ h];rfl
 ·rw [if_pos (fun y hy (e:y=x)=>h (e ▸ hy)),bI h];rfl
theorem OG(l:List Int):l.Nodup↔∀k (h:k < l.length),l[k]∉l.take k:=by
 unfold List.Nodup
 rw [List.pairwise_iff_getElem]
 constructor
 ·intro h k hk hm
  obtain⟨i,hi,he⟩:=List.mem_take_iff_getElem.1 hm
  exact h i k (by omega) hk (by omega) he
 ·intro h i j hi hj hij he
  exact h j hj (List.mem_take_iff_getElem.2 ⟨i,by omega,he⟩)
theorem Z7{l:aC}(h:(c9 l).length<=1073741824):H0 l=some (decide (LOk l)):=by
 unfold H0 AB
 by_cases hg:l.Global.length=3
 ·by_cases ho:l.cL.length=9
  ·have n1:((l.Global.length:Int) != 3)=false:=by simp;omega
   have n2:((l.cL.length:Int) != 9)=false:=by simp;omega
   simp only [n1,n2,aN,if_false]
   have k1:loop (nK l) 0=some (if ∀s∈l.cL,s.aS.length<=2 then Out.brk () else Out.ret false):=by
    refine jB (f:=nK l) l.cL (fun k=>(k:Int)) (fun s=>s.aS.length<=2) _ _ (fun k hk hp=>?_) (fun k hk hp=>?_) ?_
    ·simp only [nK]
     rw [if_pos (by simp;omega),aV hk,aO (by omega) (by omega)]
     simp only [aK]
     rw [if_neg (by simp;omega)];rfl
    ·simp only [nK]
     rw [if_pos (by simp;omega),aV hk]
     simp only [aK]
     rw [if_pos (by simp;omega)]
    ·simp [nK]
   rw [k1]
   by_cases h2:∀s∈l.cL,s.aS.length<=2
   ·rw [if_pos h2]
    simp only [aK,O2,O1]
    rw [TM h (by rw [hg];simp [maxLen]) (by rw [ho];simp [maxLen])]
    simp only [aK]
    have k2:loop (nJ (c9 l)) 0=some (if ∀k,k < (c9 l).length->(0<=(c9 l).getD k 0/\(c9 l).getD k 0<=23)/\(c9 l).getD k 0∉(c9 l).take k then Out.brk () else Out.ret false):=by
     have hst:∀k,k < (c9 l).length->nJ (c9 l) (k:Int)=if (0<=(c9 l).getD k 0/\(c9 l).getD k 0<=23)/\(c9 l).getD k 0∉(c9 l).take k then some (.next ((k+1:Nat):Int)) else some (.stop (Out.ret false)):=by
      intro k hk
      have e:(c9 l).getD k 0=(c9 l)[k]:=by rw [List.getD_eq_getElem?_getD,List.getElem?_eq_getElem hk];rfl
      rw [e]
      simp only [nJ]
      rw [if_pos (by simp;omega),aV hk]
      simp only [aK,b8,AA]
      by_cases q:0<=(c9 l)[k]/\(c9 l)[k]<=23
      ·rw [aZ q]
       simp only [dK,aN,if_false,Int.toNat_natCast,List.drop_zero]
       rw [aQ (by omega),LR (by simp [maxLen];omega),aO (by omega) (by omega)]
       by_cases q2:(c9 l)[k]∈(c9 l).take k
       ·rw [if_neg (fun x=>x.2 q2),aZ q2];rfl
       ·rw [if_pos ⟨q,q2⟩,bI q2];rfl
      ·rw [bI q];simp only [iA,if_true];rw [if_neg (fun x=>q x.1)]
     refine vZ (f:=nJ (c9 l)) (c9 l).length (fun k=>(k:Int)) (fun k=>(0<=(c9 l).getD k 0/\(c9 l).getD k 0<=23)/\(c9 l).getD k 0∉(c9 l).take k) _ _ (fun k hk hx=>?_) (fun k hk hx=>?_) ?_
     ·rw [hst k hk,if_pos hx]
     ·rw [hst k hk,if_neg hx]
     ·simp [nJ]
    rw [k2]
    have hiff:LOk l↔∀k,k < (c9 l).length->(0<=(c9 l).getD k 0/\(c9 l).getD k 0<=23)/\(c9 l).getD k 0∉(c9 l).take k:=by
     have e:∀k (hk:k < (c9 l).length),(c9 l).getD k 0=(c9 l)[k]:=fun k hk=>by rw [List.getD_eq_getElem?_getD,List.getElem?_eq_getElem hk];rfl
     constructor
     ·rintro⟨_,_,_,q1,q2⟩ k hk
      rw [e k hk]
      exact⟨q1 _ (List.getElem_mem hk),(OG _).1 q2 k hk⟩
     ·intro q
      refine⟨hg,ho,h2,fun x hx=>?_,(OG _).2 fun k hk=>?_⟩
      ·obtain⟨k,hk,rfl⟩:=List.mem_iff_getElem.1 hx
       have:=(q k hk).1;rw [e k hk] at this;exact this
      ·have:=(q k hk).2;rw [e k hk] at this;exact this
    by_cases q:LOk l
    ·rw [if_pos (hiff.1 q),aZ q];rfl
    ·rw [if_neg (fun x=>q (hiff.2 x)),bI q];rfl
   ·rw [if_neg h2,bI (fun q:LOk l=>h2 q.2.2.1)];rfl
  ·have n1:((l.Global.length:Int) != 3)=false:=by simp;omega
   have n2:((l.cL.length:Int) != 9)=true:=by simp;omega
   simp only [n1,n2,aN,if_false,if_true]
   rw [bI (fun q:LOk l=>ho q.2.1)]
 ·have n1:((l.Global.length:Int) != 3)=true:=by simp;omega
  simp only [n1,if_true]
  rw [bI (fun q:LOk l=>hg q.1)]
def zG:List Bool->List Int->Option (List Bool)
 | met,[]=>some met
 | met,x :: r=>if (0<=x/\x<=23)/\met.getD x.toNat true=false then zG (met.set x.toNat true) r else none
theorem aGP:∀{xs:List Int} {met m:List Bool},zG met xs=some m->m.length=met.length
 | [],met,m,h=>by simp [zG] at h;rw [h]
 | x :: r, met, m, h => by
  simp only [zG] at h
  split at h
  ·have:=aGP h;simpa using this
  ·cases h
theorem VX:∀(a b:List Int) (met:List Bool),zG met (a++b)=(zG met a).bind fun m=>zG m b
 | [],b,met=>rfl
 | x :: r, b, met => by
  simp only [List.cons_append,zG]
  split
  ·exact VX r b _
  ·rfl
theorem UH:∀(xs:List Int) (met:List Bool),met.length=24->((zG met xs).isSome=true↔(∀x∈xs,0<=x/\x<=23)/\xs.Nodup/\∀x∈xs,met.getD x.toNat true=false)
 | [],met,hm=>by simp [zG]
 | x :: r, met, hm => by
  simp only [zG]
  by_cases h:(0<=x/\x<=23)/\met.getD x.toNat true=false
  ·rw [if_pos h,UH r _ (by simpa using hm)]
   have hset:∀y,0<=y/\y<=23->(((met.set x.toNat true).getD y.toNat true=false)↔(y≠x/\met.getD y.toNat true=false)):=by
    intro y hy
    rw [List.getD_eq_getElem?_getD,List.getD_eq_getElem?_getD]
    by_cases e:y=x
    ·subst e;rw [List.getElem?_set_self (by omega)];simp
    ·rw [List.getElem?_set_ne (by omega)];simp [e]
   constructor
   ·rintro⟨q1,q2,q3⟩
    refine⟨fun y hy=>?_,List.nodup_cons.2 ⟨fun hx=>?_,q2⟩,fun y hy=>?_⟩
    ·rcases List.mem_cons.1 hy with rfl | hy
     ·exact h.1
     ·exact q1 y hy
    ·exact((hset x h.1).1 (q3 x hx)).1 rfl
    ·rcases List.mem_cons.1 hy with rfl | hy
     ·exact h.2
     ·exact((hset y (q1 y hy)).1 (q3 y hy)).2
   ·rintro⟨q1,q2,q3⟩
    have q2:=List.nodup_cons.1 q2
    refine⟨fun y hy=>q1 y (List.mem_cons_of_mem _ hy),q2.2,fun y hy=>(hset y (q1 y (List.mem_cons_of_mem _ hy))).2 ⟨fun e=>q2.1 (e ▸ hy),q3 y (List.mem_cons_of_mem _ hy)⟩⟩
  ·rw [if_neg h]
   constructor
   ·intro q;cases q
   ·rintro⟨q1,q2,q3⟩
    exact(h ⟨q1 x List.mem_cons_self,q3 x List.mem_cons_self⟩).elim
def aID:Option (List Bool)->Out (List Bool) Bool
 | some m=>.brk m
 | none=>.ret false
theorem a1N{s:aP}(hl:s.aS.length<=maxLen):∀d k (met:List Bool),k+d=s.aS.length->met.length=24->loop (lL s) ((k:Int),met)=some (aID (zG met (s.aS.drop k))):=by
 intro d
 induction d with
 | zero =>
  intro k met hk hm
  rw [bS (r:=Out.brk met) (by simp [lL];omega),List.drop_eq_nil_of_le (by omega)];rfl
 | succ d ih =>
  intro k met hk hm
  have hk':k < s.aS.length:=by omega
  have hd:s.aS.drop k=s.aS[k] :: s.aS.drop (k+1):=List.drop_eq_getElem_cons hk'
  have hst:lL s ((k:Int),met)=if (0<=s.aS[k]/\s.aS[k]<=23)/\met.getD s.aS[k].toNat true=false then some (.next (((k+1:Nat):Int),met.set s.aS[k].toNat true)) else some (.stop (Out.ret false)):=by
   simp only [lL]
   rw [if_pos (by simp;omega),aV hk']
   simp only [aK,v7]
   generalize s.aS[k]=x
   by_cases q:0<=x/\x<=23
   ·obtain⟨j,rfl⟩:=Int.eq_ofNat_of_zero_le q.1
    have hj:j < met.length:=by omega
    have e:met.getD j true=met[j]:=by rw [List.getD_eq_getElem?_getD,List.getElem?_eq_getElem hj];rfl
    simp only [q,and_self,decide_true,dK,aN,if_false,nF,Int.toNat_natCast,true_and,e]
    rw [aQ (by omega),aV hj]
    simp only [aK]
    cases met[j]
    ·simp only [aN,if_false,if_true]
     rw [aQ (by omega),iT (m9 hk' hl)]
    ·simp
   ·rw [bI q];simp only [iA,if_true,nF];rw [if_neg (fun x=>q x.1)]
  rw [hd,zG]
  by_cases q:(0<=s.aS[k]/\s.aS[k]<=23)/\met.getD s.aS[k].toNat true=false
  ·rw [if_pos q] at hst ⊢
   rw [bW hst,ih (k+1) _ (by omega) (by simpa using hm)]
  ·rw [if_neg q] at hst ⊢
   rw [bS hst];rfl
def YI(l:List aP):Prop:=∀s∈l,s.aS.length<=2
instance (l:List aP):Decidable (YI l):=by unfold YI;infer_instance
theorem a1O{l:aC}(ho:l.cL.length=9)(hn:(l.cL++l.Global).length<=1000)(hs:∀s∈l.cL++l.Global,s.aS.length<=maxLen):∀d k (met:List Bool),k+d=(l.cL++l.Global).length->met.length=24 ->
  loop (lN l) ((k:Int),met)=some (if YI (((l.cL++l.Global).drop k).take (9 - k))/\(zG met (cS ((l.cL++l.Global).drop k))).isSome=true then Out.brk () else Out.ret false):=by
 intro d
 induction d with
 | zero =>
  intro k met hk hm
  rw [List.drop_eq_nil_of_le (by omega),if_pos ⟨by simp [YI],rfl⟩]
  refine bS ?_
  simp only [lN]
  rw [if_neg (by simp;simp at hk;omega)]
 | succ d ih =>
  intro k met hk hm
  have hk':k < (l.cL++l.Global).length:=by omega
  have hd:(l.cL++l.Global).drop k=(l.cL++l.Global)[k] :: (l.cL++l.Global).drop (k+1):=List.drop_eq_getElem_cons hk'
  have hsk:=hs _ (List.getElem_mem hk')
  have hf:cS ((l.cL++l.Global).drop k)=(l.cL++l.Global)[k].aS++cS ((l.cL++l.Global).drop (k+1)):=by unfold cS;rw [hd,List.flatMap_cons]
  have hin:∀b:Bool,lM (k:Int) met (l.cL++l.Global)[k] b=if b then some (.stop (Out.ret false)) else (match zG met (l.cL++l.Global)[k].aS with | some m=>some (.next (((k+1:Nat):Int),m)) | none=>some (.stop (Out.ret false))):=by
   intro b
   have h4:=a1N hsk _ 0 met (Nat.zero_add _) hm
   rw [show((0:Nat):Int)=0 from rfl,List.drop_zero] at h4
   unfold lM
   rw [h4]
   cases b
   ·simp only [aN,if_false,aK]
    cases zG met (l.cL++l.Global)[k].aS with
    | none=>rfl
    | some m=>simp only [aID,OU,zT];rw [aO (by omega) (by omega)];rfl
   ·rfl
  have hst:lN l ((k:Int),met)=lM (k:Int) met (l.cL++l.Global)[k] (decide (k < 9/\2 < (l.cL++l.Global)[k].aS.length)):=by
   simp only [lN]
   rw [if_pos (by simp;simp at hk';omega),aV hk']
   simp only [aK]
   by_cases h9:k < 9
   ·rw [if_pos (by simp;omega)]
    congr 1
    rw [Bool.eq_iff_iff];simp only [decide_eq_true_eq];omega
   ·rw [if_neg (by simp;omega),bI (by omega)]
  rw [hin] at hst
  by_cases h2:k < 9/\2 < (l.cL++l.Global)[k].aS.length
  ·rw [aZ h2] at hst
   simp only [if_true] at hst
   rw [bS hst,if_neg]
   rintro⟨q,_⟩
   have e:9 - k=(9 - (k+1))+1:=by omega
   rw [hd,e,List.take_succ_cons] at q
   have:=q _ List.mem_cons_self
   omega
  ·rw [bI h2] at hst
   simp only [aN,if_false] at hst
   have hcond:YI (((l.cL++l.Global).drop k).take (9 - k))↔YI (((l.cL++l.Global).drop (k+1)).take (9 - (k+1))):=by
    unfold YI
    by_cases h9:k < 9
    ·have e:9 - k=(9 - (k+1))+1:=by omega
     rw [hd,e,List.take_succ_cons,List.forall_mem_cons]
     exact⟨fun q=>q.2,fun q=>⟨by omega,q⟩⟩
    ·have e:9 - k=0:=by omega
     have e':9 - (k+1)=0:=by omega
     rw [e,e'];simp
   rw [hf,VX]
   cases hg:zG met (l.cL++l.Global)[k].aS with
   | none =>
    rw [hg] at hst
    rw [bS hst,if_neg (by simp)]
   | some m =>
    rw [hg] at hst
    rw [bW hst,ih (k+1) m (by omega) (by rw [aGP hg];exact hm)]
    simp only [aK,hcond]
theorem PJ{l:aC}(h:(c9 l).length<=1073741824):kG l=some (decide (LOk l)):=by
 unfold kG sD
 by_cases hg:l.Global.length=3
 ·by_cases ho:l.cL.length=9
  ·have n1:((l.Global.length:Int) != 3)=false:=by simp;omega
   have n2:((l.cL.length:Int) != 9)=false:=by simp;omega
   simp only [n1,n2,aN,if_false]
   rw [aQ (by omega)]
   have hsl:∀s∈l.cL++l.Global,s.aS.length<=maxLen:=by
    intro s hm
    have hsum:(cS l.Global).length+(cS l.cL).length<=1073741824:=by simpa [c9] using h
    have hb:(1073741824:Nat)<=maxLen:=by simp [maxLen]
    rcases List.mem_append.1 hm with hm | hm
    ·obtain⟨k,hk,rfl⟩:=List.mem_iff_getElem.1 hm
     have:=RI l.cL hk;omega
    ·obtain⟨k,hk,rfl⟩:=List.mem_iff_getElem.1 hm
     have:=RI l.Global hk;omega
   have key:=a1O ho (by simp;omega) hsl (l.cL++l.Global).length 0 [false,false,false,false,false,false,false,false,false,false,false,false,false,false,false,false,false,false,false,false,false,false,false,false] (by omega) rfl
   rw [show((0:Nat):Int)=0 from rfl,List.drop_zero,Nat.sub_zero] at key
   rw [key]
   have et:(l.cL++l.Global).take 9=l.cL:=by rw [<-ho];simp
   have ef:cS (l.cL++l.Global)=cS l.cL++cS l.Global:=by simp [cS]
   have hm0:∀j:Nat,j < 24->[false,false,false,false,false,false,false,false,false,false,false,false,false,false,false,false,false,false,false,false,false,false,false,false].getD j true=false:=by decide
   have hiff:LOk l↔YI ((l.cL++l.Global).take 9)/\(zG [false,false,false,false,false,false,false,false,false,false,false,false,false,false,false,false,false,false,false,false,false,false,false,false] (cS (l.cL++l.Global))).isSome=true:=by
    rw [UH _ _ rfl,et,ef]
    have hp:(cS l.cL++cS l.Global).Perm (c9 l):=List.perm_append_comm
    constructor
    ·rintro⟨_,_,q1,q2,q3⟩
     exact⟨q1,fun x hx=>q2 x (hp.mem_iff.1 hx),hp.nodup_iff.2 q3,fun x hx=>hm0 _ (by have:=q2 x (hp.mem_iff.1 hx);omega)⟩
    ·rintro⟨q1,q2,q3,_⟩
     exact⟨hg,ho,q1,fun x hx=>q2 x (hp.mem_iff.2 hx),hp.nodup_iff.1 q3⟩
   by_cases q:LOk l
   ·rw [if_pos (hiff.1 q),aZ q];rfl
   ·rw [if_neg (fun x=>q (hiff.2 x)),bI q];rfl
  ·have n1:((l.Global.length:Int) != 3)=false:=by simp;omega
   have n2:((l.cL.length:Int) != 9)=true:=by simp;omega
   simp only [n1,n2,aN,if_false,if_true]
   rw [bI (fun q:LOk l=>ho q.2.1)]
 ·have n1:((l.Global.length:Int) != 3)=true:=by simp;omega
  simp only [n1,if_true]
  rw [bI (fun q:LOk l=>hg q.1)]
end Go.Gv
end
noncomputable section
namespace Go.Gv
def DI(h:aE)(l:List Int)(c:Int):Prop:=∀x∈l,aW h x=c/\iG h x<=6
instance (h:aE) (l:List Int) (c:Int):Decidable (DI h l c):=by unfold DI;infer_instance
theorem M6{h:aE}(hs:fV h){l:List Int}(hl:l.length<=maxLen){c:Int}(hc:0<=c):yL h l c=some (decide (DI h l c)):=by
 unfold yL
 have key:loop (mO h l c) 0=some (if ∀x∈l,aW h x=c/\iG h x<=6 then Out.brk () else Out.ret false):=by
  have hst:∀k (hk:k < l.length),mO h l c (k:Int)=if aW h l[k]=c/\iG h l[k]<=6 then some (.next ((k+1:Nat):Int)) else some (.stop (Out.ret false)):=by
   intro k hk
   simp only [mO]
   rw [if_pos (by simp;omega),aV hk]
   generalize l[k]=x
   simp only [aK,iW hs,wS]
   by_cases q:aW h x=c
   ·have n1:(aW h x != c)=false:=by simp only [bne_eq_false_iff_eq];exact q
    simp only [n1,aN,if_false,oY hs (show 0<=aW h x by omega),aK,iT (m9 hk hl)]
    by_cases q2:iG h x<=6
    ·rw [if_neg (by simp;omega),if_pos ⟨q,q2⟩]
    ·rw [if_pos (by simp;omega),if_neg (fun x=>q2 x.2)]
   ·have n1:(aW h x != c)=true:=by simp only [bne_iff_ne];exact q
    simp only [n1,if_true]
    rw [if_neg (fun x=>q x.1)]
  refine jB (f:=mO h l c) l (fun k=>(k:Int)) (fun x=>aW h x=c/\iG h x<=6) _ _ (fun k hk hp=>?_) (fun k hk hp=>?_) ?_
  ·rw [hst k hk,if_pos hp]
  ·rw [hst k hk,if_neg hp]
  ·simp [mO]
 rw [key]
 by_cases q:∀x∈l,aW h x=c/\iG h x<=6
 ·rw [if_pos q,aZ (show DI h l c from q)];rfl
 ·rw [if_neg q,bI (show ¬DI h l c from q)];rfl
theorem M7{h:aE}(hs:fV h){s:aP}(hl:s.aS.length<=maxLen){c:Int}(hc:0<=c):xZ h s c=some (decide (DI h s.aS c)):=by
 unfold xZ
 have key:loop (mL h s c) 0=some (if ∀x∈s.aS,aW h x=c/\iG h x<=6 then Out.brk () else Out.ret false):=by
  have hst:∀k (hk:k < s.aS.length),mL h s c (k:Int)=if aW h s.aS[k]=c/\iG h s.aS[k]<=6 then some (.next ((k+1:Nat):Int)) else some (.stop (Out.ret false)):=by
   intro k hk
   simp only [mL]
   rw [if_pos (by simp;omega),aV hk]
   generalize s.aS[k]=x
   simp only [aK,lT hs,wG]
   by_cases q:aW h x=c
   ·have n1:(aW h x != c)=false:=by simp only [bne_eq_false_iff_eq];exact q
    simp only [n1,aN,if_false,FO hs (show 0<=aW h x by omega),aK,iT (m9 hk hl)]
    by_cases q2:iG h x<=6
    ·rw [if_neg (by simp;omega),if_pos ⟨q,q2⟩]
    ·rw [if_pos (by simp;omega),if_neg (fun x=>q2 x.2)]
   ·have n1:(aW h x != c)=true:=by simp only [bne_iff_ne];exact q
    simp only [n1,if_true]
    rw [if_neg (fun x=>q x.1)]
  refine jB (f:=mL h s c) s.aS (fun k=>(k:Int)) (fun x=>aW h x=c/\iG h x<=6) _ _ (fun k hk hp=>?_) (fun k hk hp=>?_) ?_
  ·rw [hst k hk,if_pos hp]
  ·rw [hst k hk,if_neg hp]
  ·simp [mL]
 rw [key]
 by_cases q:∀x∈s.aS,aW h x=c/\iG h x<=6
 ·rw [if_pos q,aZ (show DI h s.aS c from q)];rfl
 ·rw [if_neg q,bI (show ¬DI h s.aS c from q)];rfl
def dS(l:List aP)(k:Nat):List Int:=(l.getD k ⟨[]⟩).aS
theorem dN{l:List aP}{k:Nat}(h:k < l.length):l[k].aS=dS l k:=by
 unfold dS;rw [List.getD_eq_getElem?_getD,List.getElem?_eq_getElem h];rfl
def J0(m:Mem)(k:Nat):Prop:=DI m.aE (dS m.aC.Global k) (k:Int)
def DJ(m:Mem)(k:Nat):Prop:=DI m.aE (dS m.aC.cL k) ((k % 3:Nat):Int)
instance (m:Mem) (k:Nat):Decidable (J0 m k):=by unfold J0;infer_instance
instance (m:Mem) (k:Nat):Decidable (DJ m k):=by unfold DJ;infer_instance
instance (m:Mem):Decidable (∀k,k < 3->J0 m k):=Nat.decidableBallLT 3 fun k _=>J0 m k
instance (m:Mem):Decidable (∀k,k < 9->DJ m k):=Nat.decidableBallLT 9 fun k _=>DJ m k
instance (m:Mem) (c:Nat):Decidable (∀w,w < 3->DJ m (w * 3+c)):=Nat.decidableBallLT 3 fun w _=>DJ m (w * 3+c)
instance (m:Mem):Decidable (∀k,k < 3->J0 m k/\∀w,w < 3->DJ m (w * 3+k)):=Nat.decidableBallLT 3 fun k _=>J0 m k/\∀w,w < 3->DJ m (w * 3+k)
def mI(m:Mem):Prop:=(TL m.aE/\LOk m.aC)/\(∀k,k < 3->J0 m k)/\∀k,k < 9->DJ m k
instance (m:Mem):Decidable (mI m):=by unfold mI;infer_instance
theorem LOk.TN{l:aC}(h:LOk l)(hb:(c9 l).length<=1073741824):(∀s∈l.Global,s.aS.length<=1073741824)/\∀s∈l.cL,s.aS.length<=1073741824:=by
 have hsum:(cS l.Global).length+(cS l.cL).length<=1073741824:=by simpa [c9] using hb
 constructor
 ·intro s hm
  obtain⟨k,hk,rfl⟩:=List.mem_iff_getElem.1 hm
  have:=RI l.Global hk;omega
 ·intro s hm
  obtain⟨k,hk,rfl⟩:=List.mem_iff_getElem.1 hm
  have:=RI l.cL hk;omega
theorem aN4{m:Mem}:(∀k,k < 3->J0 m k/\∀w,w < 3->DJ m (w * 3+k))↔(∀k,k < 3->J0 m k)/\∀k,k < 9->DJ m k:=by
 constructor
 ·intro h
  refine⟨fun k hk=>(h k hk).1,fun k hk=>?_⟩
  have:=(h (k % 3) (by omega)).2 (k / 3) (by omega)
  have e:k / 3 * 3+k % 3=k:=by omega
  rwa [e] at this
 ·rintro⟨h1,h2⟩ k hk
  exact⟨h1 k hk,fun w hw=>h2 _ (by omega)⟩
theorem LS{m:Mem}(hb:m.aE.Bytes.length<=maxLen)(hl:(c9 m.aC).length<=1073741824):I1 m=some (decide (mI m)):=by
 unfold I1 E6
 rw [aDB hb,Z7 hl]
 by_cases h1:TL m.aE
 ·by_cases h2:LOk m.aC
  ·have hmx:(1073741824:Nat)<=maxLen:=by simp [maxLen]
   have hsl:=LOk.TN h2 hl
   simp only [aZ h1,aZ h2,aK,dK,aN,if_false]
   have k3:∀c:Nat,c < 3->loop (yO m (c:Int)) 0=some (if ∀w,w < 3->DJ m (w * 3+c) then Out.brk () else Out.ret false):=by
    intro c hc
    have hst:∀w:Nat,w < 3->yO m (c:Int) (w:Int)=if DJ m (w * 3+c) then some (.next ((w+1:Nat):Int)) else some (.stop (Out.ret false)):=by
     intro w hw
     have hk:w * 3+c < m.aC.cL.length:=by rw [h2.2.1];omega
     have e:vI (w:Int) (c:Int)=some ((w * 3+c:Nat):Int):=by
      unfold vI yN
      rw [b8,b8,aZ (by omega),aZ (by omega)]
      simp only [aK,dK,aN,if_false]
      rw [aO (x:=(w:Int) * 3) (by omega) (by omega),aO (by omega) (by omega)];rfl
     have hlen:=hsl.2 _ (List.getElem_mem hk)
     simp only [yO]
     rw [if_pos (by simp;omega),e]
     simp only [aK,aV hk]
     rw [M6 h1.1 (by omega) (by omega),dN hk]
     have em:(w * 3+c) % 3=c:=by omega
     have ho:DJ m (w * 3+c)↔DI m.aE (dS m.aC.cL (w * 3+c)) (c:Int):=by unfold DJ;rw [em]
     rw [aO (by omega) (by omega)]
     by_cases q:DJ m (w * 3+c)
     ·rw [if_pos q,aZ (ho.1 q)];rfl
     ·rw [if_neg q,bI (fun x=>q (ho.2 x))];rfl
    refine vZ (f:=yO m (c:Int)) 3 (fun k=>(k:Int)) (fun w=>DJ m (w * 3+c)) _ _ (fun k hk hx=>?_) (fun k hk hx=>?_) ?_
    ·rw [hst k hk,if_pos hx]
    ·rw [hst k hk,if_neg hx]
    ·rfl
   have k2:loop (yP m) 0=some (if ∀k,k < 3->J0 m k/\∀w,w < 3->DJ m (w * 3+k) then Out.brk () else Out.ret false):=by
    have hst:∀c:Nat,c < 3->yP m (c:Int)=if J0 m c/\∀w,w < 3->DJ m (w * 3+c) then some (.next ((c+1:Nat):Int)) else some (.stop (Out.ret false)):=by
     intro c hc
     have hk:c < m.aC.Global.length:=by rw [h2.1];omega
     have hlen:=hsl.1 _ (List.getElem_mem hk)
     simp only [yP]
     rw [if_pos (by simp;omega)]
     simp only [aK,aV hk]
     rw [M6 h1.1 (by omega) (by omega),dN hk,k3 c hc]
     by_cases q:J0 m c
     ·have q':DI m.aE (dS m.aC.Global c) (c:Int):=q
      rw [aZ q']
      simp only [aK,dK,aN,if_false]
      by_cases q2:∀w,w < 3->DJ m (w * 3+c)
      ·rw [if_pos q2,if_pos ⟨q,q2⟩]
       simp only [S2,S1]
       rw [aO (by omega) (by omega)];rfl
      ·rw [if_neg q2,if_neg (fun x=>q2 x.2)];rfl
     ·have q':¬DI m.aE (dS m.aC.Global c) (c:Int):=q
      rw [bI q',if_neg (fun x:J0 m c/\_=>q x.1)];rfl
    refine vZ (f:=yP m) 3 (fun k=>(k:Int)) (fun k=>J0 m k/\∀w,w < 3->DJ m (w * 3+k)) _ _ (fun k hk hx=>?_) (fun k hk hx=>?_) ?_
    ·rw [hst k hk,if_pos hx]
    ·rw [hst k hk,if_neg hx]
    ·rfl
   rw [k2]
   by_cases q:∀k,k < 3->J0 m k/\∀w,w < 3->DJ m (w * 3+k)
   ·rw [if_pos q,aZ (show mI m from ⟨⟨h1,h2⟩,aN4.1 q⟩)];rfl
   ·rw [if_neg q,bI (fun x:mI m=>q (aN4.2 x.2))];rfl
  ·rw [bI (fun q:mI m=>h2 q.1.2),aZ h1,bI h2];rfl
 ·rw [bI (fun q:mI m=>h1 q.1.1),bI h1];rfl
theorem TO{m:Mem}(hb:m.aE.Bytes.length<=maxLen)(hl:(c9 m.aC).length<=1073741824):IU m=some (decide (mI m)):=by
 unfold IU EV
 rw [JJ hb,PJ hl]
 by_cases h1:TL m.aE
 ·by_cases h2:LOk m.aC
  ·have hmx:(1073741824:Nat)<=maxLen:=by simp [maxLen]
   have hsl:=LOk.TN h2 hl
   simp only [aZ h1,aZ h2,aK,dK,aN,if_false]
   have k3:loop (tD m) 0=some (if ∀k,k < 9->DJ m k then Out.brk () else Out.ret false):=by
    have hst:∀w:Nat,w < 9->tD m (w:Int)=if DJ m w then some (.next ((w+1:Nat):Int)) else some (.stop (Out.ret false)):=by
     intro w hw
     have hk:w < m.aC.cL.length:=by rw [h2.2.1];omega
     have hlen:=hsl.2 _ (List.getElem_mem hk)
     have em:Int.tmod (w:Int) 3=((w % 3:Nat):Int):=by rw [v5 (by omega)];omega
     simp only [tD]
     rw [if_pos (by simp;omega)]
     simp only [aK,aV hk,em]
     rw [M7 h1.1 (by omega) (by omega),dN hk,aO (by omega) (by omega)]
     by_cases q:DJ m w
     ·rw [if_pos q,aZ (show DI m.aE (dS m.aC.cL w) ((w % 3:Nat):Int) from q)];rfl
     ·rw [if_neg q,bI (show ¬DI m.aE (dS m.aC.cL w) ((w % 3:Nat):Int) from q)];rfl
    refine vZ (f:=tD m) 9 (fun k=>(k:Int)) (fun w=>DJ m w) _ _ (fun k hk hx=>?_) (fun k hk hx=>?_) ?_
    ·rw [hst k hk,if_pos hx]
    ·rw [hst k hk,if_neg hx]
    ·simp [tD,h2.2.1]
   have k2:loop (tE m) 0=some (if ∀k,k < 3->J0 m k then Out.brk () else Out.ret false):=by
    have hst:∀w:Nat,w < 3->tE m (w:Int)=if J0 m w then some (.next ((w+1:Nat):Int)) else some (.stop (Out.ret false)):=by
     intro w hw
     have hk:w < m.aC.Global.length:=by rw [h2.1];omega
     have hlen:=hsl.1 _ (List.getElem_mem hk)
     simp only [tE]
     rw [if_pos (by simp;omega)]
     simp only [aK,aV hk]
     rw [M7 h1.1 (by omega) (by omega),dN hk,aO (by omega) (by omega)]
     by_cases q:J0 m w
     ·rw [if_pos q,aZ (show DI m.aE (dS m.aC.Global w) (w:Int) from q)];rfl
     ·rw [if_neg q,bI (show ¬DI m.aE (dS m.aC.Global w) (w:Int) from q)];rfl
    refine vZ (f:=tE m) 3 (fun k=>(k:Int)) (fun w=>J0 m w) _ _ (fun k hk hx=>?_) (fun k hk hx=>?_) ?_
    ·rw [hst k hk,if_pos hx]
    ·rw [hst k hk,if_neg hx]
    ·simp [tE,h2.1]
   rw [k2]
   by_cases q:∀k,k < 3->J0 m k
   ·rw [if_pos q]
    simp only [aK,SX,SW]
    rw [k3]
    by_cases q2:∀k,k < 9->DJ m k
    ·rw [if_pos q2,aZ (show mI m from ⟨⟨h1,h2⟩,q,q2⟩)];rfl
    ·rw [if_neg q2,bI (fun x:mI m=>q2 x.2.2)];rfl
   ·rw [if_neg q,bI (fun x:mI m=>q x.2.1)];rfl
  ·rw [bI (fun q:mI m=>h2 q.1.2),aZ h1,bI h2];rfl
 ·rw [bI (fun q:mI m=>h1 q.1.1),bI h1];rfl
end Go.Gv
end
noncomputable section
namespace Go.Gv
theorem zH{l:List aP}{s:aP}(h:s∈l):s.aS.length<=(cS l).length:=by
 obtain⟨k,hk,rfl⟩:=List.mem_iff_getElem.1 h
 exact RI l hk
theorem oO(l:aC):(c9 l).length=(cS l.Global).length+(cS l.cL).length:=by simp [c9]
def tT(m:Mem):Prop:=m.aE.Bytes.length<=1048576/\m.aE.Class.length<=1048576/\m.aC.Global.length<=1048576/\m.aC.cL.length<=1048576/\(c9 m.aC).length<=1048576
theorem tT.TN{m:Mem}(h:tT m):(∀s∈m.aC.Global,s.aS.length<=1048576)/\∀s∈m.aC.cL,s.aS.length<=1048576:=by
 have:=oO m.aC
 have h5:=h.2.2.2.2
 exact⟨fun s hm=>by have:=zH hm;omega,fun s hm=>by have:=zH hm;omega⟩
end Go.Gv
end
noncomputable section
namespace Go.Gv
def POk(e:Int)(p:oV):Prop:=(0<=p.aG/\p.aG<=e)/\(0<=p.Seen/\p.Seen<=2)/\(p.On=false->p=⟨false,0,false,0⟩)
instance (e:Int) (p:oV):Decidable (POk e p):=by unfold POk;infer_instance
def IC(c:aB):Prop:=(0<=c.aG/\c.aG<=100000)/\c.cG.length=3/\∀p∈c.cG,POk c.aG p
instance (c:aB):Decidable (IC c):=by unfold IC;infer_instance
theorem iX(c:aB):oH c=some (decide (IC c)):=by
 unfold oH
 rw [b8]
 by_cases h1:0<=c.aG/\c.aG<=100000
 ·by_cases h2:c.cG.length=3
  ·simp only [aK,h1,h2,nL]
   have key:∀k:Nat,k<=3->loop (sN c) (k:Int)=some (if ∀p∈c.cG.drop k,POk c.aG p then Out.brk () else Out.ret false):=by
    refine aHA 3 _ fun k hk=>?_
    by_cases h3:k < 3
    ·have hd:c.cG.drop k=c.cG[k] :: c.cG.drop (k+1):=List.drop_eq_getElem_cons (by omega)
     simp only [sN]
     rw [if_pos (by simp;omega),aV (by omega)]
     simp only [aK,b8,lR,hd]
     rw [iT (by simp [maxLen];omega)]
     generalize c.cG[k]=p
     have hp:POk c.aG p↔decide (0<=p.aG/\p.aG<=c.aG)=true/\decide (0<=p.Seen/\p.Seen<=2)=true/\(p.On=false->decide (p=⟨false,0,false,0⟩)=true):=by simp only [POk,decide_eq_true_eq]
     simp only [List.forall_mem_cons,hp]
     generalize decide (0<=p.aG/\p.aG<=c.aG)=b1
     generalize decide (0<=p.Seen/\p.Seen<=2)=b2
     generalize decide (p=⟨false,0,false,0⟩)=b3
     generalize p.On=b4
     cases b1 <;> cases b2 <;> cases b3 <;> cases b4 <;> simp [h3]
    ·left
     obtain rfl:k=3:=by omega
     simp [sN,List.drop_eq_nil_of_le (show c.cG.length<=3 by omega)]
   have:=key 0 (by omega)
   simp only [Int.ofNat_zero,List.drop_zero] at this
   have e:decide (IC c)=if ∀p∈c.cG,POk c.aG p then true else false:=by
    have:IC c↔∀p∈c.cG,POk c.aG p:=⟨fun h=>h.2.2,fun h=>⟨h1,h2,h⟩⟩
    simp [this]
   rw [e]
   simp only [Int.cast_ofNat_Int] at *
   have t0:loop (sN c) 0=_:=this
   by_cases h5:∀p∈c.cG,POk c.aG p
   ·rw [if_pos h5] at t0 ⊢;rw [t0];simp [GR,O3]
   ·rw [if_neg h5] at t0 ⊢;rw [t0];simp [GR]
  ·simp [h1,h2,nL,IC]
   omega
 ·simp [h1,nL,IC]
theorem aJ4(p:oV)(c:aB):uP p c=some (!decide (POk c.aG p)):=by
 unfold uP lB
 rw [eB,eB]
 have hp:decide (POk c.aG p)=(decide (0<=p.aG/\p.aG<=c.aG) && (decide (0<=p.Seen/\p.Seen<=2) && (p.On || decide (p=⟨false,0,false,0⟩)))):=by
  rw [Bool.eq_iff_iff];simp only [POk,decide_eq_true_eq,Bool.and_eq_true,Bool.or_eq_true]
  by_cases h:p.On=true
  ·simp [h]
  ·simp [(by simpa using h:p.On=false)]
 rw [hp]
 generalize decide (0<=p.aG/\p.aG<=c.aG)=b1
 generalize decide (0<=p.Seen/\p.Seen<=2)=b2
 generalize decide (p=⟨false,0,false,0⟩)=b3
 generalize p.On=b4
 cases b1 <;> cases b2 <;> cases b3 <;> cases b4 <;> rfl
theorem aIE{l:List oV}(hl:l.length<=maxLen)(f:oV->Bool):lA l (fun x=>some (f x))=some (l.any f):=by
 unfold lA uO
 have key:∀k:Nat,k<=l.length->loop (i5 l (fun x=>some (f x))) (k:Int)=some (if (l.drop k).any f then Out.ret ((k+(l.drop k).findIdx f:Nat):Int) else Out.brk ()):=by
  refine aHA l.length _ fun k hk=>?_
  by_cases h3:k < l.length
  ·have hd:l.drop k=l[k] :: l.drop (k+1):=List.drop_eq_getElem_cons h3
   simp only [i5]
   rw [if_pos (by simp;omega),aV h3,iT (m9 h3 hl),hd]
   simp only [aK,List.any_cons,List.findIdx_cons]
   by_cases h4:f l[k]=true
   ·left;simp [h4]
   ·right
    have h4:f l[k]=false:=by simpa using h4
    refine⟨h3,by simp [h4],?_⟩
    simp only [h4,Bool.false_or,cond_false]
    congr 2;omega
  ·left
   obtain rfl:k=l.length:=by omega
   simp [i5]
 have t0:loop (i5 l (fun x=>some (f x))) 0=_:=key 0 (by omega)
 rw [t0]
 simp only [List.drop_zero]
 by_cases h:l.any f=true
 ·simp [h,pZ]
 ·have h:l.any f=false:=by simpa using h
  simp [h,pZ,A7]
theorem sY{c:aB}(hc:c.cG.length<=maxLen):oA c=some (decide (IC c)):=by
 unfold oA sG
 rw [eB]
 have e:(fun y0=>uP y0 c)=fun y0=>some (!decide (POk c.aG y0)):=funext fun y=>aJ4 y c
 rw [e,aIE hc]
 by_cases h1:0<=c.aG/\c.aG<=100000
 ·by_cases h2:c.cG.length=3
  ·have:IC c↔∀p∈c.cG,POk c.aG p:=⟨fun h=>h.2.2,fun h=>⟨h1,h2,h⟩⟩
   have e2:(c.cG.any fun y0=>!decide (POk c.aG y0))=!decide (∀p∈c.cG,POk c.aG p):=by
    rw [Bool.eq_iff_iff];simp
   simp [h1,h2,this,e2]
  ·have:¬(c.cG.length:Int)=3:=by omega
   simp [h1,this,h2,IC]
 ·simp [h1,IC]
end Go.Gv
end
noncomputable section
namespace Go.Gv
def bC(l:List aY):List cZ:=l.flatMap aY.Rows
theorem JK{l:List aY}{k:Nat}(h:k < l.length):bC (l.take (k+1))=bC (l.take k)++l[k].Rows:=by
 unfold bC
 rw [List.take_succ_eq_append_getElem h,List.flatMap_append];simp
theorem aDC(l:List aY)(k:Nat):(bC (l.take k)).length<=(bC l).length:=by
 have:bC l=bC (l.take k)++bC (l.drop k):=by
  unfold bC;rw [<-List.flatMap_append,List.take_append_drop]
 rw [this];simp
theorem aO9(l:List aY){k:Nat}(h:k < l.length):l[k].Rows.length<=(bC l).length:=by
 have h1:=aDC l (k+1)
 rw [JK h] at h1
 simp at h1;omega
theorem M8{l:List aY}{s:aY}(h:s∈l):s.Rows.length<=(bC l).length:=by
 obtain⟨k,hk,rfl⟩:=List.mem_iff_getElem.1 h
 exact aO9 l hk
theorem DK{l:List aY}(h:(bC l).length<=1073741824)(hl:l.length<=maxLen):vA l=some (bC l):=by
 unfold vA
 have k1:loop (uZ l) ([],0)=some (bC l):=by
  refine jG (f:=uZ l) l.length (fun k=>(bC (l.take k),(k:Int))) _ (fun k hk=>?_) ?_
  ·have h1:=aDC l (k+1)
   rw [JK hk] at h1
   simp only [uZ]
   rw [if_pos (by simp;omega),aV hk]
   simp only [aK]
   rw [aQ (by simp at h1;omega),JK hk,iT (m9 hk hl)]
  ·simp [uZ]
 rw [k1];rfl
def jH(h:Int):Prop:=(32<=h/\h<=223)/\h % 32 < 24
instance (h:Int):Decidable (jH h):=by unfold jH;infer_instance
theorem eJ(h:Int):hU h=some (decide (jH h)):=by
 unfold hU wT jH
 rw [b8]
 by_cases q:32<=h/\h<=223
 ·simp [q,v5 (show 0<=h by omega)]
 ·simp [q]
theorem jD(h:Int):hQ h=some (decide (jH h)):=by
 unfold hQ mM jH
 rw [eB]
 by_cases q:32<=h/\h<=223
 ·simp [q,v5 (show 0<=h by omega)]
 ·simp [q]
theorem jH.mod{h:Int}(q:jH h):Int.tmod h 32=h % 32/\0<=h % 32/\h % 32<=23:=by
 unfold jH at q
 exact⟨v5 (by omega),by omega,by omega⟩
theorem cV(h:Int):eX h=some (if jH h then h % 32 else -1):=by
 unfold eX
 rw [eJ]
 by_cases q:jH h
 ·simp [q,q.mod.1]
 ·simp [q]
def zI(r:cZ):Prop:=jH r.Handle/\0<=r.aG/\r.aG<=100000
instance (r:cZ):Decidable (zI r):=by unfold zI;infer_instance
def lG(r:cZ):Int:=r.Handle % 32
def oP(l:List aY):Prop:=l.length=3/\(bC l).length<=24/\(∀r∈bC l,zI r)/\((bC l).map lG).Nodup
instance (l:List aY):Decidable (oP l):=by unfold oP;infer_instance
def rowAt(l:List cZ)(k:Nat):cZ:=l.getD k ⟨0,0⟩
theorem SH{l:List cZ}{k:Nat}(h:k < l.length):rowAt l k=l[k]:=by
 unfold rowAt;rw [List.getD_eq_getElem?_getD,List.getElem?_eq_getElem h];rfl
theorem Z8{l:List aY}(h:(bC l).length<=1073741824)(hl:l.length<=maxLen):H3 l=some (decide (oP l)):=by
 unfold H3 AD
 rw [DK h hl]
 simp only [aK]
 by_cases h3:l.length=3
 ·have n1:((l.length:Int) != 3)=false:=by simp;omega
  simp only [n1,aN,if_false]
  by_cases h24:(bC l).length<=24
  ·rw [if_neg (by simp;omega)]
   have hst:∀k,k < (bC l).length->sP (bC l) (((bC l).take k).map lG,(k:Int))=if zI (rowAt (bC l) k)/\lG (rowAt (bC l) k)∉((bC l).take k).map lG then some (.next (((bC l).take (k+1)).map lG,((k+1:Nat):Int))) else some (.stop (Out.ret false)):=by
    intro k hk
    simp only [sP,sO]
    rw [if_pos (by simp;omega),aV hk,SH hk]
    simp only [aK,cV,b8]
    by_cases q:jH (bC l)[k].Handle
    ·have hm:=q.mod
     rw [if_pos q,if_neg (by simp;omega)]
     by_cases q2:0<=(bC l)[k].aG/\(bC l)[k].aG<=100000
     ·rw [aZ q2]
      simp only [dK,aN,if_false]
      rw [LR (by simp [maxLen];omega)]
      simp only [aK]
      by_cases q3:(bC l)[k].Handle % 32∈((bC l).take k).map lG
      ·rw [aZ q3];simp only [if_true];rw [if_neg (show ¬(zI (bC l)[k]/\lG (bC l)[k]∉((bC l).take k).map lG) from fun x=>x.2 q3)]
      ·rw [bI q3]
       simp only [aN,if_false]
       rw [if_pos (show zI (bC l)[k]/\lG (bC l)[k]∉((bC l).take k).map lG from ⟨⟨q,q2⟩,q3⟩),aQ (by simp;omega),aO (by omega) (by omega),map_take _ hk];rfl
     ·rw [bI q2]
      simp only [iA,if_true]
      rw [if_neg (fun x:zI _/\_=>q2 x.1.2)]
    ·rw [if_neg q,if_pos (by simp),if_neg (fun x:zI _/\_=>q x.1.1)];rfl
   have key:=vZ (f:=sP (bC l)) (bC l).length (fun k=>(((bC l).take k).map lG,(k:Int))) (fun k=>zI (rowAt (bC l) k)/\lG (rowAt (bC l) k)∉((bC l).take k).map lG) (Out.brk ()) (Out.ret false) (fun k hk hx=>by rw [hst k hk,if_pos hx]) (fun k hk hx=>by rw [hst k hk,if_neg hx]) (by simp [sP])
   rw [List.take_zero,List.map_nil,show((0:Nat):Int)=0 from rfl] at key
   rw [key]
   have hiff:oP l↔∀k,k < (bC l).length->zI (rowAt (bC l) k)/\lG (rowAt (bC l) k)∉((bC l).take k).map lG:=by
    constructor
    ·rintro⟨_,_,q1,q2⟩ k hk
     rw [SH hk]
     refine⟨q1 _ (List.getElem_mem hk),?_⟩
     have:=(OG _).1 q2 k (by simpa using hk)
     rw [List.getElem_map,<-List.map_take] at this
     exact this
    ·intro q
     refine⟨h3,h24,fun x hx=>?_,(OG _).2 fun k hk=>?_⟩
     ·obtain⟨k,hk,rfl⟩:=List.mem_iff_getElem.1 hx
      have:=(q k hk).1;rw [SH hk] at this;exact this
     ·have hk':k < (bC l).length:=by simpa using hk
      have:=(q k hk').2;rw [SH hk'] at this
      rw [List.getElem_map,<-List.map_take];exact this
   by_cases q:oP l
   ·rw [if_pos (hiff.1 q),aZ q];rfl
   ·rw [if_neg (fun x=>q (hiff.2 x)),bI q];rfl
  ·rw [if_pos (by simp;omega),bI (fun q:oP l=>h24 q.2.1)]
 ·have n1:((l.length:Int) != 3)=true:=by simp;omega
  simp only [n1,if_true]
  rw [bI (fun q:oP l=>h3 q.1)]
def goR:List Bool->List cZ->Option (List Bool)
 | met,[]=>some met
 | met,r :: t=>if zI r/\met.getD (lG r).toNat true=false then goR (met.set (lG r).toNat true) t else none
theorem aN5:∀{xs:List cZ} {met m:List Bool},goR met xs=some m->m.length=met.length
 | [],met,m,h=>by simp [goR] at h;rw [h]
 | x :: r, met, m, h => by
  simp only [goR] at h
  split at h
  ·have:=aN5 h;simpa using this
  ·cases h
theorem aDD:∀(a b:List cZ) (met:List Bool),goR met (a++b)=(goR met a).bind fun m=>goR m b
 | [],b,met=>rfl
 | x :: r, b, met => by
  simp only [List.cons_append,goR]
  split
  ·exact aDD r b _
  ·rfl
theorem aJ5:∀(xs:List cZ) (met:List Bool),(goR met xs).isSome=true↔(∀r∈xs,zI r)/\(zG met (xs.map lG)).isSome=true
 | [],met=>by simp [goR,zG]
 | x :: r, met => by
  simp only [goR,List.map_cons,zG]
  by_cases h:zI x
  ·have hm:=h.1.mod
   have hs:0<=lG x/\lG x<=23:=hm.2
   by_cases h2:met.getD (lG x).toNat true=false
   ·rw [if_pos ⟨h,h2⟩,if_pos ⟨hs,h2⟩,aJ5 r _]
    simp [h]
   ·rw [if_neg (fun q=>h2 q.2),if_neg (fun q=>h2 q.2)];simp
  ·rw [if_neg (fun q=>h q.1)]
   constructor
   ·intro q;cases q
   ·rintro⟨q,_⟩;exact(h (q x List.mem_cons_self)).elim
theorem aPA{s:aY}(hl:s.Rows.length<=maxLen):∀d k (met:List Bool),k+d=s.Rows.length->met.length=24->loop (lO s) ((k:Int),met)=some (aID (goR met (s.Rows.drop k))):=by
 intro d
 induction d with
 | zero =>
  intro k met hk hm
  rw [bS (r:=Out.brk met) (by simp [lO];omega),List.drop_eq_nil_of_le (by omega)];rfl
 | succ d ih =>
  intro k met hk hm
  have hk':k < s.Rows.length:=by omega
  have hd:s.Rows.drop k=s.Rows[k] :: s.Rows.drop (k+1):=List.drop_eq_getElem_cons hk'
  have hst:lO s ((k:Int),met)=if zI s.Rows[k]/\met.getD (lG s.Rows[k]).toNat true=false then some (.next (((k+1:Nat):Int),met.set (lG s.Rows[k]).toNat true)) else some (.stop (Out.ret false)):=by
   simp only [lO]
   rw [if_pos (by simp;omega),aV hk']
   simp only [aK,jD,eB]
   generalize s.Rows[k]=x
   by_cases q:jH x.Handle
   ·by_cases q2:0<=x.aG/\x.aG<=100000
    ·have hm2:=q.mod
     obtain⟨j,hj0⟩:=Int.eq_ofNat_of_zero_le hm2.2.1
     have hj:j < met.length:=by omega
     have e:met.getD j true=met[j]:=by rw [List.getD_eq_getElem?_getD,List.getElem?_eq_getElem hj];rfl
     have hr:zI x:=⟨q,q2⟩
     simp only [q,q2,and_self,decide_true,dK,aN,if_false,jW,hm2.1,hj0,Int.toNat_natCast,hr,true_and,lG,e]
     rw [aQ (by omega),aV hj]
     simp only [aK]
     cases met[j]
     ·simp only [aN,if_false,if_true]
      rw [aQ (by omega),iT (m9 hk' hl)]
     ·simp
    ·rw [aZ q,bI q2];simp only [dK,iA,aN,if_false,if_true,jW];rw [if_neg (fun y:zI x/\_=>q2 y.1.2)]
   ·rw [bI q];simp only [iA,if_true,jW];rw [if_neg (fun y:zI x/\_=>q y.1.1)]
  rw [hd,goR]
  by_cases q:zI s.Rows[k]/\met.getD (lG s.Rows[k]).toNat true=false
  ·rw [if_pos q] at hst ⊢
   rw [bW hst,ih (k+1) _ (by omega) (by simpa using hm)]
  ·rw [if_neg q] at hst ⊢
   rw [bS hst];rfl
theorem aPB{l:List aY}(hn:l.length<=1000)(hs:∀s∈l,s.Rows.length<=maxLen):∀d k (met:List Bool),k+d=l.length->met.length=24 ->
  loop (lP l) ((k:Int),met)=some (if (goR met (bC (l.drop k))).isSome=true then Out.brk () else Out.ret false):=by
 intro d
 induction d with
 | zero =>
  intro k met hk hm
  rw [List.drop_eq_nil_of_le (by omega),if_pos (show(goR met (bC [])).isSome=true from rfl)]
  refine bS ?_
  simp only [lP]
  rw [if_neg (by simp;omega)]
 | succ d ih =>
  intro k met hk hm
  have hk':k < l.length:=by omega
  have hd:l.drop k=l[k] :: l.drop (k+1):=List.drop_eq_getElem_cons hk'
  have hsk:=hs _ (List.getElem_mem hk')
  have hf:bC (l.drop k)=l[k].Rows++bC (l.drop (k+1)):=by unfold bC;rw [hd,List.flatMap_cons]
  have h4:=aPA hsk _ 0 met (Nat.zero_add _) hm
  rw [show((0:Nat):Int)=0 from rfl,List.drop_zero] at h4
  have hst:lP l ((k:Int),met)=(match goR met l[k].Rows with | some m=>some (.next (((k+1:Nat):Int),m)) | none=>some (.stop (Out.ret false))):=by
   simp only [lP]
   rw [if_pos (by simp;omega),aV hk']
   simp only [aK]
   rw [h4]
   cases goR met l[k].Rows with
   | none=>rfl
   | some m=>simp only [aK,aID,OV,zW];rw [aO (by omega) (by omega)];rfl
  rw [hf,aDD]
  cases hg:goR met l[k].Rows with
  | none =>
   rw [hg] at hst
   rw [bS hst,if_neg (by simp)]
  | some m =>
   rw [hg] at hst
   rw [bW hst,ih (k+1) m (by omega) (by rw [aN5 hg];exact hm)]
   simp only [aK]
theorem VY{l:List aY}(hn:l.length<=1000)(h:(bC l).length<=1073741824):uQ l=some ((bC l).length:Int):=by
 unfold uQ
 have key:loop (jM l) (0,0)=some ((bC l).length:Int):=by
  refine jG (f:=jM l) l.length (fun k=>(((bC (l.take k)).length:Int),(k:Int))) _ (fun k hk=>?_) ?_
  ·have h1:=aDC l (k+1)
   rw [JK hk,List.length_append] at h1
   simp only [jM]
   rw [if_pos (by simp;omega),aV hk]
   simp only [aK]
   rw [aO (by omega) (by omega),aO (by omega) (by omega),JK hk,List.length_append]
   simp
  ·simp [jM]
 rw [key];rfl
theorem AL{l:List aY}(h:(bC l).length<=1073741824):l9 l=some (decide (oP l)):=by
 unfold l9
 by_cases h3:l.length=3
 ·have n1:((l.length:Int) != 3)=false:=by simp;omega
  have hb:(1073741824:Nat)<=maxLen:=by simp [maxLen]
  simp only [n1,aN,if_false]
  have key:=aPB (l:=l) (by omega) (fun s hs=>by have:=M8 hs;omega) l.length 0 [false,false,false,false,false,false,false,false,false,false,false,false,false,false,false,false,false,false,false,false,false,false,false,false] (by omega) rfl
  rw [show((0:Nat):Int)=0 from rfl,List.drop_zero] at key
  rw [key]
  have hm0:∀j:Nat,j < 24->[false,false,false,false,false,false,false,false,false,false,false,false,false,false,false,false,false,false,false,false,false,false,false,false].getD j true=false:=by decide
  have hiff:oP l↔(bC l).length<=24/\(goR [false,false,false,false,false,false,false,false,false,false,false,false,false,false,false,false,false,false,false,false,false,false,false,false] (bC l)).isSome=true:=by
   rw [aJ5,UH _ _ rfl]
   have hr:(∀r∈bC l,zI r)->∀x∈(bC l).map lG,0<=x/\x<=23:=by
    intro q x hx
    obtain⟨r,hr,rfl⟩:=List.mem_map.1 hx
    exact(q r hr).1.mod.2
   constructor
   ·rintro⟨_,q1,q2,q3⟩
    exact⟨q1,q2,hr q2,q3,fun x hx=>hm0 _ (by have:=hr q2 x hx;omega)⟩
   ·rintro⟨q1,q2,_,q3,_⟩
    exact⟨h3,q1,q2,q3⟩
  by_cases q:(goR [false,false,false,false,false,false,false,false,false,false,false,false,false,false,false,false,false,false,false,false,false,false,false,false] (bC l)).isSome=true
  ·rw [if_pos q]
   simp only [aK,OW,zV]
   rw [VY (by omega) h]
   simp only [aK]
   congr 1
   rw [Bool.eq_iff_iff];simp only [decide_eq_true_eq]
   rw [hiff]
   exact⟨fun a=>⟨by omega,q⟩,fun a=>by omega⟩
  ·rw [if_neg q,bI (fun x=>q (hiff.1 x).2)];rfl
 ·have n1:((l.length:Int) != 3)=true:=by simp;omega
  simp only [n1,if_true]
  rw [bI (fun q:oP l=>h3 q.1)]
def cW(h:Int):Prop:=h=0\/jH h
instance (h:Int):Decidable (cW h):=by unfold cW;infer_instance
def ID(z:List Int):Prop:=z.length=3/\∀h∈z,cW h
instance (z:List Int):Decidable (ID z):=by unfold ID;infer_instance
theorem zJ{z:List Int}(hl:z.length<=maxLen):EA z=some (decide (ID z)):=by
 unfold EA
 have hst:∀k (hk:k < z.length),yQ z (k:Int)=if cW z[k] then some (.next ((k+1:Nat):Int)) else some (.stop (Out.ret false)):=by
  intro k hk
  simp only [yQ,E7]
  rw [if_pos (by simp;omega),aV hk,iT (m9 hk hl)]
  simp only [aK,eJ]
  generalize z[k]=x
  by_cases q:x=0
  ·have n:(x != 0)=false:=by simp only [bne_eq_false_iff_eq];exact q
   rw [n,if_pos (show cW x from .inl q)];rfl
  ·have n:(x != 0)=true:=by simp only [bne_iff_ne];exact q
   by_cases q2:jH x
   ·rw [n,aZ q2,if_pos (show cW x from .inr q2)];rfl
   ·rw [n,bI q2,if_neg (fun a:cW x=>a.elim q q2)];rfl
 have key:=jB (f:=yQ z) z (fun k=>(k:Int)) cW (Out.brk ()) (Out.ret false) (fun k hk hx=>by rw [hst k hk,if_pos hx]) (fun k hk hx=>by rw [hst k hk,if_neg hx]) (by simp [yQ])
 rw [show((0:Nat):Int)=0 from rfl] at key
 rw [key]
 by_cases q:∀x∈z,cW x
 ·rw [if_pos q]
  have:ID z↔z.length=3:=⟨fun a=>a.1,fun a=>⟨a,q⟩⟩
  simp only [aK,S4,S3,this]
  congr 1;rw [Bool.eq_iff_iff];simp only [beq_iff_eq,decide_eq_true_eq];omega
 ·rw [if_neg q,bI (fun a:ID z=>q a.2)];rfl
theorem LU{z:List Int}(hl:z.length<=maxLen):D7 z=some (decide (ID z)):=by
 unfold D7 EW
 have e:(fun y0=>HH y0)=fun y:Int=>some (!decide (cW y)):=by
  funext y
  unfold HH qX uR
  rw [jD]
  by_cases q:y=0
  ·have n:(y == 0)=true:=by simp only [beq_iff_eq];exact q
   rw [n,aZ (show cW y from .inl q)];rfl
  ·have n:(y == 0)=false:=by simp only [beq_eq_false_iff_ne];exact q
   by_cases q2:jH y
   ·rw [n,aZ q2,aZ (show cW y from .inr q2)];rfl
   ·rw [n,bI q2,bI (fun a:cW y=>a.elim q q2)];rfl
 rw [e,DG hl,FM]
 by_cases h3:z.length=3
 ·have n:((z.length:Int) == 3)=true:=by simp;omega
  have:ID z↔∀h∈z,cW h:=⟨fun a=>a.2,fun a=>⟨h3,a⟩⟩
  simp only [n,if_true,aK,Bool.not_not,this]
 ·have n:((z.length:Int) == 3)=false:=by simp;omega
  simp only [n,aN,if_false]
  rw [bI (fun a:ID z=>h3 a.1)]
end Go.Gv
end
noncomputable section
namespace Go.Gv
theorem JL{α:Type}(l:List α)(f:α->Bool){body:Int->Option (Step Int (Out Unit Int))}(hb:∀k (hk:k < l.length),body (k:Int)=if f l[k] then some (.stop (.ret (k:Int))) else some (.next ((k+1:Nat):Int)))(he:body (l.length:Int)=some (.stop (.brk ()))) :
  ∃o,loop body 0=some o/\match o with | .brk _=>l.any f=false | .ret r=>0<=r/\l.any f=true:=by
 have key:=aO7 (f:=body) l.length (fun k=>(k:Int)) (fun k=>if (l.drop k).any f then Out.ret ((k+(l.drop k).findIdx f:Nat):Int) else Out.brk ()) (fun k hk=>by
  by_cases h:k < l.length
  ·have hd:l.drop k=l[k] :: l.drop (k+1):=List.drop_eq_getElem_cons h
   rw [hb k h,hd]
   simp only [List.any_cons,List.findIdx_cons]
   by_cases h4:f l[k]=true
   ·left;simp [h4]
   ·right
    have h4:f l[k]=false:=by simpa using h4
    refine⟨h,by simp [h4],?_⟩
    simp only [h4,Bool.false_or,cond_false]
    congr 2;omega
  ·left
   obtain rfl:k=l.length:=by omega
   rw [he];simp) 0 (Nat.zero_le _)
 rw [show((0:Nat):Int)=0 from rfl,List.drop_zero] at key
 refine⟨_,key,?_⟩
 by_cases h:l.any f=true
 ·rw [if_pos h];exact⟨by omega,h⟩
 ·rw [if_neg h];simpa using h
theorem TP{l:List cZ}(hl:l.length<=maxLen)(f:cZ->Bool):iP l (fun x=>some (f x))=some (l.any f):=by
 obtain⟨o,e,h⟩:=JL l f (body:=kH l (fun x=>some (f x))) (fun k hk=>by
  simp only [kH]
  rw [if_pos (by simp;omega),aV hk,iT (m9 hk hl)];rfl) (by simp [kH])
 unfold iP tR
 rw [e]
 cases o with
 | brk u=>simp only at h;simp [oW,yA,h]
 | ret r=>simp only at h;simp [oW,h]
theorem RJ{l:List aY}(hl:l.length<=maxLen)(f:aY->Bool)(g:aY->Option Bool)(hg:∀x∈l,g x=some (f x)):iI l g=some (l.any f):=by
 obtain⟨o,e,h⟩:=JL l f (body:=j6 l g) (fun k hk=>by
  simp only [j6]
  rw [if_pos (by simp;omega),aV hk,iT (m9 hk hl)]
  simp only [aK,hg _ (List.getElem_mem hk)]) (by simp [j6])
 unfold iI rG
 rw [e]
 cases o with
 | brk u=>simp only at h;simp [nD,xJ,h]
 | ret r=>simp only at h;simp [nD,h]
theorem RK{l:List aP}(hl:l.length<=maxLen)(f:aP->Bool)(g:aP->Option Bool)(hg:∀x∈l,g x=some (f x)):iJ l g=some (l.any f):=by
 obtain⟨o,e,h⟩:=JL l f (body:=j7 l g) (fun k hk=>by
  simp only [j7]
  rw [if_pos (by simp;omega),aV hk,iT (m9 hk hl)]
  simp only [aK,hg _ (List.getElem_mem hk)]) (by simp [j7])
 unfold iJ rH
 rw [e]
 cases o with
 | brk u=>simp only at h;simp [nE,xK,h]
 | ret r=>simp only at h;simp [nE,h]
theorem contains_eq{l:List Int}(hl:l.length<=maxLen)(v:Int):pH l v=some (decide (v∈l)):=by
 obtain⟨o,e,h⟩:=JL l (fun x=>v == x) (body:=eR l v) (fun k hk=>by
  simp only [eR]
  rw [if_pos (by simp;omega),aV hk,iT (m9 hk hl)];rfl) (by simp [eR])
 have ha:l.any (fun x=>v == x)=decide (v∈l):=by
  rw [Bool.eq_iff_iff];simp
 rw [ha] at h
 unfold pH mN
 rw [e]
 cases o with
 | brk u=>simp only at h;simp [pG,G7,h]
 | ret r=>simp only at h;simp [pG,h]
theorem SI{l:List aP}{x:Int}:x∈cS l↔∃s∈l,x∈s.aS:=List.mem_flatMap
noncomputable section
variable {m:Mem} (hsh:fV m.aE) (hl:(c9 m.aC).length<=1073741824) (hg:m.aC.Global.length<=maxLen) (ho:m.aC.cL.length<=maxLen)
include hl hg ho
theorem aDE(s:Int):KG m.aC s=some (decide (s∈c9 m.aC)):=by
 have hb:(1073741824:Nat)<=maxLen:=by simp [maxLen]
 unfold KG
 rw [TM hl hg ho]
 simp only [aK]
 rw [LR (by omega)];rfl
theorem RL(s:Int):FV m.aC s=some (decide (s∈c9 m.aC)):=by
 have hb:(1073741824:Nat)<=maxLen:=by simp [maxLen]
 have hal:=oO m.aC
 have e1:∀x∈m.aC.Global,oX x s=some (decide (s∈x.aS)):=fun x hx=>by
  have:=zH hx
  unfold oX;rw [contains_eq (by omega)];rfl
 have e2:∀x∈m.aC.cL,oX x s=some (decide (s∈x.aS)):=fun x hx=>by
  have:=zH hx
  unfold oX;rw [contains_eq (by omega)];rfl
 unfold FV BY
 rw [RK hg (fun x=>decide (s∈x.aS)) _ e1,RK ho (fun x=>decide (s∈x.aS)) _ e2]
 have a1:(m.aC.Global.any fun x=>decide (s∈x.aS))=decide (s∈cS m.aC.Global):=by
  rw [Bool.eq_iff_iff];simp [SI]
 have a2:(m.aC.cL.any fun x=>decide (s∈x.aS))=decide (s∈cS m.aC.cL):=by
  rw [Bool.eq_iff_iff];simp [SI]
 rw [a1,a2]
 simp only [aK,c9,List.mem_append]
 by_cases q:s∈cS m.aC.Global <;> simp [q]
def dW(m:Mem)(s:Int):Int:=if aW m.aE s < 0 then 0 else if s∈c9 m.aC then 1 else if 6 < iG m.aE s then 2 else 3
include hsh
theorem PK(s:Int):CL m s=some (dW m s):=by
 unfold CL dW
 rw [iW hsh,aDE hl hg ho]
 simp only [aK]
 by_cases q:aW m.aE s < 0
 ·simp [q]
 ·rw [oY hsh (by omega)]
  by_cases q2:s∈c9 m.aC
  ·simp [q,q2]
  ·by_cases q3:6 < iG m.aE s <;> simp [q,q2,q3]
theorem Z9(s:Int):HI m s=some (dW m s):=by
 unfold HI dW
 rw [lT hsh,RL hl hg ho]
 simp only [aK]
 by_cases q:aW m.aE s < 0
 ·simp [q]
 ·rw [FO hsh (by omega)]
  by_cases q2:s∈c9 m.aC
  ·simp [q,q2]
  ·by_cases q3:6 < iG m.aE s <;> simp [q,q2,q3]
def hC(m:Mem)(h:Int):Prop:=jH h/\dW m (h % 32)=3/\iG m.aE (h % 32)=h / 32
instance (m:Mem) (h:Int):Decidable (hC m h):=by unfold hC;infer_instance
omit hl hg ho hsh in
theorem hJ{m:Mem}{s:Int}(h:dW m s=3):0<=aW m.aE s:=by
 unfold dW at h
 split at h
 ·omega
 ·omega
theorem nU(h:Int):rO m h=some (decide (hC m h)):=by
 unfold rO sM
 rw [eJ,cV]
 by_cases q:jH h
 ·have hm:=q.mod
  rw [aZ q,if_pos q]
  simp only [aK,if_true,PK hsh hl hg ho]
  by_cases q2:dW m (h % 32)=3
  ·have n:(dW m (h % 32) == 3)=true:=by simpa using q2
   have eg:CM h=some (h / 32):=by
    unfold CM
    unfold jH at q
    rw [eJ,aZ (show jH h from q),GC (by omega),aO (by omega) (by omega)];rfl
   rw [n,oY hsh (hJ q2),eg]
   simp only [if_true,aK]
   congr 1;rw [Bool.eq_iff_iff];simp only [beq_iff_eq,decide_eq_true_eq]
   exact⟨fun a=>⟨q,q2,a⟩,fun a=>a.2.2⟩
  ·have n:(dW m (h % 32) == 3)=false:=by simpa using q2
   rw [n,bI (fun a:hC m h=>q2 a.2.1)];rfl
 ·rw [bI q,bI (fun a:hC m h=>q a.1)];rfl
theorem JM(h:Int):A8 m h=some (decide (hC m h)):=by
 unfold A8 uS
 rw [jD]
 by_cases q:jH h
 ·have hm:=q.mod
  rw [aZ q,hm.1]
  simp only [aK,if_true,Z9 hsh hl hg ho]
  by_cases q2:dW m (h % 32)=3
  ·have n:(dW m (h % 32) == 3)=true:=by simpa using q2
   have eg:bG (Int.tdiv h 32)=h / 32:=by
    unfold jH at q
    rw [GC (by omega),aO (by omega) (by omega)]
   rw [n,FO hsh (hJ q2),eg]
   simp only [if_true,aK]
   congr 1;rw [Bool.eq_iff_iff];simp only [beq_iff_eq,decide_eq_true_eq]
   exact⟨fun a=>⟨q,q2,a⟩,fun a=>a.2.2⟩
  ·have n:(dW m (h % 32) == 3)=false:=by simpa using q2
   rw [n,bI (fun a:hC m h=>q2 a.2.1)];rfl
 ·rw [bI q,bI (fun a:hC m h=>q a.1)];rfl
end
def xG(b:aA)(r:cZ):Prop:=hC b.Mem r.Handle/\r.aG<=b.aB.aG
instance (b:aA) (r:cZ):Decidable (xG b r):=by unfold xG;infer_instance
def lY(b:aA):Prop:=(mI b.Mem/\IC b.aB/\oP b.aL/\ID b.iS)/\∀r∈bC b.aL,xG b r
instance (b:aA):Decidable (lY b):=by unfold lY;infer_instance
def OH(b:aA):Prop:=tT b.Mem/\b.aB.cG.length<=1048576/\b.aL.length<=1048576/\(bC b.aL).length<=1048576/\b.iS.length<=1048576
theorem OH.rows{b:aA}(h:OH b):∀s∈b.aL,s.Rows.length<=1048576:=fun s hs=>by
 have:=M8 hs;have:=h.2.2.2.1;omega
noncomputable section
variable {b:aA} (hf:b.Mem.aE.Bytes.length<=maxLen/\(c9 b.Mem.aC).length<=1073741824/\b.aB.cG.length<=maxLen/\b.aL.length<=maxLen/\(bC b.aL).length<=1073741824/\b.iS.length<=maxLen)
include hf
theorem RM:FZ b=some (decide (lY b)):=by
 obtain⟨f1,f2,f3,f4,f5,f6⟩:=hf
 unfold FZ qH
 rw [LS f1 f2,iX,Z8 f5 f4,zJ f6]
 by_cases q1:mI b.Mem
 ·by_cases q2:IC b.aB
  ·by_cases q3:oP b.aL
   ·by_cases q4:ID b.iS
    ·have hg:b.Mem.aC.Global.length<=maxLen:=by rw [q1.1.2.1];simp [maxLen]
     have ho:b.Mem.aC.cL.length<=maxLen:=by rw [q1.1.2.2.1];simp [maxLen]
     have hmx:(1073741824:Nat)<=maxLen:=by simp [maxLen]
     simp only [aZ q1,aZ q2,aZ q3,aZ q4,aK,dK,aN,if_false]
     rw [DK f5 f4]
     simp only [aK]
     have hst:∀k (hk:k < (bC b.aL).length),vJ b (bC b.aL) (k:Int)=if xG b (bC b.aL)[k] then some (.next ((k+1:Nat):Int)) else some (.stop (Out.ret false)):=by
      intro k hk
      simp only [vJ,CN]
      rw [if_pos (by simp;omega),aV hk,iT (show k < maxLen by omega)]
      generalize (bC b.aL)[k]=r
      simp only [aK,nU q1.1.1.1 f2 hg ho]
      by_cases a1:hC b.Mem r.Handle
      ·rw [aZ a1]
       simp only [dK,aN,if_false]
       by_cases a2:r.aG<=b.aB.aG
       ·rw [if_neg (by simp;omega),if_pos ⟨a1,a2⟩]
       ·rw [if_pos (by simp;omega),if_neg (fun x=>a2 x.2)]
      ·rw [bI a1]
       simp only [iA,if_true]
       rw [if_neg (fun x=>a1 x.1)]
     have key:=jB (f:=vJ b (bC b.aL)) (bC b.aL) (fun k=>(k:Int)) (xG b) (Out.brk ()) (Out.ret false) (fun k hk hx=>by rw [hst k hk,if_pos hx]) (fun k hk hx=>by rw [hst k hk,if_neg hx]) (by simp [vJ])
     rw [show((0:Nat):Int)=0 from rfl] at key
     rw [key]
     by_cases q:∀r∈bC b.aL,xG b r
     ·rw [if_pos q,aZ (show lY b from ⟨⟨q1,q2,q3,q4⟩,q⟩)];rfl
     ·rw [if_neg q,bI (fun x:lY b=>q x.2)];rfl
    ·rw [bI (fun x:lY b=>q4 x.1.2.2.2),aZ q1,aZ q2,aZ q3,bI q4];rfl
   ·rw [bI (fun x:lY b=>q3 x.1.2.2.1),aZ q1,aZ q2,bI q3];rfl
  ·rw [bI (fun x:lY b=>q2 x.1.2.1),aZ q1,bI q2];rfl
 ·rw [bI (fun x:lY b=>q1 x.1.1),bI q1];rfl
theorem aDF:KB b=some (decide (lY b)):=by
 obtain⟨f1,f2,f3,f4,f5,f6⟩:=hf
 unfold KB p7
 rw [TO f1 f2,sY f3,AL f5,LU f6]
 by_cases q1:mI b.Mem
 ·by_cases q2:IC b.aB
  ·by_cases q3:oP b.aL
   ·by_cases q4:ID b.iS
    ·have hg:b.Mem.aC.Global.length<=maxLen:=by rw [q1.1.2.1];simp [maxLen]
     have ho:b.Mem.aC.cL.length<=maxLen:=by rw [q1.1.2.2.1];simp [maxLen]
     have hmx:(1073741824:Nat)<=maxLen:=by simp [maxLen]
     simp only [aZ q1,aZ q2,aZ q3,aZ q4,aK,dK,aN,if_false]
     have e1:(fun y0=>zX y0 b)=fun r:cZ=>some (!decide (xG b r)):=by
      funext r
      unfold zX rI
      rw [JM q1.1.1.1 f2 hg ho]
      by_cases a1:hC b.Mem r.Handle
      ·by_cases a2:r.aG<=b.aB.aG
       ·rw [aZ a1,aZ (show xG b r from ⟨a1,a2⟩),bI (show ¬b.aB.aG < r.aG by omega)];rfl
       ·rw [aZ a1,bI (fun x:xG b r=>a2 x.2),aZ (show b.aB.aG < r.aG by omega)];rfl
      ·rw [bI a1,bI (fun x:xG b r=>a1 x.1)];rfl
     have e2:∀l∈b.aL,(fun y0=>EX y0 b) l=some (!decide (∀r∈l.Rows,xG b r)):=fun l hl=>by
      have:=M8 hl
      simp only [EX]
      rw [e1,TP (by omega),FM];rfl
     rw [RJ f4 _ _ e2,FM]
     have hiff:lY b↔∀l∈b.aL,∀r∈l.Rows,xG b r:=by
      constructor
      ·intro x l hl r hr
       exact x.2 r (List.mem_flatMap.2 ⟨l,hl,hr⟩)
      ·intro x
       refine⟨⟨q1,q2,q3,q4⟩,fun r hr=>?_⟩
       obtain⟨l,hl,hr⟩:=List.mem_flatMap.1 hr
       exact x l hl r hr
     simp only [aK,Bool.not_not,hiff]
    ·rw [bI (fun x:lY b=>q4 x.1.2.2.2),aZ q1,aZ q2,aZ q3,bI q4];rfl
   ·rw [bI (fun x:lY b=>q3 x.1.2.2.1),aZ q1,aZ q2,bI q3];rfl
  ·rw [bI (fun x:lY b=>q2 x.1.2.1),aZ q1,bI q2];rfl
 ·rw [bI (fun x:lY b=>q1 x.1.1),bI q1];rfl
end
end Go.Gv
end
noncomputable section
namespace Go.Gv
theorem VZ{α:Type}{f:(List α×Int)->Option (Step (List α×Int) (List α))}(l:List α)
  (h:∀k (hk:k < l.length),f (l.take k,(k:Int))=some (.next (l.take k ++ [l[k]],((k+1:Nat):Int)))) (he:f (l,(l.length:Int))=some (.stop l)):loop f ([],0)=some l:=by
 have:=jG (f:=f) l.length (fun k=>(l.take k,(k:Int))) l (fun k hk=>by rw [h k hk,List.take_succ_eq_append_getElem hk]) (by rw [List.take_length];exact he)
 simpa using this
theorem aGS{α:Type}{f:(Int×List α)->Option (Step (Int×List α) (List α))}(l:List α)
  (h:∀k (hk:k < l.length),f ((k:Int),l.take k)=some (.next (((k+1:Nat):Int),l.take k ++ [l[k]]))) (he:f ((l.length:Int),l)=some (.stop l)):loop f (0,[])=some l:=by
 have:=jG (f:=f) l.length (fun k=>((k:Int),l.take k)) l (fun k hk=>by rw [h k hk,List.take_succ_eq_append_getElem hk]) (by rw [List.take_length];exact he)
 simpa using this
theorem EF{l:List Int}(h:l.length<=1073741824):vO l=some l:=by
 unfold vO;rw [aQ (by simpa using h)];rfl
theorem oQ{l:List Int}(h:l.length<=1073741824):fP l=some l:=by
 unfold fP;rw [aQ (by simpa using h)];rfl
theorem aIF{l:List oV}(h:l.length<=1073741824):wE l=some l:=by
 unfold wE;rw [aQ (by simpa using h)];rfl
theorem aFR{l:List cZ}(h:l.length<=1073741824):tY l=some l:=by
 unfold tY;rw [aQ (by simpa using h)];rfl
theorem aGT{l:List aP}(hl:l.length<=1048576)(hs:∀s∈l,s.aS.length<=1048576):KH l=some l:=by
 unfold KH
 rw [VZ l]
 ·rfl
 ·intro k hk
  have:=hs _ (List.getElem_mem hk)
  simp only [I3]
  rw [if_pos (by simp;omega),aV hk]
  simp only [aK]
  rw [EF (by omega),aK,aQ (by simp;omega),aO (by omega) (by omega)];rfl
 ·simp [I3]
theorem aFS{l:aC}(h1:l.Global.length<=1048576)(h2:l.cL.length<=1048576)(h3:∀s∈l.Global,s.aS.length<=1048576)(h4:∀s∈l.cL,s.aS.length<=1048576):QN l=some l:=by
 unfold QN;rw [aGT h1 h3,aGT h2 h4];rfl
theorem LV{l:aC}(h1:l.Global.length<=1048576)(h2:l.cL.length<=1048576)(h3:∀s∈l.Global,s.aS.length<=1048576)(h4:∀s∈l.cL,s.aS.length<=1048576):iO l=some l:=by
 unfold iO
 rw [aGS l.Global]
 ·simp only [aK,J9,J8]
  rw [aGS l.cL]
  ·rfl
  ·intro k hk
   have:=h4 _ (List.getElem_mem hk)
   simp only [BN]
   rw [if_pos (by simp;omega),aV hk]
   simp only [aK]
   rw [oQ (by omega),aK,aQ (by simp;omega),BM,aO (by omega) (by omega)];rfl
  ·simp [BN]
 ·intro k hk
  have:=h3 _ (List.getElem_mem hk)
  simp only [BP]
  rw [if_pos (by simp;omega),aV hk]
  simp only [aK]
  rw [oQ (by omega),aK,aQ (by simp;omega),BO,aO (by omega) (by omega)];rfl
 ·simp [BP]
theorem aIG{h:aE}(h1:h.Bytes.length<=1048576)(h2:h.Class.length<=1048576):QM h=some h:=by
 unfold QM;rw [EF (by omega),EF (by omega)];rfl
theorem OI{h:aE}(h1:h.Bytes.length<=1048576)(h2:h.Class.length<=1048576):tB h=some h:=by
 unfold tB;rw [oQ (by omega),oQ (by omega)];rfl
theorem YJ{m:Mem}(h:tT m):QO m=some m:=by
 have a:=aIG h.1 h.2.1
 have b:=aFS h.2.2.1 h.2.2.2.1 h.TN.1 h.TN.2
 unfold QO;rw [a,b];rfl
theorem YK{m:Mem}(h:tT m):BQ m=some m:=by
 have a:=OI h.1 h.2.1
 have b:=LV h.2.2.1 h.2.2.2.1 h.TN.1 h.TN.2
 unfold BQ;rw [a,b];rfl
theorem mJ{c:aB}(h:c.cG.length<=1048576):wX c=some c:=by
 unfold wX;rw [aQ (by simp;omega)];rfl
theorem zK{c:aB}(h:c.cG.length<=1048576):kQ c=some c:=by
 unfold kQ;rw [aIF (by omega)];rfl
theorem LW{l:List aY}(hl:l.length<=1048576)(hs:∀s∈l,s.Rows.length<=1048576):kR l=some l:=by
 unfold kR
 rw [VZ l]
 ·rfl
 ·intro k hk
  have:=hs _ (List.getElem_mem hk)
  simp only [BR]
  rw [if_pos (by simp;omega),aV hk]
  simp only [aK]
  rw [aFR (by omega),aK,aQ (by simp;omega),aO (by omega) (by omega)];rfl
 ·simp [BR]
theorem aIH{b:aA}(h:OH b):ER b=some b:=by
 have m:=YK h.1
 have c:=zK h.2.1
 have l:=LW h.2.2.1 h.rows
 have:=h.2.2.2.2
 unfold ER;rw [m,c,l,oQ (by omega)];rfl
end Go.Gv
end
noncomputable section
namespace Go.Gv
theorem kX(w:Int):fZ w=some (decide (0<=w/\w<=2)):=by
 unfold fZ;rw [eB];rfl
noncomputable section
variable {c:aB} (hc:IC c) {w:Int} (hw:0<=w/\w<=2)
include hc
theorem IC.small:c.cG.length<=1048576/\c.cG.length<=maxLen:=by
 have:=hc.2.1;simp only [maxLen];omega
theorem IC.aII{k:Nat}{p:oV}(hp:POk c.aG p):IC ⟨c.aG,c.cG.set k p⟩:=⟨hc.1,by simpa using hc.2.1,fun q hq=>(List.mem_or_eq_of_mem_set hq).elim (hc.2.2 q) (fun e=>e ▸ hp)⟩
theorem IC.a1P(h:c.aG+1<=100000):IC ⟨c.aG+1,c.cG⟩:=by
 have h1:=hc.1
 exact⟨⟨by simp only;omega,h⟩,hc.2.1,fun q hq=>by
  obtain⟨a,b,d⟩:=hc.2.2 q hq
  exact⟨⟨a.1,by simp only;omega⟩,b,d⟩⟩
include hw
theorem XS:∃p,idx c.cG w=some p/\POk c.aG p:=by
 have h3:=hc.2.1
 rw [fH hw.1 (by omega)]
 exact⟨_,rfl,hc.2.2 _ (List.getElem_mem _)⟩
theorem aPC(e:Int):∃r,F6 c w e=some r/\KD c w e=some r/\IC r.1/\r.1.aG=c.aG:=by
 obtain⟨p,hp,h1,⟨hs0,hs1⟩,h2⟩:=XS hc hw
 have h3:=hc.2.1
 unfold F6 KD
 rw [mJ hc.small.1,zK hc.small.1,iX,sY hc.small.2,kX,b8,aZ hc,aZ hw]
 simp only [aK,dK,aN,if_false,CZ,B7,hp]
 cases h4:p.On
 ·exact⟨_,rfl,rfl,hc,rfl⟩
 ·cases h5:p.dC
  ·by_cases h6:p.aG=e
   ·simp only [qL,qB,h6,beq_self_eq_true,if_true,dK,aN,if_false]
    exact⟨_,rfl,rfl,hc,rfl⟩
   ·have h6':(p.aG == e)=false:=by simpa using h6
    simp only [qL,qB,h6',dK,aN,if_false,hp,aK]
    by_cases h7:p.Seen=2
    ·simp only [h7,beq_self_eq_true,if_true,show ¬((2:Int) < 2) by omega,decide_false,aN,if_false]
     exact⟨_,rfl,rfl,hc.aII ⟨h1,by simp,fun q=>by simp [h4] at q⟩,rfl⟩
    ·have h7':(p.Seen == 2)=false:=by simpa using h7
     simp only [h7',show p.Seen < 2 by omega,decide_true,if_true,aN,if_false]
     have hw7:bG (p.Seen+1)=p.Seen+1:=aO (by omega) (by omega)
     exact⟨_,rfl,rfl,hc.aII ⟨h1,by simp only [hw7];omega,fun q=>by simp [h4] at q⟩,rfl⟩
  ·exact⟨_,rfl,rfl,hc,rfl⟩
theorem aTA(e:Int):∃r,I7 c w e=some r/\NU c w e=some r/\(IC r.1/\r.1.aG=c.aG)/\(r.2=false->r.1=c):=by
 obtain⟨p,hp,hpk⟩:=XS hc hw
 have h3:=hc.2.1
 unfold I7 NU
 rw [mJ hc.small.1,zK hc.small.1,iX,sY hc.small.2,kX,b8,b8,eB,aZ hc,aZ hw]
 simp only [aK,dK,aN,if_false,yU,yF,hp]
 by_cases h:0<=e/\e<=c.aG
 ·simp only [aZ h,dK,aN,if_false]
  exact⟨_,rfl,rfl,⟨hc.aII ⟨h,by simp,fun q=>by cases q⟩,rfl⟩,fun q=>by cases q⟩
 ·simp only [bI h,iA,if_true]
  exact⟨_,rfl,rfl,⟨hc,rfl⟩,fun _=>rfl⟩
omit hw in
theorem aWK(e:Int):∃r,MO c e=some r/\SF c e=some r/\IC r.1/\c.aG<=r.1.aG:=by
 have h3:=hc.2.1
 unfold MO SF
 rw [mJ hc.small.1,zK hc.small.1,iX,sY hc.small.2,aZ hc]
 simp only [aK,dK,aN,if_false,C0,B8]
 by_cases h:c.aG=e
 ·subst h
  simp only [bne_self_eq_false,aN,if_false]
  by_cases h:c.aG=100000
  ·simp only [h,beq_self_eq_true,if_true];exact⟨_,rfl,rfl,hc,by simp [h]⟩
  ·have h':(c.aG == 100000)=false:=by simpa using h
   have hE:=hc.1
   have hw7:bG (c.aG+1)=c.aG+1:=aO (by omega) (by omega)
   simp only [h',aN,if_false,hw7];exact⟨_,rfl,rfl,hc.a1P (by omega),by simp only;omega⟩
 ·have h':(c.aG != e)=true:=by simpa using h
  simp only [h',if_true];exact⟨_,rfl,rfl,hc,Int.le_refl _⟩
end
theorem aZI{b:aA}(hc:IC b.aB){w:Int}(hw:0<=w/\w<=2)(s:Sub) :
  ∃x y,F7 b w s=some (x,y)/\wN s b w=some (y,x)/\∃cl,x=⟨b.Mem,cl,b.aL,b.iS⟩/\IC cl/\b.aB.aG<=cl.aG:=by
 obtain⟨r,e1,e2,h3,h4⟩:=aTA hc hw s.E
 unfold F7 wN
 rw [e1,e2]
 simp only [bO,bH,xP,aK]
 by_cases p0:s.Pc=0
 ·simp only [p0,beq_self_eq_true,if_true];exact⟨_,_,rfl,rfl,_,rfl,hc,by omega⟩
 ·have p0':(s.Pc == 0)=false:=by simpa using p0
  simp only [p0',aN,if_false]
  by_cases p1:s.Pc=1
  ·simp only [p1,beq_self_eq_true,if_true]
   cases h:r.2
   ·rw [h4 h];exact⟨_,_,rfl,rfl,_,rfl,hc,by omega⟩
   ·exact⟨_,_,rfl,rfl,_,rfl,h3.1,by rw [h3.2];exact Int.le_refl _⟩
  ·have p1':(s.Pc == 1)=false:=by simpa using p1
   simp only [p1',aN,if_false]
   by_cases p2:s.Pc=2
   ·simp only [p2,beq_self_eq_true,if_true]
    by_cases q:b.aB.aG=s.E
    ·simp only [q,beq_self_eq_true,if_true];exact⟨_,_,rfl,rfl,_,rfl,hc,by omega⟩
    ·have q':(b.aB.aG == s.E)=false:=by simpa using q
     simp only [q',aN,if_false];exact⟨_,_,rfl,rfl,_,rfl,hc,by omega⟩
   ·have p2':(s.Pc == 2)=false:=by simpa using p2
    simp only [p2',aN,if_false];exact⟨_,_,rfl,rfl,_,rfl,hc,by omega⟩
theorem aL3{b:aA}(hc:IC b.aB)(s:Sub) :
  ∃x y,sT b s=some (x,y)/\oC s b=some (y,x)/\∃cl,x=⟨b.Mem,cl,b.aL,b.iS⟩/\IC cl/\b.aB.aG<=cl.aG:=by
 obtain⟨r2,e3,e4,h4⟩:=aWK hc s.E
 unfold sT oC lE
 rw [e3,e4,b8,kX]
 simp only [bO,bH,rR,rS,lD,aK]
 by_cases p0:s.Pc=0
 ·simp only [p0,beq_self_eq_true,if_true];exact⟨_,_,rfl,rfl,_,rfl,hc,by omega⟩
 ·have p0':(s.Pc == 0)=false:=by simpa using p0
  simp only [p0',aN,if_false]
  by_cases p1:s.Pc=1
  ·simp only [p1,beq_self_eq_true,if_true,show((1:Int) == 2)=false from rfl,aN,if_false]
   by_cases hB:0<=s.B/\s.B<=2
   ·obtain⟨r,e1,e2,h3,h3'⟩:=aPC hc hB s.E
    simp only [aZ hB,dK,aN,if_false,if_true,e1,e2,aK]
    cases h:r.2
    ·exact⟨_,_,rfl,rfl,_,rfl,h3,by rw [h3'];exact Int.le_refl _⟩
    ·by_cases q:bG (s.B+1)=3
     ·simp only [q,beq_self_eq_true,if_true,dK,aN,if_false];exact⟨_,_,rfl,rfl,_,rfl,h3,by rw [h3'];exact Int.le_refl _⟩
     ·have q':(bG (s.B+1) == 3)=false:=by simpa using q
      simp only [q',dK,aN,if_false];exact⟨_,_,rfl,rfl,_,rfl,h3,by rw [h3'];exact Int.le_refl _⟩
   ·simp only [bI hB,iA,aN,if_false,if_true]
    exact⟨_,_,rfl,rfl,_,rfl,hc,by omega⟩
  ·have p1':(s.Pc == 1)=false:=by simpa using p1
   simp only [p1',aN,if_false]
   by_cases p2:s.Pc=2
   ·simp only [p2,beq_self_eq_true,if_true]
    cases h:r2.2
    ·simp only [aN,if_false];exact⟨_,_,rfl,rfl,_,rfl,h4⟩
    ·simp only [if_true];exact⟨_,_,rfl,rfl,_,rfl,h4⟩
   ·have p2':(s.Pc == 2)=false:=by simpa using p2
    simp only [p2',aN,if_false];exact⟨_,_,rfl,rfl,_,rfl,hc,by omega⟩
end Go.Gv
end
noncomputable section
namespace Go.Gv
theorem aL4:∀(n:Nat) (l:List Int),l.Nodup->(∀x∈l,0<=x/\x < (n:Int))->l.length<=n
 | 0, l, _, h => by
  cases l with
  | nil=>simp
  | cons a t=>have:=h a (by simp);omega
 | n + 1, l, hn, h => by
  have ih:=aL4 n (l.erase (n:Int)) (hn.erase _) (fun x hx=>by
   have h1:=(hn.mem_erase_iff).1 hx
   have h2:=h x h1.2
   have:=h1.1
   omega)
  have:=List.length_erase (a:=(n:Int)) (l:=l)
  split at this <;> omega
theorem aIJ(a b:List aY):bC (a++b)=bC a++bC b:=by simp [bC]
theorem aIK(a b:List aP):cS (a++b)=cS a++cS b:=by simp [cS]
theorem EG{l:List aY}{k:Nat}(hk:k < l.length)(x:aY):bC (l.set k x)=bC (l.take k)++(x.Rows++bC (l.drop (k+1))):=by
 rw [List.set_eq_take_append_cons_drop,if_pos hk,aIJ];simp [bC]
theorem BC{l:List aY}{k:Nat}(hk:k < l.length):bC l=bC (l.take k)++(l[k].Rows++bC (l.drop (k+1))):=by
 conv=>lhs;rw [<-List.set_getElem_self hk,EG hk]
theorem EH{l:List aP}{k:Nat}(hk:k < l.length)(x:aP):cS (l.set k x)=cS (l.take k)++(x.aS++cS (l.drop (k+1))):=by
 rw [List.set_eq_take_append_cons_drop,if_pos hk,aIK];simp [cS]
theorem BD{l:List aP}{k:Nat}(hk:k < l.length):cS l=cS (l.take k)++(l[k].aS++cS (l.drop (k+1))):=by
 conv=>lhs;rw [<-List.set_getElem_self hk,EH hk]
def BI(l:List aY)(s:Int):Prop:=∃r∈bC l,jH r.Handle/\r.Handle % 32=s
instance (l:List aY) (s:Int):Decidable (BI l s):=by unfold BI;infer_instance
noncomputable section
variable {l:List aY} (hl:oP l)
include hl
theorem oP.small:(bC l).length<=1073741824/\l.length<=maxLen/\l.length<=1048576/\∀s∈l,s.Rows.length<=24:=by
 have:=hl.1;have h2:=hl.2.1
 refine⟨by omega,by simp only [maxLen];omega,by omega,fun s hs=>?_⟩
 have:=M8 hs;omega
theorem AM(s:Int):xA l s=some (decide (BI l s)):=by
 have hm:=hl.small
 unfold xA
 rw [DK hm.1 hm.2.1,aK]
 have key:=jB (f:=nQ s (bC l)) (bC l) (fun k=>(k:Int)) (fun r=>¬(jH r.Handle/\r.Handle % 32=s)) (Out.brk ()) (Out.ret true)
  (fun k hk hp=>by
   have hk':=hl.2.1
   simp only [nQ,sS]
   rw [if_pos (by simp;omega),aV hk,iT (show k < maxLen by simp only [maxLen];omega)]
   simp only [aK,eJ,cV]
   by_cases q:jH (bC l)[k].Handle
   ·have:((bC l)[k].Handle % 32 == s)=false:=by simpa using fun a=>hp ⟨q,a⟩
    simp [q,this]
   ·simp [q])
  (fun k hk hp=>by
   have hp:=Classical.not_not.1 hp
   simp only [nQ,sS]
   rw [if_pos (by simp;omega),aV hk]
   simp [eJ,cV,hp.1,hp.2])
  (by simp [nQ])
 have key':loop (nQ s (bC l)) 0=_:=key
 rw [key']
 by_cases q:BI l s
 ·rw [if_neg (fun a=>by obtain⟨r,hr,e⟩:=q;exact a r hr e),aZ q];rfl
 ·rw [if_pos (fun r hr e=>q ⟨r,hr,e⟩),bI q];rfl
theorem aAA(s:Int):HN l s=some (decide (BI l s)):=by
 have hm:=hl.small
 unfold HN
 have e1:∀(r:cZ),qA r s=some (decide (jH r.Handle/\r.Handle % 32=s)):=by
  intro r
  unfold qA pJ
  rw [jD]
  by_cases q:jH r.Handle
  ·rw [q.mod.1];simp [q];rfl
  ·simp [q]
 have e2:∀x∈l,B6 x s=some (x.Rows.any fun r=>decide (jH r.Handle/\r.Handle % 32=s)):=by
  intro x hx
  unfold B6
  have:x.Rows.length<=maxLen:=by have:=hm.2.2.2 x hx;simp only [maxLen];omega
  rw [show(fun y0=>qA y0 s)=fun r=>some (decide (jH r.Handle/\r.Handle % 32=s)) from funext e1,TP this];rfl
 rw [RJ hm.2.1 (fun x=>x.Rows.any fun r=>decide (jH r.Handle/\r.Handle % 32=s)) _ e2]
 simp only [aK]
 congr 1
 rw [Bool.eq_iff_iff,decide_eq_true_iff]
 simp only [List.any_eq_true,decide_eq_true_eq,BI,bC,List.mem_flatMap]
 constructor
 ·rintro⟨x,hx,r,hr,h⟩;exact⟨r,⟨x,hx,hr⟩,h⟩
 ·rintro⟨r,⟨x,hx,hr⟩,h⟩;exact⟨x,hx,r,hr,h⟩
theorem oP.more{k:Nat}(hk:k < l.length){r:cZ}(hr:zI r)(hn:¬BI l (r.Handle % 32)):oP (l.set k ⟨l[k].Rows ++ [r]⟩):=by
 have e:=EG hk (⟨l[k].Rows ++ [r]⟩:aY)
 have p:(bC (l.set k ⟨l[k].Rows ++ [r]⟩)).Perm (r :: bC l):=by
  rw [e,BC hk]
  refine List.Perm.trans ?_ List.perm_middle
  simp only [List.append_assoc]
  exact List.Perm.append_left _ (by simp only [List.singleton_append];exact(List.perm_middle (l₁:=l[k].Rows) (l₂:=bC (l.drop (k+1))) (a:=r)))
 have h1:∀x∈bC (l.set k ⟨l[k].Rows ++ [r]⟩),zI x:=fun x hx=>by
  rcases List.mem_cons.1 (p.mem_iff.1 hx) with rfl | h
  ·exact hr
  ·exact hl.2.2.1 x h
 have h2:((bC (l.set k ⟨l[k].Rows ++ [r]⟩)).map lG).Nodup:=by
  refine(List.Perm.nodup_iff (p.map lG)).2 ?_
  rw [List.map_cons,List.nodup_cons]
  refine⟨fun h=>hn ?_,hl.2.2.2⟩
  obtain⟨x,hx,e⟩:=List.mem_map.1 h
  exact⟨x,hx,(hl.2.2.1 x hx).1,e⟩
 refine⟨by simpa using hl.1,?_,h1,h2⟩
 have:=aL4 24 _ h2 (fun x hx=>by
  obtain⟨y,hy,rfl⟩:=List.mem_map.1 hx
  have:=(h1 y hy).1.mod
  unfold lG;omega)
 simpa using this
end
theorem aPD{b:aA}(hb:lY b)(hs:OH b){w:Int}(hw:0<=w/\w<=2)(s:Sub) :
  ∃x y,vP b w s=some (x,y)/\pK s b w=some (y,x)/\∃L,x=⟨b.Mem,b.aB,L,b.iS⟩/\oP L/\∀r∈bC L,xG b r:=by
 have hL:=hb.1.2.2.1
 have hm:=hb.1.1
 have hlen:w.toNat < b.aL.length:=by have:=hL.1;omega
 have hx:idx b.aL w=some b.aL[w.toNat]:=fH hw.1 (by omega)
 have hg:b.Mem.aC.Global.length<=maxLen:=by rw [hm.1.2.1];simp [maxLen]
 have ho:b.Mem.aC.cL.length<=maxLen:=by rw [hm.1.2.2.1];simp [maxLen]
 have hall:(c9 b.Mem.aC).length<=1073741824:=by have:=hs.1.2.2.2.2;omega
 have hrow:=hL.small.2.2.2 _ (List.getElem_mem hlen)
 have he:=hb.1.2.1.1
 unfold vP pK mB
 rw [b8,eB,nU hm.1.1.1 hall hg ho,JM hm.1.1.1 hall hg ho,cV]
 simp only [bO,bH,aK,t7,CY,mA]
 by_cases p0:s.Pc=0
 ·simp only [p0,beq_self_eq_true,if_true];exact⟨_,_,rfl,rfl,_,rfl,hL,hb.2⟩
 ·have p0' : (s.Pc == 0) = false := by simpa using p0
  simp only [p0',aN,if_false]
  by_cases p1:s.Pc=1
  ·simp only [p1,beq_self_eq_true,bne_self_eq_false,aN,if_false,if_true]
   by_cases q1:0<=s.E/\s.E<=b.aB.aG
   ·simp only [aZ q1,dK,aN,if_false]
    by_cases q2:hC b.Mem s.A
    ·have hh:=q2.1
     simp only [aZ q2,dK,aN,if_false,if_pos hh,hh.mod.1,AM hL,aAA hL,aK]
     by_cases q3:BI b.aL (s.A % 32)
     ·simp only [aZ q3,if_true];exact⟨_,_,rfl,rfl,_,rfl,hL,hb.2⟩
     ·have hmore:=hL.more hlen (r:=⟨s.A,s.E⟩) ⟨hh,q1.1,by simp only;omega⟩ q3
      have e:E3 b.aL w s.A s.E=some (b.aL.set w.toNat ⟨b.aL[w.toNat].Rows ++ [⟨s.A,s.E⟩]⟩,true):=by
       unfold E3 wL
       rw [AL hL.small.1,kX,LW hL.small.2.2.1 (fun s h=>by have:=hL.small.2.2.2 s h;omega)]
       simp only [aZ hL,aZ hw,aK,dK,aN,if_false,hx]
       rw [aQ (by simp;omega),AL hmore.small.1,aZ hmore];rfl
      simp only [bI q3,aN,if_false,hx,e,aK]
      rw [aQ (by simp;omega)]
      refine⟨_,_,rfl,rfl,_,rfl,hmore,fun r hr=>?_⟩
      rw [EG hlen] at hr
      have hsp:=BC hlen
      rcases List.mem_append.1 hr with h | h
      ·exact hb.2 r (by rw [hsp];exact List.mem_append_left _ h)
      ·rcases List.mem_append.1 h with h | h
       ·rcases List.mem_append.1 h with h | h
        ·exact hb.2 r (by rw [hsp];exact List.mem_append_right _ (List.mem_append_left _ h))
        ·simp at h;subst h;exact⟨q2,q1.2⟩
       ·exact hb.2 r (by rw [hsp];exact List.mem_append_right _ (List.mem_append_right _ h))
    ·simp only [bI q2,iA,if_true];exact⟨_,_,rfl,rfl,_,rfl,hL,hb.2⟩
   ·simp only [bI q1,iA,if_true];exact⟨_,_,rfl,rfl,_,rfl,hL,hb.2⟩
  ·have p1':(s.Pc == 1)=false:=by simpa using p1
   have p1'':(s.Pc != 1)=true:=by simpa using p1
   simp only [p1',p1'',aN,if_false,if_true];exact⟨_,_,rfl,rfl,_,rfl,hL,hb.2⟩
end Go.Gv
end
noncomputable section
namespace Go.Gv
def XT(b:List Int)(a:Nat)(n:Int):List Int:=(((b.set a 0).set (a+1) 0).set (a+2) 0).set (a+3) n
theorem DL(b:List Int)(a:Nat)(n:Int):(XT b a n).length=b.length:=by simp [XT]
theorem aJ6{b:List Int}(h:uG b)(a:Nat){n:Int}(hn:0<=n/\n<=255):uG (XT b a n):=by
 have key:∀{l:List Int} (i:Nat) (v:Int),uG l->0<=v/\v<=255->uG (l.set i v):=fun i v hl hv x hx=>by
  rcases List.mem_or_eq_of_mem_set hx with h | rfl
  ·exact hl x h
  ·exact hv
 exact key _ _ (key _ _ (key _ _ (key _ _ h (by omega)) (by omega)) (by omega)) hn
theorem aTB{n:Int}(hn:0<=n/\n<=255):((u8 n).toNat:Int)=n:=by
 obtain⟨m,rfl⟩:=Int.eq_ofNat_of_zero_le hn.1
 unfold u8
 rw [UInt8.toNat_ofNat'];omega
theorem V1{l:List Int}(i:Nat){v:Int}(hl:uG l)(hv:0<=v/\v<=255):uG (l.set i v):=fun x hx=>by
 rcases List.mem_or_eq_of_mem_set hx with h | rfl
 ·exact hl x h
 ·exact hv
def EI(b:List Int)(a:Nat)(n:Int):List Int:=(((b.set a (n / 16777216)).set (a+1) (n / 65536 % 256)).set (a+2) (n / 256 % 256)).set (a+3) (n % 256)
theorem M9(b:List Int)(a:Nat)(n:Int):(EI b a n).length=b.length:=by simp [EI]
theorem aPE{b:List Int}(h:uG b)(a:Nat){n:Int}(hn:0<=n/\n<=4294967295):uG (EI b a n):=by
 unfold EI
 exact V1 _ (V1 _ (V1 _ (V1 _ h (by omega)) (by omega)) (by omega)) (by omega)
theorem aPF(b:List Int)(a:Nat)(x y z u:Int):(((b.set (a+3) u).set (a+2) z).set (a+1) y).set a x=(((b.set a x).set (a+1) y).set (a+2) z).set (a+3) u:=by
 refine List.ext_getElem (by simp) fun j h1 h2=>?_
 simp only [List.getElem_set]
 by_cases j0:a=j
 ·subst j0;simp
 ·by_cases j1:a+1=j
  ·subst j1;simp
  ·by_cases j2:a+2=j
   ·subst j2;simp
   ·by_cases j3:a+3=j
    ·subst j3;simp
    ·simp [j0,j1,j2,j3]
theorem XU{b:List Int}{a:Nat}(h:a+4<=b.length)(hl:b.length<=100000){n:Int}(hn:0<=n/\n<=4294967295):wV b (a:Int) 4 n=some (EI b a n):=by
 have st:∀(c:List Int) (m:Int) (i:Nat),c.length=b.length->0<=m->m<=4294967295->i < 4->AF (a:Int) (c,m,(i:Int))=some (.next (c.set (a+i) (m % 256),m / 256,(i:Int) - 1)):=fun c m i hc h0 h1 hi=>by
  simp only [AF]
  rw [if_pos (by simp),aO (x:=(a:Int)+i) (by omega) (by omega),show(a:Int)+i=((a+i:Nat):Int) by omega,aV (by omega),aK,v5 h0,GC h0,aO (x:=m / 256) (by omega) (by omega),aO (x:=(i:Int) - 1) (by omega) (by omega),Int.toNat_natCast]
 unfold wV
 rw [show bG (4 - 1)=((3:Nat):Int) from by rw [aO (by omega) (by omega)];rfl]
 rw [bW (st b n 3 rfl hn.1 hn.2 (by omega)),show((3:Nat):Int) - 1=((2:Nat):Int) by rfl,
  bW (st _ _ 2 (by simp) (by omega) (by omega) (by omega)),show((2:Nat):Int) - 1=((1:Nat):Int) by rfl,
  bW (st _ _ 1 (by simp) (by omega) (by omega) (by omega)),show((1:Nat):Int) - 1=((0:Nat):Int) by rfl,
  bW (st _ _ 0 (by simp) (by omega) (by omega) (by omega)),bS (r:=EI b a n)]
 ·rfl
 ·simp only [AF]
  rw [if_neg (by simp)]
  have e1:n / 256 / 256=n / 65536:=by omega
  have e2:n / 256 / 256 / 256=n / 16777216:=by omega
  have e3:n / 16777216 % 256=n / 16777216:=by omega
  rw [e1,show n / 65536 / 256=n / 16777216 by omega,e3]
  unfold EI
  simp only [Nat.add_zero]
  rw [aPF]
def TQ(n:Int):List UInt8:=[u8 (n / 16777216),u8 (n / 65536),u8 (n / 256),u8 n]
theorem aDG{n:Int}(hn:0<=n/\n<=4294967295):AS n 4=some (TQ n):=by
 have hw:kI 4=some true:=by unfold kI;rw [eB];rfl
 unfold AS
 rw [hw]
 have e1:IntKind.u64.wrap (bG (8 * 4))=32:=by decide
 have e2:aF9 .i64 1 32=4294967296:=by decide
 simp only [aK,dK,aN,if_false,e1,e2]
 rw [if_neg (by simp;omega),aQ (by omega),bI (by omega)]
 simp only [yD,aN,if_false]
 rw [aQ (by omega),show bG (4 - 1)=((3:Nat):Int) from by rw [aO (by omega) (by omega)];rfl]
 have st:∀(m:Int) (c:List UInt8) (i:Nat),i < c.length->i < 4->0<=m->EZ (m,c,(i:Int))=some (.next (m / 256,c.set i (u8 m),(i:Int) - 1)):=fun m c i hc hi h0=>by
  simp only [EZ]
  rw [if_pos (by simp),aV hc,aK,show(8:Int)=((8:Nat):Int) from rfl,aWI h0 (by omega),aO (by omega) (by omega),Int.toNat_natCast];rfl
 rw [bW (st n _ 3 (by simp) (by omega) hn.1),show((3:Nat):Int) - 1=((2:Nat):Int) by rfl,
  bW (st _ _ 2 (by simp) (by omega) (by omega)),show((2:Nat):Int) - 1=((1:Nat):Int) by rfl,
  bW (st _ _ 1 (by simp) (by omega) (by omega)),show((1:Nat):Int) - 1=((0:Nat):Int) by rfl,
  bW (st _ _ 0 (by simp) (by omega) (by omega)),bS (r:=TQ n)]
 ·rfl
 ·simp only [EZ]
  rw [if_neg (by simp)]
  have e1:n / 256 / 256=n / 65536:=by omega
  rw [e1,show n / 65536 / 256=n / 16777216 by omega]
  rfl
theorem aIL{n:Int}(hn:0<=n):((u8 n).toNat:Int)=n % 256:=by
 have:u8 n=u8 (n % 256):=by
  unfold u8
  congr 1
  omega
 rw [this,aTB (by omega)]
theorem aDH{b:List Int}{a:Nat}(h:a+4<=b.length)(hl:b.length<=100000){n:Int}(hn:0<=n/\n<=4294967295):uW b (a:Int) (TQ n)=some (EI b a n):=by
 have st:∀(c:List Int) (i:Nat) (v:UInt8),c.length=b.length->i < 4->idx (TQ n) (i:Int)=some v->B4 b (a:Int) (TQ n) (c,(i:Int))=some (.next (c.set (a+i) (v.toNat:Int),((i+1:Nat):Int))):=fun c i v hc hi hv=>by
  simp only [B4]
  rw [aQ hc,if_pos (by simp [TQ];omega),hv,aK,aO (x:=(a:Int)+i) (by omega) (by omega),show(a:Int)+i=((a+i:Nat):Int) by omega,aV (by omega),aK,aO (by omega) (by omega),Int.toNat_natCast];rfl
 unfold uW
 rw [show(0:Int)=((0:Nat):Int) from rfl,bW (st b 0 _ rfl (by omega) rfl),bW (st _ 1 _ (by simp) (by omega) rfl),bW (st _ 2 _ (by simp) (by omega) rfl),bW (st _ 3 _ (by simp) (by omega) rfl),bS (r:=EI b a n)]
 ·simp only [aK,QB,QA]
  rw [aQ (M9 b a n)]
 ·simp only [B4]
  rw [aQ (by simp),if_neg (by simp [TQ])]
  simp only [aIL hn.1,aIL (show 0<=n / 16777216 by omega),aIL (show 0<=n / 65536 by omega),aIL (show 0<=n / 256 by omega)]
  rw [show n / 16777216 % 256=n / 16777216 by omega]
  rfl
theorem aTC{b:List Int}{a:Nat}{n:Int}(hn:0<=n/\n<=255):EI b a n=XT b a n:=by
 unfold EI XT
 rw [show n / 16777216=0 by omega,show n / 65536 % 256=0 by omega,show n / 256 % 256=0 by omega,show n % 256=n by omega]
theorem GX{b:List Int}{a:Nat}(h:a+4<=b.length)(hl:b.length<=100000){n:Int}(hn:0<=n/\n<=255):wV b (a:Int) 4 n=some (XT b a n):=by
 rw [XU h hl ⟨hn.1,by omega⟩,aTC hn]
theorem a1Q{n:Int}(hn:0<=n/\n<=255):TQ n=[0,0,0,u8 n]:=by
 unfold TQ
 rw [show n / 16777216=0 by omega,show n / 65536=0 by omega,show n / 256=0 by omega];rfl
theorem TR{n:Int}(hn:0<=n/\n<=255):AS n 4=some [0,0,0,u8 n]:=by
 rw [aDG ⟨hn.1,by omega⟩,a1Q hn]
theorem RN{b:List Int}{a:Nat}(h:a+4<=b.length)(hl:b.length<=100000){n:Int}(hn:0<=n/\n<=255):uW b (a:Int) [0,0,0,u8 n]=some (XT b a n):=by
 rw [<-a1Q hn,aDH h hl ⟨hn.1,by omega⟩,aTC hn]
end Go.Gv
end
noncomputable section
namespace Go.Gv
theorem aX0{x y z:Int}:∀(a:Nat) (l:List Int),a+3<=l.length->dI l a [x,y,z]=((l.set a x).set (a+1) y).set (a+2) z
 | 0, l, h => by
  match l,h with
  | _ :: _ :: _ :: t,_=>simp [dI]
 | a + 1, l, h => by
  match l,h with
  | u :: t, h =>
   have ih:=aX0 (x:=x) (y:=y) (z:=z) a t (by simp at h;omega)
   simp only [List.set_cons_succ,<-ih]
   simp [dI,Nat.add_right_comm]
def aTD(p k:Nat)(c:Int):Nat:=(eG ((p:Int) * 4+k) c).toNat
def gB(b:List Int)(p:Nat)(c:Int):Nat->List Int
 | 0=>((b.set (p * 64) 171).set (p * 64+1) c).set (p * 64+2) (bY c)
 | k+1=>XT (gB b p c k) (aTD p k c) 1
theorem JN(b:List Int)(p:Nat)(c:Int):∀k,(gB b p c k).length=b.length
 | 0=>by simp [gB]
 | k+1=>by rw [gB,DL,JN b p c k]
theorem aDI{l:List Int}(i:Nat){v:Int}(hl:uG l)(hv:0<=v/\v<=255):uG (l.set i v):=fun x hx=>by
 rcases List.mem_or_eq_of_mem_set hx with h | rfl
 ·exact hl x h
 ·exact hv
theorem aIM{b:List Int}(hb:uG b)(p:Nat){c:Int}(hc:0<=c/\c<=2):∀k,uG (gB b p c k)
 | 0 => by
  have:=mE c
  exact aDI _ (aDI _ (aDI _ hb (by omega)) (by omega)) (by omega)
 | k+1=>aJ6 (aIM hb p hc k) _ (by omega)
def gS(p:Nat)(n:Nat):List Int:=(List.range n).map fun(i:Nat)=>(p:Int) * 4+(i:Int)
theorem JO(p n:Nat):(gS p n).length=n:=by simp [gS]
theorem aN6(p n:Nat):gS p (n+1)=gS p n ++ [(p:Int) * 4+(n:Int)]:=by simp [gS,List.range_succ]
theorem aIN{p k:Nat}{c:Int}(hp:p < 6)(hk:(k:Int) < bY c):eG ((p:Int) * 4+k) c=(aTD p k c:Int)/\aTD p k c+4<=384:=by
 have h4:=mE c
 have hm:=JG (c:=c) (i:=(k:Int)) (by omega) hk
 have hst:4<=aT c:=by
  have:0<=c/\c<=2:=g9.1 (by omega)
  rcases fU this with e | e | e <;> rw [e] <;> decide
 have e:eG ((p:Int) * 4+k) c=(p:Int) * 64+8+(k:Int) * aT c:=by
  unfold eG
  rw [if_pos ⟨by omega,by omega⟩,show((p:Int) * 4+k) / 4=p by omega,show((p:Int) * 4+k) % 4=k by omega]
 unfold aTD
 rw [e];omega
theorem aGU{p k:Nat}(hp:p < 6)(hk:k < 4):qY (p:Int) (k:Int)=some ((p:Int) * 4+k)/\KC (p:Int) (k:Int)=some ((p:Int) * 4+k):=by
 have a:0<=(p:Int)/\(p:Int)<=5:=by omega
 have b:0<=(k:Int)/\(k:Int)<=3:=by omega
 have e1:bG ((p:Int) * 4)=(p:Int) * 4:=aO (by omega) (by omega)
 have e2:bG ((p:Int) * 4+k)=(p:Int) * 4+k:=aO (by omega) (by omega)
 constructor
 ·unfold qY vF;rw [b8,b8,aZ a,aZ b,e1,e2];rfl
 ·unfold KC B5;rw [eB,eB,aZ a,aZ b,e1,e2];rfl
noncomputable section
variable {b:List Int} (hb:b.length=384) {p:Nat} (hp:p < 6) {c:Int} (hc:0<=c/\c<=2)
include hb hp hc
theorem aDJ:loop (AG c (p:Int)) ([],0,gB b p c 0)=some (gS p (bY c).toNat,gB b p c (bY c).toNat):=by
 have h4:=mE c
 refine jG (bY c).toNat (fun k=>(gS p k,(k:Int),gB b p c k)) _ (fun k hk=>?_) ?_
 ·have ho:=aIN (c:=c) hp (k:=k) (by omega)
  simp only [AG,PA,hY,aK]
  rw [if_pos (by simp;omega),(aGU hp (by omega)).1]
  simp only [aK,tI,ho.1]
  rw [GX (by rw [JN];omega) (by rw [JN];omega) (by omega)]
  simp only [aK]
  rw [aQ (by rw [JO];simp;omega),aO (by omega) (by omega),aN6];rfl
 ·simp only [AG,hY,aK]
  rw [if_neg (by simp;omega)]
theorem aL5:loop (E1 c (p:Int) (bY c)) ([],0,gB b p c 0)=some (gS p (bY c).toNat,gB b p c (bY c).toNat):=by
 have h4:=mE c
 refine jG (bY c).toNat (fun k=>(gS p k,(k:Int),gB b p c k)) _ (fun k hk=>?_) ?_
 ·have ho:=aIN (c:=c) hp (k:=k) (by omega)
  simp only [E1,K2]
  rw [if_pos (by simp;omega),(aGU hp (by omega)).2]
  simp only [aK,zF,ho.1]
  rw [TR (by omega),aK,RN (by rw [JN];omega) (by rw [JN];omega) (by omega)]
  simp only [aK]
  rw [aQ (by rw [JO];simp;omega),aO (by omega) (by omega),aN6];rfl
 ·simp only [E1]
  rw [if_neg (by simp;omega)]
end
theorem aTE{h:aE}(hh:TL h){c:Int}(hc:0<=c/\c<=2) :
  (rP h c=some (h,[])/\D8 h c=some (h,[])) \/
  ∃p,p < 6/\bV h p < 0/\rP h c=some (⟨gB h.Bytes p c (bY c).toNat,h.Class.set p c⟩,gS p (bY c).toNat)/\D8 h c=some (⟨gB h.Bytes p c (bY c).toNat,h.Class.set p c⟩,gS p (bY c).toNat):=by
 have hs:=hh.1
 have h6:=hs.2.1
 have h384:=hs.1
 have hp4:=mE c
 have hcp:=OI (h:=h) (by omega) (by omega)
 have hne:∀j (hj:j < 6),j < h.Class.findIdx (fun x=>decide (x = -1))->h.Class[j]≠-1:=fun j hj hlt=>by
  have:=List.not_of_lt_findIdx hlt
  simpa using this
 generalize hq:h.Class.findIdx (fun x=>decide (x = -1))=q at hne
 have hq6:q<=6:=by rw [<-hq,<-h6];exact List.findIdx_le_length
 have s1:∀k (hk:k < q),eZ h c (k:Int)=some (.next ((k+1:Nat):Int)):=fun k hk=>by
  have:=hne k (by omega) hk
  have n:(h.Class[k] != -1)=true:=by simpa using this
  simp only [eZ,GS]
  rw [if_pos (by simp;omega),aV (by omega),aK,n,if_pos rfl,aO (by omega) (by omega)];rfl
 have s2:∀k (hk:k < q),eR h.Class (-1) (k:Int)=some (.next ((k+1:Nat):Int)):=fun k hk=>by
  have:=hne k (by omega) hk
  have n:((-1:Int) == h.Class[k])=false:=by simpa using fun a=>this a.symm
  simp only [eR]
  rw [if_pos (by simp;omega),aV (by omega),aK,n,aO (by omega) (by omega)];rfl
 have hm:h.Bytes.length<=maxLen:=by rw [h384];simp [maxLen]
 by_cases h5:q=6
 ·left
  have a1:loop (eZ h c) 0=some (Out.brk ()):=jG q (fun k=>(k:Int)) _ s1 (by simp only [eZ];rw [if_neg (by simp;omega)])
  have a2:loop (eR h.Class (-1)) 0=some (Out.brk ()):=jG q (fun k=>(k:Int)) _ s2 (by simp only [eR];rw [if_neg (by simp;omega)])
  constructor
  ·unfold rP;rw [a1];rfl
  ·unfold D8 mN
   rw [a2,hcp,JJ hm,jZ,aZ hh,aZ hc];rfl
 ·right
  have hq5:q < 6:=by omega
  have he:h.Class[q] = -1:=by
   have:=List.findIdx_getElem (xs:=h.Class) (p:=fun x=>decide (x = -1)) (w:=by rw [hq];omega)
   simp only [hq,decide_eq_true_eq] at this
   exact this
  refine⟨q,hq5,by rw [<-SG hs hq5,he];omega,?_,?_⟩
  ·have a1:loop (eZ h c) 0=some (Out.ret (⟨gB h.Bytes q c (bY c).toNat,h.Class.set q c⟩,gS q (bY c).toNat)):=jG q (fun k=>(k:Int)) _ s1 (by
    have e0:bG ((q:Int) * 64)=((q * 64:Nat):Int):=by rw [aO (by omega) (by omega)];omega
    have e1:bG (((q * 64:Nat):Int)+1)=((q * 64+1:Nat):Int):=by rw [aO (by omega) (by omega)];omega
    have e2:bG (((q * 64:Nat):Int)+2)=((q * 64+2:Nat):Int):=by rw [aO (by omega) (by omega)];omega
    have n:(h.Class[q] != -1)=false:=by simpa using he
    simp only [eZ,e0,e1,e2,Int.toNat_natCast]
    rw [if_pos (by simp;omega),aV (by omega),aK,n,if_neg (by simp),aV (by omega),aK,aV (by simp;omega),aK,hY,aK,aV (by simp;omega),aK]
    have:=aDJ h384 hq5 hc
    simp only [gB] at this
    rw [this];rfl)
   unfold rP;rw [a1];rfl
  ·have a2:loop (eR h.Class (-1)) 0=some (Out.ret (q:Int)):=jG q (fun k=>(k:Int)) _ s2 (by
    have n:((-1:Int) == h.Class[q])=true:=by rw [he];rfl
    simp only [eR]
    rw [if_pos (by simp;omega),aV (by omega),aK,n];rfl)
   unfold D8 mN
   rw [a2,hcp,JJ hm,jZ,aZ hh,aZ hc]
   have e0:bG ((q:Int) * 64)=((q * 64:Nat):Int):=by rw [aO (by omega) (by omega)];omega
   simp only [aK,pG,dK,aN,if_false,yE,e0,AJ,K3,Int.toNat_natCast]
   rw [bI (by omega),if_neg (by simp),aV (by omega),aK,aQ (by omega),aX0 _ _ (by omega)]
   have:=aL5 h384 hq5 hc
   simp only [gB] at this
   rw [this];rfl
theorem LOk.count{l:aC}(h:LOk l):(c9 l).length<=24:=aL4 24 _ h.2.2.2.2 (fun x hx=>by have:=h.2.2.2.1 x hx;omega)
theorem aPG{m:Mem}(hs:fV m.aE){s:Int}(hc:0<=aW m.aE s):∃h,yR m s=some h/\E2 m s=some h:=by
 unfold yR E2 LD K4 wW wK
 rw [oY hs hc,FO hs hc,aK,aK,b8,b8,v7,eB]
 have h1:=(pR hc).1
 simp only [aZ h1,aK,dK,aN,if_false]
 by_cases q:1<=iG m.aE s/\iG m.aE s<=6
 ·simp only [aZ q,dK,aN,if_false];exact⟨_,rfl,rfl⟩
 ·simp only [bI q,iA,if_true];exact⟨_,rfl,rfl⟩
theorem UI{l:List aP}{k:Nat}(hk:k < l.length)(t:List Int):(cS (l.set k ⟨l[k].aS++t⟩)).length=(cS l).length+t.length:=by
 rw [EH hk,BD hk];simp;omega
end Go.Gv
end
noncomputable section
namespace Go.Gv
def bt(b:List Int)(i:Nat):Int:=b.getD i 0
theorem aDK{b:List Int}{i:Nat}(h:i < b.length):b[i]=bt b i:=by
 unfold bt;rw [List.getD_eq_getElem?_getD,List.getElem?_eq_getElem h];rfl
theorem ld4{b:List Int}{a:Nat}(h:a+4<=b.length):ld b a 4=((bt b a * 256+bt b (a+1)) * 256+bt b (a+2)) * 256+bt b (a+3):=by
 unfold ld
 rw [List.drop_eq_getElem_cons (by omega),List.drop_eq_getElem_cons (by omega),List.drop_eq_getElem_cons (by omega),List.drop_eq_getElem_cons (by omega)]
 simp only [List.take_succ_cons,List.take_zero,ldF,List.foldl_cons,List.foldl_nil,aDK (b:=b) (i:=a) (by omega),aDK (b:=b) (i:=a+1) (by omega),aDK (b:=b) (i:=a+1+1) (by omega),aDK (b:=b) (i:=a+1+1+1) (by omega)]
 simp only [Nat.add_assoc,Nat.reduceAdd];omega
theorem A0{b:List Int}{i j:Nat}{v:Int}(hi:i < b.length):bt (b.set i v) j=if j=i then v else bt b j:=by
 unfold bt
 rw [List.getD_eq_getElem?_getD,List.getD_eq_getElem?_getD,List.getElem?_set]
 by_cases h:i=j
 ·subst h;simp [hi]
 ·have h':¬j=i:=fun q=>h q.symm
  simp [h,h']
theorem v8{b:List Int}{a:Nat}{n:Int}(h:a+4<=b.length)(j:Nat):bt (XT b a n) j=if j=a+3 then n else if a<=j/\j < a+3 then 0 else bt b j:=by
 unfold XT
 rw [A0 (by simp;omega),A0 (by simp;omega),A0 (by simp;omega),A0 (by omega)]
 by_cases h1:j=a+3
 ·simp [h1]
 ·rw [if_neg h1,if_neg h1]
  by_cases h2:a<=j/\j < a+3
  ·rw [if_pos h2]
   by_cases h3:j=a+2
   ·simp [h3]
   ·rw [if_neg h3]
    by_cases h4:j=a+1
    ·simp [h4]
    ·rw [if_neg h4,if_pos (by omega)]
  ·rw [if_neg h2,if_neg (by omega),if_neg (by omega),if_neg (by omega)]
theorem aL6{b:List Int}{a:Nat}{n:Int}(h:a+4<=b.length):ld (XT b a n) a 4=n:=by
 rw [ld4 (by rw [DL];exact h),v8 h,v8 h,v8 h,v8 h,if_neg (by omega),if_pos (by omega),if_neg (by omega),if_pos (by omega),if_neg (by omega),if_pos (by omega),if_pos rfl]
 omega
theorem IE{b b':List Int}{a:Nat}(h:a+4<=b.length)(hl:b'.length=b.length)(hs:∀j,a<=j->j < a+4->bt b' j=bt b j):ld b' a 4=ld b a 4:=by
 rw [ld4 (by omega),ld4 h,hs a (by omega) (by omega),hs (a+1) (by omega) (by omega),hs (a+2) (by omega) (by omega),hs (a+3) (by omega) (by omega)]
def XV(h:aE)(p:Nat):Prop:=
 if bV h p < 0 then ∀k,k < 64->bt h.Bytes (p * 64+k)=0
 else ((bt h.Bytes (p * 64)=171/\bt h.Bytes (p * 64+1)=bV h p/\bt h.Bytes (p * 64+2)=bY (bV h p))/\(∀k,3<=k->k < 8->bt h.Bytes (p * 64+k)=0)/\∀i,i < (bY (bV h p)).toNat->1<=ld h.Bytes (p * 64+8+i * (aT (bV h p)).toNat) 4/\ld h.Bytes (p * 64+8+i * (aT (bV h p)).toNat) 4<=7)
theorem aGV{h:aE}(hs:fV h){p:Nat}(hp:p < 6){k:Nat}(hk:k < 64):(d8 h p).getD k 0=bt h.Bytes (p * 64+k):=by
 rw [<-aGO hs hp hk,aDK (by have:=hs.1;omega)]
theorem V2{l:List Int}{x:Int}:x∈l↔∃k,k < l.length/\l.getD k 0=x:=by
 rw [List.mem_iff_getElem]
 constructor
 ·rintro⟨k,hk,e⟩
  exact⟨k,hk,by rw [List.getD_eq_getElem?_getD,List.getElem?_eq_getElem hk];exact e⟩
 ·rintro⟨k,hk,e⟩
  exact⟨k,hk,by rw [List.getD_eq_getElem?_getD,List.getElem?_eq_getElem hk] at e;exact e⟩
theorem JQ{h:aE}(hs:fV h){p:Nat}(hp:p < 6):mV h p↔XV h p:=by
 unfold mV XV
 have hl:=JH hs hp
 split
 ·constructor
  ·intro q k hk
   rw [<-aGV hs hp hk]
   exact q _ (V2.2 ⟨k,by omega,rfl⟩)
  ·intro q x hx
   obtain⟨k,hk,rfl⟩:=V2.1 hx
   rw [aGV hs hp (by omega)];exact q k (by omega)
 ·rw [aGV hs hp (by omega),aGV hs hp (by omega),aGV hs hp (by omega)]
  have e:(∀x∈((d8 h p).drop 3).take 5,x=0)↔∀k,3<=k->k < 8->bt h.Bytes (p * 64+k)=0:=by
   have g:∀j,j < 5->(((d8 h p).drop 3).take 5).getD j 0=bt h.Bytes (p * 64+(3+j)):=fun j hj=>by
    rw [<-aGV hs hp (by omega),List.getD_eq_getElem?_getD,List.getD_eq_getElem?_getD,List.getElem?_take,if_pos hj,List.getElem?_drop]
   constructor
   ·intro q k h3 h8
    have:=q _ (V2.2 ⟨k - 3,by simp [hl];omega,rfl⟩)
    rw [g _ (by omega)] at this
    rw [show 3+(k - 3)=k by omega] at this;exact this
   ·intro q x hx
    obtain⟨k,hk,rfl⟩:=V2.1 hx
    simp [hl] at hk
    rw [g _ hk];exact q _ (by omega) (by omega)
  rw [e];rfl
theorem XV.same{h h':aE}{p:Nat}(hp:p < 6)(hs:fV h)(hl:h'.Bytes.length=h.Bytes.length)(hc:bV h' p=bV h p)(hb:∀k,k < 64->bt h'.Bytes (p * 64+k)=bt h.Bytes (p * 64+k))(q:XV h p):XV h' p:=by
 have h1:=hs.1
 unfold XV at q ⊢
 rw [hc]
 split
 ·rename_i q0;rw [if_pos q0] at q
  exact fun k hk=>by rw [hb k hk];exact q k hk
 ·rename_i q0;rw [if_neg q0] at q
  obtain⟨⟨a1,a2,a3⟩,a4,a5⟩:=q
  have b0:=hb 0 (by omega);have b1:=hb 1 (by omega);have b2:=hb 2 (by omega)
  simp only [Nat.add_zero] at b0
  refine⟨⟨by rw [b0];exact a1,by rw [b1];exact a2,by rw [b2];exact a3⟩,fun k k3 k8=>by rw [hb k (by omega)];exact a4 k k3 k8,fun i hi=>?_⟩
  have hz:=tJ hs hp (c:=bV h p) rfl hi
  rw [IE (b:=h.Bytes) (by omega) hl fun j j1 j2=>by
   have:=hb (j - p * 64) (by omega)
   rw [show p * 64+(j - p * 64)=j by omega] at this;exact this]
  exact a5 i hi
theorem sZ{h:aE}{s:Int}(hc:0<=aW h s):∃p i,p < 6/\i < (bY (bV h p)).toNat/\s=(p:Int) * 4+i/\aW h s=bV h p/\(eG s (aW h s)).toNat=p * 64+8+i * (aT (bV h p)).toNat/\(s / 4).toNat=p:=by
 obtain⟨h1,h2,h3⟩:=pR hc
 have hle:=mE (bV h (s / 4).toNat)
 refine⟨(s / 4).toNat,(s % 4).toNat,by omega,by omega,by omega,h3,?_,rfl⟩
 rw [h3]
 unfold eG
 rw [if_pos ⟨h1,by omega⟩]
 have hst:=(UG (bV h (s / 4).toNat)).1
 have e:s % 4 * aT (bV h (s / 4).toNat)=(((s % 4).toNat * (aT (bV h (s / 4).toNat)).toNat:Nat):Int):=by
  rw [Int.natCast_mul,Int.toNat_of_nonneg (by omega),Int.toNat_of_nonneg hst]
 omega
theorem OJ{c:Int}{i j:Nat}(hi:i < (bY c).toNat)(hj:j < (bY c).toNat)(hn:i≠j):i * (aT c).toNat+4<=j * (aT c).toNat\/j * (aT c).toNat+4<=i * (aT c).toNat:=by
 have hc:0<=c/\c<=2:=g9.1 (by omega)
 have h12:12<=(aT c).toNat:=by rcases fU hc with rfl | rfl | rfl <;> decide
 rcases Nat.lt_or_gt_of_ne hn with q | q
 ·left
  have:(i+1) * (aT c).toNat<=j * (aT c).toNat:=Nat.mul_le_mul_right _ q
  rw [Nat.add_mul] at this;omega
 ·right
  have:(j+1) * (aT c).toNat<=i * (aT c).toNat:=Nat.mul_le_mul_right _ q
  rw [Nat.add_mul] at this;omega
theorem TL.aTF{h:aE}(hh:TL h){s g:Int}(hc:0<=aW h s)(hg:1<=g/\g<=7) :
  TL ⟨XT h.Bytes (eG s (aW h s)).toNat g,h.Class⟩/\∀t,0<=aW h t->iG ⟨XT h.Bytes (eG s (aW h s)).toNat g,h.Class⟩ t=if t=s then g else iG h t:=by
 obtain⟨hs,hp⟩:=hh
 have h384:=hs.1
 have hs':fV ⟨XT h.Bytes (eG s (aW h s)).toNat g,h.Class⟩:=⟨by rw [DL];exact hs.1,hs.2.1,aJ6 hs.2.2.1 _ (by omega),hs.2.2.2⟩
 obtain⟨p,i,p6,hi,es,ec,eo,ep⟩:=sZ hc
 have hz:=tJ hs p6 rfl hi
 have h4:=mE (bV h p)
 refine⟨⟨hs',fun q hq=>?_⟩,fun t ht=>?_⟩
 ·rw [JQ hs' hq]
  have hold:=(JQ hs hq).1 (hp q hq)
  by_cases e:q=p
  ·subst e
   have hpos:0 < bY (bV h q):=by omega
   have hcl:¬bV h q < 0:=by have:=g9.1 hpos;omega
   unfold XV at hold ⊢
   have hcl':bV ⟨XT h.Bytes (eG s (aW h s)).toNat g,h.Class⟩ q=bV h q:=rfl
   rw [hcl']
   rw [if_neg hcl] at hold ⊢
   obtain⟨⟨a1,a2,a3⟩,a4,a5⟩:=hold
   have bs:∀k,k < 8->bt (XT h.Bytes (eG s (aW h s)).toNat g) (q * 64+k)=bt h.Bytes (q * 64+k):=fun k hk=>by
    rw [v8 (by omega),if_neg (by omega),if_neg (by omega)]
   have b0:=bs 0 (by omega);have b1:=bs 1 (by omega);have b2:=bs 2 (by omega)
   simp only [Nat.add_zero] at b0
   refine⟨⟨by rw [b0];exact a1,by rw [b1];exact a2,by rw [b2];exact a3⟩,fun k k3 k8=>by rw [bs k k8];exact a4 k k3 k8,fun j hj=>?_⟩
   have hzj:=tJ hs p6 rfl hj
   by_cases ej:j=i
   ·subst ej
    simp only [eo]
    rw [aL6 (by omega)];exact hg
   ·rw [IE (b:=h.Bytes) (by omega) (by simp only [DL]) fun k k1 k2=>?_]
    ·exact a5 j hj
    ·simp only [eo]
     have:=OJ hi hj (fun q=>ej q.symm)
     rw [v8 (by omega),if_neg (by omega),if_neg (by omega)]
  ·refine XV.same hq hs (by simp only [DL]) rfl (fun k hk=>?_) hold
   rw [v8 (by omega),if_neg (by omega),if_neg (by omega)]
 ·have e2:aW ⟨XT h.Bytes (eG s (aW h s)).toNat g,h.Class⟩ t=aW h t:=rfl
  unfold iG
  rw [e2]
  by_cases e:t=s
  ·subst e;rw [if_pos rfl];simp only;rw [aL6 (by omega)]
  ·rw [if_neg e]
   obtain⟨p',i',p6',hi',es',ec',eo',ep'⟩:=sZ ht
   have hz':=tJ hs p6' rfl hi'
   rw [IE (b:=h.Bytes) (by omega) (by simp only [DL]) fun k k1 k2=>?_]
   simp only
   by_cases ee:p'=p
   ·subst ee
    have:=OJ hi hi' (fun q=>e (by rw [es,es',q]))
    rw [v8 (by omega),if_neg (by omega),if_neg (by omega)]
   ·have h4':=mE (bV h p')
    rw [v8 (by omega),if_neg (by omega),if_neg (by omega)]
theorem aA0{p k:Nat}{c:Int}(hp:p < 6)(hk:(k:Int) < bY c):aTD p k c=p * 64+8+k * (aT c).toNat/\8+k * (aT c).toNat+4<=64:=by
 have hc:0<=c/\c<=2:=g9.1 (by omega)
 have h1:=aIN (c:=c) hp hk
 have hle:=mE c
 have e:=h1.1
 unfold eG at e
 rw [if_pos (by omega)] at e
 have e1:((p:Int) * 4+k) / 4=p:=by omega
 have e2:((p:Int) * 4+k) % 4=k:=by omega
 rw [e1,e2] at e
 rcases fU hc with rfl | rfl | rfl
 ·rw [show aT 0=12 from rfl] at e ⊢
  rw [show bY 0=4 from rfl] at hk
  rw [show(12:Int).toNat=12 from rfl]
  omega
 ·rw [show aT 1=20 from rfl] at e ⊢
  rw [show bY 1=2 from rfl] at hk
  rw [show(20:Int).toNat=20 from rfl]
  omega
 ·rw [show aT 2=44 from rfl] at e ⊢
  rw [show bY 2=1 from rfl] at hk
  rw [show(44:Int).toNat=44 from rfl]
  omega
theorem aTG{b:List Int}{p:Nat}{c:Int}(hl:b.length=384)(hp:p < 6)(hc:0<=c/\c<=2):∀k:Nat,(k:Int)<=bY c->∀j,(j < p * 64\/p * 64+64<=j->bt (gB b p c k) j=bt b j)/\(3<=j->j < 8->bt (gB b p c k) (p * 64+j)=bt b (p * 64+j))/\bt (gB b p c k) (p * 64)=171/\bt (gB b p c k) (p * 64+1)=c/\bt (gB b p c k) (p * 64+2)=bY c
 | 0, hk, j => by
  have key:∀i,bt (gB b p c 0) i=if i=p * 64+2 then bY c else if i=p * 64+1 then c else if i=p * 64 then 171 else bt b i:=fun i=>by
   unfold gB
   rw [A0 (by simp;omega),A0 (by simp;omega),A0 (by omega)]
  refine⟨fun h=>?_,fun h1 h2=>?_,?_,?_,?_⟩
  ·rw [key,if_neg (by omega),if_neg (by omega),if_neg (by omega)]
  ·rw [key,if_neg (by omega),if_neg (by omega),if_neg (by omega)]
  ·rw [key,if_neg (by omega),if_neg (by omega),if_pos rfl]
  ·rw [key,if_neg (by omega),if_pos rfl]
  ·rw [key,if_pos rfl]
 | k + 1, hk, j => by
  have ih:=aTG hl hp hc k (by omega)
  have hoff:=aA0 (c:=c) hp (by omega:(k:Int) < bY c)
  have hbl:=JN b p c k
  unfold gB
  refine⟨fun h=>?_,fun h1 h2=>?_,?_,?_,?_⟩
  ·rw [v8 (by omega),if_neg (by omega),if_neg (by omega)];exact(ih j).1 h
  ·rw [v8 (by omega),if_neg (by omega),if_neg (by omega)];exact(ih j).2.1 h1 h2
  ·rw [v8 (by omega),if_neg (by omega),if_neg (by omega)];exact(ih j).2.2.1
  ·rw [v8 (by omega),if_neg (by omega),if_neg (by omega)];exact(ih j).2.2.2.1
  ·rw [v8 (by omega),if_neg (by omega),if_neg (by omega)];exact(ih j).2.2.2.2
theorem aTH{b:List Int}{p:Nat}{c:Int}(hl:b.length=384)(hp:p < 6):∀k:Nat,(k:Int)<=bY c->∀i,i < k->ld (gB b p c k) (p * 64+8+i * (aT c).toNat) 4=1
 | 0,_,i,h=>absurd h (by omega)
 | k + 1, hk, i, h => by
  have hbl:=JN b p c k
  have ho:=aA0 (c:=c) hp (by omega:(k:Int) < bY c)
  unfold gB
  by_cases e:i=k
  ·subst e;rw [<-ho.1];exact aL6 (by omega)
  ·have hoi:=aA0 (c:=c) hp (by omega:(i:Int) < bY c)
   have ha:=OJ (c:=c) (i:=i) (j:=k) (by omega) (by omega) e
   rw [IE (b:=gB b p c k) (by omega) (by rw [DL]) fun j j1 j2=>by rw [v8 (by omega),if_neg (by omega),if_neg (by omega)]]
   exact aTH hl hp k (by omega) i (by omega)
theorem RO{h:aE}(hs:fV h){B:List Int}{p q:Nat}(hq:q < 6){c:Int}:bV ⟨B,h.Class.set p c⟩ q=if q=p then c else bV h q:=by
 have h6:=hs.2.1
 unfold bV
 rw [List.getD_eq_getElem?_getD,List.getD_eq_getElem?_getD,List.getElem?_set]
 by_cases e:p=q
 ·subst e;simp [h6,hq]
 ·have e':¬q=p:=fun z=>e z.symm
  simp [e,e']
theorem TL.aX1{h:aE}(hh:TL h){p:Nat}(hp:p < 6)(hun:bV h p < 0){c:Int}(hc:0<=c/\c<=2) :
  TL ⟨gB h.Bytes p c (bY c).toNat,h.Class.set p c⟩/\(∀t,(t / 4).toNat≠p->aW ⟨gB h.Bytes p c (bY c).toNat,h.Class.set p c⟩ t=aW h t)/\(∀t,0<=aW h t->(t / 4).toNat≠p/\iG ⟨gB h.Bytes p c (bY c).toNat,h.Class.set p c⟩ t=iG h t) /\
   ∀i,i < (bY c).toNat->aW ⟨gB h.Bytes p c (bY c).toNat,h.Class.set p c⟩ ((p:Int) * 4+i)=c/\iG ⟨gB h.Bytes p c (bY c).toNat,h.Class.set p c⟩ ((p:Int) * 4+i)=1:=by
 obtain⟨hs,hpg⟩:=hh
 have h384:=hs.1
 have hle:=mE c
 have hpn:((bY c).toNat:Int)<=bY c:=by omega
 have hb:=aTG h384 hp hc (bY c).toNat hpn
 have hbl:=JN h.Bytes p c (bY c).toNat
 have hs':fV ⟨gB h.Bytes p c (bY c).toNat,h.Class.set p c⟩:=⟨by simp only [hbl];exact h384,by simp only [List.length_set];exact hs.2.1,aIM hs.2.2.1 p hc _,fun x hx=>by
  rcases List.mem_or_eq_of_mem_set hx with q | rfl
  ·exact hs.2.2.2 x q
  ·omega⟩
 have hcls:∀t:Int,(t / 4).toNat≠p->aW ⟨gB h.Bytes p c (bY c).toNat,h.Class.set p c⟩ t=aW h t:=fun t ht=>by
  unfold aW
  by_cases q:0<=t/\t<=23
  ·rw [RO hs (by omega),if_neg ht]
  ·rw [if_neg (fun z=>q z.1),if_neg (fun z=>q z.1)]
 refine⟨⟨hs',fun q hq=>?_⟩,hcls,fun t ht=>?_,fun i hi=>?_⟩
 ·rw [JQ hs' hq]
  have hold:=(JQ hs hq).1 (hpg q hq)
  by_cases e:q=p
  ·subst e
   unfold XV at hold ⊢
   rw [if_pos hun] at hold
   rw [RO hs hq,if_pos rfl,if_neg (by omega)]
   refine⟨(hb 0).2.2,fun k k3 k8=>?_,fun i hi=>?_⟩
   ·simp only;rw [(hb k).2.1 k3 k8];exact hold k (by omega)
   ·simp only;rw [aTH h384 hp _ hpn i hi];omega
  ·refine XV.same hq hs (by simp only [hbl]) (by rw [RO hs hq,if_neg e]) (fun k hk=>?_) hold
   exact(hb _).1 (by omega)
 ·obtain⟨p',i',p6',hi',es',ec',eo',ep'⟩:=sZ ht
  have hne:(t / 4).toNat≠p:=fun z=>by rw [ec',<-ep',z] at ht;omega
  refine⟨hne,?_⟩
  have hz':=tJ hs p6' rfl hi'
  unfold iG
  rw [hcls t hne,IE (b:=h.Bytes) (by omega) (by simp only [hbl]) fun k k1 k2=>(hb k).1 (by omega)]
 ·have e1:((p:Int) * 4+i) / 4=p:=by omega
  have e2:((p:Int) * 4+i) % 4=i:=by omega
  have ec:aW ⟨gB h.Bytes p c (bY c).toNat,h.Class.set p c⟩ ((p:Int) * 4+i)=c:=by
   unfold aW
   rw [e1,e2,Int.toNat_natCast,RO hs hp,if_pos rfl,if_pos (by omega)]
  refine⟨ec,?_⟩
  unfold iG
  rw [ec]
  have ho:=aA0 (c:=c) hp (by omega:(i:Int) < bY c)
  have:(eG ((p:Int) * 4+i) c).toNat=p * 64+8+i * (aT c).toNat:=ho.1
  rw [this]
  exact aTH h384 hp _ hpn i hi
def xM(m m':Mem)(k:Int):Prop:=mI m'/\∀s,dW m s=3->s≠k->dW m' s=3/\iG m'.aE s=iG m.aE s/\aW m'.aE s=aW m.aE s
theorem xM.refl{m:Mem}(h:mI m)(k:Int):xM m m k:=⟨h,fun _ h _=>⟨h,rfl,rfl⟩⟩
theorem xM.live{m m':Mem}{k h:Int}(q:xM m m' k)(hl:hC m h)(hn:h % 32≠k):hC m' h:=by
 obtain⟨h1,h2,h3⟩:=hl
 obtain⟨a,b,_⟩:=q.2 _ h2 hn
 exact⟨h1,a,by rw [b];exact h3⟩
theorem KU{l:List aP}{k j:Nat}(hk:k < l.length){t:aP}:dS (l.set k t) j=if j=k then t.aS else dS l j:=by
 unfold dS
 rw [List.getD_eq_getElem?_getD,List.getD_eq_getElem?_getD,List.getElem?_set]
 by_cases e:k=j
 ·subst e;simp [hk]
 ·have e':¬j=k:=fun z=>e z.symm
  simp [e,e']
theorem aGW{l:List aP}{k:Nat}(hk:k < l.length){t:aP}(ht:t.aS.Sublist l[k].aS):(cS (l.set k t)).Sublist (cS l):=by
 rw [EH hk,BD hk]
 exact(List.Sublist.refl _).append (ht.append (List.Sublist.refl _))
theorem DM{l:List aP}{k:Nat}(hk:k < l.length){xs:List Int}{s:Int}:s∈cS (l.set k ⟨l[k].aS++xs⟩)↔s∈cS l\/s∈xs:=by
 rw [EH hk,BD hk]
 simp only [List.mem_append]
 constructor
 ·rintro(h | (h | h) | h)
  ·exact .inl (.inl h)
  ·exact .inl (.inr (.inl h))
  ·exact .inr h
  ·exact .inl (.inr (.inr h))
 ·rintro((h | h | h) | h)
  ·exact .inl h
  ·exact .inr (.inl (.inl h))
  ·exact .inr (.inr h)
  ·exact .inr (.inl (.inr h))
theorem RP{l:List aP}{k:Nat}(hk:k < l.length){xs r q:List Int}(h:(q++(cS l++r)).Nodup)(hx:xs.Nodup)(hd:∀x∈xs,x∉q++(cS l++r)):(q++(cS (l.set k ⟨l[k].aS++xs⟩)++r)).Nodup:=by
 have hp:(q++(cS (l.set k ⟨l[k].aS++xs⟩)++r)).Perm (xs++(q++(cS l++r))):=by
  rw [EH hk,BD hk]
  have e1:q++(cS (l.take k)++(l[k].aS++xs++cS (l.drop (k+1)))++r)=(q++cS (l.take k)++l[k].aS)++(xs++(cS (l.drop (k+1))++r)):=by simp
  have e2:xs++(q++(cS (l.take k)++(l[k].aS++cS (l.drop (k+1)))++r))=xs++((q++cS (l.take k)++l[k].aS)++(cS (l.drop (k+1))++r)):=by simp
  rw [e1,e2]
  exact List.perm_append_comm_assoc _ _ _
 rw [hp.nodup_iff,List.nodup_append]
 exact⟨hx,h,fun a ha b hb e=>hd a ha (e ▸ hb)⟩
theorem V3{m m':Mem}{s:Int}(h1:aW m'.aE s=aW m.aE s)(h2:iG m'.aE s=iG m.aE s)(h3:s∈c9 m'.aC↔s∈c9 m.aC):dW m' s=dW m s:=by
 unfold dW
 rw [h1,h2]
 by_cases q:s∈c9 m.aC
 ·rw [if_pos q,if_pos (h3.2 q)]
 ·rw [if_neg q,if_neg (fun z=>q (h3.1 z))]
theorem gU{m:Mem}{s:Int}:dW m s=3↔0<=aW m.aE s/\s∉c9 m.aC/\iG m.aE s<=6:=by
 unfold dW
 constructor
 ·intro h
  split at h
  ·omega
  ·split at h
   ·omega
   ·split at h
    ·omega
    ·exact⟨by omega,by assumption,by omega⟩
 ·rintro⟨a,b,c⟩
  rw [if_neg (by omega),if_neg b,if_neg (by omega)]
noncomputable section
variable {m:Mem} (hm:mI m)
include hm
theorem mI.aZJ{k:Nat}(hk:k < 9){t:aP}(ht:t.aS.Sublist (dS m.aC.cL k)):xM m ⟨m.aE,⟨m.aC.Global,m.aC.cL.set k t⟩⟩ (-1):=by
 obtain⟨⟨hh,h3,h9,h2,hr,hn⟩,hg,ho⟩:=hm
 have hk':k < m.aC.cL.length:=by omega
 have ht':t.aS.Sublist m.aC.cL[k].aS:=by rw [dN hk'];exact ht
 have hsub:(c9 ⟨m.aC.Global,m.aC.cL.set k t⟩).Sublist (c9 m.aC):=(List.Sublist.refl _).append (aGW hk' ht')
 refine⟨⟨⟨hh,h3,by simpa using h9,fun s hs=>?_,fun x hx=>hr x (hsub.subset hx),hsub.nodup hn⟩,hg,fun j hj=>?_⟩,fun s hs _=>⟨?_,rfl,rfl⟩⟩
 ·rcases List.mem_or_eq_of_mem_set hs with q | rfl
  ·exact h2 s q
  ·have:=ht'.length_le;have:=h2 _ (List.getElem_mem hk');omega
 ·unfold DJ
  simp only [KU hk']
  split
  ·rename_i e;subst e
   exact fun x hx=>ho j hj x (ht.subset hx)
  ·exact ho j hj
 ·rw [gU] at hs ⊢
  exact⟨hs.1,fun q=>hs.2.1 (hsub.subset q),hs.2.2⟩
theorem mI.aPH{k:Nat}(hk:k < 3){t:aP}(ht:t.aS.Sublist (dS m.aC.Global k)):xM m ⟨m.aE,⟨m.aC.Global.set k t,m.aC.cL⟩⟩ (-1):=by
 obtain⟨⟨hh,h3,h9,h2,hr,hn⟩,hg,ho⟩:=hm
 have hk':k < m.aC.Global.length:=by omega
 have ht':t.aS.Sublist m.aC.Global[k].aS:=by rw [dN hk'];exact ht
 have hsub:(c9 ⟨m.aC.Global.set k t,m.aC.cL⟩).Sublist (c9 m.aC):=(aGW hk' ht').append (List.Sublist.refl _)
 refine⟨⟨⟨hh,by simpa using h3,h9,h2,fun x hx=>hr x (hsub.subset hx),hsub.nodup hn⟩,fun j hj=>?_,ho⟩,fun s hs _=>⟨?_,rfl,rfl⟩⟩
 ·unfold J0
  simp only [KU hk']
  split
  ·rename_i e;subst e
   exact fun x hx=>hg j hj x (ht.subset hx)
  ·exact hg j hj
 ·rw [gU] at hs ⊢
  exact⟨hs.1,fun q=>hs.2.1 (hsub.subset q),hs.2.2⟩
theorem mI.aWL{k:Nat}(hk:k < 9){xs:List Int}(hl:(dS m.aC.cL k).length+xs.length<=2)(hx:xs.Nodup)(hf:DI m.aE xs ((k % 3:Nat):Int))(hd:∀x∈xs,x∉c9 m.aC)(hk':k < m.aC.cL.length) :
  mI ⟨m.aE,⟨m.aC.Global,m.aC.cL.set k ⟨m.aC.cL[k].aS++xs⟩⟩⟩/\∀s,s∉xs->dW m s=3->dW ⟨m.aE,⟨m.aC.Global,m.aC.cL.set k ⟨m.aC.cL[k].aS++xs⟩⟩⟩ s=3:=by
 obtain⟨⟨hh,h3,h9,h2,hr,hn⟩,hg,ho⟩:=hm
 have hmem:∀s,s∈c9 ⟨m.aC.Global,m.aC.cL.set k ⟨m.aC.cL[k].aS++xs⟩⟩↔s∈c9 m.aC\/s∈xs:=fun s=>by
  unfold c9;simp only [List.mem_append,DM hk'];rw [or_assoc]
 have hcl:∀x∈xs,0<=x/\x<=23:=fun x h=>by
  have:=(hf x h).1
  exact(pR (h:=m.aE) (s:=x) (by omega)).1
 refine⟨⟨⟨hh,h3,by simpa using h9,fun s hs=>?_,fun x hx=>?_,?_⟩,hg,fun j hj=>?_⟩,fun s hs h3=>?_⟩
 ·rcases List.mem_or_eq_of_mem_set hs with q | rfl
  ·exact h2 s q
  ·rw [<-dN hk'] at hl;simpa using hl
 ·rcases(hmem x).1 hx with q | q
  ·exact hr x q
  ·exact hcl x q
 ·have:=RP (q:=cS m.aC.Global) (r:=[]) hk' (by simpa [c9] using hn) hx (by simpa [c9] using hd)
  simpa [c9] using this
 ·unfold DJ
  simp only [KU hk']
  split
  ·rename_i e;subst e
   intro x hx
   rcases List.mem_append.1 hx with q | q
   ·rw [dN hk'] at q;exact ho j hj x q
   ·exact hf x q
  ·exact ho j hj
 ·rw [gU] at h3 ⊢
  exact⟨h3.1,fun q=>(((hmem s).1 q).elim h3.2.1 hs),h3.2.2⟩
theorem mI.aDL{k:Nat}(hk:k < 3){xs:List Int}(hx:xs.Nodup)(hf:DI m.aE xs (k:Int))(hd:∀x∈xs,x∉c9 m.aC)(hk':k < m.aC.Global.length) :
  mI ⟨m.aE,⟨m.aC.Global.set k ⟨m.aC.Global[k].aS++xs⟩,m.aC.cL⟩⟩/\∀s,s∉xs->dW m s=3->dW ⟨m.aE,⟨m.aC.Global.set k ⟨m.aC.Global[k].aS++xs⟩,m.aC.cL⟩⟩ s=3:=by
 obtain⟨⟨hh,h3,h9,h2,hr,hn⟩,hg,ho⟩:=hm
 have hmem:∀s,s∈c9 ⟨m.aC.Global.set k ⟨m.aC.Global[k].aS++xs⟩,m.aC.cL⟩↔s∈c9 m.aC\/s∈xs:=fun s=>by
  unfold c9;simp only [List.mem_append,DM hk'];rw [or_right_comm]
 have hcl:∀x∈xs,0<=x/\x<=23:=fun x h=>by
  have:=(hf x h).1
  exact(pR (h:=m.aE) (s:=x) (by omega)).1
 refine⟨⟨⟨hh,by simpa using h3,h9,h2,fun x hx=>?_,?_⟩,fun j hj=>?_,ho⟩,fun s hs h3=>?_⟩
 ·rcases(hmem x).1 hx with q | q
  ·exact hr x q
  ·exact hcl x q
 ·have:=RP (q:=[]) (r:=cS m.aC.cL) hk' (by simpa [c9] using hn) hx (by simpa [c9] using hd)
  simpa [c9] using this
 ·unfold J0
  simp only [KU hk']
  split
  ·rename_i e;subst e
   intro x hx
   rcases List.mem_append.1 hx with q | q
   ·rw [dN hk'] at q;exact hg j hj x q
   ·exact hf x q
  ·exact hg j hj
 ·rw [gU] at h3 ⊢
  exact⟨h3.1,fun q=>(((hmem s).1 q).elim h3.2.1 hs),h3.2.2⟩
theorem mI.oZ{x:Int}(hx:x∈c9 m.aC):0<=aW m.aE x/\iG m.aE x<=6:=by
 obtain⟨⟨hh,h3,h9,h2,hr,hn⟩,hg,ho⟩:=hm
 have key:∀(l:List aP),x∈cS l->∃k,k < l.length/\x∈dS l k:=fun l h=>by
  obtain⟨s,h1,h2⟩:=SI.1 h
  obtain⟨k,hk,rfl⟩:=List.mem_iff_getElem.1 h1
  exact⟨k,hk,by rw [<-dN hk];exact h2⟩
 rcases List.mem_append.1 hx with q | q
 ·obtain⟨k,hk,h⟩:=key _ q
  have:=hg k (by omega) x h
  exact⟨by omega,this.2⟩
 ·obtain⟨k,hk,h⟩:=key _ q
  have:=ho k (by omega) x h
  exact⟨by omega,this.2⟩
theorem mI.heap{h':aE}(hh:TL h')(hs:∀x∈c9 m.aC,aW h' x=aW m.aE x/\iG h' x=iG m.aE x):mI ⟨h',m.aC⟩:=by
 obtain⟨⟨_,hl⟩,hg,ho⟩:=hm
 have key:∀(l:List aP) k x,x∈dS l k->x∈cS l:=fun l k x h=>by
  unfold dS at h
  rw [List.getD_eq_getElem?_getD] at h
  cases hk:l[k]? with
  | none=>rw [hk] at h;simp at h
  | some s=>rw [hk] at h;exact SI.2 ⟨s,List.mem_of_getElem? hk,h⟩
 refine⟨⟨hh,hl⟩,fun k hk x hx=>?_,fun k hk x hx=>?_⟩
 ·obtain⟨a,b⟩:=hs x (List.mem_append_left _ (key _ k x hx))
  show aW h' x=_/\iG h' x<=6
  rw [a,b];exact hg k hk x hx
 ·obtain⟨a,b⟩:=hs x (List.mem_append_right _ (key _ k x hx))
  show aW h' x=_/\iG h' x<=6
  rw [a,b];exact ho k hk x hx
theorem mI.a25{s g:Int}(hu:dW m s=3)(hg:1<=g/\g<=7):xM m ⟨⟨XT m.aE.Bytes (eG s (aW m.aE s)).toNat g,m.aE.Class⟩,m.aC⟩ s/\iG ⟨XT m.aE.Bytes (eG s (aW m.aE s)).toNat g,m.aE.Class⟩ s=g:=by
 have hu':=gU.1 hu
 obtain⟨a,b⟩:=TL.aTF hm.1.1 hu'.1 hg
 refine⟨⟨mI.heap hm a fun x hx=>⟨rfl,?_⟩,fun t ht hn=>?_⟩,by rw [b s hu'.1,if_pos rfl]⟩
 ·rw [b x (mI.oZ hm hx).1,if_neg (show ¬x=s from fun e=>hu'.2.1 (e ▸ hx))]
 ·have ht':=gU.1 ht
  have e:iG ⟨XT m.aE.Bytes (eG s (aW m.aE s)).toNat g,m.aE.Class⟩ t=iG m.aE t:=by rw [b t ht'.1,if_neg hn]
  exact⟨gU.2 ⟨ht'.1,ht'.2.1,by simp only [e];exact ht'.2.2⟩,e,rfl⟩
theorem mI.a1R{p:Nat}(hp:p < 6)(hun:bV m.aE p < 0){c:Int}(hc:0<=c/\c<=2){xs:List Int}(hxs:∀x∈xs,∃i,i < (bY c).toNat/\x=(p:Int) * 4+(i:Nat))(hx:xs.Nodup)(hk':c.toNat < m.aC.Global.length) :
  xM m ⟨⟨gB m.aE.Bytes p c (bY c).toNat,m.aE.Class.set p c⟩,⟨m.aC.Global.set c.toNat ⟨m.aC.Global[c.toNat].aS++xs⟩,m.aC.cL⟩⟩ (-1):=by
 obtain⟨a,b,d,e⟩:=TL.aX1 hm.1.1 hp hun hc
 have h1:mI ⟨⟨gB m.aE.Bytes p c (bY c).toNat,m.aE.Class.set p c⟩,m.aC⟩:=mI.heap hm a fun x hx=>by
  obtain⟨q,r⟩:=d x (mI.oZ hm hx).1
  exact⟨b x q,r⟩
 have hno:∀x∈xs,¬0<=aW m.aE x:=fun x h q=>by
  obtain⟨i,hi,rfl⟩:=hxs x h
  have h4:=mE c
  exact(d _ q).1 (by omega)
 obtain⟨f,g⟩:=mI.aDL h1 (k:=c.toNat) (by omega) hx (fun x h=>by
  obtain⟨i,hi,rfl⟩:=hxs x h
  have:=e i hi
  exact⟨by simp only [this.1];omega,by simp only [this.2];omega⟩) (fun x h q=>hno x h (mI.oZ hm q).1) hk'
 refine⟨f,fun s hs _=>?_⟩
 have hs':=gU.1 hs
 obtain⟨q,r⟩:=d s hs'.1
 have h2:dW ⟨⟨gB m.aE.Bytes p c (bY c).toNat,m.aE.Class.set p c⟩,m.aC⟩ s=3:=gU.2 ⟨by simp only [b s q];exact hs'.1,hs'.2.1,by simp only [r];exact hs'.2.2⟩
 exact⟨g s (fun h=>hno s h hs'.1) h2,r,b s q⟩
end
end Go.Gv
end
noncomputable section
namespace Go.Gv
theorem aTI{p n:Nat}{x:Int}(h:x∈gS p n):∃i,i < n/\x=(p:Int) * 4+(i:Nat):=by
 simp only [gS,List.mem_map,List.mem_range] at h
 obtain⟨i,h1,h2⟩:=h
 exact⟨i,h1,h2.symm⟩
theorem aJ7(p n:Nat):(gS p n).Nodup:=by
 unfold gS
 rw [List.Nodup,List.pairwise_map]
 exact List.Pairwise.imp (fun h e=>h (by omega)) (List.nodup_range (n:=n))
theorem aJ8{m:Mem}(hm:mI m){c:Int}(hc:0<=c/\c<=2) :
  ∃m' s,CX m c=some (m',s)/\HM m c=some (m',s)/\tT m'/\(0<=s->fV m'.aE/\0<=aW m'.aE s)/\xM m m' (-1):=by
 have hl:=hm.1.2
 have hcnt:=hl.count
 have hs:=hm.1.1.1
 have hsl:=hl.TN (by omega)
 have hp4:=mE c
 have hpp:0 < bY c:=g9.2 hc
 have hall:=oO m.aC
 have hsG:∀s∈m.aC.Global,s.aS.length<=24:=fun s h=>by have:=zH h;omega
 have hsO:∀s∈m.aC.cL,s.aS.length<=24:=fun s h=>by have:=zH h;omega
 have h3:=hl.1
 have h9:=hl.2.1
 have hcpl:=LV (l:=m.aC) (by omega) (by omega) (fun s h=>by have:=hsG s h;omega) (fun s h=>by have:=hsO s h;omega)
 unfold CX HM
 rcases aTE hm.1.1 hc with ⟨e1,e2⟩ | ⟨p,hp,hun,e1,e2⟩
 ·rw [e1,e2,hcpl]
  have h1:=hs.1;have h2:=hs.2.1
  exact⟨_,_,rfl,rfl,⟨by simp only;omega,by simp only;omega,by simp only;omega,by simp only;omega,by simp only;omega⟩,fun h=>absurd h (by omega),xM.refl hm _⟩
 ·rw [e1,e2,hcpl]
  simp only [aK,GP,GO,GU,JO]
  have hn:(((bY c).toNat:Int) == 0)=false:=by simpa using (by omega:¬((bY c).toNat:Int)=0)
  have hk:c.toNat < m.aC.Global.length:=by omega
  have hg0:=hsG _ (List.getElem_mem hk)
  have hx:idx m.aC.Global c=some m.aC.Global[c.toNat]:=fH hc.1 (by omega)
  have hz:idx (gS p (bY c).toNat) 0=some ((p:Int) * 4):=by
   have:=aV (l:=gS p (bY c).toNat) (k:=0) (by rw [JO];omega)
   rw [show((0:Nat):Int)=0 from rfl] at this
   rw [this];simp [gS]
  have hlen:(List.drop (1:Int).toNat (List.take (bY c).toNat (gS p (bY c).toNat))).length<=4:=by simp [JO];omega
  simp only [hn,aN,if_false,hx,aK,hz]
  rw [aQ (by omega),aQ (by omega)]
  have hcl:bV ⟨gB m.aE.Bytes p c (bY c).toNat,m.aE.Class.set p c⟩ p=c:=by
   have h6:=hs.2.1
   unfold bV;simp [List.getD_eq_getElem?_getD,List.getElem?_set,h6,hp]
  refine⟨_,_,rfl,rfl,⟨by simp only [JN];have:=hs.1;omega,by simp only [List.length_set];have:=hs.2.1;omega,by simp only [List.length_set];omega,by simp only;omega,?_⟩,fun _=>⟨⟨by simp only [JN];exact hs.1,by simp only [List.length_set];exact hs.2.1,aIM hs.2.2.1 p hc _,fun x hx=>?_⟩,?_⟩,?_⟩
  ·rw [oO];simp only [UI hk];omega
  ·rcases List.mem_or_eq_of_mem_set hx with h | rfl
   ·exact hs.2.2.2 x h
   ·omega
  ·unfold aW
   have e4:((p:Int) * 4 / 4).toNat=p:=by omega
   rw [e4]
   simp only [hcl]
   rw [if_pos ⟨by omega,by omega⟩];exact hc.1
  ·exact mI.a1R hm hp hun hc (fun x hx=>aTI (List.mem_of_mem_take (List.mem_of_mem_drop hx))) ((aJ7 p _).sublist ((List.drop_sublist _ _).trans (List.take_sublist _ _))) hk
theorem aL7(n:Int):∃c,CV n=some c/\HK n=some c/\(c = -1\/(0<=c/\c<=2)):=by
 have s1:∀k,0<=k/\k<=2->fK n k=some (if 1<=n/\n<=gR k then .stop (Out.ret k) else .next (k+1)):=fun k hk=>by
  simp only [fK]
  rw [if_pos (by simp;omega),qR,aK,b8,aK,aO (by omega) (by omega)]
  by_cases q:1<=n/\n<=gR k
  ·rw [aZ q,if_pos rfl,if_pos q]
  ·rw [bI q,if_neg (by simp),if_neg q]
 have s2:∀k,0<=k/\k<=2->jY n k=some (if 1<=n/\n<=gR k then .stop (Out.ret k) else .next (k+1)):=fun k hk=>by
  simp only [jY,zY]
  rw [if_pos (by simp;omega),RC,aK,aO (by omega) (by omega)]
  by_cases q1:1<=n
  ·by_cases q2:n<=gR k <;> simp [q1,q2]
  ·simp [q1]
 have st:∀k,0<=k/\k<=2->1<=n/\n<=gR k->loop (fK n) k=some (Out.ret k)/\loop (jY n) k=some (Out.ret k):=fun k hk h=>
  ⟨bS (by rw [s1 k hk,if_pos h]),bS (by rw [s2 k hk,if_pos h])⟩
 have nx:∀k,0<=k/\k<=2->¬(1<=n/\n<=gR k)->loop (fK n) k=loop (fK n) (k+1)/\loop (jY n) k=loop (jY n) (k+1):=fun k hk h=>
  ⟨bW (by rw [s1 k hk,if_neg h]),bW (by rw [s2 k hk,if_neg h])⟩
 unfold CV HK
 by_cases q0:1<=n/\n<=gR 0
 ·have:=st 0 (by omega) q0
  rw [this.1,this.2];exact⟨_,rfl,rfl,.inr (by omega)⟩
 ·have h0:=nx 0 (by omega) q0
  rw [h0.1,h0.2,show(0:Int)+1=1 from rfl]
  by_cases q1:1<=n/\n<=gR 1
  ·have:=st 1 (by omega) q1
   rw [this.1,this.2];exact⟨_,rfl,rfl,.inr (by omega)⟩
  ·have h1:=nx 1 (by omega) q1
   rw [h1.1,h1.2,show(1:Int)+1=2 from rfl]
   by_cases q2:1<=n/\n<=gR 2
   ·have:=st 2 (by omega) q2
    rw [this.1,this.2];exact⟨_,rfl,rfl,.inr (by omega)⟩
   ·have h2:=nx 2 (by omega) q2
    rw [h2.1,h2.2,show(2:Int)+1=3 from rfl,bS (body:=fK n) (r:=Out.brk ()) (by simp [fK]),bS (body:=jY n) (r:=Out.brk ()) (by simp [jY])]
    exact⟨_,rfl,rfl,.inl rfl⟩
theorem aTJ{s:aP}(hl:s.aS.length<=1048576):∃t x,rQ s=some (t,x)/\uV s=some (x,t)/\t.aS.length<=s.aS.length/\(0<=x->x∈s.aS)/\t.aS.Sublist s.aS:=by
 unfold rQ uV LC
 rw [aO (by omega) (by omega)]
 by_cases q:s.aS.length=0
 ·rw [if_pos (by simpa using q),if_pos (by simp;omega)]
  exact⟨_,_,rfl,rfl,Nat.le_refl _,fun h=>absurd h (by omega),List.Sublist.refl _⟩
 ·have hx:idx s.aS ((s.aS.length:Int) - 1)=some (s.aS[s.aS.length - 1]'(by omega)):=by
   rw [show((s.aS.length:Int) - 1)=((s.aS.length - 1:Nat):Int) by omega,aV (by omega)]
  rw [if_neg (by simpa using q),if_neg (by simp;omega),aQ (by omega),hx]
  simp only [aK]
  rw [aQ (by omega)]
  exact⟨_,_,rfl,rfl,by simp,fun _=>List.getElem_mem _,(List.drop_sublist _ _).trans (List.take_sublist _ _)⟩
theorem NA{w c:Int}(hw:0<=w/\w<=2)(hc:0<=c/\c<=2):vI w c=some (w * 3+c)/\IV w c=some (w * 3+c):=by
 have e:bG (bG (w * 3)+c)=w * 3+c:=by rw [aO (x:=w * 3) (by omega) (by omega),aO (by omega) (by omega)]
 constructor
 ·unfold vI yN;rw [b8,b8,aZ hw,aZ hc,e];rfl
 ·unfold IV EY;rw [kX,jZ,aZ hw,aZ hc,e];rfl
theorem aDM{l:List aP}{k:Nat}(hk:k < l.length){t:aP}(ht:t.aS.length<=l[k].aS.length):(cS (l.set k t)).length<=(cS l).length:=by
 rw [EH hk,BD hk];simp;omega
noncomputable section
variable {m:Mem} (hm:mI m)
include hm
theorem mI.facts:(c9 m.aC).length<=24/\m.aC.Global.length=3/\m.aC.cL.length=9/\m.aE.Bytes.length=384/\m.aE.Class.length=6/\tT m/\iO m.aC=some m.aC/\kG m.aC=some true /\
  (∀s∈m.aC.Global,s.aS.length<=24)/\(∀s∈m.aC.cL,s.aS.length<=24):=by
 have hl:=hm.1.2
 have hcnt:=hl.count
 have hall:=oO m.aC
 have hsG:∀s∈m.aC.Global,s.aS.length<=24:=fun s h=>by have:=zH h;omega
 have hsO:∀s∈m.aC.cL,s.aS.length<=24:=fun s h=>by have:=zH h;omega
 have h3:=hl.1;have h9:=hl.2.1
 have h1:=hm.1.1.1.1;have h2:=hm.1.1.1.2.1
 refine⟨hcnt,h3,h9,h1,h2,⟨by omega,by omega,by omega,by omega,by omega⟩,LV (by omega) (by omega) (fun s h=>by have:=hsG s h;omega) (fun s h=>by have:=hsO s h;omega),by rw [PJ (by omega),aZ hl],hsG,hsO⟩
theorem aDN{w c:Int}(hw:0<=w/\w<=2)(hc:0<=c/\c<=2) :
  ∃l t x,idx m.aC.cL (w * 3+c)=some l/\rQ l=some (t,x)/\HL m.aC w c=some (⟨m.aC.Global,m.aC.cL.set (w * 3+c).toNat t⟩,x) /\
   tT ⟨m.aE,⟨m.aC.Global,m.aC.cL.set (w * 3+c).toNat t⟩⟩/\(0<=x->0<=aW m.aE x)/\xM m ⟨m.aE,⟨m.aC.Global,m.aC.cL.set (w * 3+c).toNat t⟩⟩ (-1):=by
 obtain⟨hcnt,h3,h9,h1,h2,hsm,hcp,hlo,hsG,hsO⟩:=mI.facts hm
 have hk:(w * 3+c).toNat < m.aC.cL.length:=by omega
 have hx:idx m.aC.cL (w * 3+c)=some m.aC.cL[(w * 3+c).toNat]:=fH (by omega) (by omega)
 have h24:=hsO _ (List.getElem_mem hk)
 obtain⟨t,x,e1,e2,ht,hmem,hsub⟩:=aTJ (s:=m.aC.cL[(w * 3+c).toNat]) (by omega)
 have hall:=oO m.aC
 refine⟨_,t,x,hx,e1,?_,⟨by simp only;omega,by simp only;omega,by simp only;omega,by simp only [List.length_set];omega,?_⟩,fun h0=>?_,mI.aZJ hm (by omega) (by rw [<-dN hk];exact hsub)⟩
 ·unfold HL zZ
  rw [hcp,(NA hw hc).2,hlo]
  simp only [aK,dK,aN,if_false]
  rw [bI (by omega),if_neg (by simp),hx,aK,e2];rfl
 ·have:=aDM hk ht
  rw [oO];simp only;omega
 ·have:=hm.2.2 (w * 3+c).toNat (by omega) x (by rw [<-dN hk];exact hmem h0)
  omega
theorem TS{c:Int}(hc:0<=c/\c<=2) :
  ∃l t x,idx m.aC.Global c=some l/\rQ l=some (t,x)/\z6 m.aC c=some (⟨m.aC.Global.set c.toNat t,m.aC.cL⟩,x) /\
   tT ⟨m.aE,⟨m.aC.Global.set c.toNat t,m.aC.cL⟩⟩/\(0<=x->0<=aW m.aE x)/\xM m ⟨m.aE,⟨m.aC.Global.set c.toNat t,m.aC.cL⟩⟩ (-1):=by
 obtain⟨hcnt,h3,h9,h1,h2,hsm,hcp,hlo,hsG,hsO⟩:=mI.facts hm
 have hk:c.toNat < m.aC.Global.length:=by omega
 have hx:idx m.aC.Global c=some m.aC.Global[c.toNat]:=fH (by omega) (by omega)
 have h24:=hsG _ (List.getElem_mem hk)
 obtain⟨t,x,e1,e2,ht,hmem,hsub⟩:=aTJ (s:=m.aC.Global[c.toNat]) (by omega)
 have hall:=oO m.aC
 refine⟨_,t,x,hx,e1,?_,⟨by simp only;omega,by simp only;omega,by simp only [List.length_set];omega,by simp only;omega,?_⟩,fun h0=>?_,mI.aPH hm (by omega) (by rw [<-dN hk];exact hsub)⟩
 ·unfold z6 rJ
  rw [hcp,hlo,jZ,aZ hc]
  simp only [aK,dK,aN,if_false]
  rw [hx,aK,e2];rfl
 ·have:=aDM hk ht
  rw [oO];simp only;omega
 ·have:=hm.2.1 c.toNat (by omega) x (by rw [<-dN hk];exact hmem h0)
  omega
theorem aWM{w h:Int}(hw:0<=w/\w<=2)(hv:hC m h):∃m',F5 m w (h % 32)=some m'/\NT m w h=some m'/\tT m'/\xM m m' (h % 32):=by
 obtain⟨hcnt,h3,h9,h1,h2,hsm,hcp,hlo,hsG,hsO⟩:=mI.facts hm
 have hs:=hm.1.1.1
 have hh:=hv.1
 have hhm:=hh.mod
 have hcl:=hJ hv.2.1
 have hgo:=FN hcl
 have hc2:0<=aW m.aE (h % 32)/\aW m.aE (h % 32)<=2:=by
  obtain⟨_,q,e⟩:=pR hcl
  rw [e];exact g9.1 (by omega)
 have hg6:1<=h / 32/\h / 32<=6:=by unfold jH at hh;omega
 have hbl:m.aE.Bytes.length<=maxLen:=by rw [h1];simp [maxLen]
 have hnot:h % 32∉c9 m.aC:=fun q=>by
  have:=hv.2.1;unfold dW at this;rw [if_neg (by omega),if_pos q] at this;omega
 have hcpH:=OI (h:=m.aE) (by omega) (by omega)
 have eo:eG (h % 32) (aW m.aE (h % 32))=(((eG (h % 32) (aW m.aE (h % 32))).toNat:Nat):Int):=by omega
 have ew:bG (h / 32+1)=h / 32+1:=aO (by omega) (by omega)
 have ed:bG (Int.tdiv h 32)=h / 32:=by rw [GC (by unfold jH at hh;omega),aO (by omega) (by omega)]
 have hall:=oO m.aC
 obtain⟨hr1,hr2⟩:=mI.a25 hm hv.2.1 (g:=h / 32+1) (by omega)
 have hu:=gU.1 hv.2.1
 unfold F5 NT QD rF
 rw [hhm.1,iW hs,hcpH,DH hbl,aZ hs,lT hs,ed,ew,hcp]
 simp only [aK,dK,aN,if_false,IX,CA,IW]
 rw [oY hs hcl,hv.2.2,eB,bI (show ¬aW m.aE (h % 32) < 0 by omega),aZ (show 1<=h / 32+1/\h / 32+1<=7 by omega)]
 simp only [aK,dK,aN,if_false,tI,zF,ew]
 generalize hgn:(eG (h % 32) (aW m.aE (h % 32))).toNat=a at eo
 rw [hgn] at hr1 hr2
 rw [eo,GX (by omega) (by omega) (by omega),TR (by omega)]
 simp only [aK]
 rw [RN (by omega) (by omega) (by omega)]
 simp only [aK,I6,K6,ed,ew,hhm.1]
 by_cases q:h / 32+1<=6
 ·have hk:(w * 3+aW m.aE (h % 32)).toNat < m.aC.cL.length:=by omega
  have hx:idx m.aC.cL (w * 3+aW m.aE (h % 32))=some m.aC.cL[(w * 3+aW m.aE (h % 32)).toNat]:=fH (by omega) (by omega)
  have hk2:(aW m.aE (h % 32)).toNat < m.aC.Global.length:=by omega
  have hx2:idx m.aC.Global (aW m.aE (h % 32))=some m.aC.Global[(aW m.aE (h % 32)).toNat]:=fH (by omega) (by omega)
  have b1:=hsO _ (List.getElem_mem hk)
  have b2:=hsG _ (List.getElem_mem hk2)
  rw [aZ q,if_pos rfl,if_pos rfl]
  unfold QV W4 wM
  rw [lT hs,aK,hcp,(NA hw hc2).1,(NA hw hc2).2,hlo,v7,aZ (show 0<=h % 32/\h % 32<=23 by omega),RL (by omega) (by simp only [maxLen];omega) (by simp only [maxLen];omega),bI hnot]
  simp only [aK,dK,aN,if_false,hx,hx2]
  have nz:¬w * 3+aW m.aE (h % 32) < 0:=by omega
  simp only [bI nz,aN,if_false]
  by_cases q2:m.aC.cL[(w * 3+aW m.aE (h % 32)).toNat].aS.length < 2
  ·have y1:(m.aC.cL[(w * 3+aW m.aE (h % 32)).toNat].aS.length:Int) < 2:=by omega
   have y2:¬(2:Int)<=m.aC.cL[(w * 3+aW m.aE (h % 32)).toNat].aS.length:=by omega
   simp only [aZ y1,bI y2,aN,if_false,if_true]
   rw [aQ (by simp;omega),aQ (by simp;omega)]
   refine⟨_,rfl,rfl,⟨by simp only [DL];omega,by simp only;omega,by simp only;omega,by simp only [List.length_set];omega,?_⟩,?_⟩
   ·rw [oO];simp only [UI hk];simp;omega
   ·have hmod:((w * 3+aW m.aE (h % 32)).toNat % 3:Nat)=(aW m.aE (h % 32)).toNat:=by omega
    obtain⟨z1,z2⟩:=mI.aWL hr1.1 (k:=(w * 3+aW m.aE (h % 32)).toNat) (by omega) (xs:=[h % 32]) (by simp only [<-dN hk,List.length_cons,List.length_nil];omega) (by simp) (fun x hx=>by
     simp at hx;subst hx
     exact⟨by rw [hmod];show aW m.aE (h % 32)=_;omega,by rw [hr2];omega⟩) (fun x hx=>by simp at hx;subst hx;exact hnot) hk
    refine⟨z1,fun s h1 h2=>?_⟩
    obtain⟨y1,y2,y3⟩:=hr1.2 s h1 h2
    exact⟨z2 s (by simpa using h2) y1,y2,y3⟩
  ·have y1:¬(m.aC.cL[(w * 3+aW m.aE (h % 32)).toNat].aS.length:Int) < 2:=by omega
   have y2:(2:Int)<=m.aC.cL[(w * 3+aW m.aE (h % 32)).toNat].aS.length:=by omega
   simp only [aZ y2,bI y1,aN,if_false,if_true]
   rw [aQ (by simp;omega),aQ (by simp;omega)]
   refine⟨_,rfl,rfl,⟨by simp only [DL];omega,by simp only;omega,by simp only [List.length_set];omega,by simp only;omega,?_⟩,?_⟩
   ·rw [oO];simp only [UI hk2];simp;omega
   ·obtain⟨z1,z2⟩:=mI.aDL hr1.1 (k:=(aW m.aE (h % 32)).toNat) (by omega) (xs:=[h % 32]) (by simp) (fun x hx=>by
     simp at hx;subst hx
     exact⟨by show aW m.aE (h % 32)=_;omega,by rw [hr2];omega⟩) (fun x hx=>by simp at hx;subst hx;exact hnot) hk2
    refine⟨z1,fun s h1 h2=>?_⟩
    obtain⟨y1,y2,y3⟩:=hr1.2 s h1 h2
    exact⟨z2 s (by simpa using h2) y1,y2,y3⟩
 ·rw [bI q,if_neg (by simp),if_neg (by simp)]
  refine⟨_,rfl,rfl,⟨by simp only [DL];omega,by simp only;omega,by simp only;omega,by simp only;omega,by rw [oO];simp only;omega⟩,hr1⟩
end
theorem alloc_eq{b:aA}(hm:mI b.Mem){w:Int}(hw:0<=w/\w<=2)(s:Sub) :
  ∃x y,yT b w s=some (x,y)/\rK s b w=some (y,x)/\∃m',x=⟨m',b.aB,b.aL,b.iS⟩/\tT m'/\xM b.Mem m' (-1):=by
 have hsm:=(mI.facts hm).2.2.2.2.2.1
 have hs:=hm.1.1.1
 obtain⟨c,ec,ei,hcc⟩:=aL7 s.A
 unfold yT rK
 rw [ec,ei]
 simp only [aK]
 by_cases c0:c < 0
 ·simp only [aZ c0,if_true,bO,bH];exact⟨_,_,rfl,rfl,_,rfl,hsm,xM.refl hm _⟩
 have hc:0<=c/\c<=2:=by omega
 simp only [bI c0,aN,if_false]
 have fin:∀(m':Mem) (x:Int),tT m'->xM b.Mem m' (-1)->(0<=x->fV m'.aE/\0<=aW m'.aE x) ->
   ∃X Y,i7 s x ⟨m',b.aB,b.aL,b.iS⟩=some (X,Y)/\iM s x ⟨m',b.aB,b.aL,b.iS⟩=some (Y,X)/\∃m',X=⟨m',b.aB,b.aL,b.iS⟩/\tT m'/\xM b.Mem m' (-1):=by
  intro m' x hs' hst hx
  unfold i7 iM
  simp only [wY,N0,bO,bH]
  by_cases x0:0<=x
  ·obtain⟨h,e1,e2⟩:=aPG (m:=m') (hx x0).1 (hx x0).2
   rw [bI (show ¬x < 0 by omega),aZ x0]
   simp only [aN,if_false,if_true,e1,e2,aK]
   exact⟨_,_,rfl,rfl,m',rfl,hs',hst⟩
  ·rw [aZ (show x < 0 by omega),bI x0]
   by_cases p3:s.Pc=3
   ·simp only [p3,beq_self_eq_true,if_true,aN,if_false,aK];exact⟨_,_,rfl,rfl,m',rfl,hs',hst⟩
   ·have p3':(s.Pc == 3)=false:=by simpa using p3
    simp only [p3',if_true,aN,if_false,aK];exact⟨_,_,rfl,rfl,m',rfl,hs',hst⟩
 by_cases p0:s.Pc=0
 ·obtain⟨l,t,x,e1,e2,e3,h1,h2,h3⟩:=aDN hm hw hc
  simp only [p0,beq_self_eq_true,if_true,(NA hw hc).1,aK,e1,e2,e3]
  exact fin _ x h1 h3 (fun h=>⟨hs,h2 h⟩)
 ·have p0':(s.Pc == 0)=false:=by simpa using p0
  simp only [p0',aN,if_false,wZ,mY]
  obtain⟨l,t,x,e1,e2,e3,h1,h2,h3⟩:=TS hm hc
  by_cases p1:s.Pc=1
  ·simp only [p1,beq_self_eq_true,if_true,aK,e1,e2,e3]
   exact fin _ x h1 h3 (fun h=>⟨hs,h2 h⟩)
  ·have p1':(s.Pc == 1)=false:=by simpa using p1
   simp only [p1',aN,if_false]
   by_cases p3:s.Pc=3
   ·simp only [p3,beq_self_eq_true,if_true,aK,e1,e2,e3]
    exact fin _ x h1 h3 (fun h=>⟨hs,h2 h⟩)
   ·have p3':(s.Pc == 3)=false:=by simpa using p3
    simp only [p3',aN,if_false]
    by_cases p2:s.Pc=2
    ·obtain⟨m',x,e1,e2,h1,h2,h3⟩:=aJ8 hm hc
     simp only [p2,beq_self_eq_true,if_true,aK,e1,e2]
     exact fin m' x h1 h3 h2
    ·have p2':(s.Pc == 2)=false:=by simpa using p2
     simp only [p2',aN,if_false,bO,bH];exact⟨_,_,rfl,rfl,_,rfl,hsm,xM.refl hm _⟩
end Go.Gv
end
noncomputable section
namespace Go.Gv
theorem aN7(r:cZ)(e:Int):∃v,IL r e=some v/\MK r e=some v:=by
 unfold IL MK H8 HO
 by_cases h:2<=e
 ·simp only [aZ h,if_true];exact⟨_,rfl,rfl⟩
 ·simp only [bI h,aN,if_false];exact⟨_,rfl,rfl⟩
theorem aWN{b:aA}{w:Int}{l:aY}(hx:idx b.aL w=some l)(hl:l.Rows.length<=1000)(s:Sub) :
  (xB l.Rows s.Row s.E=some (-1)/\oD s b w=(bH s 0).bind fun x=>some (x,b)) \/
  ∃k,∃h:k < l.Rows.length,xB l.Rows s.Row s.E=some (k:Int)/\oD s b w=some (⟨s.Kind,s.A,2,s.E,(k:Int),0,l.Rows[k].Handle,s.Out,s.Code,s.cO⟩,b):=by
 have key:∀d k,k+d=l.Rows.length ->
   (loop (eN l.Rows s.E) (k:Int)=some (Out.brk ())/\loop (fA s b w) (k:Int)=some (Out.brk ())) \/
   ∃j,∃h:j < l.Rows.length,loop (eN l.Rows s.E) (k:Int)=some (Out.ret (j:Int))/\loop (fA s b w) (k:Int)=some (Out.ret (⟨s.Kind,s.A,2,s.E,(j:Int),0,l.Rows[j].Handle,s.Out,s.Code,s.cO⟩,b)):=by
  intro d
  induction d with
  | zero =>
   intro k hk
   left
   exact⟨bS (by simp only [eN];rw [if_neg (by simp;omega)]),bS (by simp only [fA,hx,aK];rw [if_neg (by simp;omega)])⟩
  | succ d ih =>
   intro k hk
   have hk':k < l.Rows.length:=by omega
   obtain⟨v,e1,e2⟩:=aN7 l.Rows[k] s.E
   cases v with
   | true =>
    right
    refine⟨k,hk',bS ?_,bS ?_⟩
    ·simp only [eN]
     rw [if_pos (by simp;omega),aV hk',aK,e1];rfl
    ·simp only [fA,hx,aK]
     rw [if_pos (by simp;omega),aV hk',aK,e2];rfl
   | false =>
    have n1:eN l.Rows s.E (k:Int)=some (.next ((k+1:Nat):Int)):=by
     simp only [eN]
     rw [if_pos (by simp;omega),aV hk',aK,e1,aK,aO (by omega) (by omega)];rfl
    have n2:fA s b w (k:Int)=some (.next ((k+1:Nat):Int)):=by
     simp only [fA,hx,aK]
     rw [if_pos (by simp;omega),aV hk',aK,e2,aK,aO (by omega) (by omega)];rfl
    rw [bW n1,bW n2]
    exact ih (k+1) (by omega)
 unfold xB oD
 have hst:∃i:Nat,(if 0 < s.Row then s.Row else 0)=(i:Int)/\(if s.Row < 0 then 0 else s.Row)=(i:Int):=by
  refine⟨s.Row.toNat,?_,?_⟩ <;> split <;> omega
 obtain⟨i,i1,i2⟩:=hst
 rw [i1,i2]
 by_cases hi:i<=l.Rows.length
 ·rcases key (l.Rows.length - i) i (by omega) with ⟨a,c⟩ | ⟨j,hj,a,c⟩
  ·left;rw [a,c];exact⟨rfl,rfl⟩
  ·right;rw [a,c];exact⟨j,hj,rfl,rfl⟩
 ·left
  rw [bS (body:=eN l.Rows s.E) (r:=Out.brk ()) (by simp only [eN];rw [if_neg (by simp;omega)]),
   bS (body:=fA s b w) (r:=Out.brk ()) (by simp only [fA,hx,aK];rw [if_neg (by simp;omega)])]
  exact⟨rfl,rfl⟩
theorem del_eq{α:Type}{l:List α}{k:Nat}(h:k < l.length):((dI l k (l.drop (k+1))).take (k+(l.length - (k+1)))).drop 0=l.eraseIdx k:=by
 have h1:(l.take k).length=k:=by rw [List.length_take];omega
 have h2:(l.drop (k+1)).length=l.length - (k+1):=by simp
 unfold dI
 rw [List.drop_zero,List.eraseIdx_eq_take_drop_succ,List.take_of_length_le (l:=l.drop (k+1)) (by rw [h2];omega),<-List.append_assoc]
 rw [show k+(l.length - (k+1))=(l.take k++l.drop (k+1)).length by rw [List.length_append,h1,h2]]
 exact List.take_left
theorem aDO{α:Type}{l:List α}{k:Nat}(h:k < l.length):l.Perm (l[k] :: l.eraseIdx k):=by
 have e:l=l.take k++l[k] :: l.drop (k+1):=by rw [<-List.drop_eq_getElem_cons h,List.take_append_drop]
 rw [List.eraseIdx_eq_take_drop_succ]
 refine(List.Perm.of_eq e).trans ?_
 exact List.perm_middle
theorem oP.drop{b:List aY}(hL:oP b){w:Nat}(hw:w < b.length):∀k (hk:k < b[w].Rows.length),oP (b.set w ⟨b[w].Rows.eraseIdx k⟩)/\∀r∈bC (b.set w ⟨b[w].Rows.eraseIdx k⟩),r∈bC b/\r.Handle % 32≠b[w].Rows[k].Handle % 32:=by
 intro k hk
 have hsub:(bC (b.set w ⟨b[w].Rows.eraseIdx k⟩)).Sublist (bC b):=by
  rw [EG hw,BC hw]
  exact(List.Sublist.refl _).append ((List.eraseIdx_sublist _ _).append (List.Sublist.refl _))
 have hnd:=hL.2.2.2
 refine⟨⟨by simpa using hL.1,Nat.le_trans hsub.length_le hL.2.1,fun r hr=>hL.2.2.1 r (hsub.subset hr),(hsub.map lG).nodup hnd⟩,fun r hr=>⟨hsub.subset hr,?_⟩⟩
 have hp:(bC b).Perm (b[w].Rows[k] :: bC (b.set w ⟨b[w].Rows.eraseIdx k⟩)):=by
  rw [EG hw,BC hw]
  refine List.Perm.trans (List.Perm.append_left _ (List.Perm.append_right _ (aDO hk))) ?_
  exact List.perm_middle
 have:=(hp.map lG).nodup_iff.1 hnd
 rw [List.map_cons,List.nodup_cons] at this
 exact fun e=>this.1 (List.mem_map.2 ⟨r,hr,e⟩)
theorem aL8{b:aA}(hb:lY b){w:Int}(hw:0<=w/\w<=2)(s:Sub) :
  ∃x y,sU b w s=some (x,y)/\oE s b w=some (y,x)/\∃m' L,x=⟨m',b.aB,L,b.iS⟩/\tT m'/\mI m'/\oP L/\∀r∈bC L,hC m' r.Handle/\r.aG<=b.aB.aG:=by
 have hm:=hb.1.1
 have hL:=hb.1.2.2.1
 have hZ:=hb.1.2.2.2
 have hsm:=(mI.facts hm).2.2.2.2.2.1
 have hlen:w.toNat < b.aL.length:=by have:=hL.1;omega
 have hx:idx b.aL w=some b.aL[w.toNat]:=fH hw.1 (by omega)
 have hrow:=hL.small.2.2.2 _ (List.getElem_mem hlen)
 have hmemL:b.aL[w.toNat]∈b.aL:=List.getElem_mem hlen
 have hset:=oP.drop hL hlen
 generalize b.aL[w.toNat]=l at hx hrow hset hmemL
 have done:∀y:Sub,∃x z,(some (b,y):Option (aA×Sub))=some (x,z)/\(some (y,b):Option (Sub×aA))=some (z,x)/\∃m' L,x=⟨m',b.aB,L,b.iS⟩/\tT m'/\mI m'/\oP L/\∀r∈bC L,hC m' r.Handle/\r.aG<=b.aB.aG:=
  fun y=>⟨_,_,rfl,rfl,b.Mem,b.aL,rfl,hsm,hm,hL,hb.2⟩
 have hw1:bG ((l.Rows.length:Int) - 1)=(l.Rows.length:Int) - 1:=aO (by omega) (by omega)
 have hhas:FW b.aL w s.Row=some (decide (0<=s.Row/\s.Row<=(l.Rows.length:Int) - 1)):=by
  unfold FW B9
  rw [kX,aZ hw,aK,if_pos rfl,hx,aK,eB,hw1];rfl
 unfold sU oE
 rw [hhas,hx]
 simp only [aK,bO,b8,hw1]
 have hat:∃a:Bool,(if decide (0<=s.Row/\s.Row<=(l.Rows.length:Int) - 1)=true then (idx l.Rows s.Row).bind fun x15=>fQ s b w (x15.Handle == s.H) else fQ s b w false)=fQ s b w a /\
   (if (!decide (0<=s.Row/\s.Row<=(l.Rows.length:Int) - 1))=true then fD b s true else (idx l.Rows s.Row).bind fun x11=>fD b s (x11.Handle != s.H))=fD b s (!a) /\
   (a=true->∃r,r∈l.Rows/\idx l.Rows s.Row=some r/\r.Handle=s.H/\0<=s.Row/\s.Row < l.Rows.length) /\
   (a=false->∀f:cZ->Option (aA×Sub),(if (!decide (0<=s.Row/\s.Row<=(l.Rows.length:Int) - 1))=true then fE b w s l true else (idx l.Rows s.Row).bind fun x=>if (x.Handle != s.H)=true then fE b w s l true else f x)=fE b w s l true):=by
  by_cases q:0<=s.Row/\s.Row<=(l.Rows.length:Int) - 1
  ·have hr:idx l.Rows s.Row=some (l.Rows[s.Row.toNat]'(by omega)):=fH q.1 (by omega)
   by_cases q2:(l.Rows[s.Row.toNat]'(by omega)).Handle=s.H
   ·refine⟨true,?_,?_,fun _=>⟨_,List.getElem_mem _,hr,q2,q.1,by omega⟩,fun h=>by cases h⟩
    ·rw [aZ q,if_pos rfl,hr,aK,q2,beq_self_eq_true]
    ·rw [aZ q,if_neg (by simp),hr,aK,q2,bne_self_eq_false];rfl
   ·have n1:((l.Rows[s.Row.toNat]'(by omega)).Handle == s.H)=false:=by simpa using q2
    have n2:((l.Rows[s.Row.toNat]'(by omega)).Handle != s.H)=true:=by simpa using q2
    refine⟨false,?_,?_,(fun h=>by cases h),fun _ f=>?_⟩
    ·rw [aZ q,if_pos rfl,hr,aK,n1]
    ·rw [aZ q,if_neg (by simp),hr,aK,n2];rfl
    ·rw [aZ q,if_neg (by simp),hr,aK,n2,if_pos rfl]
  ·refine⟨false,?_,?_,(fun h=>by cases h),fun _ f=>?_⟩
   ·rw [bI q,if_neg (by simp)]
   ·rw [bI q,if_pos (by simp)];rfl
   ·rw [bI q,if_pos (by simp)]
 obtain⟨a,ha1,ha2,ha3,ha4⟩:=hat
 rw [ha1,ha2]
 unfold fQ
 by_cases p0:s.Pc=0
 ·simp only [p0,beq_self_eq_true,if_true];exact done _
 have p0':(s.Pc == 0)=false:=by simpa using p0
 simp only [p0',aN,if_false]
 by_cases p1:s.Pc=1
 ·simp only [p1,beq_self_eq_true,if_true]
  rcases aWN hx (by omega) s with ⟨e1,e2⟩ | ⟨k,hk,e1,e2⟩
  ·rw [e1,e2,aK,if_pos (by simp)];simp only [bH,p1,aK];exact done _
  ·rw [e1,e2,aK,if_neg (by simp),aV hk];simp only [aK];exact done _
 have p1':(s.Pc == 1)=false:=by simpa using p1
 simp only [p1',aN,if_false]
 by_cases p2:s.Pc=2
 ·simp only [p2,beq_self_eq_true,if_true,kX,aK]
  by_cases hB:0<=s.B/\s.B<=2
  ·rw [aZ hB]
   simp only [dK,aN,if_false,if_true]
   cases a with
   | true =>
    have hz:idx b.iS s.B=some (b.iS[s.B.toNat]'(by have:=hZ.1;omega)):=fH hB.1 (by have:=hZ.1;omega)
    simp only [fD,eP,dK,aN,if_false,if_true,hz,aK,rT]
    by_cases q:(b.iS[s.B.toNat]'(by have:=hZ.1;omega))=s.H
    ·simp only [q,beq_self_eq_true,if_true];exact done _
    ·have q':((b.iS[s.B.toNat]'(by have:=hZ.1;omega)) == s.H)=false:=by simpa using q
     simp only [q',aN,if_false]
     by_cases q3:bG (s.B+1)=3
     ·simp only [q3,beq_self_eq_true,if_true];exact done _
     ·have q3':(bG (s.B+1) == 3)=false:=by simpa using q3
      simp only [q3',aN,if_false];exact done _
   | false =>
    simp only [fD,eP,dO,bO,bH,iA,if_true,aN,if_false,p2,show((2:Int) == 3)=false from rfl,aK]
    exact done _
  ·rw [bI hB]
   simp only [fD,eP,dO,bO,bH,iA,if_true,aN,if_false,p2,show((2:Int) == 3)=false from rfl,aK]
   exact done _
 have p2':(s.Pc == 2)=false:=by simpa using p2
 simp only [p2',aN,if_false,eP]
 by_cases p3:s.Pc=3
 ·simp only [p3,beq_self_eq_true,if_true]
  cases a with
  | false =>
   rw [ha4 rfl]
   simp only [fE,dO,bO,bH,if_true,aN,if_false,aK]
   exact done _
  | true =>
   obtain⟨r,hrm,hr,hrH,r0,r1⟩:=ha3 rfl
   obtain⟨v,e1,e2⟩:=aN7 r s.E
   rw [aZ (show 0<=s.Row/\s.Row<=(l.Rows.length:Int) - 1 by omega)]
   simp only [dK,aN,if_false,if_true,hr,aK,hrH,bne_self_eq_false,hx,e1,e2]
   cases v with
   | false =>
    simp only [fE,dO,bO,bH,iA,if_true,aN,if_false,aK]
    exact done _
   | true =>
    have hlive:hC b.Mem s.H:=by
     have:r∈bC b.aL:=List.mem_flatMap.2 ⟨l,hmemL,hrm⟩
     have:=(hb.2 r this).1
     rwa [hrH] at this
    obtain⟨m',f1,f2,f3,f4⟩:=aWM hm hw hlive
    have ew:bG (s.Row+1)=s.Row+1:=aO (by omega) (by omega)
    have hdrop:HP b.aL w s.Row=some (b.aL.set w.toNat ⟨((dI l.Rows s.Row.toNat (l.Rows.drop (s.Row+1).toNat)).take (s.Row.toNat+(l.Rows.length - (s.Row+1).toNat))).drop 0⟩,true):=by
     unfold HP z7
     rw [LW hL.small.2.2.1 (fun s h=>by have:=hL.small.2.2.2 s h;omega),AL hL.small.1,aZ hL,hhas,aZ (show 0<=s.Row/\s.Row<=(l.Rows.length:Int) - 1 by omega)]
     simp only [aK,dK,aN,if_false,hx,ew]
     unfold AT
     rw [aQ (by omega),if_neg (by simp;omega),aQ (by omega),aQ (by omega),aQ (by omega),aQ]
     ·rfl
     ·rw [eW (by omega)]
      simp only [List.drop_zero,List.length_take,eW (show s.Row.toNat<=l.Rows.length by omega)]
      omega
    simp only [fE,dO,AW,ew,dK,aN,if_false,if_true]
    rw [aQ (by omega),aQ (by omega),aQ (by omega),cV,if_pos hlive.1,aK,f1,f2,hdrop]
    have hk:s.Row.toNat < l.Rows.length:=by omega
    have eL:((dI l.Rows s.Row.toNat (l.Rows.drop (s.Row+1).toNat)).take (s.Row.toNat+(l.Rows.length - (s.Row+1).toNat))).drop 0=l.Rows.eraseIdx s.Row.toNat:=by
     rw [show(s.Row+1).toNat=s.Row.toNat+1 by omega];exact del_eq hk
    have er:l.Rows[s.Row.toNat]=r:=by
     have:=aV hk
     rw [show((s.Row.toNat:Nat):Int)=s.Row by omega,hr] at this
     exact(Option.some.inj this).symm
    rw [eL] at hdrop ⊢
    obtain⟨g1,g2⟩:=hset s.Row.toNat hk
    refine⟨_,_,rfl,rfl,m',_,rfl,f3,f4.1,g1,fun q hq=>?_⟩
    obtain⟨g3,g4⟩:=g2 q hq
    obtain⟨g5,g6⟩:=hb.2 q g3
    refine⟨f4.live g5 fun e=>?_,g6⟩
    rw [er,hrH] at g4
    exact g4 e
 ·have p3':(s.Pc == 3)=false:=by simpa using p3
  simp only [p3',aN,if_false,dO,bH,aK]
  exact done _
end Go.Gv
end
noncomputable section
namespace Go.Gv
theorem OH.fits{b:aA}(h:OH b):b.Mem.aE.Bytes.length<=maxLen/\(c9 b.Mem.aC).length<=1073741824/\b.aB.cG.length<=maxLen/\b.aL.length<=maxLen/\(bC b.aL).length<=1073741824/\b.iS.length<=maxLen:=by
 have hb:(1048576:Nat)<=maxLen:=by simp [maxLen]
 have g1:=h.1.1;have g2:=h.1.2.2.2.2;have g3:=h.2.1;have g4:=h.2.2.1;have g5:=h.2.2.2.1;have g6:=h.2.2.2.2
 exact⟨by omega,by omega,by omega,by omega,by omega,by omega⟩
theorem step_eq{b:aA}(hb:lY b)(hs:OH b){w:Int}(hw:0<=w/\w<=2)(s:Sub) :
  ∃x y,vQ b w s=some (x,y)/\kJ s b w=some (y,x)/\lY x:=by
 have hz:=hb.1.2.2.2.1
 have hl:=hb.1.2.2.1
 unfold vQ kJ
 cases hd:s.cO with
 | true=>exact⟨_,_,rfl,rfl,hb⟩
 | false =>
  simp only [aN,if_false]
  by_cases k1:s.Kind=1
  ·obtain⟨x,y,e1,e2,m,rfl,h1,h2⟩:=alloc_eq hb.1.1 hw s
   simp only [k1,beq_self_eq_true,if_true,e1,e2,aK]
   exact⟨_,_,rfl,rfl,⟨h2.1,hb.1.2⟩,fun r hr=>⟨h2.live (hb.2 r hr).1 (by have:=(hb.2 r hr).1.1;unfold jH at this;omega),(hb.2 r hr).2⟩⟩
  have k1':(s.Kind == 1)=false:=by simpa using k1
  simp only [k1',aN,if_false]
  by_cases k2:s.Kind=2
  ·obtain⟨x,y,e1,e2,L,rfl,h1,h2⟩:=aPD hb hs hw s
   simp only [k2,beq_self_eq_true,if_true,e1,e2,aK]
   exact⟨_,_,rfl,rfl,⟨hb.1.1,hb.1.2.1,h1,hb.1.2.2.2⟩,h2⟩
  have k2':(s.Kind == 2)=false:=by simpa using k2
  simp only [k2',aN,if_false]
  by_cases k3:s.Kind=3
  ·obtain⟨x,y,e1,e2,c,rfl,h1,h2⟩:=aL3 hb.1.2.1 s
   simp only [k3,beq_self_eq_true,if_true,e1,e2,aK]
   exact⟨_,_,rfl,rfl,⟨hb.1.1,h1,hb.1.2.2⟩,fun r hr=>⟨(hb.2 r hr).1,Int.le_trans (hb.2 r hr).2 h2⟩⟩
  have k3':(s.Kind == 3)=false:=by simpa using k3
  simp only [k3',aN,if_false]
  by_cases k4:s.Kind=4
  ·obtain⟨x,y,e1,e2,m,L,rfl,h1,h2,h3,h4⟩:=aL8 hb hw s
   simp only [k4,beq_self_eq_true,if_true,e1,e2,aK]
   exact⟨_,_,rfl,rfl,⟨h2,hb.1.2.1,h3,hb.1.2.2.2⟩,h4⟩
  have k4':(s.Kind == 4)=false:=by simpa using k4
  simp only [k4',aN,if_false]
  by_cases k5:s.Kind=5
  ·obtain⟨x,y,e1,e2,c,rfl,h1,h2⟩:=aZI hb.1.2.1 hw s
   simp only [k5,beq_self_eq_true,if_true,e1,e2,aK]
   exact⟨_,_,rfl,rfl,⟨hb.1.1,h1,hb.1.2.2⟩,fun r hr=>⟨(hb.2 r hr).1,Int.le_trans (hb.2 r hr).2 h2⟩⟩
  have k5':(s.Kind == 5)=false:=by simpa using k5
  simp only [k5',aN,if_false,bO,bH,aK]
  exact⟨_,_,rfl,rfl,hb⟩
theorem lY.small{b:aA}(hb:lY b):OH b:=by
 have h1:=hb.1.2.1.2.1;have h2:=hb.1.2.2.1.1;have h3:=hb.1.2.2.1.2.1;have h4:=hb.1.2.2.2.1
 exact⟨(mI.facts hb.1.1).2.2.2.2.2.1,by omega,by omega,by omega,by omega⟩
end Go.Gv
end
noncomputable section
namespace Go.Gv
theorem V4{b:List Int}{a:Nat}{n:Int}(h:a+4<=b.length){j:Nat}(hj:j < a\/a+4<=j):bt (EI b a n) j=bt b j:=by
 unfold EI
 rw [A0 (by simp;omega),A0 (by simp;omega),A0 (by simp;omega),A0 (by omega),if_neg (by omega),if_neg (by omega),if_neg (by omega),if_neg (by omega)]
theorem TL.put{h:aE}(hh:TL h){s:Int}(hc:0<=aW h s){n:Int}(hn:0<=n/\n<=4294967295) :
  TL ⟨EI h.Bytes ((eG s (aW h s)).toNat+4) n,h.Class⟩/\∀t,0<=aW h t->iG ⟨EI h.Bytes ((eG s (aW h s)).toNat+4) n,h.Class⟩ t=iG h t:=by
 obtain⟨hs,hp⟩:=hh
 have h384:=hs.1
 have hs':fV ⟨EI h.Bytes ((eG s (aW h s)).toNat+4) n,h.Class⟩:=⟨by rw [M9];exact hs.1,hs.2.1,aPE hs.2.2.1 _ hn,hs.2.2.2⟩
 obtain⟨p,i,p6,hi,es,ec,eo,ep⟩:=sZ hc
 have hcl:0<=bV h p/\bV h p<=2:=g9.1 (by omega)
 have hroom:8+i * (aT (bV h p)).toNat+8<=64/\∀j,j < (bY (bV h p)).toNat->j * (aT (bV h p)).toNat+4<=i * (aT (bV h p)).toNat+4\/i * (aT (bV h p)).toNat+12<=j * (aT (bV h p)).toNat:=by
  generalize bV h p=c at hi hcl
  rcases fU hcl with rfl | rfl | rfl
  ·rw [show(bY 0).toNat=4 from rfl] at *;rw [show(aT 0).toNat=12 from rfl]
   exact⟨by omega,fun j hj=>by omega⟩
  ·rw [show(bY 1).toNat=2 from rfl] at *;rw [show(aT 1).toNat=20 from rfl]
   exact⟨by omega,fun j hj=>by omega⟩
  ·rw [show(bY 2).toNat=1 from rfl] at *;rw [show(aT 2).toNat=44 from rfl]
   exact⟨by omega,fun j hj=>by omega⟩
 have hgen:∀q j,q < 6->j < (bY (bV h q)).toNat->ld (EI h.Bytes ((eG s (aW h s)).toNat+4) n) (q * 64+8+j * (aT (bV h q)).toNat) 4=ld h.Bytes (q * 64+8+j * (aT (bV h q)).toNat) 4:=fun q j hq hj=>by
  have hz:=tJ hs hq rfl hj
  refine IE (by omega) (by simp only [M9]) fun k k1 k2=>?_
  by_cases e:q=p
  ·subst e
   have:=hroom.2 j hj
   exact V4 (by omega) (by omega)
  ·exact V4 (by omega) (by omega)
 refine⟨⟨hs',fun q hq=>?_⟩,fun t ht=>?_⟩
 ·rw [JQ hs' hq]
  have hold:=(JQ hs hq).1 (hp q hq)
  by_cases e:q=p
  ·subst e
   have hcl':¬bV h q < 0:=by omega
   unfold XV at hold ⊢
   have hcc:bV ⟨EI h.Bytes ((eG s (aW h s)).toNat+4) n,h.Class⟩ q=bV h q:=rfl
   rw [hcc]
   rw [if_neg hcl'] at hold ⊢
   obtain⟨⟨a1,a2,a3⟩,a4,a5⟩:=hold
   have bs:∀k,k < 8->bt (EI h.Bytes ((eG s (aW h s)).toNat+4) n) (q * 64+k)=bt h.Bytes (q * 64+k):=fun k hk=>V4 (by omega) (by omega)
   have b0:=bs 0 (by omega);have b1:=bs 1 (by omega);have b2:=bs 2 (by omega)
   simp only [Nat.add_zero] at b0
   refine⟨⟨by rw [b0];exact a1,by rw [b1];exact a2,by rw [b2];exact a3⟩,fun k k3 k8=>by rw [bs k k8];exact a4 k k3 k8,fun j hj=>?_⟩
   rw [hgen q j hq hj];exact a5 j hj
  ·refine XV.same hq hs (by simp only [M9]) rfl (fun k hk=>V4 (by omega) (by omega)) hold
 ·obtain⟨p',i',p6',hi',es',ec',eo',ep'⟩:=sZ ht
  have e2:aW ⟨EI h.Bytes ((eG s (aW h s)).toNat+4) n,h.Class⟩ t=aW h t:=rfl
  unfold iG
  rw [e2,eo']
  exact hgen p' i' p6' hi'
theorem mI.put{m:Mem}(hm:mI m){s:Int}(hc:0<=aW m.aE s){n:Int}(hn:0<=n/\n<=4294967295):xM m ⟨⟨EI m.aE.Bytes ((eG s (aW m.aE s)).toNat+4) n,m.aE.Class⟩,m.aC⟩ (-1):=by
 obtain⟨a,b⟩:=TL.put hm.1.1 hc hn
 refine⟨mI.heap hm a fun x hx=>⟨rfl,b x (mI.oZ hm hx).1⟩,fun t ht _=>?_⟩
 have ht':=gU.1 ht
 have e:=b t ht'.1
 exact⟨gU.2 ⟨ht'.1,ht'.2.1,by simp only [e];exact ht'.2.2⟩,e,rfl⟩
theorem start_eq{h:aE}(hs:fV h){s:Int}(hc:0<=aW h s):H6 s (aW h s)=some (eG s (aW h s)+4)/\HQ s (aW h s)=some (eG s (aW h s)+4):=by
 have hg:=FN hc
 unfold H6 HQ
 rw [tI,zF,aK,if_neg (by simp;omega),aO (by omega) (by omega)]
 exact⟨rfl,rfl⟩
theorem aDP{h:aE}(hs:fV h){s:Int}(hc:0<=aW h s):wO h s 0 4=some (eG s (aW h s)+4):=by
 have hg:=FN hc
 have hc2:0<=aW h s/\aW h s<=2:=by
  obtain⟨_,q,e⟩:=pR hc
  rw [e];exact g9.1 (by omega)
 have hz:8<=gR (aW h s)/\gR (aW h s)<=40:=by rcases fU hc2 with e | e | e <;> rw [e] <;> decide
 unfold wO NV
 rw [lT hs,aK,(start_eq hs hc).2,aK,if_neg (by simp;omega),RC]
 simp only [aK,eB]
 rw [aO (x:=eG s (aW h s)+4+gR (aW h s)) (by omega) (by omega),aO (x:=eG s (aW h s)+4+gR (aW h s) - (eG s (aW h s)+4)) (by omega) (by omega),aO (x:=eG s (aW h s)+4+gR (aW h s) - (eG s (aW h s)+4) - 4) (by omega) (by omega),aZ (by omega),aO (by omega) (by omega)]
 simp
theorem YL{n:Int}(hn:0<=n/\n<=65535):∃t:List UInt8,NZ n 4=some t/\(t == [])=false:=by
 have st:∀(m:Int) (c:List UInt8) (i:Nat),c.length<=4->i < 4->0<=m->m<=4294967295->E8 4 (m,c,(i:Int))=some (.next (m / 256,[u8 (m % 256)]++c,((i+1:Nat):Int))):=fun m c i hc hi h0 h1=>by
  simp only [E8]
  rw [if_pos (by simp;omega),aQ (by simp;omega),v5 h0,GC h0,aO (x:=m / 256) (by omega) (by omega),aO (by omega) (by omega)];rfl
 unfold NZ
 rw [b8]
 simp only [aK,show(decide ((1:Int)<=4/\(4:Int)<=7))=true from rfl,dK,aN,if_false,LA,bI (show ¬n < 0 by omega)]
 rw [show(0:Int)=((0:Nat):Int) from rfl,bW (st n [] 0 (by simp) (by omega) hn.1 (by omega)),bW (st _ _ 1 (by simp) (by omega) (by omega) (by omega)),bW (st _ _ 2 (by simp) (by omega) (by omega) (by omega)),bW (st _ _ 3 (by simp) (by omega) (by omega) (by omega)),bS (by simp only [E8];rw [if_neg (by simp)])]
 simp only [aK,S6,S5]
 rw [if_neg (by simp;omega)]
 exact⟨_,rfl,rfl⟩
theorem aL9{m:Mem}(hm:mI m){h n:Int}(hn:0<=n/\n<=65535):∃x c,CU m h 0 4 n=some (x,c)/\HR m h 0 4 n=some (x,c)/\xM m x (-1)/\(c≠0->x=m):=by
 obtain⟨hcnt,h3,h9,h1,h2,hsm,hcp,hlo,hsG,hsO⟩:=mI.facts hm
 have hs:=hm.1.1.1
 have hbl:m.aE.Bytes.length<=maxLen:=by rw [h1];simp [maxLen]
 have hall:(c9 m.aC).length<=1073741824:=by omega
 have hg:m.aC.Global.length<=maxLen:=by rw [h3];simp [maxLen]
 have ho:m.aC.cL.length<=maxLen:=by rw [h9];simp [maxLen]
 have hw4:kI 4=some true:=by unfold kI;rw [eB];rfl
 unfold CU HR QP QE
 rw [YJ hsm,YK hsm,LS hbl hall,TO hbl hall,aZ hm,b8,hw4,aDG ⟨hn.1,by omega⟩]
 simp only [aK,dK,aN,if_false,CT,CB,show(decide ((1:Int)<=4/\(4:Int)<=7))=true from rfl,nU hs hall hg ho,JM hs hall hg ho]
 by_cases hv:hC m h
 ·have hh:=hv.1
  have hcl:=hJ hv.2.1
  have hgo:=FN hcl
  have hc2:0<=aW m.aE (h % 32)/\aW m.aE (h % 32)<=2:=by
   obtain⟨_,q,e⟩:=pR hcl
   rw [e];exact g9.1 (by omega)
  have hz:8<=gR (aW m.aE (h % 32))/\gR (aW m.aE (h % 32))<=40:=by rcases fU hc2 with e | e | e <;> rw [e] <;> decide
  obtain⟨p,i,p6,hi,es,ec,eo,ep⟩:=sZ hcl
  have hroom:(eG (h % 32) (aW m.aE (h % 32))).toNat+8<=384:=by
   rw [eo]
   have hcl':0<=bV m.aE p/\bV m.aE p<=2:=by rw [<-ec];exact hc2
   generalize bV m.aE p=c at hi hcl'
   rcases fU hcl' with rfl | rfl | rfl
   ·rw [show(bY 0).toNat=4 from rfl] at hi;rw [show(aT 0).toNat=12 from rfl];omega
   ·rw [show(bY 1).toNat=2 from rfl] at hi;rw [show(aT 1).toNat=20 from rfl];omega
   ·rw [show(bY 2).toNat=1 from rfl] at hi;rw [show(aT 2).toNat=44 from rfl];omega
  simp only [aZ hv,dK,aN,if_false,cV,if_pos hh,aK,iW hs,qR,b8,hh.mod.1,aDP hs hcl]
  rw [aO (x:=gR (aW m.aE (h % 32)) - 1) (by omega) (by omega),aZ (show(0:Int)<=0/\(0:Int)<=gR (aW m.aE (h % 32)) - 1 by omega),aO (x:=gR (aW m.aE (h % 32)) - 0) (by omega) (by omega),bI (show ¬gR (aW m.aE (h % 32)) - 0 < 4 by omega)]
  simp only [dK,aN,if_false,CS,(start_eq hs hcl).1,aK]
  rw [aO (x:=eG (h % 32) (aW m.aE (h % 32))+4+0) (by omega) (by omega),Int.add_zero,bI (show ¬eG (h % 32) (aW m.aE (h % 32))+4 < 0 by omega)]
  have eo':eG (h % 32) (aW m.aE (h % 32))+4=(((eG (h % 32) (aW m.aE (h % 32))).toNat+4:Nat):Int):=by omega
  have hput:=mI.put hm hcl (n:=n) ⟨hn.1,by omega⟩
  have hspf:∃t:List UInt8,NZ n 4=some t/\(t == [])=false:=YL hn
  obtain⟨t,ht1,ht2⟩:=hspf
  have hld:l7 m.aE.Bytes (((eG (h % 32) (aW m.aE (h % 32))).toNat+4:Nat):Int) 4=some (ld m.aE.Bytes ((eG (h % 32) (aW m.aE (h % 32))).toNat+4) 4):=AK hs.2.2.1 (w:=4) (by omega) (by omega) (by omega)
  rw [eo',hld]
  simp only [aK,aN,if_false,bne_self_eq_false,ht1,ht2,show(TQ n == [])=false from rfl]
  rw [XU (by omega) (by omega) ⟨hn.1,by omega⟩,aDH (by omega) (by omega) ⟨hn.1,by omega⟩]
  exact⟨_,_,rfl,rfl,hput,fun q=>absurd rfl q⟩
 ·simp only [bI hv,iA,if_true,aK,show((4:Int) != 0)=true from rfl]
  exact⟨_,_,rfl,rfl,xM.refl hm _,fun _=>rfl⟩
theorem aMA{b:aA}(hm:mI b.Mem)(h:Int):∃r,KR b.Mem.aE h 0 4=some r/\HT b h 0 4=some r:=by
 have hs:=hm.1.1.1
 have h1:=hs.1
 have hbl:b.Mem.aE.Bytes.length<=maxLen:=by rw [h1];simp [maxLen]
 have hw4:kI 4=some true:=by unfold kI;rw [eB];rfl
 unfold KR HT rF
 rw [eJ,jD,b8,hw4,DH hbl,aZ hs]
 simp only [aK,C7,sH,show(decide ((1:Int)<=4/\(4:Int)<=7))=true from rfl,dK,aN,if_false]
 by_cases hh:jH h
 ·simp only [aZ hh,dK,aN,if_false,cV,if_pos hh,aK,iW hs,lT hs,hh.mod.1]
  by_cases hcl:aW b.Mem.aE (h % 32) < 0
  ·simp only [aZ hcl,if_true,mT];exact⟨_,rfl,rfl⟩
  ·have hcl':0<=aW b.Mem.aE (h % 32):=by omega
   have hgo:=FN hcl'
   have hc2:0<=aW b.Mem.aE (h % 32)/\aW b.Mem.aE (h % 32)<=2:=by
    obtain⟨_,q,e⟩:=pR hcl'
    rw [e];exact g9.1 (by omega)
   have hz:8<=gR (aW b.Mem.aE (h % 32))/\gR (aW b.Mem.aE (h % 32))<=40:=by rcases fU hc2 with e | e | e <;> rw [e] <;> decide
   obtain⟨p,i,p6,hi,es,ec,eo,ep⟩:=sZ hcl'
   have hroom:(eG (h % 32) (aW b.Mem.aE (h % 32))).toNat+8<=384:=by
    rw [eo]
    have hcl'':0<=bV b.Mem.aE p/\bV b.Mem.aE p<=2:=by rw [<-ec];exact hc2
    generalize bV b.Mem.aE p=c at hi hcl''
    rcases fU hcl'' with rfl | rfl | rfl
    ·rw [show(bY 0).toNat=4 from rfl] at hi;rw [show(aT 0).toNat=12 from rfl];omega
    ·rw [show(bY 1).toNat=2 from rfl] at hi;rw [show(aT 1).toNat=20 from rfl];omega
    ·rw [show(bY 2).toNat=1 from rfl] at hi;rw [show(aT 2).toNat=44 from rfl];omega
   simp only [bI hcl,aN,if_false,qR,b8,aK,aDP hs hcl']
   rw [aO (x:=gR (aW b.Mem.aE (h % 32)) - 1) (by omega) (by omega),aZ (show(0:Int)<=0/\(0:Int)<=gR (aW b.Mem.aE (h % 32)) - 1 by omega),aO (x:=gR (aW b.Mem.aE (h % 32)) - 0) (by omega) (by omega),bI (show ¬gR (aW b.Mem.aE (h % 32)) - 0 < 4 by omega)]
   simp only [dK,aN,if_false,mT,cV,if_pos hh,(start_eq hs hcl').1,aK]
   rw [aO (x:=eG (h % 32) (aW b.Mem.aE (h % 32))+4+0) (by omega) (by omega),Int.add_zero,bI (show ¬eG (h % 32) (aW b.Mem.aE (h % 32))+4 < 0 by omega)]
   have eo':eG (h % 32) (aW b.Mem.aE (h % 32))+4=(((eG (h % 32) (aW b.Mem.aE (h % 32))).toNat+4:Nat):Int):=by omega
   have hld:l7 b.Mem.aE.Bytes (((eG (h % 32) (aW b.Mem.aE (h % 32))).toNat+4:Nat):Int) 4=some (ld b.Mem.aE.Bytes ((eG (h % 32) (aW b.Mem.aE (h % 32))).toNat+4) 4):=AK hs.2.2.1 (w:=4) (by omega) (by omega) (by omega)
   have hls:vC b.Mem.aE.Bytes (((eG (h % 32) (aW b.Mem.aE (h % 32))).toNat+4:Nat):Int) 4=some (ld b.Mem.aE.Bytes ((eG (h % 32) (aW b.Mem.aE (h % 32))).toNat+4) 4):=DF hs.2.2.1 (w:=4) (by omega) (by omega) (by omega)
   rw [eo',hld,hls]
   exact⟨_,rfl,rfl⟩
 ·simp only [bI hh,iA,if_true];exact⟨_,rfl,rfl⟩
end Go.Gv
end
noncomputable section
namespace Go.Gv
theorem aJ9{l:List dB}(hl:l.length<=maxLen)(f:dB->Bool)(g:dB->Option Bool)(hg:∀x∈l,g x=some (f x)):l6 l g=some (l.any f):=by
 obtain⟨o,e,h⟩:=JL l f (body:=l5 l g) (fun k hk=>by
  simp only [l5]
  rw [if_pos (by simp;omega),aV hk,iT (m9 hk hl)]
  simp only [aK,hg _ (List.getElem_mem hk)]) (by simp [l5])
 unfold l6 xO
 rw [e]
 cases o with
 | brk u=>simp only at h;simp [rC,BS,h]
 | ret r=>simp only at h;simp [rC,h]
theorem RQ{l:List Queue}(hl:l.length<=maxLen)(f:Queue->Bool)(g:Queue->Option Bool)(hg:∀x∈l,g x=some (f x)):iH l g=some (l.any f):=by
 obtain⟨o,e,h⟩:=JL l f (body:=j5 l g) (fun k hk=>by
  simp only [j5]
  rw [if_pos (by simp;omega),aV hk,iT (m9 hk hl)]
  simp only [aK,hg _ (List.getElem_mem hk)]) (by simp [j5])
 unfold iH rB
 rw [e]
 cases o with
 | brk u=>simp only at h;simp [nC,xI,h]
 | ret r=>simp only at h;simp [nC,h]
theorem V5{l:List bA}(hl:l.length<=maxLen)(f:bA->Bool)(g:bA->Option Bool)(hg:∀x∈l,g x=some (f x)):i6 l g=some (l.any f):=by
 obtain⟨o,e,h⟩:=JL l f (body:=lC l g) (fun k hk=>by
  simp only [lC]
  rw [if_pos (by simp;omega),aV hk,iT (m9 hk hl)]
  simp only [aK,hg _ (List.getElem_mem hk)]) (by simp [lC])
 unfold i6 uU
 rw [e]
 cases o with
 | brk u=>simp only at h;simp [p8,A9,h]
 | ret r=>simp only at h;simp [p8,h]
def DN(k:Int):Prop:=k=1\/k=2\/k=3\/k=7
instance (k:Int):Decidable (DN k):=by unfold DN;infer_instance
def lH(o:dB):Prop:=(1<=o.Kind/\o.Kind<=7)/\(DN o.Kind\/o.Cell=0)/\(0<=o.Cell/\o.Cell<=1)/\if o.Kind=1 then (0<=o.gX/\o.gX<=100)/\0<=o.dV/\o.dV<=65535 else o.gX=0/\o.dV=0
instance (o:dB):Decidable (lH o):=by unfold lH;infer_instance
theorem hb0(x:Int):(x == 0)=decide (x=0):=by rw [Bool.eq_iff_iff];simp
theorem aMB:DN 1:=.inl rfl
theorem aGX(k:Int):vK k=some (decide (DN k)):=by
 unfold vK lF DN
 by_cases h1:k=1
 ·simp [h1]
 ·by_cases h2:k=2
  ·simp [h2]
  ·by_cases h3:k=3
   ·simp [h3]
   ·by_cases h7:k=7
    ·simp [h7]
    ·simp [h1,h2,h3,h7]
theorem V6(o:dB):IK o=some (decide (lH o)):=by
 unfold IK CP H4 H5 lH
 rw [b8,aGX,b8,b8,b8]
 by_cases h1:1<=o.Kind/\o.Kind<=7
 ·by_cases h2:DN o.Kind
  ·by_cases h3:0<=o.Cell/\o.Cell<=1
   ·by_cases h4:o.Kind=1
    ·by_cases h5:0<=o.gX/\o.gX<=100 <;> simp [h1,h2,h3,h4,h5,aMB] <;> exact hb0 _
    ·by_cases h5:o.gX=0 <;> simp [h1,h2,h3,h4,h5,aMB] <;> exact hb0 _
   ·simp [h1,h2,h3]
  ·by_cases h0:o.Cell=0
   ·by_cases h4:o.Kind=1
    ·exact absurd (.inl h4) h2
    ·by_cases h5:o.gX=0 <;> simp [h1,h2,h0,h4,h5,aMB] <;> exact hb0 _
   ·simp [h1,h2,h0]
 ·simp [h1]
theorem V7(o:dB):IJ o=some (decide (lH o)):=by
 have key:∀x,nX o x=if 1<=o.Kind/\o.Kind<=7 then (if x then some (decide ((0<=o.Cell/\o.Cell<=1)/\if o.Kind=1 then (0<=o.gX/\o.gX<=100)/\0<=o.dV/\o.dV<=65535 else o.gX=0/\o.dV=0):Bool) else some (decide (o.Cell=0/\if o.Kind=1 then (0<=o.gX/\o.gX<=100)/\0<=o.dV/\o.dV<=65535 else o.gX=0/\o.dV=0))) else some false:=fun x=>by
  unfold nX BT HD HE
  rw [eB,eB,eB,eB]
  by_cases h1:1<=o.Kind/\o.Kind<=7
  ·cases x
   ·by_cases h0:o.Cell=0
    ·by_cases h4:o.Kind=1
     ·by_cases h5:0<=o.gX/\o.gX<=100 <;> simp [h1,h0,h4,h5,aMB] <;> exact hb0 _
     ·by_cases h5:o.gX=0 <;> simp [h1,h0,h4,h5,aMB] <;> exact hb0 _
    ·simp [h1,h0]
   ·by_cases h3:0<=o.Cell/\o.Cell<=1
    ·by_cases h4:o.Kind=1
     ·by_cases h5:0<=o.gX/\o.gX<=100 <;> simp [h1,h3,h4,h5,aMB] <;> exact hb0 _
     ·by_cases h5:o.gX=0 <;> simp [h1,h3,h4,h5,aMB] <;> exact hb0 _
    ·simp [h1,h3]
  ·simp [h1]
 have key2:IJ o=nX o (decide (DN o.Kind)):=by
  unfold IJ DN
  by_cases h1:o.Kind=1
  ·simp [h1]
  ·by_cases h2:o.Kind=2
   ·simp [h2]
   ·by_cases h3:o.Kind=3
    ·simp [h3]
    ·have h7:(o.Kind == 7)=decide (o.Kind=1\/o.Kind=2\/o.Kind=3\/o.Kind=7):=by rw [Bool.eq_iff_iff];simp [h1,h2,h3]
     rw [if_neg (by simpa using h1),if_neg (by simpa using h2),if_neg (by simpa using h3),h7]
 rw [key2,key]
 unfold lH
 by_cases h1:1<=o.Kind/\o.Kind<=7
 ·by_cases h2:DN o.Kind
  ·simp only [h1,h2,and_self,decide_true,if_true,true_or,true_and]
  ·by_cases h0:o.Cell=0
   ·simp [h1,h2,h0]
   ·simp [h1,h2,h0]
 ·simp [h1]
theorem V8(h:Int):iV h=some (decide (cW h)):=by
 unfold iV AE cW
 rw [eJ]
 by_cases q:h=0 <;> simp [q]
theorem OK(h:Int):qX h=some (decide (cW h)):=by
 unfold qX uR cW
 rw [jD]
 by_cases q:h=0 <;> simp [q]
def aKA(l:List dB):Prop:=∀o∈l,lH o
instance (l:List dB):Decidable (aKA l):=by unfold aKA;infer_instance
def QOk(q:Queue):Prop:=q.iC.length<=12/\aKA q.iC
instance (q:Queue):Decidable (QOk q):=by unfold QOk;infer_instance
def JS(l:List Queue):Prop:=l.length=3/\∀q∈l,QOk q
instance (l:List Queue):Decidable (JS l):=by unfold JS;infer_instance
theorem V9{l:List Queue}(hl:l.length<=maxLen):CQ l=some (decide (JS l)):=by
 unfold CQ
 have inner:∀k (hk:k < l.length),l[k].iC.length<=12->loop (nM l (k:Int)) 0=some (if aKA l[k].iC then Out.brk () else Out.ret false):=by
  intro k hk h12
  have hb:∀j (hj:j < l[k].iC.length),nM l (k:Int) (j:Int)=if lH l[k].iC[j] then some (.next ((j+1:Nat):Int)) else some (.stop (Out.ret false)):=by
   intro j hj
   simp only [nM]
   rw [aV hk,aK,if_pos (by simp;omega),aK,aV hj,aK,V6,aK,aO (by omega) (by omega)]
   by_cases q:lH l[k].iC[j] <;> simp [q]
  have:=jB (f:=nM l (k:Int)) l[k].iC (fun j=>(j:Int)) lH (Out.brk ()) (Out.ret false) (fun j hj hp=>by rw [hb j hj,if_pos hp]) (fun j hj hp=>by rw [hb j hj,if_neg hp]) (by
   simp only [nM]
   rw [aV hk,aK,if_neg (by simp)])
  refine Eq.trans this ?_
  congr 1
 have hs:∀k (hk:k < l.length),nN l (k:Int)=if QOk l[k] then some (.next ((k+1:Nat):Int)) else some (.stop (Out.ret false)):=by
  intro k hk
  simp only [nN]
  rw [if_pos (by simp;omega),aV hk,aK]
  by_cases h12:l[k].iC.length<=12
  ·rw [if_neg (by simp;omega),inner k hk h12]
   by_cases q:aKA l[k].iC
   ·rw [if_pos q,if_pos ⟨h12,q⟩]
    simp only [aK,O6,O5]
    rw [iT (m9 hk hl)]
   ·rw [if_neg q,if_neg (fun a=>q a.2)];rfl
  ·rw [if_pos (by simp;omega),if_neg (fun a=>h12 a.1)]
 have key:loop (nN l) 0=_:=jB (f:=nN l) l (fun k=>(k:Int)) QOk (Out.brk ()) (Out.ret false) (fun k hk hp=>by rw [hs k hk,if_pos hp]) (fun k hk hp=>by rw [hs k hk,if_neg hp]) (by simp [nN])
 rw [key]
 by_cases q:∀x∈l,QOk x
 ·rw [if_pos q]
  simp only [aK,O7,O4]
  congr 1;rw [Bool.eq_iff_iff];simp only [beq_iff_eq,decide_eq_true_eq]
  exact⟨fun a=>⟨by omega,q⟩,fun a=>by have:=a.1;omega⟩
 ·rw [if_neg q,bI (show ¬JS l from fun a=>q a.2)];rfl
theorem WA{l:List Queue}(hl:l.length<=maxLen)(hq:∀q∈l,q.iC.length<=maxLen):FQ l=some (decide (JS l)):=by
 have e1:∀q∈l,ES q=some (!decide (QOk q)):=by
  intro q hm
  unfold ES wF
  have e:∀x∈q.iC,zQ x=some (!decide (lH x)):=fun x _=>by
   unfold zQ;rw [V7];rfl
  rw [aJ9 (hq q hm) (fun x=>!decide (lH x)) _ e,FM]
  by_cases h:q.iC.length<=12
  ·rw [if_neg (by simp;omega)]
   by_cases h2:∀x∈q.iC,lH x
   ·rw [aZ h2,aZ (show QOk q from ⟨h,h2⟩)];rfl
   ·rw [bI h2,bI (show ¬QOk q from fun a=>h2 a.2)];rfl
  ·rw [if_pos (by simp;omega),bI (show ¬QOk q from fun a=>h a.1)];rfl
 unfold FQ BU
 rw [RQ hl (fun q=>!decide (QOk q)) _ e1,FM]
 by_cases h:l.length=3
 ·rw [if_pos (by simp;omega)]
  by_cases h2:∀x∈l,QOk x
  ·rw [aZ h2,aZ (show JS l from ⟨h,h2⟩)];rfl
  ·rw [bI h2,bI (show ¬JS l from fun a=>h2 a.2)];rfl
 ·rw [if_neg (by simp;omega),bI (show ¬JS l from fun a=>h a.1)]
def kY:bA:=⟨false,⟨0,0,0,0⟩,0,0,⟨0,0,0,0,0,0,0,0,0,false⟩,0,0,0,0⟩
def JOk(j:bA):Prop:=if j.cN then lH j.Op/\cW j.H/\cW j.Old else j=kY
instance (j:bA):Decidable (JOk j):=by unfold JOk;infer_instance
theorem v9{j:bA}(hb:j.cN=true):JOk j↔lH j.Op/\cW j.H/\cW j.Old:=by unfold JOk;rw [if_pos hb]
theorem RR{j:bA}(hb:j.cN=false):JOk j↔j=kY:=by unfold JOk;rw [if_neg (by simp [hb])]
theorem aKB(j:bA):NS j=some (decide (JOk j)):=by
 unfold NS yC
 rw [V7,OK,OK]
 cases hb:j.cN
 ·rw [show decide (JOk j)=decide (j=kY) from decide_eq_decide.2 (RR hb)];rfl
 ·rw [show decide (JOk j)=decide (lH j.Op/\cW j.H/\cW j.Old) from decide_eq_decide.2 (v9 hb)]
  by_cases h1:lH j.Op
  ·by_cases h2:cW j.H <;> simp [h1,h2]
  ·simp [h1]
def mW(s:aD):Prop:=lY s.aA/\s.Cells.length=2/\s.aU.length=3/\JS s.bK/\(0<=s.aI/\s.aI<=1000000)/\(∀h∈s.Cells,cW h)/\∀j∈s.aU,JOk j
instance (s:aD):Decidable (mW s):=by unfold mW;infer_instance
noncomputable section
variable {s:aD} (hf:s.aA.Mem.aE.Bytes.length<=maxLen/\(c9 s.aA.Mem.aC).length<=1073741824/\s.aA.aB.cG.length<=maxLen/\s.aA.aL.length<=maxLen/\(bC s.aA.aL).length<=1073741824/\s.aA.iS.length<=maxLen) (ht:s.bK.length<=maxLen) (hq:∀q∈s.bK,q.iC.length<=maxLen) (hcl:s.Cells.length<=maxLen) (hjl:s.aU.length<=maxLen)
include hf ht
theorem aAC:wU s=some (decide (mW s)):=by
 unfold wU lS
 rw [RM hf,V9 ht,b8]
 by_cases h1:lY s.aA
 ·by_cases h2:s.Cells.length=2
  ·by_cases h3:s.aU.length=3
   ·by_cases h4:JS s.bK
    ·by_cases h5:0<=s.aI/\s.aI<=1000000
     ·have c2:((s.Cells.length:Int) != 2)=false:=by simp;omega
      have c3:((s.aU.length:Int) != 3)=false:=by simp;omega
      simp only [aZ h1,aZ h4,aZ h5,c2,c3,aK,dK,aN,if_false]
      have k2:loop (nP s) 0=some (if ∀h∈s.Cells,cW h then Out.brk () else Out.ret false):=by
       have hb:∀k (hk:k < s.Cells.length),nP s (k:Int)=if cW s.Cells[k] then some (.next ((k+1:Nat):Int)) else some (.stop (Out.ret false)):=fun k hk=>by
        simp only [nP]
        rw [if_pos (by simp;omega),aV hk,aK,V8,aK,aO (by omega) (by omega)]
        by_cases q:cW s.Cells[k] <;> simp [q]
       exact jB (f:=nP s) s.Cells (fun k=>(k:Int)) cW _ _ (fun k hk hp=>by rw [hb k hk,if_pos hp]) (fun k hk hp=>by rw [hb k hk,if_neg hp]) (by simp [nP,h2])
      have k3:loop (nO s) 0=some (if ∀j∈s.aU,JOk j then Out.brk () else Out.ret false):=by
       have hb:∀k (hk:k < s.aU.length),nO s (k:Int)=if JOk s.aU[k] then some (.next ((k+1:Nat):Int)) else some (.stop (Out.ret false)):=fun k hk=>by
        simp only [nO]
        rw [if_pos (by simp;omega),aV hk]
        generalize s.aU[k]=j
        simp only [aK,eY,V6,V8,aO (show -9223372036854775808<=(k:Int)+1 by omega) (show(k:Int)+1<=9223372036854775807 by omega)]
        cases hb:j.cN
        ·by_cases e:j=kY
         ·have a1:cW j.H:=by rw [e];exact .inl rfl
          have a2:cW j.Old:=by rw [e];exact .inl rfl
          have e':j=(⟨false,(⟨0,0,0,0⟩:dB),0,0,(⟨0,0,0,0,0,0,0,0,0,false⟩:Sub),0,0,0,0⟩:bA):=e
          simp only [iA,if_true,aZ e',dK,aN,if_false,aZ a1,aZ a2,if_pos ((RR hb).2 e)];rfl
         ·have e':¬j=(⟨false,(⟨0,0,0,0⟩:dB),0,0,(⟨0,0,0,0,0,0,0,0,0,false⟩:Sub),0,0,0,0⟩:bA):=e
          simp only [iA,if_true,bI e',aN,if_false,if_neg (fun q=>e ((RR hb).1 q))]
        ·by_cases a0:lH j.Op
         ·by_cases a1:cW j.H
          ·by_cases a2:cW j.Old <;> simp [a0,a1,a2,v9 hb]
          ·simp [a0,a1,v9 hb]
         ·simp [a0,v9 hb]
       exact jB (f:=nO s) s.aU (fun k=>(k:Int)) JOk _ _ (fun k hk hp=>by rw [hb k hk,if_pos hp]) (fun k hk hp=>by rw [hb k hk,if_neg hp]) (by simp [nO,h3])
      rw [k2]
      by_cases q2:∀h∈s.Cells,cW h
      ·rw [if_pos q2]
       simp only [aK,O9,O8]
       rw [k3]
       by_cases q3:∀j∈s.aU,JOk j
       ·rw [if_pos q3,aZ (show mW s from ⟨h1,h2,h3,h4,h5,q2,q3⟩)];rfl
       ·rw [if_neg q3,bI (fun a:mW s=>q3 a.2.2.2.2.2.2)];rfl
      ·rw [if_neg q2,bI (fun a:mW s=>q2 a.2.2.2.2.2.1)];rfl
     ·rw [bI (fun a:mW s=>h5 a.2.2.2.2.1)]
      simp [h1,h2,h3,h4,h5]
    ·rw [bI (fun a:mW s=>h4 a.2.2.2.1)]
     simp [h1,h2,h3,h4]
   ·rw [bI (fun a:mW s=>h3 a.2.2.1)]
    have c3:((s.aU.length:Int) != 3)=true:=by simp;omega
    simp [h1,h2,h3,c3]
  ·rw [bI (fun a:mW s=>h2 a.2.1)]
   have c2:((s.Cells.length:Int) != 2)=true:=by simp;omega
   simp [h1,h2,c2]
 ·rw [bI (fun a:mW s=>h1 a.1)];simp [h1]
include hq hcl hjl
theorem aAD:wH s=some (decide (mW s)):=by
 have e1:uT=fun x=>some (!decide (cW x)):=funext fun x=>by unfold uT;rw [OK];rfl
 have e2:∀x∈s.aU,BZ x=some (!decide (JOk x)):=fun x _=>by unfold BZ;rw [aKB];rfl
 unfold wH iU
 rw [aDF hf,WA ht hq,eB,show(fun y0=>uT y0)=fun x=>some (!decide (cW x)) from e1,DG hcl,FM,V5 hjl _ _ e2,FM]
 by_cases h1:lY s.aA
 ·by_cases h2:s.Cells.length=2
  ·by_cases h3:s.aU.length=3
   ·have c2:((s.Cells.length:Int) == 2)=true:=by simp;omega
    have c3:((s.aU.length:Int) == 3)=true:=by simp;omega
    by_cases h4:JS s.bK
    ·by_cases h5:0<=s.aI/\s.aI<=1000000
     ·by_cases q2:∀h∈s.Cells,cW h
      ·by_cases q3:∀j∈s.aU,JOk j
       ·rw [aZ (show mW s from ⟨h1,h2,h3,h4,h5,q2,q3⟩)]
        simp only [aZ h1,aZ h4,aZ h5,aZ q2,aZ q3,c2,c3,aK,dK,iA,aN,if_false,if_true]
       ·rw [bI (fun a:mW s=>q3 a.2.2.2.2.2.2)]
        simp only [aZ h1,aZ h4,aZ h5,aZ q2,bI q3,c2,c3,aK,dK,iA,aN,if_false,if_true]
      ·rw [bI (fun a:mW s=>q2 a.2.2.2.2.2.1)]
       simp only [aZ h1,aZ h4,aZ h5,bI q2,c2,c3,aK,dK,iA,aN,if_false,if_true]
     ·rw [bI (fun a:mW s=>h5 a.2.2.2.2.1)]
      simp only [aZ h1,aZ h4,bI h5,c2,c3,aK,aN,if_false,if_true]
    ·rw [bI (fun a:mW s=>h4 a.2.2.2.1)]
     simp only [aZ h1,bI h4,c2,c3,aK,aN,if_false,if_true]
   ·rw [bI (fun a:mW s=>h3 a.2.2.1)]
    have c2:((s.Cells.length:Int) == 2)=true:=by simp;omega
    have c3:((s.aU.length:Int) == 3)=false:=by simp;omega
    simp only [aZ h1,c2,c3,aK,aN,if_false,if_true]
  ·rw [bI (fun a:mW s=>h2 a.2.1)]
   have c2:((s.Cells.length:Int) == 2)=false:=by simp;omega
   simp only [aZ h1,c2,aK,aN,if_false,if_true]
 ·rw [bI (fun a:mW s=>h1 a.1)];simp only [bI h1,aK,aN,if_false]
end
end Go.Gv
end
