import Derived.Test.YtabnjpbikjfhoaaGreatXNE
set_option linter.unusedVariables false
set_option linter.unusedSimpArgs false
set_option linter.unusedSectionVars false
set_option linter.constructorNameAsVariable false
set_option linter.unnecessarySimpa false
noncomputable section
namespace Go.Gv
def gP(c:Int):Int:=if c=0 then 8 else if c=1 then 16 else if c=2 then 40 else 0
def aT(c:Int):Int:=if c=0 then 12 else if c=1 then 20 else if c=2 then 44 else 0
def bV(c:Int):Int:=if c=0 then 4 else if c=1 then 2 else if c=2 then 1 else 0
theorem fQ{c:Int}(h:0≤c∧c≤2):c=0∨c=1∨c=2:=by omega
theorem aQS{c:Int}(h:¬(0≤c∧c≤2)):gP c=0:=by unfold gP;rw [if_neg (by omega),if_neg (by omega),if_neg (by omega)]
theorem aBY{c:Int}(h:¬(0≤c∧c≤2)):aT c=0:=by unfold aT;rw [if_neg (by omega),if_neg (by omega),if_neg (by omega)]
theorem aF9{c:Int}(h:¬(0≤c∧c≤2)):bV c=0:=by unfold bV;rw [if_neg (by omega),if_neg (by omega),if_neg (by omega)]
theorem lX(c:Int):0≤bV c∧bV c≤4:=by unfold bV;split <;> (try split) <;> (try split) <;> omega
theorem TJ(c:Int):0≤aT c∧aT c≤44:=by unfold aT;split <;> (try split) <;> (try split) <;> omega
theorem gZ{c:Int}:0 < bV c↔0≤c∧c≤2:=by
  unfold bV;constructor
  · intro h;split at h <;> (try split at h) <;> (try split at h) <;> omega
  · intro h;rcases fQ h with rfl | rfl | rfl <;> decide
theorem pU(c:Int):nQ c=some (gP c):=by
  unfold nQ gP
  by_cases h0:c=0 <;> by_cases h1:c=1 <;> by_cases h2:c=2 <;> simp [h0,h1,h2]
theorem jR(c:Int):j8 c=some (decide (0≤c∧c≤2)):=by simp [j8,dR]
theorem QF(c:Int):AR c=some (gP c):=by
  unfold AR
  rw [jR]
  by_cases h:0≤c∧c≤2
  · rcases fQ h with rfl | rfl | rfl <;> rfl
  · simp [h,aQS h]
theorem WL(c:Int):xP c=some (aT c):=by
  unfold xP
  rw [bZ]
  by_cases h:0≤c∧c≤2
  · rcases fQ h with rfl | rfl | rfl <;> rfl
  · simp [h,aBY h]
theorem MF(c:Int):sO c=some (aT c):=by
  unfold sO
  rw [jR]
  by_cases h:0≤c∧c≤2
  · rcases fQ h with rfl | rfl | rfl <;> rfl
  · simp [h,aBY h]
theorem hJ(c:Int):lV c=some (bV c):=by
  unfold lV
  rw [bZ]
  by_cases h:0≤c∧c≤2
  · rcases fQ h with rfl | rfl | rfl <;> rfl
  · simp [h,aF9 h]
theorem zQ(c:Int):nI c=some (bV c):=by
  unfold nI
  rw [jR]
  by_cases h:0≤c∧c≤2
  · rcases fQ h with rfl | rfl | rfl <;> rfl
  · simp [h,aF9 h]
theorem QG(s:Int):AV s=some (if 0≤s∧s≤23 then s / 4 else -1):=by
  unfold AV
  rw [bZ]
  by_cases h:0≤s∧s≤23
  · simp [h,FP h.1];rw [aO (by omega) (by omega)]
  · simp [h]
theorem OU(s:Int):vU s=some (if 0≤s∧s≤23 then s % 4 else -1):=by
  unfold vU
  rw [bZ]
  by_cases h:0≤s∧s≤23
  · simp [h,yO h.1]
  · simp [h]
def eA(s c:Int):Int:=if (0≤s∧s≤23)∧s % 4 < bV c then s / 4 * 64+8+s % 4 * aT c else -1
theorem IY{i c:Int}(h0:0≤i)(h1:i < bV c):0≤i * aT c∧i * aT c+aT c≤56:=by
  unfold bV at h1;unfold aT
  split at h1
  · rw [if_pos ‹_›];omega
  · split at h1
    · rw [if_neg ‹_›,if_pos ‹_›];omega
    · split at h1
      · rw [if_neg ‹_›,if_neg ‹_›,if_pos ‹_›];omega
      · omega
theorem sU(s c:Int):uJ s c=some (eA s c):=by
  unfold uJ ER eA
  rw [QG,OU,hJ,WL]
  by_cases h:0≤s∧s≤23
  · have hp:=lX c
    have h1:¬s / 4 < 0:=by omega
    have h2:bB (bV c - 1)=bV c - 1:=aO (by omega) (by omega)
    by_cases h3:s % 4 < bV c
    · have hm:=IY (by omega) h3
      have hs:=TJ c
      have h4:0≤s % 4∧s % 4≤bV c - 1:=by omega
      have h5:¬bV c - 1 < s % 4:=by omega
      have e1:bB (s / 4 * 64)=s / 4 * 64:=aO (by omega) (by omega)
      have e2:bB (s / 4 * 64+8)=s / 4 * 64+8:=aO (by omega) (by omega)
      have e3:bB (s % 4 * aT c)=s % 4 * aT c:=aO (by omega) (by omega)
      have e4:bB (s / 4 * 64+8+s % 4 * aT c)=s / 4 * 64+8+s % 4 * aT c:=aO (by omega) (by omega)
      simp [h,h1,h2,h3,h4,h5,bZ,e1,e2,e3,e4]
    · have h4:¬s % 4≤bV c - 1:=by omega
      simp [h,h1,h2,h3,h4,bZ]
  · simp [h]
theorem vC(s:Int):lZ s=some (decide (0≤s∧s≤23)):=by simp [lZ,dR]
theorem yP(s c:Int):tV s c=some (eA s c):=by
  unfold tV xB eA
  rw [vC,jR,zQ,MF]
  by_cases h:0≤s∧s≤23
  · have hp:=lX c
    rw [yO h.1,FP h.1]
    by_cases h3:s % 4 < bV c
    · have hm:=IY (by omega) h3
      have hs:=TJ c
      have hc:0≤c∧c≤2:=gZ.1 (by omega)
      have e0:bB (s / 4)=s / 4:=aO (by omega) (by omega)
      have e1:bB (s / 4 * 64)=s / 4 * 64:=aO (by omega) (by omega)
      have e2:bB (s / 4 * 64+8)=s / 4 * 64+8:=aO (by omega) (by omega)
      have e3:bB (s % 4 * aT c)=s % 4 * aT c:=aO (by omega) (by omega)
      have e4:bB (s / 4 * 64+8+s % 4 * aT c)=s / 4 * 64+8+s % 4 * aT c:=aO (by omega) (by omega)
      have h5:¬bV c≤s % 4:=by omega
      simp [h,hc,h3,h5,e0,e1,e2,e3,e4]
    · have h5:bV c≤s % 4:=by omega
      by_cases hc:0≤c∧c≤2 <;> simp [h,hc,h3,h5]
  · simp [h]
end Go.Gv
end
noncomputable section
namespace Go.Gv
def ldF(l:List Int):Int:=l.foldl (fun n x=>n * 256+x) 0
def tP(l:List Int):Prop:=∀x∈l,0≤x∧x≤255
instance (l:List Int):Decidable (tP l):=by unfold tP;infer_instance
theorem aBZ{l:List Int}{k:Nat}(h:k < l.length):ldF (l.take (k+1))=ldF (l.take k) * 256+l[k]:=by
  unfold ldF
  rw [List.take_succ_eq_append_getElem h,List.foldl_append];rfl
theorem aES{l:List Int}(h:tP l):∀k,k≤l.length→0≤ldF (l.take k)∧ldF (l.take k) < 256 ^ k:=by
  intro k
  induction k with
  | zero=>intro _;simp [ldF]
  | succ k ih =>
    intro hk
    have h1:=ih (by omega)
    have h2:=h _ (List.getElem_mem (show k < l.length by omega))
    rw [aBZ (by omega),Int.pow_succ]
    omega
theorem aWX{k:Nat}(h:k≤6):(256:Int) ^ k≤281474976710656:=by
  have h1:(256:Nat) ^ k≤256 ^ 6:=Nat.pow_le_pow_right (by omega) h
  have h2:(256:Nat) ^ 6=281474976710656:=by decide
  rw [h2] at h1
  have h3:((256 ^ k:Nat):Int)≤281474976710656:=by omega
  rw [Int.natCast_pow] at h3
  exact h3
def ld(b:List Int)(at_ w:Nat):Int:=ldF ((b.drop at_).take w)
theorem aL5{n x:Int}{k:Nat}(hk:k≤6)(h:0≤n∧n < 256 ^ k)(hx:0≤x∧x≤255):bB (bB (n * 256)+x)=n * 256+x∧bB (bB (256 * n)+x)=n * 256+x:=by
  have:=aWX hk
  rw [Int.mul_comm 256 n,aO (x:=n * 256) (by omega) (by omega),aO (by omega) (by omega)]
  exact⟨rfl,rfl⟩
theorem aJ0{b:List Int}{a w:Nat}(h:a+w≤b.length):((b.drop a).take w).length=w:=by simp;omega
theorem aB0{b:List Int}{a w k:Nat}(h:k < ((b.drop a).take w).length)(h':a+k < b.length):((b.drop a).take w)[k]=b[a+k]:=by simp
theorem aGA{b:List Int}(hb:tP b)(a w:Nat):tP ((b.drop a).take w):=fun x hx=>hb x (List.mem_of_mem_drop (List.mem_of_mem_take hx))
theorem CZ{b:List Int}(hb:tP b){a w:Nat}(hw:w≤7)(h:a+w≤b.length)(hl:b.length≤100000):uI b (a:Int) (w:Int)=some (ld b a w):=by
  unfold uI
  have hlen:=aJ0 h
  have hbb:=aGA hb a w
  have key:loop (uH b (a:Int) (w:Int)) (0,0)=some (ld b a w):=by
    refine iY (f:=uH b (a:Int) (w:Int)) w (fun k=>(ldF (((b.drop a).take w).take k),(k:Int))) _ (fun k hk=>?_) ?_
    · have hb1:=aES hbb k (by omega)
      have hk':k < ((b.drop a).take w).length:=by omega
      have hx:=hbb _ (List.getElem_mem hk')
      have hs:=aL5 (by omega) hb1 hx
      rw [aB0 hk' (by omega)] at hs
      have e1:bB ((a:Int)+k)=((a+k:Nat):Int):=by rw [aO (by omega) (by omega)];omega
      simp only [uH]
      rw [if_pos (by simp;omega),e1,aV (by omega)]
      simp only [aE,hs.1,aBZ hk',aB0 hk' (show a+k < b.length by omega)]
      rw [aO (x:=(k:Int)+1) (by omega) (by omega)];rfl
    · have:((b.drop a).take w).take w=(b.drop a).take w:=by rw [List.take_take];simp
      simp [uH,this,ld]
  rw [key];rfl
theorem zR{b:List Int}(hb:tP b){a w:Nat}(hw:w≤7)(h:a+w≤b.length)(hl:b.length≤100000):lO b (a:Int) (w:Int)=some (ld b a w):=by
  unfold lO
  have hlen:=aJ0 h
  have hbb:=aGA hb a w
  have e0:bB ((a:Int)+w)=((a+w:Nat):Int):=by rw [aO (by omega) (by omega)];omega
  have e2:(b.take (a+w)).drop a=(b.drop a).take w:=by rw [List.drop_take];congr 1;omega
  rw [aM (by rw [e0];omega)]
  have key:loop (rK b (a:Int) (w:Int)) (0,0)=some (ld b a w):=by
    refine iY (f:=rK b (a:Int) (w:Int)) w (fun k=>(ldF (((b.drop a).take w).take k),(k:Int))) _ (fun k hk=>?_) ?_
    · have hb1:=aES hbb k (by omega)
      have hk':k < ((b.drop a).take w).length:=by omega
      have hx:=hbb _ (List.getElem_mem hk')
      have hs:=aL5 (by omega) hb1 hx
      simp only [rK,e0,Int.toNat_natCast,e2]
      rw [if_pos (by simp;omega),aV hk']
      simp only [aE,hs.2,aBZ hk']
      rw [aO (x:=(k:Int)+1) (by omega) (by omega)];rfl
    · have:((b.drop a).take w).take w=(b.drop a).take w:=by rw [List.take_take];simp
      simp only [rK,e0,Int.toNat_natCast,e2,this,ld]
      rw [if_neg (by rw [hlen];simp)]
  rw [key];rfl
theorem C0{l:List Int}(hl:l.length≤maxLen)(f:Int→Bool):eN l (fun x=>some (f x))=some (l.any f):=by
  unfold eN fY
  have key:∀k:Nat,k≤l.length→loop (fM l (fun x=>some (f x))) (k:Int)=some (if (l.drop k).any f then Out.ret ((k+(l.drop k).findIdx f:Nat):Int) else Out.brk ()):=by
    refine aFD l.length _ fun k hk=>?_
    by_cases h3:k < l.length
    · have hd:l.drop k=l[k] :: l.drop (k+1):=List.drop_eq_getElem_cons h3
      simp only [fM]
      rw [if_pos (by simp;omega),aV h3,jA (o8 h3 hl),hd]
      simp only [aE,List.any_cons,List.findIdx_cons]
      by_cases h4:f l[k]=true
      · left;simp [h4]
      · right
        have h4:f l[k]=false:=by simpa using h4
        refine⟨h3,by simp [h4],?_⟩
        simp only [h4,Bool.false_or,cond_false]
        congr 2;omega
    · left
      obtain rfl:k=l.length:=by omega
      simp [fM]
  have t0:loop (fM l (fun x=>some (f x))) 0=_:=key 0 (by omega)
  rw [t0]
  simp only [List.drop_zero]
  by_cases h:l.any f=true
  · simp [h,pC]
  · have h:l.any f=false:=by simpa using h
    simp [h,pC,AQ]
def BOk(b:List Int):Prop:=b.length≤1000∧tP b
instance (b:List Int):Decidable (BOk b):=by unfold BOk;infer_instance
theorem YR{b:List Int}(hl:b.length≤maxLen):HK b=some (decide (BOk b)):=by
  unfold HK
  have key:loop (mY b) 0=some (if ∀x∈b,0≤x∧x≤255 then Out.brk () else Out.ret false):=by
    refine j4 (f:=mY b) b (fun k=>(k:Int)) (fun x=>0≤x∧x≤255) _ _ (fun k h hp=>?_) (fun k h hp=>?_) ?_
    · simp only [mY]
      rw [if_pos (by simp;omega),aV h,jA (o8 h hl)]
      simp [bZ,hp]
    · simp only [mY]
      rw [if_pos (by simp;omega),aV h]
      simp only [aE,bZ,hp,decide_false,iE,if_true]
    · simp [mY]
  rw [key]
  by_cases h:∀x∈b,0≤x∧x≤255
  · rw [if_pos h]
    have:BOk b↔b.length≤1000:=⟨fun q=>q.1,fun q=>⟨q,h⟩⟩
    simp only [aE,F9,OF,this]
    congr 1;rw [Bool.eq_iff_iff];simp;omega
  · rw [if_neg h]
    have:¬BOk b:=fun q=>h q.2
    simp [F9,this]
theorem E2{α:Type}{p:α→Prop}[DecidablePred p](l:List α):(l.any fun x=>!decide (p x))=!decide (∀x∈l,p x):=by
  rw [Bool.eq_iff_iff];simp
theorem YS{b:List Int}(hl:b.length≤maxLen):G0 b=some (decide (BOk b)):=by
  unfold G0 yY
  have e:(fun y0=>BJ y0)=fun y:Int=>some (!decide (0≤y∧y≤255)):=by
    funext y;simp [BJ,PI,dR]
  rw [e,C0 hl,E2]
  by_cases h:b.length≤1000
  · have:BOk b↔∀x∈b,0≤x∧x≤255:=⟨fun q=>q.2,fun q=>⟨h,q⟩⟩
    have h':(b.length:Int)≤1000:=by omega
    simp [h',this]
  · have:¬BOk b:=fun q=>h q.1
    have h':¬(b.length:Int)≤1000:=by omega
    simp [h',this]
def fS(h:aD):Prop:=h.Bytes.length=384∧h.Class.length=6∧tP h.Bytes∧∀c∈h.Class,-1≤c∧c≤2
instance (h:aD):Decidable (fS h):=by unfold fS;infer_instance
theorem YT{h:aD}(hl:h.Bytes.length≤maxLen):HL h=some (decide (fS h)):=by
  unfold HL rT
  by_cases h1:h.Bytes.length=384
  · by_cases h2:h.Class.length=6
    · rw [YR hl]
      have n1:((h.Bytes.length:Int) != 384)=false:=by simp;omega
      have n2:((h.Class.length:Int) != 6)=false:=by simp;omega
      simp only [n1,n2,aN,if_false,aE]
      by_cases h3:tP h.Bytes
      · have b1:BOk h.Bytes:=⟨by omega,h3⟩
        have key:loop (mZ h) 0=some (if ∀x∈h.Class,-1≤x∧x≤2 then Out.brk () else Out.ret false):=by
          refine j4 (f:=mZ h) h.Class (fun k=>(k:Int)) (fun x=>-1≤x∧x≤2) _ _ (fun k h hp=>?_) (fun k h hp=>?_) ?_
          · simp only [mZ]
            rw [if_pos (by simp;omega),aV h,aO (by omega) (by omega)]
            simp [bZ,hp]
          · simp only [mZ]
            rw [if_pos (by simp;omega),aV h]
            simp only [aE,bZ]
            rw [bL hp];rfl
          · simp [mZ,h2]
        rw [key]
        have:fS h↔∀x∈h.Class,-1≤x∧x≤2:=⟨fun q=>q.2.2.2,fun q=>⟨h1,h2,h3,q⟩⟩
        simp only [b1,decide_true,dE,aN,if_false,this]
        by_cases h4:∀x∈h.Class,-1≤x∧x≤2
        · rw [if_pos h4,bC h4];rfl
        · rw [if_neg h4,bL h4];rfl
      · have b1:¬BOk h.Bytes:=fun q=>h3 q.2
        have:¬fS h:=fun q=>h3 q.2.2.1
        simp [b1,this]
    · have n1:((h.Bytes.length:Int) != 384)=false:=by simp;omega
      have n2:((h.Class.length:Int) != 6)=true:=by simp;omega
      have:¬fS h:=fun q=>h2 q.2.1
      simp [n1,n2,this]
  · have n1:((h.Bytes.length:Int) != 384)=true:=by simp;omega
    have:¬fS h:=fun q=>h1 q.1
    simp [n1,this]
theorem C1{h:aD}(hl:h.Bytes.length≤maxLen):E9 h=some (decide (fS h)):=by
  unfold E9 pD
  by_cases h1:h.Bytes.length=384
  · have n1:((h.Bytes.length:Int) == 384)=true:=by simp;omega
    rw [YS hl]
    by_cases h3:tP h.Bytes
    · have b1:BOk h.Bytes:=⟨by omega,h3⟩
      by_cases h2:h.Class.length=6
      · have n2:((h.Class.length:Int) == 6)=true:=by simp;omega
        have e:(fun y0=>EC y0)=fun y:Int=>some (!decide (-1≤y∧y≤2)):=by
          funext y;simp [EC,dR]
        rw [e,C0 (by rw [h2];simp [maxLen]),E2]
        have:fS h↔∀x∈h.Class,-1≤x∧x≤2:=⟨fun q=>q.2.2.2,fun q=>⟨h1,h2,h3,q⟩⟩
        simp [n1,n2,b1,this]
      · have n2:((h.Class.length:Int) == 6)=false:=by simp;omega
        have:¬fS h:=fun q=>h2 q.2.1
        simp [n1,n2,b1,this]
    · have b1:¬BOk h.Bytes:=fun q=>h3 q.2
      have:¬fS h:=fun q=>h3 q.2.2.1
      simp [n1,b1,this]
  · have n1:((h.Bytes.length:Int) == 384)=false:=by simp;omega
    have:¬fS h:=fun q=>h1 q.1
    simp [n1,this]
end Go.Gv
end
noncomputable section
namespace Go.Gv
def dY(h:aD)(p:Nat):List Int:=(h.Bytes.drop (p * 64)).take 64
def bT(h:aD)(p:Nat):Int:=h.Class.getD p 0
def mK(h:aD)(p:Nat):Prop:=
  if bT h p < 0 then ∀x∈dY h p,x=0
  else ((dY h p).getD 0 0=171∧(dY h p).getD 1 0=bT h p∧(dY h p).getD 2 0=bV (bT h p))∧(∀x∈((dY h p).drop 3).take 5,x=0)∧∀i,i < (bV (bT h p)).toNat→1≤ld h.Bytes (p * 64+8+i * (aT (bT h p)).toNat) 4∧ld h.Bytes (p * 64+8+i * (aT (bT h p)).toNat) 4≤7
instance (h:aD) (p:Nat):Decidable (mK h p):=by unfold mK;infer_instance
noncomputable section
variable {h:aD} (hs:fS h) {p:Nat} (hp:p < 6)
include hs hp
theorem IZ:(dY h p).length=64:=aJ0 (by have:=hs.1;omega)
theorem QH{k:Nat}(hk:k < 64):h.Bytes[p * 64+k]'(by have:=hs.1;omega)=(dY h p)[k]'(by rw [IZ hs hp];exact hk):=(aB0 (show k < ((h.Bytes.drop (p * 64)).take 64).length by have:=IZ hs hp;unfold dY at this;omega) _).symm
theorem aET{k:Nat}(hk:k < 64):h.Bytes[p * 64+k]'(by have:=hs.1;omega)=(dY h p).getD k 0:=by
  rw [QH hs hp hk,List.getD_eq_getElem?_getD,List.getElem?_eq_getElem (by rw [IZ hs hp];exact hk)];rfl
theorem RL:h.Class[p]'(by have:=hs.2.1;omega)=bT h p:=by
  unfold bT
  rw [List.getD_eq_getElem?_getD,List.getElem?_eq_getElem (by have:=hs.2.1;omega)];rfl
theorem ZT:idx h.Class (p:Int)=some (bT h p):=by rw [aV (by have:=hs.2.1;omega),RL hs hp]
theorem aB1{k:Nat}(hk:k < 64):idx h.Bytes (((p * 64+k:Nat)):Int)=some ((dY h p).getD k 0):=by
  rw [aV (by have:=hs.1;omega),aET hs hp hk]
theorem aM4:tP (dY h p):=aGA hs.2.2.1 _ _
theorem sV{c:Int}(hc:bT h p=c){i:Nat}(hi:i < (bV c).toNat):(8+i * (aT c).toNat)+4≤64∧0≤(i:Int) * aT c∧((8+i * (aT c).toNat:Nat):Int)=8+(i:Int) * aT c:=by
  have h1:(i:Int) < bV c:=by omega
  have hc2:0≤c∧c≤2:=gZ.1 (by omega)
  rcases fQ hc2 with rfl | rfl | rfl
  · have e:aT 0=12:=rfl
    have g:(12:Int).toNat=12:=rfl
    have f:(bV 0).toNat=4:=rfl
    rw [e,g];rw [f] at hi;omega
  · have e:aT 1=20:=rfl
    have g:(20:Int).toNat=20:=rfl
    have f:(bV 1).toNat=2:=rfl
    rw [e,g];rw [f] at hi;omega
  · have e:aT 2=44:=rfl
    have g:(44:Int).toNat=44:=rfl
    have f:(bV 2).toNat=1:=rfl
    rw [e,g];rw [f] at hi;omega
theorem aQT{i:Nat}(hi:i < (bV (bT h p)).toNat):eA ((p:Int) * 4+i) (bT h p)=((p * 64+(8+i * (aT (bT h p)).toNat):Nat):Int):=by
  have hz:=sV hs hp rfl hi
  have hle:=lX (bT h p)
  unfold eA
  rw [if_pos (by omega)]
  have e1:((p:Int) * 4+i) / 4=p:=by omega
  have e2:((p:Int) * 4+i) % 4=i:=by omega
  rw [e1,e2]
  omega
theorem QI:J6 h (p:Int)=some (decide (mK h p)):=by
  have hb:=hs.1
  have hl:=IZ hs hp
  have e0:bB ((p:Int) * 64)=((p * 64+0:Nat):Int):=by rw [aO (by omega) (by omega)];omega
  have e1:bB (((p * 64+0:Nat):Int)+1)=((p * 64+1:Nat):Int):=by rw [aO (by omega) (by omega)];omega
  have e2:bB (((p * 64+0:Nat):Int)+2)=((p * 64+2:Nat):Int):=by rw [aO (by omega) (by omega)];omega
  have e3:bB (((p * 64+0:Nat):Int)+3)=((p * 64+3:Nat):Int):=by rw [aO (by omega) (by omega)];omega
  have e8:bB (((p * 64+0:Nat):Int)+8)=((p * 64+8:Nat):Int):=by rw [aO (by omega) (by omega)];omega
  have e64:bB (((p * 64+0:Nat):Int)+64)=((p * 64+64:Nat):Int):=by rw [aO (by omega) (by omega)];omega
  unfold J6
  rw [ZT hs hp]
  simp only [aE]
  by_cases hc:bT h p < 0
  · simp only [hc,decide_true,if_true,e0]
    have key:loop (pL h (p:Int)) (((p * 64+0:Nat)):Int)=some (if ∀x∈dY h p,x=0 then Out.brk () else Out.ret false):=by
      refine j4 (f:=pL h (p:Int)) (dY h p) (fun k=>((p * 64+k:Nat):Int)) (fun x=>x=0) _ _ (fun k hk hx=>?_) (fun k hk hx=>?_) ?_
      · simp only [pL,e0,e64]
        rw [if_pos (by simp;omega),aV (by omega),QH hs hp (by omega),aO (by omega) (by omega)]
        simp only [aE,hx];simp;omega
      · simp only [pL,e0,e64]
        rw [if_pos (by simp;omega),aV (by omega),QH hs hp (by omega)]
        have hx':((dY h p)[k] != 0)=true:=by simpa using hx
        simp only [aE,hx',if_true]
      · simp only [pL,e0,e64,hl]
        rw [if_neg (by simp)]
    rw [key]
    have hP:mK h p↔∀x∈dY h p,x=0:=by unfold mK;rw [if_pos hc]
    by_cases h4:∀x∈dY h p,x=0
    · rw [if_pos h4,bC (hP.2 h4)];rfl
    · rw [if_neg h4,bL (fun q=>h4 (hP.1 q))];rfl
  · have hP:mK h p↔((dY h p).getD 0 0=171∧(dY h p).getD 1 0=bT h p∧(dY h p).getD 2 0=bV (bT h p))∧(∀x∈((dY h p).drop 3).take 5,x=0)∧∀i,i < (bV (bT h p)).toNat→1≤ld h.Bytes (p * 64+8+i * (aT (bT h p)).toNat) 4∧ld h.Bytes (p * 64+8+i * (aT (bT h p)).toNat) 4≤7:=by unfold mK;rw [if_neg hc]
    simp only [hc,decide_false,aN,if_false,e0,e1,e2,aB1 hs hp (show 0 < 64 by omega),aB1 hs hp (show 1 < 64 by omega),aB1 hs hp (show 2 < 64 by omega),aE,hJ]
    by_cases a0:(dY h p).getD 0 0=171
    · by_cases a1:(dY h p).getD 1 0=bT h p
      · by_cases a2:(dY h p).getD 2 0=bV (bT h p)
        · have n0:((dY h p).getD 0 0 != 171)=false:=by simp only [bne_eq_false_iff_eq];exact a0
          have n1:((dY h p).getD 1 0 != bT h p)=false:=by simp only [bne_eq_false_iff_eq];exact a1
          have n2:((dY h p).getD 2 0 != bV (bT h p))=false:=by simp only [bne_eq_false_iff_eq];exact a2
          simp only [n0,n1,n2,aN,if_false,kJ,e0,e3]
          have hl5:(((dY h p).drop 3).take 5).length=5:=by simp [hl]
          have key:loop (pN h (p:Int)) (((p * 64+3:Nat)):Int)=some (if ∀x∈((dY h p).drop 3).take 5,x=0 then Out.brk () else Out.ret false):=by
            refine j4 (f:=pN h (p:Int)) (((dY h p).drop 3).take 5) (fun k=>((p * 64+(3+k):Nat):Int)) (fun x=>x=0) _ _ (fun k hk hx=>?_) (fun k hk hx=>?_) ?_
            · simp only [pN,e0,e8]
              rw [if_pos (by simp;omega),aV (by omega),QH hs hp (by omega),aO (by omega) (by omega),←aB0 hk (by omega),hx]
              simp;omega
            · simp only [pN,e0,e8]
              rw [if_pos (by simp;omega),aV (by omega),QH hs hp (by omega),←aB0 hk (by omega)]
              have hx':((((dY h p).drop 3).take 5)[k] != 0)=true:=by simp only [bne_iff_ne];exact hx
              simp only [aE,hx',if_true]
            · simp only [pN,e0,e8,hl5]
              rw [if_neg (by simp)]
          rw [key]
          by_cases h4:∀x∈((dY h p).drop 3).take 5,x=0
          · rw [if_pos h4]
            simp only [aE,PW,PU]
            have key2:loop (pM h (p:Int) (bT h p)) 0=some (if ∀i,i < (bV (bT h p)).toNat→1≤ld h.Bytes (p * 64+8+i * (aT (bT h p)).toNat) 4∧ld h.Bytes (p * 64+8+i * (aT (bT h p)).toNat) 4≤7 then Out.brk () else Out.ret false):=by
              have hle:=lX (bT h p)
              have hst:∀k:Nat,k < (bV (bT h p)).toNat→pM h (p:Int) (bT h p) (k:Int)=if 1≤ld h.Bytes (p * 64+8+k * (aT (bT h p)).toNat) 4∧ld h.Bytes (p * 64+8+k * (aT (bT h p)).toNat) 4≤7 then some (.next ((k+1:Nat):Int)) else some (.stop (Out.ret false)):=by
                intro k hk
                have hz:=sV hs hp rfl hk
                have s1:qE (p:Int) (k:Int)=some ((p:Int) * 4+k):=by
                  unfold qE uK
                  rw [bZ,bZ]
                  have g1:(0:Int)≤p∧(p:Int)≤5:=by omega
                  have g2:(0:Int)≤k∧(k:Int)≤3:=by omega
                  simp only [aE,g1,g2,and_self,decide_true,dE,aN,if_false]
                  rw [aO (x:=(p:Int) * 4) (by omega) (by omega),aO (by omega) (by omega)]
                have l1:=CZ hs.2.2.1 (a:=p * 64+(8+k * (aT (bT h p)).toNat)) (w:=4) (by omega) (by omega) (by omega)
                simp only [pM,hJ,aE]
                rw [if_pos (by simp;omega),s1]
                simp only [aE,sU,aQT hs hp hk]
                rw [show((4:Nat):Int)=4 from rfl] at l1
                rw [l1,Nat.add_assoc,aO (x:=(k:Int)+1) (by omega) (by omega)]
                simp only [aE,bZ]
                by_cases q:1≤ld h.Bytes (p * 64+(8+k * (aT (bT h p)).toNat)) 4∧ld h.Bytes (p * 64+(8+k * (aT (bT h p)).toNat)) 4≤7
                · rw [if_pos q,bC q];rfl
                · rw [if_neg q,bL q];rfl
              refine vB (f:=pM h (p:Int) (bT h p)) (bV (bT h p)).toNat (fun k=>(k:Int)) (fun i=>1≤ld h.Bytes (p * 64+8+i * (aT (bT h p)).toNat) 4∧ld h.Bytes (p * 64+8+i * (aT (bT h p)).toNat) 4≤7) _ _ (fun k hk hx=>?_) (fun k hk hx=>?_) ?_
              · rw [hst k hk,if_pos hx]
              · rw [hst k hk,if_neg hx]
              · simp only [pM,hJ,aE]
                rw [if_neg (by simp;omega)]
            rw [key2]
            by_cases h5:∀i,i < (bV (bT h p)).toNat→1≤ld h.Bytes (p * 64+8+i * (aT (bT h p)).toNat) 4∧ld h.Bytes (p * 64+8+i * (aT (bT h p)).toNat) 4≤7
            · rw [if_pos h5,bC (hP.2 ⟨⟨a0,a1,a2⟩,h4,h5⟩)];rfl
            · rw [if_neg h5,bL (fun q=>h5 (hP.1 q).2.2)];rfl
          · rw [if_neg h4,bL (fun q=>h4 (hP.1 q).2.1)];rfl
        · have n0:((dY h p).getD 0 0 != 171)=false:=by simp only [bne_eq_false_iff_eq];exact a0
          have n1:((dY h p).getD 1 0 != bT h p)=false:=by simp only [bne_eq_false_iff_eq];exact a1
          have n2:((dY h p).getD 2 0 != bV (bT h p))=true:=by simp only [bne_iff_ne];exact a2
          simp only [n0,n1,n2,aN,if_false,kJ,if_true]
          rw [bL (fun q=>a2 (hP.1 q).1.2.2)]
      · have n0:((dY h p).getD 0 0 != 171)=false:=by simp only [bne_eq_false_iff_eq];exact a0
        have n1:((dY h p).getD 1 0 != bT h p)=true:=by simp only [bne_iff_ne];exact a1
        simp only [n0,n1,aN,if_false,kJ,if_true]
        rw [bL (fun q=>a1 (hP.1 q).1.2.1)]
    · have n0:((dY h p).getD 0 0 != 171)=true:=by simp only [bne_iff_ne];exact a0
      simp only [n0,aN,if_false,kJ,if_true]
      rw [bL (fun q=>a0 (hP.1 q).1.1)]
end
end Go.Gv
end
noncomputable section
namespace Go.Gv
theorem QJ{l:List Int}(hl:l.length≤maxLen):FA l=some (decide (∀x∈l,x=0)):=by
  unfold FA
  have e:(fun y0=>ED y0)=fun y:Int=>some (!decide (y=0)):=by
    funext y;simp [ED,bne];rfl
  rw [e,C0 hl,E2]
  simp
noncomputable section
variable {h:aD} (hs:fS h) {p:Nat} (hp:p < 6)
include hs hp
theorem aU7:(h.Bytes.take ((p+1) * 64)).drop (p * 64)=dY h p:=by
  unfold dY
  rw [List.drop_take];congr 1;omega
theorem aT0{a:Nat}(ha:a+4≤64):ld (dY h p) a 4=ld h.Bytes (p * 64+a) 4:=by
  unfold ld dY
  rw [List.drop_take,List.take_take,List.drop_drop]
  congr 2;omega
theorem aJ1{k:Nat}(hk:k < 64):idx (dY h p) (k:Int)=some ((dY h p).getD k 0):=by
  have:=IZ hs hp
  rw [aV (by omega),List.getD_eq_getElem?_getD,List.getElem?_eq_getElem (by omega)];rfl
theorem QK:J1 h (p:Int)=some (decide (mK h p)):=by
  have hb:=hs.1
  have hl:=IZ hs hp
  have hm:(dY h p).length≤maxLen:=by rw [hl];simp [maxLen]
  have e0:bB ((p:Int) * 64)=((p * 64:Nat):Int):=by rw [aO (by omega) (by omega)];omega
  have e1:bB (bB ((p:Int)+1) * 64)=(((p+1) * 64:Nat):Int):=by rw [aO (x:=(p:Int)+1) (by omega) (by omega),aO (by omega) (by omega)];omega
  have i0:=aJ1 hs hp (show 0 < 64 by omega)
  have i1:=aJ1 hs hp (show 1 < 64 by omega)
  have i2:=aJ1 hs hp (show 2 < 64 by omega)
  rw [show((0:Nat):Int)=0 from rfl] at i0
  rw [show((1:Nat):Int)=1 from rfl] at i1
  rw [show((2:Nat):Int)=2 from rfl] at i2
  unfold J1
  rw [ZT hs hp]
  simp only [aE,e0,e1,Int.toNat_natCast,aU7 hs hp]
  rw [aM (by omega)]
  by_cases hc:bT h p < 0
  · have hP:mK h p↔∀x∈dY h p,x=0:=by unfold mK;rw [if_pos hc]
    simp only [hc,decide_true,if_true,QJ hm,aE,hP]
  · have hP:mK h p↔((dY h p).getD 0 0=171∧(dY h p).getD 1 0=bT h p∧(dY h p).getD 2 0=bV (bT h p))∧(∀x∈((dY h p).drop 3).take 5,x=0)∧∀i,i < (bV (bT h p)).toNat→1≤ld h.Bytes (p * 64+8+i * (aT (bT h p)).toNat) 4∧ld h.Bytes (p * 64+8+i * (aT (bT h p)).toNat) 4≤7:=by unfold mK;rw [if_neg hc]
    simp only [hc,decide_false,aN,if_false,i0,i1,i2,aE,zQ]
    by_cases a0:(dY h p).getD 0 0=171
    · by_cases a1:(dY h p).getD 1 0=bT h p
      · by_cases a2:(dY h p).getD 2 0=bV (bT h p)
        · have n0:((dY h p).getD 0 0 != 171)=false:=by simp only [bne_eq_false_iff_eq];exact a0
          have n1:((dY h p).getD 1 0 != bT h p)=false:=by simp only [bne_eq_false_iff_eq];exact a1
          have n2:((dY h p).getD 2 0 != bV (bT h p))=false:=by simp only [bne_eq_false_iff_eq];exact a2
          have t8:((dY h p).take (8:Int).toNat).drop (3:Int).toNat=((dY h p).drop 3).take 5:=by
            rw [show(8:Int).toNat=8 from rfl,show(3:Int).toNat=3 from rfl,List.drop_take]
          simp only [n0,n1,n2,aN,if_false,jC,t8]
          rw [aM (by omega),QJ (by simp [maxLen];omega)]
          by_cases h4:∀x∈((dY h p).drop 3).take 5,x=0
          · simp only [bC h4,aE,dE,aN,if_false,zQ]
            have key2:loop (pE h (p:Int) (bT h p) (bV (bT h p))) 0=some (if ∀i,i < (bV (bT h p)).toNat→1≤ld h.Bytes (p * 64+8+i * (aT (bT h p)).toNat) 4∧ld h.Bytes (p * 64+8+i * (aT (bT h p)).toNat) 4≤7 then Out.brk () else Out.ret false):=by
              have hle:=lX (bT h p)
              have hst:∀k:Nat,k < (bV (bT h p)).toNat→pE h (p:Int) (bT h p) (bV (bT h p)) (k:Int)=if 1≤ld h.Bytes (p * 64+8+k * (aT (bT h p)).toNat) 4∧ld h.Bytes (p * 64+8+k * (aT (bT h p)).toNat) 4≤7 then some (.next ((k+1:Nat):Int)) else some (.stop (Out.ret false)):=by
                intro k hk
                have hz:=sV hs hp rfl hk
                have e5:bB (8+bB ((k:Int) * aT (bT h p)))=((8+k * (aT (bT h p)).toNat:Nat):Int):=by
                  rw [aO (x:=(k:Int) * aT (bT h p)) (by omega) (by omega),aO (by omega) (by omega)];omega
                have l1:=zR (aM4 hs hp) (a:=8+k * (aT (bT h p)).toNat) (w:=4) (by omega) (by omega) (by omega)
                rw [show((4:Nat):Int)=4 from rfl,aT0 hs hp (by omega)] at l1
                simp only [pE,MF,aE,e0,e1,Int.toNat_natCast,aU7 hs hp,e5]
                rw [if_pos (by simp;omega),l1,Nat.add_assoc,aO (x:=(k:Int)+1) (by omega) (by omega)]
                simp only [aE,dR]
                by_cases q:1≤ld h.Bytes (p * 64+(8+k * (aT (bT h p)).toNat)) 4∧ld h.Bytes (p * 64+(8+k * (aT (bT h p)).toNat)) 4≤7
                · rw [if_pos q,bC q];rfl
                · rw [if_neg q,bL q];rfl
              refine vB (f:=pE h (p:Int) (bT h p) (bV (bT h p))) (bV (bT h p)).toNat (fun k=>(k:Int)) (fun i=>1≤ld h.Bytes (p * 64+8+i * (aT (bT h p)).toNat) 4∧ld h.Bytes (p * 64+8+i * (aT (bT h p)).toNat) 4≤7) _ _ (fun k hk hx=>?_) (fun k hk hx=>?_) ?_
              · rw [hst k hk,if_pos hx]
              · rw [hst k hk,if_neg hx]
              · simp only [pE]
                rw [if_neg (by simp;omega)]
            rw [key2]
            by_cases h5:∀i,i < (bV (bT h p)).toNat→1≤ld h.Bytes (p * 64+8+i * (aT (bT h p)).toNat) 4∧ld h.Bytes (p * 64+8+i * (aT (bT h p)).toNat) 4≤7
            · rw [if_pos h5,bC (hP.2 ⟨⟨a0,a1,a2⟩,h4,h5⟩)];rfl
            · rw [if_neg h5,bL (fun q=>h5 (hP.1 q).2.2)];rfl
          · simp only [bL h4,aE,iE,if_true]
            rw [bL (fun q=>h4 (hP.1 q).2.1)]
        · have n0:((dY h p).getD 0 0 != 171)=false:=by simp only [bne_eq_false_iff_eq];exact a0
          have n1:((dY h p).getD 1 0 != bT h p)=false:=by simp only [bne_eq_false_iff_eq];exact a1
          have n2:((dY h p).getD 2 0 != bV (bT h p))=true:=by simp only [bne_iff_ne];exact a2
          simp only [n0,n1,n2,aN,if_false,jC,if_true]
          rw [bL (fun q=>a2 (hP.1 q).1.2.2)]
      · have n0:((dY h p).getD 0 0 != 171)=false:=by simp only [bne_eq_false_iff_eq];exact a0
        have n1:((dY h p).getD 1 0 != bT h p)=true:=by simp only [bne_iff_ne];exact a1
        simp only [n0,n1,aN,if_false,jC,if_true]
        rw [bL (fun q=>a1 (hP.1 q).1.2.1)]
    · have n0:((dY h p).getD 0 0 != 171)=true:=by simp only [bne_iff_ne];exact a0
      simp only [n0,aN,if_false,jC,if_true]
      rw [bL (fun q=>a0 (hP.1 q).1.1)]
end
instance (h:aD):Decidable (∀p,p < 6→mK h p):=Nat.decidableBallLT 6 fun p _=>mK h p
def RU(h:aD):Prop:=fS h∧∀p,p < 6→mK h p
instance (h:aD):Decidable (RU h):=by unfold RU;infer_instance
theorem QL{h:aD}(hl:h.Bytes.length≤maxLen):FG h=some (decide (RU h)):=by
  unfold FG
  rw [YT hl]
  by_cases hs:fS h
  · have key:loop (uL h) 0=some (if ∀p,p < 6→mK h p then Out.brk () else Out.ret false):=by
      refine vB (f:=uL h) 6 (fun k=>(k:Int)) (fun p=>mK h p) _ _ (fun k hk hx=>?_) (fun k hk hx=>?_) ?_
      · simp only [uL]
        rw [if_pos (by simp;omega),QI hs hk,aO (by omega) (by omega),bC hx];rfl
      · simp only [uL]
        rw [if_pos (by simp;omega),QI hs hk,bL hx];rfl
      · rfl
    simp only [aE,bC hs,dE,aN,if_false]
    rw [key]
    by_cases h4:∀p,p < 6→mK h p
    · rw [if_pos h4,bC (show RU h from ⟨hs,h4⟩)];rfl
    · rw [if_neg h4,bL (fun q:RU h=>h4 q.2)];rfl
  · rw [bL (fun q:RU h=>hs q.1),bL hs];rfl
theorem I0{h:aD}(hl:h.Bytes.length≤maxLen):FB h=some (decide (RU h)):=by
  unfold FB
  rw [C1 hl]
  by_cases hs:fS h
  · have key:loop (tU h) 0=some (if ∀p,p < 6→mK h p then Out.brk () else Out.ret false):=by
      refine vB (f:=tU h) 6 (fun k=>(k:Int)) (fun p=>mK h p) _ _ (fun k hk hx=>?_) (fun k hk hx=>?_) ?_
      · simp only [tU]
        rw [if_pos (by simp;omega),QK hs hk,aO (by omega) (by omega),bC hx];rfl
      · simp only [tU]
        rw [if_pos (by simp;omega),QK hs hk,bL hx];rfl
      · rfl
    simp only [aE,bC hs,dE,aN,if_false]
    rw [key]
    by_cases h4:∀p,p < 6→mK h p
    · rw [if_pos h4,bC (show RU h from ⟨hs,h4⟩)];rfl
    · rw [if_neg h4,bL (fun q:RU h=>h4 q.2)];rfl
  · rw [bL (fun q:RU h=>hs q.1),bL hs];rfl
def aW(h:aD)(s:Int):Int:=if (0≤s∧s≤23)∧s % 4 < bV (bT h (s / 4).toNat) then bT h (s / 4).toNat else -1
theorem oZ{h:aD}{s:Int}(hc:0≤aW h s):(0≤s∧s≤23)∧s % 4 < bV (bT h (s / 4).toNat)∧aW h s=bT h (s / 4).toNat:=by
  unfold aW at hc ⊢
  split at hc
  · rename_i h1;exact⟨h1.1,h1.2,by rw [if_pos h1]⟩
  · omega
theorem iM{h:aD}(hs:fS h)(s:Int):lW h s=some (aW h s):=by
  unfold lW rU aW
  rw [QG,OU]
  by_cases h1:0≤s∧s≤23
  · obtain⟨k,rfl⟩:=Int.eq_ofNat_of_zero_le h1.1
    have hk:k / 4 < 6:=by omega
    have e1:((k:Int) / 4)=((k / 4:Nat):Int):=by omega
    have hi:=ZT hs hk
    have n1:¬((k / 4:Nat):Int) < 0:=by omega
    simp only [h1,and_self,if_true,aE,e1,n1,decide_false,aN,if_false,hi,Int.toNat_natCast,true_and]
    by_cases h2:bT h (k / 4) < 0
    · have h3:bV (bT h (k / 4))=0:=aF9 (by omega)
      have h4:¬(k:Int) % 4 < 0:=by omega
      simp [h2,h3,h4]
    · by_cases h3:(k:Int) % 4 < bV (bT h (k / 4))
      · have h4:¬bV (bT h (k / 4))≤(k:Int) % 4:=by omega
        simp [h2,h3,h4,hJ]
      · have h4:bV (bT h (k / 4))≤(k:Int) % 4:=by omega
        simp [h2,h3,h4,hJ]
  · simp [h1]
theorem lH{h:aD}(hs:fS h)(s:Int):nJ h s=some (aW h s):=by
  unfold nJ y4 aW
  rw [vC]
  by_cases h1:0≤s∧s≤23
  · obtain⟨k,rfl⟩:=Int.eq_ofNat_of_zero_le h1.1
    have hk:k / 4 < 6:=by omega
    have e1:((k:Int) / 4)=((k / 4:Nat):Int):=by omega
    have hi:=ZT hs hk
    have e2:bB (Int.tdiv (k:Int) 4)=((k / 4:Nat):Int):=by rw [FP (by omega),aO (by omega) (by omega)];omega
    simp only [h1,and_self,decide_true,dE,aN,if_true,aE,e1,e2,if_false,hi,Int.toNat_natCast,true_and,yP]
    by_cases h3:(k:Int) % 4 < bV (bT h (k / 4))
    · have hm:=IY (c:=bT h (k / 4)) (by omega) h3
      have hg:¬eA (k:Int) (bT h (k / 4)) < 0:=by
        unfold eA;rw [if_pos ⟨h1,h3⟩];omega
      simp [h3,hg]
    · have hg:eA (k:Int) (bT h (k / 4)) < 0:=by
        unfold eA;rw [if_neg (fun q=>h3 q.2)];omega
      simp [h3,hg]
  · simp [h1]
def hY(h:aD)(s:Int):Int:=ld h.Bytes (eA s (aW h s)).toNat 4
theorem E3{h:aD}{s:Int}(hc:0≤aW h s):0≤eA s (aW h s)∧eA s (aW h s)+4≤384:=by
  obtain⟨h1,h2,h3⟩:=oZ hc
  rw [h3]
  have hm:=IY (c:=bT h (s / 4).toNat) (by omega) h2
  have hst:0 < aT (bT h (s / 4).toNat):=by
    have:0≤bT h (s / 4).toNat∧bT h (s / 4).toNat≤2:=gZ.1 (by omega)
    rcases fQ this with e | e | e <;> rw [e] <;> decide
  have:4≤aT (bT h (s / 4).toNat):=by
    have:0≤bT h (s / 4).toNat∧bT h (s / 4).toNat≤2:=gZ.1 (by omega)
    rcases fQ this with e | e | e <;> rw [e] <;> decide
  unfold eA;rw [if_pos ⟨h1,h2⟩];omega
theorem oA{h:aD}(hs:fS h){s:Int}(hc:0≤aW h s):uM h s=some (hY h s):=by
  have hg:=E3 hc
  unfold uM
  rw [iM hs]
  simp only [aE,sU]
  have l1:=CZ hs.2.2.1 (a:=(eA s (aW h s)).toNat) (w:=4) (by omega) (by have:=hs.1;omega) (by have:=hs.1;omega)
  rw [show((4:Nat):Int)=4 from rfl,Int.toNat_of_nonneg hg.1] at l1
  rw [l1];rfl
theorem E4{h:aD}(hs:fS h){s:Int}(hc:0≤aW h s):zZ h s=some (hY h s):=by
  have hg:=E3 hc
  have hm:h.Bytes.length≤maxLen:=by rw [hs.1];simp [maxLen]
  unfold zZ qJ
  rw [C1 hm,lH hs]
  have l1:=zR hs.2.2.1 (a:=(eA s (aW h s)).toNat) (w:=4) (by omega) (by have:=hs.1;omega) (by have:=hs.1;omega)
  rw [show((4:Nat):Int)=4 from rfl,Int.toNat_of_nonneg hg.1] at l1
  have n1:¬aW h s < 0:=by omega
  simp [hs,n1,yP,l1,hY]
end Go.Gv
end
noncomputable section
namespace Go.Gv
def cK(l:List aQ):List Int:=l.flatMap aQ.aS
def dC(l:aB):List Int:=cK l.Global++cK l.Own
def LOk(l:aB):Prop:=l.Global.length=3∧l.Own.length=9∧(∀s∈l.Own,s.aS.length≤2)∧(∀x∈dC l,0≤x∧x≤23)∧(dC l).Nodup
instance (l:aB):Decidable (LOk l):=by unfold LOk;infer_instance
theorem MG{l:List aQ}{k:Nat}(h:k < l.length):cK (l.take (k+1))=cK (l.take k)++l[k].aS:=by
  unfold cK
  rw [List.take_succ_eq_append_getElem h,List.flatMap_append];simp
theorem aGB(l:List aQ)(k:Nat):(cK (l.take k)).length≤(cK l).length:=by
  have:cK l=cK (l.take k)++cK (l.drop k):=by
    unfold cK;rw [←List.flatMap_append,List.take_append_drop]
  rw [this];simp
theorem QM(l:List aQ){k:Nat}(h:k < l.length):l[k].aS.length≤(cK l).length:=by
  have h1:=aGB l (k+1)
  rw [MG h] at h1
  simp at h1;omega
theorem SK{l:aB}(h:(dC l).length≤1073741824)(hg:l.Global.length≤maxLen)(ho:l.Own.length≤maxLen):IG l=some (dC l):=by
  have hsum:(cK l.Global).length+(cK l.Own).length≤1073741824:=by simpa [dC] using h
  unfold IG
  have k1:loop (xR l) ([],0)=some (cK l.Global):=by
    refine iY (f:=xR l) l.Global.length (fun k=>(cK (l.Global.take k),(k:Int))) _ (fun k hk=>?_) ?_
    · have h1:=aGB l.Global (k+1)
      rw [MG hk] at h1
      simp only [xR]
      rw [if_pos (by simp;omega),aV hk]
      simp only [aE]
      rw [aM (by simp at h1;omega),MG hk,jA (o8 hk hg)]
    · simp [xR]
  rw [k1]
  simp only [aE,R3,R2]
  have k2:loop (xQ l) (cK l.Global,0)=some (dC l):=by
    have:=iY (f:=xQ l) l.Own.length (fun k=>(cK l.Global++cK (l.Own.take k),(k:Int))) (dC l) (fun k hk=>?_) ?_
    · simpa [cK] using this
    · have h1:=aGB l.Own (k+1)
      rw [MG hk] at h1
      simp only [xQ]
      rw [if_pos (by simp;omega),aV hk]
      simp only [aE]
      rw [aM (by simp at h1 ⊢;omega),MG hk,jA (o8 hk ho),List.append_assoc]
    · simp [xQ,dC]
  rw [k2];rfl
theorem K8{l:List Int}(hl:l.length≤maxLen)(x:Int):DR l x=some (decide (x∈l)):=by
  unfold DR
  have key:loop (sS l x) 0=some (if ∀y∈l,y≠x then Out.brk () else Out.ret true):=by
    refine j4 (f:=sS l x) l (fun k=>(k:Int)) (fun y=>y≠x) _ _ (fun k h hp=>?_) (fun k h hp=>?_) ?_
    · simp only [sS]
      rw [if_pos (by simp;omega),aV h,jA (o8 h hl)]
      have:(l[k] == x)=false:=by simpa using hp
      simp only [aE,this,aN,if_false]
    · simp only [sS]
      rw [if_pos (by simp;omega),aV h]
      have:(l[k] == x)=true:=by simpa using hp
      simp only [aE,this,if_true]
    · simp [sS]
  rw [key]
  by_cases h:x∈l
  · rw [if_neg (fun q=>q x h rfl),bC h];rfl
  · rw [if_pos (fun y hy (e:y=x)=>h (e ▸ hy)),bL h];rfl
theorem NQ(l:List Int):l.Nodup↔∀k (h:k < l.length),l[k]∉l.take k:=by
  unfold List.Nodup
  rw [List.pairwise_iff_getElem]
  constructor
  · intro h k hk hm
    obtain⟨i,hi,he⟩:=List.mem_take_iff_getElem.1 hm
    exact h i k (by omega) hk (by omega) he
  · intro h i j hi hj hij he
    exact h j hj (List.mem_take_iff_getElem.2 ⟨i,by omega,he⟩)
theorem YU{l:aB}(h:(dC l).length≤1073741824):HM l=some (decide (LOk l)):=by
  unfold HM zH
  by_cases hg:l.Global.length=3
  · by_cases ho:l.Own.length=9
    · have n1:((l.Global.length:Int) != 3)=false:=by simp;omega
      have n2:((l.Own.length:Int) != 9)=false:=by simp;omega
      simp only [n1,n2,aN,if_false]
      have k1:loop (m4 l) 0=some (if ∀s∈l.Own,s.aS.length≤2 then Out.brk () else Out.ret false):=by
        refine j4 (f:=m4 l) l.Own (fun k=>(k:Int)) (fun s=>s.aS.length≤2) _ _ (fun k hk hp=>?_) (fun k hk hp=>?_) ?_
        · simp only [m4]
          rw [if_pos (by simp;omega),aV hk,aO (by omega) (by omega)]
          simp only [aE]
          rw [if_neg (by simp;omega)];rfl
        · simp only [m4]
          rw [if_pos (by simp;omega),aV hk]
          simp only [aE]
          rw [if_pos (by simp;omega)]
        · simp [m4]
      rw [k1]
      by_cases h2:∀s∈l.Own,s.aS.length≤2
      · rw [if_pos h2]
        simp only [aE,OH,OG]
        rw [SK h (by rw [hg];simp [maxLen]) (by rw [ho];simp [maxLen])]
        simp only [aE]
        have k2:loop (m3 (dC l)) 0=some (if ∀k,k < (dC l).length→(0≤(dC l).getD k 0∧(dC l).getD k 0≤23)∧(dC l).getD k 0∉(dC l).take k then Out.brk () else Out.ret false):=by
          have hst:∀k,k < (dC l).length→m3 (dC l) (k:Int)=if (0≤(dC l).getD k 0∧(dC l).getD k 0≤23)∧(dC l).getD k 0∉(dC l).take k then some (.next ((k+1:Nat):Int)) else some (.stop (Out.ret false)):=by
            intro k hk
            have e:(dC l).getD k 0=(dC l)[k]:=by rw [List.getD_eq_getElem?_getD,List.getElem?_eq_getElem hk];rfl
            rw [e]
            simp only [m3]
            rw [if_pos (by simp;omega),aV hk]
            simp only [aE,bZ,zG]
            by_cases q:0≤(dC l)[k]∧(dC l)[k]≤23
            · rw [bC q]
              simp only [dE,aN,if_false,Int.toNat_natCast,List.drop_zero]
              rw [aM (by omega),K8 (by simp [maxLen];omega),aO (by omega) (by omega)]
              by_cases q2:(dC l)[k]∈(dC l).take k
              · rw [if_neg (fun x=>x.2 q2),bC q2];rfl
              · rw [if_pos ⟨q,q2⟩,bL q2];rfl
            · rw [bL q];simp only [iE,if_true];rw [if_neg (fun x=>q x.1)]
          refine vB (f:=m3 (dC l)) (dC l).length (fun k=>(k:Int)) (fun k=>(0≤(dC l).getD k 0∧(dC l).getD k 0≤23)∧(dC l).getD k 0∉(dC l).take k) _ _ (fun k hk hx=>?_) (fun k hk hx=>?_) ?_
          · rw [hst k hk,if_pos hx]
          · rw [hst k hk,if_neg hx]
          · simp [m3]
        rw [k2]
        have hiff:LOk l↔∀k,k < (dC l).length→(0≤(dC l).getD k 0∧(dC l).getD k 0≤23)∧(dC l).getD k 0∉(dC l).take k:=by
          have e:∀k (hk:k < (dC l).length),(dC l).getD k 0=(dC l)[k]:=fun k hk=>by rw [List.getD_eq_getElem?_getD,List.getElem?_eq_getElem hk];rfl
          constructor
          · rintro⟨_,_,_,q1,q2⟩ k hk
            rw [e k hk]
            exact⟨q1 _ (List.getElem_mem hk),(NQ _).1 q2 k hk⟩
          · intro q
            refine⟨hg,ho,h2,fun x hx=>?_,(NQ _).2 fun k hk=>?_⟩
            · obtain⟨k,hk,rfl⟩:=List.mem_iff_getElem.1 hx
              have:=(q k hk).1;rw [e k hk] at this;exact this
            · have:=(q k hk).2;rw [e k hk] at this;exact this
        by_cases q:LOk l
        · rw [if_pos (hiff.1 q),bC q];rfl
        · rw [if_neg (fun x=>q (hiff.2 x)),bL q];rfl
      · rw [if_neg h2,bL (fun q:LOk l=>h2 q.2.2.1)];rfl
    · have n1:((l.Global.length:Int) != 3)=false:=by simp;omega
      have n2:((l.Own.length:Int) != 9)=true:=by simp;omega
      simp only [n1,n2,aN,if_false,if_true]
      rw [bL (fun q:LOk l=>ho q.2.1)]
  · have n1:((l.Global.length:Int) != 3)=true:=by simp;omega
    simp only [n1,if_true]
    rw [bL (fun q:LOk l=>hg q.1)]
def yQ:List Bool→List Int→Option (List Bool)
  | met,[]=>some met
  | met,x :: r=>if (0≤x∧x≤23)∧met.getD x.toNat true=false then yQ (met.set x.toNat true) r else none
theorem aEU:∀{xs:List Int} {met m:List Bool},yQ met xs=some m→m.length=met.length
  | [],met,m,h=>by simp [yQ] at h;rw [h]
  | x :: r, met, m, h => by
    simp only [yQ] at h
    split at h
    · have:=aEU h;simpa using this
    · cases h
theorem U0:∀(a b:List Int) (met:List Bool),yQ met (a++b)=(yQ met a).bind fun m=>yQ m b
  | [],b,met=>rfl
  | x :: r, b, met => by
    simp only [List.cons_append,yQ]
    split
    · exact U0 r b _
    · rfl
theorem TL:∀(xs:List Int) (met:List Bool),met.length=24→((yQ met xs).isSome=true↔(∀x∈xs,0≤x∧x≤23)∧xs.Nodup∧∀x∈xs,met.getD x.toNat true=false)
  | [],met,hm=>by simp [yQ]
  | x :: r, met, hm => by
    simp only [yQ]
    by_cases h:(0≤x∧x≤23)∧met.getD x.toNat true=false
    · rw [if_pos h,TL r _ (by simpa using hm)]
      have hset:∀y,0≤y∧y≤23→(((met.set x.toNat true).getD y.toNat true=false)↔(y≠x∧met.getD y.toNat true=false)):=by
        intro y hy
        rw [List.getD_eq_getElem?_getD,List.getD_eq_getElem?_getD]
        by_cases e:y=x
        · subst e;rw [List.getElem?_set_self (by omega)];simp
        · rw [List.getElem?_set_ne (by omega)];simp [e]
      constructor
      · rintro⟨q1,q2,q3⟩
        refine⟨fun y hy=>?_,List.nodup_cons.2 ⟨fun hx=>?_,q2⟩,fun y hy=>?_⟩
        · rcases List.mem_cons.1 hy with rfl | hy
          · exact h.1
          · exact q1 y hy
        · exact((hset x h.1).1 (q3 x hx)).1 rfl
        · rcases List.mem_cons.1 hy with rfl | hy
          · exact h.2
          · exact((hset y (q1 y hy)).1 (q3 y hy)).2
      · rintro⟨q1,q2,q3⟩
        have q2:=List.nodup_cons.1 q2
        refine⟨fun y hy=>q1 y (List.mem_cons_of_mem _ hy),q2.2,fun y hy=>(hset y (q1 y (List.mem_cons_of_mem _ hy))).2 ⟨fun e=>q2.1 (e ▸ hy),q3 y (List.mem_cons_of_mem _ hy)⟩⟩
    · rw [if_neg h]
      constructor
      · intro q;cases q
      · rintro⟨q1,q2,q3⟩
        exact(h ⟨q1 x List.mem_cons_self,q3 x List.mem_cons_self⟩).elim
def aGC:Option (List Bool)→Out (List Bool) Bool
  | some m=>.brk m
  | none=>.ret false
theorem aYW{s:aQ}(hl:s.aS.length≤maxLen):∀d k (met:List Bool),k+d=s.aS.length→met.length=24→loop (k9 s) ((k:Int),met)=some (aGC (yQ met (s.aS.drop k))):=by
  intro d
  induction d with
  | zero =>
    intro k met hk hm
    rw [bO (r:=Out.brk met) (by simp [k9];omega),List.drop_eq_nil_of_le (by omega)];rfl
  | succ d ih =>
    intro k met hk hm
    have hk':k < s.aS.length:=by omega
    have hd:s.aS.drop k=s.aS[k] :: s.aS.drop (k+1):=List.drop_eq_getElem_cons hk'
    have hst:k9 s ((k:Int),met)=if (0≤s.aS[k]∧s.aS[k]≤23)∧met.getD s.aS[k].toNat true=false then some (.next (((k+1:Nat):Int),met.set s.aS[k].toNat true)) else some (.stop (Out.ret false)):=by
      simp only [k9]
      rw [if_pos (by simp;omega),aV hk']
      simp only [aE,vC]
      generalize s.aS[k]=x
      by_cases q:0≤x∧x≤23
      · obtain⟨j,rfl⟩:=Int.eq_ofNat_of_zero_le q.1
        have hj:j < met.length:=by omega
        have e:met.getD j true=met[j]:=by rw [List.getD_eq_getElem?_getD,List.getElem?_eq_getElem hj];rfl
        simp only [q,and_self,decide_true,dE,aN,if_false,mX,Int.toNat_natCast,true_and,e]
        rw [aM (by omega),aV hj]
        simp only [aE]
        cases met[j]
        · simp only [aN,if_false,if_true]
          rw [aM (by omega),jA (o8 hk' hl)]
        · simp
      · rw [bL q];simp only [iE,if_true,mX];rw [if_neg (fun x=>q x.1)]
    rw [hd,yQ]
    by_cases q:(0≤s.aS[k]∧s.aS[k]≤23)∧met.getD s.aS[k].toNat true=false
    · rw [if_pos q] at hst ⊢
      rw [bP hst,ih (k+1) _ (by omega) (by simpa using hm)]
    · rw [if_neg q] at hst ⊢
      rw [bO hst];rfl
def W4(l:List aQ):Prop:=∀s∈l,s.aS.length≤2
instance (l:List aQ):Decidable (W4 l):=by unfold W4;infer_instance
theorem aYX{l:aB}(ho:l.Own.length=9)(hn:(l.Own++l.Global).length≤1000)(hs:∀s∈l.Own++l.Global,s.aS.length≤maxLen):∀d k (met:List Bool),k+d=(l.Own++l.Global).length→met.length=24 →
    loop (lB l) ((k:Int),met)=some (if W4 (((l.Own++l.Global).drop k).take (9 - k))∧(yQ met (cK ((l.Own++l.Global).drop k))).isSome=true then Out.brk () else Out.ret false):=by
  intro d
  induction d with
  | zero =>
    intro k met hk hm
    rw [List.drop_eq_nil_of_le (by omega),if_pos ⟨by simp [W4],rfl⟩]
    refine bO ?_
    simp only [lB]
    rw [if_neg (by simp;simp at hk;omega)]
  | succ d ih =>
    intro k met hk hm
    have hk':k < (l.Own++l.Global).length:=by omega
    have hd:(l.Own++l.Global).drop k=(l.Own++l.Global)[k] :: (l.Own++l.Global).drop (k+1):=List.drop_eq_getElem_cons hk'
    have hsk:=hs _ (List.getElem_mem hk')
    have hf:cK ((l.Own++l.Global).drop k)=(l.Own++l.Global)[k].aS++cK ((l.Own++l.Global).drop (k+1)):=by unfold cK;rw [hd,List.flatMap_cons]
    have hin:∀b:Bool,lA (k:Int) met (l.Own++l.Global)[k] b=if b then some (.stop (Out.ret false)) else (match yQ met (l.Own++l.Global)[k].aS with | some m=>some (.next (((k+1:Nat):Int),m)) | none=>some (.stop (Out.ret false))):=by
      intro b
      have h4:=aYW hsk _ 0 met (Nat.zero_add _) hm
      rw [show((0:Nat):Int)=0 from rfl,List.drop_zero] at h4
      unfold lA
      rw [h4]
      cases b
      · simp only [aN,if_false,aE]
        cases yQ met (l.Own++l.Global)[k].aS with
        | none=>rfl
        | some m=>simp only [aGC,N8,yZ];rw [aO (by omega) (by omega)];rfl
      · rfl
    have hst:lB l ((k:Int),met)=lA (k:Int) met (l.Own++l.Global)[k] (decide (k < 9∧2 < (l.Own++l.Global)[k].aS.length)):=by
      simp only [lB]
      rw [if_pos (by simp;simp at hk';omega),aV hk']
      simp only [aE]
      by_cases h9:k < 9
      · rw [if_pos (by simp;omega)]
        congr 1
        rw [Bool.eq_iff_iff];simp only [decide_eq_true_eq];omega
      · rw [if_neg (by simp;omega),bL (by omega)]
    rw [hin] at hst
    by_cases h2:k < 9∧2 < (l.Own++l.Global)[k].aS.length
    · rw [bC h2] at hst
      simp only [if_true] at hst
      rw [bO hst,if_neg]
      rintro⟨q,_⟩
      have e:9 - k=(9 - (k+1))+1:=by omega
      rw [hd,e,List.take_succ_cons] at q
      have:=q _ List.mem_cons_self
      omega
    · rw [bL h2] at hst
      simp only [aN,if_false] at hst
      have hcond:W4 (((l.Own++l.Global).drop k).take (9 - k))↔W4 (((l.Own++l.Global).drop (k+1)).take (9 - (k+1))):=by
        unfold W4
        by_cases h9:k < 9
        · have e:9 - k=(9 - (k+1))+1:=by omega
          rw [hd,e,List.take_succ_cons,List.forall_mem_cons]
          exact⟨fun q=>q.2,fun q=>⟨by omega,q⟩⟩
        · have e:9 - k=0:=by omega
          have e':9 - (k+1)=0:=by omega
          rw [e,e'];simp
      rw [hf,U0]
      cases hg:yQ met (l.Own++l.Global)[k].aS with
      | none =>
        rw [hg] at hst
        rw [bO hst,if_neg (by simp)]
      | some m =>
        rw [hg] at hst
        rw [bP hst,ih (k+1) m (by omega) (by rw [aEU hg];exact hm)]
        simp only [aE,hcond]
theorem OV{l:aB}(h:(dC l).length≤1073741824):j9 l=some (decide (LOk l)):=by
  unfold j9 rL
  by_cases hg:l.Global.length=3
  · by_cases ho:l.Own.length=9
    · have n1:((l.Global.length:Int) != 3)=false:=by simp;omega
      have n2:((l.Own.length:Int) != 9)=false:=by simp;omega
      simp only [n1,n2,aN,if_false]
      rw [aM (by omega)]
      have hsl:∀s∈l.Own++l.Global,s.aS.length≤maxLen:=by
        intro s hm
        have hsum:(cK l.Global).length+(cK l.Own).length≤1073741824:=by simpa [dC] using h
        have hb:(1073741824:Nat)≤maxLen:=by simp [maxLen]
        rcases List.mem_append.1 hm with hm | hm
        · obtain⟨k,hk,rfl⟩:=List.mem_iff_getElem.1 hm
          have:=QM l.Own hk;omega
        · obtain⟨k,hk,rfl⟩:=List.mem_iff_getElem.1 hm
          have:=QM l.Global hk;omega
      have key:=aYX ho (by simp;omega) hsl (l.Own++l.Global).length 0 [false,false,false,false,false,false,false,false,false,false,false,false,false,false,false,false,false,false,false,false,false,false,false,false] (by omega) rfl
      rw [show((0:Nat):Int)=0 from rfl,List.drop_zero,Nat.sub_zero] at key
      rw [key]
      have et:(l.Own++l.Global).take 9=l.Own:=by rw [←ho];simp
      have ef:cK (l.Own++l.Global)=cK l.Own++cK l.Global:=by simp [cK]
      have hm0:∀j:Nat,j < 24→[false,false,false,false,false,false,false,false,false,false,false,false,false,false,false,false,false,false,false,false,false,false,false,false].getD j true=false:=by decide
      have hiff:LOk l↔W4 ((l.Own++l.Global).take 9)∧(yQ [false,false,false,false,false,false,false,false,false,false,false,false,false,false,false,false,false,false,false,false,false,false,false,false] (cK (l.Own++l.Global))).isSome=true:=by
        rw [TL _ _ rfl,et,ef]
        have hp:(cK l.Own++cK l.Global).Perm (dC l):=List.perm_append_comm
        constructor
        · rintro⟨_,_,q1,q2,q3⟩
          exact⟨q1,fun x hx=>q2 x (hp.mem_iff.1 hx),hp.nodup_iff.2 q3,fun x hx=>hm0 _ (by have:=q2 x (hp.mem_iff.1 hx);omega)⟩
        · rintro⟨q1,q2,q3,_⟩
          exact⟨hg,ho,q1,fun x hx=>q2 x (hp.mem_iff.2 hx),hp.nodup_iff.1 q3⟩
      by_cases q:LOk l
      · rw [if_pos (hiff.1 q),bC q];rfl
      · rw [if_neg (fun x=>q (hiff.2 x)),bL q];rfl
    · have n1:((l.Global.length:Int) != 3)=false:=by simp;omega
      have n2:((l.Own.length:Int) != 9)=true:=by simp;omega
      simp only [n1,n2,aN,if_false,if_true]
      rw [bL (fun q:LOk l=>ho q.2.1)]
  · have n1:((l.Global.length:Int) != 3)=true:=by simp;omega
    simp only [n1,if_true]
    rw [bL (fun q:LOk l=>hg q.1)]
end Go.Gv
end
noncomputable section
namespace Go.Gv
def C2(h:aD)(l:List Int)(c:Int):Prop:=∀x∈l,aW h x=c∧hY h x≤6
instance (h:aD) (l:List Int) (c:Int):Decidable (C2 h l c):=by unfold C2;infer_instance
theorem MH{h:aD}(hs:fS h){l:List Int}(hl:l.length≤maxLen){c:Int}(hc:0≤c):xS h l c=some (decide (C2 h l c)):=by
  unfold xS
  have key:loop (l9 h l c) 0=some (if ∀x∈l,aW h x=c∧hY h x≤6 then Out.brk () else Out.ret false):=by
    have hst:∀k (hk:k < l.length),l9 h l c (k:Int)=if aW h l[k]=c∧hY h l[k]≤6 then some (.next ((k+1:Nat):Int)) else some (.stop (Out.ret false)):=by
      intro k hk
      simp only [l9]
      rw [if_pos (by simp;omega),aV hk]
      generalize l[k]=x
      simp only [aE,iM hs,vV]
      by_cases q:aW h x=c
      · have n1:(aW h x != c)=false:=by simp only [bne_eq_false_iff_eq];exact q
        simp only [n1,aN,if_false,oA hs (show 0≤aW h x by omega),aE,jA (o8 hk hl)]
        by_cases q2:hY h x≤6
        · rw [if_neg (by simp;omega),if_pos ⟨q,q2⟩]
        · rw [if_pos (by simp;omega),if_neg (fun x=>q2 x.2)]
      · have n1:(aW h x != c)=true:=by simp only [bne_iff_ne];exact q
        simp only [n1,if_true]
        rw [if_neg (fun x=>q x.1)]
    refine j4 (f:=l9 h l c) l (fun k=>(k:Int)) (fun x=>aW h x=c∧hY h x≤6) _ _ (fun k hk hp=>?_) (fun k hk hp=>?_) ?_
    · rw [hst k hk,if_pos hp]
    · rw [hst k hk,if_neg hp]
    · simp [l9]
  rw [key]
  by_cases q:∀x∈l,aW h x=c∧hY h x≤6
  · rw [if_pos q,bC (show C2 h l c from q)];rfl
  · rw [if_neg q,bL (show ¬C2 h l c from q)];rfl
theorem MI{h:aD}(hs:fS h){s:aQ}(hl:s.aS.length≤maxLen){c:Int}(hc:0≤c):xC h s c=some (decide (C2 h s.aS c)):=by
  unfold xC
  have key:loop (l6 h s c) 0=some (if ∀x∈s.aS,aW h x=c∧hY h x≤6 then Out.brk () else Out.ret false):=by
    have hst:∀k (hk:k < s.aS.length),l6 h s c (k:Int)=if aW h s.aS[k]=c∧hY h s.aS[k]≤6 then some (.next ((k+1:Nat):Int)) else some (.stop (Out.ret false)):=by
      intro k hk
      simp only [l6]
      rw [if_pos (by simp;omega),aV hk]
      generalize s.aS[k]=x
      simp only [aE,lH hs,vJ]
      by_cases q:aW h x=c
      · have n1:(aW h x != c)=false:=by simp only [bne_eq_false_iff_eq];exact q
        simp only [n1,aN,if_false,E4 hs (show 0≤aW h x by omega),aE,jA (o8 hk hl)]
        by_cases q2:hY h x≤6
        · rw [if_neg (by simp;omega),if_pos ⟨q,q2⟩]
        · rw [if_pos (by simp;omega),if_neg (fun x=>q2 x.2)]
      · have n1:(aW h x != c)=true:=by simp only [bne_iff_ne];exact q
        simp only [n1,if_true]
        rw [if_neg (fun x=>q x.1)]
    refine j4 (f:=l6 h s c) s.aS (fun k=>(k:Int)) (fun x=>aW h x=c∧hY h x≤6) _ _ (fun k hk hp=>?_) (fun k hk hp=>?_) ?_
    · rw [hst k hk,if_pos hp]
    · rw [hst k hk,if_neg hp]
    · simp [l6]
  rw [key]
  by_cases q:∀x∈s.aS,aW h x=c∧hY h x≤6
  · rw [if_pos q,bC (show C2 h s.aS c from q)];rfl
  · rw [if_neg q,bL (show ¬C2 h s.aS c from q)];rfl
def dO(l:List aQ)(k:Nat):List Int:=(l.getD k ⟨[]⟩).aS
theorem dD{l:List aQ}{k:Nat}(h:k < l.length):l[k].aS=dO l k:=by
  unfold dO;rw [List.getD_eq_getElem?_getD,List.getElem?_eq_getElem h];rfl
def JJ(m:Mem)(k:Nat):Prop:=C2 m.aD (dO m.aB.Global k) (k:Int)
def C3(m:Mem)(k:Nat):Prop:=C2 m.aD (dO m.aB.Own k) ((k % 3:Nat):Int)
instance (m:Mem) (k:Nat):Decidable (JJ m k):=by unfold JJ;infer_instance
instance (m:Mem) (k:Nat):Decidable (C3 m k):=by unfold C3;infer_instance
instance (m:Mem):Decidable (∀k,k < 3→JJ m k):=Nat.decidableBallLT 3 fun k _=>JJ m k
instance (m:Mem):Decidable (∀k,k < 9→C3 m k):=Nat.decidableBallLT 9 fun k _=>C3 m k
instance (m:Mem) (c:Nat):Decidable (∀w,w < 3→C3 m (w * 3+c)):=Nat.decidableBallLT 3 fun w _=>C3 m (w * 3+c)
instance (m:Mem):Decidable (∀k,k < 3→JJ m k∧∀w,w < 3→C3 m (w * 3+k)):=Nat.decidableBallLT 3 fun k _=>JJ m k∧∀w,w < 3→C3 m (w * 3+k)
def mD(m:Mem):Prop:=(RU m.aD∧LOk m.aB)∧(∀k,k < 3→JJ m k)∧∀k,k < 9→C3 m k
instance (m:Mem):Decidable (mD m):=by unfold mD;infer_instance
theorem LOk.W5{l:aB}(h:LOk l)(hb:(dC l).length≤1073741824):(∀s∈l.Global,s.aS.length≤1073741824)∧∀s∈l.Own,s.aS.length≤1073741824:=by
  have hsum:(cK l.Global).length+(cK l.Own).length≤1073741824:=by simpa [dC] using hb
  constructor
  · intro s hm
    obtain⟨k,hk,rfl⟩:=List.mem_iff_getElem.1 hm
    have:=QM l.Global hk;omega
  · intro s hm
    obtain⟨k,hk,rfl⟩:=List.mem_iff_getElem.1 hm
    have:=QM l.Own hk;omega
theorem aL6{m:Mem}:(∀k,k < 3→JJ m k∧∀w,w < 3→C3 m (w * 3+k))↔(∀k,k < 3→JJ m k)∧∀k,k < 9→C3 m k:=by
  constructor
  · intro h
    refine⟨fun k hk=>(h k hk).1,fun k hk=>?_⟩
    have:=(h (k % 3) (by omega)).2 (k / 3) (by omega)
    have e:k / 3 * 3+k % 3=k:=by omega
    rwa [e] at this
  · rintro⟨h1,h2⟩ k hk
    exact⟨h1 k hk,fun w hw=>h2 _ (by omega)⟩
theorem E5{m:Mem}(hb:m.aD.Bytes.length≤maxLen)(hl:(dC m.aB).length≤1073741824):AE m=some (decide (mD m)):=by
  unfold AE ES
  rw [QL hb,YU hl]
  by_cases h1:RU m.aD
  · by_cases h2:LOk m.aB
    · have hmx:(1073741824:Nat)≤maxLen:=by simp [maxLen]
      have hsl:=LOk.W5 h2 hl
      simp only [bC h1,bC h2,aE,dE,aN,if_false]
      have k3:∀c:Nat,c < 3→loop (xU m (c:Int)) 0=some (if ∀w,w < 3→C3 m (w * 3+c) then Out.brk () else Out.ret false):=by
        intro c hc
        have hst:∀w:Nat,w < 3→xU m (c:Int) (w:Int)=if C3 m (w * 3+c) then some (.next ((w+1:Nat):Int)) else some (.stop (Out.ret false)):=by
          intro w hw
          have hk:w * 3+c < m.aB.Own.length:=by rw [h2.2.1];omega
          have e:uN (w:Int) (c:Int)=some ((w * 3+c:Nat):Int):=by
            unfold uN xT
            rw [bZ,bZ,bC (by omega),bC (by omega)]
            simp only [aE,dE,aN,if_false]
            rw [aO (x:=(w:Int) * 3) (by omega) (by omega),aO (by omega) (by omega)];rfl
          have hlen:=hsl.2 _ (List.getElem_mem hk)
          simp only [xU]
          rw [if_pos (by simp;omega),e]
          simp only [aE,aV hk]
          rw [MH h1.1 (by omega) (by omega),dD hk]
          have em:(w * 3+c) % 3=c:=by omega
          have ho:C3 m (w * 3+c)↔C2 m.aD (dO m.aB.Own (w * 3+c)) (c:Int):=by unfold C3;rw [em]
          rw [aO (by omega) (by omega)]
          by_cases q:C3 m (w * 3+c)
          · rw [if_pos q,bC (ho.1 q)];rfl
          · rw [if_neg q,bL (fun x=>q (ho.2 x))];rfl
        refine vB (f:=xU m (c:Int)) 3 (fun k=>(k:Int)) (fun w=>C3 m (w * 3+c)) _ _ (fun k hk hx=>?_) (fun k hk hx=>?_) ?_
        · rw [hst k hk,if_pos hx]
        · rw [hst k hk,if_neg hx]
        · rfl
      have k2:loop (xV m) 0=some (if ∀k,k < 3→JJ m k∧∀w,w < 3→C3 m (w * 3+k) then Out.brk () else Out.ret false):=by
        have hst:∀c:Nat,c < 3→xV m (c:Int)=if JJ m c∧∀w,w < 3→C3 m (w * 3+c) then some (.next ((c+1:Nat):Int)) else some (.stop (Out.ret false)):=by
          intro c hc
          have hk:c < m.aB.Global.length:=by rw [h2.1];omega
          have hlen:=hsl.1 _ (List.getElem_mem hk)
          simp only [xV]
          rw [if_pos (by simp;omega)]
          simp only [aE,aV hk]
          rw [MH h1.1 (by omega) (by omega),dD hk,k3 c hc]
          by_cases q:JJ m c
          · have q':C2 m.aD (dO m.aB.Global c) (c:Int):=q
            rw [bC q']
            simp only [aE,dE,aN,if_false]
            by_cases q2:∀w,w < 3→C3 m (w * 3+c)
            · rw [if_pos q2,if_pos ⟨q,q2⟩]
              simp only [R5,R4]
              rw [aO (by omega) (by omega)];rfl
            · rw [if_neg q2,if_neg (fun x=>q2 x.2)];rfl
          · have q':¬C2 m.aD (dO m.aB.Global c) (c:Int):=q
            rw [bL q',if_neg (fun x:JJ m c∧_=>q x.1)];rfl
        refine vB (f:=xV m) 3 (fun k=>(k:Int)) (fun k=>JJ m k∧∀w,w < 3→C3 m (w * 3+k)) _ _ (fun k hk hx=>?_) (fun k hk hx=>?_) ?_
        · rw [hst k hk,if_pos hx]
        · rw [hst k hk,if_neg hx]
        · rfl
      rw [k2]
      by_cases q:∀k,k < 3→JJ m k∧∀w,w < 3→C3 m (w * 3+k)
      · rw [if_pos q,bC (show mD m from ⟨⟨h1,h2⟩,aL6.1 q⟩)];rfl
      · rw [if_neg q,bL (fun x:mD m=>q (aL6.2 x.2))];rfl
    · rw [bL (fun q:mD m=>h2 q.1.2),bC h1,bL h2];rfl
  · rw [bL (fun q:mD m=>h1 q.1.1),bL h1];rfl
theorem SL{m:Mem}(hb:m.aD.Bytes.length≤maxLen)(hl:(dC m.aB).length≤1073741824):IC m=some (decide (mD m)):=by
  unfold IC EE
  rw [I0 hb,OV hl]
  by_cases h1:RU m.aD
  · by_cases h2:LOk m.aB
    · have hmx:(1073741824:Nat)≤maxLen:=by simp [maxLen]
      have hsl:=LOk.W5 h2 hl
      simp only [bC h1,bC h2,aE,dE,aN,if_false]
      have k3:loop (sP m) 0=some (if ∀k,k < 9→C3 m k then Out.brk () else Out.ret false):=by
        have hst:∀w:Nat,w < 9→sP m (w:Int)=if C3 m w then some (.next ((w+1:Nat):Int)) else some (.stop (Out.ret false)):=by
          intro w hw
          have hk:w < m.aB.Own.length:=by rw [h2.2.1];omega
          have hlen:=hsl.2 _ (List.getElem_mem hk)
          have em:Int.tmod (w:Int) 3=((w % 3:Nat):Int):=by rw [yO (by omega)];omega
          simp only [sP]
          rw [if_pos (by simp;omega)]
          simp only [aE,aV hk,em]
          rw [MI h1.1 (by omega) (by omega),dD hk,aO (by omega) (by omega)]
          by_cases q:C3 m w
          · rw [if_pos q,bC (show C2 m.aD (dO m.aB.Own w) ((w % 3:Nat):Int) from q)];rfl
          · rw [if_neg q,bL (show ¬C2 m.aD (dO m.aB.Own w) ((w % 3:Nat):Int) from q)];rfl
        refine vB (f:=sP m) 9 (fun k=>(k:Int)) (fun w=>C3 m w) _ _ (fun k hk hx=>?_) (fun k hk hx=>?_) ?_
        · rw [hst k hk,if_pos hx]
        · rw [hst k hk,if_neg hx]
        · simp [sP,h2.2.1]
      have k2:loop (sQ m) 0=some (if ∀k,k < 3→JJ m k then Out.brk () else Out.ret false):=by
        have hst:∀w:Nat,w < 3→sQ m (w:Int)=if JJ m w then some (.next ((w+1:Nat):Int)) else some (.stop (Out.ret false)):=by
          intro w hw
          have hk:w < m.aB.Global.length:=by rw [h2.1];omega
          have hlen:=hsl.1 _ (List.getElem_mem hk)
          simp only [sQ]
          rw [if_pos (by simp;omega)]
          simp only [aE,aV hk]
          rw [MI h1.1 (by omega) (by omega),dD hk,aO (by omega) (by omega)]
          by_cases q:JJ m w
          · rw [if_pos q,bC (show C2 m.aD (dO m.aB.Global w) (w:Int) from q)];rfl
          · rw [if_neg q,bL (show ¬C2 m.aD (dO m.aB.Global w) (w:Int) from q)];rfl
        refine vB (f:=sQ m) 3 (fun k=>(k:Int)) (fun w=>JJ m w) _ _ (fun k hk hx=>?_) (fun k hk hx=>?_) ?_
        · rw [hst k hk,if_pos hx]
        · rw [hst k hk,if_neg hx]
        · simp [sQ,h2.1]
      rw [k2]
      by_cases q:∀k,k < 3→JJ m k
      · rw [if_pos q]
        simp only [aE,RZ,RY]
        rw [k3]
        by_cases q2:∀k,k < 9→C3 m k
        · rw [if_pos q2,bC (show mD m from ⟨⟨h1,h2⟩,q,q2⟩)];rfl
        · rw [if_neg q2,bL (fun x:mD m=>q2 x.2.2)];rfl
      · rw [if_neg q,bL (fun x:mD m=>q x.2.1)];rfl
    · rw [bL (fun q:mD m=>h2 q.1.2),bC h1,bL h2];rfl
  · rw [bL (fun q:mD m=>h1 q.1.1),bL h1];rfl
end Go.Gv
end
noncomputable section
namespace Go.Gv
theorem FQ{l:List aQ}{s:aQ}(h:s∈l):s.aS.length≤(cK l).length:=by
  obtain⟨k,hk,rfl⟩:=List.mem_iff_getElem.1 h
  exact QM l hk
theorem pW(l:aB):(dC l).length=(cK l.Global).length+(cK l.Own).length:=by simp [dC]
def wV(m:Mem):Prop:=m.aD.Bytes.length≤1048576∧m.aD.Class.length≤1048576∧m.aB.Global.length≤1048576∧m.aB.Own.length≤1048576∧(dC m.aB).length≤1048576
theorem wV.W5{m:Mem}(h:wV m):(∀s∈m.aB.Global,s.aS.length≤1048576)∧∀s∈m.aB.Own,s.aS.length≤1048576:=by
  have:=pW m.aB
  have h5:=h.2.2.2.2
  exact⟨fun s hm=>by have:=FQ hm;omega,fun s hm=>by have:=FQ hm;omega⟩
end Go.Gv
end
noncomputable section
namespace Go.Gv
def POk(e:Int)(p:oE):Prop:=(0≤p.aI∧p.aI≤e)∧(0≤p.Seen∧p.Seen≤2)∧(p.On=false→p=⟨false,0,false,0⟩)
instance (e:Int) (p:oE):Decidable (POk e p):=by unfold POk;infer_instance
def I1(c:aC):Prop:=(0≤c.aI∧c.aI≤100000)∧c.cH.length=3∧∀p∈c.cH,POk c.aI p
instance (c:aC):Decidable (I1 c):=by unfold I1;infer_instance
theorem iN(c:aC):nR c=some (decide (I1 c)):=by
  unfold nR
  rw [bZ]
  by_cases h1:0≤c.aI∧c.aI≤100000
  · by_cases h2:c.cH.length=3
    · simp only [aE,h1,h2,m6]
      have key:∀k:Nat,k≤3→loop (rX c) (k:Int)=some (if ∀p∈c.cH.drop k,POk c.aI p then Out.brk () else Out.ret false):=by
        refine aFD 3 _ fun k hk=>?_
        by_cases h3:k < 3
        · have hd:c.cH.drop k=c.cH[k] :: c.cH.drop (k+1):=List.drop_eq_getElem_cons (by omega)
          simp only [rX]
          rw [if_pos (by simp;omega),aV (by omega)]
          simp only [aE,bZ,lF,hd]
          rw [jA (by simp [maxLen];omega)]
          generalize c.cH[k]=p
          have hp:POk c.aI p↔decide (0≤p.aI∧p.aI≤c.aI)=true∧decide (0≤p.Seen∧p.Seen≤2)=true∧(p.On=false→decide (p=⟨false,0,false,0⟩)=true):=by simp only [POk,decide_eq_true_eq]
          simp only [List.forall_mem_cons,hp]
          generalize decide (0≤p.aI∧p.aI≤c.aI)=b1
          generalize decide (0≤p.Seen∧p.Seen≤2)=b2
          generalize decide (p=⟨false,0,false,0⟩)=b3
          generalize p.On=b4
          cases b1 <;> cases b2 <;> cases b3 <;> cases b4 <;> simp [h3]
        · left
          obtain rfl:k=3:=by omega
          simp [rX,List.drop_eq_nil_of_le (show c.cH.length≤3 by omega)]
      have:=key 0 (by omega)
      simp only [Int.ofNat_zero,List.drop_zero] at this
      have e:decide (I1 c)=if ∀p∈c.cH,POk c.aI p then true else false:=by
        have:I1 c↔∀p∈c.cH,POk c.aI p:=⟨fun h=>h.2.2,fun h=>⟨h1,h2,h⟩⟩
        simp [this]
      rw [e]
      simp only [Int.cast_ofNat_Int] at *
      have t0:loop (rX c) 0=_:=this
      by_cases h5:∀p∈c.cH,POk c.aI p
      · rw [if_pos h5] at t0 ⊢;rw [t0];simp [GA,OI]
      · rw [if_neg h5] at t0 ⊢;rw [t0];simp [GA]
    · simp [h1,h2,m6,I1]
      omega
  · simp [h1,m6,I1]
theorem aH8(p:oE)(c:aC):tX p c=some (!decide (POk c.aI p)):=by
  unfold tX kR
  rw [dR,dR]
  have hp:decide (POk c.aI p)=(decide (0≤p.aI∧p.aI≤c.aI) && (decide (0≤p.Seen∧p.Seen≤2) && (p.On || decide (p=⟨false,0,false,0⟩)))):=by
    rw [Bool.eq_iff_iff];simp only [POk,decide_eq_true_eq,Bool.and_eq_true,Bool.or_eq_true]
    by_cases h:p.On=true
    · simp [h]
    · simp [(by simpa using h:p.On=false)]
  rw [hp]
  generalize decide (0≤p.aI∧p.aI≤c.aI)=b1
  generalize decide (0≤p.Seen∧p.Seen≤2)=b2
  generalize decide (p=⟨false,0,false,0⟩)=b3
  generalize p.On=b4
  cases b1 <;> cases b2 <;> cases b3 <;> cases b4 <;> rfl
theorem aGE{l:List oE}(hl:l.length≤maxLen)(f:oE→Bool):kQ l (fun x=>some (f x))=some (l.any f):=by
  unfold kQ tW
  have key:∀k:Nat,k≤l.length→loop (iS l (fun x=>some (f x))) (k:Int)=some (if (l.drop k).any f then Out.ret ((k+(l.drop k).findIdx f:Nat):Int) else Out.brk ()):=by
    refine aFD l.length _ fun k hk=>?_
    by_cases h3:k < l.length
    · have hd:l.drop k=l[k] :: l.drop (k+1):=List.drop_eq_getElem_cons h3
      simp only [iS]
      rw [if_pos (by simp;omega),aV h3,jA (o8 h3 hl),hd]
      simp only [aE,List.any_cons,List.findIdx_cons]
      by_cases h4:f l[k]=true
      · left;simp [h4]
      · right
        have h4:f l[k]=false:=by simpa using h4
        refine⟨h3,by simp [h4],?_⟩
        simp only [h4,Bool.false_or,cond_false]
        congr 2;omega
    · left
      obtain rfl:k=l.length:=by omega
      simp [iS]
  have t0:loop (iS l (fun x=>some (f x))) 0=_:=key 0 (by omega)
  rw [t0]
  simp only [List.drop_zero]
  by_cases h:l.any f=true
  · simp [h,pG]
  · have h:l.any f=false:=by simpa using h
    simp [h,pG,AS]
theorem sJ{c:aC}(hc:c.cH.length≤maxLen):nK c=some (decide (I1 c)):=by
  unfold nK rM
  rw [dR]
  have e:(fun y0=>tX y0 c)=fun y0=>some (!decide (POk c.aI y0)):=funext fun y=>aH8 y c
  rw [e,aGE hc]
  by_cases h1:0≤c.aI∧c.aI≤100000
  · by_cases h2:c.cH.length=3
    · have:I1 c↔∀p∈c.cH,POk c.aI p:=⟨fun h=>h.2.2,fun h=>⟨h1,h2,h⟩⟩
      have e2:(c.cH.any fun y0=>!decide (POk c.aI y0))=!decide (∀p∈c.cH,POk c.aI p):=by
        rw [Bool.eq_iff_iff];simp
      simp [h1,h2,this,e2]
    · have:¬(c.cH.length:Int)=3:=by omega
      simp [h1,this,h2,I1]
  · simp [h1,I1]
end Go.Gv
end
noncomputable section
namespace Go.Gv
def bH(l:List bA):List cW:=l.flatMap bA.Rows
theorem I2{l:List bA}{k:Nat}(h:k < l.length):bH (l.take (k+1))=bH (l.take k)++l[k].Rows:=by
  unfold bH
  rw [List.take_succ_eq_append_getElem h,List.flatMap_append];simp
theorem aB2(l:List bA)(k:Nat):(bH (l.take k)).length≤(bH l).length:=by
  have:bH l=bH (l.take k)++bH (l.drop k):=by
    unfold bH;rw [←List.flatMap_append,List.take_append_drop]
  rw [this];simp
theorem aM5(l:List bA){k:Nat}(h:k < l.length):l[k].Rows.length≤(bH l).length:=by
  have h1:=aB2 l (k+1)
  rw [I2 h] at h1
  simp at h1;omega
theorem MJ{l:List bA}{s:bA}(h:s∈l):s.Rows.length≤(bH l).length:=by
  obtain⟨k,hk,rfl⟩:=List.mem_iff_getElem.1 h
  exact aM5 l hk
theorem I3{l:List bA}(h:(bH l).length≤1073741824)(hl:l.length≤maxLen):AW l=some (bH l):=by
  unfold AW
  have k1:loop (uO l) ([],0)=some (bH l):=by
    refine iY (f:=uO l) l.length (fun k=>(bH (l.take k),(k:Int))) _ (fun k hk=>?_) ?_
    · have h1:=aB2 l (k+1)
      rw [I2 hk] at h1
      simp only [uO]
      rw [if_pos (by simp;omega),aV hk]
      simp only [aE]
      rw [aM (by simp at h1;omega),I2 hk,jA (o8 hk hl)]
    · simp [uO]
  rw [k1];rfl
def jN(h:Int):Prop:=(32≤h∧h≤223)∧h % 32 < 24
instance (h:Int):Decidable (jN h):=by unfold jN;infer_instance
theorem eB(h:Int):hC h=some (decide (jN h)):=by
  unfold hC vW jN
  rw [bZ]
  by_cases q:32≤h∧h≤223
  · simp [q,yO (show 0≤h by omega)]
  · simp [q]
theorem iW(h:Int):g9 h=some (decide (jN h)):=by
  unfold g9 l7 jN
  rw [dR]
  by_cases q:32≤h∧h≤223
  · simp [q,yO (show 0≤h by omega)]
  · simp [q]
theorem jN.mod{h:Int}(q:jN h):Int.tmod h 32=h % 32∧0≤h % 32∧h % 32≤23:=by
  unfold jN at q
  exact⟨yO (by omega),by omega,by omega⟩
theorem cN(h:Int):dS h=some (if jN h then h % 32 else -1):=by
  unfold dS
  rw [eB]
  by_cases q:jN h
  · simp [q,q.mod.1]
  · simp [q]
def yR(r:cW):Prop:=jN r.Handle∧0≤r.aI∧r.aI≤100000
instance (r:cW):Decidable (yR r):=by unfold yR;infer_instance
def kW(r:cW):Int:=r.Handle % 32
def oF(l:List bA):Prop:=l.length=3∧(bH l).length≤24∧(∀r∈bH l,yR r)∧((bH l).map kW).Nodup
instance (l:List bA):Decidable (oF l):=by unfold oF;infer_instance
def rowAt(l:List cW)(k:Nat):cW:=l.getD k ⟨0,0⟩
theorem RM{l:List cW}{k:Nat}(h:k < l.length):rowAt l k=l[k]:=by
  unfold rowAt;rw [List.getD_eq_getElem?_getD,List.getElem?_eq_getElem h];rfl
theorem YV{l:List bA}(h:(bH l).length≤1073741824)(hl:l.length≤maxLen):HO l=some (decide (oF l)):=by
  unfold HO zI
  rw [I3 h hl]
  simp only [aE]
  by_cases h3:l.length=3
  · have n1:((l.length:Int) != 3)=false:=by simp;omega
    simp only [n1,aN,if_false]
    by_cases h24:(bH l).length≤24
    · rw [if_neg (by simp;omega)]
      have hst:∀k,k < (bH l).length→rZ (bH l) (((bH l).take k).map kW,(k:Int))=if yR (rowAt (bH l) k)∧kW (rowAt (bH l) k)∉((bH l).take k).map kW then some (.next (((bH l).take (k+1)).map kW,((k+1:Nat):Int))) else some (.stop (Out.ret false)):=by
        intro k hk
        simp only [rZ,rY]
        rw [if_pos (by simp;omega),aV hk,RM hk]
        simp only [aE,cN,bZ]
        by_cases q:jN (bH l)[k].Handle
        · have hm:=q.mod
          rw [if_pos q,if_neg (by simp;omega)]
          by_cases q2:0≤(bH l)[k].aI∧(bH l)[k].aI≤100000
          · rw [bC q2]
            simp only [dE,aN,if_false]
            rw [K8 (by simp [maxLen];omega)]
            simp only [aE]
            by_cases q3:(bH l)[k].Handle % 32∈((bH l).take k).map kW
            · rw [bC q3];simp only [if_true];rw [if_neg (show ¬(yR (bH l)[k]∧kW (bH l)[k]∉((bH l).take k).map kW) from fun x=>x.2 q3)]
            · rw [bL q3]
              simp only [aN,if_false]
              rw [if_pos (show yR (bH l)[k]∧kW (bH l)[k]∉((bH l).take k).map kW from ⟨⟨q,q2⟩,q3⟩),aM (by simp;omega),aO (by omega) (by omega),map_take _ hk];rfl
          · rw [bL q2]
            simp only [iE,if_true]
            rw [if_neg (fun x:yR _∧_=>q2 x.1.2)]
        · rw [if_neg q,if_pos (by simp),if_neg (fun x:yR _∧_=>q x.1.1)];rfl
      have key:=vB (f:=rZ (bH l)) (bH l).length (fun k=>(((bH l).take k).map kW,(k:Int))) (fun k=>yR (rowAt (bH l) k)∧kW (rowAt (bH l) k)∉((bH l).take k).map kW) (Out.brk ()) (Out.ret false) (fun k hk hx=>by rw [hst k hk,if_pos hx]) (fun k hk hx=>by rw [hst k hk,if_neg hx]) (by simp [rZ])
      rw [List.take_zero,List.map_nil,show((0:Nat):Int)=0 from rfl] at key
      rw [key]
      have hiff:oF l↔∀k,k < (bH l).length→yR (rowAt (bH l) k)∧kW (rowAt (bH l) k)∉((bH l).take k).map kW:=by
        constructor
        · rintro⟨_,_,q1,q2⟩ k hk
          rw [RM hk]
          refine⟨q1 _ (List.getElem_mem hk),?_⟩
          have:=(NQ _).1 q2 k (by simpa using hk)
          rw [List.getElem_map,←List.map_take] at this
          exact this
        · intro q
          refine⟨h3,h24,fun x hx=>?_,(NQ _).2 fun k hk=>?_⟩
          · obtain⟨k,hk,rfl⟩:=List.mem_iff_getElem.1 hx
            have:=(q k hk).1;rw [RM hk] at this;exact this
          · have hk':k < (bH l).length:=by simpa using hk
            have:=(q k hk').2;rw [RM hk'] at this
            rw [List.getElem_map,←List.map_take];exact this
      by_cases q:oF l
      · rw [if_pos (hiff.1 q),bC q];rfl
      · rw [if_neg (fun x=>q (hiff.2 x)),bL q];rfl
    · rw [if_pos (by simp;omega),bL (fun q:oF l=>h24 q.2.1)]
  · have n1:((l.length:Int) != 3)=true:=by simp;omega
    simp only [n1,if_true]
    rw [bL (fun q:oF l=>h3 q.1)]
def goR:List Bool→List cW→Option (List Bool)
  | met,[]=>some met
  | met,r :: t=>if yR r∧met.getD (kW r).toNat true=false then goR (met.set (kW r).toNat true) t else none
theorem aL7:∀{xs:List cW} {met m:List Bool},goR met xs=some m→m.length=met.length
  | [],met,m,h=>by simp [goR] at h;rw [h]
  | x :: r, met, m, h => by
    simp only [goR] at h
    split at h
    · have:=aL7 h;simpa using this
    · cases h
theorem aB3:∀(a b:List cW) (met:List Bool),goR met (a++b)=(goR met a).bind fun m=>goR m b
  | [],b,met=>rfl
  | x :: r, b, met => by
    simp only [List.cons_append,goR]
    split
    · exact aB3 r b _
    · rfl
theorem aH9:∀(xs:List cW) (met:List Bool),(goR met xs).isSome=true↔(∀r∈xs,yR r)∧(yQ met (xs.map kW)).isSome=true
  | [],met=>by simp [goR,yQ]
  | x :: r, met => by
    simp only [goR,List.map_cons,yQ]
    by_cases h:yR x
    · have hm:=h.1.mod
      have hs:0≤kW x∧kW x≤23:=hm.2
      by_cases h2:met.getD (kW x).toNat true=false
      · rw [if_pos ⟨h,h2⟩,if_pos ⟨hs,h2⟩,aH9 r _]
        simp [h]
      · rw [if_neg (fun q=>h2 q.2),if_neg (fun q=>h2 q.2)];simp
    · rw [if_neg (fun q=>h q.1)]
      constructor
      · intro q;cases q
      · rintro⟨q,_⟩;exact(h (q x List.mem_cons_self)).elim
theorem aM6{s:bA}(hl:s.Rows.length≤maxLen):∀d k (met:List Bool),k+d=s.Rows.length→met.length=24→loop (lC s) ((k:Int),met)=some (aGC (goR met (s.Rows.drop k))):=by
  intro d
  induction d with
  | zero =>
    intro k met hk hm
    rw [bO (r:=Out.brk met) (by simp [lC];omega),List.drop_eq_nil_of_le (by omega)];rfl
  | succ d ih =>
    intro k met hk hm
    have hk':k < s.Rows.length:=by omega
    have hd:s.Rows.drop k=s.Rows[k] :: s.Rows.drop (k+1):=List.drop_eq_getElem_cons hk'
    have hst:lC s ((k:Int),met)=if yR s.Rows[k]∧met.getD (kW s.Rows[k]).toNat true=false then some (.next (((k+1:Nat):Int),met.set (kW s.Rows[k]).toNat true)) else some (.stop (Out.ret false)):=by
      simp only [lC]
      rw [if_pos (by simp;omega),aV hk']
      simp only [aE,iW,dR]
      generalize s.Rows[k]=x
      by_cases q:jN x.Handle
      · by_cases q2:0≤x.aI∧x.aI≤100000
        · have hm2:=q.mod
          obtain⟨j,hj0⟩:=Int.eq_ofNat_of_zero_le hm2.2.1
          have hj:j < met.length:=by omega
          have e:met.getD j true=met[j]:=by rw [List.getD_eq_getElem?_getD,List.getElem?_eq_getElem hj];rfl
          have hr:yR x:=⟨q,q2⟩
          simp only [q,q2,and_self,decide_true,dE,aN,if_false,jO,hm2.1,hj0,Int.toNat_natCast,hr,true_and,kW,e]
          rw [aM (by omega),aV hj]
          simp only [aE]
          cases met[j]
          · simp only [aN,if_false,if_true]
            rw [aM (by omega),jA (o8 hk' hl)]
          · simp
        · rw [bC q,bL q2];simp only [dE,iE,aN,if_false,if_true,jO];rw [if_neg (fun y:yR x∧_=>q2 y.1.2)]
      · rw [bL q];simp only [iE,if_true,jO];rw [if_neg (fun y:yR x∧_=>q y.1.1)]
    rw [hd,goR]
    by_cases q:yR s.Rows[k]∧met.getD (kW s.Rows[k]).toNat true=false
    · rw [if_pos q] at hst ⊢
      rw [bP hst,ih (k+1) _ (by omega) (by simpa using hm)]
    · rw [if_neg q] at hst ⊢
      rw [bO hst];rfl
theorem aM7{l:List bA}(hn:l.length≤1000)(hs:∀s∈l,s.Rows.length≤maxLen):∀d k (met:List Bool),k+d=l.length→met.length=24 →
    loop (lD l) ((k:Int),met)=some (if (goR met (bH (l.drop k))).isSome=true then Out.brk () else Out.ret false):=by
  intro d
  induction d with
  | zero =>
    intro k met hk hm
    rw [List.drop_eq_nil_of_le (by omega),if_pos (show(goR met (bH [])).isSome=true from rfl)]
    refine bO ?_
    simp only [lD]
    rw [if_neg (by simp;omega)]
  | succ d ih =>
    intro k met hk hm
    have hk':k < l.length:=by omega
    have hd:l.drop k=l[k] :: l.drop (k+1):=List.drop_eq_getElem_cons hk'
    have hsk:=hs _ (List.getElem_mem hk')
    have hf:bH (l.drop k)=l[k].Rows++bH (l.drop (k+1)):=by unfold bH;rw [hd,List.flatMap_cons]
    have h4:=aM6 hsk _ 0 met (Nat.zero_add _) hm
    rw [show((0:Nat):Int)=0 from rfl,List.drop_zero] at h4
    have hst:lD l ((k:Int),met)=(match goR met l[k].Rows with | some m=>some (.next (((k+1:Nat):Int),m)) | none=>some (.stop (Out.ret false))):=by
      simp only [lD]
      rw [if_pos (by simp;omega),aV hk']
      simp only [aE]
      rw [h4]
      cases goR met l[k].Rows with
      | none=>rfl
      | some m=>simp only [aE,aGC,N9,y6];rw [aO (by omega) (by omega)];rfl
    rw [hf,aB3]
    cases hg:goR met l[k].Rows with
    | none =>
      rw [hg] at hst
      rw [bO hst,if_neg (by simp)]
    | some m =>
      rw [hg] at hst
      rw [bP hst,ih (k+1) m (by omega) (by rw [aL7 hg];exact hm)]
      simp only [aE]
theorem U1{l:List bA}(hn:l.length≤1000)(h:(bH l).length≤1073741824):tY l=some ((bH l).length:Int):=by
  unfold tY
  have key:loop (jD l) (0,0)=some ((bH l).length:Int):=by
    refine iY (f:=jD l) l.length (fun k=>(((bH (l.take k)).length:Int),(k:Int))) _ (fun k hk=>?_) ?_
    · have h1:=aB2 l (k+1)
      rw [I2 hk,List.length_append] at h1
      simp only [jD]
      rw [if_pos (by simp;omega),aV hk]
      simp only [aE]
      rw [aO (by omega) (by omega),aO (by omega) (by omega),I2 hk,List.length_append]
      simp
    · simp [jD]
  rw [key];rfl
theorem zT{l:List bA}(h:(bH l).length≤1073741824):lQ l=some (decide (oF l)):=by
  unfold lQ
  by_cases h3:l.length=3
  · have n1:((l.length:Int) != 3)=false:=by simp;omega
    have hb:(1073741824:Nat)≤maxLen:=by simp [maxLen]
    simp only [n1,aN,if_false]
    have key:=aM7 (l:=l) (by omega) (fun s hs=>by have:=MJ hs;omega) l.length 0 [false,false,false,false,false,false,false,false,false,false,false,false,false,false,false,false,false,false,false,false,false,false,false,false] (by omega) rfl
    rw [show((0:Nat):Int)=0 from rfl,List.drop_zero] at key
    rw [key]
    have hm0:∀j:Nat,j < 24→[false,false,false,false,false,false,false,false,false,false,false,false,false,false,false,false,false,false,false,false,false,false,false,false].getD j true=false:=by decide
    have hiff:oF l↔(bH l).length≤24∧(goR [false,false,false,false,false,false,false,false,false,false,false,false,false,false,false,false,false,false,false,false,false,false,false,false] (bH l)).isSome=true:=by
      rw [aH9,TL _ _ rfl]
      have hr:(∀r∈bH l,yR r)→∀x∈(bH l).map kW,0≤x∧x≤23:=by
        intro q x hx
        obtain⟨r,hr,rfl⟩:=List.mem_map.1 hx
        exact(q r hr).1.mod.2
      constructor
      · rintro⟨_,q1,q2,q3⟩
        exact⟨q1,q2,hr q2,q3,fun x hx=>hm0 _ (by have:=hr q2 x hx;omega)⟩
      · rintro⟨q1,q2,_,q3,_⟩
        exact⟨h3,q1,q2,q3⟩
    by_cases q:(goR [false,false,false,false,false,false,false,false,false,false,false,false,false,false,false,false,false,false,false,false,false,false,false,false] (bH l)).isSome=true
    · rw [if_pos q]
      simp only [aE,OA,y5]
      rw [U1 (by omega) h]
      simp only [aE]
      congr 1
      rw [Bool.eq_iff_iff];simp only [decide_eq_true_eq]
      rw [hiff]
      exact⟨fun a=>⟨by omega,q⟩,fun a=>by omega⟩
    · rw [if_neg q,bL (fun x=>q (hiff.1 x).2)];rfl
  · have n1:((l.length:Int) != 3)=true:=by simp;omega
    simp only [n1,if_true]
    rw [bL (fun q:oF l=>h3 q.1)]
def cS(h:Int):Prop:=h=0∨jN h
instance (h:Int):Decidable (cS h):=by unfold cS;infer_instance
def HV(z:List Int):Prop:=z.length=3∧∀h∈z,cS h
instance (z:List Int):Decidable (HV z):=by unfold HV;infer_instance
theorem yT{z:List Int}(hl:z.length≤maxLen):DS z=some (decide (HV z)):=by
  unfold DS
  have hst:∀k (hk:k < z.length),xW z (k:Int)=if cS z[k] then some (.next ((k+1:Nat):Int)) else some (.stop (Out.ret false)):=by
    intro k hk
    simp only [xW,EU]
    rw [if_pos (by simp;omega),aV hk,jA (o8 hk hl)]
    simp only [aE,eB]
    generalize z[k]=x
    by_cases q:x=0
    · have n:(x != 0)=false:=by simp only [bne_eq_false_iff_eq];exact q
      rw [n,if_pos (show cS x from .inl q)];rfl
    · have n:(x != 0)=true:=by simp only [bne_iff_ne];exact q
      by_cases q2:jN x
      · rw [n,bC q2,if_pos (show cS x from .inr q2)];rfl
      · rw [n,bL q2,if_neg (fun a:cS x=>a.elim q q2)];rfl
  have key:=j4 (f:=xW z) z (fun k=>(k:Int)) cS (Out.brk ()) (Out.ret false) (fun k hk hx=>by rw [hst k hk,if_pos hx]) (fun k hk hx=>by rw [hst k hk,if_neg hx]) (by simp [xW])
  rw [show((0:Nat):Int)=0 from rfl] at key
  rw [key]
  by_cases q:∀x∈z,cS x
  · rw [if_pos q]
    have:HV z↔z.length=3:=⟨fun a=>a.1,fun a=>⟨a,q⟩⟩
    simp only [aE,R7,R6,this]
    congr 1;rw [Bool.eq_iff_iff];simp only [beq_iff_eq,decide_eq_true_eq];omega
  · rw [if_neg q,bL (fun a:HV z=>q a.2)];rfl
theorem K9{z:List Int}(hl:z.length≤maxLen):DO z=some (decide (HV z)):=by
  unfold DO EF
  have e:(fun y0=>G3 y0)=fun y:Int=>some (!decide (cS y)):=by
    funext y
    unfold G3 qD tZ
    rw [iW]
    by_cases q:y=0
    · have n:(y == 0)=true:=by simp only [beq_iff_eq];exact q
      rw [n,bC (show cS y from .inl q)];rfl
    · have n:(y == 0)=false:=by simp only [beq_eq_false_iff_ne];exact q
      by_cases q2:jN y
      · rw [n,bC q2,bC (show cS y from .inr q2)];rfl
      · rw [n,bL q2,bL (fun a:cS y=>a.elim q q2)];rfl
  rw [e,C0 hl,E2]
  by_cases h3:z.length=3
  · have n:((z.length:Int) == 3)=true:=by simp;omega
    have:HV z↔∀h∈z,cS h:=⟨fun a=>a.2,fun a=>⟨h3,a⟩⟩
    simp only [n,if_true,aE,Bool.not_not,this]
  · have n:((z.length:Int) == 3)=false:=by simp;omega
    simp only [n,aN,if_false]
    rw [bL (fun a:HV z=>h3 a.1)]
end Go.Gv
end
noncomputable section
namespace Go.Gv
theorem I4{α:Type}(l:List α)(f:α→Bool){body:Int→Option (Step Int (Out Unit Int))}(hb:∀k (hk:k < l.length),body (k:Int)=if f l[k] then some (.stop (.ret (k:Int))) else some (.next ((k+1:Nat):Int)))(he:body (l.length:Int)=some (.stop (.brk ()))) :
    ∃o,loop body 0=some o∧match o with | .brk _=>l.any f=false | .ret r=>0≤r∧l.any f=true:=by
  have key:=aM3 (f:=body) l.length (fun k=>(k:Int)) (fun k=>if (l.drop k).any f then Out.ret ((k+(l.drop k).findIdx f:Nat):Int) else Out.brk ()) (fun k hk=>by
    by_cases h:k < l.length
    · have hd:l.drop k=l[k] :: l.drop (k+1):=List.drop_eq_getElem_cons h
      rw [hb k h,hd]
      simp only [List.any_cons,List.findIdx_cons]
      by_cases h4:f l[k]=true
      · left;simp [h4]
      · right
        have h4:f l[k]=false:=by simpa using h4
        refine⟨h,by simp [h4],?_⟩
        simp only [h4,Bool.false_or,cond_false]
        congr 2;omega
    · left
      obtain rfl:k=l.length:=by omega
      rw [he];simp) 0 (Nat.zero_le _)
  rw [show((0:Nat):Int)=0 from rfl,List.drop_zero] at key
  refine⟨_,key,?_⟩
  by_cases h:l.any f=true
  · rw [if_pos h];exact⟨by omega,h⟩
  · rw [if_neg h];simpa using h
theorem SM{l:List cW}(hl:l.length≤maxLen)(f:cW→Bool):iI l (fun x=>some (f x))=some (l.any f):=by
  obtain⟨o,e,h⟩:=I4 l f (body:=kA l (fun x=>some (f x))) (fun k hk=>by
    simp only [kA]
    rw [if_pos (by simp;omega),aV hk,jA (o8 hk hl)];rfl) (by simp [kA])
  unfold iI tA
  rw [e]
  cases o with
  | brk u=>simp only at h;simp [nY,xD,h]
  | ret r=>simp only at h;simp [nY,h]
theorem QN{l:List bA}(hl:l.length≤maxLen)(f:bA→Bool)(g:bA→Option Bool)(hg:∀x∈l,g x=some (f x)):iA l g=some (l.any f):=by
  obtain⟨o,e,h⟩:=I4 l f (body:=jT l g) (fun k hk=>by
    simp only [jT]
    rw [if_pos (by simp;omega),aV hk,jA (o8 hk hl)]
    simp only [aE,hg _ (List.getElem_mem hk)]) (by simp [jT])
  unfold iA qK
  rw [e]
  cases o with
  | brk u=>simp only at h;simp [mQ,wL,h]
  | ret r=>simp only at h;simp [mQ,h]
theorem QO{l:List aQ}(hl:l.length≤maxLen)(f:aQ→Bool)(g:aQ→Option Bool)(hg:∀x∈l,g x=some (f x)):iB l g=some (l.any f):=by
  obtain⟨o,e,h⟩:=I4 l f (body:=jU l g) (fun k hk=>by
    simp only [jU]
    rw [if_pos (by simp;omega),aV hk,jA (o8 hk hl)]
    simp only [aE,hg _ (List.getElem_mem hk)]) (by simp [jU])
  unfold iB qL
  rw [e]
  cases o with
  | brk u=>simp only at h;simp [mR,wM,h]
  | ret r=>simp only at h;simp [mR,h]
theorem contains_eq{l:List Int}(hl:l.length≤maxLen)(v:Int):oO l v=some (decide (v∈l)):=by
  obtain⟨o,e,h⟩:=I4 l (fun x=>v == x) (body:=eQ l v) (fun k hk=>by
    simp only [eQ]
    rw [if_pos (by simp;omega),aV hk,jA (o8 hk hl)];rfl) (by simp [eQ])
  have ha:l.any (fun x=>v == x)=decide (v∈l):=by
    rw [Bool.eq_iff_iff];simp
  rw [ha] at h
  unfold oO l8
  rw [e]
  cases o with
  | brk u=>simp only at h;simp [oN,GN,h]
  | ret r=>simp only at h;simp [oN,h]
theorem RN{l:List aQ}{x:Int}:x∈cK l↔∃s∈l,x∈s.aS:=List.mem_flatMap
noncomputable section
variable {m:Mem} (hsh:fS m.aD) (hl:(dC m.aB).length≤1073741824) (hg:m.aB.Global.length≤maxLen) (ho:m.aB.Own.length≤maxLen)
include hl hg ho
theorem aB4(s:Int):J7 m.aB s=some (decide (s∈dC m.aB)):=by
  have hb:(1073741824:Nat)≤maxLen:=by simp [maxLen]
  unfold J7
  rw [SK hl hg ho]
  simp only [aE]
  rw [K8 (by omega)];rfl
theorem QP(s:Int):FC m.aB s=some (decide (s∈dC m.aB)):=by
  have hb:(1073741824:Nat)≤maxLen:=by simp [maxLen]
  have hal:=pW m.aB
  have e1:∀x∈m.aB.Global,nZ x s=some (decide (s∈x.aS)):=fun x hx=>by
    have:=FQ hx
    unfold nZ;rw [contains_eq (by omega)];rfl
  have e2:∀x∈m.aB.Own,nZ x s=some (decide (s∈x.aS)):=fun x hx=>by
    have:=FQ hx
    unfold nZ;rw [contains_eq (by omega)];rfl
  unfold FC BM
  rw [QO hg (fun x=>decide (s∈x.aS)) _ e1,QO ho (fun x=>decide (s∈x.aS)) _ e2]
  have a1:(m.aB.Global.any fun x=>decide (s∈x.aS))=decide (s∈cK m.aB.Global):=by
    rw [Bool.eq_iff_iff];simp [RN]
  have a2:(m.aB.Own.any fun x=>decide (s∈x.aS))=decide (s∈cK m.aB.Own):=by
    rw [Bool.eq_iff_iff];simp [RN]
  rw [a1,a2]
  simp only [aE,dC,List.mem_append]
  by_cases q:s∈cK m.aB.Global <;> simp [q]
def eM(m:Mem)(s:Int):Int:=if aW m.aD s < 0 then 0 else if s∈dC m.aB then 1 else if 6 < hY m.aD s then 2 else 3
include hsh
theorem YW(s:Int):HN m s=some (eM m s):=by
  unfold HN eM
  rw [iM hsh,aB4 hl hg ho]
  simp only [aE]
  by_cases q:aW m.aD s < 0
  · simp [q]
  · rw [oA hsh (by omega)]
    by_cases q2:s∈dC m.aB
    · simp [q,q2]
    · by_cases q3:6 < hY m.aD s <;> simp [q,q2,q3]
theorem YX(s:Int):G4 m s=some (eM m s):=by
  unfold G4 eM
  rw [lH hsh,QP hl hg ho]
  simp only [aE]
  by_cases q:aW m.aD s < 0
  · simp [q]
  · rw [E4 hsh (by omega)]
    by_cases q2:s∈dC m.aB
    · simp [q,q2]
    · by_cases q3:6 < hY m.aD s <;> simp [q,q2,q3]
def g7(m:Mem)(h:Int):Prop:=jN h∧eM m (h % 32)=3∧hY m.aD (h % 32)=h / 32
instance (m:Mem) (h:Int):Decidable (g7 m h):=by unfold g7;infer_instance
omit hl hg ho hsh in
theorem g8{m:Mem}{s:Int}(h:eM m s=3):0≤aW m.aD s:=by
  unfold eM at h
  split at h
  · omega
  · omega
theorem nF(h:Int):qT m h=some (decide (g7 m h)):=by
  unfold qT rV
  rw [eB,cN]
  by_cases q:jN h
  · have hm:=q.mod
    rw [bC q,if_pos q]
    simp only [aE,if_true,YW hsh hl hg ho]
    by_cases q2:eM m (h % 32)=3
    · have n:(eM m (h % 32) == 3)=true:=by simpa using q2
      have eg:CC h=some (h / 32):=by
        unfold CC
        unfold jN at q
        rw [eB,bC (show jN h from q),FP (by omega),aO (by omega) (by omega)];rfl
      rw [n,oA hsh (g8 q2),eg]
      simp only [if_true,aE]
      congr 1;rw [Bool.eq_iff_iff];simp only [beq_iff_eq,decide_eq_true_eq]
      exact⟨fun a=>⟨q,q2,a⟩,fun a=>a.2.2⟩
    · have n:(eM m (h % 32) == 3)=false:=by simpa using q2
      rw [n,bL (fun a:g7 m h=>q2 a.2.1)];rfl
  · rw [bL q,bL (fun a:g7 m h=>q a.1)];rfl
theorem I5(h:Int):AT m h=some (decide (g7 m h)):=by
  unfold AT uA
  rw [iW]
  by_cases q:jN h
  · have hm:=q.mod
    rw [bC q,hm.1]
    simp only [aE,if_true,YX hsh hl hg ho]
    by_cases q2:eM m (h % 32)=3
    · have n:(eM m (h % 32) == 3)=true:=by simpa using q2
      have eg:bB (Int.tdiv h 32)=h / 32:=by
        unfold jN at q
        rw [FP (by omega),aO (by omega) (by omega)]
      rw [n,E4 hsh (g8 q2),eg]
      simp only [if_true,aE]
      congr 1;rw [Bool.eq_iff_iff];simp only [beq_iff_eq,decide_eq_true_eq]
      exact⟨fun a=>⟨q,q2,a⟩,fun a=>a.2.2⟩
    · have n:(eM m (h % 32) == 3)=false:=by simpa using q2
      rw [n,bL (fun a:g7 m h=>q2 a.2.1)];rfl
  · rw [bL q,bL (fun a:g7 m h=>q a.1)];rfl
end
def wH(b:aA)(r:cW):Prop:=g7 b.Mem r.Handle∧r.aI≤b.aC.aI
instance (b:aA) (r:cW):Decidable (wH b r):=by unfold wH;infer_instance
def mO(b:aA):Prop:=(mD b.Mem∧I1 b.aC∧oF b.aP∧HV b.nA)∧∀r∈bH b.aP,wH b r
instance (b:aA):Decidable (mO b):=by unfold mO;infer_instance
def QQ(b:aA):Prop:=wV b.Mem∧b.aC.cH.length≤1048576∧b.aP.length≤1048576∧(bH b.aP).length≤1048576∧b.nA.length≤1048576
theorem QQ.rows{b:aA}(h:QQ b):∀s∈b.aP,s.Rows.length≤1048576:=fun s hs=>by
  have:=MJ hs;have:=h.2.2.2.1;omega
noncomputable section
variable {b:aA} (hf:b.Mem.aD.Bytes.length≤maxLen∧(dC b.Mem.aB).length≤1073741824∧b.aC.cH.length≤maxLen∧b.aP.length≤maxLen∧(bH b.aP).length≤1073741824∧b.nA.length≤maxLen)
include hf
theorem aB5:J8 b=some (decide (mO b)):=by
  obtain⟨f1,f2,f3,f4,f5,f6⟩:=hf
  unfold J8 pP
  rw [E5 f1 f2,iN,YV f5 f4,yT f6]
  by_cases q1:mD b.Mem
  · by_cases q2:I1 b.aC
    · by_cases q3:oF b.aP
      · by_cases q4:HV b.nA
        · have hg:b.Mem.aB.Global.length≤maxLen:=by rw [q1.1.2.1];simp [maxLen]
          have ho:b.Mem.aB.Own.length≤maxLen:=by rw [q1.1.2.2.1];simp [maxLen]
          have hmx:(1073741824:Nat)≤maxLen:=by simp [maxLen]
          simp only [bC q1,bC q2,bC q3,bC q4,aE,dE,aN,if_false]
          rw [I3 f5 f4]
          simp only [aE]
          have hst:∀k (hk:k < (bH b.aP).length),uP b (bH b.aP) (k:Int)=if wH b (bH b.aP)[k] then some (.next ((k+1:Nat):Int)) else some (.stop (Out.ret false)):=by
            intro k hk
            simp only [uP,CD]
            rw [if_pos (by simp;omega),aV hk,jA (show k < maxLen by omega)]
            generalize (bH b.aP)[k]=r
            simp only [aE,nF q1.1.1.1 f2 hg ho]
            by_cases a1:g7 b.Mem r.Handle
            · rw [bC a1]
              simp only [dE,aN,if_false]
              by_cases a2:r.aI≤b.aC.aI
              · rw [if_neg (by simp;omega),if_pos ⟨a1,a2⟩]
              · rw [if_pos (by simp;omega),if_neg (fun x=>a2 x.2)]
            · rw [bL a1]
              simp only [iE,if_true]
              rw [if_neg (fun x=>a1 x.1)]
          have key:=j4 (f:=uP b (bH b.aP)) (bH b.aP) (fun k=>(k:Int)) (wH b) (Out.brk ()) (Out.ret false) (fun k hk hx=>by rw [hst k hk,if_pos hx]) (fun k hk hx=>by rw [hst k hk,if_neg hx]) (by simp [uP])
          rw [show((0:Nat):Int)=0 from rfl] at key
          rw [key]
          by_cases q:∀r∈bH b.aP,wH b r
          · rw [if_pos q,bC (show mO b from ⟨⟨q1,q2,q3,q4⟩,q⟩)];rfl
          · rw [if_neg q,bL (fun x:mO b=>q x.2)];rfl
        · rw [bL (fun x:mO b=>q4 x.1.2.2.2),bC q1,bC q2,bC q3,bL q4];rfl
      · rw [bL (fun x:mO b=>q3 x.1.2.2.1),bC q1,bC q2,bL q3];rfl
    · rw [bL (fun x:mO b=>q2 x.1.2.1),bC q1,bL q2];rfl
  · rw [bL (fun x:mO b=>q1 x.1.1),bL q1];rfl
theorem aB6:J2 b=some (decide (mO b)):=by
  obtain⟨f1,f2,f3,f4,f5,f6⟩:=hf
  unfold J2 pH
  rw [SL f1 f2,sJ f3,zT f5,K9 f6]
  by_cases q1:mD b.Mem
  · by_cases q2:I1 b.aC
    · by_cases q3:oF b.aP
      · by_cases q4:HV b.nA
        · have hg:b.Mem.aB.Global.length≤maxLen:=by rw [q1.1.2.1];simp [maxLen]
          have ho:b.Mem.aB.Own.length≤maxLen:=by rw [q1.1.2.2.1];simp [maxLen]
          have hmx:(1073741824:Nat)≤maxLen:=by simp [maxLen]
          simp only [bC q1,bC q2,bC q3,bC q4,aE,dE,aN,if_false]
          have e1:(fun y0=>y7 y0 b)=fun r:cW=>some (!decide (wH b r)):=by
            funext r
            unfold y7 qM
            rw [I5 q1.1.1.1 f2 hg ho]
            by_cases a1:g7 b.Mem r.Handle
            · by_cases a2:r.aI≤b.aC.aI
              · rw [bC a1,bC (show wH b r from ⟨a1,a2⟩),bL (show ¬b.aC.aI < r.aI by omega)];rfl
              · rw [bC a1,bL (fun x:wH b r=>a2 x.2),bC (show b.aC.aI < r.aI by omega)];rfl
            · rw [bL a1,bL (fun x:wH b r=>a1 x.1)];rfl
          have e2:∀l∈b.aP,(fun y0=>EG y0 b) l=some (!decide (∀r∈l.Rows,wH b r)):=fun l hl=>by
            have:=MJ hl
            simp only [EG]
            rw [e1,SM (by omega),E2];rfl
          rw [QN f4 _ _ e2,E2]
          have hiff:mO b↔∀l∈b.aP,∀r∈l.Rows,wH b r:=by
            constructor
            · intro x l hl r hr
              exact x.2 r (List.mem_flatMap.2 ⟨l,hl,hr⟩)
            · intro x
              refine⟨⟨q1,q2,q3,q4⟩,fun r hr=>?_⟩
              obtain⟨l,hl,hr⟩:=List.mem_flatMap.1 hr
              exact x l hl r hr
          simp only [aE,Bool.not_not,hiff]
        · rw [bL (fun x:mO b=>q4 x.1.2.2.2),bC q1,bC q2,bC q3,bL q4];rfl
      · rw [bL (fun x:mO b=>q3 x.1.2.2.1),bC q1,bC q2,bL q3];rfl
    · rw [bL (fun x:mO b=>q2 x.1.2.1),bC q1,bL q2];rfl
  · rw [bL (fun x:mO b=>q1 x.1.1),bL q1];rfl
end
end Go.Gv
end
noncomputable section
namespace Go.Gv
theorem U2{α:Type}{f:(List α×Int)→Option (Step (List α×Int) (List α))}(l:List α)
    (h:∀k (hk:k < l.length),f (l.take k,(k:Int))=some (.next (l.take k ++ [l[k]],((k+1:Nat):Int)))) (he:f (l,(l.length:Int))=some (.stop l)):loop f ([],0)=some l:=by
  have:=iY (f:=f) l.length (fun k=>(l.take k,(k:Int))) l (fun k hk=>by rw [h k hk,List.take_succ_eq_append_getElem hk]) (by rw [List.take_length];exact he)
  simpa using this
theorem aEW{α:Type}{f:(Int×List α)→Option (Step (Int×List α) (List α))}(l:List α)
    (h:∀k (hk:k < l.length),f ((k:Int),l.take k)=some (.next (((k+1:Nat):Int),l.take k ++ [l[k]]))) (he:f ((l.length:Int),l)=some (.stop l)):loop f (0,[])=some l:=by
  have:=iY (f:=f) l.length (fun k=>((k:Int),l.take k)) l (fun k hk=>by rw [h k hk,List.take_succ_eq_append_getElem hk]) (by rw [List.take_length];exact he)
  simpa using this
theorem DY{l:List Int}(h:l.length≤1073741824):uU l=some l:=by
  unfold uU;rw [aM (by simpa using h)];rfl
theorem rC{l:List Int}(h:l.length≤1073741824):eU l=some l:=by
  unfold eU;rw [aM (by simpa using h)];rfl
theorem aGF{l:List oE}(h:l.length≤1073741824):vI l=some l:=by
  unfold vI;rw [aM (by simpa using h)];rfl
theorem aD9{l:List cW}(h:l.length≤1073741824):tF l=some l:=by
  unfold tF;rw [aM (by simpa using h)];rfl
theorem aEX{l:List aQ}(hl:l.length≤1048576)(hs:∀s∈l,s.aS.length≤1048576):J9 l=some l:=by
  unfold J9
  rw [U2 l]
  · rfl
  · intro k hk
    have:=hs _ (List.getElem_mem hk)
    simp only [IN]
    rw [if_pos (by simp;omega),aV hk]
    simp only [aE]
    rw [DY (by omega),aE,aM (by simp;omega),aO (by omega) (by omega)];rfl
  · simp [IN]
theorem aEA{l:aB}(h1:l.Global.length≤1048576)(h2:l.Own.length≤1048576)(h3:∀s∈l.Global,s.aS.length≤1048576)(h4:∀s∈l.Own,s.aS.length≤1048576):P1 l=some l:=by
  unfold P1;rw [aEX h1 h3,aEX h2 h4];rfl
theorem LA{l:aB}(h1:l.Global.length≤1048576)(h2:l.Own.length≤1048576)(h3:∀s∈l.Global,s.aS.length≤1048576)(h4:∀s∈l.Own,s.aS.length≤1048576):iH l=some l:=by
  unfold iH
  rw [aEW l.Global]
  · simp only [aE,J0,JZ]
    rw [aEW l.Own]
    · rfl
    · intro k hk
      have:=h4 _ (List.getElem_mem hk)
      simp only [BF]
      rw [if_pos (by simp;omega),aV hk]
      simp only [aE]
      rw [rC (by omega),aE,aM (by simp;omega),BE,aO (by omega) (by omega)];rfl
    · simp [BF]
  · intro k hk
    have:=h3 _ (List.getElem_mem hk)
    simp only [BH]
    rw [if_pos (by simp;omega),aV hk]
    simp only [aE]
    rw [rC (by omega),aE,aM (by simp;omega),BG,aO (by omega) (by omega)];rfl
  · simp [BH]
theorem aGG{h:aD}(h1:h.Bytes.length≤1048576)(h2:h.Class.length≤1048576):P0 h=some h:=by
  unfold P0;rw [DY (by omega),DY (by omega)];rfl
theorem NR{h:aD}(h1:h.Bytes.length≤1048576)(h2:h.Class.length≤1048576):sN h=some h:=by
  unfold sN;rw [rC (by omega),rC (by omega)];rfl
theorem W6{m:Mem}(h:wV m):P2 m=some m:=by
  have a:=aGG h.1 h.2.1
  have b:=aEA h.2.2.1 h.2.2.2.1 h.W5.1 h.W5.2
  unfold P2;rw [a,b];rfl
theorem aIA{m:Mem}(h:wV m):GZ m=some m:=by
  have a:=NR h.1 h.2.1
  have b:=LA h.2.2.1 h.2.2.2.1 h.W5.1 h.W5.2
  unfold GZ;rw [a,b];rfl
theorem l5{c:aC}(h:c.cH.length≤1048576):wC c=some c:=by
  unfold wC;rw [aM (by simp;omega)];rfl
theorem E6{c:aC}(h:c.cH.length≤1048576):mE c=some c:=by
  unfold mE;rw [aGF (by omega)];rfl
theorem SN{l:List bA}(hl:l.length≤1048576)(hs:∀s∈l,s.Rows.length≤1048576):mF l=some l:=by
  unfold mF
  rw [U2 l]
  · rfl
  · intro k hk
    have:=hs _ (List.getElem_mem hk)
    simp only [BI]
    rw [if_pos (by simp;omega),aV hk]
    simp only [aE]
    rw [aD9 (by omega),aE,aM (by simp;omega),aO (by omega) (by omega)];rfl
  · simp [BI]
end Go.Gv
end
noncomputable section
namespace Go.Gv
theorem kL(w:Int):fV w=some (decide (0≤w∧w≤2)):=by
  unfold fV;rw [dR];rfl
noncomputable section
variable {c:aC} (hc:I1 c) {w:Int} (hw:0≤w∧w≤2)
include hc
theorem I1.small:c.cH.length≤1048576∧c.cH.length≤maxLen:=by
  have:=hc.2.1;simp only [maxLen];omega
theorem I1.aGH{k:Nat}{p:oE}(hp:POk c.aI p):I1 ⟨c.aI,c.cH.set k p⟩:=⟨hc.1,by simpa using hc.2.1,fun q hq=>(List.mem_or_eq_of_mem_set hq).elim (hc.2.2 q) (fun e=>e ▸ hp)⟩
theorem I1.later(h:c.aI+1≤100000):I1 ⟨c.aI+1,c.cH⟩:=by
  have h1:=hc.1
  exact⟨⟨by simp only;omega,h⟩,hc.2.1,fun q hq=>by
    obtain⟨a,b,d⟩:=hc.2.2 q hq
    exact⟨⟨a.1,by simp only;omega⟩,b,d⟩⟩
include hw
theorem WM:∃p,idx c.cH w=some p∧POk c.aI p:=by
  have h3:=hc.2.1
  rw [fP hw.1 (by omega)]
  exact⟨_,rfl,hc.2.2 _ (List.getElem_mem _)⟩
theorem aM8(e:Int):∃r,FH c w e=some r∧J4 c w e=some r∧I1 r.1∧r.1.aI=c.aI:=by
  obtain⟨p,hp,h1,⟨hs0,hs1⟩,h2⟩:=WM hc hw
  have h3:=hc.2.1
  unfold FH J4
  rw [l5 hc.small.1,E6 hc.small.1,iN,sJ hc.small.2,kL,bZ,bC hc,bC hw]
  simp only [aE,dE,aN,if_false,CI,BU,hp]
  cases h4:p.On
  · exact⟨_,rfl,rfl,hc,rfl⟩
  · cases h5:p.cX
    · by_cases h6:p.aI=e
      · simp only [pS,pK,h6,beq_self_eq_true,if_true,dE,aN,if_false]
        exact⟨_,rfl,rfl,hc,rfl⟩
      · have h6':(p.aI == e)=false:=by simpa using h6
        simp only [pS,pK,h6',dE,aN,if_false,hp,aE]
        by_cases h7:p.Seen=2
        · simp only [h7,beq_self_eq_true,if_true,show ¬((2:Int) < 2) by omega,decide_false,aN,if_false]
          exact⟨_,rfl,rfl,hc.aGH ⟨h1,by simp,fun q=>by simp [h4] at q⟩,rfl⟩
        · have h7':(p.Seen == 2)=false:=by simpa using h7
          simp only [h7',show p.Seen < 2 by omega,decide_true,if_true,aN,if_false]
          have hw7:bB (p.Seen+1)=p.Seen+1:=aO (by omega) (by omega)
          exact⟨_,rfl,rfl,hc.aGH ⟨h1,by simp only [hw7];omega,fun q=>by simp [h4] at q⟩,rfl⟩
    · exact⟨_,rfl,rfl,hc,rfl⟩
theorem aQU(e:Int):∃r,IM c w e=some r∧M5 c w e=some r∧(I1 r.1∧r.1.aI=c.aI)∧(r.2=false→r.1=c):=by
  obtain⟨p,hp,hpk⟩:=WM hc hw
  have h3:=hc.2.1
  unfold IM M5
  rw [l5 hc.small.1,E6 hc.small.1,iN,sJ hc.small.2,kL,bZ,bZ,dR,bC hc,bC hw]
  simp only [aE,dE,aN,if_false,yH,xH,hp]
  by_cases h:0≤e∧e≤c.aI
  · simp only [bC h,dE,aN,if_false]
    exact⟨_,rfl,rfl,⟨hc.aGH ⟨h,by simp,fun q=>by cases q⟩,rfl⟩,fun q=>by cases q⟩
  · simp only [bL h,iE,if_true]
    exact⟨_,rfl,rfl,⟨hc,rfl⟩,fun _=>rfl⟩
omit hw in
theorem aT1(e:Int):∃r,L5 c e=some r∧RK c e=some r∧I1 r.1∧c.aI≤r.1.aI:=by
  have h3:=hc.2.1
  unfold L5 RK
  rw [l5 hc.small.1,E6 hc.small.1,iN,sJ hc.small.2,bC hc]
  simp only [aE,dE,aN,if_false,CJ,BV]
  by_cases h:c.aI=e
  · subst h
    simp only [bne_self_eq_false,aN,if_false]
    by_cases h:c.aI=100000
    · simp only [h,beq_self_eq_true,if_true];exact⟨_,rfl,rfl,hc,by simp [h]⟩
    · have h':(c.aI == 100000)=false:=by simpa using h
      have hE:=hc.1
      have hw7:bB (c.aI+1)=c.aI+1:=aO (by omega) (by omega)
      simp only [h',aN,if_false,hw7];exact⟨_,rfl,rfl,hc.later (by omega),by simp only;omega⟩
  · have h':(c.aI != e)=true:=by simpa using h
    simp only [h',if_true];exact⟨_,rfl,rfl,hc,Int.le_refl _⟩
end
theorem aWY{b:aA}(hc:I1 b.aC){w:Int}(hw:0≤w∧w≤2)(s:Sub) :
    ∃x y,FJ b w s=some (x,y)∧vR s b w=some (y,x)∧∃cl,x=⟨b.Mem,cl,b.aP,b.nA⟩∧I1 cl∧b.aC.aI≤cl.aI:=by
  obtain⟨r,e1,e2,h3,h4⟩:=aQU hc hw s.E
  unfold FJ vR
  rw [e1,e2]
  simp only [bK,bG,wS,aE]
  by_cases p0:s.Pc=0
  · simp only [p0,beq_self_eq_true,if_true];exact⟨_,_,rfl,rfl,_,rfl,hc,by omega⟩
  · have p0':(s.Pc == 0)=false:=by simpa using p0
    simp only [p0',aN,if_false]
    by_cases p1:s.Pc=1
    · simp only [p1,beq_self_eq_true,if_true]
      cases h:r.2
      · rw [h4 h];exact⟨_,_,rfl,rfl,_,rfl,hc,by omega⟩
      · exact⟨_,_,rfl,rfl,_,rfl,h3.1,by rw [h3.2];exact Int.le_refl _⟩
    · have p1':(s.Pc == 1)=false:=by simpa using p1
      simp only [p1',aN,if_false]
      by_cases p2:s.Pc=2
      · simp only [p2,beq_self_eq_true,if_true]
        by_cases q:b.aC.aI=s.E
        · simp only [q,beq_self_eq_true,if_true];exact⟨_,_,rfl,rfl,_,rfl,hc,by omega⟩
        · have q':(b.aC.aI == s.E)=false:=by simpa using q
          simp only [q',aN,if_false];exact⟨_,_,rfl,rfl,_,rfl,hc,by omega⟩
      · have p2':(s.Pc == 2)=false:=by simpa using p2
        simp only [p2',aN,if_false];exact⟨_,_,rfl,rfl,_,rfl,hc,by omega⟩
theorem aJ2{b:aA}(hc:I1 b.aC)(s:Sub) :
    ∃x y,sG b s=some (x,y)∧nM s b=some (y,x)∧∃cl,x=⟨b.Mem,cl,b.aP,b.nA⟩∧I1 cl∧b.aC.aI≤cl.aI:=by
  obtain⟨r2,e3,e4,h4⟩:=aT1 hc s.E
  unfold sG nM kV
  rw [e3,e4,bZ,kL]
  simp only [bK,bG,qX,qY,kU,aE]
  by_cases p0:s.Pc=0
  · simp only [p0,beq_self_eq_true,if_true];exact⟨_,_,rfl,rfl,_,rfl,hc,by omega⟩
  · have p0':(s.Pc == 0)=false:=by simpa using p0
    simp only [p0',aN,if_false]
    by_cases p1:s.Pc=1
    · simp only [p1,beq_self_eq_true,if_true,show((1:Int) == 2)=false from rfl,aN,if_false]
      by_cases hB:0≤s.B∧s.B≤2
      · obtain⟨r,e1,e2,h3,h3'⟩:=aM8 hc hB s.E
        simp only [bC hB,dE,aN,if_false,if_true,e1,e2,aE]
        cases h:r.2
        · exact⟨_,_,rfl,rfl,_,rfl,h3,by rw [h3'];exact Int.le_refl _⟩
        · by_cases q:bB (s.B+1)=3
          · simp only [q,beq_self_eq_true,if_true,dE,aN,if_false];exact⟨_,_,rfl,rfl,_,rfl,h3,by rw [h3'];exact Int.le_refl _⟩
          · have q':(bB (s.B+1) == 3)=false:=by simpa using q
            simp only [q',dE,aN,if_false];exact⟨_,_,rfl,rfl,_,rfl,h3,by rw [h3'];exact Int.le_refl _⟩
      · simp only [bL hB,iE,aN,if_false,if_true]
        exact⟨_,_,rfl,rfl,_,rfl,hc,by omega⟩
    · have p1':(s.Pc == 1)=false:=by simpa using p1
      simp only [p1',aN,if_false]
      by_cases p2:s.Pc=2
      · simp only [p2,beq_self_eq_true,if_true]
        cases h:r2.2
        · simp only [aN,if_false];exact⟨_,_,rfl,rfl,_,rfl,h4⟩
        · simp only [if_true];exact⟨_,_,rfl,rfl,_,rfl,h4⟩
      · have p2':(s.Pc == 2)=false:=by simpa using p2
        simp only [p2',aN,if_false];exact⟨_,_,rfl,rfl,_,rfl,hc,by omega⟩
end Go.Gv
end
noncomputable section
namespace Go.Gv
theorem aJ3:∀(n:Nat) (l:List Int),l.Nodup→(∀x∈l,0≤x∧x < (n:Int))→l.length≤n
  | 0, l, _, h => by
    cases l with
    | nil=>simp
    | cons a t=>have:=h a (by simp);omega
  | n + 1, l, hn, h => by
    have ih:=aJ3 n (l.erase (n:Int)) (hn.erase _) (fun x hx=>by
      have h1:=(hn.mem_erase_iff).1 hx
      have h2:=h x h1.2
      have:=h1.1
      omega)
    have:=List.length_erase (a:=(n:Int)) (l:=l)
    split at this <;> omega
theorem aGI(a b:List bA):bH (a++b)=bH a++bH b:=by simp [bH]
theorem aGJ(a b:List aQ):cK (a++b)=cK a++cK b:=by simp [cK]
theorem DZ{l:List bA}{k:Nat}(hk:k < l.length)(x:bA):bH (l.set k x)=bH (l.take k)++(x.Rows++bH (l.drop (k+1))):=by
  rw [List.set_eq_take_append_cons_drop,if_pos hk,aGI];simp [bH]
theorem AX{l:List bA}{k:Nat}(hk:k < l.length):bH l=bH (l.take k)++(l[k].Rows++bH (l.drop (k+1))):=by
  conv=>lhs;rw [←List.set_getElem_self hk,DZ hk]
theorem D0{l:List aQ}{k:Nat}(hk:k < l.length)(x:aQ):cK (l.set k x)=cK (l.take k)++(x.aS++cK (l.drop (k+1))):=by
  rw [List.set_eq_take_append_cons_drop,if_pos hk,aGJ];simp [cK]
theorem AY{l:List aQ}{k:Nat}(hk:k < l.length):cK l=cK (l.take k)++(l[k].aS++cK (l.drop (k+1))):=by
  conv=>lhs;rw [←List.set_getElem_self hk,D0 hk]
def DE(l:List bA)(s:Int):Prop:=∃r∈bH l,jN r.Handle∧r.Handle % 32=s
instance (l:List bA) (s:Int):Decidable (DE l s):=by unfold DE;infer_instance
noncomputable section
variable {l:List bA} (hl:oF l)
include hl
theorem oF.small:(bH l).length≤1073741824∧l.length≤maxLen∧l.length≤1048576∧∀s∈l,s.Rows.length≤24:=by
  have:=hl.1;have h2:=hl.2.1
  refine⟨by omega,by simp only [maxLen];omega,by omega,fun s hs=>?_⟩
  have:=MJ hs;omega
theorem GF(s:Int):qU l s=some (decide (DE l s)):=by
  have hm:=hl.small
  unfold qU
  rw [I3 hm.1 hm.2.1,aE]
  have key:=j4 (f:=m5 s (bH l)) (bH l) (fun k=>(k:Int)) (fun r=>¬(jN r.Handle∧r.Handle % 32=s)) (Out.brk ()) (Out.ret true)
    (fun k hk hp=>by
      have hk':=hl.2.1
      simp only [m5,rW]
      rw [if_pos (by simp;omega),aV hk,jA (show k < maxLen by simp only [maxLen];omega)]
      simp only [aE,eB,cN]
      by_cases q:jN (bH l)[k].Handle
      · have:((bH l)[k].Handle % 32 == s)=false:=by simpa using fun a=>hp ⟨q,a⟩
        simp [q,this]
      · simp [q])
    (fun k hk hp=>by
      have hp:=Classical.not_not.1 hp
      simp only [m5,rW]
      rw [if_pos (by simp;omega),aV hk]
      simp [eB,cN,hp.1,hp.2])
    (by simp [m5])
  have key':loop (m5 s (bH l)) 0=_:=key
  rw [key']
  by_cases q:DE l s
  · rw [if_neg (fun a=>by obtain⟨r,hr,e⟩:=q;exact a r hr e),bC q];rfl
  · rw [if_pos (fun r hr e=>q ⟨r,hr,e⟩),bL q];rfl
theorem YY(s:Int):HA l s=some (decide (DE l s)):=by
  have hm:=hl.small
  unfold HA
  have e1:∀(r:cW),pJ r s=some (decide (jN r.Handle∧r.Handle % 32=s)):=by
    intro r
    unfold pJ oQ
    rw [iW]
    by_cases q:jN r.Handle
    · rw [q.mod.1];simp [q];rfl
    · simp [q]
  have e2:∀x∈l,BT x s=some (x.Rows.any fun r=>decide (jN r.Handle∧r.Handle % 32=s)):=by
    intro x hx
    unfold BT
    have:x.Rows.length≤maxLen:=by have:=hm.2.2.2 x hx;simp only [maxLen];omega
    rw [show(fun y0=>pJ y0 s)=fun r=>some (decide (jN r.Handle∧r.Handle % 32=s)) from funext e1,SM this];rfl
  rw [QN hm.2.1 (fun x=>x.Rows.any fun r=>decide (jN r.Handle∧r.Handle % 32=s)) _ e2]
  simp only [aE]
  congr 1
  rw [Bool.eq_iff_iff,decide_eq_true_iff]
  simp only [List.any_eq_true,decide_eq_true_eq,DE,bH,List.mem_flatMap]
  constructor
  · rintro⟨x,hx,r,hr,h⟩;exact⟨r,⟨x,hx,hr⟩,h⟩
  · rintro⟨r,⟨x,hx,hr⟩,h⟩;exact⟨x,hx,r,hr,h⟩
theorem oF.more{k:Nat}(hk:k < l.length){r:cW}(hr:yR r)(hn:¬DE l (r.Handle % 32)):oF (l.set k ⟨l[k].Rows ++ [r]⟩):=by
  have e:=DZ hk (⟨l[k].Rows ++ [r]⟩:bA)
  have p:(bH (l.set k ⟨l[k].Rows ++ [r]⟩)).Perm (r :: bH l):=by
    rw [e,AX hk]
    refine List.Perm.trans ?_ List.perm_middle
    simp only [List.append_assoc]
    exact List.Perm.append_left _ (by simp only [List.singleton_append];exact(List.perm_middle (l₁:=l[k].Rows) (l₂:=bH (l.drop (k+1))) (a:=r)))
  have h1:∀x∈bH (l.set k ⟨l[k].Rows ++ [r]⟩),yR x:=fun x hx=>by
    rcases List.mem_cons.1 (p.mem_iff.1 hx) with rfl | h
    · exact hr
    · exact hl.2.2.1 x h
  have h2:((bH (l.set k ⟨l[k].Rows ++ [r]⟩)).map kW).Nodup:=by
    refine(List.Perm.nodup_iff (p.map kW)).2 ?_
    rw [List.map_cons,List.nodup_cons]
    refine⟨fun h=>hn ?_,hl.2.2.2⟩
    obtain⟨x,hx,e⟩:=List.mem_map.1 h
    exact⟨x,hx,(hl.2.2.1 x hx).1,e⟩
  refine⟨by simpa using hl.1,?_,h1,h2⟩
  have:=aJ3 24 _ h2 (fun x hx=>by
    obtain⟨y,hy,rfl⟩:=List.mem_map.1 hx
    have:=(h1 y hy).1.mod
    unfold kW;omega)
  simpa using this
end
theorem aM9{b:aA}(hb:mO b)(hs:QQ b){w:Int}(hw:0≤w∧w≤2)(s:Sub) :
    ∃x y,uS b w s=some (x,y)∧oR s b w=some (y,x)∧∃L,x=⟨b.Mem,b.aC,L,b.nA⟩∧oF L∧∀r∈bH L,wH b r:=by
  have hL:=hb.1.2.2.1
  have hm:=hb.1.1
  have hlen:w.toNat < b.aP.length:=by have:=hL.1;omega
  have hx:idx b.aP w=some b.aP[w.toNat]:=fP hw.1 (by omega)
  have hg:b.Mem.aB.Global.length≤maxLen:=by rw [hm.1.2.1];simp [maxLen]
  have ho:b.Mem.aB.Own.length≤maxLen:=by rw [hm.1.2.2.1];simp [maxLen]
  have hall:(dC b.Mem.aB).length≤1073741824:=by have:=hs.1.2.2.2.2;omega
  have hrow:=hL.small.2.2.2 _ (List.getElem_mem hlen)
  have he:=hb.1.2.1.1
  unfold uS oR lU
  rw [bZ,dR,nF hm.1.1.1 hall hg ho,I5 hm.1.1.1 hall hg ho,cN]
  simp only [bK,bG,aE,tK,CH,lT]
  by_cases p0:s.Pc=0
  · simp only [p0,beq_self_eq_true,if_true];exact⟨_,_,rfl,rfl,_,rfl,hL,hb.2⟩
  · have p0' : (s.Pc == 0) = false := by simpa using p0
    simp only [p0',aN,if_false]
    by_cases p1:s.Pc=1
    · simp only [p1,beq_self_eq_true,bne_self_eq_false,aN,if_false,if_true]
      by_cases q1:0≤s.E∧s.E≤b.aC.aI
      · simp only [bC q1,dE,aN,if_false]
        by_cases q2:g7 b.Mem s.A
        · have hh:=q2.1
          simp only [bC q2,dE,aN,if_false,if_pos hh,hh.mod.1,GF hL,YY hL,aE]
          by_cases q3:DE b.aP (s.A % 32)
          · simp only [bC q3,if_true];exact⟨_,_,rfl,rfl,_,rfl,hL,hb.2⟩
          · have hmore:=hL.more hlen (r:=⟨s.A,s.E⟩) ⟨hh,q1.1,by simp only;omega⟩ q3
            have e:EM b.aP w s.A s.E=some (b.aP.set w.toNat ⟨b.aP[w.toNat].Rows ++ [⟨s.A,s.E⟩]⟩,true):=by
              unfold EM vP
              rw [zT hL.small.1,kL,SN hL.small.2.2.1 (fun s h=>by have:=hL.small.2.2.2 s h;omega)]
              simp only [bC hL,bC hw,aE,dE,aN,if_false,hx]
              rw [aM (by simp;omega),zT hmore.small.1,bC hmore];rfl
            simp only [bL q3,aN,if_false,hx,e,aE]
            rw [aM (by simp;omega)]
            refine⟨_,_,rfl,rfl,_,rfl,hmore,fun r hr=>?_⟩
            rw [DZ hlen] at hr
            have hsp:=AX hlen
            rcases List.mem_append.1 hr with h | h
            · exact hb.2 r (by rw [hsp];exact List.mem_append_left _ h)
            · rcases List.mem_append.1 h with h | h
              · rcases List.mem_append.1 h with h | h
                · exact hb.2 r (by rw [hsp];exact List.mem_append_right _ (List.mem_append_left _ h))
                · simp at h;subst h;exact⟨q2,q1.2⟩
              · exact hb.2 r (by rw [hsp];exact List.mem_append_right _ (List.mem_append_right _ h))
        · simp only [bL q2,iE,if_true];exact⟨_,_,rfl,rfl,_,rfl,hL,hb.2⟩
      · simp only [bL q1,iE,if_true];exact⟨_,_,rfl,rfl,_,rfl,hL,hb.2⟩
    · have p1':(s.Pc == 1)=false:=by simpa using p1
      have p1'':(s.Pc != 1)=true:=by simpa using p1
      simp only [p1',p1'',aN,if_false,if_true];exact⟨_,_,rfl,rfl,_,rfl,hL,hb.2⟩
end Go.Gv
end
noncomputable section
namespace Go.Gv
def WN(b:List Int)(a:Nat)(n:Int):List Int:=(((b.set a 0).set (a+1) 0).set (a+2) 0).set (a+3) n
theorem C4(b:List Int)(a:Nat)(n:Int):(WN b a n).length=b.length:=by simp [WN]
theorem aIB{b:List Int}(h:tP b)(a:Nat){n:Int}(hn:0≤n∧n≤255):tP (WN b a n):=by
  have key:∀{l:List Int} (i:Nat) (v:Int),tP l→0≤v∧v≤255→tP (l.set i v):=fun i v hl hv x hx=>by
    rcases List.mem_or_eq_of_mem_set hx with h | rfl
    · exact hl x h
    · exact hv
  exact key _ _ (key _ _ (key _ _ (key _ _ h (by omega)) (by omega)) (by omega)) hn
theorem aQV{n:Int}(hn:0≤n∧n≤255):((u8 n).toNat:Int)=n:=by
  obtain⟨m,rfl⟩:=Int.eq_ofNat_of_zero_le hn.1
  unfold u8
  rw [UInt8.toNat_ofNat'];omega
theorem U3{l:List Int}(i:Nat){v:Int}(hl:tP l)(hv:0≤v∧v≤255):tP (l.set i v):=fun x hx=>by
  rcases List.mem_or_eq_of_mem_set hx with h | rfl
  · exact hl x h
  · exact hv
def D1(b:List Int)(a:Nat)(n:Int):List Int:=(((b.set a (n / 16777216)).set (a+1) (n / 65536 % 256)).set (a+2) (n / 256 % 256)).set (a+3) (n % 256)
theorem MK(b:List Int)(a:Nat)(n:Int):(D1 b a n).length=b.length:=by simp [D1]
theorem aNA{b:List Int}(h:tP b)(a:Nat){n:Int}(hn:0≤n∧n≤4294967295):tP (D1 b a n):=by
  unfold D1
  exact U3 _ (U3 _ (U3 _ (U3 _ h (by omega)) (by omega)) (by omega)) (by omega)
theorem aNB(b:List Int)(a:Nat)(x y z u:Int):(((b.set (a+3) u).set (a+2) z).set (a+1) y).set a x=(((b.set a x).set (a+1) y).set (a+2) z).set (a+3) u:=by
  refine List.ext_getElem (by simp) fun j h1 h2=>?_
  simp only [List.getElem_set]
  by_cases j0:a=j
  · subst j0;simp
  · by_cases j1:a+1=j
    · subst j1;simp
    · by_cases j2:a+2=j
      · subst j2;simp
      · by_cases j3:a+3=j
        · subst j3;simp
        · simp [j0,j1,j2,j3]
theorem WO{b:List Int}{a:Nat}(h:a+4≤b.length)(hl:b.length≤100000){n:Int}(hn:0≤n∧n≤4294967295):v7 b (a:Int) 4 n=some (D1 b a n):=by
  have st:∀(c:List Int) (m:Int) (i:Nat),c.length=b.length→0≤m→m≤4294967295→i < 4→zN (a:Int) (c,m,(i:Int))=some (.next (c.set (a+i) (m % 256),m / 256,(i:Int) - 1)):=fun c m i hc h0 h1 hi=>by
    simp only [zN]
    rw [if_pos (by simp),aO (x:=(a:Int)+i) (by omega) (by omega),show(a:Int)+i=((a+i:Nat):Int) by omega,aV (by omega),aE,yO h0,FP h0,aO (x:=m / 256) (by omega) (by omega),aO (x:=(i:Int) - 1) (by omega) (by omega),Int.toNat_natCast]
  unfold v7
  rw [show bB (4 - 1)=((3:Nat):Int) from by rw [aO (by omega) (by omega)];rfl]
  rw [bP (st b n 3 rfl hn.1 hn.2 (by omega)),show((3:Nat):Int) - 1=((2:Nat):Int) by rfl,
    bP (st _ _ 2 (by simp) (by omega) (by omega) (by omega)),show((2:Nat):Int) - 1=((1:Nat):Int) by rfl,
    bP (st _ _ 1 (by simp) (by omega) (by omega) (by omega)),show((1:Nat):Int) - 1=((0:Nat):Int) by rfl,
    bP (st _ _ 0 (by simp) (by omega) (by omega) (by omega)),bO (r:=D1 b a n)]
  · rfl
  · simp only [zN]
    rw [if_neg (by simp)]
    have e1:n / 256 / 256=n / 65536:=by omega
    have e2:n / 256 / 256 / 256=n / 16777216:=by omega
    have e3:n / 16777216 % 256=n / 16777216:=by omega
    rw [e1,show n / 65536 / 256=n / 16777216 by omega,e3]
    unfold D1
    simp only [Nat.add_zero]
    rw [aNB]
def SO(n:Int):List UInt8:=[u8 (n / 16777216),u8 (n / 65536),u8 (n / 256),u8 n]
theorem aB7{n:Int}(hn:0≤n∧n≤4294967295):z6 n 4=some (SO n):=by
  have hw:kB 4=some true:=by unfold kB;rw [dR];rfl
  unfold z6
  rw [hw]
  have e1:IntKind.u64.wrap (bB (8 * 4))=32:=by decide
  have e2:aED .i64 1 32=4294967296:=by decide
  simp only [aE,dE,aN,if_false,e1,e2]
  rw [if_neg (by simp;omega),aM (by omega),bL (by omega)]
  simp only [xF,aN,if_false]
  rw [aM (by omega),show bB (4 - 1)=((3:Nat):Int) from by rw [aO (by omega) (by omega)];rfl]
  have st:∀(m:Int) (c:List UInt8) (i:Nat),i < c.length→i < 4→0≤m→EJ (m,c,(i:Int))=some (.next (m / 256,c.set i (u8 m),(i:Int) - 1)):=fun m c i hc hi h0=>by
    simp only [EJ]
    rw [if_pos (by simp),aV hc,aE,show(8:Int)=((8:Nat):Int) from rfl,aTZ h0 (by omega),aO (by omega) (by omega),Int.toNat_natCast];rfl
  rw [bP (st n _ 3 (by simp) (by omega) hn.1),show((3:Nat):Int) - 1=((2:Nat):Int) by rfl,
    bP (st _ _ 2 (by simp) (by omega) (by omega)),show((2:Nat):Int) - 1=((1:Nat):Int) by rfl,
    bP (st _ _ 1 (by simp) (by omega) (by omega)),show((1:Nat):Int) - 1=((0:Nat):Int) by rfl,
    bP (st _ _ 0 (by simp) (by omega) (by omega)),bO (r:=SO n)]
  · rfl
  · simp only [EJ]
    rw [if_neg (by simp)]
    have e1:n / 256 / 256=n / 65536:=by omega
    rw [e1,show n / 65536 / 256=n / 16777216 by omega]
    rfl
theorem aGK{n:Int}(hn:0≤n):((u8 n).toNat:Int)=n % 256:=by
  have:u8 n=u8 (n % 256):=by
    unfold u8
    congr 1
    omega
  rw [this,aQV (by omega)]
theorem aB8{b:List Int}{a:Nat}(h:a+4≤b.length)(hl:b.length≤100000){n:Int}(hn:0≤n∧n≤4294967295):uE b (a:Int) (SO n)=some (D1 b a n):=by
  have st:∀(c:List Int) (i:Nat) (v:UInt8),c.length=b.length→i < 4→idx (SO n) (i:Int)=some v→BR b (a:Int) (SO n) (c,(i:Int))=some (.next (c.set (a+i) (v.toNat:Int),((i+1:Nat):Int))):=fun c i v hc hi hv=>by
    simp only [BR]
    rw [aM hc,if_pos (by simp [SO];omega),hv,aE,aO (x:=(a:Int)+i) (by omega) (by omega),show(a:Int)+i=((a+i:Nat):Int) by omega,aV (by omega),aE,aO (by omega) (by omega),Int.toNat_natCast];rfl
  unfold uE
  rw [show(0:Int)=((0:Nat):Int) from rfl,bP (st b 0 _ rfl (by omega) rfl),bP (st _ 1 _ (by simp) (by omega) rfl),bP (st _ 2 _ (by simp) (by omega) rfl),bP (st _ 3 _ (by simp) (by omega) rfl),bO (r:=D1 b a n)]
  · simp only [aE,PK,PJ]
    rw [aM (MK b a n)]
  · simp only [BR]
    rw [aM (by simp),if_neg (by simp [SO])]
    simp only [aGK hn.1,aGK (show 0≤n / 16777216 by omega),aGK (show 0≤n / 65536 by omega),aGK (show 0≤n / 256 by omega)]
    rw [show n / 16777216 % 256=n / 16777216 by omega]
    rfl
theorem aQW{b:List Int}{a:Nat}{n:Int}(hn:0≤n∧n≤255):D1 b a n=WN b a n:=by
  unfold D1 WN
  rw [show n / 16777216=0 by omega,show n / 65536 % 256=0 by omega,show n / 256 % 256=0 by omega,show n % 256=n by omega]
theorem GG{b:List Int}{a:Nat}(h:a+4≤b.length)(hl:b.length≤100000){n:Int}(hn:0≤n∧n≤255):v7 b (a:Int) 4 n=some (WN b a n):=by
  rw [WO h hl ⟨hn.1,by omega⟩,aQW hn]
theorem aYY{n:Int}(hn:0≤n∧n≤255):SO n=[0,0,0,u8 n]:=by
  unfold SO
  rw [show n / 16777216=0 by omega,show n / 65536=0 by omega,show n / 256=0 by omega];rfl
theorem SP{n:Int}(hn:0≤n∧n≤255):z6 n 4=some [0,0,0,u8 n]:=by
  rw [aB7 ⟨hn.1,by omega⟩,aYY hn]
theorem QT{b:List Int}{a:Nat}(h:a+4≤b.length)(hl:b.length≤100000){n:Int}(hn:0≤n∧n≤255):uE b (a:Int) [0,0,0,u8 n]=some (WN b a n):=by
  rw [←aYY hn,aB8 h hl ⟨hn.1,by omega⟩,aQW hn]
end Go.Gv
end
noncomputable section
namespace Go.Gv
theorem aU8{x y z:Int}:∀(a:Nat) (l:List Int),a+3≤l.length→dA l a [x,y,z]=((l.set a x).set (a+1) y).set (a+2) z
  | 0, l, h => by
    match l,h with
    | _ :: _ :: _ :: t,_=>simp [dA]
  | a + 1, l, h => by
    match l,h with
    | u :: t, h =>
      have ih:=aU8 (x:=x) (y:=y) (z:=z) a t (by simp at h;omega)
      simp only [List.set_cons_succ,←ih]
      simp [dA,Nat.add_right_comm]
def aQX(p k:Nat)(c:Int):Nat:=(eA ((p:Int) * 4+k) c).toNat
def gB(b:List Int)(p:Nat)(c:Int):Nat→List Int
  | 0=>((b.set (p * 64) 171).set (p * 64+1) c).set (p * 64+2) (bV c)
  | k+1=>WN (gB b p c k) (aQX p k c) 1
theorem I6(b:List Int)(p:Nat)(c:Int):∀k,(gB b p c k).length=b.length
  | 0=>by simp [gB]
  | k+1=>by rw [gB,C4,I6 b p c k]
theorem aB9{l:List Int}(i:Nat){v:Int}(hl:tP l)(hv:0≤v∧v≤255):tP (l.set i v):=fun x hx=>by
  rcases List.mem_or_eq_of_mem_set hx with h | rfl
  · exact hl x h
  · exact hv
theorem aGL{b:List Int}(hb:tP b)(p:Nat){c:Int}(hc:0≤c∧c≤2):∀k,tP (gB b p c k)
  | 0 => by
    have:=lX c
    exact aB9 _ (aB9 _ (aB9 _ hb (by omega)) (by omega)) (by omega)
  | k+1=>aIB (aGL hb p hc k) _ (by omega)
def gS(p:Nat)(n:Nat):List Int:=(List.range n).map fun(i:Nat)=>(p:Int) * 4+(i:Int)
theorem I7(p n:Nat):(gS p n).length=n:=by simp [gS]
theorem aL8(p n:Nat):gS p (n+1)=gS p n ++ [(p:Int) * 4+(n:Int)]:=by simp [gS,List.range_succ]
theorem aGM{p k:Nat}{c:Int}(hp:p < 6)(hk:(k:Int) < bV c):eA ((p:Int) * 4+k) c=(aQX p k c:Int)∧aQX p k c+4≤384:=by
  have h4:=lX c
  have hm:=IY (c:=c) (i:=(k:Int)) (by omega) hk
  have hst:4≤aT c:=by
    have:0≤c∧c≤2:=gZ.1 (by omega)
    rcases fQ this with e | e | e <;> rw [e] <;> decide
  have e:eA ((p:Int) * 4+k) c=(p:Int) * 64+8+(k:Int) * aT c:=by
    unfold eA
    rw [if_pos ⟨by omega,by omega⟩,show((p:Int) * 4+k) / 4=p by omega,show((p:Int) * 4+k) % 4=k by omega]
  unfold aQX
  rw [e];omega
theorem aEY{p k:Nat}(hp:p < 6)(hk:k < 4):qE (p:Int) (k:Int)=some ((p:Int) * 4+k)∧J3 (p:Int) (k:Int)=some ((p:Int) * 4+k):=by
  have a:0≤(p:Int)∧(p:Int)≤5:=by omega
  have b:0≤(k:Int)∧(k:Int)≤3:=by omega
  have e1:bB ((p:Int) * 4)=(p:Int) * 4:=aO (by omega) (by omega)
  have e2:bB ((p:Int) * 4+k)=(p:Int) * 4+k:=aO (by omega) (by omega)
  constructor
  · unfold qE uK;rw [bZ,bZ,bC a,bC b,e1,e2];rfl
  · unfold J3 BS;rw [dR,dR,bC a,bC b,e1,e2];rfl
noncomputable section
variable {b:List Int} (hb:b.length=384) {p:Nat} (hp:p < 6) {c:Int} (hc:0≤c∧c≤2)
include hb hp hc
theorem aCA:loop (zO c (p:Int)) ([],0,gB b p c 0)=some (gS p (bV c).toNat,gB b p c (bV c).toNat):=by
  have h4:=lX c
  refine iY (bV c).toNat (fun k=>(gS p k,(k:Int),gB b p c k)) _ (fun k hk=>?_) ?_
  · have ho:=aGM (c:=c) hp (k:=k) (by omega)
    simp only [zO,ON,hJ,aE]
    rw [if_pos (by simp;omega),(aEY hp (by omega)).1]
    simp only [aE,sU,ho.1]
    rw [GG (by rw [I6];omega) (by rw [I6];omega) (by omega)]
    simp only [aE]
    rw [aM (by rw [I7];simp;omega),aO (by omega) (by omega),aL8];rfl
  · simp only [zO,hJ,aE]
    rw [if_neg (by simp;omega)]
theorem aJ4:loop (EK c (p:Int) (bV c)) ([],0,gB b p c 0)=some (gS p (bV c).toNat,gB b p c (bV c).toNat):=by
  have h4:=lX c
  refine iY (bV c).toNat (fun k=>(gS p k,(k:Int),gB b p c k)) _ (fun k hk=>?_) ?_
  · have ho:=aGM (c:=c) hp (k:=k) (by omega)
    simp only [EK,KN]
    rw [if_pos (by simp;omega),(aEY hp (by omega)).2]
    simp only [aE,yP,ho.1]
    rw [SP (by omega),aE,QT (by rw [I6];omega) (by rw [I6];omega) (by omega)]
    simp only [aE]
    rw [aM (by rw [I7];simp;omega),aO (by omega) (by omega),aL8];rfl
  · simp only [EK]
    rw [if_neg (by simp;omega)]
end
theorem aQY{h:aD}(hh:RU h){c:Int}(hc:0≤c∧c≤2) :
    (qW h c=some (h,[])∧DP h c=some (h,[])) ∨
    ∃p,p < 6∧bT h p < 0∧qW h c=some (⟨gB h.Bytes p c (bV c).toNat,h.Class.set p c⟩,gS p (bV c).toNat)∧DP h c=some (⟨gB h.Bytes p c (bV c).toNat,h.Class.set p c⟩,gS p (bV c).toNat):=by
  have hs:=hh.1
  have h6:=hs.2.1
  have h384:=hs.1
  have hp4:=lX c
  have hcp:=NR (h:=h) (by omega) (by omega)
  have hne:∀j (hj:j < 6),j < h.Class.findIdx (fun x=>decide (x = -1))→h.Class[j]≠-1:=fun j hj hlt=>by
    have:=List.not_of_lt_findIdx hlt
    simpa using this
  generalize hq:h.Class.findIdx (fun x=>decide (x = -1))=q at hne
  have hq6:q≤6:=by rw [←hq,←h6];exact List.findIdx_le_length
  have s1:∀k (hk:k < q),eY h c (k:Int)=some (.next ((k+1:Nat):Int)):=fun k hk=>by
    have:=hne k (by omega) hk
    have n:(h.Class[k] != -1)=true:=by simpa using this
    simp only [eY,GB]
    rw [if_pos (by simp;omega),aV (by omega),aE,n,if_pos rfl,aO (by omega) (by omega)];rfl
  have s2:∀k (hk:k < q),eQ h.Class (-1) (k:Int)=some (.next ((k+1:Nat):Int)):=fun k hk=>by
    have:=hne k (by omega) hk
    have n:((-1:Int) == h.Class[k])=false:=by simpa using fun a=>this a.symm
    simp only [eQ]
    rw [if_pos (by simp;omega),aV (by omega),aE,n,aO (by omega) (by omega)];rfl
  have hm:h.Bytes.length≤maxLen:=by rw [h384];simp [maxLen]
  by_cases h5:q=6
  · left
    have a1:loop (eY h c) 0=some (Out.brk ()):=iY q (fun k=>(k:Int)) _ s1 (by simp only [eY];rw [if_neg (by simp;omega)])
    have a2:loop (eQ h.Class (-1)) 0=some (Out.brk ()):=iY q (fun k=>(k:Int)) _ s2 (by simp only [eQ];rw [if_neg (by simp;omega)])
    constructor
    · unfold qW;rw [a1];rfl
    · unfold DP l8
      rw [a2,hcp,I0 hm,jR,bC hh,bC hc];rfl
  · right
    have hq5:q < 6:=by omega
    have he:h.Class[q] = -1:=by
      have:=List.findIdx_getElem (xs:=h.Class) (p:=fun x=>decide (x = -1)) (w:=by rw [hq];omega)
      simp only [hq,decide_eq_true_eq] at this
      exact this
    refine⟨q,hq5,by rw [←RL hs hq5,he];omega,?_,?_⟩
    · have a1:loop (eY h c) 0=some (Out.ret (⟨gB h.Bytes q c (bV c).toNat,h.Class.set q c⟩,gS q (bV c).toNat)):=iY q (fun k=>(k:Int)) _ s1 (by
        have e0:bB ((q:Int) * 64)=((q * 64:Nat):Int):=by rw [aO (by omega) (by omega)];omega
        have e1:bB (((q * 64:Nat):Int)+1)=((q * 64+1:Nat):Int):=by rw [aO (by omega) (by omega)];omega
        have e2:bB (((q * 64:Nat):Int)+2)=((q * 64+2:Nat):Int):=by rw [aO (by omega) (by omega)];omega
        have n:(h.Class[q] != -1)=false:=by simpa using he
        simp only [eY,e0,e1,e2,Int.toNat_natCast]
        rw [if_pos (by simp;omega),aV (by omega),aE,n,if_neg (by simp),aV (by omega),aE,aV (by simp;omega),aE,hJ,aE,aV (by simp;omega),aE]
        have:=aCA h384 hq5 hc
        simp only [gB] at this
        rw [this];rfl)
      unfold qW;rw [a1];rfl
    · have a2:loop (eQ h.Class (-1)) 0=some (Out.ret (q:Int)):=iY q (fun k=>(k:Int)) _ s2 (by
        have n:((-1:Int) == h.Class[q])=true:=by rw [he];rfl
        simp only [eQ]
        rw [if_pos (by simp;omega),aV (by omega),aE,n];rfl)
      unfold DP l8
      rw [a2,hcp,I0 hm,jR,bC hh,bC hc]
      have e0:bB ((q:Int) * 64)=((q * 64:Nat):Int):=by rw [aO (by omega) (by omega)];omega
      simp only [aE,oN,dE,aN,if_false,xG,e0,zQ,KO,Int.toNat_natCast]
      rw [bL (by omega),if_neg (by simp),aV (by omega),aE,aM (by omega),aU8 _ _ (by omega)]
      have:=aJ4 h384 hq5 hc
      simp only [gB] at this
      rw [this];rfl
theorem LOk.count{l:aB}(h:LOk l):(dC l).length≤24:=aJ3 24 _ h.2.2.2.2 (fun x hx=>by have:=h.2.2.2.1 x hx;omega)
theorem aNC{m:Mem}(hs:fS m.aD){s:Int}(hc:0≤aW m.aD s):∃h,yF m s=some h∧EL m s=some h:=by
  unfold yF EL KX KP v8 vO
  rw [oA hs hc,E4 hs hc,aE,aE,bZ,bZ,vC,dR]
  have h1:=(oZ hc).1
  simp only [bC h1,aE,dE,aN,if_false]
  by_cases q:1≤hY m.aD s∧hY m.aD s≤6
  · simp only [bC q,dE,aN,if_false];exact⟨_,rfl,rfl⟩
  · simp only [bL q,iE,if_true];exact⟨_,rfl,rfl⟩
theorem TM{l:List aQ}{k:Nat}(hk:k < l.length)(t:List Int):(cK (l.set k ⟨l[k].aS++t⟩)).length=(cK l).length+t.length:=by
  rw [D0 hk,AY hk];simp;omega
end Go.Gv
end
noncomputable section
namespace Go.Gv
def bt(b:List Int)(i:Nat):Int:=b.getD i 0
theorem aCB{b:List Int}{i:Nat}(h:i < b.length):b[i]=bt b i:=by
  unfold bt;rw [List.getD_eq_getElem?_getD,List.getElem?_eq_getElem h];rfl
theorem ld4{b:List Int}{a:Nat}(h:a+4≤b.length):ld b a 4=((bt b a * 256+bt b (a+1)) * 256+bt b (a+2)) * 256+bt b (a+3):=by
  unfold ld
  rw [List.drop_eq_getElem_cons (by omega),List.drop_eq_getElem_cons (by omega),List.drop_eq_getElem_cons (by omega),List.drop_eq_getElem_cons (by omega)]
  simp only [List.take_succ_cons,List.take_zero,ldF,List.foldl_cons,List.foldl_nil,aCB (b:=b) (i:=a) (by omega),aCB (b:=b) (i:=a+1) (by omega),aCB (b:=b) (i:=a+1+1) (by omega),aCB (b:=b) (i:=a+1+1+1) (by omega)]
  simp only [Nat.add_assoc,Nat.reduceAdd];omega
theorem AH{b:List Int}{i j:Nat}{v:Int}(hi:i < b.length):bt (b.set i v) j=if j=i then v else bt b j:=by
  unfold bt
  rw [List.getD_eq_getElem?_getD,List.getD_eq_getElem?_getD,List.getElem?_set]
  by_cases h:i=j
  · subst h;simp [hi]
  · have h':¬j=i:=fun q=>h q.symm
    simp [h,h']
theorem vD{b:List Int}{a:Nat}{n:Int}(h:a+4≤b.length)(j:Nat):bt (WN b a n) j=if j=a+3 then n else if a≤j∧j < a+3 then 0 else bt b j:=by
  unfold WN
  rw [AH (by simp;omega),AH (by simp;omega),AH (by simp;omega),AH (by omega)]
  by_cases h1:j=a+3
  · simp [h1]
  · rw [if_neg h1,if_neg h1]
    by_cases h2:a≤j∧j < a+3
    · rw [if_pos h2]
      by_cases h3:j=a+2
      · simp [h3]
      · rw [if_neg h3]
        by_cases h4:j=a+1
        · simp [h4]
        · rw [if_neg h4,if_pos (by omega)]
    · rw [if_neg h2,if_neg (by omega),if_neg (by omega),if_neg (by omega)]
theorem aJ5{b:List Int}{a:Nat}{n:Int}(h:a+4≤b.length):ld (WN b a n) a 4=n:=by
  rw [ld4 (by rw [C4];exact h),vD h,vD h,vD h,vD h,if_neg (by omega),if_pos (by omega),if_neg (by omega),if_pos (by omega),if_neg (by omega),if_pos (by omega),if_pos rfl]
  omega
theorem HW{b b':List Int}{a:Nat}(h:a+4≤b.length)(hl:b'.length=b.length)(hs:∀j,a≤j→j < a+4→bt b' j=bt b j):ld b' a 4=ld b a 4:=by
  rw [ld4 (by omega),ld4 h,hs a (by omega) (by omega),hs (a+1) (by omega) (by omega),hs (a+2) (by omega) (by omega),hs (a+3) (by omega) (by omega)]
def WQ(h:aD)(p:Nat):Prop:=
  if bT h p < 0 then ∀k,k < 64→bt h.Bytes (p * 64+k)=0
  else ((bt h.Bytes (p * 64)=171∧bt h.Bytes (p * 64+1)=bT h p∧bt h.Bytes (p * 64+2)=bV (bT h p))∧(∀k,3≤k→k < 8→bt h.Bytes (p * 64+k)=0)∧∀i,i < (bV (bT h p)).toNat→1≤ld h.Bytes (p * 64+8+i * (aT (bT h p)).toNat) 4∧ld h.Bytes (p * 64+8+i * (aT (bT h p)).toNat) 4≤7)
theorem aEZ{h:aD}(hs:fS h){p:Nat}(hp:p < 6){k:Nat}(hk:k < 64):(dY h p).getD k 0=bt h.Bytes (p * 64+k):=by
  rw [←aET hs hp hk,aCB (by have:=hs.1;omega)]
theorem U4{l:List Int}{x:Int}:x∈l↔∃k,k < l.length∧l.getD k 0=x:=by
  rw [List.mem_iff_getElem]
  constructor
  · rintro⟨k,hk,e⟩
    exact⟨k,hk,by rw [List.getD_eq_getElem?_getD,List.getElem?_eq_getElem hk];exact e⟩
  · rintro⟨k,hk,e⟩
    exact⟨k,hk,by rw [List.getD_eq_getElem?_getD,List.getElem?_eq_getElem hk] at e;exact e⟩
theorem I8{h:aD}(hs:fS h){p:Nat}(hp:p < 6):mK h p↔WQ h p:=by
  unfold mK WQ
  have hl:=IZ hs hp
  split
  · constructor
    · intro q k hk
      rw [←aEZ hs hp hk]
      exact q _ (U4.2 ⟨k,by omega,rfl⟩)
    · intro q x hx
      obtain⟨k,hk,rfl⟩:=U4.1 hx
      rw [aEZ hs hp (by omega)];exact q k (by omega)
  · rw [aEZ hs hp (by omega),aEZ hs hp (by omega),aEZ hs hp (by omega)]
    have e:(∀x∈((dY h p).drop 3).take 5,x=0)↔∀k,3≤k→k < 8→bt h.Bytes (p * 64+k)=0:=by
      have g:∀j,j < 5→(((dY h p).drop 3).take 5).getD j 0=bt h.Bytes (p * 64+(3+j)):=fun j hj=>by
        rw [←aEZ hs hp (by omega),List.getD_eq_getElem?_getD,List.getD_eq_getElem?_getD,List.getElem?_take,if_pos hj,List.getElem?_drop]
      constructor
      · intro q k h3 h8
        have:=q _ (U4.2 ⟨k - 3,by simp [hl];omega,rfl⟩)
        rw [g _ (by omega)] at this
        rw [show 3+(k - 3)=k by omega] at this;exact this
      · intro q x hx
        obtain⟨k,hk,rfl⟩:=U4.1 hx
        simp [hl] at hk
        rw [g _ hk];exact q _ (by omega) (by omega)
    rw [e];rfl
theorem WQ.same{h h':aD}{p:Nat}(hp:p < 6)(hs:fS h)(hl:h'.Bytes.length=h.Bytes.length)(hc:bT h' p=bT h p)(hb:∀k,k < 64→bt h'.Bytes (p * 64+k)=bt h.Bytes (p * 64+k))(q:WQ h p):WQ h' p:=by
  have h1:=hs.1
  unfold WQ at q ⊢
  rw [hc]
  split
  · rename_i q0;rw [if_pos q0] at q
    exact fun k hk=>by rw [hb k hk];exact q k hk
  · rename_i q0;rw [if_neg q0] at q
    obtain⟨⟨a1,a2,a3⟩,a4,a5⟩:=q
    have b0:=hb 0 (by omega);have b1:=hb 1 (by omega);have b2:=hb 2 (by omega)
    simp only [Nat.add_zero] at b0
    refine⟨⟨by rw [b0];exact a1,by rw [b1];exact a2,by rw [b2];exact a3⟩,fun k k3 k8=>by rw [hb k (by omega)];exact a4 k k3 k8,fun i hi=>?_⟩
    have hz:=sV hs hp (c:=bT h p) rfl hi
    rw [HW (b:=h.Bytes) (by omega) hl fun j j1 j2=>by
      have:=hb (j - p * 64) (by omega)
      rw [show p * 64+(j - p * 64)=j by omega] at this;exact this]
    exact a5 i hi
theorem sK{h:aD}{s:Int}(hc:0≤aW h s):∃p i,p < 6∧i < (bV (bT h p)).toNat∧s=(p:Int) * 4+i∧aW h s=bT h p∧(eA s (aW h s)).toNat=p * 64+8+i * (aT (bT h p)).toNat∧(s / 4).toNat=p:=by
  obtain⟨h1,h2,h3⟩:=oZ hc
  have hle:=lX (bT h (s / 4).toNat)
  refine⟨(s / 4).toNat,(s % 4).toNat,by omega,by omega,by omega,h3,?_,rfl⟩
  rw [h3]
  unfold eA
  rw [if_pos ⟨h1,by omega⟩]
  have hst:=(TJ (bT h (s / 4).toNat)).1
  have e:s % 4 * aT (bT h (s / 4).toNat)=(((s % 4).toNat * (aT (bT h (s / 4).toNat)).toNat:Nat):Int):=by
    rw [Int.natCast_mul,Int.toNat_of_nonneg (by omega),Int.toNat_of_nonneg hst]
  omega
theorem NS{c:Int}{i j:Nat}(hi:i < (bV c).toNat)(hj:j < (bV c).toNat)(hn:i≠j):i * (aT c).toNat+4≤j * (aT c).toNat∨j * (aT c).toNat+4≤i * (aT c).toNat:=by
  have hc:0≤c∧c≤2:=gZ.1 (by omega)
  have h12:12≤(aT c).toNat:=by rcases fQ hc with rfl | rfl | rfl <;> decide
  rcases Nat.lt_or_gt_of_ne hn with q | q
  · left
    have:(i+1) * (aT c).toNat≤j * (aT c).toNat:=Nat.mul_le_mul_right _ q
    rw [Nat.add_mul] at this;omega
  · right
    have:(j+1) * (aT c).toNat≤i * (aT c).toNat:=Nat.mul_le_mul_right _ q
    rw [Nat.add_mul] at this;omega
theorem RU.aQZ{h:aD}(hh:RU h){s g:Int}(hc:0≤aW h s)(hg:1≤g∧g≤7) :
    RU ⟨WN h.Bytes (eA s (aW h s)).toNat g,h.Class⟩∧∀t,0≤aW h t→hY ⟨WN h.Bytes (eA s (aW h s)).toNat g,h.Class⟩ t=if t=s then g else hY h t:=by
  obtain⟨hs,hp⟩:=hh
  have h384:=hs.1
  have hs':fS ⟨WN h.Bytes (eA s (aW h s)).toNat g,h.Class⟩:=⟨by rw [C4];exact hs.1,hs.2.1,aIB hs.2.2.1 _ (by omega),hs.2.2.2⟩
  obtain⟨p,i,p6,hi,es,ec,eo,ep⟩:=sK hc
  have hz:=sV hs p6 rfl hi
  have h4:=lX (bT h p)
  refine⟨⟨hs',fun q hq=>?_⟩,fun t ht=>?_⟩
  · rw [I8 hs' hq]
    have hold:=(I8 hs hq).1 (hp q hq)
    by_cases e:q=p
    · subst e
      have hpos:0 < bV (bT h q):=by omega
      have hcl:¬bT h q < 0:=by have:=gZ.1 hpos;omega
      unfold WQ at hold ⊢
      have hcl':bT ⟨WN h.Bytes (eA s (aW h s)).toNat g,h.Class⟩ q=bT h q:=rfl
      rw [hcl']
      rw [if_neg hcl] at hold ⊢
      obtain⟨⟨a1,a2,a3⟩,a4,a5⟩:=hold
      have bs:∀k,k < 8→bt (WN h.Bytes (eA s (aW h s)).toNat g) (q * 64+k)=bt h.Bytes (q * 64+k):=fun k hk=>by
        rw [vD (by omega),if_neg (by omega),if_neg (by omega)]
      have b0:=bs 0 (by omega);have b1:=bs 1 (by omega);have b2:=bs 2 (by omega)
      simp only [Nat.add_zero] at b0
      refine⟨⟨by rw [b0];exact a1,by rw [b1];exact a2,by rw [b2];exact a3⟩,fun k k3 k8=>by rw [bs k k8];exact a4 k k3 k8,fun j hj=>?_⟩
      have hzj:=sV hs p6 rfl hj
      by_cases ej:j=i
      · subst ej
        simp only [eo]
        rw [aJ5 (by omega)];exact hg
      · rw [HW (b:=h.Bytes) (by omega) (by simp only [C4]) fun k k1 k2=>?_]
        · exact a5 j hj
        · simp only [eo]
          have:=NS hi hj (fun q=>ej q.symm)
          rw [vD (by omega),if_neg (by omega),if_neg (by omega)]
    · refine WQ.same hq hs (by simp only [C4]) rfl (fun k hk=>?_) hold
      rw [vD (by omega),if_neg (by omega),if_neg (by omega)]
  · have e2:aW ⟨WN h.Bytes (eA s (aW h s)).toNat g,h.Class⟩ t=aW h t:=rfl
    unfold hY
    rw [e2]
    by_cases e:t=s
    · subst e;rw [if_pos rfl];simp only;rw [aJ5 (by omega)]
    · rw [if_neg e]
      obtain⟨p',i',p6',hi',es',ec',eo',ep'⟩:=sK ht
      have hz':=sV hs p6' rfl hi'
      rw [HW (b:=h.Bytes) (by omega) (by simp only [C4]) fun k k1 k2=>?_]
      simp only
      by_cases ee:p'=p
      · subst ee
        have:=NS hi hi' (fun q=>e (by rw [es,es',q]))
        rw [vD (by omega),if_neg (by omega),if_neg (by omega)]
      · have h4':=lX (bT h p')
        rw [vD (by omega),if_neg (by omega),if_neg (by omega)]
theorem ZU{p k:Nat}{c:Int}(hp:p < 6)(hk:(k:Int) < bV c):aQX p k c=p * 64+8+k * (aT c).toNat∧8+k * (aT c).toNat+4≤64:=by
  have hc:0≤c∧c≤2:=gZ.1 (by omega)
  have h1:=aGM (c:=c) hp hk
  have hle:=lX c
  have e:=h1.1
  unfold eA at e
  rw [if_pos (by omega)] at e
  have e1:((p:Int) * 4+k) / 4=p:=by omega
  have e2:((p:Int) * 4+k) % 4=k:=by omega
  rw [e1,e2] at e
  rcases fQ hc with rfl | rfl | rfl
  · rw [show aT 0=12 from rfl] at e ⊢
    rw [show bV 0=4 from rfl] at hk
    rw [show(12:Int).toNat=12 from rfl]
    omega
  · rw [show aT 1=20 from rfl] at e ⊢
    rw [show bV 1=2 from rfl] at hk
    rw [show(20:Int).toNat=20 from rfl]
    omega
  · rw [show aT 2=44 from rfl] at e ⊢
    rw [show bV 2=1 from rfl] at hk
    rw [show(44:Int).toNat=44 from rfl]
    omega
theorem aQ0{b:List Int}{p:Nat}{c:Int}(hl:b.length=384)(hp:p < 6)(hc:0≤c∧c≤2):∀k:Nat,(k:Int)≤bV c→∀j,(j < p * 64∨p * 64+64≤j→bt (gB b p c k) j=bt b j)∧(3≤j→j < 8→bt (gB b p c k) (p * 64+j)=bt b (p * 64+j))∧bt (gB b p c k) (p * 64)=171∧bt (gB b p c k) (p * 64+1)=c∧bt (gB b p c k) (p * 64+2)=bV c
  | 0, hk, j => by
    have key:∀i,bt (gB b p c 0) i=if i=p * 64+2 then bV c else if i=p * 64+1 then c else if i=p * 64 then 171 else bt b i:=fun i=>by
      unfold gB
      rw [AH (by simp;omega),AH (by simp;omega),AH (by omega)]
    refine⟨fun h=>?_,fun h1 h2=>?_,?_,?_,?_⟩
    · rw [key,if_neg (by omega),if_neg (by omega),if_neg (by omega)]
    · rw [key,if_neg (by omega),if_neg (by omega),if_neg (by omega)]
    · rw [key,if_neg (by omega),if_neg (by omega),if_pos rfl]
    · rw [key,if_neg (by omega),if_pos rfl]
    · rw [key,if_pos rfl]
  | k + 1, hk, j => by
    have ih:=aQ0 hl hp hc k (by omega)
    have hoff:=ZU (c:=c) hp (by omega:(k:Int) < bV c)
    have hbl:=I6 b p c k
    unfold gB
    refine⟨fun h=>?_,fun h1 h2=>?_,?_,?_,?_⟩
    · rw [vD (by omega),if_neg (by omega),if_neg (by omega)];exact(ih j).1 h
    · rw [vD (by omega),if_neg (by omega),if_neg (by omega)];exact(ih j).2.1 h1 h2
    · rw [vD (by omega),if_neg (by omega),if_neg (by omega)];exact(ih j).2.2.1
    · rw [vD (by omega),if_neg (by omega),if_neg (by omega)];exact(ih j).2.2.2.1
    · rw [vD (by omega),if_neg (by omega),if_neg (by omega)];exact(ih j).2.2.2.2
theorem aQ1{b:List Int}{p:Nat}{c:Int}(hl:b.length=384)(hp:p < 6):∀k:Nat,(k:Int)≤bV c→∀i,i < k→ld (gB b p c k) (p * 64+8+i * (aT c).toNat) 4=1
  | 0,_,i,h=>absurd h (by omega)
  | k + 1, hk, i, h => by
    have hbl:=I6 b p c k
    have ho:=ZU (c:=c) hp (by omega:(k:Int) < bV c)
    unfold gB
    by_cases e:i=k
    · subst e;rw [←ho.1];exact aJ5 (by omega)
    · have hoi:=ZU (c:=c) hp (by omega:(i:Int) < bV c)
      have ha:=NS (c:=c) (i:=i) (j:=k) (by omega) (by omega) e
      rw [HW (b:=gB b p c k) (by omega) (by rw [C4]) fun j j1 j2=>by rw [vD (by omega),if_neg (by omega),if_neg (by omega)]]
      exact aQ1 hl hp k (by omega) i (by omega)
theorem QU{h:aD}(hs:fS h){B:List Int}{p q:Nat}(hq:q < 6){c:Int}:bT ⟨B,h.Class.set p c⟩ q=if q=p then c else bT h q:=by
  have h6:=hs.2.1
  unfold bT
  rw [List.getD_eq_getElem?_getD,List.getD_eq_getElem?_getD,List.getElem?_set]
  by_cases e:p=q
  · subst e;simp [h6,hq]
  · have e':¬q=p:=fun z=>e z.symm
    simp [e,e']
theorem RU.aU9{h:aD}(hh:RU h){p:Nat}(hp:p < 6)(hun:bT h p < 0){c:Int}(hc:0≤c∧c≤2) :
    RU ⟨gB h.Bytes p c (bV c).toNat,h.Class.set p c⟩∧(∀t,(t / 4).toNat≠p→aW ⟨gB h.Bytes p c (bV c).toNat,h.Class.set p c⟩ t=aW h t)∧(∀t,0≤aW h t→(t / 4).toNat≠p∧hY ⟨gB h.Bytes p c (bV c).toNat,h.Class.set p c⟩ t=hY h t) ∧
      ∀i,i < (bV c).toNat→aW ⟨gB h.Bytes p c (bV c).toNat,h.Class.set p c⟩ ((p:Int) * 4+i)=c∧hY ⟨gB h.Bytes p c (bV c).toNat,h.Class.set p c⟩ ((p:Int) * 4+i)=1:=by
  obtain⟨hs,hpg⟩:=hh
  have h384:=hs.1
  have hle:=lX c
  have hpn:((bV c).toNat:Int)≤bV c:=by omega
  have hb:=aQ0 h384 hp hc (bV c).toNat hpn
  have hbl:=I6 h.Bytes p c (bV c).toNat
  have hs':fS ⟨gB h.Bytes p c (bV c).toNat,h.Class.set p c⟩:=⟨by simp only [hbl];exact h384,by simp only [List.length_set];exact hs.2.1,aGL hs.2.2.1 p hc _,fun x hx=>by
    rcases List.mem_or_eq_of_mem_set hx with q | rfl
    · exact hs.2.2.2 x q
    · omega⟩
  have hcls:∀t:Int,(t / 4).toNat≠p→aW ⟨gB h.Bytes p c (bV c).toNat,h.Class.set p c⟩ t=aW h t:=fun t ht=>by
    unfold aW
    by_cases q:0≤t∧t≤23
    · rw [QU hs (by omega),if_neg ht]
    · rw [if_neg (fun z=>q z.1),if_neg (fun z=>q z.1)]
  refine⟨⟨hs',fun q hq=>?_⟩,hcls,fun t ht=>?_,fun i hi=>?_⟩
  · rw [I8 hs' hq]
    have hold:=(I8 hs hq).1 (hpg q hq)
    by_cases e:q=p
    · subst e
      unfold WQ at hold ⊢
      rw [if_pos hun] at hold
      rw [QU hs hq,if_pos rfl,if_neg (by omega)]
      refine⟨(hb 0).2.2,fun k k3 k8=>?_,fun i hi=>?_⟩
      · simp only;rw [(hb k).2.1 k3 k8];exact hold k (by omega)
      · simp only;rw [aQ1 h384 hp _ hpn i hi];omega
    · refine WQ.same hq hs (by simp only [hbl]) (by rw [QU hs hq,if_neg e]) (fun k hk=>?_) hold
      exact(hb _).1 (by omega)
  · obtain⟨p',i',p6',hi',es',ec',eo',ep'⟩:=sK ht
    have hne:(t / 4).toNat≠p:=fun z=>by rw [ec',←ep',z] at ht;omega
    refine⟨hne,?_⟩
    have hz':=sV hs p6' rfl hi'
    unfold hY
    rw [hcls t hne,HW (b:=h.Bytes) (by omega) (by simp only [hbl]) fun k k1 k2=>(hb k).1 (by omega)]
  · have e1:((p:Int) * 4+i) / 4=p:=by omega
    have e2:((p:Int) * 4+i) % 4=i:=by omega
    have ec:aW ⟨gB h.Bytes p c (bV c).toNat,h.Class.set p c⟩ ((p:Int) * 4+i)=c:=by
      unfold aW
      rw [e1,e2,Int.toNat_natCast,QU hs hp,if_pos rfl,if_pos (by omega)]
    refine⟨ec,?_⟩
    unfold hY
    rw [ec]
    have ho:=ZU (c:=c) hp (by omega:(i:Int) < bV c)
    have:(eA ((p:Int) * 4+i) c).toNat=p * 64+8+i * (aT c).toNat:=ho.1
    rw [this]
    exact aQ1 h384 hp _ hpn i hi
def wO(m m':Mem)(k:Int):Prop:=mD m'∧∀s,eM m s=3→s≠k→eM m' s=3∧hY m'.aD s=hY m.aD s∧aW m'.aD s=aW m.aD s
theorem wO.refl{m:Mem}(h:mD m)(k:Int):wO m m k:=⟨h,fun _ h _=>⟨h,rfl,rfl⟩⟩
theorem wO.live{m m':Mem}{k h:Int}(q:wO m m' k)(hl:g7 m h)(hn:h % 32≠k):g7 m' h:=by
  obtain⟨h1,h2,h3⟩:=hl
  obtain⟨a,b,_⟩:=q.2 _ h2 hn
  exact⟨h1,a,by rw [b];exact h3⟩
theorem KD{l:List aQ}{k j:Nat}(hk:k < l.length){t:aQ}:dO (l.set k t) j=if j=k then t.aS else dO l j:=by
  unfold dO
  rw [List.getD_eq_getElem?_getD,List.getD_eq_getElem?_getD,List.getElem?_set]
  by_cases e:k=j
  · subst e;simp [hk]
  · have e':¬j=k:=fun z=>e z.symm
    simp [e,e']
theorem aE0{l:List aQ}{k:Nat}(hk:k < l.length){t:aQ}(ht:t.aS.Sublist l[k].aS):(cK (l.set k t)).Sublist (cK l):=by
  rw [D0 hk,AY hk]
  exact(List.Sublist.refl _).append (ht.append (List.Sublist.refl _))
theorem C5{l:List aQ}{k:Nat}(hk:k < l.length){xs:List Int}{s:Int}:s∈cK (l.set k ⟨l[k].aS++xs⟩)↔s∈cK l∨s∈xs:=by
  rw [D0 hk,AY hk]
  simp only [List.mem_append]
  constructor
  · rintro(h | (h | h) | h)
    · exact .inl (.inl h)
    · exact .inl (.inr (.inl h))
    · exact .inr h
    · exact .inl (.inr (.inr h))
  · rintro((h | h | h) | h)
    · exact .inl h
    · exact .inr (.inl (.inl h))
    · exact .inr (.inr h)
    · exact .inr (.inl (.inr h))
theorem QV{l:List aQ}{k:Nat}(hk:k < l.length){xs r q:List Int}(h:(q++(cK l++r)).Nodup)(hx:xs.Nodup)(hd:∀x∈xs,x∉q++(cK l++r)):(q++(cK (l.set k ⟨l[k].aS++xs⟩)++r)).Nodup:=by
  have hp:(q++(cK (l.set k ⟨l[k].aS++xs⟩)++r)).Perm (xs++(q++(cK l++r))):=by
    rw [D0 hk,AY hk]
    have e1:q++(cK (l.take k)++(l[k].aS++xs++cK (l.drop (k+1)))++r)=(q++cK (l.take k)++l[k].aS)++(xs++(cK (l.drop (k+1))++r)):=by simp
    have e2:xs++(q++(cK (l.take k)++(l[k].aS++cK (l.drop (k+1)))++r))=xs++((q++cK (l.take k)++l[k].aS)++(cK (l.drop (k+1))++r)):=by simp
    rw [e1,e2]
    exact List.perm_append_comm_assoc _ _ _
  rw [hp.nodup_iff,List.nodup_append]
  exact⟨hx,h,fun a ha b hb e=>hd a ha (e ▸ hb)⟩
theorem U5{m m':Mem}{s:Int}(h1:aW m'.aD s=aW m.aD s)(h2:hY m'.aD s=hY m.aD s)(h3:s∈dC m'.aB↔s∈dC m.aB):eM m' s=eM m s:=by
  unfold eM
  rw [h1,h2]
  by_cases q:s∈dC m.aB
  · rw [if_pos q,if_pos (h3.2 q)]
  · rw [if_neg q,if_neg (fun z=>q (h3.1 z))]
theorem gQ{m:Mem}{s:Int}:eM m s=3↔0≤aW m.aD s∧s∉dC m.aB∧hY m.aD s≤6:=by
  unfold eM
  constructor
  · intro h
    split at h
    · omega
    · split at h
      · omega
      · split at h
        · omega
        · exact⟨by omega,by assumption,by omega⟩
  · rintro⟨a,b,c⟩
    rw [if_neg (by omega),if_neg b,if_neg (by omega)]
noncomputable section
variable {m:Mem} (hm:mD m)
include hm
theorem mD.aWZ{k:Nat}(hk:k < 9){t:aQ}(ht:t.aS.Sublist (dO m.aB.Own k)):wO m ⟨m.aD,⟨m.aB.Global,m.aB.Own.set k t⟩⟩ (-1):=by
  obtain⟨⟨hh,h3,h9,h2,hr,hn⟩,hg,ho⟩:=hm
  have hk':k < m.aB.Own.length:=by omega
  have ht':t.aS.Sublist m.aB.Own[k].aS:=by rw [dD hk'];exact ht
  have hsub:(dC ⟨m.aB.Global,m.aB.Own.set k t⟩).Sublist (dC m.aB):=(List.Sublist.refl _).append (aE0 hk' ht')
  refine⟨⟨⟨hh,h3,by simpa using h9,fun s hs=>?_,fun x hx=>hr x (hsub.subset hx),hsub.nodup hn⟩,hg,fun j hj=>?_⟩,fun s hs _=>⟨?_,rfl,rfl⟩⟩
  · rcases List.mem_or_eq_of_mem_set hs with q | rfl
    · exact h2 s q
    · have:=ht'.length_le;have:=h2 _ (List.getElem_mem hk');omega
  · unfold C3
    simp only [KD hk']
    split
    · rename_i e;subst e
      exact fun x hx=>ho j hj x (ht.subset hx)
    · exact ho j hj
  · rw [gQ] at hs ⊢
    exact⟨hs.1,fun q=>hs.2.1 (hsub.subset q),hs.2.2⟩
theorem mD.aND{k:Nat}(hk:k < 3){t:aQ}(ht:t.aS.Sublist (dO m.aB.Global k)):wO m ⟨m.aD,⟨m.aB.Global.set k t,m.aB.Own⟩⟩ (-1):=by
  obtain⟨⟨hh,h3,h9,h2,hr,hn⟩,hg,ho⟩:=hm
  have hk':k < m.aB.Global.length:=by omega
  have ht':t.aS.Sublist m.aB.Global[k].aS:=by rw [dD hk'];exact ht
  have hsub:(dC ⟨m.aB.Global.set k t,m.aB.Own⟩).Sublist (dC m.aB):=(aE0 hk' ht').append (List.Sublist.refl _)
  refine⟨⟨⟨hh,by simpa using h3,h9,h2,fun x hx=>hr x (hsub.subset hx),hsub.nodup hn⟩,fun j hj=>?_,ho⟩,fun s hs _=>⟨?_,rfl,rfl⟩⟩
  · unfold JJ
    simp only [KD hk']
    split
    · rename_i e;subst e
      exact fun x hx=>hg j hj x (ht.subset hx)
    · exact hg j hj
  · rw [gQ] at hs ⊢
    exact⟨hs.1,fun q=>hs.2.1 (hsub.subset q),hs.2.2⟩
theorem mD.aT2{k:Nat}(hk:k < 9){xs:List Int}(hl:(dO m.aB.Own k).length+xs.length≤2)(hx:xs.Nodup)(hf:C2 m.aD xs ((k % 3:Nat):Int))(hd:∀x∈xs,x∉dC m.aB)(hk':k < m.aB.Own.length) :
    mD ⟨m.aD,⟨m.aB.Global,m.aB.Own.set k ⟨m.aB.Own[k].aS++xs⟩⟩⟩∧∀s,s∉xs→eM m s=3→eM ⟨m.aD,⟨m.aB.Global,m.aB.Own.set k ⟨m.aB.Own[k].aS++xs⟩⟩⟩ s=3:=by
  obtain⟨⟨hh,h3,h9,h2,hr,hn⟩,hg,ho⟩:=hm
  have hmem:∀s,s∈dC ⟨m.aB.Global,m.aB.Own.set k ⟨m.aB.Own[k].aS++xs⟩⟩↔s∈dC m.aB∨s∈xs:=fun s=>by
    unfold dC;simp only [List.mem_append,C5 hk'];rw [or_assoc]
  have hcl:∀x∈xs,0≤x∧x≤23:=fun x h=>by
    have:=(hf x h).1
    exact(oZ (h:=m.aD) (s:=x) (by omega)).1
  refine⟨⟨⟨hh,h3,by simpa using h9,fun s hs=>?_,fun x hx=>?_,?_⟩,hg,fun j hj=>?_⟩,fun s hs h3=>?_⟩
  · rcases List.mem_or_eq_of_mem_set hs with q | rfl
    · exact h2 s q
    · rw [←dD hk'] at hl;simpa using hl
  · rcases(hmem x).1 hx with q | q
    · exact hr x q
    · exact hcl x q
  · have:=QV (q:=cK m.aB.Global) (r:=[]) hk' (by simpa [dC] using hn) hx (by simpa [dC] using hd)
    simpa [dC] using this
  · unfold C3
    simp only [KD hk']
    split
    · rename_i e;subst e
      intro x hx
      rcases List.mem_append.1 hx with q | q
      · rw [dD hk'] at q;exact ho j hj x q
      · exact hf x q
    · exact ho j hj
  · rw [gQ] at h3 ⊢
    exact⟨h3.1,fun q=>(((hmem s).1 q).elim h3.2.1 hs),h3.2.2⟩
theorem mD.aCC{k:Nat}(hk:k < 3){xs:List Int}(hx:xs.Nodup)(hf:C2 m.aD xs (k:Int))(hd:∀x∈xs,x∉dC m.aB)(hk':k < m.aB.Global.length) :
    mD ⟨m.aD,⟨m.aB.Global.set k ⟨m.aB.Global[k].aS++xs⟩,m.aB.Own⟩⟩∧∀s,s∉xs→eM m s=3→eM ⟨m.aD,⟨m.aB.Global.set k ⟨m.aB.Global[k].aS++xs⟩,m.aB.Own⟩⟩ s=3:=by
  obtain⟨⟨hh,h3,h9,h2,hr,hn⟩,hg,ho⟩:=hm
  have hmem:∀s,s∈dC ⟨m.aB.Global.set k ⟨m.aB.Global[k].aS++xs⟩,m.aB.Own⟩↔s∈dC m.aB∨s∈xs:=fun s=>by
    unfold dC;simp only [List.mem_append,C5 hk'];rw [or_right_comm]
  have hcl:∀x∈xs,0≤x∧x≤23:=fun x h=>by
    have:=(hf x h).1
    exact(oZ (h:=m.aD) (s:=x) (by omega)).1
  refine⟨⟨⟨hh,by simpa using h3,h9,h2,fun x hx=>?_,?_⟩,fun j hj=>?_,ho⟩,fun s hs h3=>?_⟩
  · rcases(hmem x).1 hx with q | q
    · exact hr x q
    · exact hcl x q
  · have:=QV (q:=[]) (r:=cK m.aB.Own) hk' (by simpa [dC] using hn) hx (by simpa [dC] using hd)
    simpa [dC] using this
  · unfold JJ
    simp only [KD hk']
    split
    · rename_i e;subst e
      intro x hx
      rcases List.mem_append.1 hx with q | q
      · rw [dD hk'] at q;exact hg j hj x q
      · exact hf x q
    · exact hg j hj
  · rw [gQ] at h3 ⊢
    exact⟨h3.1,fun q=>(((hmem s).1 q).elim h3.2.1 hs),h3.2.2⟩
theorem mD.oC{x:Int}(hx:x∈dC m.aB):0≤aW m.aD x∧hY m.aD x≤6:=by
  obtain⟨⟨hh,h3,h9,h2,hr,hn⟩,hg,ho⟩:=hm
  have key:∀(l:List aQ),x∈cK l→∃k,k < l.length∧x∈dO l k:=fun l h=>by
    obtain⟨s,h1,h2⟩:=RN.1 h
    obtain⟨k,hk,rfl⟩:=List.mem_iff_getElem.1 h1
    exact⟨k,hk,by rw [←dD hk];exact h2⟩
  rcases List.mem_append.1 hx with q | q
  · obtain⟨k,hk,h⟩:=key _ q
    have:=hg k (by omega) x h
    exact⟨by omega,this.2⟩
  · obtain⟨k,hk,h⟩:=key _ q
    have:=ho k (by omega) x h
    exact⟨by omega,this.2⟩
theorem mD.heap{h':aD}(hh:RU h')(hs:∀x∈dC m.aB,aW h' x=aW m.aD x∧hY h' x=hY m.aD x):mD ⟨h',m.aB⟩:=by
  obtain⟨⟨_,hl⟩,hg,ho⟩:=hm
  have key:∀(l:List aQ) k x,x∈dO l k→x∈cK l:=fun l k x h=>by
    unfold dO at h
    rw [List.getD_eq_getElem?_getD] at h
    cases hk:l[k]? with
    | none=>rw [hk] at h;simp at h
    | some s=>rw [hk] at h;exact RN.2 ⟨s,List.mem_of_getElem? hk,h⟩
  refine⟨⟨hh,hl⟩,fun k hk x hx=>?_,fun k hk x hx=>?_⟩
  · obtain⟨a,b⟩:=hs x (List.mem_append_left _ (key _ k x hx))
    show aW h' x=_∧hY h' x≤6
    rw [a,b];exact hg k hk x hx
  · obtain⟨a,b⟩:=hs x (List.mem_append_right _ (key _ k x hx))
    show aW h' x=_∧hY h' x≤6
    rw [a,b];exact ho k hk x hx
theorem mD.a0F{s g:Int}(hu:eM m s=3)(hg:1≤g∧g≤7):wO m ⟨⟨WN m.aD.Bytes (eA s (aW m.aD s)).toNat g,m.aD.Class⟩,m.aB⟩ s∧hY ⟨WN m.aD.Bytes (eA s (aW m.aD s)).toNat g,m.aD.Class⟩ s=g:=by
  have hu':=gQ.1 hu
  obtain⟨a,b⟩:=RU.aQZ hm.1.1 hu'.1 hg
  refine⟨⟨mD.heap hm a fun x hx=>⟨rfl,?_⟩,fun t ht hn=>?_⟩,by rw [b s hu'.1,if_pos rfl]⟩
  · rw [b x (mD.oC hm hx).1,if_neg (show ¬x=s from fun e=>hu'.2.1 (e ▸ hx))]
  · have ht':=gQ.1 ht
    have e:hY ⟨WN m.aD.Bytes (eA s (aW m.aD s)).toNat g,m.aD.Class⟩ t=hY m.aD t:=by rw [b t ht'.1,if_neg hn]
    exact⟨gQ.2 ⟨ht'.1,ht'.2.1,by simp only [e];exact ht'.2.2⟩,e,rfl⟩
theorem mD.aYZ{p:Nat}(hp:p < 6)(hun:bT m.aD p < 0){c:Int}(hc:0≤c∧c≤2){xs:List Int}(hxs:∀x∈xs,∃i,i < (bV c).toNat∧x=(p:Int) * 4+(i:Nat))(hx:xs.Nodup)(hk':c.toNat < m.aB.Global.length) :
    wO m ⟨⟨gB m.aD.Bytes p c (bV c).toNat,m.aD.Class.set p c⟩,⟨m.aB.Global.set c.toNat ⟨m.aB.Global[c.toNat].aS++xs⟩,m.aB.Own⟩⟩ (-1):=by
  obtain⟨a,b,d,e⟩:=RU.aU9 hm.1.1 hp hun hc
  have h1:mD ⟨⟨gB m.aD.Bytes p c (bV c).toNat,m.aD.Class.set p c⟩,m.aB⟩:=mD.heap hm a fun x hx=>by
    obtain⟨q,r⟩:=d x (mD.oC hm hx).1
    exact⟨b x q,r⟩
  have hno:∀x∈xs,¬0≤aW m.aD x:=fun x h q=>by
    obtain⟨i,hi,rfl⟩:=hxs x h
    have h4:=lX c
    exact(d _ q).1 (by omega)
  obtain⟨f,g⟩:=mD.aCC h1 (k:=c.toNat) (by omega) hx (fun x h=>by
    obtain⟨i,hi,rfl⟩:=hxs x h
    have:=e i hi
    exact⟨by simp only [this.1];omega,by simp only [this.2];omega⟩) (fun x h q=>hno x h (mD.oC hm q).1) hk'
  refine⟨f,fun s hs _=>?_⟩
  have hs':=gQ.1 hs
  obtain⟨q,r⟩:=d s hs'.1
  have h2:eM ⟨⟨gB m.aD.Bytes p c (bV c).toNat,m.aD.Class.set p c⟩,m.aB⟩ s=3:=gQ.2 ⟨by simp only [b s q];exact hs'.1,hs'.2.1,by simp only [r];exact hs'.2.2⟩
  exact⟨g s (fun h=>hno s h hs'.1) h2,r,b s q⟩
end
end Go.Gv
end
noncomputable section
namespace Go.Gv
theorem aQ2{p n:Nat}{x:Int}(h:x∈gS p n):∃i,i < n∧x=(p:Int) * 4+(i:Nat):=by
  simp only [gS,List.mem_map,List.mem_range] at h
  obtain⟨i,h1,h2⟩:=h
  exact⟨i,h1,h2.symm⟩
theorem aIC(p n:Nat):(gS p n).Nodup:=by
  unfold gS
  rw [List.Nodup,List.pairwise_map]
  exact List.Pairwise.imp (fun h e=>h (by omega)) (List.nodup_range (n:=n))
theorem aID{m:Mem}(hm:mD m){c:Int}(hc:0≤c∧c≤2) :
    ∃m' s,CG m c=some (m',s)∧G9 m c=some (m',s)∧wV m'∧(0≤s→fS m'.aD∧0≤aW m'.aD s)∧wO m m' (-1):=by
  have hl:=hm.1.2
  have hcnt:=hl.count
  have hs:=hm.1.1.1
  have hsl:=hl.W5 (by omega)
  have hp4:=lX c
  have hpp:0 < bV c:=gZ.2 hc
  have hall:=pW m.aB
  have hsG:∀s∈m.aB.Global,s.aS.length≤24:=fun s h=>by have:=FQ h;omega
  have hsO:∀s∈m.aB.Own,s.aS.length≤24:=fun s h=>by have:=FQ h;omega
  have h3:=hl.1
  have h9:=hl.2.1
  have hcpl:=LA (l:=m.aB) (by omega) (by omega) (fun s h=>by have:=hsG s h;omega) (fun s h=>by have:=hsO s h;omega)
  unfold CG G9
  rcases aQY hm.1.1 hc with ⟨e1,e2⟩ | ⟨p,hp,hun,e1,e2⟩
  · rw [e1,e2,hcpl]
    have h1:=hs.1;have h2:=hs.2.1
    exact⟨_,_,rfl,rfl,⟨by simp only;omega,by simp only;omega,by simp only;omega,by simp only;omega,by simp only;omega⟩,fun h=>absurd h (by omega),wO.refl hm _⟩
  · rw [e1,e2,hcpl]
    simp only [aE,F7,F6,GC,I7]
    have hn:(((bV c).toNat:Int) == 0)=false:=by simpa using (by omega:¬((bV c).toNat:Int)=0)
    have hk:c.toNat < m.aB.Global.length:=by omega
    have hg0:=hsG _ (List.getElem_mem hk)
    have hx:idx m.aB.Global c=some m.aB.Global[c.toNat]:=fP hc.1 (by omega)
    have hz:idx (gS p (bV c).toNat) 0=some ((p:Int) * 4):=by
      have:=aV (l:=gS p (bV c).toNat) (k:=0) (by rw [I7];omega)
      rw [show((0:Nat):Int)=0 from rfl] at this
      rw [this];simp [gS]
    have hlen:(List.drop (1:Int).toNat (List.take (bV c).toNat (gS p (bV c).toNat))).length≤4:=by simp [I7];omega
    simp only [hn,aN,if_false,hx,aE,hz]
    rw [aM (by omega),aM (by omega)]
    have hcl:bT ⟨gB m.aD.Bytes p c (bV c).toNat,m.aD.Class.set p c⟩ p=c:=by
      have h6:=hs.2.1
      unfold bT;simp [List.getD_eq_getElem?_getD,List.getElem?_set,h6,hp]
    refine⟨_,_,rfl,rfl,⟨by simp only [I6];have:=hs.1;omega,by simp only [List.length_set];have:=hs.2.1;omega,by simp only [List.length_set];omega,by simp only;omega,?_⟩,fun _=>⟨⟨by simp only [I6];exact hs.1,by simp only [List.length_set];exact hs.2.1,aGL hs.2.2.1 p hc _,fun x hx=>?_⟩,?_⟩,?_⟩
    · rw [pW];simp only [TM hk];omega
    · rcases List.mem_or_eq_of_mem_set hx with h | rfl
      · exact hs.2.2.2 x h
      · omega
    · unfold aW
      have e4:((p:Int) * 4 / 4).toNat=p:=by omega
      rw [e4]
      simp only [hcl]
      rw [if_pos ⟨by omega,by omega⟩];exact hc.1
    · exact mD.aYZ hm hp hun hc (fun x hx=>aQ2 (List.mem_of_mem_take (List.mem_of_mem_drop hx))) ((aIC p _).sublist ((List.drop_sublist _ _).trans (List.take_sublist _ _))) hk
theorem aJ6(n:Int):∃c,CF n=some c∧G7 n=some c∧(c = -1∨(0≤c∧c≤2)):=by
  have s1:∀k,0≤k∧k≤2→fI n k=some (if 1≤n∧n≤gP k then .stop (Out.ret k) else .next (k+1)):=fun k hk=>by
    simp only [fI]
    rw [if_pos (by simp;omega),pU,aE,bZ,aE,aO (by omega) (by omega)]
    by_cases q:1≤n∧n≤gP k
    · rw [bC q,if_pos rfl,if_pos q]
    · rw [bL q,if_neg (by simp),if_neg q]
  have s2:∀k,0≤k∧k≤2→jQ n k=some (if 1≤n∧n≤gP k then .stop (Out.ret k) else .next (k+1)):=fun k hk=>by
    simp only [jQ,y9]
    rw [if_pos (by simp;omega),QF,aE,aO (by omega) (by omega)]
    by_cases q1:1≤n
    · by_cases q2:n≤gP k <;> simp [q1,q2]
    · simp [q1]
  have st:∀k,0≤k∧k≤2→1≤n∧n≤gP k→loop (fI n) k=some (Out.ret k)∧loop (jQ n) k=some (Out.ret k):=fun k hk h=>
    ⟨bO (by rw [s1 k hk,if_pos h]),bO (by rw [s2 k hk,if_pos h])⟩
  have nx:∀k,0≤k∧k≤2→¬(1≤n∧n≤gP k)→loop (fI n) k=loop (fI n) (k+1)∧loop (jQ n) k=loop (jQ n) (k+1):=fun k hk h=>
    ⟨bP (by rw [s1 k hk,if_neg h]),bP (by rw [s2 k hk,if_neg h])⟩
  unfold CF G7
  by_cases q0:1≤n∧n≤gP 0
  · have:=st 0 (by omega) q0
    rw [this.1,this.2];exact⟨_,rfl,rfl,.inr (by omega)⟩
  · have h0:=nx 0 (by omega) q0
    rw [h0.1,h0.2,show(0:Int)+1=1 from rfl]
    by_cases q1:1≤n∧n≤gP 1
    · have:=st 1 (by omega) q1
      rw [this.1,this.2];exact⟨_,rfl,rfl,.inr (by omega)⟩
    · have h1:=nx 1 (by omega) q1
      rw [h1.1,h1.2,show(1:Int)+1=2 from rfl]
      by_cases q2:1≤n∧n≤gP 2
      · have:=st 2 (by omega) q2
        rw [this.1,this.2];exact⟨_,rfl,rfl,.inr (by omega)⟩
      · have h2:=nx 2 (by omega) q2
        rw [h2.1,h2.2,show(2:Int)+1=3 from rfl,bO (body:=fI n) (r:=Out.brk ()) (by simp [fI]),bO (body:=jQ n) (r:=Out.brk ()) (by simp [jQ])]
        exact⟨_,rfl,rfl,.inl rfl⟩
theorem aQ3{s:aQ}(hl:s.aS.length≤1048576):∃t x,qV s=some (t,x)∧uD s=some (x,t)∧t.aS.length≤s.aS.length∧(0≤x→x∈s.aS)∧t.aS.Sublist s.aS:=by
  unfold qV uD KW
  rw [aO (by omega) (by omega)]
  by_cases q:s.aS.length=0
  · rw [if_pos (by simpa using q),if_pos (by simp;omega)]
    exact⟨_,_,rfl,rfl,Nat.le_refl _,fun h=>absurd h (by omega),List.Sublist.refl _⟩
  · have hx:idx s.aS ((s.aS.length:Int) - 1)=some (s.aS[s.aS.length - 1]'(by omega)):=by
      rw [show((s.aS.length:Int) - 1)=((s.aS.length - 1:Nat):Int) by omega,aV (by omega)]
    rw [if_neg (by simpa using q),if_neg (by simp;omega),aM (by omega),hx]
    simp only [aE]
    rw [aM (by omega)]
    exact⟨_,_,rfl,rfl,by simp,fun _=>List.getElem_mem _,(List.drop_sublist _ _).trans (List.take_sublist _ _)⟩
theorem ML{w c:Int}(hw:0≤w∧w≤2)(hc:0≤c∧c≤2):uN w c=some (w * 3+c)∧ID w c=some (w * 3+c):=by
  have e:bB (bB (w * 3)+c)=w * 3+c:=by rw [aO (x:=w * 3) (by omega) (by omega),aO (by omega) (by omega)]
  constructor
  · unfold uN xT;rw [bZ,bZ,bC hw,bC hc,e];rfl
  · unfold ID EI;rw [kL,jR,bC hw,bC hc,e];rfl
theorem aCD{l:List aQ}{k:Nat}(hk:k < l.length){t:aQ}(ht:t.aS.length≤l[k].aS.length):(cK (l.set k t)).length≤(cK l).length:=by
  rw [D0 hk,AY hk];simp;omega
noncomputable section
variable {m:Mem} (hm:mD m)
include hm
theorem mD.facts:(dC m.aB).length≤24∧m.aB.Global.length=3∧m.aB.Own.length=9∧m.aD.Bytes.length=384∧m.aD.Class.length=6∧wV m∧iH m.aB=some m.aB∧j9 m.aB=some true ∧
    (∀s∈m.aB.Global,s.aS.length≤24)∧(∀s∈m.aB.Own,s.aS.length≤24):=by
  have hl:=hm.1.2
  have hcnt:=hl.count
  have hall:=pW m.aB
  have hsG:∀s∈m.aB.Global,s.aS.length≤24:=fun s h=>by have:=FQ h;omega
  have hsO:∀s∈m.aB.Own,s.aS.length≤24:=fun s h=>by have:=FQ h;omega
  have h3:=hl.1;have h9:=hl.2.1
  have h1:=hm.1.1.1.1;have h2:=hm.1.1.1.2.1
  refine⟨hcnt,h3,h9,h1,h2,⟨by omega,by omega,by omega,by omega,by omega⟩,LA (by omega) (by omega) (fun s h=>by have:=hsG s h;omega) (fun s h=>by have:=hsO s h;omega),by rw [OV (by omega),bC hl],hsG,hsO⟩
theorem aCE{w c:Int}(hw:0≤w∧w≤2)(hc:0≤c∧c≤2) :
    ∃l t x,idx m.aB.Own (w * 3+c)=some l∧qV l=some (t,x)∧G8 m.aB w c=some (⟨m.aB.Global,m.aB.Own.set (w * 3+c).toNat t⟩,x) ∧
      wV ⟨m.aD,⟨m.aB.Global,m.aB.Own.set (w * 3+c).toNat t⟩⟩∧(0≤x→0≤aW m.aD x)∧wO m ⟨m.aD,⟨m.aB.Global,m.aB.Own.set (w * 3+c).toNat t⟩⟩ (-1):=by
  obtain⟨hcnt,h3,h9,h1,h2,hsm,hcp,hlo,hsG,hsO⟩:=mD.facts hm
  have hk:(w * 3+c).toNat < m.aB.Own.length:=by omega
  have hx:idx m.aB.Own (w * 3+c)=some m.aB.Own[(w * 3+c).toNat]:=fP (by omega) (by omega)
  have h24:=hsO _ (List.getElem_mem hk)
  obtain⟨t,x,e1,e2,ht,hmem,hsub⟩:=aQ3 (s:=m.aB.Own[(w * 3+c).toNat]) (by omega)
  have hall:=pW m.aB
  refine⟨_,t,x,hx,e1,?_,⟨by simp only;omega,by simp only;omega,by simp only;omega,by simp only [List.length_set];omega,?_⟩,fun h0=>?_,mD.aWZ hm (by omega) (by rw [←dD hk];exact hsub)⟩
  · unfold G8 zA
    rw [hcp,(ML hw hc).2,hlo]
    simp only [aE,dE,aN,if_false]
    rw [bL (by omega),if_neg (by simp),hx,aE,e2];rfl
  · have:=aCD hk ht
    rw [pW];simp only;omega
  · have:=hm.2.2 (w * 3+c).toNat (by omega) x (by rw [←dD hk];exact hmem h0)
    omega
theorem SQ{c:Int}(hc:0≤c∧c≤2) :
    ∃l t x,idx m.aB.Global c=some l∧qV l=some (t,x)∧zC m.aB c=some (⟨m.aB.Global.set c.toNat t,m.aB.Own⟩,x) ∧
      wV ⟨m.aD,⟨m.aB.Global.set c.toNat t,m.aB.Own⟩⟩∧(0≤x→0≤aW m.aD x)∧wO m ⟨m.aD,⟨m.aB.Global.set c.toNat t,m.aB.Own⟩⟩ (-1):=by
  obtain⟨hcnt,h3,h9,h1,h2,hsm,hcp,hlo,hsG,hsO⟩:=mD.facts hm
  have hk:c.toNat < m.aB.Global.length:=by omega
  have hx:idx m.aB.Global c=some m.aB.Global[c.toNat]:=fP (by omega) (by omega)
  have h24:=hsG _ (List.getElem_mem hk)
  obtain⟨t,x,e1,e2,ht,hmem,hsub⟩:=aQ3 (s:=m.aB.Global[c.toNat]) (by omega)
  have hall:=pW m.aB
  refine⟨_,t,x,hx,e1,?_,⟨by simp only;omega,by simp only;omega,by simp only [List.length_set];omega,by simp only;omega,?_⟩,fun h0=>?_,mD.aND hm (by omega) (by rw [←dD hk];exact hsub)⟩
  · unfold zC qP
    rw [hcp,hlo,jR,bC hc]
    simp only [aE,dE,aN,if_false]
    rw [hx,aE,e2];rfl
  · have:=aCD hk ht
    rw [pW];simp only;omega
  · have:=hm.2.1 c.toNat (by omega) x (by rw [←dD hk];exact hmem h0)
    omega
theorem aT3{w h:Int}(hw:0≤w∧w≤2)(hv:g7 m h):∃m',FI m w (h % 32)=some m'∧M4 m w h=some m'∧wV m'∧wO m m' (h % 32):=by
  obtain⟨hcnt,h3,h9,h1,h2,hsm,hcp,hlo,hsG,hsO⟩:=mD.facts hm
  have hs:=hm.1.1.1
  have hh:=hv.1
  have hhm:=hh.mod
  have hcl:=g8 hv.2.1
  have hgo:=E3 hcl
  have hc2:0≤aW m.aD (h % 32)∧aW m.aD (h % 32)≤2:=by
    obtain⟨_,q,e⟩:=oZ hcl
    rw [e];exact gZ.1 (by omega)
  have hg6:1≤h / 32∧h / 32≤6:=by unfold jN at hh;omega
  have hbl:m.aD.Bytes.length≤maxLen:=by rw [h1];simp [maxLen]
  have hnot:h % 32∉dC m.aB:=fun q=>by
    have:=hv.2.1;unfold eM at this;rw [if_neg (by omega),if_pos q] at this;omega
  have hcpH:=NR (h:=m.aD) (by omega) (by omega)
  have eo:eA (h % 32) (aW m.aD (h % 32))=(((eA (h % 32) (aW m.aD (h % 32))).toNat:Nat):Int):=by omega
  have ew:bB (h / 32+1)=h / 32+1:=aO (by omega) (by omega)
  have ed:bB (Int.tdiv h 32)=h / 32:=by rw [FP (by unfold jN at hh;omega),aO (by omega) (by omega)]
  have hall:=pW m.aB
  obtain⟨hr1,hr2⟩:=mD.a0F hm hv.2.1 (g:=h / 32+1) (by omega)
  have hu:=gQ.1 hv.2.1
  unfold FI M4 PM qJ
  rw [hhm.1,iM hs,hcpH,C1 hbl,bC hs,lH hs,ed,ew,hcp]
  simp only [aE,dE,aN,if_false,IF,BX,IE]
  rw [oA hs hcl,hv.2.2,dR,bL (show ¬aW m.aD (h % 32) < 0 by omega),bC (show 1≤h / 32+1∧h / 32+1≤7 by omega)]
  simp only [aE,dE,aN,if_false,sU,yP,ew]
  generalize hgn:(eA (h % 32) (aW m.aD (h % 32))).toNat=a at eo
  rw [hgn] at hr1 hr2
  rw [eo,GG (by omega) (by omega) (by omega),SP (by omega)]
  simp only [aE]
  rw [QT (by omega) (by omega) (by omega)]
  simp only [aE,IL,KR,ed,ew,hhm.1]
  by_cases q:h / 32+1≤6
  · have hk:(w * 3+aW m.aD (h % 32)).toNat < m.aB.Own.length:=by omega
    have hx:idx m.aB.Own (w * 3+aW m.aD (h % 32))=some m.aB.Own[(w * 3+aW m.aD (h % 32)).toNat]:=fP (by omega) (by omega)
    have hk2:(aW m.aD (h % 32)).toNat < m.aB.Global.length:=by omega
    have hx2:idx m.aB.Global (aW m.aD (h % 32))=some m.aB.Global[(aW m.aD (h % 32)).toNat]:=fP (by omega) (by omega)
    have b1:=hsO _ (List.getElem_mem hk)
    have b2:=hsG _ (List.getElem_mem hk2)
    rw [bC q,if_pos rfl,if_pos rfl]
    unfold PZ V3 vQ
    rw [lH hs,aE,hcp,(ML hw hc2).1,(ML hw hc2).2,hlo,vC,bC (show 0≤h % 32∧h % 32≤23 by omega),QP (by omega) (by simp only [maxLen];omega) (by simp only [maxLen];omega),bL hnot]
    simp only [aE,dE,aN,if_false,hx,hx2]
    have nz:¬w * 3+aW m.aD (h % 32) < 0:=by omega
    simp only [bL nz,aN,if_false]
    by_cases q2:m.aB.Own[(w * 3+aW m.aD (h % 32)).toNat].aS.length < 2
    · have y1:(m.aB.Own[(w * 3+aW m.aD (h % 32)).toNat].aS.length:Int) < 2:=by omega
      have y2:¬(2:Int)≤m.aB.Own[(w * 3+aW m.aD (h % 32)).toNat].aS.length:=by omega
      simp only [bC y1,bL y2,aN,if_false,if_true]
      rw [aM (by simp;omega),aM (by simp;omega)]
      refine⟨_,rfl,rfl,⟨by simp only [C4];omega,by simp only;omega,by simp only;omega,by simp only [List.length_set];omega,?_⟩,?_⟩
      · rw [pW];simp only [TM hk];simp;omega
      · have hmod:((w * 3+aW m.aD (h % 32)).toNat % 3:Nat)=(aW m.aD (h % 32)).toNat:=by omega
        obtain⟨z1,z2⟩:=mD.aT2 hr1.1 (k:=(w * 3+aW m.aD (h % 32)).toNat) (by omega) (xs:=[h % 32]) (by simp only [←dD hk,List.length_cons,List.length_nil];omega) (by simp) (fun x hx=>by
          simp at hx;subst hx
          exact⟨by rw [hmod];show aW m.aD (h % 32)=_;omega,by rw [hr2];omega⟩) (fun x hx=>by simp at hx;subst hx;exact hnot) hk
        refine⟨z1,fun s h1 h2=>?_⟩
        obtain⟨y1,y2,y3⟩:=hr1.2 s h1 h2
        exact⟨z2 s (by simpa using h2) y1,y2,y3⟩
    · have y1:¬(m.aB.Own[(w * 3+aW m.aD (h % 32)).toNat].aS.length:Int) < 2:=by omega
      have y2:(2:Int)≤m.aB.Own[(w * 3+aW m.aD (h % 32)).toNat].aS.length:=by omega
      simp only [bC y2,bL y1,aN,if_false,if_true]
      rw [aM (by simp;omega),aM (by simp;omega)]
      refine⟨_,rfl,rfl,⟨by simp only [C4];omega,by simp only;omega,by simp only [List.length_set];omega,by simp only;omega,?_⟩,?_⟩
      · rw [pW];simp only [TM hk2];simp;omega
      · obtain⟨z1,z2⟩:=mD.aCC hr1.1 (k:=(aW m.aD (h % 32)).toNat) (by omega) (xs:=[h % 32]) (by simp) (fun x hx=>by
          simp at hx;subst hx
          exact⟨by show aW m.aD (h % 32)=_;omega,by rw [hr2];omega⟩) (fun x hx=>by simp at hx;subst hx;exact hnot) hk2
        refine⟨z1,fun s h1 h2=>?_⟩
        obtain⟨y1,y2,y3⟩:=hr1.2 s h1 h2
        exact⟨z2 s (by simpa using h2) y1,y2,y3⟩
  · rw [bL q,if_neg (by simp),if_neg (by simp)]
    refine⟨_,rfl,rfl,⟨by simp only [C4];omega,by simp only;omega,by simp only;omega,by simp only;omega,by rw [pW];simp only;omega⟩,hr1⟩
end
theorem alloc_eq{b:aA}(hm:mD b.Mem){w:Int}(hw:0≤w∧w≤2)(s:Sub) :
    ∃x y,yG b w s=some (x,y)∧qQ s b w=some (y,x)∧∃m',x=⟨m',b.aC,b.aP,b.nA⟩∧wV m'∧wO b.Mem m' (-1):=by
  have hsm:=(mD.facts hm).2.2.2.2.2.1
  have hs:=hm.1.1.1
  obtain⟨c,ec,ei,hcc⟩:=aJ6 s.A
  unfold yG qQ
  rw [ec,ei]
  simp only [aE]
  by_cases c0:c < 0
  · simp only [bC c0,if_true,bK,bG];exact⟨_,_,rfl,rfl,_,rfl,hsm,wO.refl hm _⟩
  have hc:0≤c∧c≤2:=by omega
  simp only [bL c0,aN,if_false]
  have fin:∀(m':Mem) (x:Int),wV m'→wO b.Mem m' (-1)→(0≤x→fS m'.aD∧0≤aW m'.aD x) →
      ∃X Y,iU s x ⟨m',b.aC,b.aP,b.nA⟩=some (X,Y)∧iF s x ⟨m',b.aC,b.aP,b.nA⟩=some (Y,X)∧∃m',X=⟨m',b.aC,b.aP,b.nA⟩∧wV m'∧wO b.Mem m' (-1):=by
    intro m' x hs' hst hx
    unfold iU iF
    simp only [wA,NA,bK,bG]
    by_cases x0:0≤x
    · obtain⟨h,e1,e2⟩:=aNC (m:=m') (hx x0).1 (hx x0).2
      rw [bL (show ¬x < 0 by omega),bC x0]
      simp only [aN,if_false,if_true,e1,e2,aE]
      exact⟨_,_,rfl,rfl,m',rfl,hs',hst⟩
    · rw [bC (show x < 0 by omega),bL x0]
      by_cases p3:s.Pc=3
      · simp only [p3,beq_self_eq_true,if_true,aN,if_false,aE];exact⟨_,_,rfl,rfl,m',rfl,hs',hst⟩
      · have p3':(s.Pc == 3)=false:=by simpa using p3
        simp only [p3',if_true,aN,if_false,aE];exact⟨_,_,rfl,rfl,m',rfl,hs',hst⟩
  by_cases p0:s.Pc=0
  · obtain⟨l,t,x,e1,e2,e3,h1,h2,h3⟩:=aCE hm hw hc
    simp only [p0,beq_self_eq_true,if_true,(ML hw hc).1,aE,e1,e2,e3]
    exact fin _ x h1 h3 (fun h=>⟨hs,h2 h⟩)
  · have p0':(s.Pc == 0)=false:=by simpa using p0
    simp only [p0',aN,if_false,wB,mL]
    obtain⟨l,t,x,e1,e2,e3,h1,h2,h3⟩:=SQ hm hc
    by_cases p1:s.Pc=1
    · simp only [p1,beq_self_eq_true,if_true,aE,e1,e2,e3]
      exact fin _ x h1 h3 (fun h=>⟨hs,h2 h⟩)
    · have p1':(s.Pc == 1)=false:=by simpa using p1
      simp only [p1',aN,if_false]
      by_cases p3:s.Pc=3
      · simp only [p3,beq_self_eq_true,if_true,aE,e1,e2,e3]
        exact fin _ x h1 h3 (fun h=>⟨hs,h2 h⟩)
      · have p3':(s.Pc == 3)=false:=by simpa using p3
        simp only [p3',aN,if_false]
        by_cases p2:s.Pc=2
        · obtain⟨m',x,e1,e2,h1,h2,h3⟩:=aID hm hc
          simp only [p2,beq_self_eq_true,if_true,aE,e1,e2]
          exact fin m' x h1 h3 h2
        · have p2':(s.Pc == 2)=false:=by simpa using p2
          simp only [p2',aN,if_false,bK,bG];exact⟨_,_,rfl,rfl,_,rfl,hsm,wO.refl hm _⟩
end Go.Gv
end
noncomputable section
namespace Go.Gv
theorem aL9(r:cW)(e:Int):∃v,H5 r e=some v∧LY r e=some v:=by
  unfold H5 LY HP HB
  by_cases h:2≤e
  · simp only [bC h,if_true];exact⟨_,rfl,rfl⟩
  · simp only [bL h,aN,if_false];exact⟨_,rfl,rfl⟩
theorem aT4{b:aA}{w:Int}{l:bA}(hx:idx b.aP w=some l)(hl:l.Rows.length≤1000)(s:Sub) :
    (wD l.Rows s.Row s.E=some (-1)∧nN s b w=(bG s 0).bind fun x=>some (x,b)) ∨
    ∃k,∃h:k < l.Rows.length,wD l.Rows s.Row s.E=some (k:Int)∧nN s b w=some (⟨s.Kind,s.A,2,s.E,(k:Int),0,l.Rows[k].Handle,s.Out,s.Code,s.cV⟩,b):=by
  have key:∀d k,k+d=l.Rows.length →
      (loop (eF l.Rows s.E) (k:Int)=some (Out.brk ())∧loop (eZ s b w) (k:Int)=some (Out.brk ())) ∨
      ∃j,∃h:j < l.Rows.length,loop (eF l.Rows s.E) (k:Int)=some (Out.ret (j:Int))∧loop (eZ s b w) (k:Int)=some (Out.ret (⟨s.Kind,s.A,2,s.E,(j:Int),0,l.Rows[j].Handle,s.Out,s.Code,s.cV⟩,b)):=by
    intro d
    induction d with
    | zero =>
      intro k hk
      left
      exact⟨bO (by simp only [eF];rw [if_neg (by simp;omega)]),bO (by simp only [eZ,hx,aE];rw [if_neg (by simp;omega)])⟩
    | succ d ih =>
      intro k hk
      have hk':k < l.Rows.length:=by omega
      obtain⟨v,e1,e2⟩:=aL9 l.Rows[k] s.E
      cases v with
      | true =>
        right
        refine⟨k,hk',bO ?_,bO ?_⟩
        · simp only [eF]
          rw [if_pos (by simp;omega),aV hk',aE,e1];rfl
        · simp only [eZ,hx,aE]
          rw [if_pos (by simp;omega),aV hk',aE,e2];rfl
      | false =>
        have n1:eF l.Rows s.E (k:Int)=some (.next ((k+1:Nat):Int)):=by
          simp only [eF]
          rw [if_pos (by simp;omega),aV hk',aE,e1,aE,aO (by omega) (by omega)];rfl
        have n2:eZ s b w (k:Int)=some (.next ((k+1:Nat):Int)):=by
          simp only [eZ,hx,aE]
          rw [if_pos (by simp;omega),aV hk',aE,e2,aE,aO (by omega) (by omega)];rfl
        rw [bP n1,bP n2]
        exact ih (k+1) (by omega)
  unfold wD nN
  have hst:∃i:Nat,(if 0 < s.Row then s.Row else 0)=(i:Int)∧(if s.Row < 0 then 0 else s.Row)=(i:Int):=by
    refine⟨s.Row.toNat,?_,?_⟩ <;> split <;> omega
  obtain⟨i,i1,i2⟩:=hst
  rw [i1,i2]
  by_cases hi:i≤l.Rows.length
  · rcases key (l.Rows.length - i) i (by omega) with ⟨a,c⟩ | ⟨j,hj,a,c⟩
    · left;rw [a,c];exact⟨rfl,rfl⟩
    · right;rw [a,c];exact⟨j,hj,rfl,rfl⟩
  · left
    rw [bO (body:=eF l.Rows s.E) (r:=Out.brk ()) (by simp only [eF];rw [if_neg (by simp;omega)]),
      bO (body:=eZ s b w) (r:=Out.brk ()) (by simp only [eZ,hx,aE];rw [if_neg (by simp;omega)])]
    exact⟨rfl,rfl⟩
theorem del_eq{α:Type}{l:List α}{k:Nat}(h:k < l.length):((dA l k (l.drop (k+1))).take (k+(l.length - (k+1)))).drop 0=l.eraseIdx k:=by
  have h1:(l.take k).length=k:=by rw [List.length_take];omega
  have h2:(l.drop (k+1)).length=l.length - (k+1):=by simp
  unfold dA
  rw [List.drop_zero,List.eraseIdx_eq_take_drop_succ,List.take_of_length_le (l:=l.drop (k+1)) (by rw [h2];omega),←List.append_assoc]
  rw [show k+(l.length - (k+1))=(l.take k++l.drop (k+1)).length by rw [List.length_append,h1,h2]]
  exact List.take_left
theorem aCF{α:Type}{l:List α}{k:Nat}(h:k < l.length):l.Perm (l[k] :: l.eraseIdx k):=by
  have e:l=l.take k++l[k] :: l.drop (k+1):=by rw [←List.drop_eq_getElem_cons h,List.take_append_drop]
  rw [List.eraseIdx_eq_take_drop_succ]
  refine(List.Perm.of_eq e).trans ?_
  exact List.perm_middle
theorem oF.drop{b:List bA}(hL:oF b){w:Nat}(hw:w < b.length):∀k (hk:k < b[w].Rows.length),oF (b.set w ⟨b[w].Rows.eraseIdx k⟩)∧∀r∈bH (b.set w ⟨b[w].Rows.eraseIdx k⟩),r∈bH b∧r.Handle % 32≠b[w].Rows[k].Handle % 32:=by
  intro k hk
  have hsub:(bH (b.set w ⟨b[w].Rows.eraseIdx k⟩)).Sublist (bH b):=by
    rw [DZ hw,AX hw]
    exact(List.Sublist.refl _).append ((List.eraseIdx_sublist _ _).append (List.Sublist.refl _))
  have hnd:=hL.2.2.2
  refine⟨⟨by simpa using hL.1,Nat.le_trans hsub.length_le hL.2.1,fun r hr=>hL.2.2.1 r (hsub.subset hr),(hsub.map kW).nodup hnd⟩,fun r hr=>⟨hsub.subset hr,?_⟩⟩
  have hp:(bH b).Perm (b[w].Rows[k] :: bH (b.set w ⟨b[w].Rows.eraseIdx k⟩)):=by
    rw [DZ hw,AX hw]
    refine List.Perm.trans (List.Perm.append_left _ (List.Perm.append_right _ (aCF hk))) ?_
    exact List.perm_middle
  have:=(hp.map kW).nodup_iff.1 hnd
  rw [List.map_cons,List.nodup_cons] at this
  exact fun e=>this.1 (List.mem_map.2 ⟨r,hr,e⟩)
theorem aJ7{b:aA}(hb:mO b){w:Int}(hw:0≤w∧w≤2)(s:Sub) :
    ∃x y,sH b w s=some (x,y)∧nO s b w=some (y,x)∧∃m' L,x=⟨m',b.aC,L,b.nA⟩∧wV m'∧mD m'∧oF L∧∀r∈bH L,g7 m' r.Handle∧r.aI≤b.aC.aI:=by
  have hm:=hb.1.1
  have hL:=hb.1.2.2.1
  have hZ:=hb.1.2.2.2
  have hsm:=(mD.facts hm).2.2.2.2.2.1
  have hlen:w.toNat < b.aP.length:=by have:=hL.1;omega
  have hx:idx b.aP w=some b.aP[w.toNat]:=fP hw.1 (by omega)
  have hrow:=hL.small.2.2.2 _ (List.getElem_mem hlen)
  have hmemL:b.aP[w.toNat]∈b.aP:=List.getElem_mem hlen
  have hset:=oF.drop hL hlen
  generalize b.aP[w.toNat]=l at hx hrow hset hmemL
  have done:∀y:Sub,∃x z,(some (b,y):Option (aA×Sub))=some (x,z)∧(some (y,b):Option (Sub×aA))=some (z,x)∧∃m' L,x=⟨m',b.aC,L,b.nA⟩∧wV m'∧mD m'∧oF L∧∀r∈bH L,g7 m' r.Handle∧r.aI≤b.aC.aI:=
    fun y=>⟨_,_,rfl,rfl,b.Mem,b.aP,rfl,hsm,hm,hL,hb.2⟩
  have hw1:bB ((l.Rows.length:Int) - 1)=(l.Rows.length:Int) - 1:=aO (by omega) (by omega)
  have hhas:FE b.aP w s.Row=some (decide (0≤s.Row∧s.Row≤(l.Rows.length:Int) - 1)):=by
    unfold FE BW
    rw [kL,bC hw,aE,if_pos rfl,hx,aE,dR,hw1];rfl
  unfold sH nO
  rw [hhas,hx]
  simp only [aE,bK,bZ,hw1]
  have hat:∃a:Bool,(if decide (0≤s.Row∧s.Row≤(l.Rows.length:Int) - 1)=true then (idx l.Rows s.Row).bind fun x15=>fN s b w (x15.Handle == s.H) else fN s b w false)=fN s b w a ∧
      (if (!decide (0≤s.Row∧s.Row≤(l.Rows.length:Int) - 1))=true then fD b s true else (idx l.Rows s.Row).bind fun x11=>fD b s (x11.Handle != s.H))=fD b s (!a) ∧
      (a=true→∃r,r∈l.Rows∧idx l.Rows s.Row=some r∧r.Handle=s.H∧0≤s.Row∧s.Row < l.Rows.length) ∧
      (a=false→∀f:cW→Option (aA×Sub),(if (!decide (0≤s.Row∧s.Row≤(l.Rows.length:Int) - 1))=true then fE b w s l true else (idx l.Rows s.Row).bind fun x=>if (x.Handle != s.H)=true then fE b w s l true else f x)=fE b w s l true):=by
    by_cases q:0≤s.Row∧s.Row≤(l.Rows.length:Int) - 1
    · have hr:idx l.Rows s.Row=some (l.Rows[s.Row.toNat]'(by omega)):=fP q.1 (by omega)
      by_cases q2:(l.Rows[s.Row.toNat]'(by omega)).Handle=s.H
      · refine⟨true,?_,?_,fun _=>⟨_,List.getElem_mem _,hr,q2,q.1,by omega⟩,fun h=>by cases h⟩
        · rw [bC q,if_pos rfl,hr,aE,q2,beq_self_eq_true]
        · rw [bC q,if_neg (by simp),hr,aE,q2,bne_self_eq_false];rfl
      · have n1:((l.Rows[s.Row.toNat]'(by omega)).Handle == s.H)=false:=by simpa using q2
        have n2:((l.Rows[s.Row.toNat]'(by omega)).Handle != s.H)=true:=by simpa using q2
        refine⟨false,?_,?_,(fun h=>by cases h),fun _ f=>?_⟩
        · rw [bC q,if_pos rfl,hr,aE,n1]
        · rw [bC q,if_neg (by simp),hr,aE,n2];rfl
        · rw [bC q,if_neg (by simp),hr,aE,n2,if_pos rfl]
    · refine⟨false,?_,?_,(fun h=>by cases h),fun _ f=>?_⟩
      · rw [bL q,if_neg (by simp)]
      · rw [bL q,if_pos (by simp)];rfl
      · rw [bL q,if_pos (by simp)]
  obtain⟨a,ha1,ha2,ha3,ha4⟩:=hat
  rw [ha1,ha2]
  unfold fN
  by_cases p0:s.Pc=0
  · simp only [p0,beq_self_eq_true,if_true];exact done _
  have p0':(s.Pc == 0)=false:=by simpa using p0
  simp only [p0',aN,if_false]
  by_cases p1:s.Pc=1
  · simp only [p1,beq_self_eq_true,if_true]
    rcases aT4 hx (by omega) s with ⟨e1,e2⟩ | ⟨k,hk,e1,e2⟩
    · rw [e1,e2,aE,if_pos (by simp)];simp only [bG,p1,aE];exact done _
    · rw [e1,e2,aE,if_neg (by simp),aV hk];simp only [aE];exact done _
  have p1':(s.Pc == 1)=false:=by simpa using p1
  simp only [p1',aN,if_false]
  by_cases p2:s.Pc=2
  · simp only [p2,beq_self_eq_true,if_true,kL,aE]
    by_cases hB:0≤s.B∧s.B≤2
    · rw [bC hB]
      simp only [dE,aN,if_false,if_true]
      cases a with
      | true =>
        have hz:idx b.nA s.B=some (b.nA[s.B.toNat]'(by have:=hZ.1;omega)):=fP hB.1 (by have:=hZ.1;omega)
        simp only [fD,eO,dE,aN,if_false,if_true,hz,aE,qZ]
        by_cases q:(b.nA[s.B.toNat]'(by have:=hZ.1;omega))=s.H
        · simp only [q,beq_self_eq_true,if_true];exact done _
        · have q':((b.nA[s.B.toNat]'(by have:=hZ.1;omega)) == s.H)=false:=by simpa using q
          simp only [q',aN,if_false]
          by_cases q3:bB (s.B+1)=3
          · simp only [q3,beq_self_eq_true,if_true];exact done _
          · have q3':(bB (s.B+1) == 3)=false:=by simpa using q3
            simp only [q3',aN,if_false];exact done _
      | false =>
        simp only [fD,eO,dF,bK,bG,iE,if_true,aN,if_false,p2,show((2:Int) == 3)=false from rfl,aE]
        exact done _
    · rw [bL hB]
      simp only [fD,eO,dF,bK,bG,iE,if_true,aN,if_false,p2,show((2:Int) == 3)=false from rfl,aE]
      exact done _
  have p2':(s.Pc == 2)=false:=by simpa using p2
  simp only [p2',aN,if_false,eO]
  by_cases p3:s.Pc=3
  · simp only [p3,beq_self_eq_true,if_true]
    cases a with
    | false =>
      rw [ha4 rfl]
      simp only [fE,dF,bK,bG,if_true,aN,if_false,aE]
      exact done _
    | true =>
      obtain⟨r,hrm,hr,hrH,r0,r1⟩:=ha3 rfl
      obtain⟨v,e1,e2⟩:=aL9 r s.E
      rw [bC (show 0≤s.Row∧s.Row≤(l.Rows.length:Int) - 1 by omega)]
      simp only [dE,aN,if_false,if_true,hr,aE,hrH,bne_self_eq_false,hx,e1,e2]
      cases v with
      | false =>
        simp only [fE,dF,bK,bG,iE,if_true,aN,if_false,aE]
        exact done _
      | true =>
        have hlive:g7 b.Mem s.H:=by
          have:r∈bH b.aP:=List.mem_flatMap.2 ⟨l,hmemL,hrm⟩
          have:=(hb.2 r this).1
          rwa [hrH] at this
        obtain⟨m',f1,f2,f3,f4⟩:=aT3 hm hw hlive
        have ew:bB (s.Row+1)=s.Row+1:=aO (by omega) (by omega)
        have hdrop:HC b.aP w s.Row=some (b.aP.set w.toNat ⟨((dA l.Rows s.Row.toNat (l.Rows.drop (s.Row+1).toNat)).take (s.Row.toNat+(l.Rows.length - (s.Row+1).toNat))).drop 0⟩,true):=by
          unfold HC zD
          rw [SN hL.small.2.2.1 (fun s h=>by have:=hL.small.2.2.2 s h;omega),zT hL.small.1,bC hL,hhas,bC (show 0≤s.Row∧s.Row≤(l.Rows.length:Int) - 1 by omega)]
          simp only [aE,dE,aN,if_false,hx,ew]
          unfold z7
          rw [aM (by omega),if_neg (by simp;omega),aM (by omega),aM (by omega),aM (by omega),aM]
          · rfl
          · rw [eT (by omega)]
            simp only [List.drop_zero,List.length_take,eT (show s.Row.toNat≤l.Rows.length by omega)]
            omega
        simp only [fE,dF,AF,ew,dE,aN,if_false,if_true]
        rw [aM (by omega),aM (by omega),aM (by omega),cN,if_pos hlive.1,aE,f1,f2,hdrop]
        have hk:s.Row.toNat < l.Rows.length:=by omega
        have eL:((dA l.Rows s.Row.toNat (l.Rows.drop (s.Row+1).toNat)).take (s.Row.toNat+(l.Rows.length - (s.Row+1).toNat))).drop 0=l.Rows.eraseIdx s.Row.toNat:=by
          rw [show(s.Row+1).toNat=s.Row.toNat+1 by omega];exact del_eq hk
        have er:l.Rows[s.Row.toNat]=r:=by
          have:=aV hk
          rw [show((s.Row.toNat:Nat):Int)=s.Row by omega,hr] at this
          exact(Option.some.inj this).symm
        rw [eL] at hdrop ⊢
        obtain⟨g1,g2⟩:=hset s.Row.toNat hk
        refine⟨_,_,rfl,rfl,m',_,rfl,f3,f4.1,g1,fun q hq=>?_⟩
        obtain⟨g3,g4⟩:=g2 q hq
        obtain⟨g5,g6⟩:=hb.2 q g3
        refine⟨f4.live g5 fun e=>?_,g6⟩
        rw [er,hrH] at g4
        exact g4 e
  · have p3':(s.Pc == 3)=false:=by simpa using p3
    simp only [p3',aN,if_false,dF,bG,aE]
    exact done _
end Go.Gv
end
noncomputable section
namespace Go.Gv
theorem QQ.fits{b:aA}(h:QQ b):b.Mem.aD.Bytes.length≤maxLen∧(dC b.Mem.aB).length≤1073741824∧b.aC.cH.length≤maxLen∧b.aP.length≤maxLen∧(bH b.aP).length≤1073741824∧b.nA.length≤maxLen:=by
  have hb:(1048576:Nat)≤maxLen:=by simp [maxLen]
  have g1:=h.1.1;have g2:=h.1.2.2.2.2;have g3:=h.2.1;have g4:=h.2.2.1;have g5:=h.2.2.2.1;have g6:=h.2.2.2.2
  exact⟨by omega,by omega,by omega,by omega,by omega,by omega⟩
theorem step_eq{b:aA}(hb:mO b)(hs:QQ b){w:Int}(hw:0≤w∧w≤2)(s:Sub) :
    ∃x y,uT b w s=some (x,y)∧kC s b w=some (y,x)∧mO x:=by
  have hz:=hb.1.2.2.2.1
  have hl:=hb.1.2.2.1
  unfold uT kC
  cases hd:s.cV with
  | true=>exact⟨_,_,rfl,rfl,hb⟩
  | false =>
    simp only [aN,if_false]
    by_cases k1:s.Kind=1
    · obtain⟨x,y,e1,e2,m,rfl,h1,h2⟩:=alloc_eq hb.1.1 hw s
      simp only [k1,beq_self_eq_true,if_true,e1,e2,aE]
      exact⟨_,_,rfl,rfl,⟨h2.1,hb.1.2⟩,fun r hr=>⟨h2.live (hb.2 r hr).1 (by have:=(hb.2 r hr).1.1;unfold jN at this;omega),(hb.2 r hr).2⟩⟩
    have k1':(s.Kind == 1)=false:=by simpa using k1
    simp only [k1',aN,if_false]
    by_cases k2:s.Kind=2
    · obtain⟨x,y,e1,e2,L,rfl,h1,h2⟩:=aM9 hb hs hw s
      simp only [k2,beq_self_eq_true,if_true,e1,e2,aE]
      exact⟨_,_,rfl,rfl,⟨hb.1.1,hb.1.2.1,h1,hb.1.2.2.2⟩,h2⟩
    have k2':(s.Kind == 2)=false:=by simpa using k2
    simp only [k2',aN,if_false]
    by_cases k3:s.Kind=3
    · obtain⟨x,y,e1,e2,c,rfl,h1,h2⟩:=aJ2 hb.1.2.1 s
      simp only [k3,beq_self_eq_true,if_true,e1,e2,aE]
      exact⟨_,_,rfl,rfl,⟨hb.1.1,h1,hb.1.2.2⟩,fun r hr=>⟨(hb.2 r hr).1,Int.le_trans (hb.2 r hr).2 h2⟩⟩
    have k3':(s.Kind == 3)=false:=by simpa using k3
    simp only [k3',aN,if_false]
    by_cases k4:s.Kind=4
    · obtain⟨x,y,e1,e2,m,L,rfl,h1,h2,h3,h4⟩:=aJ7 hb hw s
      simp only [k4,beq_self_eq_true,if_true,e1,e2,aE]
      exact⟨_,_,rfl,rfl,⟨h2,hb.1.2.1,h3,hb.1.2.2.2⟩,h4⟩
    have k4':(s.Kind == 4)=false:=by simpa using k4
    simp only [k4',aN,if_false]
    by_cases k5:s.Kind=5
    · obtain⟨x,y,e1,e2,c,rfl,h1,h2⟩:=aWY hb.1.2.1 hw s
      simp only [k5,beq_self_eq_true,if_true,e1,e2,aE]
      exact⟨_,_,rfl,rfl,⟨hb.1.1,h1,hb.1.2.2⟩,fun r hr=>⟨(hb.2 r hr).1,Int.le_trans (hb.2 r hr).2 h2⟩⟩
    have k5':(s.Kind == 5)=false:=by simpa using k5
    simp only [k5',aN,if_false,bK,bG,aE]
    exact⟨_,_,rfl,rfl,hb⟩
theorem mO.small{b:aA}(hb:mO b):QQ b:=by
  have h1:=hb.1.2.1.2.1;have h2:=hb.1.2.2.1.1;have h3:=hb.1.2.2.1.2.1;have h4:=hb.1.2.2.2.1
  exact⟨(mD.facts hb.1.1).2.2.2.2.2.1,by omega,by omega,by omega,by omega⟩
end Go.Gv
end
noncomputable section
namespace Go.Gv
theorem U6{b:List Int}{a:Nat}{n:Int}(h:a+4≤b.length){j:Nat}(hj:j < a∨a+4≤j):bt (D1 b a n) j=bt b j:=by
  unfold D1
  rw [AH (by simp;omega),AH (by simp;omega),AH (by simp;omega),AH (by omega),if_neg (by omega),if_neg (by omega),if_neg (by omega),if_neg (by omega)]
theorem RU.put{h:aD}(hh:RU h){s:Int}(hc:0≤aW h s){n:Int}(hn:0≤n∧n≤4294967295) :
    RU ⟨D1 h.Bytes ((eA s (aW h s)).toNat+4) n,h.Class⟩∧∀t,0≤aW h t→hY ⟨D1 h.Bytes ((eA s (aW h s)).toNat+4) n,h.Class⟩ t=hY h t:=by
  obtain⟨hs,hp⟩:=hh
  have h384:=hs.1
  have hs':fS ⟨D1 h.Bytes ((eA s (aW h s)).toNat+4) n,h.Class⟩:=⟨by rw [MK];exact hs.1,hs.2.1,aNA hs.2.2.1 _ hn,hs.2.2.2⟩
  obtain⟨p,i,p6,hi,es,ec,eo,ep⟩:=sK hc
  have hcl:0≤bT h p∧bT h p≤2:=gZ.1 (by omega)
  have hroom:8+i * (aT (bT h p)).toNat+8≤64∧∀j,j < (bV (bT h p)).toNat→j * (aT (bT h p)).toNat+4≤i * (aT (bT h p)).toNat+4∨i * (aT (bT h p)).toNat+12≤j * (aT (bT h p)).toNat:=by
    generalize bT h p=c at hi hcl
    rcases fQ hcl with rfl | rfl | rfl
    · rw [show(bV 0).toNat=4 from rfl] at *;rw [show(aT 0).toNat=12 from rfl]
      exact⟨by omega,fun j hj=>by omega⟩
    · rw [show(bV 1).toNat=2 from rfl] at *;rw [show(aT 1).toNat=20 from rfl]
      exact⟨by omega,fun j hj=>by omega⟩
    · rw [show(bV 2).toNat=1 from rfl] at *;rw [show(aT 2).toNat=44 from rfl]
      exact⟨by omega,fun j hj=>by omega⟩
  have hgen:∀q j,q < 6→j < (bV (bT h q)).toNat→ld (D1 h.Bytes ((eA s (aW h s)).toNat+4) n) (q * 64+8+j * (aT (bT h q)).toNat) 4=ld h.Bytes (q * 64+8+j * (aT (bT h q)).toNat) 4:=fun q j hq hj=>by
    have hz:=sV hs hq rfl hj
    refine HW (by omega) (by simp only [MK]) fun k k1 k2=>?_
    by_cases e:q=p
    · subst e
      have:=hroom.2 j hj
      exact U6 (by omega) (by omega)
    · exact U6 (by omega) (by omega)
  refine⟨⟨hs',fun q hq=>?_⟩,fun t ht=>?_⟩
  · rw [I8 hs' hq]
    have hold:=(I8 hs hq).1 (hp q hq)
    by_cases e:q=p
    · subst e
      have hcl':¬bT h q < 0:=by omega
      unfold WQ at hold ⊢
      have hcc:bT ⟨D1 h.Bytes ((eA s (aW h s)).toNat+4) n,h.Class⟩ q=bT h q:=rfl
      rw [hcc]
      rw [if_neg hcl'] at hold ⊢
      obtain⟨⟨a1,a2,a3⟩,a4,a5⟩:=hold
      have bs:∀k,k < 8→bt (D1 h.Bytes ((eA s (aW h s)).toNat+4) n) (q * 64+k)=bt h.Bytes (q * 64+k):=fun k hk=>U6 (by omega) (by omega)
      have b0:=bs 0 (by omega);have b1:=bs 1 (by omega);have b2:=bs 2 (by omega)
      simp only [Nat.add_zero] at b0
      refine⟨⟨by rw [b0];exact a1,by rw [b1];exact a2,by rw [b2];exact a3⟩,fun k k3 k8=>by rw [bs k k8];exact a4 k k3 k8,fun j hj=>?_⟩
      rw [hgen q j hq hj];exact a5 j hj
    · refine WQ.same hq hs (by simp only [MK]) rfl (fun k hk=>U6 (by omega) (by omega)) hold
  · obtain⟨p',i',p6',hi',es',ec',eo',ep'⟩:=sK ht
    have e2:aW ⟨D1 h.Bytes ((eA s (aW h s)).toNat+4) n,h.Class⟩ t=aW h t:=rfl
    unfold hY
    rw [e2,eo']
    exact hgen p' i' p6' hi'
theorem mD.put{m:Mem}(hm:mD m){s:Int}(hc:0≤aW m.aD s){n:Int}(hn:0≤n∧n≤4294967295):wO m ⟨⟨D1 m.aD.Bytes ((eA s (aW m.aD s)).toNat+4) n,m.aD.Class⟩,m.aB⟩ (-1):=by
  obtain⟨a,b⟩:=RU.put hm.1.1 hc hn
  refine⟨mD.heap hm a fun x hx=>⟨rfl,b x (mD.oC hm hx).1⟩,fun t ht _=>?_⟩
  have ht':=gQ.1 ht
  have e:=b t ht'.1
  exact⟨gQ.2 ⟨ht'.1,ht'.2.1,by simp only [e];exact ht'.2.2⟩,e,rfl⟩
theorem start_eq{h:aD}(hs:fS h){s:Int}(hc:0≤aW h s):HQ s (aW h s)=some (eA s (aW h s)+4)∧HD s (aW h s)=some (eA s (aW h s)+4):=by
  have hg:=E3 hc
  unfold HQ HD
  rw [sU,yP,aE,if_neg (by simp;omega),aO (by omega) (by omega)]
  exact⟨rfl,rfl⟩
theorem aCG{h:aD}(hs:fS h){s:Int}(hc:0≤aW h s):vS h s 0 4=some (eA s (aW h s)+4):=by
  have hg:=E3 hc
  have hc2:0≤aW h s∧aW h s≤2:=by
    obtain⟨_,q,e⟩:=oZ hc
    rw [e];exact gZ.1 (by omega)
  have hz:8≤gP (aW h s)∧gP (aW h s)≤40:=by rcases fQ hc2 with e | e | e <;> rw [e] <;> decide
  unfold vS M6
  rw [lH hs,aE,(start_eq hs hc).2,aE,if_neg (by simp;omega),QF]
  simp only [aE,dR]
  rw [aO (x:=eA s (aW h s)+4+gP (aW h s)) (by omega) (by omega),aO (x:=eA s (aW h s)+4+gP (aW h s) - (eA s (aW h s)+4)) (by omega) (by omega),aO (x:=eA s (aW h s)+4+gP (aW h s) - (eA s (aW h s)+4) - 4) (by omega) (by omega),bC (by omega),aO (by omega) (by omega)]
  simp
theorem W7{n:Int}(hn:0≤n∧n≤65535):∃t:List UInt8,NB n 4=some t∧(t == [])=false:=by
  have st:∀(m:Int) (c:List UInt8) (i:Nat),c.length≤4→i < 4→0≤m→m≤4294967295→EY 4 (m,c,(i:Int))=some (.next (m / 256,[u8 (m % 256)]++c,((i+1:Nat):Int))):=fun m c i hc hi h0 h1=>by
    simp only [EY]
    rw [if_pos (by simp;omega),aM (by simp;omega),yO h0,FP h0,aO (x:=m / 256) (by omega) (by omega),aO (by omega) (by omega)];rfl
  unfold NB
  rw [bZ]
  simp only [aE,show(decide ((1:Int)≤4∧(4:Int)≤7))=true from rfl,dE,aN,if_false,KY,bL (show ¬n < 0 by omega)]
  rw [show(0:Int)=((0:Nat):Int) from rfl,bP (st n [] 0 (by simp) (by omega) hn.1 (by omega)),bP (st _ _ 1 (by simp) (by omega) (by omega) (by omega)),bP (st _ _ 2 (by simp) (by omega) (by omega) (by omega)),bP (st _ _ 3 (by simp) (by omega) (by omega) (by omega)),bO (by simp only [EY];rw [if_neg (by simp)])]
  simp only [aE,SB,SA]
  rw [if_neg (by simp;omega)]
  exact⟨_,rfl,rfl⟩
theorem aJ8{m:Mem}(hm:mD m){h n:Int}(hn:0≤n∧n≤65535):∃x c,CM m h 0 4 n=some (x,c)∧HE m h 0 4 n=some (x,c)∧wO m x (-1)∧(c≠0→x=m):=by
  obtain⟨hcnt,h3,h9,h1,h2,hsm,hcp,hlo,hsG,hsO⟩:=mD.facts hm
  have hs:=hm.1.1.1
  have hbl:m.aD.Bytes.length≤maxLen:=by rw [h1];simp [maxLen]
  have hall:(dC m.aB).length≤1073741824:=by omega
  have hg:m.aB.Global.length≤maxLen:=by rw [h3];simp [maxLen]
  have ho:m.aB.Own.length≤maxLen:=by rw [h9];simp [maxLen]
  have hw4:kB 4=some true:=by unfold kB;rw [dR];rfl
  unfold CM HE P3 PN
  rw [W6 hsm,aIA hsm,E5 hbl hall,SL hbl hall,bC hm,bZ,hw4,aB7 ⟨hn.1,by omega⟩]
  simp only [aE,dE,aN,if_false,CL,BY,show(decide ((1:Int)≤4∧(4:Int)≤7))=true from rfl,nF hs hall hg ho,I5 hs hall hg ho]
  by_cases hv:g7 m h
  · have hh:=hv.1
    have hcl:=g8 hv.2.1
    have hgo:=E3 hcl
    have hc2:0≤aW m.aD (h % 32)∧aW m.aD (h % 32)≤2:=by
      obtain⟨_,q,e⟩:=oZ hcl
      rw [e];exact gZ.1 (by omega)
    have hz:8≤gP (aW m.aD (h % 32))∧gP (aW m.aD (h % 32))≤40:=by rcases fQ hc2 with e | e | e <;> rw [e] <;> decide
    obtain⟨p,i,p6,hi,es,ec,eo,ep⟩:=sK hcl
    have hroom:(eA (h % 32) (aW m.aD (h % 32))).toNat+8≤384:=by
      rw [eo]
      have hcl':0≤bT m.aD p∧bT m.aD p≤2:=by rw [←ec];exact hc2
      generalize bT m.aD p=c at hi hcl'
      rcases fQ hcl' with rfl | rfl | rfl
      · rw [show(bV 0).toNat=4 from rfl] at hi;rw [show(aT 0).toNat=12 from rfl];omega
      · rw [show(bV 1).toNat=2 from rfl] at hi;rw [show(aT 1).toNat=20 from rfl];omega
      · rw [show(bV 2).toNat=1 from rfl] at hi;rw [show(aT 2).toNat=44 from rfl];omega
    simp only [bC hv,dE,aN,if_false,cN,if_pos hh,aE,iM hs,pU,bZ,hh.mod.1,aCG hs hcl]
    rw [aO (x:=gP (aW m.aD (h % 32)) - 1) (by omega) (by omega),bC (show(0:Int)≤0∧(0:Int)≤gP (aW m.aD (h % 32)) - 1 by omega),aO (x:=gP (aW m.aD (h % 32)) - 0) (by omega) (by omega),bL (show ¬gP (aW m.aD (h % 32)) - 0 < 4 by omega)]
    simp only [dE,aN,if_false,CK,(start_eq hs hcl).1,aE]
    rw [aO (x:=eA (h % 32) (aW m.aD (h % 32))+4+0) (by omega) (by omega),Int.add_zero,bL (show ¬eA (h % 32) (aW m.aD (h % 32))+4 < 0 by omega)]
    have eo':eA (h % 32) (aW m.aD (h % 32))+4=(((eA (h % 32) (aW m.aD (h % 32))).toNat+4:Nat):Int):=by omega
    have hput:=mD.put hm hcl (n:=n) ⟨hn.1,by omega⟩
    have hspf:∃t:List UInt8,NB n 4=some t∧(t == [])=false:=W7 hn
    obtain⟨t,ht1,ht2⟩:=hspf
    have hld:lO m.aD.Bytes (((eA (h % 32) (aW m.aD (h % 32))).toNat+4:Nat):Int) 4=some (ld m.aD.Bytes ((eA (h % 32) (aW m.aD (h % 32))).toNat+4) 4):=zR hs.2.2.1 (w:=4) (by omega) (by omega) (by omega)
    rw [eo',hld]
    simp only [aE,aN,if_false,bne_self_eq_false,ht1,ht2,show(SO n == [])=false from rfl]
    rw [WO (by omega) (by omega) ⟨hn.1,by omega⟩,aB8 (by omega) (by omega) ⟨hn.1,by omega⟩]
    exact⟨_,_,rfl,rfl,hput,fun q=>absurd rfl q⟩
  · simp only [bL hv,iE,if_true,aE,show((4:Int) != 0)=true from rfl]
    exact⟨_,_,rfl,rfl,wO.refl hm _,fun _=>rfl⟩
theorem aJ9{b:aA}(hm:mD b.Mem)(h:Int):∃r,KA b.Mem.aD h 0 4=some r∧HF b h 0 4=some r:=by
  have hs:=hm.1.1.1
  have h1:=hs.1
  have hbl:b.Mem.aD.Bytes.length≤maxLen:=by rw [h1];simp [maxLen]
  have hw4:kB 4=some true:=by unfold kB;rw [dR];rfl
  unfold KA HF qJ
  rw [eB,iW,bZ,hw4,C1 hbl,bC hs]
  simp only [aE,CN,rN,show(decide ((1:Int)≤4∧(4:Int)≤7))=true from rfl,dE,aN,if_false]
  by_cases hh:jN h
  · simp only [bC hh,dE,aN,if_false,cN,if_pos hh,aE,iM hs,lH hs,hh.mod.1]
    by_cases hcl:aW b.Mem.aD (h % 32) < 0
    · simp only [bC hcl,if_true,mI];exact⟨_,rfl,rfl⟩
    · have hcl':0≤aW b.Mem.aD (h % 32):=by omega
      have hgo:=E3 hcl'
      have hc2:0≤aW b.Mem.aD (h % 32)∧aW b.Mem.aD (h % 32)≤2:=by
        obtain⟨_,q,e⟩:=oZ hcl'
        rw [e];exact gZ.1 (by omega)
      have hz:8≤gP (aW b.Mem.aD (h % 32))∧gP (aW b.Mem.aD (h % 32))≤40:=by rcases fQ hc2 with e | e | e <;> rw [e] <;> decide
      obtain⟨p,i,p6,hi,es,ec,eo,ep⟩:=sK hcl'
      have hroom:(eA (h % 32) (aW b.Mem.aD (h % 32))).toNat+8≤384:=by
        rw [eo]
        have hcl'':0≤bT b.Mem.aD p∧bT b.Mem.aD p≤2:=by rw [←ec];exact hc2
        generalize bT b.Mem.aD p=c at hi hcl''
        rcases fQ hcl'' with rfl | rfl | rfl
        · rw [show(bV 0).toNat=4 from rfl] at hi;rw [show(aT 0).toNat=12 from rfl];omega
        · rw [show(bV 1).toNat=2 from rfl] at hi;rw [show(aT 1).toNat=20 from rfl];omega
        · rw [show(bV 2).toNat=1 from rfl] at hi;rw [show(aT 2).toNat=44 from rfl];omega
      simp only [bL hcl,aN,if_false,pU,bZ,aE,aCG hs hcl']
      rw [aO (x:=gP (aW b.Mem.aD (h % 32)) - 1) (by omega) (by omega),bC (show(0:Int)≤0∧(0:Int)≤gP (aW b.Mem.aD (h % 32)) - 1 by omega),aO (x:=gP (aW b.Mem.aD (h % 32)) - 0) (by omega) (by omega),bL (show ¬gP (aW b.Mem.aD (h % 32)) - 0 < 4 by omega)]
      simp only [dE,aN,if_false,mI,cN,if_pos hh,(start_eq hs hcl').1,aE]
      rw [aO (x:=eA (h % 32) (aW b.Mem.aD (h % 32))+4+0) (by omega) (by omega),Int.add_zero,bL (show ¬eA (h % 32) (aW b.Mem.aD (h % 32))+4 < 0 by omega)]
      have eo':eA (h % 32) (aW b.Mem.aD (h % 32))+4=(((eA (h % 32) (aW b.Mem.aD (h % 32))).toNat+4:Nat):Int):=by omega
      have hld:lO b.Mem.aD.Bytes (((eA (h % 32) (aW b.Mem.aD (h % 32))).toNat+4:Nat):Int) 4=some (ld b.Mem.aD.Bytes ((eA (h % 32) (aW b.Mem.aD (h % 32))).toNat+4) 4):=zR hs.2.2.1 (w:=4) (by omega) (by omega) (by omega)
      have hls:uI b.Mem.aD.Bytes (((eA (h % 32) (aW b.Mem.aD (h % 32))).toNat+4:Nat):Int) 4=some (ld b.Mem.aD.Bytes ((eA (h % 32) (aW b.Mem.aD (h % 32))).toNat+4) 4):=CZ hs.2.2.1 (w:=4) (by omega) (by omega) (by omega)
      rw [eo',hld,hls]
      exact⟨_,rfl,rfl⟩
  · simp only [bL hh,iE,if_true];exact⟨_,rfl,rfl⟩
end Go.Gv
end
noncomputable section
namespace Go.Gv
theorem aIE{l:List dT}(hl:l.length≤maxLen)(f:dT→Bool)(g:dT→Option Bool)(hg:∀x∈l,g x=some (f x)):lS l g=some (l.any f):=by
  obtain⟨o,e,h⟩:=I4 l f (body:=lR l g) (fun k hk=>by
    simp only [lR]
    rw [if_pos (by simp;omega),aV hk,jA (o8 hk hl)]
    simp only [aE,hg _ (List.getElem_mem hk)]) (by simp [lR])
  unfold lS wR
  rw [e]
  cases o with
  | brk u=>simp only at h;simp [qO,BN,h]
  | ret r=>simp only at h;simp [qO,h]
theorem aCH{l:List Queue}(hl:l.length≤maxLen)(f:Queue→Bool)(g:Queue→Option Bool)(hg:∀x∈l,g x=some (f x)):jW l g=some (l.any f):=by
  obtain⟨o,e,h⟩:=I4 l f (body:=jV l g) (fun k hk=>by
    simp only [jV]
    rw [if_pos (by simp;omega),aV hk,jA (o8 hk hl)]
    simp only [aE,hg _ (List.getElem_mem hk)]) (by simp [jV])
  unfold jW qN
  rw [e]
  cases o with
  | brk u=>simp only at h;simp [mS,wN,h]
  | ret r=>simp only at h;simp [mS,h]
theorem aGN{l:List bE}(hl:l.length≤maxLen)(f:bE→Bool)(g:bE→Option Bool)(hg:∀x∈l,g x=some (f x)):kT l g=some (l.any f):=by
  obtain⟨o,e,h⟩:=I4 l f (body:=kS l g) (fun k hk=>by
    simp only [kS]
    rw [if_pos (by simp;omega),aV hk,jA (o8 hk hl)]
    simp only [aE,hg _ (List.getElem_mem hk)]) (by simp [kS])
  unfold kT uC
  rw [e]
  cases o with
  | brk u=>simp only at h;simp [pI,AU,h]
  | ret r=>simp only at h;simp [pI,h]
def C6(k:Int):Prop:=k=1∨k=2∨k=3∨k=7
instance (k:Int):Decidable (C6 k):=by unfold C6;infer_instance
def kX(o:dT):Prop:=(1≤o.Kind∧o.Kind≤7)∧(C6 o.Kind∨o.Cell=0)∧(0≤o.Cell∧o.Cell≤1)∧if o.Kind=1 then (0≤o.gY∧o.gY≤100)∧0≤o.dV∧o.dV≤65535 else o.gY=0∧o.dV=0
instance (o:dT):Decidable (kX o):=by unfold kX;infer_instance
theorem hb0(x:Int):(x == 0)=decide (x=0):=by rw [Bool.eq_iff_iff];simp
theorem aKA:C6 1:=.inl rfl
theorem aE1(k:Int):tS k=some (decide (C6 k)):=by
  unfold tS kP C6
  by_cases h1:k=1
  · simp [h1]
  · by_cases h2:k=2
    · simp [h2]
    · by_cases h3:k=3
      · simp [h3]
      · by_cases h7:k=7
        · simp [h7]
        · simp [h1,h2,h3,h7]
theorem U7(o:dT):H3 o=some (decide (kX o)):=by
  unfold H3 A9 GV GW kX
  rw [bZ,aE1,bZ,bZ,bZ]
  by_cases h1:1≤o.Kind∧o.Kind≤7
  · by_cases h2:C6 o.Kind
    · by_cases h3:0≤o.Cell∧o.Cell≤1
      · by_cases h4:o.Kind=1
        · by_cases h5:0≤o.gY∧o.gY≤100 <;> simp [h1,h2,h3,h4,h5,aKA] <;> exact hb0 _
        · by_cases h5:o.gY=0 <;> simp [h1,h2,h3,h4,h5,aKA] <;> exact hb0 _
      · simp [h1,h2,h3]
    · by_cases h0:o.Cell=0
      · by_cases h4:o.Kind=1
        · exact absurd (.inl h4) h2
        · by_cases h5:o.gY=0 <;> simp [h1,h2,h0,h4,h5,aKA] <;> exact hb0 _
      · simp [h1,h2,h0]
  · simp [h1]
theorem U8(o:dT):H4 o=some (decide (kX o)):=by
  have key:∀x,nL o x=if 1≤o.Kind∧o.Kind≤7 then (if x then some (decide ((0≤o.Cell∧o.Cell≤1)∧if o.Kind=1 then (0≤o.gY∧o.gY≤100)∧0≤o.dV∧o.dV≤65535 else o.gY=0∧o.dV=0):Bool) else some (decide (o.Cell=0∧if o.Kind=1 then (0≤o.gY∧o.gY≤100)∧0≤o.dV∧o.dV≤65535 else o.gY=0∧o.dV=0))) else some false:=fun x=>by
    unfold nL BO G5 G6
    rw [dR,dR,dR,dR]
    by_cases h1:1≤o.Kind∧o.Kind≤7
    · cases x
      · by_cases h0:o.Cell=0
        · by_cases h4:o.Kind=1
          · by_cases h5:0≤o.gY∧o.gY≤100 <;> simp [h1,h0,h4,h5,aKA] <;> exact hb0 _
          · by_cases h5:o.gY=0 <;> simp [h1,h0,h4,h5,aKA] <;> exact hb0 _
        · simp [h1,h0]
      · by_cases h3:0≤o.Cell∧o.Cell≤1
        · by_cases h4:o.Kind=1
          · by_cases h5:0≤o.gY∧o.gY≤100 <;> simp [h1,h3,h4,h5,aKA] <;> exact hb0 _
          · by_cases h5:o.gY=0 <;> simp [h1,h3,h4,h5,aKA] <;> exact hb0 _
        · simp [h1,h3]
    · simp [h1]
  have key2:H4 o=nL o (decide (C6 o.Kind)):=by
    unfold H4 C6
    by_cases h1:o.Kind=1
    · simp [h1]
    · by_cases h2:o.Kind=2
      · simp [h2]
      · by_cases h3:o.Kind=3
        · simp [h3]
        · have h7:(o.Kind == 7)=decide (o.Kind=1∨o.Kind=2∨o.Kind=3∨o.Kind=7):=by rw [Bool.eq_iff_iff];simp [h1,h2,h3]
          rw [if_neg (by simpa using h1),if_neg (by simpa using h2),if_neg (by simpa using h3),h7]
  rw [key2,key]
  unfold kX
  by_cases h1:1≤o.Kind∧o.Kind≤7
  · by_cases h2:C6 o.Kind
    · simp only [h1,h2,and_self,decide_true,if_true,true_or,true_and]
    · by_cases h0:o.Cell=0
      · simp [h1,h2,h0]
      · simp [h1,h2,h0]
  · simp [h1]
theorem U9(h:Int):iL h=some (decide (cS h)):=by
  unfold iL zJ cS
  rw [eB]
  by_cases q:h=0 <;> simp [q]
theorem NT(h:Int):qD h=some (decide (cS h)):=by
  unfold qD tZ cS
  rw [iW]
  by_cases q:h=0 <;> simp [q]
def aIF(l:List dT):Prop:=∀o∈l,kX o
instance (l:List dT):Decidable (aIF l):=by unfold aIF;infer_instance
def QOk(q:Queue):Prop:=q.i6.length≤12∧aIF q.i6
instance (q:Queue):Decidable (QOk q):=by unfold QOk;infer_instance
def LB(l:List Queue):Prop:=l.length=3∧∀q∈l,QOk q
instance (l:List Queue):Decidable (LB l):=by unfold LB;infer_instance
theorem VA{l:List Queue}(hl:l.length≤maxLen):BA l=some (decide (LB l)):=by
  unfold BA
  have inner:∀k (hk:k < l.length),l[k].i6.length≤12→loop (mV l (k:Int)) 0=some (if aIF l[k].i6 then Out.brk () else Out.ret false):=by
    intro k hk h12
    have hb:∀j (hj:j < l[k].i6.length),mV l (k:Int) (j:Int)=if kX l[k].i6[j] then some (.next ((j+1:Nat):Int)) else some (.stop (Out.ret false)):=by
      intro j hj
      simp only [mV]
      rw [aV hk,aE,if_pos (by simp;omega),aE,aV hj,aE,U7,aE,aO (by omega) (by omega)]
      by_cases q:kX l[k].i6[j] <;> simp [q]
    have:=j4 (f:=mV l (k:Int)) l[k].i6 (fun j=>(j:Int)) kX (Out.brk ()) (Out.ret false) (fun j hj hp=>by rw [hb j hj,if_pos hp]) (fun j hj hp=>by rw [hb j hj,if_neg hp]) (by
      simp only [mV]
      rw [aV hk,aE,if_neg (by simp)])
    refine Eq.trans this ?_
    congr 1
  have hs:∀k (hk:k < l.length),mW l (k:Int)=if QOk l[k] then some (.next ((k+1:Nat):Int)) else some (.stop (Out.ret false)):=by
    intro k hk
    simp only [mW]
    rw [if_pos (by simp;omega),aV hk,aE]
    by_cases h12:l[k].i6.length≤12
    · rw [if_neg (by simp;omega),inner k hk h12]
      by_cases q:aIF l[k].i6
      · rw [if_pos q,if_pos ⟨h12,q⟩]
        simp only [aE,N6,N5]
        rw [jA (o8 hk hl)]
      · rw [if_neg q,if_neg (fun a=>q a.2)];rfl
    · rw [if_pos (by simp;omega),if_neg (fun a=>h12 a.1)]
  have key:loop (mW l) 0=_:=j4 (f:=mW l) l (fun k=>(k:Int)) QOk (Out.brk ()) (Out.ret false) (fun k hk hp=>by rw [hs k hk,if_pos hp]) (fun k hk hp=>by rw [hs k hk,if_neg hp]) (by simp [mW])
  rw [key]
  by_cases q:∀x∈l,QOk x
  · rw [if_pos q]
    simp only [aE,N7,N4]
    congr 1;rw [Bool.eq_iff_iff];simp only [beq_iff_eq,decide_eq_true_eq]
    exact⟨fun a=>⟨by omega,q⟩,fun a=>by have:=a.1;omega⟩
  · rw [if_neg q,bL (show ¬LB l from fun a=>q a.2)];rfl
theorem VB{l:List Queue}(hl:l.length≤maxLen)(hq:∀q∈l,q.i6.length≤maxLen):FD l=some (decide (LB l)):=by
  have e1:∀q∈l,EH q=some (!decide (QOk q)):=by
    intro q hm
    unfold EH vK
    have e:∀x∈q.i6,y8 x=some (!decide (kX x)):=fun x _=>by
      unfold y8;rw [U8];rfl
    rw [aIE (hq q hm) (fun x=>!decide (kX x)) _ e,E2]
    by_cases h:q.i6.length≤12
    · rw [if_neg (by simp;omega)]
      by_cases h2:∀x∈q.i6,kX x
      · rw [bC h2,bC (show QOk q from ⟨h,h2⟩)];rfl
      · rw [bL h2,bL (show ¬QOk q from fun a=>h2 a.2)];rfl
    · rw [if_pos (by simp;omega),bL (show ¬QOk q from fun a=>h a.1)];rfl
  unfold FD BP
  rw [aCH hl (fun q=>!decide (QOk q)) _ e1,E2]
  by_cases h:l.length=3
  · rw [if_pos (by simp;omega)]
    by_cases h2:∀x∈l,QOk x
    · rw [bC h2,bC (show LB l from ⟨h,h2⟩)];rfl
    · rw [bL h2,bL (show ¬LB l from fun a=>h2 a.2)];rfl
  · rw [if_neg (by simp;omega),bL (show ¬LB l from fun a=>h a.1)]
def I9:bE:=⟨false,⟨0,0,0,0⟩,0,0,⟨0,0,0,0,0,0,0,0,0,false⟩,0,0,0,0⟩
def ZV(j:bE):Prop:=if j.eG then kX j.Op∧cS j.H∧cS j.Old else j=I9
instance (j:bE):Decidable (ZV j):=by unfold ZV;infer_instance
theorem yU{j:bE}(hb:j.eG=true):ZV j↔kX j.Op∧cS j.H∧cS j.Old:=by unfold ZV;rw [if_pos hb]
theorem QW{j:bE}(hb:j.eG=false):ZV j↔j=I9:=by unfold ZV;rw [if_neg (by simp [hb])]
theorem aIG(j:bE):M3 j=some (decide (ZV j)):=by
  unfold M3 xE
  rw [U8,NT,NT]
  cases hb:j.eG
  · rw [show decide (ZV j)=decide (j=I9) from decide_eq_decide.2 (QW hb)];rfl
  · rw [show decide (ZV j)=decide (kX j.Op∧cS j.H∧cS j.Old) from decide_eq_decide.2 (yU hb)]
    by_cases h1:kX j.Op
    · by_cases h2:cS j.H <;> simp [h1,h2]
    · simp [h1]
def C7(s:aG):Prop:=mO s.aA∧s.Cells.length=2∧s.aX.length=3∧LB s.e9∧(0≤s.aK∧s.aK≤1000000)∧(∀h∈s.Cells,cS h)∧∀j∈s.aX,ZV j
instance (s:aG):Decidable (C7 s):=by unfold C7;infer_instance
noncomputable section
variable {s:aG} (hf:s.aA.Mem.aD.Bytes.length≤maxLen∧(dC s.aA.Mem.aB).length≤1073741824∧s.aA.aC.cH.length≤maxLen∧s.aA.aP.length≤maxLen∧(bH s.aA.aP).length≤1073741824∧s.aA.nA.length≤maxLen) (ht:s.e9.length≤maxLen) (hq:∀q∈s.e9,q.i6.length≤maxLen) (hcl:s.Cells.length≤maxLen) (hjl:s.aX.length≤maxLen)
include hf ht
theorem YZ:vX s=some (decide (C7 s)):=by
  unfold vX lG
  rw [aB5 hf,VA ht,bZ]
  by_cases h1:mO s.aA
  · by_cases h2:s.Cells.length=2
    · by_cases h3:s.aX.length=3
      · by_cases h4:LB s.e9
        · by_cases h5:0≤s.aK∧s.aK≤1000000
          · have c2:((s.Cells.length:Int) != 2)=false:=by simp;omega
            have c3:((s.aX.length:Int) != 3)=false:=by simp;omega
            simp only [bC h1,bC h4,bC h5,c2,c3,aE,dE,aN,if_false]
            have k2:loop (m8 s) 0=some (if ∀h∈s.Cells,cS h then Out.brk () else Out.ret false):=by
              have hb:∀k (hk:k < s.Cells.length),m8 s (k:Int)=if cS s.Cells[k] then some (.next ((k+1:Nat):Int)) else some (.stop (Out.ret false)):=fun k hk=>by
                simp only [m8]
                rw [if_pos (by simp;omega),aV hk,aE,U9,aE,aO (by omega) (by omega)]
                by_cases q:cS s.Cells[k] <;> simp [q]
              exact j4 (f:=m8 s) s.Cells (fun k=>(k:Int)) cS _ _ (fun k hk hp=>by rw [hb k hk,if_pos hp]) (fun k hk hp=>by rw [hb k hk,if_neg hp]) (by simp [m8,h2])
            have k3:loop (m7 s) 0=some (if ∀j∈s.aX,ZV j then Out.brk () else Out.ret false):=by
              have hb:∀k (hk:k < s.aX.length),m7 s (k:Int)=if ZV s.aX[k] then some (.next ((k+1:Nat):Int)) else some (.stop (Out.ret false)):=fun k hk=>by
                simp only [m7]
                rw [if_pos (by simp;omega),aV hk]
                generalize s.aX[k]=j
                simp only [aE,eW,U7,U9,aO (show -9223372036854775808≤(k:Int)+1 by omega) (show(k:Int)+1≤9223372036854775807 by omega)]
                cases hb:j.eG
                · by_cases e:j=I9
                  · have a1:cS j.H:=by rw [e];exact .inl rfl
                    have a2:cS j.Old:=by rw [e];exact .inl rfl
                    have e':j=(⟨false,(⟨0,0,0,0⟩:dT),0,0,(⟨0,0,0,0,0,0,0,0,0,false⟩:Sub),0,0,0,0⟩:bE):=e
                    simp only [iE,if_true,bC e',dE,aN,if_false,bC a1,bC a2,if_pos ((QW hb).2 e)];rfl
                  · have e':¬j=(⟨false,(⟨0,0,0,0⟩:dT),0,0,(⟨0,0,0,0,0,0,0,0,0,false⟩:Sub),0,0,0,0⟩:bE):=e
                    simp only [iE,if_true,bL e',aN,if_false,if_neg (fun q=>e ((QW hb).1 q))]
                · by_cases a0:kX j.Op
                  · by_cases a1:cS j.H
                    · by_cases a2:cS j.Old <;> simp [a0,a1,a2,yU hb]
                    · simp [a0,a1,yU hb]
                  · simp [a0,yU hb]
              exact j4 (f:=m7 s) s.aX (fun k=>(k:Int)) ZV _ _ (fun k hk hp=>by rw [hb k hk,if_pos hp]) (fun k hk hp=>by rw [hb k hk,if_neg hp]) (by simp [m7,h3])
            rw [k2]
            by_cases q2:∀h∈s.Cells,cS h
            · rw [if_pos q2]
              simp only [aE,OK,OJ]
              rw [k3]
              by_cases q3:∀j∈s.aX,ZV j
              · rw [if_pos q3,bC (show C7 s from ⟨h1,h2,h3,h4,h5,q2,q3⟩)];rfl
              · rw [if_neg q3,bL (fun a:C7 s=>q3 a.2.2.2.2.2.2)];rfl
            · rw [if_neg q2,bL (fun a:C7 s=>q2 a.2.2.2.2.2.1)];rfl
          · rw [bL (fun a:C7 s=>h5 a.2.2.2.2.1)]
            simp [h1,h2,h3,h4,h5]
        · rw [bL (fun a:C7 s=>h4 a.2.2.2.1)]
          simp [h1,h2,h3,h4]
      · rw [bL (fun a:C7 s=>h3 a.2.2.1)]
        have c3:((s.aX.length:Int) != 3)=true:=by simp;omega
        simp [h1,h2,h3,c3]
    · rw [bL (fun a:C7 s=>h2 a.2.1)]
      have c2:((s.Cells.length:Int) != 2)=true:=by simp;omega
      simp [h1,h2,c2]
  · rw [bL (fun a:C7 s=>h1 a.1)];simp [h1]
include hq hcl hjl
theorem Y0:vL s=some (decide (C7 s)):=by
  have e1:uB=fun x=>some (!decide (cS x)):=funext fun x=>by unfold uB;rw [NT];rfl
  have e2:∀x∈s.aX,BQ x=some (!decide (ZV x)):=fun x _=>by unfold BQ;rw [aIG];rfl
  unfold vL iK
  rw [aB6 hf,VB ht hq,dR,show(fun y0=>uB y0)=fun x=>some (!decide (cS x)) from e1,C0 hcl,E2,aGN hjl _ _ e2,E2]
  by_cases h1:mO s.aA
  · by_cases h2:s.Cells.length=2
    · by_cases h3:s.aX.length=3
      · have c2:((s.Cells.length:Int) == 2)=true:=by simp;omega
        have c3:((s.aX.length:Int) == 3)=true:=by simp;omega
        by_cases h4:LB s.e9
        · by_cases h5:0≤s.aK∧s.aK≤1000000
          · by_cases q2:∀h∈s.Cells,cS h
            · by_cases q3:∀j∈s.aX,ZV j
              · rw [bC (show C7 s from ⟨h1,h2,h3,h4,h5,q2,q3⟩)]
                simp only [bC h1,bC h4,bC h5,bC q2,bC q3,c2,c3,aE,dE,iE,aN,if_false,if_true]
              · rw [bL (fun a:C7 s=>q3 a.2.2.2.2.2.2)]
                simp only [bC h1,bC h4,bC h5,bC q2,bL q3,c2,c3,aE,dE,iE,aN,if_false,if_true]
            · rw [bL (fun a:C7 s=>q2 a.2.2.2.2.2.1)]
              simp only [bC h1,bC h4,bC h5,bL q2,c2,c3,aE,dE,iE,aN,if_false,if_true]
          · rw [bL (fun a:C7 s=>h5 a.2.2.2.2.1)]
            simp only [bC h1,bC h4,bL h5,c2,c3,aE,aN,if_false,if_true]
        · rw [bL (fun a:C7 s=>h4 a.2.2.2.1)]
          simp only [bC h1,bL h4,c2,c3,aE,aN,if_false,if_true]
      · rw [bL (fun a:C7 s=>h3 a.2.2.1)]
        have c2:((s.Cells.length:Int) == 2)=true:=by simp;omega
        have c3:((s.aX.length:Int) == 3)=false:=by simp;omega
        simp only [bC h1,c2,c3,aE,aN,if_false,if_true]
    · rw [bL (fun a:C7 s=>h2 a.2.1)]
      have c2:((s.Cells.length:Int) == 2)=false:=by simp;omega
      simp only [bC h1,c2,aE,aN,if_false,if_true]
  · rw [bL (fun a:C7 s=>h1 a.1)];simp only [bL h1,aE,aN,if_false]
end
end Go.Gv
end
