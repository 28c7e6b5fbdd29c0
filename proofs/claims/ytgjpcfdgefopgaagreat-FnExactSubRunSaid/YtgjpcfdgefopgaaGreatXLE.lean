import Derived.Test.YtgjpcfdgefopgaaGreatXLD
set_option linter.unusedVariables false
set_option linter.unusedSimpArgs false
set_option linter.unusedSectionVars false
set_option linter.constructorNameAsVariable false
set_option linter.unnecessarySimpa false
noncomputable section
set_option linter.unusedVariables false
set_option linter.unusedSimpArgs false
namespace Go.Gv
def AQ(c:Int):Int:=if c=0 then 8 else if c=1 then 16 else if c=2 then 40 else 0
def aY(c:Int):Int:=if c=0 then 12 else if c=1 then 20 else if c=2 then 44 else 0
def bX(c:Int):Int:=if c=0 then 4 else if c=1 then 2 else if c=2 then 1 else 0
theorem i6{c:Int}(h:0≤c∧c≤2):c=0∨c=1∨c=2:=by omega
theorem aD4{c:Int}(h:¬(0≤c∧c≤2)):AQ c=0:=by unfold AQ;rw [if_neg (by omega),if_neg (by omega),if_neg (by omega)]
theorem QL{c:Int}(h:¬(0≤c∧c≤2)):aY c=0:=by unfold aY;rw [if_neg (by omega),if_neg (by omega),if_neg (by omega)]
theorem UZ{c:Int}(h:¬(0≤c∧c≤2)):bX c=0:=by unfold bX;rw [if_neg (by omega),if_neg (by omega),if_neg (by omega)]
theorem jG(c:Int):0≤bX c∧bX c≤4:=by unfold bX;split <;> (try split) <;> (try split) <;> omega
theorem ID(c:Int):0≤aY c∧aY c≤44:=by unfold aY;split <;> (try split) <;> (try split) <;> omega
theorem pL{c:Int}:0 < bX c↔0≤c∧c≤2:=by
  unfold bX;constructor
  · intro h;split at h <;> (try split at h) <;> (try split at h) <;> omega
  · intro h;rcases i6 h with rfl | rfl | rfl <;> decide
theorem QM(c:Int):vX c=some (AQ c):=by
  unfold vX AQ
  by_cases h0:c=0 <;> by_cases h1:c=1 <;> by_cases h2:c=2 <;> simp [h0,h1,h2]
theorem fA(c:Int):fS c=some (decide (0≤c∧c≤2)):=by simp [fS,dS]
theorem QN(c:Int):v7 c=some (AQ c):=by
  unfold v7
  rw [fA]
  by_cases h:0≤c∧c≤2
  · rcases i6 h with rfl | rfl | rfl <;> rfl
  · simp [h,aD4 h]
theorem K3(c:Int):oX c=some (aY c):=by
  unfold oX
  rw [cV]
  by_cases h:0≤c∧c≤2
  · rcases i6 h with rfl | rfl | rfl <;> rfl
  · simp [h,QL h]
theorem B7(c:Int):lY c=some (aY c):=by
  unfold lY
  rw [fA]
  by_cases h:0≤c∧c≤2
  · rcases i6 h with rfl | rfl | rfl <;> rfl
  · simp [h,QL h]
theorem eG(c:Int):gR c=some (bX c):=by
  unfold gR
  rw [cV]
  by_cases h:0≤c∧c≤2
  · rcases i6 h with rfl | rfl | rfl <;> rfl
  · simp [h,UZ h]
theorem qH(c:Int):jA c=some (bX c):=by
  unfold jA
  rw [fA]
  by_cases h:0≤c∧c≤2
  · rcases i6 h with rfl | rfl | rfl <;> rfl
  · simp [h,UZ h]
theorem FH(s:Int):rB s=some (if 0≤s∧s≤23 then s / 4 else -1):=by
  unfold rB
  rw [cV]
  by_cases h:0≤s∧s≤23
  · simp [h,y8 h.1];rw [aR (by omega) (by omega)]
  · simp [h]
theorem D3(s:Int):nT s=some (if 0≤s∧s≤23 then s % 4 else -1):=by
  unfold nT
  rw [cV]
  by_cases h:0≤s∧s≤23
  · simp [h,y9 h.1]
  · simp [h]
def mN(s c:Int):Int:=if (0≤s∧s≤23)∧s % 4 < bX c then s / 4 * 64+8+s % 4 * aY c else -1
theorem zA{i c:Int}(h0:0≤i)(h1:i < bX c):0≤i * aY c∧i * aY c+aY c≤56:=by
  unfold bX at h1;unfold aY
  split at h1
  · rw [if_pos ‹_›];omega
  · split at h1
    · rw [if_neg ‹_›,if_pos ‹_›];omega
    · split at h1
      · rw [if_neg ‹_›,if_neg ‹_›,if_pos ‹_›];omega
      · omega
theorem vK(s c:Int):qO s c=some (mN s c):=by
  unfold qO uI mN
  rw [FH,D3,eG,K3]
  by_cases h:0≤s∧s≤23
  · have hp:=jG c
    have h1:¬s / 4 < 0:=by omega
    have h2:a8 (bX c - 1)=bX c - 1:=aR (by omega) (by omega)
    by_cases h3:s % 4 < bX c
    · have hm:=zA (by omega) h3
      have hs:=ID c
      have h4:0≤s % 4∧s % 4≤bX c - 1:=by omega
      have h5:¬bX c - 1 < s % 4:=by omega
      have e1:a8 (s / 4 * 64)=s / 4 * 64:=aR (by omega) (by omega)
      have e2:a8 (s / 4 * 64+8)=s / 4 * 64+8:=aR (by omega) (by omega)
      have e3:a8 (s % 4 * aY c)=s % 4 * aY c:=aR (by omega) (by omega)
      have e4:a8 (s / 4 * 64+8+s % 4 * aY c)=s / 4 * 64+8+s % 4 * aY c:=aR (by omega) (by omega)
      simp [h,h1,h2,h3,h4,h5,cV,e1,e2,e3,e4]
    · have h4:¬s % 4≤bX c - 1:=by omega
      simp [h,h1,h2,h3,h4,cV]
  · simp [h]
theorem nM(s:Int):g8 s=some (decide (0≤s∧s≤23)):=by simp [g8,dS]
theorem vL(s c:Int):qR s c=some (mN s c):=by
  unfold qR pB mN
  rw [nM,fA,qH,B7]
  by_cases h:0≤s∧s≤23
  · have hp:=jG c
    rw [y9 h.1,y8 h.1]
    by_cases h3:s % 4 < bX c
    · have hm:=zA (by omega) h3
      have hs:=ID c
      have hc:0≤c∧c≤2:=pL.1 (by omega)
      have e0:a8 (s / 4)=s / 4:=aR (by omega) (by omega)
      have e1:a8 (s / 4 * 64)=s / 4 * 64:=aR (by omega) (by omega)
      have e2:a8 (s / 4 * 64+8)=s / 4 * 64+8:=aR (by omega) (by omega)
      have e3:a8 (s % 4 * aY c)=s % 4 * aY c:=aR (by omega) (by omega)
      have e4:a8 (s / 4 * 64+8+s % 4 * aY c)=s / 4 * 64+8+s % 4 * aY c:=aR (by omega) (by omega)
      have h5:¬bX c≤s % 4:=by omega
      simp [h,hc,h3,h5,e0,e1,e2,e3,e4]
    · have h5:bX c≤s % 4:=by omega
      by_cases hc:0≤c∧c≤2 <;> simp [h,hc,h3,h5]
  · simp [h]
end Go.Gv
end
noncomputable section
set_option linter.unusedVariables false
set_option linter.unusedSimpArgs false
namespace Go.Gv
def ldF(l:List Int):Int:=l.foldl (fun n x=>n * 256+x) 0
def rF(l:List Int):Prop:=∀x∈l,0≤x∧x≤255
instance (l:List Int):Decidable (rF l):=by unfold rF;infer_instance
theorem QO{l:List Int}{k:Nat}(h:k < l.length):ldF (l.take (k+1))=ldF (l.take k) * 256+l[k]:=by
  unfold ldF
  rw [List.take_succ_eq_append_getElem h,List.foldl_append];rfl
theorem TF{l:List Int}(h:rF l):∀k,k≤l.length→0≤ldF (l.take k)∧ldF (l.take k) < 256 ^ k:=by
  intro k
  induction k with
  | zero=>intro _;simp [ldF]
  | succ k ih =>
    intro hk
    have h1:=ih (by omega)
    have h2:=h _ (List.getElem_mem (show k < l.length by omega))
    rw [QO (by omega),Int.pow_succ]
    omega
theorem aIA{k:Nat}(h:k≤6):(256:Int) ^ k≤281474976710656:=by
  have h1:(256:Nat) ^ k≤256 ^ 6:=Nat.pow_le_pow_right (by omega) h
  have h2:(256:Nat) ^ 6=281474976710656:=by decide
  rw [h2] at h1
  have h3:((256 ^ k:Nat):Int)≤281474976710656:=by omega
  rw [Int.natCast_pow] at h3
  exact h3
def ld(b:List Int)(at_ w:Nat):Int:=ldF ((b.drop at_).take w)
theorem ZQ{n x:Int}{k:Nat}(hk:k≤6)(h:0≤n∧n < 256 ^ k)(hx:0≤x∧x≤255):a8 (a8 (n * 256)+x)=n * 256+x∧a8 (a8 (256 * n)+x)=n * 256+x:=by
  have:=aIA hk
  rw [Int.mul_comm 256 n,aR (x:=n * 256) (by omega) (by omega),aR (by omega) (by omega)]
  exact⟨rfl,rfl⟩
theorem XV{b:List Int}{a w:Nat}(h:a+w≤b.length):((b.drop a).take w).length=w:=by simp;omega
theorem QP{b:List Int}{a w k:Nat}(h:k < ((b.drop a).take w).length)(h':a+k < b.length):((b.drop a).take w)[k]=b[a+k]:=by simp
theorem U0{b:List Int}(hb:rF b)(a w:Nat):rF ((b.drop a).take w):=fun x hx=>hb x (List.mem_of_mem_drop (List.mem_of_mem_take hx))
theorem FI{b:List Int}(hb:rF b){a w:Nat}(hw:w≤7)(h:a+w≤b.length)(hl:b.length≤100000):vW b (a:Int) (w:Int)=some (ld b a w):=by
  unfold vW
  have hlen:=XV h
  have hbb:=U0 hb a w
  have key:loop (mT b (a:Int) (w:Int)) (0,0)=some (ld b a w):=by
    refine dX (f:=mT b (a:Int) (w:Int)) w (fun k=>(ldF (((b.drop a).take w).take k),(k:Int))) _ (fun k hk=>?_) ?_
    · have hb1:=TF hbb k (by omega)
      have hk':k < ((b.drop a).take w).length:=by omega
      have hx:=hbb _ (List.getElem_mem hk')
      have hs:=ZQ (by omega) hb1 hx
      rw [QP hk' (by omega)] at hs
      have e1:a8 ((a:Int)+k)=((a+k:Nat):Int):=by rw [aR (by omega) (by omega)];omega
      simp only [mT]
      rw [if_pos (by simp;omega),e1,aQ (by omega)]
      simp only [Option.bind_some,hs.1,QO hk',QP hk' (show a+k < b.length by omega)]
      rw [aR (x:=(k:Int)+1) (by omega) (by omega)];rfl
    · have:((b.drop a).take w).take w=(b.drop a).take w:=by rw [List.take_take];simp
      simp [mT,this,ld]
  rw [key];rfl
theorem D4{b:List Int}(hb:rF b){a w:Nat}(hw:w≤7)(h:a+w≤b.length)(hl:b.length≤100000):sA b (a:Int) (w:Int)=some (ld b a w):=by
  unfold sA
  have hlen:=XV h
  have hbb:=U0 hb a w
  have e0:a8 ((a:Int)+w)=((a+w:Nat):Int):=by rw [aR (by omega) (by omega)];omega
  have e2:(b.take (a+w)).drop a=(b.drop a).take w:=by rw [List.drop_take];congr 1;omega
  rw [bE (by rw [e0];omega)]
  have key:loop (lP b (a:Int) (w:Int)) (0,0)=some (ld b a w):=by
    refine dX (f:=lP b (a:Int) (w:Int)) w (fun k=>(ldF (((b.drop a).take w).take k),(k:Int))) _ (fun k hk=>?_) ?_
    · have hb1:=TF hbb k (by omega)
      have hk':k < ((b.drop a).take w).length:=by omega
      have hx:=hbb _ (List.getElem_mem hk')
      have hs:=ZQ (by omega) hb1 hx
      simp only [lP,e0,Int.toNat_natCast,e2]
      rw [if_pos (by simp;omega),aQ hk']
      simp only [Option.bind_some,hs.2,QO hk']
      rw [aR (x:=(k:Int)+1) (by omega) (by omega)];rfl
    · have:((b.drop a).take w).take w=(b.drop a).take w:=by rw [List.take_take];simp
      simp only [lP,e0,Int.toNat_natCast,e2,this,ld]
      rw [if_neg (by rw [hlen];simp)]
  rw [key];rfl
theorem yB{l:List Int}(hl:l.length≤maxLen)(f:Int→Bool):dA l (fun x=>some (f x))=some (l.any f):=by
  unfold dA m5
  have key:∀k:Nat,k≤l.length→loop (eN l (fun x=>some (f x))) (k:Int)=some (if (l.drop k).any f then Out.ret ((k+(l.drop k).findIdx f:Nat):Int) else Out.brk ()):=by
    refine ND l.length _ fun k hk=>?_
    by_cases h3:k < l.length
    · have hd:l.drop k=l[k] :: l.drop (k+1):=List.drop_eq_getElem_cons h3
      simp only [eN]
      rw [if_pos (by simp;omega),aQ h3,dP (iC h3 hl),hd]
      simp only [Option.bind_some,List.any_cons,List.findIdx_cons]
      by_cases h4:f l[k]=true
      · left;simp [h4]
      · right
        have h4:f l[k]=false:=by simpa using h4
        refine⟨h3,by simp [h4],?_⟩
        simp only [h4,Bool.false_or,cond_false]
        congr 2;omega
    · left
      obtain rfl:k=l.length:=by omega
      simp [eN]
  have t0:loop (eN l (fun x=>some (f x))) 0=_:=key 0 (by omega)
  rw [t0]
  simp only [List.drop_zero]
  by_cases h:l.any f=true
  · simp [h,j4]
  · have h:l.any f=false:=by simpa using h
    simp [h,j4,rD]
def BOk(b:List Int):Prop:=b.length≤1000∧rF b
instance (b:List Int):Decidable (BOk b):=by unfold BOk;infer_instance
theorem M0{b:List Int}(hl:b.length≤maxLen):xD b=some (decide (BOk b)):=by
  unfold xD
  have key:loop (iV b) 0=some (if ∀x∈b,0≤x∧x≤255 then Out.brk () else Out.ret false):=by
    refine kL (f:=iV b) b (fun k=>(k:Int)) (fun x=>0≤x∧x≤255) _ _ (fun k h hp=>?_) (fun k h hp=>?_) ?_
    · simp only [iV]
      rw [if_pos (by simp;omega),aQ h,dP (iC h hl)]
      simp [cV,hp]
    · simp only [iV]
      rw [if_pos (by simp;omega),aQ h]
      simp only [Option.bind_some,cV,hp,decide_false,Bool.not_false,if_true]
    · simp [iV]
  rw [key]
  by_cases h:∀x∈b,0≤x∧x≤255
  · rw [if_pos h]
    have:BOk b↔b.length≤1000:=⟨fun q=>q.1,fun q=>⟨q,h⟩⟩
    simp only [Option.bind_some,wK,DI,this]
    congr 1;rw [Bool.eq_iff_iff];simp;omega
  · rw [if_neg h]
    have:¬BOk b:=fun q=>h q.2
    simp [wK,this]
theorem GH{α:Type}{p:α→Prop}[DecidablePred p](l:List α):(l.any fun x=>!decide (p x))=!decide (∀x∈l,p x):=by
  rw [Bool.eq_iff_iff];simp
theorem M1{b:List Int}(hl:b.length≤maxLen):xP b=some (decide (BOk b)):=by
  unfold xP pY
  have e:(fun y0=>r9 y0)=fun y:Int=>some (!decide (0≤y∧y≤255)):=by
    funext y;simp [r9,E1,dS]
  rw [e,yB hl,GH]
  by_cases h:b.length≤1000
  · have:BOk b↔∀x∈b,0≤x∧x≤255:=⟨fun q=>q.2,fun q=>⟨h,q⟩⟩
    have h':(b.length:Int)≤1000:=by omega
    simp [h',this]
  · have:¬BOk b:=fun q=>h q.1
    have h':¬(b.length:Int)≤1000:=by omega
    simp [h',this]
def dV(h:aC):Prop:=h.Bytes.length=384∧h.Class.length=6∧rF h.Bytes∧∀c∈h.Class,-1≤c∧c≤2
instance (h:aC):Decidable (dV h):=by unfold dV;infer_instance
theorem M3{h:aC}(hl:h.Bytes.length≤maxLen):xE h=some (decide (dV h)):=by
  unfold xE lI
  by_cases h1:h.Bytes.length=384
  · by_cases h2:h.Class.length=6
    · rw [M0 hl]
      have n1:((h.Bytes.length:Int) != 384)=false:=by simp;omega
      have n2:((h.Class.length:Int) != 6)=false:=by simp;omega
      simp only [n1,n2,Bool.false_eq_true,if_false,Option.bind_some]
      by_cases h3:rF h.Bytes
      · have b1:BOk h.Bytes:=⟨by omega,h3⟩
        have key:loop (iW h) 0=some (if ∀x∈h.Class,-1≤x∧x≤2 then Out.brk () else Out.ret false):=by
          refine kL (f:=iW h) h.Class (fun k=>(k:Int)) (fun x=>-1≤x∧x≤2) _ _ (fun k h hp=>?_) (fun k h hp=>?_) ?_
          · simp only [iW]
            rw [if_pos (by simp;omega),aQ h,aR (by omega) (by omega)]
            simp [cV,hp]
          · simp only [iW]
            rw [if_pos (by simp;omega),aQ h]
            simp only [Option.bind_some,cV]
            rw [decide_eq_false hp];rfl
          · simp [iW,h2]
        rw [key]
        have:dV h↔∀x∈h.Class,-1≤x∧x≤2:=⟨fun q=>q.2.2.2,fun q=>⟨h1,h2,h3,q⟩⟩
        simp only [b1,decide_true,Bool.not_true,Bool.false_eq_true,if_false,this]
        by_cases h4:∀x∈h.Class,-1≤x∧x≤2
        · rw [if_pos h4,decide_eq_true h4];rfl
        · rw [if_neg h4,decide_eq_false h4];rfl
      · have b1:¬BOk h.Bytes:=fun q=>h3 q.2
        have:¬dV h:=fun q=>h3 q.2.2.1
        simp [b1,this]
    · have n1:((h.Bytes.length:Int) != 384)=false:=by simp;omega
      have n2:((h.Class.length:Int) != 6)=true:=by simp;omega
      have:¬dV h:=fun q=>h2 q.2.1
      simp [n1,n2,this]
  · have n1:((h.Bytes.length:Int) != 384)=true:=by simp;omega
    have:¬dV h:=fun q=>h1 q.1
    simp [n1,this]
theorem zB{h:aC}(hl:h.Bytes.length≤maxLen):vY h=some (decide (dV h)):=by
  unfold vY j6
  by_cases h1:h.Bytes.length=384
  · have n1:((h.Bytes.length:Int) == 384)=true:=by simp;omega
    rw [M1 hl]
    by_cases h3:rF h.Bytes
    · have b1:BOk h.Bytes:=⟨by omega,h3⟩
      by_cases h2:h.Class.length=6
      · have n2:((h.Class.length:Int) == 6)=true:=by simp;omega
        have e:(fun y0=>uP y0)=fun y:Int=>some (!decide (-1≤y∧y≤2)):=by
          funext y;simp [uP,dS]
        rw [e,yB (by rw [h2];simp [maxLen]),GH]
        have:dV h↔∀x∈h.Class,-1≤x∧x≤2:=⟨fun q=>q.2.2.2,fun q=>⟨h1,h2,h3,q⟩⟩
        simp [n1,n2,b1,this]
      · have n2:((h.Class.length:Int) == 6)=false:=by simp;omega
        have:¬dV h:=fun q=>h2 q.2.1
        simp [n1,n2,b1,this]
    · have b1:¬BOk h.Bytes:=fun q=>h3 q.2
      have:¬dV h:=fun q=>h3 q.2.2.1
      simp [n1,b1,this]
  · have n1:((h.Bytes.length:Int) == 384)=false:=by simp;omega
    have:¬dV h:=fun q=>h1 q.1
    simp [n1,this]
end Go.Gv
end
noncomputable section
set_option linter.unusedVariables false
set_option linter.unusedSimpArgs false
set_option linter.unusedSectionVars false
namespace Go.Gv
def cE(h:aC)(p:Nat):List Int:=(h.Bytes.drop (p * 64)).take 64
def bO(h:aC)(p:Nat):Int:=h.Class.getD p 0
def iK(h:aC)(p:Nat):Prop:=
  if bO h p < 0 then ∀x∈cE h p,x=0
  else ((cE h p).getD 0 0=171∧(cE h p).getD 1 0=bO h p∧(cE h p).getD 2 0=bX (bO h p))∧(∀x∈((cE h p).drop 3).take 5,x=0)∧∀i,i < (bX (bO h p)).toNat→1≤ld h.Bytes (p * 64+8+i * (aY (bO h p)).toNat) 4∧ld h.Bytes (p * 64+8+i * (aY (bO h p)).toNat) 4≤7
instance (h:aC) (p:Nat):Decidable (iK h p):=by unfold iK;infer_instance
noncomputable section
variable {h:aC} (hs:dV h) {p:Nat} (hp:p < 6)
include hs hp
theorem zC:(cE h p).length=64:=XV (by have:=hs.1;omega)
theorem FJ{k:Nat}(hk:k < 64):h.Bytes[p * 64+k]'(by have:=hs.1;omega)=(cE h p)[k]'(by rw [zC hs hp];exact hk):=(QP (show k < ((h.Bytes.drop (p * 64)).take 64).length by have:=zC hs hp;unfold cE at this;omega) _).symm
theorem TG{k:Nat}(hk:k < 64):h.Bytes[p * 64+k]'(by have:=hs.1;omega)=(cE h p).getD k 0:=by
  rw [FJ hs hp hk,List.getD_eq_getElem?_getD,List.getElem?_eq_getElem (by rw [zC hs hp];exact hk)];rfl
theorem ZR:h.Class[p]'(by have:=hs.2.1;omega)=bO h p:=by
  unfold bO
  rw [List.getD_eq_getElem?_getD,List.getElem?_eq_getElem (by have:=hs.2.1;omega)];rfl
theorem NS:idx h.Class (p:Int)=some (bO h p):=by rw [aQ (by have:=hs.2.1;omega),ZR hs hp]
theorem QQ{k:Nat}(hk:k < 64):idx h.Bytes (((p * 64+k:Nat)):Int)=some ((cE h p).getD k 0):=by
  rw [aQ (by have:=hs.1;omega),TG hs hp hk]
theorem aAF:rF (cE h p):=U0 hs.2.2.1 _ _
theorem rG{c:Int}(hc:bO h p=c){i:Nat}(hi:i < (bX c).toNat):(8+i * (aY c).toNat)+4≤64∧0≤(i:Int) * aY c∧((8+i * (aY c).toNat:Nat):Int)=8+(i:Int) * aY c:=by
  have h1:(i:Int) < bX c:=by omega
  have hc2:0≤c∧c≤2:=pL.1 (by omega)
  rcases i6 hc2 with rfl | rfl | rfl
  · have e:aY 0=12:=rfl
    have g:(12:Int).toNat=12:=rfl
    have f:(bX 0).toNat=4:=rfl
    rw [e,g];rw [f] at hi;omega
  · have e:aY 1=20:=rfl
    have g:(20:Int).toNat=20:=rfl
    have f:(bX 1).toNat=2:=rfl
    rw [e,g];rw [f] at hi;omega
  · have e:aY 2=44:=rfl
    have g:(44:Int).toNat=44:=rfl
    have f:(bX 2).toNat=1:=rfl
    rw [e,g];rw [f] at hi;omega
theorem aD5{i:Nat}(hi:i < (bX (bO h p)).toNat):mN ((p:Int) * 4+i) (bO h p)=((p * 64+(8+i * (aY (bO h p)).toNat):Nat):Int):=by
  have hz:=rG hs hp rfl hi
  have hle:=jG (bO h p)
  unfold mN
  rw [if_pos (by omega)]
  have e1:((p:Int) * 4+i) / 4=p:=by omega
  have e2:((p:Int) * 4+i) % 4=i:=by omega
  rw [e1,e2]
  omega
theorem FK:z7 h (p:Int)=some (decide (iK h p)):=by
  have hb:=hs.1
  have hl:=zC hs hp
  have e0:a8 ((p:Int) * 64)=((p * 64+0:Nat):Int):=by rw [aR (by omega) (by omega)];omega
  have e1:a8 (((p * 64+0:Nat):Int)+1)=((p * 64+1:Nat):Int):=by rw [aR (by omega) (by omega)];omega
  have e2:a8 (((p * 64+0:Nat):Int)+2)=((p * 64+2:Nat):Int):=by rw [aR (by omega) (by omega)];omega
  have e3:a8 (((p * 64+0:Nat):Int)+3)=((p * 64+3:Nat):Int):=by rw [aR (by omega) (by omega)];omega
  have e8:a8 (((p * 64+0:Nat):Int)+8)=((p * 64+8:Nat):Int):=by rw [aR (by omega) (by omega)];omega
  have e64:a8 (((p * 64+0:Nat):Int)+64)=((p * 64+64:Nat):Int):=by rw [aR (by omega) (by omega)];omega
  unfold z7
  rw [NS hs hp]
  simp only [Option.bind_some]
  by_cases hc:bO h p < 0
  · simp only [hc,decide_true,if_true,e0]
    have key:loop (jV h (p:Int)) (((p * 64+0:Nat)):Int)=some (if ∀x∈cE h p,x=0 then Out.brk () else Out.ret false):=by
      refine kL (f:=jV h (p:Int)) (cE h p) (fun k=>((p * 64+k:Nat):Int)) (fun x=>x=0) _ _ (fun k hk hx=>?_) (fun k hk hx=>?_) ?_
      · simp only [jV,e0,e64]
        rw [if_pos (by simp;omega),aQ (by omega),FJ hs hp (by omega),aR (by omega) (by omega)]
        simp only [Option.bind_some,hx];simp;omega
      · simp only [jV,e0,e64]
        rw [if_pos (by simp;omega),aQ (by omega),FJ hs hp (by omega)]
        have hx':((cE h p)[k] != 0)=true:=by simpa using hx
        simp only [Option.bind_some,hx',if_true]
      · simp only [jV,e0,e64,hl]
        rw [if_neg (by simp)]
    rw [key]
    have hP:iK h p↔∀x∈cE h p,x=0:=by unfold iK;rw [if_pos hc]
    by_cases h4:∀x∈cE h p,x=0
    · rw [if_pos h4,decide_eq_true (hP.2 h4)];rfl
    · rw [if_neg h4,decide_eq_false (fun q=>h4 (hP.1 q))];rfl
  · have hP:iK h p↔((cE h p).getD 0 0=171∧(cE h p).getD 1 0=bO h p∧(cE h p).getD 2 0=bX (bO h p))∧(∀x∈((cE h p).drop 3).take 5,x=0)∧∀i,i < (bX (bO h p)).toNat→1≤ld h.Bytes (p * 64+8+i * (aY (bO h p)).toNat) 4∧ld h.Bytes (p * 64+8+i * (aY (bO h p)).toNat) 4≤7:=by unfold iK;rw [if_neg hc]
    simp only [hc,decide_false,Bool.false_eq_true,if_false,e0,e1,e2,QQ hs hp (show 0 < 64 by omega),QQ hs hp (show 1 < 64 by omega),QQ hs hp (show 2 < 64 by omega),Option.bind_some,eG]
    by_cases a0:(cE h p).getD 0 0=171
    · by_cases a1:(cE h p).getD 1 0=bO h p
      · by_cases a2:(cE h p).getD 2 0=bX (bO h p)
        · have n0:((cE h p).getD 0 0 != 171)=false:=by simp only [bne_eq_false_iff_eq];exact a0
          have n1:((cE h p).getD 1 0 != bO h p)=false:=by simp only [bne_eq_false_iff_eq];exact a1
          have n2:((cE h p).getD 2 0 != bX (bO h p))=false:=by simp only [bne_eq_false_iff_eq];exact a2
          simp only [n0,n1,n2,Bool.false_eq_true,if_false,fZ,e0,e3]
          have hl5:(((cE h p).drop 3).take 5).length=5:=by simp [hl]
          have key:loop (jX h (p:Int)) (((p * 64+3:Nat)):Int)=some (if ∀x∈((cE h p).drop 3).take 5,x=0 then Out.brk () else Out.ret false):=by
            refine kL (f:=jX h (p:Int)) (((cE h p).drop 3).take 5) (fun k=>((p * 64+(3+k):Nat):Int)) (fun x=>x=0) _ _ (fun k hk hx=>?_) (fun k hk hx=>?_) ?_
            · simp only [jX,e0,e8]
              rw [if_pos (by simp;omega),aQ (by omega),FJ hs hp (by omega),aR (by omega) (by omega),←QP hk (by omega),hx]
              simp;omega
            · simp only [jX,e0,e8]
              rw [if_pos (by simp;omega),aQ (by omega),FJ hs hp (by omega),←QP hk (by omega)]
              have hx':((((cE h p).drop 3).take 5)[k] != 0)=true:=by simp only [bne_iff_ne];exact hx
              simp only [Option.bind_some,hx',if_true]
            · simp only [jX,e0,e8,hl5]
              rw [if_neg (by simp)]
          rw [key]
          by_cases h4:∀x∈((cE h p).drop 3).take 5,x=0
          · rw [if_pos h4]
            simp only [Option.bind_some,ER,EP]
            have key2:loop (jW h (p:Int) (bO h p)) 0=some (if ∀i,i < (bX (bO h p)).toNat→1≤ld h.Bytes (p * 64+8+i * (aY (bO h p)).toNat) 4∧ld h.Bytes (p * 64+8+i * (aY (bO h p)).toNat) 4≤7 then Out.brk () else Out.ret false):=by
              have hle:=jG (bO h p)
              have hst:∀k:Nat,k < (bX (bO h p)).toNat→jW h (p:Int) (bO h p) (k:Int)=if 1≤ld h.Bytes (p * 64+8+k * (aY (bO h p)).toNat) 4∧ld h.Bytes (p * 64+8+k * (aY (bO h p)).toNat) 4≤7 then some (.next ((k+1:Nat):Int)) else some (.stop (Out.ret false)):=by
                intro k hk
                have hz:=rG hs hp rfl hk
                have s1:kM (p:Int) (k:Int)=some ((p:Int) * 4+k):=by
                  unfold kM mU
                  rw [cV,cV]
                  have g1:(0:Int)≤p∧(p:Int)≤5:=by omega
                  have g2:(0:Int)≤k∧(k:Int)≤3:=by omega
                  simp only [Option.bind_some,g1,g2,and_self,decide_true,Bool.not_true,Bool.false_eq_true,if_false]
                  rw [aR (x:=(p:Int) * 4) (by omega) (by omega),aR (by omega) (by omega)]
                have l1:=FI hs.2.2.1 (a:=p * 64+(8+k * (aY (bO h p)).toNat)) (w:=4) (by omega) (by omega) (by omega)
                simp only [jW,eG,Option.bind_some]
                rw [if_pos (by simp;omega),s1]
                simp only [Option.bind_some,vK,aD5 hs hp hk]
                rw [show((4:Nat):Int)=4 from rfl] at l1
                rw [l1,Nat.add_assoc,aR (x:=(k:Int)+1) (by omega) (by omega)]
                simp only [Option.bind_some,cV]
                by_cases q:1≤ld h.Bytes (p * 64+(8+k * (aY (bO h p)).toNat)) 4∧ld h.Bytes (p * 64+(8+k * (aY (bO h p)).toNat)) 4≤7
                · rw [if_pos q,decide_eq_true q];rfl
                · rw [if_neg q,decide_eq_false q];rfl
              refine nL (f:=jW h (p:Int) (bO h p)) (bX (bO h p)).toNat (fun k=>(k:Int)) (fun i=>1≤ld h.Bytes (p * 64+8+i * (aY (bO h p)).toNat) 4∧ld h.Bytes (p * 64+8+i * (aY (bO h p)).toNat) 4≤7) _ _ (fun k hk hx=>?_) (fun k hk hx=>?_) ?_
              · rw [hst k hk,if_pos hx]
              · rw [hst k hk,if_neg hx]
              · simp only [jW,eG,Option.bind_some]
                rw [if_neg (by simp;omega)]
            rw [key2]
            by_cases h5:∀i,i < (bX (bO h p)).toNat→1≤ld h.Bytes (p * 64+8+i * (aY (bO h p)).toNat) 4∧ld h.Bytes (p * 64+8+i * (aY (bO h p)).toNat) 4≤7
            · rw [if_pos h5,decide_eq_true (hP.2 ⟨⟨a0,a1,a2⟩,h4,h5⟩)];rfl
            · rw [if_neg h5,decide_eq_false (fun q=>h5 (hP.1 q).2.2)];rfl
          · rw [if_neg h4,decide_eq_false (fun q=>h4 (hP.1 q).2.1)];rfl
        · have n0:((cE h p).getD 0 0 != 171)=false:=by simp only [bne_eq_false_iff_eq];exact a0
          have n1:((cE h p).getD 1 0 != bO h p)=false:=by simp only [bne_eq_false_iff_eq];exact a1
          have n2:((cE h p).getD 2 0 != bX (bO h p))=true:=by simp only [bne_iff_ne];exact a2
          simp only [n0,n1,n2,Bool.false_eq_true,if_false,fZ,if_true]
          rw [decide_eq_false (fun q=>a2 (hP.1 q).1.2.2)]
      · have n0:((cE h p).getD 0 0 != 171)=false:=by simp only [bne_eq_false_iff_eq];exact a0
        have n1:((cE h p).getD 1 0 != bO h p)=true:=by simp only [bne_iff_ne];exact a1
        simp only [n0,n1,Bool.false_eq_true,if_false,fZ,if_true]
        rw [decide_eq_false (fun q=>a1 (hP.1 q).1.2.1)]
    · have n0:((cE h p).getD 0 0 != 171)=true:=by simp only [bne_iff_ne];exact a0
      simp only [n0,Bool.false_eq_true,if_false,fZ,if_true]
      rw [decide_eq_false (fun q=>a0 (hP.1 q).1.1)]
end
end Go.Gv
end
noncomputable section
set_option linter.unusedVariables false
set_option linter.unusedSimpArgs false
set_option linter.unusedSectionVars false
namespace Go.Gv
theorem FL{l:List Int}(hl:l.length≤maxLen):vZ l=some (decide (∀x∈l,x=0)):=by
  unfold vZ
  have e:(fun y0=>uQ y0)=fun y:Int=>some (!decide (y=0)):=by
    funext y;simp [uQ,bne];rfl
  rw [e,yB hl,GH]
  simp
noncomputable section
variable {h:aC} (hs:dV h) {p:Nat} (hp:p < 6)
include hs hp
theorem aG0:(h.Bytes.take ((p+1) * 64)).drop (p * 64)=cE h p:=by
  unfold cE
  rw [List.drop_take];congr 1;omega
theorem aF8{a:Nat}(ha:a+4≤64):ld (cE h p) a 4=ld h.Bytes (p * 64+a) 4:=by
  unfold ld cE
  rw [List.drop_take,List.take_take,List.drop_drop]
  congr 2;omega
theorem XW{k:Nat}(hk:k < 64):idx (cE h p) (k:Int)=some ((cE h p).getD k 0):=by
  have:=zC hs hp
  rw [aQ (by omega),List.getD_eq_getElem?_getD,List.getElem?_eq_getElem (by omega)];rfl
theorem FM:AJ h (p:Int)=some (decide (iK h p)):=by
  have hb:=hs.1
  have hl:=zC hs hp
  have hm:(cE h p).length≤maxLen:=by rw [hl];simp [maxLen]
  have e0:a8 ((p:Int) * 64)=((p * 64:Nat):Int):=by rw [aR (by omega) (by omega)];omega
  have e1:a8 (a8 ((p:Int)+1) * 64)=(((p+1) * 64:Nat):Int):=by rw [aR (x:=(p:Int)+1) (by omega) (by omega),aR (by omega) (by omega)];omega
  have i0:=XW hs hp (show 0 < 64 by omega)
  have i1:=XW hs hp (show 1 < 64 by omega)
  have i2:=XW hs hp (show 2 < 64 by omega)
  rw [show((0:Nat):Int)=0 from rfl] at i0
  rw [show((1:Nat):Int)=1 from rfl] at i1
  rw [show((2:Nat):Int)=2 from rfl] at i2
  unfold AJ
  rw [NS hs hp]
  simp only [Option.bind_some,e0,e1,Int.toNat_natCast,aG0 hs hp]
  rw [bE (by omega)]
  by_cases hc:bO h p < 0
  · have hP:iK h p↔∀x∈cE h p,x=0:=by unfold iK;rw [if_pos hc]
    simp only [hc,decide_true,if_true,FL hm,Option.bind_some,hP]
  · have hP:iK h p↔((cE h p).getD 0 0=171∧(cE h p).getD 1 0=bO h p∧(cE h p).getD 2 0=bX (bO h p))∧(∀x∈((cE h p).drop 3).take 5,x=0)∧∀i,i < (bX (bO h p)).toNat→1≤ld h.Bytes (p * 64+8+i * (aY (bO h p)).toNat) 4∧ld h.Bytes (p * 64+8+i * (aY (bO h p)).toNat) 4≤7:=by unfold iK;rw [if_neg hc]
    simp only [hc,decide_false,Bool.false_eq_true,if_false,i0,i1,i2,Option.bind_some,qH]
    by_cases a0:(cE h p).getD 0 0=171
    · by_cases a1:(cE h p).getD 1 0=bO h p
      · by_cases a2:(cE h p).getD 2 0=bX (bO h p)
        · have n0:((cE h p).getD 0 0 != 171)=false:=by simp only [bne_eq_false_iff_eq];exact a0
          have n1:((cE h p).getD 1 0 != bO h p)=false:=by simp only [bne_eq_false_iff_eq];exact a1
          have n2:((cE h p).getD 2 0 != bX (bO h p))=false:=by simp only [bne_eq_false_iff_eq];exact a2
          have t8:((cE h p).take (8:Int).toNat).drop (3:Int).toNat=((cE h p).drop 3).take 5:=by
            rw [show(8:Int).toNat=8 from rfl,show(3:Int).toNat=3 from rfl,List.drop_take]
          simp only [n0,n1,n2,Bool.false_eq_true,if_false,eS,t8]
          rw [bE (by omega),FL (by simp [maxLen];omega)]
          by_cases h4:∀x∈((cE h p).drop 3).take 5,x=0
          · simp only [decide_eq_true h4,Option.bind_some,Bool.not_true,Bool.false_eq_true,if_false,qH]
            have key2:loop (j7 h (p:Int) (bO h p) (bX (bO h p))) 0=some (if ∀i,i < (bX (bO h p)).toNat→1≤ld h.Bytes (p * 64+8+i * (aY (bO h p)).toNat) 4∧ld h.Bytes (p * 64+8+i * (aY (bO h p)).toNat) 4≤7 then Out.brk () else Out.ret false):=by
              have hle:=jG (bO h p)
              have hst:∀k:Nat,k < (bX (bO h p)).toNat→j7 h (p:Int) (bO h p) (bX (bO h p)) (k:Int)=if 1≤ld h.Bytes (p * 64+8+k * (aY (bO h p)).toNat) 4∧ld h.Bytes (p * 64+8+k * (aY (bO h p)).toNat) 4≤7 then some (.next ((k+1:Nat):Int)) else some (.stop (Out.ret false)):=by
                intro k hk
                have hz:=rG hs hp rfl hk
                have e5:a8 (8+a8 ((k:Int) * aY (bO h p)))=((8+k * (aY (bO h p)).toNat:Nat):Int):=by
                  rw [aR (x:=(k:Int) * aY (bO h p)) (by omega) (by omega),aR (by omega) (by omega)];omega
                have l1:=D4 (aAF hs hp) (a:=8+k * (aY (bO h p)).toNat) (w:=4) (by omega) (by omega) (by omega)
                rw [show((4:Nat):Int)=4 from rfl,aF8 hs hp (by omega)] at l1
                simp only [j7,B7,Option.bind_some,e0,e1,Int.toNat_natCast,aG0 hs hp,e5]
                rw [if_pos (by simp;omega),l1,Nat.add_assoc,aR (x:=(k:Int)+1) (by omega) (by omega)]
                simp only [Option.bind_some,dS]
                by_cases q:1≤ld h.Bytes (p * 64+(8+k * (aY (bO h p)).toNat)) 4∧ld h.Bytes (p * 64+(8+k * (aY (bO h p)).toNat)) 4≤7
                · rw [if_pos q,decide_eq_true q];rfl
                · rw [if_neg q,decide_eq_false q];rfl
              refine nL (f:=j7 h (p:Int) (bO h p) (bX (bO h p))) (bX (bO h p)).toNat (fun k=>(k:Int)) (fun i=>1≤ld h.Bytes (p * 64+8+i * (aY (bO h p)).toNat) 4∧ld h.Bytes (p * 64+8+i * (aY (bO h p)).toNat) 4≤7) _ _ (fun k hk hx=>?_) (fun k hk hx=>?_) ?_
              · rw [hst k hk,if_pos hx]
              · rw [hst k hk,if_neg hx]
              · simp only [j7]
                rw [if_neg (by simp;omega)]
            rw [key2]
            by_cases h5:∀i,i < (bX (bO h p)).toNat→1≤ld h.Bytes (p * 64+8+i * (aY (bO h p)).toNat) 4∧ld h.Bytes (p * 64+8+i * (aY (bO h p)).toNat) 4≤7
            · rw [if_pos h5,decide_eq_true (hP.2 ⟨⟨a0,a1,a2⟩,h4,h5⟩)];rfl
            · rw [if_neg h5,decide_eq_false (fun q=>h5 (hP.1 q).2.2)];rfl
          · simp only [decide_eq_false h4,Option.bind_some,Bool.not_false,if_true]
            rw [decide_eq_false (fun q=>h4 (hP.1 q).2.1)]
        · have n0:((cE h p).getD 0 0 != 171)=false:=by simp only [bne_eq_false_iff_eq];exact a0
          have n1:((cE h p).getD 1 0 != bO h p)=false:=by simp only [bne_eq_false_iff_eq];exact a1
          have n2:((cE h p).getD 2 0 != bX (bO h p))=true:=by simp only [bne_iff_ne];exact a2
          simp only [n0,n1,n2,Bool.false_eq_true,if_false,eS,if_true]
          rw [decide_eq_false (fun q=>a2 (hP.1 q).1.2.2)]
      · have n0:((cE h p).getD 0 0 != 171)=false:=by simp only [bne_eq_false_iff_eq];exact a0
        have n1:((cE h p).getD 1 0 != bO h p)=true:=by simp only [bne_iff_ne];exact a1
        simp only [n0,n1,Bool.false_eq_true,if_false,eS,if_true]
        rw [decide_eq_false (fun q=>a1 (hP.1 q).1.2.1)]
    · have n0:((cE h p).getD 0 0 != 171)=true:=by simp only [bne_iff_ne];exact a0
      simp only [n0,Bool.false_eq_true,if_false,eS,if_true]
      rw [decide_eq_false (fun q=>a0 (hP.1 q).1.1)]
end
instance (h:aC):Decidable (∀p,p < 6→iK h p):=Nat.decidableBallLT 6 fun p _=>iK h p
def QT(h:aC):Prop:=dV h∧∀p,p < 6→iK h p
instance (h:aC):Decidable (QT h):=by unfold QT;infer_instance
theorem QU{h:aC}(hl:h.Bytes.length≤maxLen):z8 h=some (decide (QT h)):=by
  unfold z8
  rw [M3 hl]
  by_cases hs:dV h
  · have key:loop (mV h) 0=some (if ∀p,p < 6→iK h p then Out.brk () else Out.ret false):=by
      refine nL (f:=mV h) 6 (fun k=>(k:Int)) (fun p=>iK h p) _ _ (fun k hk hx=>?_) (fun k hk hx=>?_) ?_
      · simp only [mV]
        rw [if_pos (by simp;omega),FK hs hk,aR (by omega) (by omega),decide_eq_true hx];rfl
      · simp only [mV]
        rw [if_pos (by simp;omega),FK hs hk,decide_eq_false hx];rfl
      · rfl
    simp only [Option.bind_some,decide_eq_true hs,Bool.not_true,Bool.false_eq_true,if_false]
    rw [key]
    by_cases h4:∀p,p < 6→iK h p
    · rw [if_pos h4,decide_eq_true (show QT h from ⟨hs,h4⟩)];rfl
    · rw [if_neg h4,decide_eq_false (fun q:QT h=>h4 q.2)];rfl
  · rw [decide_eq_false (fun q:QT h=>hs q.1),decide_eq_false hs];rfl
theorem zD{h:aC}(hl:h.Bytes.length≤maxLen):v8 h=some (decide (QT h)):=by
  unfold v8
  rw [zB hl]
  by_cases hs:dV h
  · have key:loop (m6 h) 0=some (if ∀p,p < 6→iK h p then Out.brk () else Out.ret false):=by
      refine nL (f:=m6 h) 6 (fun k=>(k:Int)) (fun p=>iK h p) _ _ (fun k hk hx=>?_) (fun k hk hx=>?_) ?_
      · simp only [m6]
        rw [if_pos (by simp;omega),FM hs hk,aR (by omega) (by omega),decide_eq_true hx];rfl
      · simp only [m6]
        rw [if_pos (by simp;omega),FM hs hk,decide_eq_false hx];rfl
      · rfl
    simp only [Option.bind_some,decide_eq_true hs,Bool.not_true,Bool.false_eq_true,if_false]
    rw [key]
    by_cases h4:∀p,p < 6→iK h p
    · rw [if_pos h4,decide_eq_true (show QT h from ⟨hs,h4⟩)];rfl
    · rw [if_neg h4,decide_eq_false (fun q:QT h=>h4 q.2)];rfl
  · rw [decide_eq_false (fun q:QT h=>hs q.1),decide_eq_false hs];rfl
def cG(h:aC)(s:Int):Int:=if (0≤s∧s≤23)∧s % 4 < bX (bO h (s / 4).toNat) then bO h (s / 4).toNat else -1
theorem GI{h:aC}{s:Int}(hc:0≤cG h s):(0≤s∧s≤23)∧s % 4 < bX (bO h (s / 4).toNat)∧cG h s=bO h (s / 4).toNat:=by
  unfold cG at hc ⊢
  split at hc
  · rename_i h1;exact⟨h1.1,h1.2,by rw [if_pos h1]⟩
  · omega
theorem qI{h:aC}(hs:dV h)(s:Int):kQ h s=some (cG h s):=by
  unfold kQ lJ cG
  rw [FH,D3]
  by_cases h1:0≤s∧s≤23
  · obtain⟨k,rfl⟩:=Int.eq_ofNat_of_zero_le h1.1
    have hk:k / 4 < 6:=by omega
    have e1:((k:Int) / 4)=((k / 4:Nat):Int):=by omega
    have hi:=NS hs hk
    have n1:¬((k / 4:Nat):Int) < 0:=by omega
    simp only [h1,and_self,if_true,Option.bind_some,e1,n1,decide_false,Bool.false_eq_true,if_false,hi,Int.toNat_natCast,true_and]
    by_cases h2:bO h (k / 4) < 0
    · have h3:bX (bO h (k / 4))=0:=UZ (by omega)
      have h4:¬(k:Int) % 4 < 0:=by omega
      simp [h2,h3,h4]
    · by_cases h3:(k:Int) % 4 < bX (bO h (k / 4))
      · have h4:¬bX (bO h (k / 4))≤(k:Int) % 4:=by omega
        simp [h2,h3,h4,eG]
      · have h4:bX (bO h (k / 4))≤(k:Int) % 4:=by omega
        simp [h2,h3,h4,eG]
  · simp [h1]
theorem lV{h:aC}(hs:dV h)(s:Int):kW h s=some (cG h s):=by
  unfold kW p5 cG
  rw [nM]
  by_cases h1:0≤s∧s≤23
  · obtain⟨k,rfl⟩:=Int.eq_ofNat_of_zero_le h1.1
    have hk:k / 4 < 6:=by omega
    have e1:((k:Int) / 4)=((k / 4:Nat):Int):=by omega
    have hi:=NS hs hk
    have e2:a8 (Int.tdiv (k:Int) 4)=((k / 4:Nat):Int):=by rw [y8 (by omega),aR (by omega) (by omega)];omega
    simp only [h1,and_self,decide_true,Bool.not_true,Bool.false_eq_true,if_true,Option.bind_some,e1,e2,if_false,hi,Int.toNat_natCast,true_and,vL]
    by_cases h3:(k:Int) % 4 < bX (bO h (k / 4))
    · have hm:=zA (c:=bO h (k / 4)) (by omega) h3
      have hg:¬mN (k:Int) (bO h (k / 4)) < 0:=by
        unfold mN;rw [if_pos ⟨h1,h3⟩];omega
      simp [h3,hg]
    · have hg:mN (k:Int) (bO h (k / 4)) < 0:=by
        unfold mN;rw [if_neg (fun q=>h3 q.2)];omega
      simp [h3,hg]
  · simp [h1]
def lE(h:aC)(s:Int):Int:=ld h.Bytes (mN s (cG h s)).toNat 4
theorem U1{h:aC}{s:Int}(hc:0≤cG h s):0≤mN s (cG h s)∧mN s (cG h s)+4≤384:=by
  obtain⟨h1,h2,h3⟩:=GI hc
  rw [h3]
  have hm:=zA (c:=bO h (s / 4).toNat) (by omega) h2
  have hst:0 < aY (bO h (s / 4).toNat):=by
    have:0≤bO h (s / 4).toNat∧bO h (s / 4).toNat≤2:=pL.1 (by omega)
    rcases i6 this with e | e | e <;> rw [e] <;> decide
  have:4≤aY (bO h (s / 4).toNat):=by
    have:0≤bO h (s / 4).toNat∧bO h (s / 4).toNat≤2:=pL.1 (by omega)
    rcases i6 this with e | e | e <;> rw [e] <;> decide
  unfold mN;rw [if_pos ⟨h1,h2⟩];omega
theorem pM{h:aC}(hs:dV h){s:Int}(hc:0≤cG h s):mW h s=some (lE h s):=by
  have hg:=U1 hc
  unfold mW
  rw [qI hs]
  simp only [Option.bind_some,vK]
  have l1:=FI hs.2.2.1 (a:=(mN s (cG h s)).toNat) (w:=4) (by omega) (by have:=hs.1;omega) (by have:=hs.1;omega)
  rw [show((4:Nat):Int)=4 from rfl,Int.toNat_of_nonneg hg.1] at l1
  rw [l1];rfl
theorem vM{h:aC}(hs:dV h){s:Int}(hc:0≤cG h s):qS h s=some (lE h s):=by
  have hg:=U1 hc
  have hm:h.Bytes.length≤maxLen:=by rw [hs.1];simp [maxLen]
  unfold qS sC
  rw [zB hm,lV hs]
  have l1:=D4 hs.2.2.1 (a:=(mN s (cG h s)).toNat) (w:=4) (by omega) (by have:=hs.1;omega) (by have:=hs.1;omega)
  rw [show((4:Nat):Int)=4 from rfl,Int.toNat_of_nonneg hg.1] at l1
  have n1:¬cG h s < 0:=by omega
  simp [hs,n1,vL,l1,lE]
end Go.Gv
end
noncomputable section
set_option linter.unusedVariables false
set_option linter.unusedSimpArgs false
set_option linter.unusedSectionVars false
namespace Go.Gv
def bB(l:List aE):List Int:=l.flatMap aE.aK
def cR(l:aA):List Int:=bB l.Global++bB l.aV
def RB(l:aA):Prop:=l.Global.length=3∧l.aV.length=9∧(∀s∈l.aV,s.aK.length≤2)∧(∀x∈cR l,0≤x∧x≤23)∧(cR l).Nodup
instance (l:aA):Decidable (RB l):=by unfold RB;infer_instance
theorem rH{l:List aE}{k:Nat}(h:k < l.length):bB (l.take (k+1))=bB (l.take k)++l[k].aK:=by
  unfold bB
  rw [List.take_succ_eq_append_getElem h,List.flatMap_append];simp
theorem JR(l:List aE)(k:Nat):(bB (l.take k)).length≤(bB l).length:=by
  have:bB l=bB (l.take k)++bB (l.drop k):=by
    unfold bB;rw [←List.flatMap_append,List.take_append_drop]
  rw [this];simp
theorem zE(l:List aE){k:Nat}(h:k < l.length):l[k].aK.length≤(bB l).length:=by
  have h1:=JR l (k+1)
  rw [rH h] at h1
  simp at h1;omega
theorem HF{l:aA}(h:(cR l).length≤1073741824)(hg:l.Global.length≤maxLen)(ho:l.aV.length≤maxLen):yN l=some (cR l):=by
  have hsum:(bB l.Global).length+(bB l.aV).length≤1073741824:=by simpa [cR] using h
  unfold yN
  have k1:loop (oZ l) ([],0)=some (bB l.Global):=by
    refine dX (f:=oZ l) l.Global.length (fun k=>(bB (l.Global.take k),(k:Int))) _ (fun k hk=>?_) ?_
    · have h1:=JR l.Global (k+1)
      rw [rH hk] at h1
      simp only [oZ]
      rw [if_pos (by simp;omega),aQ hk]
      simp only [Option.bind_some]
      rw [bE (by simp at h1;omega),rH hk,dP (iC hk hg)]
    · simp [oZ]
  rw [k1]
  simp only [Option.bind_some,GU,GS]
  have k2:loop (oY l) (bB l.Global,0)=some (cR l):=by
    have:=dX (f:=oY l) l.aV.length (fun k=>(bB l.Global++bB (l.aV.take k),(k:Int))) (cR l) (fun k hk=>?_) ?_
    · simpa [bB] using this
    · have h1:=JR l.aV (k+1)
      rw [rH hk] at h1
      simp only [oY]
      rw [if_pos (by simp;omega),aQ hk]
      simp only [Option.bind_some]
      rw [bE (by simp at h1 ⊢;omega),rH hk,dP (iC hk ho),List.append_assoc]
    · simp [oY,cR]
  rw [k2];rfl
theorem BG{l:List Int}(hl:l.length≤maxLen)(x:Int):tW l x=some (decide (x∈l)):=by
  unfold tW
  have key:loop (lW l x) 0=some (if ∀y∈l,y≠x then Out.brk () else Out.ret true):=by
    refine kL (f:=lW l x) l (fun k=>(k:Int)) (fun y=>y≠x) _ _ (fun k h hp=>?_) (fun k h hp=>?_) ?_
    · simp only [lW]
      rw [if_pos (by simp;omega),aQ h,dP (iC h hl)]
      have:(l[k] == x)=false:=by simpa using hp
      simp only [Option.bind_some,this,Bool.false_eq_true,if_false]
    · simp only [lW]
      rw [if_pos (by simp;omega),aQ h]
      have:(l[k] == x)=true:=by simpa using hp
      simp only [Option.bind_some,this,if_true]
    · simp [lW]
  rw [key]
  by_cases h:x∈l
  · rw [if_neg (fun q=>q x h rfl),decide_eq_true h];rfl
  · rw [if_pos (fun y hy (e:y=x)=>h (e ▸ hy)),decide_eq_false h];rfl
theorem DB(l:List Int):l.Nodup↔∀k (h:k < l.length),l[k]∉l.take k:=by
  unfold List.Nodup
  rw [List.pairwise_iff_getElem]
  constructor
  · intro h k hk hm
    obtain⟨i,hi,he⟩:=List.mem_take_iff_getElem.1 hm
    exact h i k (by omega) hk (by omega) he
  · intro h i j hi hj hij he
    exact h j hj (List.mem_take_iff_getElem.2 ⟨i,by omega,he⟩)
theorem M4{l:aA}(h:(cR l).length≤1073741824):xF l=some (decide (RB l)):=by
  unfold xF pS
  by_cases hg:l.Global.length=3
  · by_cases ho:l.aV.length=9
    · have n1:((l.Global.length:Int) != 3)=false:=by simp;omega
      have n2:((l.aV.length:Int) != 9)=false:=by simp;omega
      simp only [n1,n2,Bool.false_eq_true,if_false]
      have k1:loop (iY l) 0=some (if ∀s∈l.aV,s.aK.length≤2 then Out.brk () else Out.ret false):=by
        refine kL (f:=iY l) l.aV (fun k=>(k:Int)) (fun s=>s.aK.length≤2) _ _ (fun k hk hp=>?_) (fun k hk hp=>?_) ?_
        · simp only [iY]
          rw [if_pos (by simp;omega),aQ hk,aR (by omega) (by omega)]
          simp only [Option.bind_some]
          rw [if_neg (by simp;omega)];rfl
        · simp only [iY]
          rw [if_pos (by simp;omega),aQ hk]
          simp only [Option.bind_some]
          rw [if_pos (by simp;omega)]
        · simp [iY]
      rw [k1]
      by_cases h2:∀s∈l.aV,s.aK.length≤2
      · rw [if_pos h2]
        simp only [Option.bind_some,DK,DJ]
        rw [HF h (by rw [hg];simp [maxLen]) (by rw [ho];simp [maxLen])]
        simp only [Option.bind_some]
        have k2:loop (iX (cR l)) 0=some (if ∀k,k < (cR l).length→(0≤(cR l).getD k 0∧(cR l).getD k 0≤23)∧(cR l).getD k 0∉(cR l).take k then Out.brk () else Out.ret false):=by
          have hst:∀k,k < (cR l).length→iX (cR l) (k:Int)=if (0≤(cR l).getD k 0∧(cR l).getD k 0≤23)∧(cR l).getD k 0∉(cR l).take k then some (.next ((k+1:Nat):Int)) else some (.stop (Out.ret false)):=by
            intro k hk
            have e:(cR l).getD k 0=(cR l)[k]:=by rw [List.getD_eq_getElem?_getD,List.getElem?_eq_getElem hk];rfl
            rw [e]
            simp only [iX]
            rw [if_pos (by simp;omega),aQ hk]
            simp only [Option.bind_some,cV,pR]
            by_cases q:0≤(cR l)[k]∧(cR l)[k]≤23
            · rw [decide_eq_true q]
              simp only [Bool.not_true,Bool.false_eq_true,if_false,Int.toNat_natCast,List.drop_zero]
              rw [bE (by omega),BG (by simp [maxLen];omega),aR (by omega) (by omega)]
              by_cases q2:(cR l)[k]∈(cR l).take k
              · rw [if_neg (fun x=>x.2 q2),decide_eq_true q2];rfl
              · rw [if_pos ⟨q,q2⟩,decide_eq_false q2];rfl
            · rw [decide_eq_false q];simp only [Bool.not_false,if_true];rw [if_neg (fun x=>q x.1)]
          refine nL (f:=iX (cR l)) (cR l).length (fun k=>(k:Int)) (fun k=>(0≤(cR l).getD k 0∧(cR l).getD k 0≤23)∧(cR l).getD k 0∉(cR l).take k) _ _ (fun k hk hx=>?_) (fun k hk hx=>?_) ?_
          · rw [hst k hk,if_pos hx]
          · rw [hst k hk,if_neg hx]
          · simp [iX]
        rw [k2]
        have hiff:RB l↔∀k,k < (cR l).length→(0≤(cR l).getD k 0∧(cR l).getD k 0≤23)∧(cR l).getD k 0∉(cR l).take k:=by
          have e:∀k (hk:k < (cR l).length),(cR l).getD k 0=(cR l)[k]:=fun k hk=>by rw [List.getD_eq_getElem?_getD,List.getElem?_eq_getElem hk];rfl
          constructor
          · rintro⟨_,_,_,q1,q2⟩ k hk
            rw [e k hk]
            exact⟨q1 _ (List.getElem_mem hk),(DB _).1 q2 k hk⟩
          · intro q
            refine⟨hg,ho,h2,fun x hx=>?_,(DB _).2 fun k hk=>?_⟩
            · obtain⟨k,hk,rfl⟩:=List.mem_iff_getElem.1 hx
              have:=(q k hk).1;rw [e k hk] at this;exact this
            · have:=(q k hk).2;rw [e k hk] at this;exact this
        by_cases q:RB l
        · rw [if_pos (hiff.1 q),decide_eq_true q];rfl
        · rw [if_neg (fun x=>q (hiff.2 x)),decide_eq_false q];rfl
      · rw [if_neg h2,decide_eq_false (fun q:RB l=>h2 q.2.2.1)];rfl
    · have n1:((l.Global.length:Int) != 3)=false:=by simp;omega
      have n2:((l.aV.length:Int) != 9)=true:=by simp;omega
      simp only [n1,n2,Bool.false_eq_true,if_false,if_true]
      rw [decide_eq_false (fun q:RB l=>ho q.2.1)]
  · have n1:((l.Global.length:Int) != 3)=true:=by simp;omega
    simp only [n1,if_true]
    rw [decide_eq_false (fun q:RB l=>hg q.1)]
def pN:List Bool→List Int→Option (List Bool)
  | met,[]=>some met
  | met,x :: r=>if (0≤x∧x≤23)∧met.getD x.toNat true=false then pN (met.set x.toNat true) r else none
theorem TH:∀{xs:List Int} {met m:List Bool},pN met xs=some m→m.length=met.length
  | [],met,m,h=>by simp [pN] at h;rw [h]
  | x :: r, met, m, h => by
    simp only [pN] at h
    split at h
    · have:=TH h;simpa using this
    · cases h
theorem JS:∀(a b:List Int) (met:List Bool),pN met (a++b)=(pN met a).bind fun m=>pN m b
  | [],b,met=>rfl
  | x :: r, b, met => by
    simp only [List.cons_append,pN]
    split
    · exact JS r b _
    · rfl
theorem IE:∀(xs:List Int) (met:List Bool),met.length=24→((pN met xs).isSome=true↔(∀x∈xs,0≤x∧x≤23)∧xs.Nodup∧∀x∈xs,met.getD x.toNat true=false)
  | [],met,hm=>by simp [pN]
  | x :: r, met, hm => by
    simp only [pN]
    by_cases h:(0≤x∧x≤23)∧met.getD x.toNat true=false
    · rw [if_pos h,IE r _ (by simpa using hm)]
      have hset:∀y,0≤y∧y≤23→(((met.set x.toNat true).getD y.toNat true=false)↔(y≠x∧met.getD y.toNat true=false)):=by
        intro y hy
        rw [List.getD_eq_getElem?_getD,List.getD_eq_getElem?_getD]
        by_cases e:y=x
        · subst e;rw [List.getElem?_set_self (by omega)];simp
        · rw [List.getElem?_set_ne (by omega)];simp [e]
      constructor
      · rintro⟨q1,q2,q3⟩
        refine⟨fun y hy=>?_,List.nodup_cons.2 ⟨fun hx=>?_,q2⟩,fun y hy=>?_⟩
        · rcases List.mem_cons.1 hy with rfl | hy
          · exact h.1
          · exact q1 y hy
        · exact((hset x h.1).1 (q3 x hx)).1 rfl
        · rcases List.mem_cons.1 hy with rfl | hy
          · exact h.2
          · exact((hset y (q1 y hy)).1 (q3 y hy)).2
      · rintro⟨q1,q2,q3⟩
        have q2:=List.nodup_cons.1 q2
        refine⟨fun y hy=>q1 y (List.mem_cons_of_mem _ hy),q2.2,fun y hy=>(hset y (q1 y (List.mem_cons_of_mem _ hy))).2 ⟨fun e=>q2.1 (e ▸ hy),q3 y (List.mem_cons_of_mem _ hy)⟩⟩
    · rw [if_neg h]
      constructor
      · intro q;cases q
      · rintro⟨q1,q2,q3⟩
        exact(h ⟨q1 x List.mem_cons_self,q3 x List.mem_cons_self⟩).elim
def U2:Option (List Bool)→Out (List Bool) Bool
  | some m=>.brk m
  | none=>.ret false
theorem aJN{s:aE}(hl:s.aK.length≤maxLen):∀d k (met:List Bool),k+d=s.aK.length→met.length=24→loop (gK s) ((k:Int),met)=some (U2 (pN met (s.aK.drop k))):=by
  intro d
  induction d with
  | zero =>
    intro k met hk hm
    rw [bP (r:=Out.brk met) (by simp [gK];omega),List.drop_eq_nil_of_le (by omega)];rfl
  | succ d ih =>
    intro k met hk hm
    have hk':k < s.aK.length:=by omega
    have hd:s.aK.drop k=s.aK[k] :: s.aK.drop (k+1):=List.drop_eq_getElem_cons hk'
    have hst:gK s ((k:Int),met)=if (0≤s.aK[k]∧s.aK[k]≤23)∧met.getD s.aK[k].toNat true=false then some (.next (((k+1:Nat):Int),met.set s.aK[k].toNat true)) else some (.stop (Out.ret false)):=by
      simp only [gK]
      rw [if_pos (by simp;omega),aQ hk']
      simp only [Option.bind_some,nM]
      generalize s.aK[k]=x
      by_cases q:0≤x∧x≤23
      · obtain⟨j,rfl⟩:=Int.eq_ofNat_of_zero_le q.1
        have hj:j < met.length:=by omega
        have e:met.getD j true=met[j]:=by rw [List.getD_eq_getElem?_getD,List.getElem?_eq_getElem hj];rfl
        simp only [q,and_self,decide_true,Bool.not_true,Bool.false_eq_true,if_false,i4,Int.toNat_natCast,true_and,e]
        rw [bE (by omega),aQ hj]
        simp only [Option.bind_some]
        cases met[j]
        · simp only [Bool.false_eq_true,if_false,if_true]
          rw [bE (by omega),dP (iC hk' hl)]
        · simp
      · rw [decide_eq_false q];simp only [Bool.not_false,if_true,i4];rw [if_neg (fun x=>q x.1)]
    rw [hd,pN]
    by_cases q:(0≤s.aK[k]∧s.aK[k]≤23)∧met.getD s.aK[k].toNat true=false
    · rw [if_pos q] at hst ⊢
      rw [bW hst,ih (k+1) _ (by omega) (by simpa using hm)]
    · rw [if_neg q] at hst ⊢
      rw [bP hst];rfl
def LH(l:List aE):Prop:=∀s∈l,s.aK.length≤2
instance (l:List aE):Decidable (LH l):=by unfold LH;infer_instance
theorem aJO{l:aA}(ho:l.aV.length=9)(hn:(l.aV++l.Global).length≤1000)(hs:∀s∈l.aV++l.Global,s.aK.length≤maxLen):∀d k (met:List Bool),k+d=(l.aV++l.Global).length→met.length=24 →
    loop (gM l) ((k:Int),met)=some (if LH (((l.aV++l.Global).drop k).take (9 - k))∧(pN met (bB ((l.aV++l.Global).drop k))).isSome=true then Out.brk () else Out.ret false):=by
  intro d
  induction d with
  | zero =>
    intro k met hk hm
    rw [List.drop_eq_nil_of_le (by omega),if_pos ⟨by simp [LH],rfl⟩]
    refine bP ?_
    simp only [gM]
    rw [if_neg (by simp;simp at hk;omega)]
  | succ d ih =>
    intro k met hk hm
    have hk':k < (l.aV++l.Global).length:=by omega
    have hd:(l.aV++l.Global).drop k=(l.aV++l.Global)[k] :: (l.aV++l.Global).drop (k+1):=List.drop_eq_getElem_cons hk'
    have hsk:=hs _ (List.getElem_mem hk')
    have hf:bB ((l.aV++l.Global).drop k)=(l.aV++l.Global)[k].aK++bB ((l.aV++l.Global).drop (k+1)):=by unfold bB;rw [hd,List.flatMap_cons]
    have hin:∀b:Bool,gL (k:Int) met (l.aV++l.Global)[k] b=if b then some (.stop (Out.ret false)) else (match pN met (l.aV++l.Global)[k].aK with | some m=>some (.next (((k+1:Nat):Int),m)) | none=>some (.stop (Out.ret false))):=by
      intro b
      have h4:=aJN hsk _ 0 met (Nat.zero_add _) hm
      rw [show((0:Nat):Int)=0 from rfl,List.drop_zero] at h4
      unfold gL
      rw [h4]
      cases b
      · simp only [Bool.false_eq_true,if_false,Option.bind_some]
        cases pN met (l.aV++l.Global)[k].aK with
        | none=>rfl
        | some m=>simp only [U2,DO,pZ];rw [aR (by omega) (by omega)];rfl
      · rfl
    have hst:gM l ((k:Int),met)=gL (k:Int) met (l.aV++l.Global)[k] (decide (k < 9∧2 < (l.aV++l.Global)[k].aK.length)):=by
      simp only [gM]
      rw [if_pos (by simp;simp at hk';omega),aQ hk']
      simp only [Option.bind_some]
      by_cases h9:k < 9
      · rw [if_pos (by simp;omega)]
        congr 1
        rw [Bool.eq_iff_iff];simp only [decide_eq_true_eq];omega
      · rw [if_neg (by simp;omega),decide_eq_false (by omega)]
    rw [hin] at hst
    by_cases h2:k < 9∧2 < (l.aV++l.Global)[k].aK.length
    · rw [decide_eq_true h2] at hst
      simp only [if_true] at hst
      rw [bP hst,if_neg]
      rintro⟨q,_⟩
      have e:9 - k=(9 - (k+1))+1:=by omega
      rw [hd,e,List.take_succ_cons] at q
      have:=q _ List.mem_cons_self
      omega
    · rw [decide_eq_false h2] at hst
      simp only [Bool.false_eq_true,if_false] at hst
      have hcond:LH (((l.aV++l.Global).drop k).take (9 - k))↔LH (((l.aV++l.Global).drop (k+1)).take (9 - (k+1))):=by
        unfold LH
        by_cases h9:k < 9
        · have e:9 - k=(9 - (k+1))+1:=by omega
          rw [hd,e,List.take_succ_cons,List.forall_mem_cons]
          exact⟨fun q=>q.2,fun q=>⟨by omega,q⟩⟩
        · have e:9 - k=0:=by omega
          have e':9 - (k+1)=0:=by omega
          rw [e,e'];simp
      rw [hf,JS]
      cases hg:pN met (l.aV++l.Global)[k].aK with
      | none =>
        rw [hg] at hst
        rw [bP hst,if_neg (by simp)]
      | some m =>
        rw [hg] at hst
        rw [bW hst,ih (k+1) m (by omega) (by rw [TH hg];exact hm)]
        simp only [Option.bind_some,hcond]
theorem D5{l:aA}(h:(cR l).length≤1073741824):fT l=some (decide (RB l)):=by
  unfold fT lQ
  by_cases hg:l.Global.length=3
  · by_cases ho:l.aV.length=9
    · have n1:((l.Global.length:Int) != 3)=false:=by simp;omega
      have n2:((l.aV.length:Int) != 9)=false:=by simp;omega
      simp only [n1,n2,Bool.false_eq_true,if_false]
      rw [bE (by omega)]
      have hsl:∀s∈l.aV++l.Global,s.aK.length≤maxLen:=by
        intro s hm
        have hsum:(bB l.Global).length+(bB l.aV).length≤1073741824:=by simpa [cR] using h
        have hb:(1073741824:Nat)≤maxLen:=by simp [maxLen]
        rcases List.mem_append.1 hm with hm | hm
        · obtain⟨k,hk,rfl⟩:=List.mem_iff_getElem.1 hm
          have:=zE l.aV hk;omega
        · obtain⟨k,hk,rfl⟩:=List.mem_iff_getElem.1 hm
          have:=zE l.Global hk;omega
      have key:=aJO ho (by simp;omega) hsl (l.aV++l.Global).length 0 [false,false,false,false,false,false,false,false,false,false,false,false,false,false,false,false,false,false,false,false,false,false,false,false] (by omega) rfl
      rw [show((0:Nat):Int)=0 from rfl,List.drop_zero,Nat.sub_zero] at key
      rw [key]
      have et:(l.aV++l.Global).take 9=l.aV:=by rw [←ho];simp
      have ef:bB (l.aV++l.Global)=bB l.aV++bB l.Global:=by simp [bB]
      have hm0:∀j:Nat,j < 24→[false,false,false,false,false,false,false,false,false,false,false,false,false,false,false,false,false,false,false,false,false,false,false,false].getD j true=false:=by decide
      have hiff:RB l↔LH ((l.aV++l.Global).take 9)∧(pN [false,false,false,false,false,false,false,false,false,false,false,false,false,false,false,false,false,false,false,false,false,false,false,false] (bB (l.aV++l.Global))).isSome=true:=by
        rw [IE _ _ rfl,et,ef]
        have hp:(bB l.aV++bB l.Global).Perm (cR l):=List.perm_append_comm
        constructor
        · rintro⟨_,_,q1,q2,q3⟩
          exact⟨q1,fun x hx=>q2 x (hp.mem_iff.1 hx),hp.nodup_iff.2 q3,fun x hx=>hm0 _ (by have:=q2 x (hp.mem_iff.1 hx);omega)⟩
        · rintro⟨q1,q2,q3,_⟩
          exact⟨hg,ho,q1,fun x hx=>q2 x (hp.mem_iff.2 hx),hp.nodup_iff.1 q3⟩
      by_cases q:RB l
      · rw [if_pos (hiff.1 q),decide_eq_true q];rfl
      · rw [if_neg (fun x=>q (hiff.2 x)),decide_eq_false q];rfl
    · have n1:((l.Global.length:Int) != 3)=false:=by simp;omega
      have n2:((l.aV.length:Int) != 9)=true:=by simp;omega
      simp only [n1,n2,Bool.false_eq_true,if_false,if_true]
      rw [decide_eq_false (fun q:RB l=>ho q.2.1)]
  · have n1:((l.Global.length:Int) != 3)=true:=by simp;omega
    simp only [n1,if_true]
    rw [decide_eq_false (fun q:RB l=>hg q.1)]
end Go.Gv
end
noncomputable section
set_option linter.unusedVariables false
set_option linter.unusedSimpArgs false
set_option linter.unusedSectionVars false
namespace Go.Gv
def tE(h:aC)(l:List Int)(c:Int):Prop:=∀x∈l,cG h x=c∧lE h x≤6
instance (h:aC) (l:List Int) (c:Int):Decidable (tE h l c):=by unfold tE;infer_instance
theorem B8{h:aC}(hs:dV h){l:List Int}(hl:l.length≤maxLen){c:Int}(hc:0≤c):o4 h l c=some (decide (tE h l c)):=by
  unfold o4
  have key:loop (hC h l c) 0=some (if ∀x∈l,cG h x=c∧lE h x≤6 then Out.brk () else Out.ret false):=by
    have hst:∀k (hk:k < l.length),hC h l c (k:Int)=if cG h l[k]=c∧lE h l[k]≤6 then some (.next ((k+1:Nat):Int)) else some (.stop (Out.ret false)):=by
      intro k hk
      simp only [hC]
      rw [if_pos (by simp;omega),aQ hk]
      generalize l[k]=x
      simp only [Option.bind_some,qI hs,nU]
      by_cases q:cG h x=c
      · have n1:(cG h x != c)=false:=by simp only [bne_eq_false_iff_eq];exact q
        simp only [n1,Bool.false_eq_true,if_false,pM hs (show 0≤cG h x by omega),Option.bind_some,dP (iC hk hl)]
        by_cases q2:lE h x≤6
        · rw [if_neg (by simp;omega),if_pos ⟨q,q2⟩]
        · rw [if_pos (by simp;omega),if_neg (fun x=>q2 x.2)]
      · have n1:(cG h x != c)=true:=by simp only [bne_iff_ne];exact q
        simp only [n1,if_true]
        rw [if_neg (fun x=>q x.1)]
    refine kL (f:=hC h l c) l (fun k=>(k:Int)) (fun x=>cG h x=c∧lE h x≤6) _ _ (fun k hk hp=>?_) (fun k hk hp=>?_) ?_
    · rw [hst k hk,if_pos hp]
    · rw [hst k hk,if_neg hp]
    · simp [hC]
  rw [key]
  by_cases q:∀x∈l,cG h x=c∧lE h x≤6
  · rw [if_pos q,decide_eq_true (show tE h l c from q)];rfl
  · rw [if_neg q,decide_eq_false (show ¬tE h l c from q)];rfl
theorem B9{h:aC}(hs:dV h){s:aE}(hl:s.aK.length≤maxLen){c:Int}(hc:0≤c):pC h s c=some (decide (tE h s.aK c)):=by
  unfold pC
  have key:loop (hO h s c) 0=some (if ∀x∈s.aK,cG h x=c∧lE h x≤6 then Out.brk () else Out.ret false):=by
    have hst:∀k (hk:k < s.aK.length),hO h s c (k:Int)=if cG h s.aK[k]=c∧lE h s.aK[k]≤6 then some (.next ((k+1:Nat):Int)) else some (.stop (Out.ret false)):=by
      intro k hk
      simp only [hO]
      rw [if_pos (by simp;omega),aQ hk]
      generalize s.aK[k]=x
      simp only [Option.bind_some,lV hs,oA]
      by_cases q:cG h x=c
      · have n1:(cG h x != c)=false:=by simp only [bne_eq_false_iff_eq];exact q
        simp only [n1,Bool.false_eq_true,if_false,vM hs (show 0≤cG h x by omega),Option.bind_some,dP (iC hk hl)]
        by_cases q2:lE h x≤6
        · rw [if_neg (by simp;omega),if_pos ⟨q,q2⟩]
        · rw [if_pos (by simp;omega),if_neg (fun x=>q2 x.2)]
      · have n1:(cG h x != c)=true:=by simp only [bne_iff_ne];exact q
        simp only [n1,if_true]
        rw [if_neg (fun x=>q x.1)]
    refine kL (f:=hO h s c) s.aK (fun k=>(k:Int)) (fun x=>cG h x=c∧lE h x≤6) _ _ (fun k hk hp=>?_) (fun k hk hp=>?_) ?_
    · rw [hst k hk,if_pos hp]
    · rw [hst k hk,if_neg hp]
    · simp [hO]
  rw [key]
  by_cases q:∀x∈s.aK,cG h x=c∧lE h x≤6
  · rw [if_pos q,decide_eq_true (show tE h s.aK c from q)];rfl
  · rw [if_neg q,decide_eq_false (show ¬tE h s.aK c from q)];rfl
def gH(l:List aE)(k:Nat):List Int:=(l.getD k ⟨[]⟩).aK
theorem dN{l:List aE}{k:Nat}(h:k < l.length):l[k].aK=gH l k:=by
  unfold gH;rw [List.getD_eq_getElem?_getD,List.getElem?_eq_getElem h];rfl
def zP(m:Mem)(k:Nat):Prop:=tE m.aC (gH m.aA.Global k) (k:Int)
def tF(m:Mem)(k:Nat):Prop:=tE m.aC (gH m.aA.aV k) ((k % 3:Nat):Int)
instance (m:Mem) (k:Nat):Decidable (zP m k):=by unfold zP;infer_instance
instance (m:Mem) (k:Nat):Decidable (tF m k):=by unfold tF;infer_instance
instance (m:Mem):Decidable (∀k,k < 3→zP m k):=Nat.decidableBallLT 3 fun k _=>zP m k
instance (m:Mem):Decidable (∀k,k < 9→tF m k):=Nat.decidableBallLT 9 fun k _=>tF m k
instance (m:Mem) (c:Nat):Decidable (∀w,w < 3→tF m (w * 3+c)):=Nat.decidableBallLT 3 fun w _=>tF m (w * 3+c)
instance (m:Mem):Decidable (∀k,k < 3→zP m k∧∀w,w < 3→tF m (w * 3+k)):=Nat.decidableBallLT 3 fun k _=>zP m k∧∀w,w < 3→tF m (w * 3+k)
def uD(m:Mem):Prop:=(QT m.aC∧RB m.aA)∧(∀k,k < 3→zP m k)∧∀k,k < 9→tF m k
instance (m:Mem):Decidable (uD m):=by unfold uD;infer_instance
theorem RB.HH{l:aA}(h:RB l)(hb:(cR l).length≤1073741824):(∀s∈l.Global,s.aK.length≤1073741824)∧∀s∈l.aV,s.aK.length≤1073741824:=by
  have hsum:(bB l.Global).length+(bB l.aV).length≤1073741824:=by simpa [cR] using hb
  constructor
  · intro s hm
    obtain⟨k,hk,rfl⟩:=List.mem_iff_getElem.1 hm
    have:=zE l.Global hk;omega
  · intro s hm
    obtain⟨k,hk,rfl⟩:=List.mem_iff_getElem.1 hm
    have:=zE l.aV hk;omega
theorem ZS{m:Mem}:(∀k,k < 3→zP m k∧∀w,w < 3→tF m (w * 3+k))↔(∀k,k < 3→zP m k)∧∀k,k < 9→tF m k:=by
  constructor
  · intro h
    refine⟨fun k hk=>(h k hk).1,fun k hk=>?_⟩
    have:=(h (k % 3) (by omega)).2 (k / 3) (by omega)
    have e:k / 3 * 3+k % 3=k:=by omega
    rwa [e] at this
  · rintro⟨h1,h2⟩ k hk
    exact⟨h1 k hk,fun w hw=>h2 _ (by omega)⟩
theorem SK{m:Mem}(hb:m.aC.Bytes.length≤maxLen)(hl:(cR m.aA).length≤1073741824):CI m=some (decide (uD m)):=by
  unfold CI uJ
  rw [QU hb,M4 hl]
  by_cases h1:QT m.aC
  · by_cases h2:RB m.aA
    · have hmx:(1073741824:Nat)≤maxLen:=by simp [maxLen]
      have hsl:=RB.HH h2 hl
      simp only [decide_eq_true h1,decide_eq_true h2,Option.bind_some,Bool.not_true,Bool.false_eq_true,if_false]
      have k3:∀c:Nat,c < 3→loop (o6 m (c:Int)) 0=some (if ∀w,w < 3→tF m (w * 3+c) then Out.brk () else Out.ret false):=by
        intro c hc
        have hst:∀w:Nat,w < 3→o6 m (c:Int) (w:Int)=if tF m (w * 3+c) then some (.next ((w+1:Nat):Int)) else some (.stop (Out.ret false)):=by
          intro w hw
          have hk:w * 3+c < m.aA.aV.length:=by rw [h2.2.1];omega
          have e:mX (w:Int) (c:Int)=some ((w * 3+c:Nat):Int):=by
            unfold mX o5
            rw [cV,cV,decide_eq_true (by omega),decide_eq_true (by omega)]
            simp only [Option.bind_some,Bool.not_true,Bool.false_eq_true,if_false]
            rw [aR (x:=(w:Int) * 3) (by omega) (by omega),aR (by omega) (by omega)];rfl
          have hlen:=hsl.2 _ (List.getElem_mem hk)
          simp only [o6]
          rw [if_pos (by simp;omega),e]
          simp only [Option.bind_some,aQ hk]
          rw [B8 h1.1 (by omega) (by omega),dN hk]
          have em:(w * 3+c) % 3=c:=by omega
          have ho:tF m (w * 3+c)↔tE m.aC (gH m.aA.aV (w * 3+c)) (c:Int):=by unfold tF;rw [em]
          rw [aR (by omega) (by omega)]
          by_cases q:tF m (w * 3+c)
          · rw [if_pos q,decide_eq_true (ho.1 q)];rfl
          · rw [if_neg q,decide_eq_false (fun x=>q (ho.2 x))];rfl
        refine nL (f:=o6 m (c:Int)) 3 (fun k=>(k:Int)) (fun w=>tF m (w * 3+c)) _ _ (fun k hk hx=>?_) (fun k hk hx=>?_) ?_
        · rw [hst k hk,if_pos hx]
        · rw [hst k hk,if_neg hx]
        · rfl
      have k2:loop (o7 m) 0=some (if ∀k,k < 3→zP m k∧∀w,w < 3→tF m (w * 3+k) then Out.brk () else Out.ret false):=by
        have hst:∀c:Nat,c < 3→o7 m (c:Int)=if zP m c∧∀w,w < 3→tF m (w * 3+c) then some (.next ((c+1:Nat):Int)) else some (.stop (Out.ret false)):=by
          intro c hc
          have hk:c < m.aA.Global.length:=by rw [h2.1];omega
          have hlen:=hsl.1 _ (List.getElem_mem hk)
          simp only [o7]
          rw [if_pos (by simp;omega)]
          simp only [Option.bind_some,aQ hk]
          rw [B8 h1.1 (by omega) (by omega),dN hk,k3 c hc]
          by_cases q:zP m c
          · have q':tE m.aC (gH m.aA.Global c) (c:Int):=q
            rw [decide_eq_true q']
            simp only [Option.bind_some,Bool.not_true,Bool.false_eq_true,if_false]
            by_cases q2:∀w,w < 3→tF m (w * 3+c)
            · rw [if_pos q2,if_pos ⟨q,q2⟩]
              simp only [GW,GV]
              rw [aR (by omega) (by omega)];rfl
            · rw [if_neg q2,if_neg (fun x=>q2 x.2)];rfl
          · have q':¬tE m.aC (gH m.aA.Global c) (c:Int):=q
            rw [decide_eq_false q',if_neg (fun x:zP m c∧_=>q x.1)];rfl
        refine nL (f:=o7 m) 3 (fun k=>(k:Int)) (fun k=>zP m k∧∀w,w < 3→tF m (w * 3+k)) _ _ (fun k hk hx=>?_) (fun k hk hx=>?_) ?_
        · rw [hst k hk,if_pos hx]
        · rw [hst k hk,if_neg hx]
        · rfl
      rw [k2]
      by_cases q:∀k,k < 3→zP m k∧∀w,w < 3→tF m (w * 3+k)
      · rw [if_pos q,decide_eq_true (show uD m from ⟨⟨h1,h2⟩,ZS.1 q⟩)];rfl
      · rw [if_neg q,decide_eq_false (fun x:uD m=>q (ZS.2 x.2))];rfl
    · rw [decide_eq_false (fun q:uD m=>h2 q.1.2),decide_eq_true h1,decide_eq_false h2];rfl
  · rw [decide_eq_false (fun q:uD m=>h1 q.1.1),decide_eq_false h1];rfl
theorem SL{m:Mem}(hb:m.aC.Bytes.length≤maxLen)(hl:(cR m.aA).length≤1073741824):CT m=some (decide (uD m)):=by
  unfold CT uR
  rw [zD hb,D5 hl]
  by_cases h1:QT m.aC
  · by_cases h2:RB m.aA
    · have hmx:(1073741824:Nat)≤maxLen:=by simp [maxLen]
      have hsl:=RB.HH h2 hl
      simp only [decide_eq_true h1,decide_eq_true h2,Option.bind_some,Bool.not_true,Bool.false_eq_true,if_false]
      have k3:loop (lZ m) 0=some (if ∀k,k < 9→tF m k then Out.brk () else Out.ret false):=by
        have hst:∀w:Nat,w < 9→lZ m (w:Int)=if tF m w then some (.next ((w+1:Nat):Int)) else some (.stop (Out.ret false)):=by
          intro w hw
          have hk:w < m.aA.aV.length:=by rw [h2.2.1];omega
          have hlen:=hsl.2 _ (List.getElem_mem hk)
          have em:Int.tmod (w:Int) 3=((w % 3:Nat):Int):=by rw [y9 (by omega)];omega
          simp only [lZ]
          rw [if_pos (by simp;omega)]
          simp only [Option.bind_some,aQ hk,em]
          rw [B9 h1.1 (by omega) (by omega),dN hk,aR (by omega) (by omega)]
          by_cases q:tF m w
          · rw [if_pos q,decide_eq_true (show tE m.aC (gH m.aA.aV w) ((w % 3:Nat):Int) from q)];rfl
          · rw [if_neg q,decide_eq_false (show ¬tE m.aC (gH m.aA.aV w) ((w % 3:Nat):Int) from q)];rfl
        refine nL (f:=lZ m) 9 (fun k=>(k:Int)) (fun w=>tF m w) _ _ (fun k hk hx=>?_) (fun k hk hx=>?_) ?_
        · rw [hst k hk,if_pos hx]
        · rw [hst k hk,if_neg hx]
        · simp [lZ,h2.2.1]
      have k2:loop (l4 m) 0=some (if ∀k,k < 3→zP m k then Out.brk () else Out.ret false):=by
        have hst:∀w:Nat,w < 3→l4 m (w:Int)=if zP m w then some (.next ((w+1:Nat):Int)) else some (.stop (Out.ret false)):=by
          intro w hw
          have hk:w < m.aA.Global.length:=by rw [h2.1];omega
          have hlen:=hsl.1 _ (List.getElem_mem hk)
          simp only [l4]
          rw [if_pos (by simp;omega)]
          simp only [Option.bind_some,aQ hk]
          rw [B9 h1.1 (by omega) (by omega),dN hk,aR (by omega) (by omega)]
          by_cases q:zP m w
          · rw [if_pos q,decide_eq_true (show tE m.aC (gH m.aA.Global w) (w:Int) from q)];rfl
          · rw [if_neg q,decide_eq_false (show ¬tE m.aC (gH m.aA.Global w) (w:Int) from q)];rfl
        refine nL (f:=l4 m) 3 (fun k=>(k:Int)) (fun w=>zP m w) _ _ (fun k hk hx=>?_) (fun k hk hx=>?_) ?_
        · rw [hst k hk,if_pos hx]
        · rw [hst k hk,if_neg hx]
        · simp [l4,h2.1]
      rw [k2]
      by_cases q:∀k,k < 3→zP m k
      · rw [if_pos q]
        simp only [Option.bind_some,G0,GZ]
        rw [k3]
        by_cases q2:∀k,k < 9→tF m k
        · rw [if_pos q2,decide_eq_true (show uD m from ⟨⟨h1,h2⟩,q,q2⟩)];rfl
        · rw [if_neg q2,decide_eq_false (fun x:uD m=>q2 x.2.2)];rfl
      · rw [if_neg q,decide_eq_false (fun x:uD m=>q x.2.1)];rfl
    · rw [decide_eq_false (fun q:uD m=>h2 q.1.2),decide_eq_true h1,decide_eq_false h2];rfl
  · rw [decide_eq_false (fun q:uD m=>h1 q.1.1),decide_eq_false h1];rfl
end Go.Gv
end
noncomputable section
set_option linter.unusedVariables false
set_option linter.unusedSimpArgs false
set_option linter.unusedSectionVars false
namespace Go.Gv
theorem wF{l:List aE}{s:aE}(h:s∈l):s.aK.length≤(bB l).length:=by
  obtain⟨k,hk,rfl⟩:=List.mem_iff_getElem.1 h
  exact zE l hk
theorem iL(l:aA):(cR l).length=(bB l.Global).length+(bB l.aV).length:=by simp [cR]
def lF(m:Mem):Prop:=m.aC.Bytes.length≤1048576∧m.aC.Class.length≤1048576∧m.aA.Global.length≤1048576∧m.aA.aV.length≤1048576∧(cR m.aA).length≤1048576
theorem lF.HH{m:Mem}(h:lF m):(∀s∈m.aA.Global,s.aK.length≤1048576)∧∀s∈m.aA.aV,s.aK.length≤1048576:=by
  have:=iL m.aA
  have h5:=h.2.2.2.2
  exact⟨fun s hm=>by have:=wF hm;omega,fun s hm=>by have:=wF hm;omega⟩
theorem AR{l:List Int}(hl:l.length≤maxLen):nE l l=some true:=by
  unfold nE
  have key:loop (nD l l) 0=some (Out.brk ()):=by
    refine dX (f:=nD l l) l.length (fun k=>(k:Int)) _ (fun k hk=>?_) ?_
    · simp only [nD]
      rw [if_pos (by simp;omega),aQ hk,dP (iC hk hl)]
      simp
    · simp [nD]
  simp [key,E6,E5]
theorem HI{l:List aE}(hl:l.length≤maxLen)(hs:∀s∈l,s.aK.length≤maxLen):pI l l=some true:=by
  unfold pI
  have key:loop (kD l l) 0=some (Out.brk ()):=by
    refine dX (f:=kD l l) l.length (fun k=>(k:Int)) _ (fun k hk=>?_) ?_
    · simp only [kD]
      rw [if_pos (by simp;omega),aQ hk]
      simp only [Option.bind_some,CZ,AR (hs _ (List.getElem_mem hk))]
      rw [dP (iC hk hl)];rfl
    · simp [kD]
  simp [key,BY,BX]
theorem XX{m:Mem}(h:lF m):C1 m m=some true:=by
  have hb:(1048576:Nat)≤maxLen:=by simp [maxLen]
  have h1:=h.1;have h2:=h.2.1;have h3:=h.2.2.1;have h4:=h.2.2.2.1
  unfold C1 E7 C0
  rw [AR (by omega),AR (by omega),HI (by omega) (fun s hs=>Nat.le_trans (h.HH.1 s hs) hb),HI (by omega) (fun s hs=>Nat.le_trans (h.HH.2 s hs) hb)];rfl
end Go.Gv
end
noncomputable section
set_option linter.unusedVariables false
set_option linter.unusedSimpArgs false
set_option linter.unusedSectionVars false
namespace Go.Gv
theorem yH{l:List Int}(hl:l.length≤maxLen){n:Int}(h0:0≤n)(h1:n≤1048576):∃x,mR l n=some x∧(¬x < 0→x=n - l.length∧0≤x):=by
  have hm:l.length≤9223372036854775807:=hl
  unfold mR
  rw [aR (by omega) (by omega)]
  by_cases h:n - l.length < 0
  · exact⟨-1,by simp [h],by omega⟩
  · exact⟨n - l.length,by simp [h],fun _=>⟨rfl,by omega⟩⟩
theorem AS{l:List aE}(hl:l.length≤maxLen)(hs:∀s∈l,s.aK.length≤maxLen){n:Int}(h0:0≤n)(h1:n≤1048576):∃x,oW l n=some x∧(¬x < 0→x=n - (l.length+(bB l).length:Nat)∧0≤x):=by
  have hm:l.length≤9223372036854775807:=hl
  unfold oW
  rw [aR (by omega) (by omega)]
  by_cases h:n - l.length < 0
  · exact⟨-1,by simp [h],by omega⟩
  · have key:=VN (f:=nR l) (fun s=>(l.length:Int).toNat - s.2.toNat) (fun s=>∃k:Nat,s.2=(k:Int)∧k≤l.length∧s.1=n - l.length - (bB (l.take k)).length∧0≤s.1) (fun o=>match o with | .brk x=>x=n - (l.length+(bB l).length:Nat)∧0≤x | .ret x=>x = -1) (by
      rintro⟨a,b⟩ ⟨k,rfl,hk,ha,ha0⟩
      simp only at ha ha0
      by_cases hk':k < l.length
      · have hlen:=hs _ (List.getElem_mem hk')
        have hf:=rH hk'
        have hfl:(bB (l.take (k+1))).length=(bB (l.take k)).length+l[k].aK.length:=by rw [hf];simp
        obtain⟨x,e1,e2⟩:=yH hlen (n:=a) ha0 (by omega)
        have e3:w6 l[k] a=some (if x < 0 then -1 else x):=by
          unfold w6;rw [e1]
          by_cases q:x < 0 <;> simp [q]
        simp only [nR]
        rw [if_pos (by simp;omega),aQ hk']
        simp only [Option.bind_some,e3]
        by_cases q:x < 0
        · left;exact⟨.ret (-1),by simp [q],rfl⟩
        · right
          have:=e2 q
          refine⟨(x,((k+1:Nat):Int)),?_,⟨k+1,rfl,by omega,by simp only;omega,by simp only;omega⟩,by simp only;omega⟩
          rw [dP (iC hk' hl)]
          simp [q]
      · obtain rfl:k=l.length:=by omega
        left
        refine⟨.brk a,by simp [nR],?_⟩
        rw [List.take_length] at ha
        exact⟨by omega,ha0⟩) (n - l.length,0) ⟨0,rfl,Nat.zero_le _,by simp [bB],by simp only;omega⟩
    obtain⟨o,e1,e2⟩:=key
    rw [if_neg (by simpa using h),e1]
    cases o with
    | brk x=>exact⟨x,rfl,fun _=>e2⟩
    | ret x=>exact⟨x,rfl,fun q=>absurd (show x < 0 by have:x = -1:=e2;omega) q⟩
theorem aD6{m:Mem}(hf:fit m):∃x,tV m 1048576=some x∧(¬x < 0→m.aC.Bytes.length≤1048576∧m.aC.Class.length≤1048576∧m.aA.Global.length≤1048576∧m.aA.aV.length≤1048576∧(cR m.aA).length≤1048576):=by
  have f1:m.aC.Bytes.length≤maxLen:=hf.1.1.1
  have f2:m.aC.Class.length≤maxLen:=hf.1.2.1
  have f3:m.aA.Global.length≤maxLen:=hf.2.1.1
  have f4:m.aA.aV.length≤maxLen:=hf.2.2.1
  have f5:∀s∈m.aA.Global,s.aK.length≤maxLen:=fun s h=>(hf.2.1.2 s h).1
  have f6:∀s∈m.aA.aV,s.aK.length≤maxLen:=fun s h=>(hf.2.2.2 s h).1
  unfold tV zY w7
  obtain⟨x1,a1,b1⟩:=yH f1 (n:=1048576) (by omega) (by omega)
  rw [a1]
  by_cases q1:x1 < 0
  · exact⟨-1,by simp [q1],fun h=>absurd (by omega) h⟩
  · have b1:=b1 q1
    obtain⟨x2,a2,b2⟩:=yH f2 (n:=x1) (by omega) (by omega)
    simp only [Option.bind_some,decide_eq_false q1,Bool.false_eq_true,if_false,a2]
    by_cases q2:x2 < 0
    · exact⟨-1,by simp [q2],fun h=>absurd (by omega) h⟩
    · have b2:=b2 q2
      obtain⟨x3,a3,b3⟩:=AS f3 f5 (n:=x2) (by omega) (by omega)
      simp only [Option.bind_some,decide_eq_false q2,Bool.false_eq_true,if_false,a3]
      by_cases q3:x3 < 0
      · exact⟨-1,by simp [q3],fun h=>absurd (by omega) h⟩
      · have b3:=b3 q3
        obtain⟨x4,a4,b4⟩:=AS f4 f6 (n:=x3) (by omega) (by omega)
        simp only [Option.bind_some,decide_eq_false q3,Bool.false_eq_true,if_false,a4]
        by_cases q4:x4 < 0
        · exact⟨-1,by simp [q4],fun h=>absurd (by omega) h⟩
        · have b4:=b4 q4
          refine⟨x4,by simp [q4],fun _=>?_⟩
          have:(cR m.aA).length=(bB m.aA.Global).length+(bB m.aA.aV).length:=by simp [cR]
          omega
theorem GJ{l:List Int}(hl:l.length≤1048576):m3 l=some l:=by
  unfold m3
  rw [bE (by omega),Int.toNat_natCast,BN l id]
  · simp [EW,EV]
  · intro acc k hk he
    simp only [yR]
    rw [if_pos (by simp;omega),aQ hk]
    simp only [Option.bind_some]
    rw [aQ (by omega)]
    simp only [Option.bind_some]
    rw [aR (by omega) (by omega)]
    simp
  · intro acc
    simp [yR]
theorem LI{l:List aE}(hl:l.length≤1048576)(hs:∀s∈l,s.aK.length≤1048576):pA l=some l:=by
  unfold pA
  rw [bE (by omega),Int.toNat_natCast,BN l id]
  · simp [BS,BR]
  · intro acc k hk he
    simp only [tX]
    rw [if_pos (by simp;omega),aQ hk]
    simp only [Option.bind_some,CN,GJ (hs _ (List.getElem_mem hk))]
    rw [aQ (by omega)]
    simp only [Option.bind_some]
    rw [aR (by omega) (by omega)]
    simp
  · intro acc
    simp [tX]
theorem aD7{m:Mem}(h:lF m):CQ m=some m:=by
  unfold CQ EX CP
  rw [GJ h.1,GJ h.2.1,LI h.2.2.1 h.HH.1,LI h.2.2.2.1 h.HH.2];rfl
end Go.Gv
end
noncomputable section
set_option linter.unusedVariables false
set_option linter.unusedSimpArgs false
set_option linter.unusedSectionVars false
namespace Go.Gv
def VF(e:Int)(p:cL):Prop:=(0≤p.aG∧p.aG≤e)∧(0≤p.Seen∧p.Seen≤2)∧(p.On=false→p=⟨false,0,false,0⟩)
instance (e:Int) (p:cL):Decidable (VF e p):=by unfold VF;infer_instance
def K4(c:aD):Prop:=(0≤c.aG∧c.aG≤100000)∧c.aP.length=3∧∀p∈c.aP,VF c.aG p
instance (c:aD):Decidable (K4 c):=by unfold K4;infer_instance
theorem qJ(c:aD):kR c=some (decide (K4 c)):=by
  unfold kR
  rw [cV]
  by_cases h1:0≤c.aG∧c.aG≤100000
  · by_cases h2:c.aP.length=3
    · simp only [Option.bind_some,h1,h2,iZ]
      have key:∀k:Nat,k≤3→loop (lK c) (k:Int)=some (if ∀p∈c.aP.drop k,VF c.aG p then Out.brk () else Out.ret false):=by
        refine ND 3 _ fun k hk=>?_
        by_cases h3:k < 3
        · have hd:c.aP.drop k=c.aP[k] :: c.aP.drop (k+1):=List.drop_eq_getElem_cons (by omega)
          simp only [lK]
          rw [if_pos (by simp;omega),aQ (by omega)]
          simp only [Option.bind_some,cV,gI,hd]
          rw [dP (by simp [maxLen];omega)]
          generalize c.aP[k]=p
          have hp:VF c.aG p↔decide (0≤p.aG∧p.aG≤c.aG)=true∧decide (0≤p.Seen∧p.Seen≤2)=true∧(p.On=false→decide (p=⟨false,0,false,0⟩)=true):=by simp only [VF,decide_eq_true_eq]
          simp only [List.forall_mem_cons,hp]
          generalize decide (0≤p.aG∧p.aG≤c.aG)=b1
          generalize decide (0≤p.Seen∧p.Seen≤2)=b2
          generalize decide (p=⟨false,0,false,0⟩)=b3
          generalize p.On=b4
          cases b1 <;> cases b2 <;> cases b3 <;> cases b4 <;> simp [h3]
        · left
          obtain rfl:k=3:=by omega
          simp [lK,List.drop_eq_nil_of_le (show c.aP.length≤3 by omega)]
      have:=key 0 (by omega)
      simp only [Int.ofNat_zero,List.drop_zero] at this
      have e:decide (K4 c)=if ∀p∈c.aP,VF c.aG p then true else false:=by
        have:K4 c↔∀p∈c.aP,VF c.aG p:=⟨fun h=>h.2.2,fun h=>⟨h1,h2,h⟩⟩
        simp [this]
      rw [e]
      simp only [Int.cast_ofNat_Int] at *
      have t0:loop (lK c) 0=_:=this
      by_cases h5:∀p∈c.aP,VF c.aG p
      · rw [if_pos h5] at t0 ⊢;rw [t0];simp [wL,DL]
      · rw [if_neg h5] at t0 ⊢;rw [t0];simp [wL]
    · simp [h1,h2,iZ,K4]
      omega
  · simp [h1,iZ,K4]
theorem WI(p:cL)(c:aD):m8 p c=some (!decide (VF c.aG p)):=by
  unfold m8 gD
  rw [dS,dS]
  have hp:decide (VF c.aG p)=(decide (0≤p.aG∧p.aG≤c.aG) && (decide (0≤p.Seen∧p.Seen≤2) && (p.On || decide (p=⟨false,0,false,0⟩)))):=by
    rw [Bool.eq_iff_iff];simp only [VF,decide_eq_true_eq,Bool.and_eq_true,Bool.or_eq_true]
    by_cases h:p.On=true
    · simp [h]
    · simp [(by simpa using h:p.On=false)]
  rw [hp]
  generalize decide (0≤p.aG∧p.aG≤c.aG)=b1
  generalize decide (0≤p.Seen∧p.Seen≤2)=b2
  generalize decide (p=⟨false,0,false,0⟩)=b3
  generalize p.On=b4
  cases b1 <;> cases b2 <;> cases b3 <;> cases b4 <;> rfl
theorem U3{l:List cL}(hl:l.length≤maxLen)(f:cL→Bool):gC l (fun x=>some (f x))=some (l.any f):=by
  unfold gC m7
  have key:∀k:Nat,k≤l.length→loop (eO l (fun x=>some (f x))) (k:Int)=some (if (l.drop k).any f then Out.ret ((k+(l.drop k).findIdx f:Nat):Int) else Out.brk ()):=by
    refine ND l.length _ fun k hk=>?_
    by_cases h3:k < l.length
    · have hd:l.drop k=l[k] :: l.drop (k+1):=List.drop_eq_getElem_cons h3
      simp only [eO]
      rw [if_pos (by simp;omega),aQ h3,dP (iC h3 hl),hd]
      simp only [Option.bind_some,List.any_cons,List.findIdx_cons]
      by_cases h4:f l[k]=true
      · left;simp [h4]
      · right
        have h4:f l[k]=false:=by simpa using h4
        refine⟨h3,by simp [h4],?_⟩
        simp only [h4,Bool.false_or,cond_false]
        congr 2;omega
    · left
      obtain rfl:k=l.length:=by omega
      simp [eO]
  have t0:loop (eO l (fun x=>some (f x))) 0=_:=key 0 (by omega)
  rw [t0]
  simp only [List.drop_zero]
  by_cases h:l.any f=true
  · simp [h,j8]
  · have h:l.any f=false:=by simpa using h
    simp [h,j8,rE]
theorem qK{c:aD}(hc:c.aP.length≤maxLen):kX c=some (decide (K4 c)):=by
  unfold kX lR
  rw [dS]
  have e:(fun y0=>m8 y0 c)=fun y0=>some (!decide (VF c.aG y0)):=funext fun y=>WI y c
  rw [e,U3 hc]
  by_cases h1:0≤c.aG∧c.aG≤100000
  · by_cases h2:c.aP.length=3
    · have:K4 c↔∀p∈c.aP,VF c.aG p:=⟨fun h=>h.2.2,fun h=>⟨h1,h2,h⟩⟩
      have e2:(c.aP.any fun y0=>!decide (VF c.aG y0))=!decide (∀p∈c.aP,VF c.aG p):=by
        rw [Bool.eq_iff_iff];simp
      simp [h1,h2,this,e2]
    · have:¬(c.aP.length:Int)=3:=by omega
      simp [h1,this,h2,K4]
  · simp [h1,K4]
end Go.Gv
end
noncomputable section
set_option linter.unusedVariables false
set_option linter.unusedSimpArgs false
set_option linter.unusedSectionVars false
namespace Go.Gv
theorem aD8(a b:cL):C2 a b=some (decide (a=b)):=by
  obtain⟨a1,a2,a3,a4⟩:=a
  obtain⟨b1,b2,b3,b4⟩:=b
  simp only [C2,cL.mk.injEq]
  by_cases h1:a1=b1 <;> by_cases h2:a2=b2 <;> by_cases h3:a3=b3 <;> by_cases h4:a4=b4 <;> simp [h1,h2,h3,h4]
theorem WJ{l:List cL}(hl:l.length≤maxLen):AN l l=some true:=by
  unfold AN
  have key:∀k:Nat,k≤l.length→loop (nF l l) (k:Int)=some (Out.brk ()):=by
    refine ND l.length _ fun k hk=>?_
    by_cases h3:k < l.length
    · right
      simp only [nF]
      rw [if_pos (by simp;omega),aQ h3,dP (iC h3 hl)]
      simp [aD8,h3]
    · left
      obtain rfl:k=l.length:=by omega
      simp [nF]
  have t0:loop (nF l l) 0=_:=key 0 (by omega)
  simp [t0,E9,E8]
theorem U4{c:aD}(hl:c.aP.length≤maxLen):xY c c=some true:=by
  unfold xY
  simp [WJ hl]
end Go.Gv
end
noncomputable section
set_option linter.unusedVariables false
set_option linter.unusedSimpArgs false
set_option linter.unusedSectionVars false
namespace Go.Gv
theorem aAG(l:List cL)(n:Int):zZ l n=some (if a8 (n - l.length) < 0 then -1 else a8 (n - l.length)):=by
  unfold zZ
  by_cases h:a8 (n - l.length) < 0 <;> simp [h]
theorem aAH{l:List cL}(hl:l.length≤1048576):AG l=some l:=by
  unfold AG
  rw [bE (by omega),Int.toNat_natCast,BN l id]
  · simp [EZ,EY]
  · intro acc k hk he
    simp only [yS]
    rw [if_pos (by simp;omega),aQ hk]
    simp only [Option.bind_some,H3]
    rw [aQ (by omega)]
    simp only [Option.bind_some]
    rw [dP (by simp [maxLen];omega)]
    simp
  · intro acc
    simp [yS]
theorem XY{c:aD}(h:c.aP.length≤1048576):xM c=some c:=by
  unfold xM;rw [aAH h];rfl
end Go.Gv
end
noncomputable section
set_option linter.unusedVariables false
set_option linter.unusedSimpArgs false
set_option linter.unusedSectionVars false
namespace Go.Gv
def aX(l:List aJ):List bC:=l.flatMap aJ.Rows
theorem nN{l:List aJ}{k:Nat}(h:k < l.length):aX (l.take (k+1))=aX (l.take k)++l[k].Rows:=by
  unfold aX
  rw [List.take_succ_eq_append_getElem h,List.flatMap_append];simp
theorem FN(l:List aJ)(k:Nat):(aX (l.take k)).length≤(aX l).length:=by
  have:aX l=aX (l.take k)++aX (l.drop k):=by
    unfold aX;rw [←List.flatMap_append,List.take_append_drop]
  rw [this];simp
theorem K5(l:List aJ){k:Nat}(h:k < l.length):l[k].Rows.length≤(aX l).length:=by
  have h1:=FN l (k+1)
  rw [nN h] at h1
  simp at h1;omega
theorem CA{l:List aJ}{s:aJ}(h:s∈l):s.Rows.length≤(aX l).length:=by
  obtain⟨k,hk,rfl⟩:=List.mem_iff_getElem.1 h
  exact K5 l hk
theorem zF{l:List aJ}(h:(aX l).length≤1073741824)(hl:l.length≤maxLen):rC l=some (aX l):=by
  unfold rC
  have k1:loop (mY l) ([],0)=some (aX l):=by
    refine dX (f:=mY l) l.length (fun k=>(aX (l.take k),(k:Int))) _ (fun k hk=>?_) ?_
    · have h1:=FN l (k+1)
      rw [nN hk] at h1
      simp only [mY]
      rw [if_pos (by simp;omega),aQ hk]
      simp only [Option.bind_some]
      rw [bE (by simp at h1;omega),nN hk,dP (iC hk hl)]
    · simp [mY]
  rw [k1];rfl
def oK(h:Int):Prop:=(32≤h∧h≤223)∧h % 32 < 24
instance (h:Int):Decidable (oK h):=by unfold oK;infer_instance
theorem hY(h:Int):g7 h=some (decide (oK h)):=by
  unfold g7 nV oK
  rw [cV]
  by_cases q:32≤h∧h≤223
  · simp [q,y9 (show 0≤h by omega)]
  · simp [q]
theorem oL(h:Int):fU h=some (decide (oK h)):=by
  unfold fU hQ oK
  rw [dS]
  by_cases q:32≤h∧h≤223
  · simp [q,y9 (show 0≤h by omega)]
  · simp [q]
theorem oK.mod{h:Int}(q:oK h):Int.tmod h 32=h % 32∧0≤h % 32∧h % 32≤23:=by
  unfold oK at q
  exact⟨y9 (by omega),by omega,by omega⟩
theorem fM(h:Int):eE h=some (if oK h then h % 32 else -1):=by
  unfold eE
  rw [hY]
  by_cases q:oK h
  · simp [q,q.mod.1]
  · simp [q]
def pO(r:bC):Prop:=oK r.Handle∧0≤r.aG∧r.aG≤100000
instance (r:bC):Decidable (pO r):=by unfold pO;infer_instance
def iM(r:bC):Int:=r.Handle % 32
def mM(l:List aJ):Prop:=l.length=3∧(aX l).length≤24∧(∀r∈aX l,pO r)∧((aX l).map iM).Nodup
instance (l:List aJ):Decidable (mM l):=by unfold mM;infer_instance
def rowAt(l:List bC)(k:Nat):bC:=l.getD k ⟨0,0⟩
theorem GK{l:List bC}{k:Nat}(h:k < l.length):rowAt l k=l[k]:=by
  unfold rowAt;rw [List.getD_eq_getElem?_getD,List.getElem?_eq_getElem h];rfl
theorem M5{l:List aJ}(h:(aX l).length≤1073741824)(hl:l.length≤maxLen):xG l=some (decide (mM l)):=by
  unfold xG pT
  rw [zF h hl]
  simp only [Option.bind_some]
  by_cases h3:l.length=3
  · have n1:((l.length:Int) != 3)=false:=by simp;omega
    simp only [n1,Bool.false_eq_true,if_false]
    by_cases h24:(aX l).length≤24
    · rw [if_neg (by simp;omega)]
      have hst:∀k,k < (aX l).length→lM (aX l) (((aX l).take k).map iM,(k:Int))=if pO (rowAt (aX l) k)∧iM (rowAt (aX l) k)∉((aX l).take k).map iM then some (.next (((aX l).take (k+1)).map iM,((k+1:Nat):Int))) else some (.stop (Out.ret false)):=by
        intro k hk
        simp only [lM,lL]
        rw [if_pos (by simp;omega),aQ hk,GK hk]
        simp only [Option.bind_some,fM,cV]
        by_cases q:oK (aX l)[k].Handle
        · have hm:=q.mod
          rw [if_pos q,if_neg (by simp;omega)]
          by_cases q2:0≤(aX l)[k].aG∧(aX l)[k].aG≤100000
          · rw [decide_eq_true q2]
            simp only [Bool.not_true,Bool.false_eq_true,if_false]
            rw [BG (by simp [maxLen];omega)]
            simp only [Option.bind_some]
            by_cases q3:(aX l)[k].Handle % 32∈((aX l).take k).map iM
            · rw [decide_eq_true q3];simp only [if_true];rw [if_neg (show ¬(pO (aX l)[k]∧iM (aX l)[k]∉((aX l).take k).map iM) from fun x=>x.2 q3)]
            · rw [decide_eq_false q3]
              simp only [Bool.false_eq_true,if_false]
              rw [if_pos (show pO (aX l)[k]∧iM (aX l)[k]∉((aX l).take k).map iM from ⟨⟨q,q2⟩,q3⟩),bE (by simp;omega),aR (by omega) (by omega),map_take _ hk];rfl
          · rw [decide_eq_false q2]
            simp only [Bool.not_false,if_true]
            rw [if_neg (fun x:pO _∧_=>q2 x.1.2)]
        · rw [if_neg q,if_pos (by simp),if_neg (fun x:pO _∧_=>q x.1.1)];rfl
      have key:=nL (f:=lM (aX l)) (aX l).length (fun k=>(((aX l).take k).map iM,(k:Int))) (fun k=>pO (rowAt (aX l) k)∧iM (rowAt (aX l) k)∉((aX l).take k).map iM) (Out.brk ()) (Out.ret false) (fun k hk hx=>by rw [hst k hk,if_pos hx]) (fun k hk hx=>by rw [hst k hk,if_neg hx]) (by simp [lM])
      rw [List.take_zero,List.map_nil,show((0:Nat):Int)=0 from rfl] at key
      rw [key]
      have hiff:mM l↔∀k,k < (aX l).length→pO (rowAt (aX l) k)∧iM (rowAt (aX l) k)∉((aX l).take k).map iM:=by
        constructor
        · rintro⟨_,_,q1,q2⟩ k hk
          rw [GK hk]
          refine⟨q1 _ (List.getElem_mem hk),?_⟩
          have:=(DB _).1 q2 k (by simpa using hk)
          rw [List.getElem_map,←List.map_take] at this
          exact this
        · intro q
          refine⟨h3,h24,fun x hx=>?_,(DB _).2 fun k hk=>?_⟩
          · obtain⟨k,hk,rfl⟩:=List.mem_iff_getElem.1 hx
            have:=(q k hk).1;rw [GK hk] at this;exact this
          · have hk':k < (aX l).length:=by simpa using hk
            have:=(q k hk').2;rw [GK hk'] at this
            rw [List.getElem_map,←List.map_take];exact this
      by_cases q:mM l
      · rw [if_pos (hiff.1 q),decide_eq_true q];rfl
      · rw [if_neg (fun x=>q (hiff.2 x)),decide_eq_false q];rfl
    · rw [if_pos (by simp;omega),decide_eq_false (fun q:mM l=>h24 q.2.1)]
  · have n1:((l.length:Int) != 3)=true:=by simp;omega
    simp only [n1,if_true]
    rw [decide_eq_false (fun q:mM l=>h3 q.1)]
def TJ:List Bool→List bC→Option (List Bool)
  | met,[]=>some met
  | met,r :: t=>if pO r∧met.getD (iM r).toNat true=false then TJ (met.set (iM r).toNat true) t else none
theorem ZT:∀{xs:List bC} {met m:List Bool},TJ met xs=some m→m.length=met.length
  | [],met,m,h=>by simp [TJ] at h;rw [h]
  | x :: r, met, m, h => by
    simp only [TJ] at h
    split at h
    · have:=ZT h;simpa using this
    · cases h
theorem QV:∀(a b:List bC) (met:List Bool),TJ met (a++b)=(TJ met a).bind fun m=>TJ m b
  | [],b,met=>rfl
  | x :: r, b, met => by
    simp only [List.cons_append,TJ]
    split
    · exact QV r b _
    · rfl
theorem WK:∀(xs:List bC) (met:List Bool),(TJ met xs).isSome=true↔(∀r∈xs,pO r)∧(pN met (xs.map iM)).isSome=true
  | [],met=>by simp [TJ,pN]
  | x :: r, met => by
    simp only [TJ,List.map_cons,pN]
    by_cases h:pO x
    · have hm:=h.1.mod
      have hs:0≤iM x∧iM x≤23:=hm.2
      by_cases h2:met.getD (iM x).toNat true=false
      · rw [if_pos ⟨h,h2⟩,if_pos ⟨hs,h2⟩,WK r _]
        simp [h]
      · rw [if_neg (fun q=>h2 q.2),if_neg (fun q=>h2 q.2)];simp
    · rw [if_neg (fun q=>h q.1)]
      constructor
      · intro q;cases q
      · rintro⟨q,_⟩;exact(h (q x List.mem_cons_self)).elim
theorem aAI{s:aJ}(hl:s.Rows.length≤maxLen):∀d k (met:List Bool),k+d=s.Rows.length→met.length=24→loop (gN s) ((k:Int),met)=some (U2 (TJ met (s.Rows.drop k))):=by
  intro d
  induction d with
  | zero =>
    intro k met hk hm
    rw [bP (r:=Out.brk met) (by simp [gN];omega),List.drop_eq_nil_of_le (by omega)];rfl
  | succ d ih =>
    intro k met hk hm
    have hk':k < s.Rows.length:=by omega
    have hd:s.Rows.drop k=s.Rows[k] :: s.Rows.drop (k+1):=List.drop_eq_getElem_cons hk'
    have hst:gN s ((k:Int),met)=if pO s.Rows[k]∧met.getD (iM s.Rows[k]).toNat true=false then some (.next (((k+1:Nat):Int),met.set (iM s.Rows[k]).toNat true)) else some (.stop (Out.ret false)):=by
      simp only [gN]
      rw [if_pos (by simp;omega),aQ hk']
      simp only [Option.bind_some,oL,dS]
      generalize s.Rows[k]=x
      by_cases q:oK x.Handle
      · by_cases q2:0≤x.aG∧x.aG≤100000
        · have hm2:=q.mod
          obtain⟨j,hj0⟩:=Int.eq_ofNat_of_zero_le hm2.2.1
          have hj:j < met.length:=by omega
          have e:met.getD j true=met[j]:=by rw [List.getD_eq_getElem?_getD,List.getElem?_eq_getElem hj];rfl
          have hr:pO x:=⟨q,q2⟩
          simp only [q,q2,and_self,decide_true,Bool.not_true,Bool.false_eq_true,if_false,eY,hm2.1,hj0,Int.toNat_natCast,hr,true_and,iM,e]
          rw [bE (by omega),aQ hj]
          simp only [Option.bind_some]
          cases met[j]
          · simp only [Bool.false_eq_true,if_false,if_true]
            rw [bE (by omega),dP (iC hk' hl)]
          · simp
        · rw [decide_eq_true q,decide_eq_false q2];simp only [Bool.not_true,Bool.not_false,Bool.false_eq_true,if_false,if_true,eY];rw [if_neg (fun y:pO x∧_=>q2 y.1.2)]
      · rw [decide_eq_false q];simp only [Bool.not_false,if_true,eY];rw [if_neg (fun y:pO x∧_=>q y.1.1)]
    rw [hd,TJ]
    by_cases q:pO s.Rows[k]∧met.getD (iM s.Rows[k]).toNat true=false
    · rw [if_pos q] at hst ⊢
      rw [bW hst,ih (k+1) _ (by omega) (by simpa using hm)]
    · rw [if_neg q] at hst ⊢
      rw [bP hst];rfl
theorem aAJ{l:List aJ}(hn:l.length≤1000)(hs:∀s∈l,s.Rows.length≤maxLen):∀d k (met:List Bool),k+d=l.length→met.length=24 →
    loop (gO l) ((k:Int),met)=some (if (TJ met (aX (l.drop k))).isSome=true then Out.brk () else Out.ret false):=by
  intro d
  induction d with
  | zero =>
    intro k met hk hm
    rw [List.drop_eq_nil_of_le (by omega),if_pos (show(TJ met (aX [])).isSome=true from rfl)]
    refine bP ?_
    simp only [gO]
    rw [if_neg (by simp;omega)]
  | succ d ih =>
    intro k met hk hm
    have hk':k < l.length:=by omega
    have hd:l.drop k=l[k] :: l.drop (k+1):=List.drop_eq_getElem_cons hk'
    have hsk:=hs _ (List.getElem_mem hk')
    have hf:aX (l.drop k)=l[k].Rows++aX (l.drop (k+1)):=by unfold aX;rw [hd,List.flatMap_cons]
    have h4:=aAI hsk _ 0 met (Nat.zero_add _) hm
    rw [show((0:Nat):Int)=0 from rfl,List.drop_zero] at h4
    have hst:gO l ((k:Int),met)=(match TJ met l[k].Rows with | some m=>some (.next (((k+1:Nat):Int),m)) | none=>some (.stop (Out.ret false))):=by
      simp only [gO]
      rw [if_pos (by simp;omega),aQ hk']
      simp only [Option.bind_some]
      rw [h4]
      cases TJ met l[k].Rows with
      | none=>rfl
      | some m=>simp only [Option.bind_some,U2,DP,p8];rw [aR (by omega) (by omega)];rfl
    rw [hf,QV]
    cases hg:TJ met l[k].Rows with
    | none =>
      rw [hg] at hst
      rw [bP hst,if_neg (by simp)]
    | some m =>
      rw [hg] at hst
      rw [bW hst,ih (k+1) m (by omega) (by rw [ZT hg];exact hm)]
      simp only [Option.bind_some]
theorem JT{l:List aJ}(hn:l.length≤1000)(h:(aX l).length≤1073741824):m9 l=some ((aX l).length:Int):=by
  unfold m9
  have key:loop (eT l) (0,0)=some ((aX l).length:Int):=by
    refine dX (f:=eT l) l.length (fun k=>(((aX (l.take k)).length:Int),(k:Int))) _ (fun k hk=>?_) ?_
    · have h1:=FN l (k+1)
      rw [nN hk,List.length_append] at h1
      simp only [eT]
      rw [if_pos (by simp;omega),aQ hk]
      simp only [Option.bind_some]
      rw [aR (by omega) (by omega),aR (by omega) (by omega),nN hk,List.length_append]
      simp
    · simp [eT]
  rw [key];rfl
theorem qL{l:List aJ}(h:(aX l).length≤1073741824):gU l=some (decide (mM l)):=by
  unfold gU
  by_cases h3:l.length=3
  · have n1:((l.length:Int) != 3)=false:=by simp;omega
    have hb:(1073741824:Nat)≤maxLen:=by simp [maxLen]
    simp only [n1,Bool.false_eq_true,if_false]
    have key:=aAJ (l:=l) (by omega) (fun s hs=>by have:=CA hs;omega) l.length 0 [false,false,false,false,false,false,false,false,false,false,false,false,false,false,false,false,false,false,false,false,false,false,false,false] (by omega) rfl
    rw [show((0:Nat):Int)=0 from rfl,List.drop_zero] at key
    rw [key]
    have hm0:∀j:Nat,j < 24→[false,false,false,false,false,false,false,false,false,false,false,false,false,false,false,false,false,false,false,false,false,false,false,false].getD j true=false:=by decide
    have hiff:mM l↔(aX l).length≤24∧(TJ [false,false,false,false,false,false,false,false,false,false,false,false,false,false,false,false,false,false,false,false,false,false,false,false] (aX l)).isSome=true:=by
      rw [WK,IE _ _ rfl]
      have hr:(∀r∈aX l,pO r)→∀x∈(aX l).map iM,0≤x∧x≤23:=by
        intro q x hx
        obtain⟨r,hr,rfl⟩:=List.mem_map.1 hx
        exact(q r hr).1.mod.2
      constructor
      · rintro⟨_,q1,q2,q3⟩
        exact⟨q1,q2,hr q2,q3,fun x hx=>hm0 _ (by have:=hr q2 x hx;omega)⟩
      · rintro⟨q1,q2,_,q3,_⟩
        exact⟨h3,q1,q2,q3⟩
    by_cases q:(TJ [false,false,false,false,false,false,false,false,false,false,false,false,false,false,false,false,false,false,false,false,false,false,false,false] (aX l)).isSome=true
    · rw [if_pos q]
      simp only [Option.bind_some,DQ,p7]
      rw [JT (by omega) h]
      simp only [Option.bind_some]
      congr 1
      rw [Bool.eq_iff_iff];simp only [decide_eq_true_eq]
      rw [hiff]
      exact⟨fun a=>⟨by omega,q⟩,fun a=>by omega⟩
    · rw [if_neg q,decide_eq_false (fun x=>q (hiff.1 x).2)];rfl
  · have n1:((l.length:Int) != 3)=true:=by simp;omega
    simp only [n1,if_true]
    rw [decide_eq_false (fun q:mM l=>h3 q.1)]
def tG(h:Int):Prop:=h=0∨oK h
instance (h:Int):Decidable (tG h):=by unfold tG;infer_instance
def QW(z:List Int):Prop:=z.length=3∧∀h∈z,tG h
instance (z:List Int):Decidable (QW z):=by unfold QW;infer_instance
theorem SM{z:List Int}(hl:z.length≤maxLen):CJ z=some (decide (QW z)):=by
  unfold CJ
  have hst:∀k (hk:k < z.length),o8 z (k:Int)=if tG z[k] then some (.next ((k+1:Nat):Int)) else some (.stop (Out.ret false)):=by
    intro k hk
    simp only [o8,uK]
    rw [if_pos (by simp;omega),aQ hk,dP (iC hk hl)]
    simp only [Option.bind_some,hY]
    generalize z[k]=x
    by_cases q:x=0
    · have n:(x != 0)=false:=by simp only [bne_eq_false_iff_eq];exact q
      rw [n,if_pos (show tG x from .inl q)];rfl
    · have n:(x != 0)=true:=by simp only [bne_iff_ne];exact q
      by_cases q2:oK x
      · rw [n,decide_eq_true q2,if_pos (show tG x from .inr q2)];rfl
      · rw [n,decide_eq_false q2,if_neg (fun a:tG x=>a.elim q q2)];rfl
  have key:=kL (f:=o8 z) z (fun k=>(k:Int)) tG (Out.brk ()) (Out.ret false) (fun k hk hx=>by rw [hst k hk,if_pos hx]) (fun k hk hx=>by rw [hst k hk,if_neg hx]) (by simp [o8])
  rw [show((0:Nat):Int)=0 from rfl] at key
  rw [key]
  by_cases q:∀x∈z,tG x
  · rw [if_pos q]
    have:QW z↔z.length=3:=⟨fun a=>a.1,fun a=>⟨a,q⟩⟩
    simp only [Option.bind_some,GY,GX,this]
    congr 1;rw [Bool.eq_iff_iff];simp only [beq_iff_eq,decide_eq_true_eq];omega
  · rw [if_neg q,decide_eq_false (fun a:QW z=>q a.2)];rfl
theorem SN{z:List Int}(hl:z.length≤maxLen):CU z=some (decide (QW z)):=by
  unfold CU uS
  have e:(fun y0=>xQ y0)=fun y:Int=>some (!decide (tG y)):=by
    funext y
    unfold xQ E2 sE
    rw [oL]
    by_cases q:y=0
    · have n:(y == 0)=true:=by simp only [beq_iff_eq];exact q
      rw [n,decide_eq_true (show tG y from .inl q)];rfl
    · have n:(y == 0)=false:=by simp only [beq_eq_false_iff_ne];exact q
      by_cases q2:oK y
      · rw [n,decide_eq_true q2,decide_eq_true (show tG y from .inr q2)];rfl
      · rw [n,decide_eq_false q2,decide_eq_false (fun a:tG y=>a.elim q q2)];rfl
  rw [e,yB hl,GH]
  by_cases h3:z.length=3
  · have n:((z.length:Int) == 3)=true:=by simp;omega
    have:QW z↔∀h∈z,tG h:=⟨fun a=>a.2,fun a=>⟨h3,a⟩⟩
    simp only [n,if_true,Option.bind_some,Bool.not_not,this]
  · have n:((z.length:Int) == 3)=false:=by simp;omega
    simp only [n,Bool.false_eq_true,if_false]
    rw [decide_eq_false (fun a:QW z=>h3 a.1)]
end Go.Gv
end
noncomputable section
set_option linter.unusedVariables false
set_option linter.unusedSimpArgs false
set_option linter.unusedSectionVars false
namespace Go.Gv
theorem JU{α:Type}(l:List α)(f:α→Bool){body:Int→Option (Step Int (Out Unit Int))}(hb:∀k (hk:k < l.length),body (k:Int)=if f l[k] then some (.stop (.ret (k:Int))) else some (.next ((k+1:Nat):Int)))(he:body (l.length:Int)=some (.stop (.brk ()))) :
    ∃o,loop body 0=some o∧match o with | .brk _=>l.any f=false | .ret r=>0≤r∧l.any f=true:=by
  have key:=aAE (f:=body) l.length (fun k=>(k:Int)) (fun k=>if (l.drop k).any f then Out.ret ((k+(l.drop k).findIdx f:Nat):Int) else Out.brk ()) (fun k hk=>by
    by_cases h:k < l.length
    · have hd:l.drop k=l[k] :: l.drop (k+1):=List.drop_eq_getElem_cons h
      rw [hb k h,hd]
      simp only [List.any_cons,List.findIdx_cons]
      by_cases h4:f l[k]=true
      · left;simp [h4]
      · right
        have h4:f l[k]=false:=by simpa using h4
        refine⟨h,by simp [h4],?_⟩
        simp only [h4,Bool.false_or,cond_false]
        congr 2;omega
    · left
      obtain rfl:k=l.length:=by omega
      rw [he];simp) 0 (Nat.zero_le _)
  rw [show((0:Nat):Int)=0 from rfl,List.drop_zero] at key
  refine⟨_,key,?_⟩
  by_cases h:l.any f=true
  · rw [if_pos h];exact⟨by omega,h⟩
  · rw [if_neg h];simpa using h
theorem HJ{l:List bC}(hl:l.length≤maxLen)(f:bC→Bool):d9 l (fun x=>some (f x))=some (l.any f):=by
  obtain⟨o,e,h⟩:=JU l f (body:=fV l (fun x=>some (f x))) (fun k hk=>by
    simp only [fV]
    rw [if_pos (by simp;omega),aQ hk,dP (iC hk hl)];rfl) (by simp [fV])
  unfold d9 mA
  rw [e]
  cases o with
  | brk u=>simp only at h;simp [jI,pD,h]
  | ret r=>simp only at h;simp [jI,h]
theorem FO{l:List aJ}(hl:l.length≤maxLen)(f:aJ→Bool)(g:aJ→Option Bool)(hg:∀x∈l,g x=some (f x)):dT l g=some (l.any f):=by
  obtain⟨o,e,h⟩:=JU l f (body:=fF l g) (fun k hk=>by
    simp only [fF]
    rw [if_pos (by simp;omega),aQ hk,dP (iC hk hl)]
    simp only [Option.bind_some,hg _ (List.getElem_mem hk)]) (by simp [fF])
  unfold dT kY
  rw [e]
  cases o with
  | brk u=>simp only at h;simp [iS,oO,h]
  | ret r=>simp only at h;simp [iS,h]
theorem FP{l:List aE}(hl:l.length≤maxLen)(f:aE→Bool)(g:aE→Option Bool)(hg:∀x∈l,g x=some (f x)):dU l g=some (l.any f):=by
  obtain⟨o,e,h⟩:=JU l f (body:=fH l g) (fun k hk=>by
    simp only [fH]
    rw [if_pos (by simp;omega),aQ hk,dP (iC hk hl)]
    simp only [Option.bind_some,hg _ (List.getElem_mem hk)]) (by simp [fH])
  unfold dU kZ
  rw [e]
  cases o with
  | brk u=>simp only at h;simp [iT,oP,h]
  | ret r=>simp only at h;simp [iT,h]
theorem contains_eq{l:List Int}(hl:l.length≤maxLen)(v:Int):jP l v=some (decide (v∈l)):=by
  obtain⟨o,e,h⟩:=JU l (fun x=>v == x) (body:=cP l v) (fun k hk=>by
    simp only [cP]
    rw [if_pos (by simp;omega),aQ hk,dP (iC hk hl)];rfl) (by simp [cP])
  have ha:l.any (fun x=>v == x)=decide (v∈l):=by
    rw [Bool.eq_iff_iff];simp
  rw [ha] at h
  unfold jP hU
  rw [e]
  cases o with
  | brk u=>simp only at h;simp [jO,wX,h]
  | ret r=>simp only at h;simp [jO,h]
theorem GL{l:List aE}{x:Int}:x∈bB l↔∃s∈l,x∈s.aK:=List.mem_flatMap
noncomputable section
variable {m:Mem} (hsh:dV m.aC) (hl:(cR m.aA).length≤1073741824) (hg:m.aA.Global.length≤maxLen) (ho:m.aA.aV.length≤maxLen)
include hl hg ho
theorem QX(s:Int):z9 m.aA s=some (decide (s∈cR m.aA)):=by
  have hb:(1073741824:Nat)≤maxLen:=by simp [maxLen]
  unfold z9
  rw [HF hl hg ho]
  simp only [Option.bind_some]
  rw [BG (by omega)];rfl
theorem FQ(s:Int):v9 m.aA s=some (decide (s∈cR m.aA)):=by
  have hb:(1073741824:Nat)≤maxLen:=by simp [maxLen]
  have hal:=iL m.aA
  have e1:∀x∈m.aA.Global,jJ x s=some (decide (s∈x.aK)):=fun x hx=>by
    have:=wF hx
    unfold jJ;rw [contains_eq (by omega)];rfl
  have e2:∀x∈m.aA.aV,jJ x s=some (decide (s∈x.aK)):=fun x hx=>by
    have:=wF hx
    unfold jJ;rw [contains_eq (by omega)];rfl
  unfold v9 sG
  rw [FP hg (fun x=>decide (s∈x.aK)) _ e1,FP ho (fun x=>decide (s∈x.aK)) _ e2]
  have a1:(m.aA.Global.any fun x=>decide (s∈x.aK))=decide (s∈bB m.aA.Global):=by
    rw [Bool.eq_iff_iff];simp [GL]
  have a2:(m.aA.aV.any fun x=>decide (s∈x.aK))=decide (s∈bB m.aA.aV):=by
    rw [Bool.eq_iff_iff];simp [GL]
  rw [a1,a2]
  simp only [Option.bind_some,cR,List.mem_append]
  by_cases q:s∈bB m.aA.Global <;> simp [q]
def gY(m:Mem)(s:Int):Int:=if cG m.aC s < 0 then 0 else if s∈cR m.aA then 1 else if 6 < lE m.aC s then 2 else 3
include hsh
theorem M6(s:Int):xH m s=some (gY m s):=by
  unfold xH gY
  rw [qI hsh,QX hl hg ho]
  simp only [Option.bind_some]
  by_cases q:cG m.aC s < 0
  · simp [q]
  · rw [pM hsh (by omega)]
    by_cases q2:s∈cR m.aA
    · simp [q,q2]
    · by_cases q3:6 < lE m.aC s <;> simp [q,q2,q3]
theorem M7(s:Int):xR m s=some (gY m s):=by
  unfold xR gY
  rw [lV hsh,FQ hl hg ho]
  simp only [Option.bind_some]
  by_cases q:cG m.aC s < 0
  · simp [q]
  · rw [vM hsh (by omega)]
    by_cases q2:s∈cR m.aA
    · simp [q,q2]
    · by_cases q3:6 < lE m.aC s <;> simp [q,q2,q3]
def tP(m:Mem)(h:Int):Prop:=oK h∧gY m (h % 32)=3∧lE m.aC (h % 32)=h / 32
instance (m:Mem) (h:Int):Decidable (tP m h):=by unfold tP;infer_instance
omit hl hg ho hsh in
theorem FR{m:Mem}{s:Int}(h:gY m s=3):0≤cG m.aC s:=by
  unfold gY at h
  split at h
  · omega
  · omega
theorem D6(h:Int):rM m h=some (decide (tP m h)):=by
  unfold rM lN
  rw [hY,fM]
  by_cases q:oK h
  · have hm:=q.mod
    rw [decide_eq_true q,if_pos q]
    simp only [Option.bind_some,if_true,M6 hsh hl hg ho]
    by_cases q2:gY m (h % 32)=3
    · have n:(gY m (h % 32) == 3)=true:=by simpa using q2
      have eg:rL h=some (h / 32):=by
        unfold rL
        unfold oK at q
        rw [hY,decide_eq_true (show oK h from q),y8 (by omega),aR (by omega) (by omega)];rfl
      rw [n,pM hsh (FR q2),eg]
      simp only [if_true,Option.bind_some]
      congr 1;rw [Bool.eq_iff_iff];simp only [beq_iff_eq,decide_eq_true_eq]
      exact⟨fun a=>⟨q,q2,a⟩,fun a=>a.2.2⟩
    · have n:(gY m (h % 32) == 3)=false:=by simpa using q2
      rw [n,decide_eq_false (fun a:tP m h=>q2 a.2.1)];rfl
  · rw [decide_eq_false q,decide_eq_false (fun a:tP m h=>q a.1)];rfl
theorem FT(h:Int):wA m h=some (decide (tP m h)):=by
  unfold wA nA
  rw [oL]
  by_cases q:oK h
  · have hm:=q.mod
    rw [decide_eq_true q,hm.1]
    simp only [Option.bind_some,if_true,M7 hsh hl hg ho]
    by_cases q2:gY m (h % 32)=3
    · have n:(gY m (h % 32) == 3)=true:=by simpa using q2
      have eg:a8 (Int.tdiv h 32)=h / 32:=by
        unfold oK at q
        rw [y8 (by omega),aR (by omega) (by omega)]
      rw [n,vM hsh (FR q2),eg]
      simp only [if_true,Option.bind_some]
      congr 1;rw [Bool.eq_iff_iff];simp only [beq_iff_eq,decide_eq_true_eq]
      exact⟨fun a=>⟨q,q2,a⟩,fun a=>a.2.2⟩
    · have n:(gY m (h % 32) == 3)=false:=by simpa using q2
      rw [n,decide_eq_false (fun a:tP m h=>q2 a.2.1)];rfl
  · rw [decide_eq_false q,decide_eq_false (fun a:tP m h=>q a.1)];rfl
end
def oM(b:aM)(r:bC):Prop:=tP b.Mem r.Handle∧r.aG≤b.aD.aG
instance (b:aM) (r:bC):Decidable (oM b r):=by unfold oM;infer_instance
def yC(b:aM):Prop:=(uD b.Mem∧K4 b.aD∧mM b.aL∧QW b.cB)∧∀r∈aX b.aL,oM b r
instance (b:aM):Decidable (yC b):=by unfold yC;infer_instance
def qX(b:aM):Prop:=lF b.Mem∧b.aD.aP.length≤1048576∧b.aL.length≤1048576∧(aX b.aL).length≤1048576∧b.cB.length≤1048576
noncomputable section
variable {b:aM} (hf:b.Mem.aC.Bytes.length≤maxLen∧(cR b.Mem.aA).length≤1073741824∧b.aD.aP.length≤maxLen∧b.aL.length≤maxLen∧(aX b.aL).length≤1073741824∧b.cB.length≤maxLen)
include hf
theorem QY:AA b=some (decide (yC b)):=by
  obtain⟨f1,f2,f3,f4,f5,f6⟩:=hf
  unfold AA jY
  rw [SK f1 f2,qJ,M5 f5 f4,SM f6]
  by_cases q1:uD b.Mem
  · by_cases q2:K4 b.aD
    · by_cases q3:mM b.aL
      · by_cases q4:QW b.cB
        · have hg:b.Mem.aA.Global.length≤maxLen:=by rw [q1.1.2.1];simp [maxLen]
          have ho:b.Mem.aA.aV.length≤maxLen:=by rw [q1.1.2.2.1];simp [maxLen]
          have hmx:(1073741824:Nat)≤maxLen:=by simp [maxLen]
          simp only [decide_eq_true q1,decide_eq_true q2,decide_eq_true q3,decide_eq_true q4,Option.bind_some,Bool.not_true,Bool.false_eq_true,if_false]
          rw [zF f5 f4]
          simp only [Option.bind_some]
          have hst:∀k (hk:k < (aX b.aL).length),mZ b (aX b.aL) (k:Int)=if oM b (aX b.aL)[k] then some (.next ((k+1:Nat):Int)) else some (.stop (Out.ret false)):=by
            intro k hk
            simp only [mZ,rN]
            rw [if_pos (by simp;omega),aQ hk,dP (show k < maxLen by omega)]
            generalize (aX b.aL)[k]=r
            simp only [Option.bind_some,D6 q1.1.1.1 f2 hg ho]
            by_cases a1:tP b.Mem r.Handle
            · rw [decide_eq_true a1]
              simp only [Bool.not_true,Bool.false_eq_true,if_false]
              by_cases a2:r.aG≤b.aD.aG
              · rw [if_neg (by simp;omega),if_pos ⟨a1,a2⟩]
              · rw [if_pos (by simp;omega),if_neg (fun x=>a2 x.2)]
            · rw [decide_eq_false a1]
              simp only [Bool.not_false,if_true]
              rw [if_neg (fun x=>a1 x.1)]
          have key:=kL (f:=mZ b (aX b.aL)) (aX b.aL) (fun k=>(k:Int)) (oM b) (Out.brk ()) (Out.ret false) (fun k hk hx=>by rw [hst k hk,if_pos hx]) (fun k hk hx=>by rw [hst k hk,if_neg hx]) (by simp [mZ])
          rw [show((0:Nat):Int)=0 from rfl] at key
          rw [key]
          by_cases q:∀r∈aX b.aL,oM b r
          · rw [if_pos q,decide_eq_true (show yC b from ⟨⟨q1,q2,q3,q4⟩,q⟩)];rfl
          · rw [if_neg q,decide_eq_false (fun x:yC b=>q x.2)];rfl
        · rw [decide_eq_false (fun x:yC b=>q4 x.1.2.2.2),decide_eq_true q1,decide_eq_true q2,decide_eq_true q3,decide_eq_false q4];rfl
      · rw [decide_eq_false (fun x:yC b=>q3 x.1.2.2.1),decide_eq_true q1,decide_eq_true q2,decide_eq_false q3];rfl
    · rw [decide_eq_false (fun x:yC b=>q2 x.1.2.1),decide_eq_true q1,decide_eq_false q2];rfl
  · rw [decide_eq_false (fun x:yC b=>q1 x.1.1),decide_eq_false q1];rfl
theorem QZ:AK b=some (decide (yC b)):=by
  obtain⟨f1,f2,f3,f4,f5,f6⟩:=hf
  unfold AK j9
  rw [SL f1 f2,qK f3,qL f5,SN f6]
  by_cases q1:uD b.Mem
  · by_cases q2:K4 b.aD
    · by_cases q3:mM b.aL
      · by_cases q4:QW b.cB
        · have hg:b.Mem.aA.Global.length≤maxLen:=by rw [q1.1.2.1];simp [maxLen]
          have ho:b.Mem.aA.aV.length≤maxLen:=by rw [q1.1.2.2.1];simp [maxLen]
          have hmx:(1073741824:Nat)≤maxLen:=by simp [maxLen]
          simp only [decide_eq_true q1,decide_eq_true q2,decide_eq_true q3,decide_eq_true q4,Option.bind_some,Bool.not_true,Bool.false_eq_true,if_false]
          have e1:(fun y0=>p9 y0 b)=fun r:bC=>some (!decide (oM b r)):=by
            funext r
            unfold p9 k9
            rw [FT q1.1.1.1 f2 hg ho]
            by_cases a1:tP b.Mem r.Handle
            · by_cases a2:r.aG≤b.aD.aG
              · rw [decide_eq_true a1,decide_eq_true (show oM b r from ⟨a1,a2⟩),decide_eq_false (show ¬b.aD.aG < r.aG by omega)];rfl
              · rw [decide_eq_true a1,decide_eq_false (fun x:oM b r=>a2 x.2),decide_eq_true (show b.aD.aG < r.aG by omega)];rfl
            · rw [decide_eq_false a1,decide_eq_false (fun x:oM b r=>a1 x.1)];rfl
          have e2:∀l∈b.aL,(fun y0=>uT y0 b) l=some (!decide (∀r∈l.Rows,oM b r)):=fun l hl=>by
            have:=CA hl
            simp only [uT]
            rw [e1,HJ (by omega),GH];rfl
          rw [FO f4 _ _ e2,GH]
          have hiff:yC b↔∀l∈b.aL,∀r∈l.Rows,oM b r:=by
            constructor
            · intro x l hl r hr
              exact x.2 r (List.mem_flatMap.2 ⟨l,hl,hr⟩)
            · intro x
              refine⟨⟨q1,q2,q3,q4⟩,fun r hr=>?_⟩
              obtain⟨l,hl,hr⟩:=List.mem_flatMap.1 hr
              exact x l hl r hr
          simp only [Option.bind_some,Bool.not_not,hiff]
        · rw [decide_eq_false (fun x:yC b=>q4 x.1.2.2.2),decide_eq_true q1,decide_eq_true q2,decide_eq_true q3,decide_eq_false q4];rfl
      · rw [decide_eq_false (fun x:yC b=>q3 x.1.2.2.1),decide_eq_true q1,decide_eq_true q2,decide_eq_false q3];rfl
    · rw [decide_eq_false (fun x:yC b=>q2 x.1.2.1),decide_eq_true q1,decide_eq_false q2];rfl
  · rw [decide_eq_false (fun x:yC b=>q1 x.1.1),decide_eq_false q1];rfl
end
end Go.Gv
end
noncomputable section
set_option linter.unusedVariables false
set_option linter.unusedSimpArgs false
set_option linter.unusedSectionVars false
namespace Go.Gv
theorem aF9{m:Mem}(hf:fit m):∃x,tV m 1048576=some x∧(¬x < 0→lF m∧x≤1048576∧0≤x):=by
  obtain⟨x,h1,h2⟩:=aD6 hf
  have f1:m.aC.Bytes.length≤maxLen:=hf.1.1.1
  have f2:m.aC.Class.length≤maxLen:=hf.1.2.1
  have f3:m.aA.Global.length≤maxLen:=hf.2.1.1
  have f4:m.aA.aV.length≤maxLen:=hf.2.2.1
  have f5:∀s∈m.aA.Global,s.aK.length≤maxLen:=fun s h=>(hf.2.1.2 s h).1
  have f6:∀s∈m.aA.aV,s.aK.length≤maxLen:=fun s h=>(hf.2.2.2 s h).1
  refine⟨x,h1,fun q=>⟨h2 q,?_,by omega⟩⟩
  unfold tV zY w7 at h1
  obtain⟨x1,a1,b1⟩:=yH f1 (n:=1048576) (by omega) (by omega)
  rw [a1] at h1
  by_cases q1:x1 < 0
  · simp [q1] at h1;omega
  · have b1:=b1 q1
    obtain⟨x2,a2,b2⟩:=yH f2 (n:=x1) (by omega) (by omega)
    simp only [Option.bind_some,decide_eq_false q1,Bool.false_eq_true,if_false,a2] at h1
    by_cases q2:x2 < 0
    · simp [q2] at h1;omega
    · have b2:=b2 q2
      obtain⟨x3,a3,b3⟩:=AS f3 f5 (n:=x2) (by omega) (by omega)
      simp only [Option.bind_some,decide_eq_false q2,Bool.false_eq_true,if_false,a3] at h1
      by_cases q3:x3 < 0
      · simp [q3] at h1;omega
      · have b3:=b3 q3
        obtain⟨x4,a4,b4⟩:=AS f4 f6 (n:=x3) (by omega) (by omega)
        simp only [Option.bind_some,decide_eq_false q3,Bool.false_eq_true,if_false,a4] at h1
        by_cases q4:x4 < 0
        · simp [q4] at h1;omega
        · have b4:=b4 q4
          simp [q4] at h1;omega
theorem XZ{l:List bC}(hl:l.length≤maxLen){n:Int}(h0:0≤n)(h1:n≤1048576):∃x,w8 l n=some x∧(¬x < 0→x=n - l.length∧0≤x):=by
  have hm:l.length≤9223372036854775807:=hl
  unfold w8
  rw [aR (by omega) (by omega)]
  by_cases h:n - l.length < 0
  · exact⟨-1,by simp [h],by omega⟩
  · exact⟨n - l.length,by simp [h],fun _=>⟨rfl,by omega⟩⟩
theorem WL{l:List aJ}(hl:l.length≤maxLen)(hs:∀s∈l,s.Rows.length≤maxLen){n:Int}(h0:0≤n)(h1:n≤1048576):∃x,uH l n=some x∧(¬x < 0→x=n - (l.length+(aX l).length:Nat)∧0≤x):=by
  have hm:l.length≤9223372036854775807:=hl
  unfold uH
  rw [aR (by omega) (by omega)]
  by_cases h:n - l.length < 0
  · exact⟨-1,by simp [h],by omega⟩
  · have key:=VN (f:=nS l) (fun s=>(l.length:Int).toNat - s.2.toNat) (fun s=>∃k:Nat,s.2=(k:Int)∧k≤l.length∧s.1=n - l.length - (aX (l.take k)).length∧0≤s.1) (fun o=>match o with | .brk x=>x=n - (l.length+(aX l).length:Nat)∧0≤x | .ret x=>x = -1) (by
      rintro⟨a,b⟩ ⟨k,rfl,hk,ha,ha0⟩
      simp only at ha ha0
      by_cases hk':k < l.length
      · have hlen:=hs _ (List.getElem_mem hk')
        have hf:=nN hk'
        have hfl:(aX (l.take (k+1))).length=(aX (l.take k)).length+l[k].Rows.length:=by rw [hf];simp
        obtain⟨x,e1,e2⟩:=XZ hlen (n:=a) ha0 (by omega)
        have e3:w9 l[k] a=some (if x < 0 then -1 else x):=by
          unfold w9;rw [e1]
          by_cases q:x < 0 <;> simp [q]
        simp only [nS]
        rw [if_pos (by simp;omega),aQ hk']
        simp only [Option.bind_some,e3]
        by_cases q:x < 0
        · left;exact⟨.ret (-1),by simp [q],rfl⟩
        · right
          have:=e2 q
          refine⟨(x,((k+1:Nat):Int)),?_,⟨k+1,rfl,by omega,by simp only;omega,by simp only;omega⟩,by simp only;omega⟩
          rw [dP (iC hk' hl)]
          simp [q]
      · obtain rfl:k=l.length:=by omega
        left
        refine⟨.brk a,by simp [nS],?_⟩
        rw [List.take_length] at ha
        exact⟨by omega,ha0⟩) (n - l.length,0) ⟨0,rfl,Nat.zero_le _,by simp [aX],by simp only;omega⟩
    obtain⟨o,e1,e2⟩:=key
    rw [if_neg (by simpa using h),e1]
    cases o with
    | brk x=>exact⟨x,rfl,fun _=>e2⟩
    | ret x=>exact⟨x,rfl,fun q=>absurd (show x < 0 by have:x = -1:=e2;omega) q⟩
theorem aAK{b:aM}(hf:fit b):∃x,z0 b 1048576=some x∧(¬x < 0→qX b):=by
  have f1:fit b.Mem:=hf.1
  have f2:b.aD.aP.length≤maxLen:=hf.2.1.2.1
  have f3:b.aL.length≤maxLen:=hf.2.2.1.1
  have f4:∀s∈b.aL,s.Rows.length≤maxLen:=fun s h=>(hf.2.2.1.2 s h).1
  have f5:b.cB.length≤maxLen:=hf.2.2.2.1
  have f2':b.aD.aP.length≤9223372036854775807:=f2
  unfold z0
  obtain⟨x1,a1,b1⟩:=aF9 f1
  rw [a1]
  by_cases q1:x1 < 0
  · exact⟨-1,by simp [q1],fun h=>absurd (by omega) h⟩
  · have b1:=b1 q1
    simp only [Option.bind_some,decide_eq_false q1,Bool.false_eq_true,if_false,CH]
    rw [aAG,aR (by omega) (by omega)]
    by_cases q2:x1 - b.aD.aP.length < 0
    · exact⟨-1,by simp [q2],fun h=>absurd (by omega) h⟩
    · obtain⟨x3,a3,b3⟩:=WL f3 f4 (n:=x1 - b.aD.aP.length) (by omega) (by omega)
      simp only [if_neg q2,Option.bind_some,decide_eq_false q2,Bool.false_eq_true,if_false,a3]
      by_cases q3:x3 < 0
      · exact⟨-1,by simp [q3],fun h=>absurd (by omega) h⟩
      · have b3:=b3 q3
        obtain⟨x4,a4,b4⟩:=yH f5 (n:=x3) (by omega) (by omega)
        simp only [Option.bind_some,decide_eq_false q3,Bool.false_eq_true,if_false,a4]
        by_cases q4:x4 < 0
        · exact⟨-1,by simp [q4],fun h=>absurd (by omega) h⟩
        · have b4:=b4 q4
          refine⟨x4,by simp [q4],fun _=>⟨b1.1,by omega,by omega,by omega,by omega⟩⟩
theorem X0{l:List bC}(hl:l.length≤1048576):xN l=some l:=by
  unfold xN
  rw [bE (by omega),Int.toNat_natCast,BN l id]
  · simp [DN,DM]
  · intro acc k hk he
    simp only [wP]
    rw [if_pos (by simp;omega),aQ hk]
    simp only [Option.bind_some,E0]
    rw [aQ (by omega)]
    simp only [Option.bind_some]
    rw [aR (by omega) (by omega)]
    simp
  · intro acc
    simp [wP]
theorem WM{l:List aJ}(hl:l.length≤1048576)(hs:∀s∈l,s.Rows.length≤1048576):uN l=some l:=by
  unfold uN
  rw [bE (by omega),Int.toNat_natCast,BN l id]
  · simp [BU,BT]
  · intro acc k hk he
    simp only [tY]
    rw [if_pos (by simp;omega),aQ hk]
    simp only [Option.bind_some,CR,X0 (hs _ (List.getElem_mem hk))]
    rw [aQ (by omega)]
    simp only [Option.bind_some]
    rw [aR (by omega) (by omega)]
    simp
  · intro acc
    simp [tY]
theorem qX.rows{b:aM}(h:qX b):∀s∈b.aL,s.Rows.length≤1048576:=fun s hs=>by
  have:=CA hs;have:=h.2.2.2.1;omega
theorem aAL{b:aM}(h:qX b):m4 b=some b:=by
  unfold m4
  rw [aD7 h.1,XY h.2.1,WM h.2.2.1 h.rows,GJ h.2.2.2.2];rfl
end Go.Gv
end
noncomputable section
set_option linter.unusedVariables false
set_option linter.unusedSimpArgs false
set_option linter.unusedSectionVars false
namespace Go.Gv
theorem U5{l:List bC}(hl:l.length≤maxLen):xZ l l=some true:=by
  unfold xZ
  have key:loop (lS l l) 0=some (Out.brk ()):=by
    refine dX (f:=lS l l) l.length (fun k=>(k:Int)) _ (fun k hk=>?_) ?_
    · simp only [lS]
      rw [if_pos (by simp;omega),aQ hk,dP (iC hk hl)]
      simp [FA]
    · simp [lS]
  simp [key,DS,DR]
theorem SO{l:List aJ}(hl:l.length≤maxLen)(hs:∀s∈l,s.Rows.length≤maxLen):uZ l l=some true:=by
  unfold uZ
  have key:loop (kE l l) 0=some (Out.brk ()):=by
    refine dX (f:=kE l l) l.length (fun k=>(k:Int)) _ (fun k hk=>?_) ?_
    · simp only [kE]
      rw [if_pos (by simp;omega),aQ hk]
      simp only [Option.bind_some,C3,U5 (hs _ (List.getElem_mem hk))]
      rw [dP (iC hk hl)];rfl
    · simp [kE]
  simp [key,B3,BZ]
theorem LJ{b:aM}(h:qX b):nG b b=some true:=by
  have hb:(1048576:Nat)≤maxLen:=by simp [maxLen]
  have h2:=h.2.1;have h3:=h.2.2.1;have h4:=h.2.2.2.1;have h5:=h.2.2.2.2
  unfold nG
  rw [XX h.1,U4 (by omega),SO (by omega) (fun s hs=>by have:=CA hs;omega),AR (by omega)];rfl
end Go.Gv
end
noncomputable section
set_option linter.unusedVariables false
set_option linter.unusedSimpArgs false
set_option linter.unusedSectionVars false
namespace Go.Gv
def zG(k:Int)(n:Nat):List Int:=(List.range n).map fun j:Nat=>k+j
theorem zH(k:Int)(n:Nat):(zG k n).length=n:=by simp [zG]
theorem aAM(k:Int)(n:Nat):zG k (n+1)=zG k n ++ [k+n]:=by simp [zG,List.range_succ]
theorem rI{l:List Int}{k:Int}(hl:l.length≤1073741824)(h0:0≤k)(h1:k≤4611686018427387904):fW l k=some (k+l.length,zG k l.length):=by
  unfold fW
  have key:loop fL (l,k,0)=some (zG k l.length,k+l.length):=by
    have:=dX (f:=fL) l.length (fun i=>(zG k i++l.drop i,k+i,(i:Int))) (zG k l.length,k+l.length) (fun i hi=>?_) ?_
    · simpa [zG] using this
    · have hlen:(zG k i++l.drop i).length=l.length:=by rw [List.length_append,zH,List.length_drop];omega
      have hd:l.drop i=l[i] :: l.drop (i+1):=List.drop_eq_getElem_cons hi
      simp only [fL]
      rw [if_pos (by rw [hlen];simp;omega),aQ (by omega)]
      simp only [Option.bind_some,Int.toNat_natCast]
      rw [List.set_append_right _ _ (by rw [zH];exact Nat.le_refl _),zH,Nat.sub_self,hd,List.set_cons_zero,aAM,aR (x:=k+i+1) (by omega) (by omega),aR (by omega) (by omega),List.append_assoc]
      have:k+(i:Int)+1=k+((i+1:Nat):Int):=by omega
      rw [this];rfl
    · have hlen:(zG k l.length++l.drop l.length).length=l.length:=by rw [List.length_append,zH,List.length_drop];omega
      simp only [fL]
      rw [if_neg (by rw [hlen];simp),List.drop_length,List.append_nil]
  rw [key];rfl
theorem AT{k:Int}{n:Nat}(hn:n≤1073741824)(h0:0≤k)(h1:k≤4611686018427387904):jK (zG k n) k=some (k+n):=by
  unfold jK
  have key:loop (kH (zG k n)) (k,0)=some (.brk (k+n)):=by
    have:=dX (f:=kH (zG k n)) n (fun i=>(k+i,(i:Int))) (.brk (k+n)) (fun i hi=>?_) ?_
    · simpa using this
    · have hi':i < (zG k n).length:=by rw [zH];exact hi
      have hg:(zG k n)[i]=k+i:=by simp [zG]
      simp only [kH]
      rw [if_pos (by rw [zH];simp;omega),aQ hi',hg]
      simp only [Option.bind_some,bne_self_eq_false,Bool.false_eq_true,if_false]
      rw [aR (x:=k+i+1) (by omega) (by omega),aR (by omega) (by omega)]
      have:k+(i:Int)+1=k+((i+1:Nat):Int):=by omega
      rw [this];rfl
    · simp only [kH]
      rw [if_neg (by rw [zH];simp)]
  rw [key];rfl
def tH:Int→List aE→List aE
  | _,[]=>[]
  | k,s :: r=>⟨zG k s.aK.length⟩ :: tH (k+s.aK.length) r
theorem zI:∀(k:Int) (l:List aE),(tH k l).length=l.length
  | _,[]=>rfl
  | k,s :: r=>by simp [tH,zI]
theorem FU:∀(k:Int) (a b:List aE),tH k (a++b)=tH k a++tH (k+(bB a).length) b
  | k,[],b=>by simp [tH,bB]
  | k, s :: r, b => by
    simp only [List.cons_append,tH,FU _ r b]
    congr 3
    have:bB (s :: r)=s.aK++bB r:=by simp [bB]
    rw [this,List.length_append];omega
theorem aAN{k:Int}{l:List aE}{i:Nat}(hi:i < l.length):tH k (l.take (i+1))=tH k (l.take i) ++ [⟨zG (k+(bB (l.take i)).length) l[i].aK.length⟩]:=by
  rw [List.take_succ_eq_append_getElem hi,FU];rfl
theorem vN{l:List aE}{k:Int}(hl:l.length≤1073741824)(hf:(bB l).length≤1073741824)(h0:0≤k)(h1:k≤1000000000000):gP l k=some (k+(bB l).length,tH k l):=by
  unfold gP
  have key:loop eI (l,k,0)=some (tH k l,k+(bB l).length):=by
    have:=dX (f:=eI) l.length (fun i=>(tH k (l.take i)++l.drop i,k+(bB (l.take i)).length,(i:Int))) (tH k l,k+(bB l).length) (fun i hi=>?_) ?_
    · simpa [tH,bB,-List.length_flatMap] using this
    · have hll:(tH k (l.take i)).length=i:=by rw [zI,List.length_take];omega
      have hlen:(tH k (l.take i)++l.drop i).length=l.length:=by rw [List.length_append,hll,List.length_drop];omega
      have hd:l.drop i=l[i] :: l.drop (i+1):=List.drop_eq_getElem_cons hi
      have hgi:=zE l hi
      have hfi:=JR l i
      have hft:(bB (l.take (i+1))).length=(bB (l.take i)).length+l[i].aK.length:=by rw [rH hi,List.length_append]
      have hget:(tH k (l.take i)++l.drop i)[i]'(by omega)=l[i]:=by
        rw [List.getElem_append_right (by omega)];simp [hll]
      simp only [eI]
      rw [if_pos (by rw [hlen];simp;omega),aQ (by omega),hget]
      simp only [Option.bind_some,Int.toNat_natCast]
      rw [rI (by omega) (by omega) (by omega)]
      simp only [Option.bind_some]
      rw [List.set_append_right _ _ (by omega),hll,Nat.sub_self,hd,List.set_cons_zero,aAN hi,aR (by omega) (by omega),List.append_assoc]
      have:k+((bB (l.take i)).length:Int)+(l[i].aK.length:Int)=k+((bB (l.take (i+1))).length:Int):=by omega
      rw [this];rfl
    · have hlen:(tH k (l.take l.length)++l.drop l.length).length=l.length:=by rw [List.length_append,zI,List.length_take,List.length_drop];omega
      simp only [eI]
      rw [if_neg (by rw [hlen];simp),List.drop_length,List.append_nil,List.take_length]
  rw [key];rfl
theorem HK{l:List aE}{k:Int}(hl:l.length≤1073741824)(hf:(bB l).length≤1073741824)(h0:0≤k)(h1:k≤1000000000000):lT (tH k l) k=some (k+(bB l).length):=by
  unfold lT
  have key:loop (iH (tH k l)) (k,0)=some (.brk (k+(bB l).length)):=by
    have:=dX (f:=iH (tH k l)) l.length (fun i=>(k+(bB (l.take i)).length,(i:Int))) (.brk (k+(bB l).length)) (fun i hi=>?_) ?_
    · simpa [bB,-List.length_flatMap] using this
    · have hgi:=zE l hi
      have hfi:=JR l i
      have hft:(bB (l.take (i+1))).length=(bB (l.take i)).length+l[i].aK.length:=by rw [rH hi,List.length_append]
      have hi':i < (tH k l).length:=by rw [zI];exact hi
      have hget:(tH k l)[i]=⟨zG (k+(bB (l.take i)).length) l[i].aK.length⟩:=by
        have hsp:l=l.take i++l[i] :: l.drop (i+1):=by rw [←List.drop_eq_getElem_cons hi,List.take_append_drop]
        have e:tH k l=tH k (l.take i)++(⟨zG (k+(bB (l.take i)).length) l[i].aK.length⟩ :: tH (k+(bB (l.take i)).length+l[i].aK.length) (l.drop (i+1))):=by
          conv=>lhs;rw [hsp]
          rw [FU];rfl
        have hll:(tH k (l.take i)).length=i:=by rw [zI,List.length_take];omega
        have:(tH k l)[i]?=some ⟨zG (k+(bB (l.take i)).length) l[i].aK.length⟩:=by
          rw [e,List.getElem?_append_right (by omega),hll,Nat.sub_self];rfl
        rw [List.getElem?_eq_getElem hi'] at this
        exact Option.some.inj this
      simp only [iH]
      rw [if_pos (by rw [zI];simp;omega),aQ hi',hget]
      simp only [Option.bind_some]
      rw [AT (by omega) (by omega) (by omega)]
      simp only [Option.bind_some]
      rw [if_neg (by simp only [decide_eq_true_eq];omega),aR (by omega) (by omega)]
      have:k+((bB (l.take i)).length:Int)+(l[i].aK.length:Int)=k+((bB (l.take (i+1))).length:Int):=by omega
      rw [this];rfl
    · simp only [iH]
      rw [if_neg (by rw [zI];simp),List.take_length]
  rw [key];rfl
theorem aAO{m:Mem}(h:lF m):∃n a b c d,oF m 1=some (n,a,b,c,d)∧sQ ⟨⟨a,b⟩,⟨c,d⟩⟩ 1=some n∧0≤n:=by
  have h1:=h.1;have h2:=h.2.1;have h3:=h.2.2.1;have h4:=h.2.2.2.1;have h5:=h.2.2.2.2
  have h6:=iL m.aA
  unfold oF vA sO sQ A8 y4
  rw [rI (by omega) (by omega) (by omega)]
  simp only [Option.bind_some]
  rw [rI (by omega) (by omega) (by omega)]
  simp only [Option.bind_some]
  rw [vN (by omega) (by omega) (by omega) (by omega)]
  simp only [Option.bind_some]
  rw [vN (by omega) (by omega) (by omega) (by omega)]
  simp only [Option.bind_some]
  refine⟨_,_,_,_,_,rfl,?_,?_⟩
  · rw [AT (by omega) (by omega) (by omega)]
    simp only [Option.bind_some]
    rw [if_neg (by simp only [decide_eq_true_eq];omega),AT (by omega) (by omega) (by omega)]
    simp only [Option.bind_some]
    rw [if_neg (by simp only [decide_eq_true_eq];omega)]
    simp only [Option.bind_some]
    rw [if_neg (by simp only [decide_eq_true_eq];omega),HK (by omega) (by omega) (by omega) (by omega)]
    simp only [Option.bind_some]
    rw [if_neg (by simp only [decide_eq_true_eq];omega),HK (by omega) (by omega) (by omega) (by omega)]
    simp only [Option.bind_some]
    rw [if_neg (by simp only [decide_eq_true_eq];omega)]
    simp only [Option.bind_some]
    rw [if_neg (by simp only [decide_eq_true_eq];omega)]
  · omega
end Go.Gv
end
noncomputable section
set_option linter.unusedVariables false
set_option linter.unusedSimpArgs false
set_option linter.unusedSectionVars false
namespace Go.Gv
def yD{α:Type}(mk:Int→α)(c:Nat)(k:Int)(n:Nat):List α:=(List.range n).map fun j:Nat=>mk (k+((c * j:Nat):Int))
noncomputable section
variable {α:Type} {mk:Int→α} {c:Nat}
theorem nO(k:Int)(n:Nat):(yD mk c k n).length=n:=by simp [yD]
theorem aAP(k:Int)(n:Nat):yD mk c k (n+1)=yD mk c k n ++ [mk (k+((c * n:Nat):Int))]:=by simp [yD,List.range_succ]
theorem TL{f:(List α×Int×Int)→Option (Step (List α×Int×Int) (List α×Int))}{l:List α}{k:Int}(hc:c≤4)(hl:l.length≤1073741824)(h0:0≤k)(h1:k≤1000000000000)
    (hb:∀(l:List α) (k:Int) (i:Nat),i < l.length→l.length≤1073741824→0≤k→k≤2000000000000→f (l,k,(i:Int))=some (.next (l.set i (mk k),k+c,((i+1:Nat):Int)))) (he:∀(l:List α) (k:Int),f (l,k,(l.length:Int))=some (.stop (l,k))) :
    loop f (l,k,0)=some (yD mk c k l.length,k+((c * l.length:Nat):Int)):=by
  have hcm:∀i,i≤l.length→c * i≤4 * 1073741824:=fun i hi=>Nat.mul_le_mul hc (by omega)
  have:=dX (f:=f) l.length (fun i=>(yD mk c k i++l.drop i,k+((c * i:Nat):Int),(i:Int))) (yD mk c k l.length,k+((c * l.length:Nat):Int)) (fun i hi=>?_) ?_
  · simpa [yD] using this
  · have hlen:(yD mk c k i++l.drop i).length=l.length:=by rw [List.length_append,nO,List.length_drop];omega
    have hd:l.drop i=l[i] :: l.drop (i+1):=List.drop_eq_getElem_cons hi
    have hci:=hcm i (by omega)
    rw [hb _ _ i (by omega) (by omega) (by omega) (by omega)]
    rw [List.set_append_right _ _ (by rw [nO];exact Nat.le_refl _),nO,Nat.sub_self,hd,List.set_cons_zero,aAP,List.append_assoc]
    have:k+((c * i:Nat):Int)+(c:Int)=k+((c * (i+1):Nat):Int):=by rw [Nat.mul_add];omega
    rw [this];rfl
  · have hlen:(yD mk c k l.length++l.drop l.length).length=l.length:=by rw [List.length_append,nO,List.length_drop];omega
    have:=he (yD mk c k l.length++l.drop l.length) (k+((c * l.length:Nat):Int))
    rw [hlen] at this
    rw [this,List.drop_length,List.append_nil]
theorem TM{f:(Int×Int)→Option (Step (Int×Int) (Out Int Int))}{k:Int}{n:Nat}(hc:c≤4)(hn:n≤1073741824)(h0:0≤k)(h1:k≤1000000000000)
    (hb:∀(q:Int) (i:Nat) (hi:i < (yD mk c k n).length),(yD mk c k n)[i]=mk q→0≤q→q≤2000000000000→f (q,(i:Int))=some (.next (q+c,((i+1:Nat):Int)))) (he:∀q:Int,f (q,(n:Int))=some (.stop (.brk q))) :
    loop f (k,0)=some (.brk (k+((c * n:Nat):Int))):=by
  have hcm:∀i,i≤n→c * i≤4 * 1073741824:=fun i hi=>Nat.mul_le_mul hc (by omega)
  have:=dX (f:=f) n (fun i=>(k+((c * i:Nat):Int),(i:Int))) (.brk (k+((c * n:Nat):Int))) (fun i hi=>?_) (he _)
  · simpa using this
  · have hci:=hcm i (by omega)
    rw [hb (k+((c * i:Nat):Int)) i (by rw [nO];exact hi) (by simp [yD]) (by omega) (by omega)]
    have:k+((c * i:Nat):Int)+(c:Int)=k+((c * (i+1):Nat):Int):=by rw [Nat.mul_add];omega
    rw [this]
end
def WN(k:Int):cL:=⟨Int.tmod k 3 == 0,k+1,Int.tmod (k+2) 3 == 0,k+3⟩
def HL(k:Int):bC:=⟨k,k+1⟩
theorem WO{l:List cL}{k:Int}(hl:l.length≤1073741824)(h0:0≤k)(h1:k≤1000000000000):l6 l k=some (k+((4 * l.length:Nat):Int),yD WN 4 k l.length):=by
  unfold l6
  rw [TL (mk:=WN) (c:=4) (by omega) hl h0 h1 ?_ ?_]
  · rfl
  · intro l k i hi hl h0 h1
    have e1:a8 (k+1)=k+1:=aR (by omega) (by omega)
    have e2:a8 (k+1+1)=k+2:=by rw [aR (by omega) (by omega)];omega
    have e3:a8 (k+2+1)=k+3:=by rw [aR (by omega) (by omega)];omega
    have e4:a8 (k+3+1)=k+(4:Nat):=by rw [aR (by omega) (by omega)];omega
    simp only [kG,e1,e2,e3,e4,Int.toNat_natCast]
    rw [if_pos (by simp;omega),aQ hi]
    simp only [Option.bind_some]
    rw [aQ (by simpa using hi)]
    simp only [Option.bind_some]
    rw [aQ (by simpa using hi)]
    simp only [Option.bind_some]
    rw [aQ (by simpa using hi)]
    simp only [Option.bind_some,List.set_set,List.getElem_set_self]
    rw [aR (x:=(i:Int)+1) (by omega) (by omega)];rfl
  · intro l k
    simp [kG]
theorem WQ{k:Int}{n:Nat}(hn:n≤1073741824)(h0:0≤k)(h1:k≤1000000000000):vB (yD WN 4 k n) k=some (k+((4 * n:Nat):Int)):=by
  unfold vB
  rw [TM (mk:=WN) (c:=4) (by omega) hn h0 h1 ?_ ?_]
  · rfl
  · intro q i hi hg hq0 hq1
    have hin:i < n:=by rw [nO] at hi;exact hi
    have e1:a8 (q+1)=q+1:=aR (by omega) (by omega)
    have e2:a8 (q+1+1)=q+2:=by rw [aR (by omega) (by omega)];omega
    have e3:a8 (q+2+1)=q+3:=by rw [aR (by omega) (by omega)];omega
    have e4:a8 (q+3+1)=q+(4:Nat):=by rw [aR (by omega) (by omega)];omega
    simp only [uB,e1,e2,e3,e4]
    rw [if_pos (by rw [nO];simp;omega),aQ hi,hg]
    simp only [Option.bind_some,WN,beq_self_eq_true,Bool.not_true,Bool.false_eq_true,if_false,bne_self_eq_false]
    rw [aR (by omega) (by omega)];rfl
  · intro q
    simp only [uB]
    rw [if_neg (by rw [nO];simp)]
theorem U6{l:List bC}{k:Int}(hl:l.length≤1073741824)(h0:0≤k)(h1:k≤1000000000000):nH l k=some (k+((2 * l.length:Nat):Int),yD HL 2 k l.length):=by
  unfold nH
  rw [TL (mk:=HL) (c:=2) (by omega) hl h0 h1 ?_ ?_]
  · rfl
  · intro l k i hi hl h0 h1
    have e1:a8 (k+1)=k+1:=aR (by omega) (by omega)
    have e2:a8 (k+1+1)=k+(2:Nat):=by rw [aR (by omega) (by omega)];omega
    simp only [jE,e1,e2,Int.toNat_natCast]
    rw [if_pos (by simp;omega),aQ hi]
    simp only [Option.bind_some]
    rw [aQ (by simpa using hi)]
    simp only [Option.bind_some,List.set_set,List.getElem_set_self]
    rw [aR (x:=(i:Int)+1) (by omega) (by omega)];rfl
  · intro l k
    simp [jE]
theorem U7{k:Int}{n:Nat}(hn:n≤1073741824)(h0:0≤k)(h1:k≤1000000000000):sT (yD HL 2 k n) k=some (k+((2 * n:Nat):Int)):=by
  unfold sT
  rw [TM (mk:=HL) (c:=2) (by omega) hn h0 h1 ?_ ?_]
  · rfl
  · intro q i hi hg hq0 hq1
    have hin:i < n:=by rw [nO] at hi;exact hi
    have e1:a8 (q+1)=q+1:=aR (by omega) (by omega)
    have e2:a8 (q+1+1)=q+(2:Nat):=by rw [aR (by omega) (by omega)];omega
    simp only [sS,e1,e2]
    rw [if_pos (by rw [nO];simp;omega),aQ hi,hg]
    simp only [Option.bind_some,HL,Bool.false_eq_true,if_false,bne_self_eq_false]
    rw [aR (by omega) (by omega)];rfl
  · intro q
    simp only [sS]
    rw [if_neg (by rw [nO];simp)]
def tI:Int→List aJ→List aJ
  | _,[]=>[]
  | k,s :: r=>⟨yD HL 2 k s.Rows.length⟩ :: tI (k+((2 * s.Rows.length:Nat):Int)) r
theorem zJ:∀(k:Int) (l:List aJ),(tI k l).length=l.length
  | _,[]=>rfl
  | k,s :: r=>by simp [tI,zJ]
theorem FV:∀(k:Int) (a b:List aJ),tI k (a++b)=tI k a++tI (k+((2 * (aX a).length:Nat):Int)) b
  | k,[],b=>by simp [tI,aX]
  | k, s :: r, b => by
    simp only [List.cons_append,tI,FV _ r b]
    congr 3
    have:aX (s :: r)=s.Rows++aX r:=by simp [aX]
    rw [this,List.length_append];omega
theorem aAQ{k:Int}{l:List aJ}{i:Nat}(hi:i < l.length):tI k (l.take (i+1))=tI k (l.take i) ++ [⟨yD HL 2 (k+((2 * (aX (l.take i)).length:Nat):Int)) l[i].Rows.length⟩]:=by
  rw [List.take_succ_eq_append_getElem hi,FV];rfl
theorem SP{l:List aJ}{k:Int}(hl:l.length≤1073741824)(hf:(aX l).length≤1073741824)(h0:0≤k)(h1:k≤100000000000):i5 l k=some (k+((2 * (aX l).length:Nat):Int),tI k l):=by
  unfold i5
  have key:loop eJ (l,k,0)=some (tI k l,k+((2 * (aX l).length:Nat):Int)):=by
    have:=dX (f:=eJ) l.length (fun i=>(tI k (l.take i)++l.drop i,k+((2 * (aX (l.take i)).length:Nat):Int),(i:Int))) (tI k l,k+((2 * (aX l).length:Nat):Int)) (fun i hi=>?_) ?_
    · simpa [tI,aX,-List.length_flatMap] using this
    · have hll:(tI k (l.take i)).length=i:=by rw [zJ,List.length_take];omega
      have hlen:(tI k (l.take i)++l.drop i).length=l.length:=by rw [List.length_append,hll,List.length_drop];omega
      have hd:l.drop i=l[i] :: l.drop (i+1):=List.drop_eq_getElem_cons hi
      have hgi:=K5 l hi
      have hfi:=FN l i
      have hft:(aX (l.take (i+1))).length=(aX (l.take i)).length+l[i].Rows.length:=by rw [nN hi,List.length_append]
      have hget:(tI k (l.take i)++l.drop i)[i]'(by omega)=l[i]:=by
        rw [List.getElem_append_right (by omega)];simp [hll]
      simp only [eJ]
      rw [if_pos (by rw [hlen];simp;omega),aQ (by omega),hget]
      simp only [Option.bind_some,Int.toNat_natCast]
      rw [U6 (by omega) (by omega) (by omega)]
      simp only [Option.bind_some]
      rw [List.set_append_right _ _ (by omega),hll,Nat.sub_self,hd,List.set_cons_zero,aAQ hi,aR (by omega) (by omega),List.append_assoc]
      have:k+((2 * (aX (l.take i)).length:Nat):Int)+((2 * l[i].Rows.length:Nat):Int)=k+((2 * (aX (l.take (i+1))).length:Nat):Int):=by omega
      rw [this];rfl
    · have hlen:(tI k (l.take l.length)++l.drop l.length).length=l.length:=by rw [List.length_append,zJ,List.length_take,List.length_drop];omega
      simp only [eJ]
      rw [if_neg (by rw [hlen];simp),List.drop_length,List.append_nil,List.take_length]
  rw [key];rfl
theorem SQ{l:List aJ}{k:Int}(hl:l.length≤1073741824)(hf:(aX l).length≤1073741824)(h0:0≤k)(h1:k≤100000000000):qE (tI k l) k=some (k+((2 * (aX l).length:Nat):Int)):=by
  unfold qE
  have key:loop (iI (tI k l)) (k,0)=some (.brk (k+((2 * (aX l).length:Nat):Int))):=by
    have:=dX (f:=iI (tI k l)) l.length (fun i=>(k+((2 * (aX (l.take i)).length:Nat):Int),(i:Int))) (.brk (k+((2 * (aX l).length:Nat):Int))) (fun i hi=>?_) ?_
    · simpa [aX,-List.length_flatMap] using this
    · have hgi:=K5 l hi
      have hfi:=FN l i
      have hft:(aX (l.take (i+1))).length=(aX (l.take i)).length+l[i].Rows.length:=by rw [nN hi,List.length_append]
      have hi':i < (tI k l).length:=by rw [zJ];exact hi
      have hget:(tI k l)[i]=⟨yD HL 2 (k+((2 * (aX (l.take i)).length:Nat):Int)) l[i].Rows.length⟩:=by
        have hsp:l=l.take i++l[i] :: l.drop (i+1):=by rw [←List.drop_eq_getElem_cons hi,List.take_append_drop]
        have e:tI k l=tI k (l.take i)++(⟨yD HL 2 (k+((2 * (aX (l.take i)).length:Nat):Int)) l[i].Rows.length⟩ :: tI (k+((2 * (aX (l.take i)).length:Nat):Int)+((2 * l[i].Rows.length:Nat):Int)) (l.drop (i+1))):=by
          conv=>lhs;rw [hsp]
          rw [FV];rfl
        have hll:(tI k (l.take i)).length=i:=by rw [zJ,List.length_take];omega
        have:(tI k l)[i]?=some ⟨yD HL 2 (k+((2 * (aX (l.take i)).length:Nat):Int)) l[i].Rows.length⟩:=by
          rw [e,List.getElem?_append_right (by omega),hll,Nat.sub_self];rfl
        rw [List.getElem?_eq_getElem hi'] at this
        exact Option.some.inj this
      simp only [iI]
      rw [if_pos (by rw [zJ];simp;omega),aQ hi',hget]
      simp only [Option.bind_some]
      rw [U7 (by omega) (by omega) (by omega)]
      simp only [Option.bind_some]
      rw [if_neg (by simp only [decide_eq_true_eq];omega),aR (by omega) (by omega)]
      have:k+((2 * (aX (l.take i)).length:Nat):Int)+((2 * l[i].Rows.length:Nat):Int)=k+((2 * (aX (l.take (i+1))).length:Nat):Int):=by omega
      rw [this];rfl
    · simp only [iI]
      rw [if_neg (by rw [zJ];simp),List.take_length]
  rw [key];rfl
theorem WR{m:Mem}(h:lF m):∃n a b c d,oF m 1=some (n,a,b,c,d)∧sQ ⟨⟨a,b⟩,⟨c,d⟩⟩ 1=some n∧0≤n∧n≤10000000:=by
  have h1:=h.1;have h2:=h.2.1;have h3:=h.2.2.1;have h4:=h.2.2.2.1;have h5:=h.2.2.2.2
  have h6:=iL m.aA
  obtain⟨n,a,b,c,d,e1,e2,e3⟩:=aAO h
  refine⟨n,a,b,c,d,e1,e2,e3,?_⟩
  unfold oF vA sO at e1
  rw [rI (by omega) (by omega) (by omega)] at e1
  simp only [Option.bind_some] at e1
  rw [rI (by omega) (by omega) (by omega)] at e1
  simp only [Option.bind_some] at e1
  rw [vN (by omega) (by omega) (by omega) (by omega)] at e1
  simp only [Option.bind_some] at e1
  rw [vN (by omega) (by omega) (by omega) (by omega)] at e1
  simp only [Option.bind_some,Option.some.injEq,Prod.mk.injEq] at e1
  omega
theorem Q0{b:aM}(h:qX b):∃x,pJ b 1=some x∧pK ⟨⟨⟨x.2.1,x.2.2.1⟩,⟨x.2.2.2.1,x.2.2.2.2.1⟩⟩,⟨b.aD.aG,x.2.2.2.2.2.1⟩,x.2.2.2.2.2.2.1,x.2.2.2.2.2.2.2⟩ 1=some x.1∧0≤x.1:=by
  have h2:=h.2.1;have h3:=h.2.2.1;have h4:=h.2.2.2.1;have h5:=h.2.2.2.2
  obtain⟨n,p,q,c,d,e1,e2,e3,e4⟩:=WR h.1
  unfold pJ yZ pK y5
  rw [e1]
  simp only [Option.bind_some]
  rw [WO (by omega) (by omega) (by omega)]
  simp only [Option.bind_some]
  rw [SP (by omega) (by omega) (by omega) (by omega)]
  simp only [Option.bind_some]
  rw [rI (by omega) (by omega) (by omega)]
  simp only [Option.bind_some]
  refine⟨_,rfl,?_,?_⟩
  · simp only
    rw [e2]
    simp only [Option.bind_some]
    rw [if_neg (by simp only [decide_eq_true_eq];omega),WQ (by omega) (by omega) (by omega)]
    simp only [Option.bind_some]
    rw [if_neg (by simp only [decide_eq_true_eq];omega)]
    simp only [Option.bind_some]
    rw [if_neg (by simp only [decide_eq_true_eq];omega),SQ (by omega) (by omega) (by omega) (by omega)]
    simp only [Option.bind_some]
    rw [if_neg (by simp only [decide_eq_true_eq];omega),AT (by omega) (by omega) (by omega)]
    simp only [Option.bind_some]
    rw [if_neg (by simp only [decide_eq_true_eq];omega)]
  · simp only;omega
end Go.Gv
end
noncomputable section
set_option linter.unusedVariables false
set_option linter.unusedSimpArgs false
namespace Go.Gv
theorem Q1{α:Type}{f:(List α×Int)→Option (Step (List α×Int) (List α))}(l:List α)
    (h:∀k (hk:k < l.length),f (l.take k,(k:Int))=some (.next (l.take k ++ [l[k]],((k+1:Nat):Int)))) (he:f (l,(l.length:Int))=some (.stop l)):loop f ([],0)=some l:=by
  have:=dX (f:=f) l.length (fun k=>(l.take k,(k:Int))) l (fun k hk=>by rw [h k hk,List.take_succ_eq_append_getElem hk]) (by rw [List.take_length];exact he)
  simpa using this
theorem TN{α:Type}{f:(Int×List α)→Option (Step (Int×List α) (List α))}(l:List α)
    (h:∀k (hk:k < l.length),f ((k:Int),l.take k)=some (.next (((k+1:Nat):Int),l.take k ++ [l[k]]))) (he:f ((l.length:Int),l)=some (.stop l)):loop f (0,[])=some l:=by
  have:=dX (f:=f) l.length (fun k=>((k:Int),l.take k)) l (fun k hk=>by rw [h k hk,List.take_succ_eq_append_getElem hk]) (by rw [List.take_length];exact he)
  simpa using this
theorem GM{l:List Int}(h:l.length≤1073741824):mS l=some l:=by
  unfold mS;rw [bE (by simpa using h)];rfl
theorem tJ{l:List Int}(h:l.length≤1073741824):eM l=some l:=by
  unfold eM;rw [bE (by simpa using h)];rfl
theorem U8{l:List cL}(h:l.length≤1073741824):n9 l=some l:=by
  unfold n9;rw [bE (by simpa using h)];rfl
theorem SR{l:List bC}(h:l.length≤1073741824):mJ l=some l:=by
  unfold mJ;rw [bE (by simpa using h)];rfl
theorem TO{l:List aE}(hl:l.length≤1048576)(hs:∀s∈l,s.aK.length≤1048576):vV l=some l:=by
  unfold vV
  rw [Q1 l]
  · rfl
  · intro k hk
    have:=hs _ (List.getElem_mem hk)
    simp only [yM]
    rw [if_pos (by simp;omega),aQ hk]
    simp only [Option.bind_some]
    rw [GM (by omega),Option.bind_some,bE (by simp;omega),aR (by omega) (by omega)];rfl
  · simp [yM]
theorem DC{l:aA}(h1:l.Global.length≤1048576)(h2:l.aV.length≤1048576)(h3:∀s∈l.Global,s.aK.length≤1048576)(h4:∀s∈l.aV,s.aK.length≤1048576) :
    z5 l=some l∧d8 l=some l:=by
  constructor
  · unfold z5;rw [TO h1 h3,TO h2 h4];rfl
  · unfold d8
    rw [TN l.Global]
    · simp only [Option.bind_some,AI,AH]
      rw [TN l.aV]
      · rfl
      · intro k hk
        have:=h4 _ (List.getElem_mem hk)
        simp only [rW]
        rw [if_pos (by simp;omega),aQ hk]
        simp only [Option.bind_some]
        rw [tJ (by omega),Option.bind_some,bE (by simp;omega),rV,aR (by omega) (by omega)];rfl
      · simp [rW]
    · intro k hk
      have:=h3 _ (List.getElem_mem hk)
      simp only [rY]
      rw [if_pos (by simp;omega),aQ hk]
      simp only [Option.bind_some]
      rw [tJ (by omega),Option.bind_some,bE (by simp;omega),rX,aR (by omega) (by omega)];rfl
    · simp [rY]
theorem FW{h:aC}(h1:h.Bytes.length≤1048576)(h2:h.Class.length≤1048576):z4 h=some h∧lX h=some h:=by
  constructor
  · unfold z4;rw [GM (by omega),GM (by omega)];rfl
  · unfold lX;rw [tJ (by omega),tJ (by omega)];rfl
theorem X2{m:Mem}(h:lF m):z6 m=some m∧xO m=some m:=by
  have a:=FW h.1 h.2.1
  have b:=DC h.2.2.1 h.2.2.2.1 h.HH.1 h.HH.2
  constructor
  · unfold z6;rw [a.1,b.1];rfl
  · unfold xO;rw [a.2,b.2];rfl
theorem lG{c:aD}(h:c.aP.length≤1048576):kP c=some c∧iF c=some c:=by
  constructor
  · unfold kP;rw [bE (by simp;omega)];rfl
  · unfold iF;rw [U8 (by omega)];rfl
theorem DD{l:List aJ}(hl:l.length≤1048576)(hs:∀s∈l,s.Rows.length≤1048576):xA l=some l∧f7 l=some l:=by
  constructor
  · unfold xA
    rw [Q1 l]
    · rfl
    · intro k hk
      have:=hs _ (List.getElem_mem hk)
      simp only [wJ]
      rw [if_pos (by simp;omega),aQ hk]
      simp only [Option.bind_some]
      rw [bE (by simp;omega),bE (by simp;omega),aR (by omega) (by omega)];rfl
    · simp [wJ]
  · unfold f7
    rw [Q1 l]
    · rfl
    · intro k hk
      have:=hs _ (List.getElem_mem hk)
      simp only [rZ]
      rw [if_pos (by simp;omega),aQ hk]
      simp only [Option.bind_some]
      rw [SR (by omega),Option.bind_some,bE (by simp;omega),aR (by omega) (by omega)];rfl
    · simp [rZ]
theorem LK{b:aM}(h:qX b):xB b=some b∧uO b=some b:=by
  have m:=X2 h.1
  have c:=lG h.2.1
  have l:=DD h.2.2.1 h.rows
  have:=h.2.2.2.2
  constructor
  · unfold xB;rw [m.1,c.1,l.1,GM (by omega)];rfl
  · unfold uO;rw [m.2,c.2,l.2,tJ (by omega)];rfl
end Go.Gv
end
noncomputable section
set_option linter.unusedVariables false
set_option linter.unusedSimpArgs false
namespace Go.Gv
theorem kN(w:Int):eA w=some (decide (0≤w∧w≤2)):=by
  unfold eA;rw [dS];rfl
noncomputable section
variable {c:aD} (hc:K4 c) {w:Int} (hw:0≤w∧w≤2)
include hc
theorem K4.small:c.aP.length≤1048576∧c.aP.length≤maxLen:=by
  have:=hc.2.1;simp only [maxLen];omega
theorem K4.X3{k:Nat}{p:cL}(hp:VF c.aG p):K4 ⟨c.aG,c.aP.set k p⟩:=⟨hc.1,by simpa using hc.2.1,fun q hq=>(List.mem_or_eq_of_mem_set hq).elim (hc.2.2 q) (fun e=>e ▸ hp)⟩
theorem K4.aJP(h:c.aG+1≤100000):K4 ⟨c.aG+1,c.aP⟩:=by
  have h1:=hc.1
  exact⟨⟨by simp only;omega,h⟩,hc.2.1,fun q hq=>by
    obtain⟨a,b,d⟩:=hc.2.2 q hq
    exact⟨⟨a.1,by simp only;omega⟩,b,d⟩⟩
include hw
theorem aD9:∃p,idx c.aP w=some p∧VF c.aG p:=by
  have h3:=hc.2.1
  rw [BF hw.1 (by omega)]
  exact⟨_,rfl,hc.2.2 _ (List.getElem_mem _)⟩
theorem aAR(e:Int):∃r,AB c w e=some r∧AM c w e=some r∧K4 r.1∧r.1.aG=c.aG:=by
  obtain⟨p,hp,h1,⟨hs0,hs1⟩,h2⟩:=aD9 hc hw
  have h3:=hc.2.1
  unfold AB AM
  rw [(lG hc.small.1).1,(lG hc.small.1).2,qJ,qK hc.small.2,kN,cV,decide_eq_true hc,decide_eq_true hw]
  simp only [Option.bind_some,Bool.not_true,Bool.false_eq_true,if_false,rR,sJ,hp]
  cases h4:p.On
  · exact⟨_,rfl,rfl,hc,rfl⟩
  · cases h5:p.cH
    · by_cases h6:p.aG=e
      · simp only [jZ,kC,h6,beq_self_eq_true,if_true,Bool.not_true,Bool.false_eq_true,if_false]
        exact⟨_,rfl,rfl,hc,rfl⟩
      · have h6':(p.aG == e)=false:=by simpa using h6
        simp only [jZ,kC,h6',Bool.not_true,Bool.false_eq_true,if_false,hp,Option.bind_some]
        by_cases h7:p.Seen=2
        · simp only [h7,beq_self_eq_true,if_true,show ¬((2:Int) < 2) by omega,decide_false,Bool.false_eq_true,if_false]
          exact⟨_,rfl,rfl,hc.X3 ⟨h1,by simp,fun q=>by simp [h4] at q⟩,rfl⟩
        · have h7':(p.Seen == 2)=false:=by simpa using h7
          simp only [h7',show p.Seen < 2 by omega,decide_true,if_true,Bool.false_eq_true,if_false]
          have hw7:a8 (p.Seen+1)=p.Seen+1:=aR (by omega) (by omega)
          exact⟨_,rfl,rfl,hc.X3 ⟨h1,by simp only [hw7];omega,fun q=>by simp [h4] at q⟩,rfl⟩
    · exact⟨_,rfl,rfl,hc,rfl⟩
theorem aEA(e:Int):∃r,CL c w e=some r∧CY c w e=some r∧(K4 r.1∧r.1.aG=c.aG)∧(r.2=false→r.1=c):=by
  obtain⟨p,hp,hpk⟩:=aD9 hc hw
  have h3:=hc.2.1
  unfold CL CY
  rw [(lG hc.small.1).1,(lG hc.small.1).2,qJ,qK hc.small.2,kN,cV,cV,dS,decide_eq_true hc,decide_eq_true hw]
  simp only [Option.bind_some,Bool.not_true,Bool.false_eq_true,if_false,o9,pH,hp]
  by_cases h:0≤e∧e≤c.aG
  · simp only [decide_eq_true h,Bool.not_true,Bool.false_eq_true,if_false]
    exact⟨_,rfl,rfl,⟨hc.X3 ⟨h,by simp,fun q=>by cases q⟩,rfl⟩,fun q=>by cases q⟩
  · simp only [decide_eq_false h,Bool.not_false,if_true]
    exact⟨_,rfl,rfl,⟨hc,rfl⟩,fun _=>rfl⟩
omit hw in
theorem aGA(e:Int):∃r,GF c e=some r∧GG c e=some r∧K4 r.1∧c.aG≤r.1.aG:=by
  have h3:=hc.2.1
  unfold GF GG
  rw [(lG hc.small.1).1,(lG hc.small.1).2,qJ,qK hc.small.2,decide_eq_true hc]
  simp only [Option.bind_some,Bool.not_true,Bool.false_eq_true,if_false,rS,sK]
  by_cases h:c.aG=e
  · subst h
    simp only [bne_self_eq_false,Bool.false_eq_true,if_false]
    by_cases h:c.aG=100000
    · simp only [h,beq_self_eq_true,if_true];exact⟨_,rfl,rfl,hc,by simp [h]⟩
    · have h':(c.aG == 100000)=false:=by simpa using h
      have hE:=hc.1
      have hw7:a8 (c.aG+1)=c.aG+1:=aR (by omega) (by omega)
      simp only [h',Bool.false_eq_true,if_false,hw7];exact⟨_,rfl,rfl,hc.aJP (by omega),by simp only;omega⟩
  · have h':(c.aG != e)=true:=by simpa using h
    simp only [h',if_true];exact⟨_,rfl,rfl,hc,Int.le_refl _⟩
end
theorem aIB{b:aM}(hc:K4 b.aD){w:Int}(hw:0≤w∧w≤2)(s:Sub) :
    ∃x y,AE b w s=some (x,y)∧oE s b w=some (y,x)∧∃cl,x=⟨b.Mem,cl,b.aL,b.cB⟩∧K4 cl∧b.aD.aG≤cl.aG:=by
  obtain⟨r,e1,e2,h3,h4⟩:=aEA hc hw s.E
  unfold AE oE
  rw [e1,e2]
  simp only [bK,aZ,oS,Option.bind_some]
  by_cases p0:s.Pc=0
  · simp only [p0,beq_self_eq_true,if_true];exact⟨_,_,rfl,rfl,_,rfl,hc,by omega⟩
  · have p0':(s.Pc == 0)=false:=by simpa using p0
    simp only [p0',Bool.false_eq_true,if_false]
    by_cases p1:s.Pc=1
    · simp only [p1,beq_self_eq_true,if_true]
      cases h:r.2
      · rw [h4 h];exact⟨_,_,rfl,rfl,_,rfl,hc,by omega⟩
      · exact⟨_,_,rfl,rfl,_,rfl,h3.1,by rw [h3.2];exact Int.le_refl _⟩
    · have p1':(s.Pc == 1)=false:=by simpa using p1
      simp only [p1',Bool.false_eq_true,if_false]
      by_cases p2:s.Pc=2
      · simp only [p2,beq_self_eq_true,if_true]
        by_cases q:b.aD.aG=s.E
        · simp only [q,beq_self_eq_true,if_true];exact⟨_,_,rfl,rfl,_,rfl,hc,by omega⟩
        · have q':(b.aD.aG == s.E)=false:=by simpa using q
          simp only [q',Bool.false_eq_true,if_false];exact⟨_,_,rfl,rfl,_,rfl,hc,by omega⟩
      · have p2':(s.Pc == 2)=false:=by simpa using p2
        simp only [p2',Bool.false_eq_true,if_false];exact⟨_,_,rfl,rfl,_,rfl,hc,by omega⟩
theorem X4{b:aM}(hc:K4 b.aD)(s:Sub) :
    ∃x y,pW b s=some (x,y)∧jB s b=some (y,x)∧∃cl,x=⟨b.Mem,cl,b.aL,b.cB⟩∧K4 cl∧b.aD.aG≤cl.aG:=by
  obtain⟨r2,e3,e4,h4⟩:=aGA hc s.E
  unfold pW jB gG
  rw [e3,e4,cV,kN]
  simp only [bK,aZ,kS,kT,gE,Option.bind_some]
  by_cases p0:s.Pc=0
  · simp only [p0,beq_self_eq_true,if_true];exact⟨_,_,rfl,rfl,_,rfl,hc,by omega⟩
  · have p0':(s.Pc == 0)=false:=by simpa using p0
    simp only [p0',Bool.false_eq_true,if_false]
    by_cases p1:s.Pc=1
    · simp only [p1,beq_self_eq_true,if_true,show((1:Int) == 2)=false from rfl,Bool.false_eq_true,if_false]
      by_cases hB:0≤s.B∧s.B≤2
      · obtain⟨r,e1,e2,h3,h3'⟩:=aAR hc hB s.E
        simp only [decide_eq_true hB,Bool.not_true,Bool.false_eq_true,if_false,if_true,e1,e2,Option.bind_some]
        cases h:r.2
        · exact⟨_,_,rfl,rfl,_,rfl,h3,by rw [h3'];exact Int.le_refl _⟩
        · by_cases q:a8 (s.B+1)=3
          · simp only [q,beq_self_eq_true,if_true,Bool.not_true,Bool.false_eq_true,if_false];exact⟨_,_,rfl,rfl,_,rfl,h3,by rw [h3'];exact Int.le_refl _⟩
          · have q':(a8 (s.B+1) == 3)=false:=by simpa using q
            simp only [q',Bool.not_true,Bool.false_eq_true,if_false];exact⟨_,_,rfl,rfl,_,rfl,h3,by rw [h3'];exact Int.le_refl _⟩
      · simp only [decide_eq_false hB,Bool.not_false,Bool.false_eq_true,if_false,if_true]
        exact⟨_,_,rfl,rfl,_,rfl,hc,by omega⟩
    · have p1':(s.Pc == 1)=false:=by simpa using p1
      simp only [p1',Bool.false_eq_true,if_false]
      by_cases p2:s.Pc=2
      · simp only [p2,beq_self_eq_true,if_true]
        cases h:r2.2
        · simp only [Bool.false_eq_true,if_false];exact⟨_,_,rfl,rfl,_,rfl,h4⟩
        · simp only [if_true];exact⟨_,_,rfl,rfl,_,rfl,h4⟩
      · have p2':(s.Pc == 2)=false:=by simpa using p2
        simp only [p2',Bool.false_eq_true,if_false];exact⟨_,_,rfl,rfl,_,rfl,hc,by omega⟩
end Go.Gv
end
noncomputable section
set_option linter.unusedVariables false
set_option linter.unusedSimpArgs false
namespace Go.Gv
theorem X5:∀(n:Nat) (l:List Int),l.Nodup→(∀x∈l,0≤x∧x < (n:Int))→l.length≤n
  | 0, l, _, h => by
    cases l with
    | nil=>simp
    | cons a t=>have:=h a (by simp);omega
  | n + 1, l, hn, h => by
    have ih:=X5 n (l.erase (n:Int)) (hn.erase _) (fun x hx=>by
      have h1:=(hn.mem_erase_iff).1 hx
      have h2:=h x h1.2
      have:=h1.1
      omega)
    have:=List.length_erase (a:=(n:Int)) (l:=l)
    split at this <;> omega
theorem U9(a b:List aJ):aX (a++b)=aX a++aX b:=by simp [aX]
theorem VA(a b:List aE):bB (a++b)=bB a++bB b:=by simp [bB]
theorem CB{l:List aJ}{k:Nat}(hk:k < l.length)(x:aJ):aX (l.set k x)=aX (l.take k)++(x.Rows++aX (l.drop (k+1))):=by
  rw [List.set_eq_take_append_cons_drop,if_pos hk,U9];simp [aX]
theorem AU{l:List aJ}{k:Nat}(hk:k < l.length):aX l=aX (l.take k)++(l[k].Rows++aX (l.drop (k+1))):=by
  conv=>lhs;rw [←List.set_getElem_self hk,CB hk]
theorem yI{l:List aE}{k:Nat}(hk:k < l.length)(x:aE):bB (l.set k x)=bB (l.take k)++(x.aK++bB (l.drop (k+1))):=by
  rw [List.set_eq_take_append_cons_drop,if_pos hk,VA];simp [bB]
theorem wG{l:List aE}{k:Nat}(hk:k < l.length):bB l=bB (l.take k)++(l[k].aK++bB (l.drop (k+1))):=by
  conv=>lhs;rw [←List.set_getElem_self hk,yI hk]
def WS(l:List aJ)(s:Int):Prop:=∃r∈aX l,oK r.Handle∧r.Handle % 32=s
instance (l:List aJ) (s:Int):Decidable (WS l s):=by unfold WS;infer_instance
noncomputable section
variable {l:List aJ} (hl:mM l)
include hl
theorem mM.small:(aX l).length≤1073741824∧l.length≤maxLen∧l.length≤1048576∧∀s∈l,s.Rows.length≤24:=by
  have:=hl.1;have h2:=hl.2.1
  refine⟨by omega,by simp only [maxLen];omega,by omega,fun s hs=>?_⟩
  have:=CA hs;omega
theorem M8(s:Int):xK l s=some (decide (WS l s)):=by
  have hm:=hl.small
  unfold xK
  rw [zF hm.1 hm.2.1,Option.bind_some]
  have key:=kL (f:=i3 s (aX l)) (aX l) (fun k=>(k:Int)) (fun r=>¬(oK r.Handle∧r.Handle % 32=s)) (Out.brk ()) (Out.ret true)
    (fun k hk hp=>by
      have hk':=hl.2.1
      simp only [i3,lO]
      rw [if_pos (by simp;omega),aQ hk,dP (show k < maxLen by simp only [maxLen];omega)]
      simp only [Option.bind_some,hY,fM]
      by_cases q:oK (aX l)[k].Handle
      · have:((aX l)[k].Handle % 32 == s)=false:=by simpa using fun a=>hp ⟨q,a⟩
        simp [q,this]
      · simp [q])
    (fun k hk hp=>by
      have hp:=Classical.not_not.1 hp
      simp only [i3,lO]
      rw [if_pos (by simp;omega),aQ hk]
      simp [hY,fM,hp.1,hp.2])
    (by simp [i3])
  have key':loop (i3 s (aX l)) 0=_:=key
  rw [key']
  by_cases q:WS l s
  · rw [if_neg (fun a=>by obtain⟨r,hr,e⟩:=q;exact a r hr e),decide_eq_true q];rfl
  · rw [if_pos (fun r hr e=>q ⟨r,hr,e⟩),decide_eq_false q];rfl
theorem M9(s:Int):xV l s=some (decide (WS l s)):=by
  have hm:=hl.small
  unfold xV
  have e1:∀(r:bC),kB r s=some (decide (oK r.Handle∧r.Handle % 32=s)):=by
    intro r
    unfold kB jQ
    rw [oL]
    by_cases q:oK r.Handle
    · rw [q.mod.1];simp [q];rfl
    · simp [q]
  have e2:∀x∈l,sI x s=some (x.Rows.any fun r=>decide (oK r.Handle∧r.Handle % 32=s)):=by
    intro x hx
    unfold sI
    have:x.Rows.length≤maxLen:=by have:=hm.2.2.2 x hx;simp only [maxLen];omega
    rw [show(fun y0=>kB y0 s)=fun r=>some (decide (oK r.Handle∧r.Handle % 32=s)) from funext e1,HJ this];rfl
  rw [FO hm.2.1 (fun x=>x.Rows.any fun r=>decide (oK r.Handle∧r.Handle % 32=s)) _ e2]
  simp only [Option.bind_some]
  congr 1
  rw [Bool.eq_iff_iff,decide_eq_true_iff]
  simp only [List.any_eq_true,decide_eq_true_eq,WS,aX,List.mem_flatMap]
  constructor
  · rintro⟨x,hx,r,hr,h⟩;exact⟨r,⟨x,hx,hr⟩,h⟩
  · rintro⟨r,⟨x,hx,hr⟩,h⟩;exact⟨x,hx,r,hr,h⟩
theorem mM.more{k:Nat}(hk:k < l.length){r:bC}(hr:pO r)(hn:¬WS l (r.Handle % 32)):mM (l.set k ⟨l[k].Rows ++ [r]⟩):=by
  have e:=CB hk (⟨l[k].Rows ++ [r]⟩:aJ)
  have p:(aX (l.set k ⟨l[k].Rows ++ [r]⟩)).Perm (r :: aX l):=by
    rw [e,AU hk]
    refine List.Perm.trans ?_ List.perm_middle
    simp only [List.append_assoc]
    exact List.Perm.append_left _ (by simp only [List.singleton_append];exact(List.perm_middle (l₁:=l[k].Rows) (l₂:=aX (l.drop (k+1))) (a:=r)))
  have h1:∀x∈aX (l.set k ⟨l[k].Rows ++ [r]⟩),pO x:=fun x hx=>by
    rcases List.mem_cons.1 (p.mem_iff.1 hx) with rfl | h
    · exact hr
    · exact hl.2.2.1 x h
  have h2:((aX (l.set k ⟨l[k].Rows ++ [r]⟩)).map iM).Nodup:=by
    refine(List.Perm.nodup_iff (p.map iM)).2 ?_
    rw [List.map_cons,List.nodup_cons]
    refine⟨fun h=>hn ?_,hl.2.2.2⟩
    obtain⟨x,hx,e⟩:=List.mem_map.1 h
    exact⟨x,hx,(hl.2.2.1 x hx).1,e⟩
  refine⟨by simpa using hl.1,?_,h1,h2⟩
  have:=X5 24 _ h2 (fun x hx=>by
    obtain⟨y,hy,rfl⟩:=List.mem_map.1 hx
    have:=(h1 y hy).1.mod
    unfold iM;omega)
  simpa using this
end
theorem aAS{b:aM}(hb:yC b)(hs:qX b){w:Int}(hw:0≤w∧w≤2)(s:Sub) :
    ∃x y,rQ b w s=some (x,y)∧jR s b w=some (y,x)∧∃L,x=⟨b.Mem,b.aD,L,b.cB⟩∧mM L∧∀r∈aX L,oM b r:=by
  have hL:=hb.1.2.2.1
  have hm:=hb.1.1
  have hlen:w.toNat < b.aL.length:=by have:=hL.1;omega
  have hx:idx b.aL w=some b.aL[w.toNat]:=BF hw.1 (by omega)
  have hg:b.Mem.aA.Global.length≤maxLen:=by rw [hm.1.2.1];simp [maxLen]
  have ho:b.Mem.aA.aV.length≤maxLen:=by rw [hm.1.2.2.1];simp [maxLen]
  have hall:(cR b.Mem.aA).length≤1073741824:=by have:=hs.1.2.2.2.2;omega
  have hrow:=hL.small.2.2.2 _ (List.getElem_mem hlen)
  have he:=hb.1.2.1.1
  unfold rQ jR gX
  rw [cV,dS,D6 hm.1.1.1 hall hg ho,FT hm.1.1.1 hall hg ho,fM]
  simp only [bK,aZ,Option.bind_some,mI,rP,gW]
  by_cases p0:s.Pc=0
  · simp only [p0,beq_self_eq_true,if_true];exact⟨_,_,rfl,rfl,_,rfl,hL,hb.2⟩
  · have p0' : (s.Pc == 0) = false := by simpa using p0
    simp only [p0',Bool.false_eq_true,if_false]
    by_cases p1:s.Pc=1
    · simp only [p1,beq_self_eq_true,bne_self_eq_false,Bool.false_eq_true,if_false,if_true]
      by_cases q1:0≤s.E∧s.E≤b.aD.aG
      · simp only [decide_eq_true q1,Bool.not_true,Bool.false_eq_true,if_false]
        by_cases q2:tP b.Mem s.A
        · have hh:=q2.1
          simp only [decide_eq_true q2,Bool.not_true,Bool.false_eq_true,if_false,if_pos hh,hh.mod.1,M8 hL,M9 hL,Option.bind_some]
          by_cases q3:WS b.aL (s.A % 32)
          · simp only [decide_eq_true q3,if_true];exact⟨_,_,rfl,rfl,_,rfl,hL,hb.2⟩
          · have hmore:=hL.more hlen (r:=⟨s.A,s.E⟩) ⟨hh,q1.1,by simp only;omega⟩ q3
            have e:uY b.aL w s.A s.E=some (b.aL.set w.toNat ⟨b.aL[w.toNat].Rows ++ [⟨s.A,s.E⟩]⟩,true):=by
              unfold uY oC
              rw [qL hL.small.1,kN,(DD hL.small.2.2.1 (fun s h=>by have:=hL.small.2.2.2 s h;omega)).2]
              simp only [decide_eq_true hL,decide_eq_true hw,Option.bind_some,Bool.not_true,Bool.false_eq_true,if_false,hx]
              rw [bE (by simp;omega),qL hmore.small.1,decide_eq_true hmore];rfl
            simp only [decide_eq_false q3,Bool.false_eq_true,if_false,hx,e,Option.bind_some]
            rw [bE (by simp;omega)]
            refine⟨_,_,rfl,rfl,_,rfl,hmore,fun r hr=>?_⟩
            rw [CB hlen] at hr
            have hsp:=AU hlen
            rcases List.mem_append.1 hr with h | h
            · exact hb.2 r (by rw [hsp];exact List.mem_append_left _ h)
            · rcases List.mem_append.1 h with h | h
              · rcases List.mem_append.1 h with h | h
                · exact hb.2 r (by rw [hsp];exact List.mem_append_right _ (List.mem_append_left _ h))
                · simp at h;subst h;exact⟨q2,q1.2⟩
              · exact hb.2 r (by rw [hsp];exact List.mem_append_right _ (List.mem_append_right _ h))
        · simp only [decide_eq_false q2,Bool.not_false,if_true];exact⟨_,_,rfl,rfl,_,rfl,hL,hb.2⟩
      · simp only [decide_eq_false q1,Bool.not_false,if_true];exact⟨_,_,rfl,rfl,_,rfl,hL,hb.2⟩
    · have p1':(s.Pc == 1)=false:=by simpa using p1
      have p1'':(s.Pc != 1)=true:=by simpa using p1
      simp only [p1',p1'',Bool.false_eq_true,if_false,if_true];exact⟨_,_,rfl,rfl,_,rfl,hL,hb.2⟩
end Go.Gv
end
noncomputable section
set_option linter.unusedVariables false
set_option linter.unusedSimpArgs false
namespace Go.Gv
def SS(b:List Int)(a:Nat)(n:Int):List Int:=(((b.set a 0).set (a+1) 0).set (a+2) 0).set (a+3) n
theorem vO(b:List Int)(a:Nat)(n:Int):(SS b a n).length=b.length:=by simp [SS]
theorem WT{b:List Int}(h:rF b)(a:Nat){n:Int}(hn:0≤n∧n≤255):rF (SS b a n):=by
  have key:∀{l:List Int} (i:Nat) (v:Int),rF l→0≤v∧v≤255→rF (l.set i v):=fun i v hl hv x hx=>by
    rcases List.mem_or_eq_of_mem_set hx with h | rfl
    · exact hl x h
    · exact hv
  exact key _ _ (key _ _ (key _ _ (key _ _ h (by omega)) (by omega)) (by omega)) hn
theorem D7{b:List Int}{a:Nat}(h:a+4≤b.length)(hl:b.length≤100000){n:Int}(hn:0≤n∧n≤255):rO b (a:Int) 4 n=some (SS b a n):=by
  have st:∀(x:List Int) (m:Int) (k:Nat),x.length=b.length→0≤m∧m≤255→k < 4→pU (a:Int) (x,m,(k:Int))=some (.next (x.set (a+k) m,0,(k:Int) - 1)):=by
    intro x m k hx hm hk
    simp only [pU]
    have e:a8 ((a:Int)+(k:Int))=((a+k:Nat):Int):=by rw [aR (by omega) (by omega)];omega
    rw [if_pos (by simp),e,aQ (by omega),Int.toNat_natCast,y9 hm.1,y8 hm.1,show m % 256=m by omega,show m / 256=0 by omega,aR (by omega) (by omega),aR (by omega) (by omega)];rfl
  unfold rO
  rw [aR (by omega) (by omega),show((4:Int) - 1)=((3:Nat):Int) from rfl,
    bW (st b n 3 rfl hn (by omega)),show(((3:Nat):Int) - 1)=((2:Nat):Int) from rfl,
    bW (st _ 0 2 (by simp) (by omega) (by omega)),show(((2:Nat):Int) - 1)=((1:Nat):Int) from rfl,
    bW (st _ 0 1 (by simp) (by omega) (by omega)),show(((1:Nat):Int) - 1)=((0:Nat):Int) from rfl,
    bW (st _ 0 0 (by simp) (by omega) (by omega)),bP (r:=SS b a n)]
  · rfl
  · simp only [pU]
    rw [if_neg (by simp)]
    congr 2
    unfold SS
    apply List.ext_getElem
    · simp
    · intro i h1 h2
      simp only [List.getElem_set,Nat.add_zero]
      repeat' split
      all_goals first | rfl | omega
theorem HM{n:Int}(hn:0≤n∧n≤255):yW n 4=some [0,0,0,u8 n]:=by
  have st:∀(m:Int) (x:List UInt8) (k:Nat),x.length=4→0≤m∧m≤255→k < 4→uV (m,x,(k:Int))=some (.next (0,x.set k (u8 m),(k:Int) - 1)):=by
    intro m x k hx hm hk
    simp only [uV]
    rw [if_pos (by simp),aQ (by omega),Int.toNat_natCast,show NW .i64 m 8=0 by rw [show(8:Int)=((8:Nat):Int) from rfl,aF7 hm.1 (by omega)];omega,aR (by omega) (by omega)];rfl
  unfold yW CV
  rw [dS]
  have hw:IntKind.u64.wrap (a8 (8 * 4))=32:=by decide
  have hs:SZ .i64 1 32=4294967296:=by decide
  simp only [Option.bind_some,show(1:Int)≤4∧(4:Int)≤7 by omega,and_self,decide_true,Bool.not_true,Bool.false_eq_true,if_false,hw,hs]
  rw [if_neg (by simp;omega),bE (by omega)]
  unfold pE
  rw [decide_eq_false (by omega),if_neg (by simp),bE (by omega),aR (by omega) (by omega),show((4:Int) - 1)=((3:Nat):Int) from rfl,
    bW (st n _ 3 (by simp) hn (by omega)),show(((3:Nat):Int) - 1)=((2:Nat):Int) from rfl,
    bW (st 0 _ 2 (by simp) (by omega) (by omega)),show(((2:Nat):Int) - 1)=((1:Nat):Int) from rfl,
    bW (st 0 _ 1 (by simp) (by omega) (by omega)),show(((1:Nat):Int) - 1)=((0:Nat):Int) from rfl,
    bW (st 0 _ 0 (by simp) (by omega) (by omega)),bP (r:=[0,0,0,u8 n])]
  · rfl
  · simp only [uV]
    rw [if_neg (by simp)];rfl
theorem aEB{n:Int}(hn:0≤n∧n≤255):((u8 n).toNat:Int)=n:=by
  obtain⟨m,rfl⟩:=Int.eq_ofNat_of_zero_le hn.1
  unfold u8
  rw [UInt8.toNat_ofNat'];omega
theorem FX{b:List Int}{a:Nat}(h:a+4≤b.length)(hl:b.length≤100000){n:Int}(hn:0≤n∧n≤255):nC b (a:Int) [0,0,0,u8 n]=some (SS b a n):=by
  have st:∀(x:List Int) (k:Nat) (v:UInt8),x.length=b.length→k < 4→[0,0,0,u8 n][k]?=some v→kA (a:Int) [0,0,0,u8 n] (x,(k:Int))=some (.next (x.set (a+k) (v.toNat:Int),((k+1:Nat):Int))):=by
    intro x k v hx hk hv
    simp only [kA]
    have hk':k < [0,0,0,u8 n].length:=by simpa using hk
    have e:a8 ((a:Int)+(k:Int))=((a+k:Nat):Int):=by rw [aR (by omega) (by omega)];omega
    rw [if_pos (by simp;omega),aQ hk',e,aQ (by omega),Int.toNat_natCast,aR (by omega) (by omega)]
    rw [List.getElem?_eq_getElem hk'] at hv
    simp only [Option.bind_some,Option.some.inj hv];rfl
  unfold nC
  rw [show(0:Int)=((0:Nat):Int) from rfl,bW (st b 0 0 rfl (by omega) rfl),bW (st _ 1 0 (by simp) (by omega) rfl),bW (st _ 2 0 (by simp) (by omega) rfl),bW (st _ 3 (u8 n) (by simp) (by omega) rfl),bP (r:=SS b a n)]
  · rfl
  · simp only [kA]
    rw [if_neg (by simp),aEB hn];rfl
end Go.Gv
end
noncomputable section
set_option linter.unusedVariables false
set_option linter.unusedSimpArgs false
set_option linter.unusedSectionVars false
namespace Go.Gv
theorem aG1{x y z:Int}:∀(a:Nat) (l:List Int),a+3≤l.length→cK l a [x,y,z]=((l.set a x).set (a+1) y).set (a+2) z
  | 0, l, h => by
    match l,h with
    | _ :: _ :: _ :: t,_=>simp [cK]
  | a + 1, l, h => by
    match l,h with
    | u :: t, h =>
      have ih:=aG1 (x:=x) (y:=y) (z:=z) a t (by simp at h;omega)
      simp only [List.set_cons_succ,←ih]
      simp [cK,Nat.add_right_comm]
def aEC(p k:Nat)(c:Int):Nat:=(mN ((p:Int) * 4+k) c).toNat
def gB(b:List Int)(p:Nat)(c:Int):Nat→List Int
  | 0=>((b.set (p * 64) 171).set (p * 64+1) c).set (p * 64+2) (bX c)
  | k+1=>SS (gB b p c k) (aEC p k c) 1
theorem BH(b:List Int)(p:Nat)(c:Int):∀k,(gB b p c k).length=b.length
  | 0=>by simp [gB]
  | k+1=>by rw [gB,vO,BH b p c k]
theorem Q2{l:List Int}(i:Nat){v:Int}(hl:rF l)(hv:0≤v∧v≤255):rF (l.set i v):=fun x hx=>by
  rcases List.mem_or_eq_of_mem_set hx with h | rfl
  · exact hl x h
  · exact hv
theorem VB{b:List Int}(hb:rF b)(p:Nat){c:Int}(hc:0≤c∧c≤2):∀k,rF (gB b p c k)
  | 0 => by
    have:=jG c
    exact Q2 _ (Q2 _ (Q2 _ hb (by omega)) (by omega)) (by omega)
  | k+1=>WT (VB hb p hc k) _ (by omega)
def gS(p:Nat)(n:Nat):List Int:=(List.range n).map fun(i:Nat)=>(p:Int) * 4+(i:Int)
theorem Q3(p n:Nat):(gS p n).length=n:=by simp [gS]
theorem ZU(p n:Nat):gS p (n+1)=gS p n ++ [(p:Int) * 4+(n:Int)]:=by simp [gS,List.range_succ]
theorem VC{p k:Nat}{c:Int}(hp:p < 6)(hk:(k:Int) < bX c):mN ((p:Int) * 4+k) c=(aEC p k c:Int)∧aEC p k c+4≤384:=by
  have h4:=jG c
  have hm:=zA (c:=c) (i:=(k:Int)) (by omega) hk
  have hst:4≤aY c:=by
    have:0≤c∧c≤2:=pL.1 (by omega)
    rcases i6 this with e | e | e <;> rw [e] <;> decide
  have e:mN ((p:Int) * 4+k) c=(p:Int) * 64+8+(k:Int) * aY c:=by
    unfold mN
    rw [if_pos ⟨by omega,by omega⟩,show((p:Int) * 4+k) / 4=p by omega,show((p:Int) * 4+k) % 4=k by omega]
  unfold aEC
  rw [e];omega
theorem TP{p k:Nat}(hp:p < 6)(hk:k < 4):kM (p:Int) (k:Int)=some ((p:Int) * 4+k)∧AL (p:Int) (k:Int)=some ((p:Int) * 4+k):=by
  have a:0≤(p:Int)∧(p:Int)≤5:=by omega
  have b:0≤(k:Int)∧(k:Int)≤3:=by omega
  have e1:a8 ((p:Int) * 4)=(p:Int) * 4:=aR (by omega) (by omega)
  have e2:a8 ((p:Int) * 4+k)=(p:Int) * 4+k:=aR (by omega) (by omega)
  constructor
  · unfold kM mU;rw [cV,cV,decide_eq_true a,decide_eq_true b,e1,e2];rfl
  · unfold AL sH;rw [dS,dS,decide_eq_true a,decide_eq_true b,e1,e2];rfl
noncomputable section
variable {b:List Int} (hb:b.length=384) {p:Nat} (hp:p < 6) {c:Int} (hc:0≤c∧c≤2)
include hb hp hc
theorem X6:loop (pV c (p:Int)) ([],0,gB b p c 0)=some (gS p (bX c).toNat,gB b p c (bX c).toNat):=by
  have h4:=jG c
  refine dX (bX c).toNat (fun k=>(gS p k,(k:Int),gB b p c k)) _ (fun k hk=>?_) ?_
  · have ho:=VC (c:=c) hp (k:=k) (by omega)
    simp only [pV,wN,eG,Option.bind_some]
    rw [if_pos (by simp;omega),(TP hp (by omega)).1]
    simp only [Option.bind_some,vK,ho.1]
    rw [D7 (by rw [BH];omega) (by rw [BH];omega) (by omega)]
    simp only [Option.bind_some]
    rw [bE (by rw [Q3];simp;omega),aR (by omega) (by omega),ZU];rfl
  · simp only [pV,eG,Option.bind_some]
    rw [if_neg (by simp;omega)]
theorem X7:loop (uW c (p:Int) (bX c)) ([],0,gB b p c 0)=some (gS p (bX c).toNat,gB b p c (bX c).toNat):=by
  have h4:=jG c
  refine dX (bX c).toNat (fun k=>(gS p k,(k:Int),gB b p c k)) _ (fun k hk=>?_) ?_
  · have ho:=VC (c:=c) hp (k:=k) (by omega)
    simp only [uW,A3]
    rw [if_pos (by simp;omega),(TP hp (by omega)).2]
    simp only [Option.bind_some,vL,ho.1]
    rw [HM (by omega),Option.bind_some,FX (by rw [BH];omega) (by rw [BH];omega) (by omega)]
    simp only [Option.bind_some]
    rw [bE (by rw [Q3];simp;omega),aR (by omega) (by omega),ZU];rfl
  · simp only [uW]
    rw [if_neg (by simp;omega)]
end
theorem aED{h:aC}(hh:QT h){c:Int}(hc:0≤c∧c≤2) :
    (nW h c=some (h,[])∧tZ h c=some (h,[])) ∨
    ∃p,p < 6∧bO h p < 0∧nW h c=some (⟨gB h.Bytes p c (bX c).toNat,h.Class.set p c⟩,gS p (bX c).toNat)∧tZ h c=some (⟨gB h.Bytes p c (bX c).toNat,h.Class.set p c⟩,gS p (bX c).toNat):=by
  have hs:=hh.1
  have h6:=hs.2.1
  have h384:=hs.1
  have hp4:=jG c
  have hcp:=FW (h:=h) (by omega) (by omega)
  have hne:∀j (hj:j < 6),j < h.Class.findIdx (fun x=>decide (x = -1))→h.Class[j]≠-1:=fun j hj hlt=>by
    have:=List.not_of_lt_findIdx hlt
    simpa using this
  generalize hq:h.Class.findIdx (fun x=>decide (x = -1))=q at hne
  have hq6:q≤6:=by rw [←hq,←h6];exact List.findIdx_le_length
  have s1:∀k (hk:k < q),gJ h c (k:Int)=some (.next ((k+1:Nat):Int)):=fun k hk=>by
    have:=hne k (by omega) hk
    have n:(h.Class[k] != -1)=true:=by simpa using this
    simp only [gJ,wM]
    rw [if_pos (by simp;omega),aQ (by omega),Option.bind_some,n,if_pos rfl,aR (by omega) (by omega)];rfl
  have s2:∀k (hk:k < q),cP h.Class (-1) (k:Int)=some (.next ((k+1:Nat):Int)):=fun k hk=>by
    have:=hne k (by omega) hk
    have n:((-1:Int) == h.Class[k])=false:=by simpa using fun a=>this a.symm
    simp only [cP]
    rw [if_pos (by simp;omega),aQ (by omega),Option.bind_some,n,aR (by omega) (by omega)];rfl
  have hm:h.Bytes.length≤maxLen:=by rw [h384];simp [maxLen]
  by_cases h5:q=6
  · left
    have a1:loop (gJ h c) 0=some (Out.brk ()):=dX q (fun k=>(k:Int)) _ s1 (by simp only [gJ];rw [if_neg (by simp;omega)])
    have a2:loop (cP h.Class (-1)) 0=some (Out.brk ()):=dX q (fun k=>(k:Int)) _ s2 (by simp only [cP];rw [if_neg (by simp;omega)])
    constructor
    · unfold nW;rw [a1];rfl
    · unfold tZ hU
      rw [a2,hcp.2,zD hm,fA,decide_eq_true hh,decide_eq_true hc];rfl
  · right
    have hq5:q < 6:=by omega
    have he:h.Class[q] = -1:=by
      have:=List.findIdx_getElem (xs:=h.Class) (p:=fun x=>decide (x = -1)) (w:=by rw [hq];omega)
      simp only [hq,decide_eq_true_eq] at this
      exact this
    refine⟨q,hq5,by rw [←ZR hs hq5,he];omega,?_,?_⟩
    · have a1:loop (gJ h c) 0=some (Out.ret (⟨gB h.Bytes q c (bX c).toNat,h.Class.set q c⟩,gS q (bX c).toNat)):=dX q (fun k=>(k:Int)) _ s1 (by
        have e0:a8 ((q:Int) * 64)=((q * 64:Nat):Int):=by rw [aR (by omega) (by omega)];omega
        have e1:a8 (((q * 64:Nat):Int)+1)=((q * 64+1:Nat):Int):=by rw [aR (by omega) (by omega)];omega
        have e2:a8 (((q * 64:Nat):Int)+2)=((q * 64+2:Nat):Int):=by rw [aR (by omega) (by omega)];omega
        have n:(h.Class[q] != -1)=false:=by simpa using he
        simp only [gJ,e0,e1,e2,Int.toNat_natCast]
        rw [if_pos (by simp;omega),aQ (by omega),Option.bind_some,n,if_neg (by simp),aQ (by omega),Option.bind_some,aQ (by simp;omega),Option.bind_some,eG,Option.bind_some,aQ (by simp;omega),Option.bind_some]
        have:=X6 h384 hq5 hc
        simp only [gB] at this
        rw [this];rfl)
      unfold nW;rw [a1];rfl
    · have a2:loop (cP h.Class (-1)) 0=some (Out.ret (q:Int)):=dX q (fun k=>(k:Int)) _ s2 (by
        have n:((-1:Int) == h.Class[q])=true:=by rw [he];rfl
        simp only [cP]
        rw [if_pos (by simp;omega),aQ (by omega),Option.bind_some,n];rfl)
      unfold tZ hU
      rw [a2,hcp.2,zD hm,fA,decide_eq_true hh,decide_eq_true hc]
      have e0:a8 ((q:Int) * 64)=((q * 64:Nat):Int):=by rw [aR (by omega) (by omega)];omega
      simp only [Option.bind_some,jO,Bool.not_true,Bool.false_eq_true,if_false,pG,e0,qH,A4,Int.toNat_natCast]
      rw [decide_eq_false (by omega),if_neg (by simp),aQ (by omega),Option.bind_some,bE (by omega),aG1 _ _ (by omega)]
      have:=X7 h384 hq5 hc
      simp only [gB] at this
      rw [this];rfl
theorem RB.count{l:aA}(h:RB l):(cR l).length≤24:=X5 24 _ h.2.2.2.2 (fun x hx=>by have:=h.2.2.2.1 x hx;omega)
theorem aAT{m:Mem}(hs:dV m.aC){s:Int}(hc:0≤cG m.aC s):∃h,uL m s=some h∧uX m s=some h:=by
  unfold uL uX A2 A5 nX oB
  rw [pM hs hc,vM hs hc,Option.bind_some,Option.bind_some,cV,cV,nM,dS]
  have h1:=(GI hc).1
  simp only [decide_eq_true h1,Option.bind_some,Bool.not_true,Bool.false_eq_true,if_false]
  by_cases q:1≤lE m.aC s∧lE m.aC s≤6
  · simp only [decide_eq_true q,Bool.not_true,Bool.false_eq_true,if_false];exact⟨_,rfl,rfl⟩
  · simp only [decide_eq_false q,Bool.not_false,if_true];exact⟨_,rfl,rfl⟩
theorem IF{l:List aE}{k:Nat}(hk:k < l.length)(t:List Int):(bB (l.set k ⟨l[k].aK++t⟩)).length=(bB l).length+t.length:=by
  rw [yI hk,wG hk];simp;omega
end Go.Gv
end
noncomputable section
set_option linter.unusedVariables false
set_option linter.unusedSimpArgs false
set_option linter.unusedSectionVars false
namespace Go.Gv
def bt(b:List Int)(i:Nat):Int:=b.getD i 0
theorem Q4{b:List Int}{i:Nat}(h:i < b.length):b[i]=bt b i:=by
  unfold bt;rw [List.getD_eq_getElem?_getD,List.getElem?_eq_getElem h];rfl
theorem ld4{b:List Int}{a:Nat}(h:a+4≤b.length):ld b a 4=((bt b a * 256+bt b (a+1)) * 256+bt b (a+2)) * 256+bt b (a+3):=by
  unfold ld
  rw [List.drop_eq_getElem_cons (by omega),List.drop_eq_getElem_cons (by omega),List.drop_eq_getElem_cons (by omega),List.drop_eq_getElem_cons (by omega)]
  simp only [List.take_succ_cons,List.take_zero,ldF,List.foldl_cons,List.foldl_nil,Q4 (b:=b) (i:=a) (by omega),Q4 (b:=b) (i:=a+1) (by omega),Q4 (b:=b) (i:=a+1+1) (by omega),Q4 (b:=b) (i:=a+1+1+1) (by omega)]
  simp only [Nat.add_assoc,Nat.reduceAdd];omega
theorem IG{b:List Int}{i j:Nat}{v:Int}(hi:i < b.length):bt (b.set i v) j=if j=i then v else bt b j:=by
  unfold bt
  rw [List.getD_eq_getElem?_getD,List.getD_eq_getElem?_getD,List.getElem?_set]
  by_cases h:i=j
  · subst h;simp [hi]
  · have h':¬j=i:=fun q=>h q.symm
    simp [h,h']
theorem qY{b:List Int}{a:Nat}{n:Int}(h:a+4≤b.length)(j:Nat):bt (SS b a n) j=if j=a+3 then n else if a≤j∧j < a+3 then 0 else bt b j:=by
  unfold SS
  rw [IG (by simp;omega),IG (by simp;omega),IG (by simp;omega),IG (by omega)]
  by_cases h1:j=a+3
  · simp [h1]
  · rw [if_neg h1,if_neg h1]
    by_cases h2:a≤j∧j < a+3
    · rw [if_pos h2]
      by_cases h3:j=a+2
      · simp [h3]
      · rw [if_neg h3]
        by_cases h4:j=a+1
        · simp [h4]
        · rw [if_neg h4,if_pos (by omega)]
    · rw [if_neg h2,if_neg (by omega),if_neg (by omega),if_neg (by omega)]
theorem X8{b:List Int}{a:Nat}{n:Int}(h:a+4≤b.length):ld (SS b a n) a 4=n:=by
  rw [ld4 (by rw [vO];exact h),qY h,qY h,qY h,qY h,if_neg (by omega),if_pos (by omega),if_neg (by omega),if_pos (by omega),if_neg (by omega),if_pos (by omega),if_pos rfl]
  omega
theorem JV{b b':List Int}{a:Nat}(h:a+4≤b.length)(hl:b'.length=b.length)(hs:∀j,a≤j→j < a+4→bt b' j=bt b j):ld b' a 4=ld b a 4:=by
  rw [ld4 (by omega),ld4 h,hs a (by omega) (by omega),hs (a+1) (by omega) (by omega),hs (a+2) (by omega) (by omega),hs (a+3) (by omega) (by omega)]
def SU(h:aC)(p:Nat):Prop:=
  if bO h p < 0 then ∀k,k < 64→bt h.Bytes (p * 64+k)=0
  else ((bt h.Bytes (p * 64)=171∧bt h.Bytes (p * 64+1)=bO h p∧bt h.Bytes (p * 64+2)=bX (bO h p))∧(∀k,3≤k→k < 8→bt h.Bytes (p * 64+k)=0)∧∀i,i < (bX (bO h p)).toNat→1≤ld h.Bytes (p * 64+8+i * (aY (bO h p)).toNat) 4∧ld h.Bytes (p * 64+8+i * (aY (bO h p)).toNat) 4≤7)
theorem TQ{h:aC}(hs:dV h){p:Nat}(hp:p < 6){k:Nat}(hk:k < 64):(cE h p).getD k 0=bt h.Bytes (p * 64+k):=by
  rw [←TG hs hp hk,Q4 (by have:=hs.1;omega)]
theorem JW{l:List Int}{x:Int}:x∈l↔∃k,k < l.length∧l.getD k 0=x:=by
  rw [List.mem_iff_getElem]
  constructor
  · rintro⟨k,hk,e⟩
    exact⟨k,hk,by rw [List.getD_eq_getElem?_getD,List.getElem?_eq_getElem hk];exact e⟩
  · rintro⟨k,hk,e⟩
    exact⟨k,hk,by rw [List.getD_eq_getElem?_getD,List.getElem?_eq_getElem hk] at e;exact e⟩
theorem JX{h:aC}(hs:dV h){p:Nat}(hp:p < 6):iK h p↔SU h p:=by
  unfold iK SU
  have hl:=zC hs hp
  split
  · constructor
    · intro q k hk
      rw [←TQ hs hp hk]
      exact q _ (JW.2 ⟨k,by omega,rfl⟩)
    · intro q x hx
      obtain⟨k,hk,rfl⟩:=JW.1 hx
      rw [TQ hs hp (by omega)];exact q k (by omega)
  · rw [TQ hs hp (by omega),TQ hs hp (by omega),TQ hs hp (by omega)]
    have e:(∀x∈((cE h p).drop 3).take 5,x=0)↔∀k,3≤k→k < 8→bt h.Bytes (p * 64+k)=0:=by
      have g:∀j,j < 5→(((cE h p).drop 3).take 5).getD j 0=bt h.Bytes (p * 64+(3+j)):=fun j hj=>by
        rw [←TQ hs hp (by omega),List.getD_eq_getElem?_getD,List.getD_eq_getElem?_getD,List.getElem?_take,if_pos hj,List.getElem?_drop]
      constructor
      · intro q k h3 h8
        have:=q _ (JW.2 ⟨k - 3,by simp [hl];omega,rfl⟩)
        rw [g _ (by omega)] at this
        rw [show 3+(k - 3)=k by omega] at this;exact this
      · intro q x hx
        obtain⟨k,hk,rfl⟩:=JW.1 hx
        simp [hl] at hk
        rw [g _ hk];exact q _ (by omega) (by omega)
    rw [e];rfl
theorem SU.same{h h':aC}{p:Nat}(hp:p < 6)(hs:dV h)(hl:h'.Bytes.length=h.Bytes.length)(hc:bO h' p=bO h p)(hb:∀k,k < 64→bt h'.Bytes (p * 64+k)=bt h.Bytes (p * 64+k))(q:SU h p):SU h' p:=by
  have h1:=hs.1
  unfold SU at q ⊢
  rw [hc]
  split
  · rename_i q0;rw [if_pos q0] at q
    exact fun k hk=>by rw [hb k hk];exact q k hk
  · rename_i q0;rw [if_neg q0] at q
    obtain⟨⟨a1,a2,a3⟩,a4,a5⟩:=q
    have b0:=hb 0 (by omega);have b1:=hb 1 (by omega);have b2:=hb 2 (by omega)
    simp only [Nat.add_zero] at b0
    refine⟨⟨by rw [b0];exact a1,by rw [b1];exact a2,by rw [b2];exact a3⟩,fun k k3 k8=>by rw [hb k (by omega)];exact a4 k k3 k8,fun i hi=>?_⟩
    have hz:=rG hs hp (c:=bO h p) rfl hi
    rw [JV (b:=h.Bytes) (by omega) hl fun j j1 j2=>by
      have:=hb (j - p * 64) (by omega)
      rw [show p * 64+(j - p * 64)=j by omega] at this;exact this]
    exact a5 i hi
theorem Q5{h:aC}{s:Int}(hc:0≤cG h s):∃p i,p < 6∧i < (bX (bO h p)).toNat∧s=(p:Int) * 4+i∧cG h s=bO h p∧(mN s (cG h s)).toNat=p * 64+8+i * (aY (bO h p)).toNat∧(s / 4).toNat=p:=by
  obtain⟨h1,h2,h3⟩:=GI hc
  have hle:=jG (bO h (s / 4).toNat)
  refine⟨(s / 4).toNat,(s % 4).toNat,by omega,by omega,by omega,h3,?_,rfl⟩
  rw [h3]
  unfold mN
  rw [if_pos ⟨h1,by omega⟩]
  have hst:=(ID (bO h (s / 4).toNat)).1
  have e:s % 4 * aY (bO h (s / 4).toNat)=(((s % 4).toNat * (aY (bO h (s / 4).toNat)).toNat:Nat):Int):=by
    rw [Int.natCast_mul,Int.toNat_of_nonneg (by omega),Int.toNat_of_nonneg hst]
  omega
theorem DE{c:Int}{i j:Nat}(hi:i < (bX c).toNat)(hj:j < (bX c).toNat)(hn:i≠j):i * (aY c).toNat+4≤j * (aY c).toNat∨j * (aY c).toNat+4≤i * (aY c).toNat:=by
  have hc:0≤c∧c≤2:=pL.1 (by omega)
  have h12:12≤(aY c).toNat:=by rcases i6 hc with rfl | rfl | rfl <;> decide
  rcases Nat.lt_or_gt_of_ne hn with q | q
  · left
    have:(i+1) * (aY c).toNat≤j * (aY c).toNat:=Nat.mul_le_mul_right _ q
    rw [Nat.add_mul] at this;omega
  · right
    have:(j+1) * (aY c).toNat≤i * (aY c).toNat:=Nat.mul_le_mul_right _ q
    rw [Nat.add_mul] at this;omega
theorem QT.aIC{h:aC}(hh:QT h){s g:Int}(hc:0≤cG h s)(hg:1≤g∧g≤7) :
    QT ⟨SS h.Bytes (mN s (cG h s)).toNat g,h.Class⟩∧∀t,0≤cG h t→lE ⟨SS h.Bytes (mN s (cG h s)).toNat g,h.Class⟩ t=if t=s then g else lE h t:=by
  obtain⟨hs,hp⟩:=hh
  have h384:=hs.1
  have hs':dV ⟨SS h.Bytes (mN s (cG h s)).toNat g,h.Class⟩:=⟨by rw [vO];exact hs.1,hs.2.1,WT hs.2.2.1 _ (by omega),hs.2.2.2⟩
  obtain⟨p,i,p6,hi,es,ec,eo,ep⟩:=Q5 hc
  have hz:=rG hs p6 rfl hi
  have h4:=jG (bO h p)
  refine⟨⟨hs',fun q hq=>?_⟩,fun t ht=>?_⟩
  · rw [JX hs' hq]
    have hold:=(JX hs hq).1 (hp q hq)
    by_cases e:q=p
    · subst e
      have hpos:0 < bX (bO h q):=by omega
      have hcl:¬bO h q < 0:=by have:=pL.1 hpos;omega
      unfold SU at hold ⊢
      have hcl':bO ⟨SS h.Bytes (mN s (cG h s)).toNat g,h.Class⟩ q=bO h q:=rfl
      rw [hcl']
      rw [if_neg hcl] at hold ⊢
      obtain⟨⟨a1,a2,a3⟩,a4,a5⟩:=hold
      have bs:∀k,k < 8→bt (SS h.Bytes (mN s (cG h s)).toNat g) (q * 64+k)=bt h.Bytes (q * 64+k):=fun k hk=>by
        rw [qY (by omega),if_neg (by omega),if_neg (by omega)]
      have b0:=bs 0 (by omega);have b1:=bs 1 (by omega);have b2:=bs 2 (by omega)
      simp only [Nat.add_zero] at b0
      refine⟨⟨by rw [b0];exact a1,by rw [b1];exact a2,by rw [b2];exact a3⟩,fun k k3 k8=>by rw [bs k k8];exact a4 k k3 k8,fun j hj=>?_⟩
      have hzj:=rG hs p6 rfl hj
      by_cases ej:j=i
      · subst ej
        simp only [eo]
        rw [X8 (by omega)];exact hg
      · rw [JV (b:=h.Bytes) (by omega) (by simp only [vO]) fun k k1 k2=>?_]
        · exact a5 j hj
        · simp only [eo]
          have:=DE hi hj (fun q=>ej q.symm)
          rw [qY (by omega),if_neg (by omega),if_neg (by omega)]
    · refine SU.same hq hs (by simp only [vO]) rfl (fun k hk=>?_) hold
      rw [qY (by omega),if_neg (by omega),if_neg (by omega)]
  · have e2:cG ⟨SS h.Bytes (mN s (cG h s)).toNat g,h.Class⟩ t=cG h t:=rfl
    unfold lE
    rw [e2]
    by_cases e:t=s
    · subst e;rw [if_pos rfl];simp only;rw [X8 (by omega)]
    · rw [if_neg e]
      obtain⟨p',i',p6',hi',es',ec',eo',ep'⟩:=Q5 ht
      have hz':=rG hs p6' rfl hi'
      rw [JV (b:=h.Bytes) (by omega) (by simp only [vO]) fun k k1 k2=>?_]
      simp only
      by_cases ee:p'=p
      · subst ee
        have:=DE hi hi' (fun q=>e (by rw [es,es',q]))
        rw [qY (by omega),if_neg (by omega),if_neg (by omega)]
      · have h4':=jG (bO h p')
        rw [qY (by omega),if_neg (by omega),if_neg (by omega)]
theorem NT{p k:Nat}{c:Int}(hp:p < 6)(hk:(k:Int) < bX c):aEC p k c=p * 64+8+k * (aY c).toNat∧8+k * (aY c).toNat+4≤64:=by
  have hc:0≤c∧c≤2:=pL.1 (by omega)
  have h1:=VC (c:=c) hp hk
  have hle:=jG c
  have e:=h1.1
  unfold mN at e
  rw [if_pos (by omega)] at e
  have e1:((p:Int) * 4+k) / 4=p:=by omega
  have e2:((p:Int) * 4+k) % 4=k:=by omega
  rw [e1,e2] at e
  rcases i6 hc with rfl | rfl | rfl
  · rw [show aY 0=12 from rfl] at e ⊢
    rw [show bX 0=4 from rfl] at hk
    rw [show(12:Int).toNat=12 from rfl]
    omega
  · rw [show aY 1=20 from rfl] at e ⊢
    rw [show bX 1=2 from rfl] at hk
    rw [show(20:Int).toNat=20 from rfl]
    omega
  · rw [show aY 2=44 from rfl] at e ⊢
    rw [show bX 2=1 from rfl] at hk
    rw [show(44:Int).toNat=44 from rfl]
    omega
theorem aG2{b:List Int}{p:Nat}{c:Int}(hl:b.length=384)(hp:p < 6)(hc:0≤c∧c≤2):∀k:Nat,(k:Int)≤bX c→∀j,(j < p * 64∨p * 64+64≤j→bt (gB b p c k) j=bt b j)∧(3≤j→j < 8→bt (gB b p c k) (p * 64+j)=bt b (p * 64+j))∧bt (gB b p c k) (p * 64)=171∧bt (gB b p c k) (p * 64+1)=c∧bt (gB b p c k) (p * 64+2)=bX c
  | 0, hk, j => by
    have key:∀i,bt (gB b p c 0) i=if i=p * 64+2 then bX c else if i=p * 64+1 then c else if i=p * 64 then 171 else bt b i:=fun i=>by
      unfold gB
      rw [IG (by simp;omega),IG (by simp;omega),IG (by omega)]
    refine⟨fun h=>?_,fun h1 h2=>?_,?_,?_,?_⟩
    · rw [key,if_neg (by omega),if_neg (by omega),if_neg (by omega)]
    · rw [key,if_neg (by omega),if_neg (by omega),if_neg (by omega)]
    · rw [key,if_neg (by omega),if_neg (by omega),if_pos rfl]
    · rw [key,if_neg (by omega),if_pos rfl]
    · rw [key,if_pos rfl]
  | k + 1, hk, j => by
    have ih:=aG2 hl hp hc k (by omega)
    have hoff:=NT (c:=c) hp (by omega:(k:Int) < bX c)
    have hbl:=BH b p c k
    unfold gB
    refine⟨fun h=>?_,fun h1 h2=>?_,?_,?_,?_⟩
    · rw [qY (by omega),if_neg (by omega),if_neg (by omega)];exact(ih j).1 h
    · rw [qY (by omega),if_neg (by omega),if_neg (by omega)];exact(ih j).2.1 h1 h2
    · rw [qY (by omega),if_neg (by omega),if_neg (by omega)];exact(ih j).2.2.1
    · rw [qY (by omega),if_neg (by omega),if_neg (by omega)];exact(ih j).2.2.2.1
    · rw [qY (by omega),if_neg (by omega),if_neg (by omega)];exact(ih j).2.2.2.2
theorem aEE{b:List Int}{p:Nat}{c:Int}(hl:b.length=384)(hp:p < 6):∀k:Nat,(k:Int)≤bX c→∀i,i < k→ld (gB b p c k) (p * 64+8+i * (aY c).toNat) 4=1
  | 0,_,i,h=>absurd h (by omega)
  | k + 1, hk, i, h => by
    have hbl:=BH b p c k
    have ho:=NT (c:=c) hp (by omega:(k:Int) < bX c)
    unfold gB
    by_cases e:i=k
    · subst e;rw [←ho.1];exact X8 (by omega)
    · have hoi:=NT (c:=c) hp (by omega:(i:Int) < bX c)
      have ha:=DE (c:=c) (i:=i) (j:=k) (by omega) (by omega) e
      rw [JV (b:=gB b p c k) (by omega) (by rw [vO]) fun j j1 j2=>by rw [qY (by omega),if_neg (by omega),if_neg (by omega)]]
      exact aEE hl hp k (by omega) i (by omega)
theorem JY{h:aC}(hs:dV h){B:List Int}{p q:Nat}(hq:q < 6){c:Int}:bO ⟨B,h.Class.set p c⟩ q=if q=p then c else bO h q:=by
  have h6:=hs.2.1
  unfold bO
  rw [List.getD_eq_getElem?_getD,List.getD_eq_getElem?_getD,List.getElem?_set]
  by_cases e:p=q
  · subst e;simp [h6,hq]
  · have e':¬q=p:=fun z=>e z.symm
    simp [e,e']
theorem QT.aJQ{h:aC}(hh:QT h){p:Nat}(hp:p < 6)(hun:bO h p < 0){c:Int}(hc:0≤c∧c≤2) :
    QT ⟨gB h.Bytes p c (bX c).toNat,h.Class.set p c⟩∧(∀t,(t / 4).toNat≠p→cG ⟨gB h.Bytes p c (bX c).toNat,h.Class.set p c⟩ t=cG h t)∧(∀t,0≤cG h t→(t / 4).toNat≠p∧lE ⟨gB h.Bytes p c (bX c).toNat,h.Class.set p c⟩ t=lE h t) ∧
      ∀i,i < (bX c).toNat→cG ⟨gB h.Bytes p c (bX c).toNat,h.Class.set p c⟩ ((p:Int) * 4+i)=c∧lE ⟨gB h.Bytes p c (bX c).toNat,h.Class.set p c⟩ ((p:Int) * 4+i)=1:=by
  obtain⟨hs,hpg⟩:=hh
  have h384:=hs.1
  have hle:=jG c
  have hpn:((bX c).toNat:Int)≤bX c:=by omega
  have hb:=aG2 h384 hp hc (bX c).toNat hpn
  have hbl:=BH h.Bytes p c (bX c).toNat
  have hs':dV ⟨gB h.Bytes p c (bX c).toNat,h.Class.set p c⟩:=⟨by simp only [hbl];exact h384,by simp only [List.length_set];exact hs.2.1,VB hs.2.2.1 p hc _,fun x hx=>by
    rcases List.mem_or_eq_of_mem_set hx with q | rfl
    · exact hs.2.2.2 x q
    · omega⟩
  have hcls:∀t:Int,(t / 4).toNat≠p→cG ⟨gB h.Bytes p c (bX c).toNat,h.Class.set p c⟩ t=cG h t:=fun t ht=>by
    unfold cG
    by_cases q:0≤t∧t≤23
    · rw [JY hs (by omega),if_neg ht]
    · rw [if_neg (fun z=>q z.1),if_neg (fun z=>q z.1)]
  refine⟨⟨hs',fun q hq=>?_⟩,hcls,fun t ht=>?_,fun i hi=>?_⟩
  · rw [JX hs' hq]
    have hold:=(JX hs hq).1 (hpg q hq)
    by_cases e:q=p
    · subst e
      unfold SU at hold ⊢
      rw [if_pos hun] at hold
      rw [JY hs hq,if_pos rfl,if_neg (by omega)]
      refine⟨(hb 0).2.2,fun k k3 k8=>?_,fun i hi=>?_⟩
      · simp only;rw [(hb k).2.1 k3 k8];exact hold k (by omega)
      · simp only;rw [aEE h384 hp _ hpn i hi];omega
    · refine SU.same hq hs (by simp only [hbl]) (by rw [JY hs hq,if_neg e]) (fun k hk=>?_) hold
      exact(hb _).1 (by omega)
  · obtain⟨p',i',p6',hi',es',ec',eo',ep'⟩:=Q5 ht
    have hne:(t / 4).toNat≠p:=fun z=>by rw [ec',←ep',z] at ht;omega
    refine⟨hne,?_⟩
    have hz':=rG hs p6' rfl hi'
    unfold lE
    rw [hcls t hne,JV (b:=h.Bytes) (by omega) (by simp only [hbl]) fun k k1 k2=>(hb k).1 (by omega)]
  · have e1:((p:Int) * 4+i) / 4=p:=by omega
    have e2:((p:Int) * 4+i) % 4=i:=by omega
    have ec:cG ⟨gB h.Bytes p c (bX c).toNat,h.Class.set p c⟩ ((p:Int) * 4+i)=c:=by
      unfold cG
      rw [e1,e2,Int.toNat_natCast,JY hs hp,if_pos rfl,if_pos (by omega)]
    refine⟨ec,?_⟩
    unfold lE
    rw [ec]
    have ho:=NT (c:=c) hp (by omega:(i:Int) < bX c)
    have:(mN ((p:Int) * 4+i) c).toNat=p * 64+8+i * (aY c).toNat:=ho.1
    rw [this]
    exact aEE h384 hp _ hpn i hi
def tQ(m m':Mem)(k:Int):Prop:=uD m'∧∀s,gY m s=3→s≠k→gY m' s=3∧lE m'.aC s=lE m.aC s∧cG m'.aC s=cG m.aC s
theorem tQ.refl{m:Mem}(h:uD m)(k:Int):tQ m m k:=⟨h,fun _ h _=>⟨h,rfl,rfl⟩⟩
theorem tQ.live{m m':Mem}{k h:Int}(q:tQ m m' k)(hl:tP m h)(hn:h % 32≠k):tP m' h:=by
  obtain⟨h1,h2,h3⟩:=hl
  obtain⟨a,b,_⟩:=q.2 _ h2 hn
  exact⟨h1,a,by rw [b];exact h3⟩
theorem AV{l:List aE}{k j:Nat}(hk:k < l.length){t:aE}:gH (l.set k t) j=if j=k then t.aK else gH l j:=by
  unfold gH
  rw [List.getD_eq_getElem?_getD,List.getD_eq_getElem?_getD,List.getElem?_set]
  by_cases e:k=j
  · subst e;simp [hk]
  · have e':¬j=k:=fun z=>e z.symm
    simp [e,e']
theorem TR{l:List aE}{k:Nat}(hk:k < l.length){t:aE}(ht:t.aK.Sublist l[k].aK):(bB (l.set k t)).Sublist (bB l):=by
  rw [yI hk,wG hk]
  exact(List.Sublist.refl _).append (ht.append (List.Sublist.refl _))
theorem JZ{l:List aE}{k:Nat}(hk:k < l.length){xs:List Int}{s:Int}:s∈bB (l.set k ⟨l[k].aK++xs⟩)↔s∈bB l∨s∈xs:=by
  rw [yI hk,wG hk]
  simp only [List.mem_append]
  constructor
  · rintro(h | (h | h) | h)
    · exact .inl (.inl h)
    · exact .inl (.inr (.inl h))
    · exact .inr h
    · exact .inl (.inr (.inr h))
  · rintro((h | h | h) | h)
    · exact .inl h
    · exact .inr (.inl (.inl h))
    · exact .inr (.inr h)
    · exact .inr (.inl (.inr h))
theorem FY{l:List aE}{k:Nat}(hk:k < l.length){xs r q:List Int}(h:(q++(bB l++r)).Nodup)(hx:xs.Nodup)(hd:∀x∈xs,x∉q++(bB l++r)):(q++(bB (l.set k ⟨l[k].aK++xs⟩)++r)).Nodup:=by
  have hp:(q++(bB (l.set k ⟨l[k].aK++xs⟩)++r)).Perm (xs++(q++(bB l++r))):=by
    rw [yI hk,wG hk]
    have e1:q++(bB (l.take k)++(l[k].aK++xs++bB (l.drop (k+1)))++r)=(q++bB (l.take k)++l[k].aK)++(xs++(bB (l.drop (k+1))++r)):=by simp
    have e2:xs++(q++(bB (l.take k)++(l[k].aK++bB (l.drop (k+1)))++r))=xs++((q++bB (l.take k)++l[k].aK)++(bB (l.drop (k+1))++r)):=by simp
    rw [e1,e2]
    exact List.perm_append_comm_assoc _ _ _
  rw [hp.nodup_iff,List.nodup_append]
  exact⟨hx,h,fun a ha b hb e=>hd a ha (e ▸ hb)⟩
theorem pP{m:Mem}{s:Int}:gY m s=3↔0≤cG m.aC s∧s∉cR m.aA∧lE m.aC s≤6:=by
  unfold gY
  constructor
  · intro h
    split at h
    · omega
    · split at h
      · omega
      · split at h
        · omega
        · exact⟨by omega,by assumption,by omega⟩
  · rintro⟨a,b,c⟩
    rw [if_neg (by omega),if_neg b,if_neg (by omega)]
noncomputable section
variable {m:Mem} (hm:uD m)
include hm
theorem uD.aID{k:Nat}(hk:k < 9){t:aE}(ht:t.aK.Sublist (gH m.aA.aV k)):tQ m ⟨m.aC,⟨m.aA.Global,m.aA.aV.set k t⟩⟩ (-1):=by
  obtain⟨⟨hh,h3,h9,h2,hr,hn⟩,hg,ho⟩:=hm
  have hk':k < m.aA.aV.length:=by omega
  have ht':t.aK.Sublist m.aA.aV[k].aK:=by rw [dN hk'];exact ht
  have hsub:(cR ⟨m.aA.Global,m.aA.aV.set k t⟩).Sublist (cR m.aA):=(List.Sublist.refl _).append (TR hk' ht')
  refine⟨⟨⟨hh,h3,by simpa using h9,fun s hs=>?_,fun x hx=>hr x (hsub.subset hx),hsub.nodup hn⟩,hg,fun j hj=>?_⟩,fun s hs _=>⟨?_,rfl,rfl⟩⟩
  · rcases List.mem_or_eq_of_mem_set hs with q | rfl
    · exact h2 s q
    · have:=ht'.length_le;have:=h2 _ (List.getElem_mem hk');omega
  · unfold tF
    simp only [AV hk']
    split
    · rename_i e;subst e
      exact fun x hx=>ho j hj x (ht.subset hx)
    · exact ho j hj
  · rw [pP] at hs ⊢
    exact⟨hs.1,fun q=>hs.2.1 (hsub.subset q),hs.2.2⟩
theorem uD.aAU{k:Nat}(hk:k < 3){t:aE}(ht:t.aK.Sublist (gH m.aA.Global k)):tQ m ⟨m.aC,⟨m.aA.Global.set k t,m.aA.aV⟩⟩ (-1):=by
  obtain⟨⟨hh,h3,h9,h2,hr,hn⟩,hg,ho⟩:=hm
  have hk':k < m.aA.Global.length:=by omega
  have ht':t.aK.Sublist m.aA.Global[k].aK:=by rw [dN hk'];exact ht
  have hsub:(cR ⟨m.aA.Global.set k t,m.aA.aV⟩).Sublist (cR m.aA):=(TR hk' ht').append (List.Sublist.refl _)
  refine⟨⟨⟨hh,by simpa using h3,h9,h2,fun x hx=>hr x (hsub.subset hx),hsub.nodup hn⟩,fun j hj=>?_,ho⟩,fun s hs _=>⟨?_,rfl,rfl⟩⟩
  · unfold zP
    simp only [AV hk']
    split
    · rename_i e;subst e
      exact fun x hx=>hg j hj x (ht.subset hx)
    · exact hg j hj
  · rw [pP] at hs ⊢
    exact⟨hs.1,fun q=>hs.2.1 (hsub.subset q),hs.2.2⟩
theorem uD.aGB{k:Nat}(hk:k < 9){xs:List Int}(hl:(gH m.aA.aV k).length+xs.length≤2)(hx:xs.Nodup)(hf:tE m.aC xs ((k % 3:Nat):Int))(hd:∀x∈xs,x∉cR m.aA)(hk':k < m.aA.aV.length) :
    uD ⟨m.aC,⟨m.aA.Global,m.aA.aV.set k ⟨m.aA.aV[k].aK++xs⟩⟩⟩∧∀s,s∉xs→gY m s=3→gY ⟨m.aC,⟨m.aA.Global,m.aA.aV.set k ⟨m.aA.aV[k].aK++xs⟩⟩⟩ s=3:=by
  obtain⟨⟨hh,h3,h9,h2,hr,hn⟩,hg,ho⟩:=hm
  have hmem:∀s,s∈cR ⟨m.aA.Global,m.aA.aV.set k ⟨m.aA.aV[k].aK++xs⟩⟩↔s∈cR m.aA∨s∈xs:=fun s=>by
    unfold cR;simp only [List.mem_append,JZ hk'];rw [or_assoc]
  have hcl:∀x∈xs,0≤x∧x≤23:=fun x h=>by
    have:=(hf x h).1
    exact(GI (h:=m.aC) (s:=x) (by omega)).1
  refine⟨⟨⟨hh,h3,by simpa using h9,fun s hs=>?_,fun x hx=>?_,?_⟩,hg,fun j hj=>?_⟩,fun s hs h3=>?_⟩
  · rcases List.mem_or_eq_of_mem_set hs with q | rfl
    · exact h2 s q
    · rw [←dN hk'] at hl;simpa using hl
  · rcases(hmem x).1 hx with q | q
    · exact hr x q
    · exact hcl x q
  · have:=FY (q:=bB m.aA.Global) (r:=[]) hk' (by simpa [cR] using hn) hx (by simpa [cR] using hd)
    simpa [cR] using this
  · unfold tF
    simp only [AV hk']
    split
    · rename_i e;subst e
      intro x hx
      rcases List.mem_append.1 hx with q | q
      · rw [dN hk'] at q;exact ho j hj x q
      · exact hf x q
    · exact ho j hj
  · rw [pP] at h3 ⊢
    exact⟨h3.1,fun q=>(((hmem s).1 q).elim h3.2.1 hs),h3.2.2⟩
theorem uD.Q6{k:Nat}(hk:k < 3){xs:List Int}(hx:xs.Nodup)(hf:tE m.aC xs (k:Int))(hd:∀x∈xs,x∉cR m.aA)(hk':k < m.aA.Global.length) :
    uD ⟨m.aC,⟨m.aA.Global.set k ⟨m.aA.Global[k].aK++xs⟩,m.aA.aV⟩⟩∧∀s,s∉xs→gY m s=3→gY ⟨m.aC,⟨m.aA.Global.set k ⟨m.aA.Global[k].aK++xs⟩,m.aA.aV⟩⟩ s=3:=by
  obtain⟨⟨hh,h3,h9,h2,hr,hn⟩,hg,ho⟩:=hm
  have hmem:∀s,s∈cR ⟨m.aA.Global.set k ⟨m.aA.Global[k].aK++xs⟩,m.aA.aV⟩↔s∈cR m.aA∨s∈xs:=fun s=>by
    unfold cR;simp only [List.mem_append,JZ hk'];rw [or_right_comm]
  have hcl:∀x∈xs,0≤x∧x≤23:=fun x h=>by
    have:=(hf x h).1
    exact(GI (h:=m.aC) (s:=x) (by omega)).1
  refine⟨⟨⟨hh,by simpa using h3,h9,h2,fun x hx=>?_,?_⟩,fun j hj=>?_,ho⟩,fun s hs h3=>?_⟩
  · rcases(hmem x).1 hx with q | q
    · exact hr x q
    · exact hcl x q
  · have:=FY (q:=[]) (r:=bB m.aA.aV) hk' (by simpa [cR] using hn) hx (by simpa [cR] using hd)
    simpa [cR] using this
  · unfold zP
    simp only [AV hk']
    split
    · rename_i e;subst e
      intro x hx
      rcases List.mem_append.1 hx with q | q
      · rw [dN hk'] at q;exact hg j hj x q
      · exact hf x q
    · exact hg j hj
  · rw [pP] at h3 ⊢
    exact⟨h3.1,fun q=>(((hmem s).1 q).elim h3.2.1 hs),h3.2.2⟩
theorem uD.IH{x:Int}(hx:x∈cR m.aA):0≤cG m.aC x∧lE m.aC x≤6:=by
  obtain⟨⟨hh,h3,h9,h2,hr,hn⟩,hg,ho⟩:=hm
  have key:∀(l:List aE),x∈bB l→∃k,k < l.length∧x∈gH l k:=fun l h=>by
    obtain⟨s,h1,h2⟩:=GL.1 h
    obtain⟨k,hk,rfl⟩:=List.mem_iff_getElem.1 h1
    exact⟨k,hk,by rw [←dN hk];exact h2⟩
  rcases List.mem_append.1 hx with q | q
  · obtain⟨k,hk,h⟩:=key _ q
    have:=hg k (by omega) x h
    exact⟨by omega,this.2⟩
  · obtain⟨k,hk,h⟩:=key _ q
    have:=ho k (by omega) x h
    exact⟨by omega,this.2⟩
theorem uD.heap{h':aC}(hh:QT h')(hs:∀x∈cR m.aA,cG h' x=cG m.aC x∧lE h' x=lE m.aC x):uD ⟨h',m.aA⟩:=by
  obtain⟨⟨_,hl⟩,hg,ho⟩:=hm
  have key:∀(l:List aE) k x,x∈gH l k→x∈bB l:=fun l k x h=>by
    unfold gH at h
    rw [List.getD_eq_getElem?_getD] at h
    cases hk:l[k]? with
    | none=>rw [hk] at h;simp at h
    | some s=>rw [hk] at h;exact GL.2 ⟨s,List.mem_of_getElem? hk,h⟩
  refine⟨⟨hh,hl⟩,fun k hk x hx=>?_,fun k hk x hx=>?_⟩
  · obtain⟨a,b⟩:=hs x (List.mem_append_left _ (key _ k x hx))
    show cG h' x=_∧lE h' x≤6
    rw [a,b];exact hg k hk x hx
  · obtain⟨a,b⟩:=hs x (List.mem_append_right _ (key _ k x hx))
    show cG h' x=_∧lE h' x≤6
    rw [a,b];exact ho k hk x hx
theorem uD.aKU{s g:Int}(hu:gY m s=3)(hg:1≤g∧g≤7):tQ m ⟨⟨SS m.aC.Bytes (mN s (cG m.aC s)).toNat g,m.aC.Class⟩,m.aA⟩ s∧lE ⟨SS m.aC.Bytes (mN s (cG m.aC s)).toNat g,m.aC.Class⟩ s=g:=by
  have hu':=pP.1 hu
  obtain⟨a,b⟩:=QT.aIC hm.1.1 hu'.1 hg
  refine⟨⟨uD.heap hm a fun x hx=>⟨rfl,?_⟩,fun t ht hn=>?_⟩,by rw [b s hu'.1,if_pos rfl]⟩
  · rw [b x (uD.IH hm hx).1,if_neg (show ¬x=s from fun e=>hu'.2.1 (e ▸ hx))]
  · have ht':=pP.1 ht
    have e:lE ⟨SS m.aC.Bytes (mN s (cG m.aC s)).toNat g,m.aC.Class⟩ t=lE m.aC t:=by rw [b t ht'.1,if_neg hn]
    exact⟨pP.2 ⟨ht'.1,ht'.2.1,by simp only [e];exact ht'.2.2⟩,e,rfl⟩
theorem uD.aJR{p:Nat}(hp:p < 6)(hun:bO m.aC p < 0){c:Int}(hc:0≤c∧c≤2){xs:List Int}(hxs:∀x∈xs,∃i,i < (bX c).toNat∧x=(p:Int) * 4+(i:Nat))(hx:xs.Nodup)(hk':c.toNat < m.aA.Global.length) :
    tQ m ⟨⟨gB m.aC.Bytes p c (bX c).toNat,m.aC.Class.set p c⟩,⟨m.aA.Global.set c.toNat ⟨m.aA.Global[c.toNat].aK++xs⟩,m.aA.aV⟩⟩ (-1):=by
  obtain⟨a,b,d,e⟩:=QT.aJQ hm.1.1 hp hun hc
  have h1:uD ⟨⟨gB m.aC.Bytes p c (bX c).toNat,m.aC.Class.set p c⟩,m.aA⟩:=uD.heap hm a fun x hx=>by
    obtain⟨q,r⟩:=d x (uD.IH hm hx).1
    exact⟨b x q,r⟩
  have hno:∀x∈xs,¬0≤cG m.aC x:=fun x h q=>by
    obtain⟨i,hi,rfl⟩:=hxs x h
    have h4:=jG c
    exact(d _ q).1 (by omega)
  obtain⟨f,g⟩:=uD.Q6 h1 (k:=c.toNat) (by omega) hx (fun x h=>by
    obtain⟨i,hi,rfl⟩:=hxs x h
    have:=e i hi
    exact⟨by simp only [this.1];omega,by simp only [this.2];omega⟩) (fun x h q=>hno x h (uD.IH hm q).1) hk'
  refine⟨f,fun s hs _=>?_⟩
  have hs':=pP.1 hs
  obtain⟨q,r⟩:=d s hs'.1
  have h2:gY ⟨⟨gB m.aC.Bytes p c (bX c).toNat,m.aC.Class.set p c⟩,m.aA⟩ s=3:=pP.2 ⟨by simp only [b s q];exact hs'.1,hs'.2.1,by simp only [r];exact hs'.2.2⟩
  exact⟨g s (fun h=>hno s h hs'.1) h2,r,b s q⟩
end
end Go.Gv
end
noncomputable section
set_option linter.unusedVariables false
set_option linter.unusedSimpArgs false
set_option linter.unusedSectionVars false
namespace Go.Gv
theorem aIE{p n:Nat}{x:Int}(h:x∈gS p n):∃i,i < n∧x=(p:Int) * 4+(i:Nat):=by
  simp only [gS,List.mem_map,List.mem_range] at h
  obtain⟨i,h1,h2⟩:=h
  exact⟨i,h1,h2.symm⟩
theorem aEF(p n:Nat):(gS p n).Nodup:=by
  unfold gS
  rw [List.Nodup,List.pairwise_map]
  exact List.Pairwise.imp (fun h e=>h (by omega)) (List.nodup_range (n:=n))
theorem aEG{m:Mem}(hm:uD m){c:Int}(hc:0≤c∧c≤2) :
    ∃m' s,xJ m c=some (m',s)∧xU m c=some (m',s)∧lF m'∧(0≤s→dV m'.aC∧0≤cG m'.aC s)∧tQ m m' (-1):=by
  have hl:=hm.1.2
  have hcnt:=hl.count
  have hs:=hm.1.1.1
  have hsl:=hl.HH (by omega)
  have hp4:=jG c
  have hpp:0 < bX c:=pL.2 hc
  have hall:=iL m.aA
  have hsG:∀s∈m.aA.Global,s.aK.length≤24:=fun s h=>by have:=wF h;omega
  have hsO:∀s∈m.aA.aV,s.aK.length≤24:=fun s h=>by have:=wF h;omega
  have h3:=hl.1
  have h9:=hl.2.1
  have hcpl:=DC (l:=m.aA) (by omega) (by omega) (fun s h=>by have:=hsG s h;omega) (fun s h=>by have:=hsO s h;omega)
  unfold xJ xU
  rcases aED hm.1.1 hc with ⟨e1,e2⟩ | ⟨p,hp,hun,e1,e2⟩
  · rw [e1,e2,hcpl.2]
    have h1:=hs.1;have h2:=hs.2.1
    exact⟨_,_,rfl,rfl,⟨by simp only;omega,by simp only;omega,by simp only;omega,by simp only;omega,by simp only;omega⟩,fun h=>absurd h (by omega),tQ.refl hm _⟩
  · rw [e1,e2,hcpl.2]
    simp only [Option.bind_some,wS,wR,wO,Q3]
    have hn:(((bX c).toNat:Int) == 0)=false:=by simpa using (by omega:¬((bX c).toNat:Int)=0)
    have hk:c.toNat < m.aA.Global.length:=by omega
    have hg0:=hsG _ (List.getElem_mem hk)
    have hx:idx m.aA.Global c=some m.aA.Global[c.toNat]:=BF hc.1 (by omega)
    have hz:idx (gS p (bX c).toNat) 0=some ((p:Int) * 4):=by
      have:=aQ (l:=gS p (bX c).toNat) (k:=0) (by rw [Q3];omega)
      rw [show((0:Nat):Int)=0 from rfl] at this
      rw [this];simp [gS]
    have hlen:(List.drop (1:Int).toNat (List.take (bX c).toNat (gS p (bX c).toNat))).length≤4:=by simp [Q3];omega
    simp only [hn,Bool.false_eq_true,if_false,hx,Option.bind_some,hz]
    rw [bE (by omega),bE (by omega)]
    have hcl:bO ⟨gB m.aC.Bytes p c (bX c).toNat,m.aC.Class.set p c⟩ p=c:=by
      have h6:=hs.2.1
      unfold bO;simp [List.getD_eq_getElem?_getD,List.getElem?_set,h6,hp]
    refine⟨_,_,rfl,rfl,⟨by simp only [BH];have:=hs.1;omega,by simp only [List.length_set];have:=hs.2.1;omega,by simp only [List.length_set];omega,by simp only;omega,?_⟩,fun _=>⟨⟨by simp only [BH];exact hs.1,by simp only [List.length_set];exact hs.2.1,VB hs.2.2.1 p hc _,fun x hx=>?_⟩,?_⟩,?_⟩
    · rw [iL];simp only [IF hk];omega
    · rcases List.mem_or_eq_of_mem_set hx with h | rfl
      · exact hs.2.2.2 x h
      · omega
    · unfold cG
      have e4:((p:Int) * 4 / 4).toNat=p:=by omega
      rw [e4]
      simp only [hcl]
      rw [if_pos ⟨by omega,by omega⟩];exact hc.1
    · exact uD.aJR hm hp hun hc (fun x hx=>aIE (List.mem_of_mem_take (List.mem_of_mem_drop hx))) ((aEF p _).sublist ((List.drop_sublist _ _).trans (List.take_sublist _ _))) hk
theorem X9(n:Int):∃c,xI n=some c∧xS n=some c∧(c = -1∨(0≤c∧c≤2)):=by
  have s1:∀k,0≤k∧k≤2→eX n k=some (if 1≤n∧n≤AQ k then .stop (Out.ret k) else .next (k+1)):=fun k hk=>by
    simp only [eX]
    rw [if_pos (by simp;omega),QM,Option.bind_some,cV,Option.bind_some,aR (by omega) (by omega)]
    by_cases q:1≤n∧n≤AQ k
    · rw [decide_eq_true q,if_pos rfl,if_pos q]
    · rw [decide_eq_false q,if_neg (by simp),if_neg q]
  have s2:∀k,0≤k∧k≤2→eZ n k=some (if 1≤n∧n≤AQ k then .stop (Out.ret k) else .next (k+1)):=fun k hk=>by
    simp only [eZ,qA]
    rw [if_pos (by simp;omega),QN,Option.bind_some,aR (by omega) (by omega)]
    by_cases q1:1≤n
    · by_cases q2:n≤AQ k <;> simp [q1,q2]
    · simp [q1]
  have st:∀k,0≤k∧k≤2→1≤n∧n≤AQ k→loop (eX n) k=some (Out.ret k)∧loop (eZ n) k=some (Out.ret k):=fun k hk h=>
    ⟨bP (by rw [s1 k hk,if_pos h]),bP (by rw [s2 k hk,if_pos h])⟩
  have nx:∀k,0≤k∧k≤2→¬(1≤n∧n≤AQ k)→loop (eX n) k=loop (eX n) (k+1)∧loop (eZ n) k=loop (eZ n) (k+1):=fun k hk h=>
    ⟨bW (by rw [s1 k hk,if_neg h]),bW (by rw [s2 k hk,if_neg h])⟩
  unfold xI xS
  by_cases q0:1≤n∧n≤AQ 0
  · have:=st 0 (by omega) q0
    rw [this.1,this.2];exact⟨_,rfl,rfl,.inr (by omega)⟩
  · have h0:=nx 0 (by omega) q0
    rw [h0.1,h0.2,show(0:Int)+1=1 from rfl]
    by_cases q1:1≤n∧n≤AQ 1
    · have:=st 1 (by omega) q1
      rw [this.1,this.2];exact⟨_,rfl,rfl,.inr (by omega)⟩
    · have h1:=nx 1 (by omega) q1
      rw [h1.1,h1.2,show(1:Int)+1=2 from rfl]
      by_cases q2:1≤n∧n≤AQ 2
      · have:=st 2 (by omega) q2
        rw [this.1,this.2];exact⟨_,rfl,rfl,.inr (by omega)⟩
      · have h2:=nx 2 (by omega) q2
        rw [h2.1,h2.2,show(2:Int)+1=3 from rfl,bP (body:=eX n) (r:=Out.brk ()) (by simp [eX]),bP (body:=eZ n) (r:=Out.brk ()) (by simp [eZ])]
        exact⟨_,rfl,rfl,.inl rfl⟩
theorem aEH{s:aE}(hl:s.aK.length≤1048576):∃t x,qP s=some (t,x)∧nB s=some (x,t)∧t.aK.length≤s.aK.length∧(0≤x→x∈s.aK)∧t.aK.Sublist s.aK:=by
  unfold qP nB A1
  rw [aR (by omega) (by omega)]
  by_cases q:s.aK.length=0
  · rw [if_pos (by simpa using q),if_pos (by simp;omega)]
    exact⟨_,_,rfl,rfl,Nat.le_refl _,fun h=>absurd h (by omega),List.Sublist.refl _⟩
  · have hx:idx s.aK ((s.aK.length:Int) - 1)=some (s.aK[s.aK.length - 1]'(by omega)):=by
      rw [show((s.aK.length:Int) - 1)=((s.aK.length - 1:Nat):Int) by omega,aQ (by omega)]
    rw [if_neg (by simpa using q),if_neg (by simp;omega),bE (by omega),hx]
    simp only [Option.bind_some]
    rw [bE (by omega)]
    exact⟨_,_,rfl,rfl,by simp,fun _=>List.getElem_mem _,(List.drop_sublist _ _).trans (List.take_sublist _ _)⟩
theorem J0{w c:Int}(hw:0≤w∧w≤2)(hc:0≤c∧c≤2):mX w c=some (w * 3+c)∧yU w c=some (w * 3+c):=by
  have e:a8 (a8 (w * 3)+c)=w * 3+c:=by rw [aR (x:=w * 3) (by omega) (by omega),aR (by omega) (by omega)]
  constructor
  · unfold mX o5;rw [cV,cV,decide_eq_true hw,decide_eq_true hc,e];rfl
  · unfold yU uU;rw [kN,fA,decide_eq_true hw,decide_eq_true hc,e];rfl
theorem Q7{l:List aE}{k:Nat}(hk:k < l.length){t:aE}(ht:t.aK.length≤l[k].aK.length):(bB (l.set k t)).length≤(bB l).length:=by
  rw [yI hk,wG hk];simp;omega
noncomputable section
variable {m:Mem} (hm:uD m)
include hm
theorem uD.facts:(cR m.aA).length≤24∧m.aA.Global.length=3∧m.aA.aV.length=9∧m.aC.Bytes.length=384∧m.aC.Class.length=6∧lF m∧d8 m.aA=some m.aA∧fT m.aA=some true ∧
    (∀s∈m.aA.Global,s.aK.length≤24)∧(∀s∈m.aA.aV,s.aK.length≤24):=by
  have hl:=hm.1.2
  have hcnt:=hl.count
  have hall:=iL m.aA
  have hsG:∀s∈m.aA.Global,s.aK.length≤24:=fun s h=>by have:=wF h;omega
  have hsO:∀s∈m.aA.aV,s.aK.length≤24:=fun s h=>by have:=wF h;omega
  have h3:=hl.1;have h9:=hl.2.1
  have h1:=hm.1.1.1.1;have h2:=hm.1.1.1.2.1
  refine⟨hcnt,h3,h9,h1,h2,⟨by omega,by omega,by omega,by omega,by omega⟩,(DC (by omega) (by omega) (fun s h=>by have:=hsG s h;omega) (fun s h=>by have:=hsO s h;omega)).2,by rw [D5 (by omega),decide_eq_true hl],hsG,hsO⟩
theorem YA{w c:Int}(hw:0≤w∧w≤2)(hc:0≤c∧c≤2) :
    ∃l t x,idx m.aA.aV (w * 3+c)=some l∧qP l=some (t,x)∧xT m.aA w c=some (⟨m.aA.Global,m.aA.aV.set (w * 3+c).toNat t⟩,x) ∧
      lF ⟨m.aC,⟨m.aA.Global,m.aA.aV.set (w * 3+c).toNat t⟩⟩∧(0≤x→0≤cG m.aC x)∧tQ m ⟨m.aC,⟨m.aA.Global,m.aA.aV.set (w * 3+c).toNat t⟩⟩ (-1):=by
  obtain⟨hcnt,h3,h9,h1,h2,hsm,hcp,hlo,hsG,hsO⟩:=uD.facts hm
  have hk:(w * 3+c).toNat < m.aA.aV.length:=by omega
  have hx:idx m.aA.aV (w * 3+c)=some m.aA.aV[(w * 3+c).toNat]:=BF (by omega) (by omega)
  have h24:=hsO _ (List.getElem_mem hk)
  obtain⟨t,x,e1,e2,ht,hmem,hsub⟩:=aEH (s:=m.aA.aV[(w * 3+c).toNat]) (by omega)
  have hall:=iL m.aA
  refine⟨_,t,x,hx,e1,?_,⟨by simp only;omega,by simp only;omega,by simp only;omega,by simp only [List.length_set];omega,?_⟩,fun h0=>?_,uD.aID hm (by omega) (by rw [←dN hk];exact hsub)⟩
  · unfold xT qB
    rw [hcp,(J0 hw hc).2,hlo]
    simp only [Option.bind_some,Bool.not_true,Bool.false_eq_true,if_false]
    rw [decide_eq_false (by omega),if_neg (by simp),hx,Option.bind_some,e2];rfl
  · have:=Q7 hk ht
    rw [iL];simp only;omega
  · have:=hm.2.2 (w * 3+c).toNat (by omega) x (by rw [←dN hk];exact hmem h0)
    omega
theorem SW{c:Int}(hc:0≤c∧c≤2) :
    ∃l t x,idx m.aA.Global c=some l∧qP l=some (t,x)∧qC m.aA c=some (⟨m.aA.Global.set c.toNat t,m.aA.aV⟩,x) ∧
      lF ⟨m.aC,⟨m.aA.Global.set c.toNat t,m.aA.aV⟩⟩∧(0≤x→0≤cG m.aC x)∧tQ m ⟨m.aC,⟨m.aA.Global.set c.toNat t,m.aA.aV⟩⟩ (-1):=by
  obtain⟨hcnt,h3,h9,h1,h2,hsm,hcp,hlo,hsG,hsO⟩:=uD.facts hm
  have hk:c.toNat < m.aA.Global.length:=by omega
  have hx:idx m.aA.Global c=some m.aA.Global[c.toNat]:=BF (by omega) (by omega)
  have h24:=hsG _ (List.getElem_mem hk)
  obtain⟨t,x,e1,e2,ht,hmem,hsub⟩:=aEH (s:=m.aA.Global[c.toNat]) (by omega)
  have hall:=iL m.aA
  refine⟨_,t,x,hx,e1,?_,⟨by simp only;omega,by simp only;omega,by simp only [List.length_set];omega,by simp only;omega,?_⟩,fun h0=>?_,uD.aAU hm (by omega) (by rw [←dN hk];exact hsub)⟩
  · unfold qC lA
    rw [hcp,hlo,fA,decide_eq_true hc]
    simp only [Option.bind_some,Bool.not_true,Bool.false_eq_true,if_false]
    rw [hx,Option.bind_some,e2];rfl
  · have:=Q7 hk ht
    rw [iL];simp only;omega
  · have:=hm.2.1 c.toNat (by omega) x (by rw [←dN hk];exact hmem h0)
    omega
theorem aGC{w h:Int}(hw:0≤w∧w≤2)(hv:tP m h):∃m',AD m w (h % 32)=some m'∧CX m w h=some m'∧lF m'∧tQ m m' (h % 32):=by
  obtain⟨hcnt,h3,h9,h1,h2,hsm,hcp,hlo,hsG,hsO⟩:=uD.facts hm
  have hs:=hm.1.1.1
  have hh:=hv.1
  have hhm:=hh.mod
  have hcl:=FR hv.2.1
  have hgo:=U1 hcl
  have hc2:0≤cG m.aC (h % 32)∧cG m.aC (h % 32)≤2:=by
    obtain⟨_,q,e⟩:=GI hcl
    rw [e];exact pL.1 (by omega)
  have hg6:1≤h / 32∧h / 32≤6:=by unfold oK at hh;omega
  have hbl:m.aC.Bytes.length≤maxLen:=by rw [h1];simp [maxLen]
  have hnot:h % 32∉cR m.aA:=fun q=>by
    have:=hv.2.1;unfold gY at this;rw [if_neg (by omega),if_pos q] at this;omega
  have hcpH:=FW (h:=m.aC) (by omega) (by omega)
  have eo:mN (h % 32) (cG m.aC (h % 32))=(((mN (h % 32) (cG m.aC (h % 32))).toNat:Nat):Int):=by omega
  have ew:a8 (h / 32+1)=h / 32+1:=aR (by omega) (by omega)
  have ed:a8 (Int.tdiv h 32)=h / 32:=by rw [y8 (by unfold oK at hh;omega),aR (by omega) (by omega)]
  have hall:=iL m.aA
  obtain⟨hr1,hr2⟩:=uD.aKU hm hv.2.1 (g:=h / 32+1) (by omega)
  have hu:=pP.1 hv.2.1
  unfold AD CX E4 sC
  rw [hhm.1,qI hs,hcpH.2,zB hbl,decide_eq_true hs,lV hs,ed,ew,hcp]
  simp only [Option.bind_some,Bool.not_true,Bool.false_eq_true,if_false,yY,sM,yX]
  rw [pM hs hcl,hv.2.2,dS,decide_eq_false (show ¬cG m.aC (h % 32) < 0 by omega),decide_eq_true (show 1≤h / 32+1∧h / 32+1≤7 by omega)]
  simp only [Option.bind_some,Bool.not_true,Bool.false_eq_true,if_false,vK,vL,ew]
  generalize hgn:(mN (h % 32) (cG m.aC (h % 32))).toNat=a at eo
  rw [hgn] at hr1 hr2
  rw [eo,D7 (by omega) (by omega) (by omega),HM (by omega)]
  simp only [Option.bind_some]
  rw [FX (by omega) (by omega) (by omega)]
  simp only [Option.bind_some,yQ,A7,ed,ew,hhm.1]
  by_cases q:h / 32+1≤6
  · have hk:(w * 3+cG m.aC (h % 32)).toNat < m.aA.aV.length:=by omega
    have hx:idx m.aA.aV (w * 3+cG m.aC (h % 32))=some m.aA.aV[(w * 3+cG m.aC (h % 32)).toNat]:=BF (by omega) (by omega)
    have hk2:(cG m.aC (h % 32)).toNat < m.aA.Global.length:=by omega
    have hx2:idx m.aA.Global (cG m.aC (h % 32))=some m.aA.Global[(cG m.aC (h % 32)).toNat]:=BF (by omega) (by omega)
    have b1:=hsO _ (List.getElem_mem hk)
    have b2:=hsG _ (List.getElem_mem hk2)
    rw [decide_eq_true q,if_pos rfl,if_pos rfl]
    unfold EU KJ oD
    rw [lV hs,Option.bind_some,hcp,(J0 hw hc2).1,(J0 hw hc2).2,hlo,nM,decide_eq_true (show 0≤h % 32∧h % 32≤23 by omega),FQ (by omega) (by simp only [maxLen];omega) (by simp only [maxLen];omega),decide_eq_false hnot]
    simp only [Option.bind_some,Bool.not_true,Bool.false_eq_true,if_false,hx,hx2]
    have nz:¬w * 3+cG m.aC (h % 32) < 0:=by omega
    simp only [decide_eq_false nz,Bool.false_eq_true,if_false]
    by_cases q2:m.aA.aV[(w * 3+cG m.aC (h % 32)).toNat].aK.length < 2
    · have y1:(m.aA.aV[(w * 3+cG m.aC (h % 32)).toNat].aK.length:Int) < 2:=by omega
      have y2:¬(2:Int)≤m.aA.aV[(w * 3+cG m.aC (h % 32)).toNat].aK.length:=by omega
      simp only [decide_eq_true y1,decide_eq_false y2,Bool.false_eq_true,if_false,if_true]
      rw [bE (by simp;omega),bE (by simp;omega)]
      refine⟨_,rfl,rfl,⟨by simp only [vO];omega,by simp only;omega,by simp only;omega,by simp only [List.length_set];omega,?_⟩,?_⟩
      · rw [iL];simp only [IF hk];simp;omega
      · have hmod:((w * 3+cG m.aC (h % 32)).toNat % 3:Nat)=(cG m.aC (h % 32)).toNat:=by omega
        obtain⟨z1,z2⟩:=uD.aGB hr1.1 (k:=(w * 3+cG m.aC (h % 32)).toNat) (by omega) (xs:=[h % 32]) (by simp only [←dN hk,List.length_cons,List.length_nil];omega) (by simp) (fun x hx=>by
          simp at hx;subst hx
          exact⟨by rw [hmod];show cG m.aC (h % 32)=_;omega,by rw [hr2];omega⟩) (fun x hx=>by simp at hx;subst hx;exact hnot) hk
        refine⟨z1,fun s h1 h2=>?_⟩
        obtain⟨y1,y2,y3⟩:=hr1.2 s h1 h2
        exact⟨z2 s (by simpa using h2) y1,y2,y3⟩
    · have y1:¬(m.aA.aV[(w * 3+cG m.aC (h % 32)).toNat].aK.length:Int) < 2:=by omega
      have y2:(2:Int)≤m.aA.aV[(w * 3+cG m.aC (h % 32)).toNat].aK.length:=by omega
      simp only [decide_eq_true y2,decide_eq_false y1,Bool.false_eq_true,if_false,if_true]
      rw [bE (by simp;omega),bE (by simp;omega)]
      refine⟨_,rfl,rfl,⟨by simp only [vO];omega,by simp only;omega,by simp only [List.length_set];omega,by simp only;omega,?_⟩,?_⟩
      · rw [iL];simp only [IF hk2];simp;omega
      · obtain⟨z1,z2⟩:=uD.Q6 hr1.1 (k:=(cG m.aC (h % 32)).toNat) (by omega) (xs:=[h % 32]) (by simp) (fun x hx=>by
          simp at hx;subst hx
          exact⟨by show cG m.aC (h % 32)=_;omega,by rw [hr2];omega⟩) (fun x hx=>by simp at hx;subst hx;exact hnot) hk2
        refine⟨z1,fun s h1 h2=>?_⟩
        obtain⟨y1,y2,y3⟩:=hr1.2 s h1 h2
        exact⟨z2 s (by simpa using h2) y1,y2,y3⟩
  · rw [decide_eq_false q,if_neg (by simp),if_neg (by simp)]
    refine⟨_,rfl,rfl,⟨by simp only [vO];omega,by simp only;omega,by simp only;omega,by simp only;omega,by rw [iL];simp only;omega⟩,hr1⟩
end
theorem alloc_eq{b:aM}(hm:uD b.Mem){w:Int}(hw:0≤w∧w≤2)(s:Sub) :
    ∃x y,uM b w s=some (x,y)∧lB s b w=some (y,x)∧∃m',x=⟨m',b.aD,b.aL,b.cB⟩∧lF m'∧tQ b.Mem m' (-1):=by
  have hsm:=(uD.facts hm).2.2.2.2.2.1
  have hs:=hm.1.1.1
  obtain⟨c,ec,ei,hcc⟩:=X9 s.A
  unfold uM lB
  rw [ec,ei]
  simp only [Option.bind_some]
  by_cases c0:c < 0
  · simp only [decide_eq_true c0,if_true,bK,aZ];exact⟨_,_,rfl,rfl,_,rfl,hsm,tQ.refl hm _⟩
  have hc:0≤c∧c≤2:=by omega
  simp only [decide_eq_false c0,Bool.false_eq_true,if_false]
  have fin:∀(m':Mem) (x:Int),lF m'→tQ b.Mem m' (-1)→(0≤x→dV m'.aC∧0≤cG m'.aC x) →
      ∃X Y,hJ s x ⟨m',b.aD,b.aL,b.cB⟩=some (X,Y)∧d4 s x ⟨m',b.aD,b.aL,b.cB⟩=some (Y,X)∧∃m',X=⟨m',b.aD,b.aL,b.cB⟩∧lF m'∧tQ b.Mem m' (-1):=by
    intro m' x hs' hst hx
    unfold hJ d4
    simp only [nY,CK,bK,aZ]
    by_cases x0:0≤x
    · obtain⟨h,e1,e2⟩:=aAT (m:=m') (hx x0).1 (hx x0).2
      rw [decide_eq_false (show ¬x < 0 by omega),decide_eq_true x0]
      simp only [Bool.false_eq_true,if_false,if_true,e1,e2,Option.bind_some]
      exact⟨_,_,rfl,rfl,m',rfl,hs',hst⟩
    · rw [decide_eq_true (show x < 0 by omega),decide_eq_false x0]
      by_cases p3:s.Pc=3
      · simp only [p3,beq_self_eq_true,if_true,Bool.false_eq_true,if_false,Option.bind_some];exact⟨_,_,rfl,rfl,m',rfl,hs',hst⟩
      · have p3':(s.Pc == 3)=false:=by simpa using p3
        simp only [p3',if_true,Bool.false_eq_true,if_false,Option.bind_some];exact⟨_,_,rfl,rfl,m',rfl,hs',hst⟩
  by_cases p0:s.Pc=0
  · obtain⟨l,t,x,e1,e2,e3,h1,h2,h3⟩:=YA hm hw hc
    simp only [p0,beq_self_eq_true,if_true,(J0 hw hc).1,Option.bind_some,e1,e2,e3]
    exact fin _ x h1 h3 (fun h=>⟨hs,h2 h⟩)
  · have p0':(s.Pc == 0)=false:=by simpa using p0
    simp only [p0',Bool.false_eq_true,if_false,nZ,iO]
    obtain⟨l,t,x,e1,e2,e3,h1,h2,h3⟩:=SW hm hc
    by_cases p1:s.Pc=1
    · simp only [p1,beq_self_eq_true,if_true,Option.bind_some,e1,e2,e3]
      exact fin _ x h1 h3 (fun h=>⟨hs,h2 h⟩)
    · have p1':(s.Pc == 1)=false:=by simpa using p1
      simp only [p1',Bool.false_eq_true,if_false]
      by_cases p3:s.Pc=3
      · simp only [p3,beq_self_eq_true,if_true,Option.bind_some,e1,e2,e3]
        exact fin _ x h1 h3 (fun h=>⟨hs,h2 h⟩)
      · have p3':(s.Pc == 3)=false:=by simpa using p3
        simp only [p3',Bool.false_eq_true,if_false]
        by_cases p2:s.Pc=2
        · obtain⟨m',x,e1,e2,h1,h2,h3⟩:=aEG hm hc
          simp only [p2,beq_self_eq_true,if_true,Option.bind_some,e1,e2]
          exact fin m' x h1 h3 h2
        · have p2':(s.Pc == 2)=false:=by simpa using p2
          simp only [p2',Bool.false_eq_true,if_false,bK,aZ];exact⟨_,_,rfl,rfl,_,rfl,hsm,tQ.refl hm _⟩
end Go.Gv
end
noncomputable section
set_option linter.unusedVariables false
set_option linter.unusedSimpArgs false
set_option linter.unusedSectionVars false
namespace Go.Gv
theorem ZV(r:bC)(e:Int):∃v,BQ r e=some v∧BW r e=some v:=by
  unfold BQ BW xL xW
  by_cases h:2≤e
  · simp only [decide_eq_true h,if_true];exact⟨_,rfl,rfl⟩
  · simp only [decide_eq_false h,Bool.false_eq_true,if_false];exact⟨_,rfl,rfl⟩
theorem aGD{b:aM}{w:Int}{l:aJ}(hx:idx b.aL w=some l)(hl:l.Rows.length≤1000)(s:Sub) :
    (rT l.Rows s.Row s.E=some (-1)∧jC s b w=(aZ s 0).bind fun x=>some (x,b)) ∨
    ∃k,∃h:k < l.Rows.length,rT l.Rows s.Row s.E=some (k:Int)∧jC s b w=some (⟨s.Kind,s.A,2,s.E,(k:Int),0,l.Rows[k].Handle,s.Out,s.Code,s.cD⟩,b):=by
  have key:∀d k,k+d=l.Rows.length →
      (loop (eF l.Rows s.E) (k:Int)=some (Out.brk ())∧loop (cQ s b w) (k:Int)=some (Out.brk ())) ∨
      ∃j,∃h:j < l.Rows.length,loop (eF l.Rows s.E) (k:Int)=some (Out.ret (j:Int))∧loop (cQ s b w) (k:Int)=some (Out.ret (⟨s.Kind,s.A,2,s.E,(j:Int),0,l.Rows[j].Handle,s.Out,s.Code,s.cD⟩,b)):=by
    intro d
    induction d with
    | zero =>
      intro k hk
      left
      exact⟨bP (by simp only [eF];rw [if_neg (by simp;omega)]),bP (by simp only [cQ,hx,Option.bind_some];rw [if_neg (by simp;omega)])⟩
    | succ d ih =>
      intro k hk
      have hk':k < l.Rows.length:=by omega
      obtain⟨v,e1,e2⟩:=ZV l.Rows[k] s.E
      cases v with
      | true =>
        right
        refine⟨k,hk',bP ?_,bP ?_⟩
        · simp only [eF]
          rw [if_pos (by simp;omega),aQ hk',Option.bind_some,e1];rfl
        · simp only [cQ,hx,Option.bind_some]
          rw [if_pos (by simp;omega),aQ hk',Option.bind_some,e2];rfl
      | false =>
        have n1:eF l.Rows s.E (k:Int)=some (.next ((k+1:Nat):Int)):=by
          simp only [eF]
          rw [if_pos (by simp;omega),aQ hk',Option.bind_some,e1,Option.bind_some,aR (by omega) (by omega)];rfl
        have n2:cQ s b w (k:Int)=some (.next ((k+1:Nat):Int)):=by
          simp only [cQ,hx,Option.bind_some]
          rw [if_pos (by simp;omega),aQ hk',Option.bind_some,e2,Option.bind_some,aR (by omega) (by omega)];rfl
        rw [bW n1,bW n2]
        exact ih (k+1) (by omega)
  unfold rT jC
  have hst:∃i:Nat,(if 0 < s.Row then s.Row else 0)=(i:Int)∧(if s.Row < 0 then 0 else s.Row)=(i:Int):=by
    refine⟨s.Row.toNat,?_,?_⟩ <;> split <;> omega
  obtain⟨i,i1,i2⟩:=hst
  rw [i1,i2]
  by_cases hi:i≤l.Rows.length
  · rcases key (l.Rows.length - i) i (by omega) with ⟨a,c⟩ | ⟨j,hj,a,c⟩
    · left;rw [a,c];exact⟨rfl,rfl⟩
    · right;rw [a,c];exact⟨j,hj,rfl,rfl⟩
  · left
    rw [bP (body:=eF l.Rows s.E) (r:=Out.brk ()) (by simp only [eF];rw [if_neg (by simp;omega)]),
      bP (body:=cQ s b w) (r:=Out.brk ()) (by simp only [cQ,hx,Option.bind_some];rw [if_neg (by simp;omega)])]
    exact⟨rfl,rfl⟩
theorem del_eq{α:Type}{l:List α}{k:Nat}(h:k < l.length):((cK l k (l.drop (k+1))).take (k+(l.length - (k+1)))).drop 0=l.eraseIdx k:=by
  have h1:(l.take k).length=k:=by rw [List.length_take];omega
  have h2:(l.drop (k+1)).length=l.length - (k+1):=by simp
  unfold cK
  rw [List.drop_zero,List.eraseIdx_eq_take_drop_succ,List.take_of_length_le (l:=l.drop (k+1)) (by rw [h2];omega),←List.append_assoc]
  rw [show k+(l.length - (k+1))=(l.take k++l.drop (k+1)).length by rw [List.length_append,h1,h2]]
  exact List.take_left
theorem YB{α:Type}{l:List α}{k:Nat}(h:k < l.length):l.Perm (l[k] :: l.eraseIdx k):=by
  have e:l=l.take k++l[k] :: l.drop (k+1):=by rw [←List.drop_eq_getElem_cons h,List.take_append_drop]
  rw [List.eraseIdx_eq_take_drop_succ]
  refine(List.Perm.of_eq e).trans ?_
  exact List.perm_middle
theorem mM.drop{b:List aJ}(hL:mM b){w:Nat}(hw:w < b.length):∀k (hk:k < b[w].Rows.length),mM (b.set w ⟨b[w].Rows.eraseIdx k⟩)∧∀r∈aX (b.set w ⟨b[w].Rows.eraseIdx k⟩),r∈aX b∧r.Handle % 32≠b[w].Rows[k].Handle % 32:=by
  intro k hk
  have hsub:(aX (b.set w ⟨b[w].Rows.eraseIdx k⟩)).Sublist (aX b):=by
    rw [CB hw,AU hw]
    exact(List.Sublist.refl _).append ((List.eraseIdx_sublist _ _).append (List.Sublist.refl _))
  have hnd:=hL.2.2.2
  refine⟨⟨by simpa using hL.1,Nat.le_trans hsub.length_le hL.2.1,fun r hr=>hL.2.2.1 r (hsub.subset hr),(hsub.map iM).nodup hnd⟩,fun r hr=>⟨hsub.subset hr,?_⟩⟩
  have hp:(aX b).Perm (b[w].Rows[k] :: aX (b.set w ⟨b[w].Rows.eraseIdx k⟩)):=by
    rw [CB hw,AU hw]
    refine List.Perm.trans (List.Perm.append_left _ (List.Perm.append_right _ (YB hk))) ?_
    exact List.perm_middle
  have:=(hp.map iM).nodup_iff.1 hnd
  rw [List.map_cons,List.nodup_cons] at this
  exact fun e=>this.1 (List.mem_map.2 ⟨r,hr,e⟩)
theorem YC{b:aM}(hb:yC b){w:Int}(hw:0≤w∧w≤2)(s:Sub) :
    ∃x y,pX b w s=some (x,y)∧jD s b w=some (y,x)∧∃m' L,x=⟨m',b.aD,L,b.cB⟩∧lF m'∧uD m'∧mM L∧∀r∈aX L,tP m' r.Handle∧r.aG≤b.aD.aG:=by
  have hm:=hb.1.1
  have hL:=hb.1.2.2.1
  have hZ:=hb.1.2.2.2
  have hsm:=(uD.facts hm).2.2.2.2.2.1
  have hlen:w.toNat < b.aL.length:=by have:=hL.1;omega
  have hx:idx b.aL w=some b.aL[w.toNat]:=BF hw.1 (by omega)
  have hrow:=hL.small.2.2.2 _ (List.getElem_mem hlen)
  have hmemL:b.aL[w.toNat]∈b.aL:=List.getElem_mem hlen
  have hset:=mM.drop hL hlen
  generalize b.aL[w.toNat]=l at hx hrow hset hmemL
  have done:∀y:Sub,∃x z,(some (b,y):Option (aM×Sub))=some (x,z)∧(some (y,b):Option (Sub×aM))=some (z,x)∧∃m' L,x=⟨m',b.aD,L,b.cB⟩∧lF m'∧uD m'∧mM L∧∀r∈aX L,tP m' r.Handle∧r.aG≤b.aD.aG:=
    fun y=>⟨_,_,rfl,rfl,b.Mem,b.aL,rfl,hsm,hm,hL,hb.2⟩
  have hw1:a8 ((l.Rows.length:Int) - 1)=(l.Rows.length:Int) - 1:=aR (by omega) (by omega)
  have hhas:wB b.aL w s.Row=some (decide (0≤s.Row∧s.Row≤(l.Rows.length:Int) - 1)):=by
    unfold wB sL
    rw [kN,decide_eq_true hw,Option.bind_some,if_pos rfl,hx,Option.bind_some,dS,hw1];rfl
  unfold pX jD
  rw [hhas,hx]
  simp only [Option.bind_some,bK,cV,hw1]
  have hat:∃a:Bool,(if decide (0≤s.Row∧s.Row≤(l.Rows.length:Int) - 1)=true then (idx l.Rows s.Row).bind fun x15=>dB s b w (x15.Handle == s.H) else dB s b w false)=dB s b w a ∧
      (if (!decide (0≤s.Row∧s.Row≤(l.Rows.length:Int) - 1))=true then cS b s true else (idx l.Rows s.Row).bind fun x11=>cS b s (x11.Handle != s.H))=cS b s (!a) ∧
      (a=true→∃r,r∈l.Rows∧idx l.Rows s.Row=some r∧r.Handle=s.H∧0≤s.Row∧s.Row < l.Rows.length) ∧
      (a=false→∀f:bC→Option (aM×Sub),(if (!decide (0≤s.Row∧s.Row≤(l.Rows.length:Int) - 1))=true then cT b w s l true else (idx l.Rows s.Row).bind fun x=>if (x.Handle != s.H)=true then cT b w s l true else f x)=cT b w s l true):=by
    by_cases q:0≤s.Row∧s.Row≤(l.Rows.length:Int) - 1
    · have hr:idx l.Rows s.Row=some (l.Rows[s.Row.toNat]'(by omega)):=BF q.1 (by omega)
      by_cases q2:(l.Rows[s.Row.toNat]'(by omega)).Handle=s.H
      · refine⟨true,?_,?_,fun _=>⟨_,List.getElem_mem _,hr,q2,q.1,by omega⟩,fun h=>by cases h⟩
        · rw [decide_eq_true q,if_pos rfl,hr,Option.bind_some,q2,beq_self_eq_true]
        · rw [decide_eq_true q,if_neg (by simp),hr,Option.bind_some,q2,bne_self_eq_false];rfl
      · have n1:((l.Rows[s.Row.toNat]'(by omega)).Handle == s.H)=false:=by simpa using q2
        have n2:((l.Rows[s.Row.toNat]'(by omega)).Handle != s.H)=true:=by simpa using q2
        refine⟨false,?_,?_,(fun h=>by cases h),fun _ f=>?_⟩
        · rw [decide_eq_true q,if_pos rfl,hr,Option.bind_some,n1]
        · rw [decide_eq_true q,if_neg (by simp),hr,Option.bind_some,n2];rfl
        · rw [decide_eq_true q,if_neg (by simp),hr,Option.bind_some,n2,if_pos rfl]
    · refine⟨false,?_,?_,(fun h=>by cases h),fun _ f=>?_⟩
      · rw [decide_eq_false q,if_neg (by simp)]
      · rw [decide_eq_false q,if_pos (by simp)];rfl
      · rw [decide_eq_false q,if_pos (by simp)]
  obtain⟨a,ha1,ha2,ha3,ha4⟩:=hat
  rw [ha1,ha2]
  unfold dB
  by_cases p0:s.Pc=0
  · simp only [p0,beq_self_eq_true,if_true];exact done _
  have p0':(s.Pc == 0)=false:=by simpa using p0
  simp only [p0',Bool.false_eq_true,if_false]
  by_cases p1:s.Pc=1
  · simp only [p1,beq_self_eq_true,if_true]
    rcases aGD hx (by omega) s with ⟨e1,e2⟩ | ⟨k,hk,e1,e2⟩
    · rw [e1,e2,Option.bind_some,if_pos (by simp)];simp only [aZ,p1,Option.bind_some];exact done _
    · rw [e1,e2,Option.bind_some,if_neg (by simp),aQ hk];simp only [Option.bind_some];exact done _
  have p1':(s.Pc == 1)=false:=by simpa using p1
  simp only [p1',Bool.false_eq_true,if_false]
  by_cases p2:s.Pc=2
  · simp only [p2,beq_self_eq_true,if_true,kN,Option.bind_some]
    by_cases hB:0≤s.B∧s.B≤2
    · rw [decide_eq_true hB]
      simp only [Bool.not_true,Bool.false_eq_true,if_false,if_true]
      cases a with
      | true =>
        have hz:idx b.cB s.B=some (b.cB[s.B.toNat]'(by have:=hZ.1;omega)):=BF hB.1 (by have:=hZ.1;omega)
        simp only [cS,cN,Bool.not_true,Bool.false_eq_true,if_false,if_true,hz,Option.bind_some,kU]
        by_cases q:(b.cB[s.B.toNat]'(by have:=hZ.1;omega))=s.H
        · simp only [q,beq_self_eq_true,if_true];exact done _
        · have q':((b.cB[s.B.toNat]'(by have:=hZ.1;omega)) == s.H)=false:=by simpa using q
          simp only [q',Bool.false_eq_true,if_false]
          by_cases q3:a8 (s.B+1)=3
          · simp only [q3,beq_self_eq_true,if_true];exact done _
          · have q3':(a8 (s.B+1) == 3)=false:=by simpa using q3
            simp only [q3',Bool.false_eq_true,if_false];exact done _
      | false =>
        simp only [cS,cN,bY,bK,aZ,Bool.not_false,if_true,Bool.false_eq_true,if_false,p2,show((2:Int) == 3)=false from rfl,Option.bind_some]
        exact done _
    · rw [decide_eq_false hB]
      simp only [cS,cN,bY,bK,aZ,Bool.not_false,if_true,Bool.false_eq_true,if_false,p2,show((2:Int) == 3)=false from rfl,Option.bind_some]
      exact done _
  have p2':(s.Pc == 2)=false:=by simpa using p2
  simp only [p2',Bool.false_eq_true,if_false,cN]
  by_cases p3:s.Pc=3
  · simp only [p3,beq_self_eq_true,if_true]
    cases a with
    | false =>
      rw [ha4 rfl]
      simp only [cT,bY,bK,aZ,if_true,Bool.false_eq_true,if_false,Option.bind_some]
      exact done _
    | true =>
      obtain⟨r,hrm,hr,hrH,r0,r1⟩:=ha3 rfl
      obtain⟨v,e1,e2⟩:=ZV r s.E
      rw [decide_eq_true (show 0≤s.Row∧s.Row≤(l.Rows.length:Int) - 1 by omega)]
      simp only [Bool.not_true,Bool.false_eq_true,if_false,if_true,hr,Option.bind_some,hrH,bne_self_eq_false,hx,e1,e2]
      cases v with
      | false =>
        simp only [cT,bY,bK,aZ,Bool.not_false,if_true,Bool.false_eq_true,if_false,Option.bind_some]
        exact done _
      | true =>
        have hlive:tP b.Mem s.H:=by
          have:r∈aX b.aL:=List.mem_flatMap.2 ⟨l,hmemL,hrm⟩
          have:=(hb.2 r this).1
          rwa [hrH] at this
        obtain⟨m',f1,f2,f3,f4⟩:=aGC hm hw hlive
        have ew:a8 (s.Row+1)=s.Row+1:=aR (by omega) (by omega)
        have hdrop:xX b.aL w s.Row=some (b.aL.set w.toNat ⟨((cK l.Rows s.Row.toNat (l.Rows.drop (s.Row+1).toNat)).take (s.Row.toNat+(l.Rows.length - (s.Row+1).toNat))).drop 0⟩,true):=by
          unfold xX qD
          rw [(DD hL.small.2.2.1 (fun s h=>by have:=hL.small.2.2.2 s h;omega)).2,qL hL.small.1,decide_eq_true hL,hhas,decide_eq_true (show 0≤s.Row∧s.Row≤(l.Rows.length:Int) - 1 by omega)]
          simp only [Option.bind_some,Bool.not_true,Bool.false_eq_true,if_false,hx,ew]
          unfold qT
          rw [bE (by omega),if_neg (by simp;omega),bE (by omega),bE (by omega),bE (by omega),bE]
          · rfl
          · rw [dZ (by omega)]
            simp only [List.drop_zero,List.length_take,dZ (show s.Row.toNat≤l.Rows.length by omega)]
            omega
        simp only [cT,bY,qQ,ew,Bool.not_true,Bool.false_eq_true,if_false,if_true]
        rw [bE (by omega),bE (by omega),bE (by omega),fM,if_pos hlive.1,Option.bind_some,f1,f2,hdrop]
        have hk:s.Row.toNat < l.Rows.length:=by omega
        have eL:((cK l.Rows s.Row.toNat (l.Rows.drop (s.Row+1).toNat)).take (s.Row.toNat+(l.Rows.length - (s.Row+1).toNat))).drop 0=l.Rows.eraseIdx s.Row.toNat:=by
          rw [show(s.Row+1).toNat=s.Row.toNat+1 by omega];exact del_eq hk
        have er:l.Rows[s.Row.toNat]=r:=by
          have:=aQ hk
          rw [show((s.Row.toNat:Nat):Int)=s.Row by omega,hr] at this
          exact(Option.some.inj this).symm
        rw [eL] at hdrop ⊢
        obtain⟨g1,g2⟩:=hset s.Row.toNat hk
        refine⟨_,_,rfl,rfl,m',_,rfl,f3,f4.1,g1,fun q hq=>?_⟩
        obtain⟨g3,g4⟩:=g2 q hq
        obtain⟨g5,g6⟩:=hb.2 q g3
        refine⟨f4.live g5 fun e=>?_,g6⟩
        rw [er,hrH] at g4
        exact g4 e
  · have p3':(s.Pc == 3)=false:=by simpa using p3
    simp only [p3',Bool.false_eq_true,if_false,bY,aZ,Option.bind_some]
    exact done _
end Go.Gv
end
noncomputable section
set_option linter.unusedVariables false
set_option linter.unusedSimpArgs false
set_option linter.unusedSectionVars false
namespace Go.Gv
theorem qX.fits{b:aM}(h:qX b):b.Mem.aC.Bytes.length≤maxLen∧(cR b.Mem.aA).length≤1073741824∧b.aD.aP.length≤maxLen∧b.aL.length≤maxLen∧(aX b.aL).length≤1073741824∧b.cB.length≤maxLen:=by
  have hb:(1048576:Nat)≤maxLen:=by simp [maxLen]
  have g1:=h.1.1;have g2:=h.1.2.2.2.2;have g3:=h.2.1;have g4:=h.2.2.1;have g5:=h.2.2.2.1;have g6:=h.2.2.2.2
  exact⟨by omega,by omega,by omega,by omega,by omega,by omega⟩
theorem step_eq{b:aM}(hb:yC b)(hs:qX b){w:Int}(hw:0≤w∧w≤2)(s:Sub) :
    ∃x y,CM b w s=some (x,y)∧l5 s b w=some (y,x)∧yC x:=by
  have hz:=hb.1.2.2.2.1
  have hl:=hb.1.2.2.1
  unfold CM l5
  cases hd:s.cD with
  | true=>exact⟨_,_,rfl,rfl,hb⟩
  | false =>
    simp only [Bool.false_eq_true,if_false]
    by_cases k1:s.Kind=1
    · obtain⟨x,y,e1,e2,m,rfl,h1,h2⟩:=alloc_eq hb.1.1 hw s
      simp only [k1,beq_self_eq_true,if_true,e1,e2,Option.bind_some]
      exact⟨_,_,rfl,rfl,⟨h2.1,hb.1.2⟩,fun r hr=>⟨h2.live (hb.2 r hr).1 (by have:=(hb.2 r hr).1.1;unfold oK at this;omega),(hb.2 r hr).2⟩⟩
    have k1':(s.Kind == 1)=false:=by simpa using k1
    simp only [k1',Bool.false_eq_true,if_false]
    by_cases k2:s.Kind=2
    · obtain⟨x,y,e1,e2,L,rfl,h1,h2⟩:=aAS hb hs hw s
      simp only [k2,beq_self_eq_true,if_true,e1,e2,Option.bind_some]
      exact⟨_,_,rfl,rfl,⟨hb.1.1,hb.1.2.1,h1,hb.1.2.2.2⟩,h2⟩
    have k2':(s.Kind == 2)=false:=by simpa using k2
    simp only [k2',Bool.false_eq_true,if_false]
    by_cases k3:s.Kind=3
    · obtain⟨x,y,e1,e2,c,rfl,h1,h2⟩:=X4 hb.1.2.1 s
      simp only [k3,beq_self_eq_true,if_true,e1,e2,Option.bind_some]
      exact⟨_,_,rfl,rfl,⟨hb.1.1,h1,hb.1.2.2⟩,fun r hr=>⟨(hb.2 r hr).1,Int.le_trans (hb.2 r hr).2 h2⟩⟩
    have k3':(s.Kind == 3)=false:=by simpa using k3
    simp only [k3',Bool.false_eq_true,if_false]
    by_cases k4:s.Kind=4
    · obtain⟨x,y,e1,e2,m,L,rfl,h1,h2,h3,h4⟩:=YC hb hw s
      simp only [k4,beq_self_eq_true,if_true,e1,e2,Option.bind_some]
      exact⟨_,_,rfl,rfl,⟨h2,hb.1.2.1,h3,hb.1.2.2.2⟩,h4⟩
    have k4':(s.Kind == 4)=false:=by simpa using k4
    simp only [k4',Bool.false_eq_true,if_false]
    by_cases k5:s.Kind=5
    · obtain⟨x,y,e1,e2,c,rfl,h1,h2⟩:=aIB hb.1.2.1 hw s
      simp only [k5,beq_self_eq_true,if_true,e1,e2,Option.bind_some]
      exact⟨_,_,rfl,rfl,⟨hb.1.1,h1,hb.1.2.2⟩,fun r hr=>⟨(hb.2 r hr).1,Int.le_trans (hb.2 r hr).2 h2⟩⟩
    have k5':(s.Kind == 5)=false:=by simpa using k5
    simp only [k5',Bool.false_eq_true,if_false,bK,aZ,Option.bind_some]
    exact⟨_,_,rfl,rfl,hb⟩
theorem yC.small{b:aM}(hb:yC b):qX b:=by
  have h1:=hb.1.2.1.2.1;have h2:=hb.1.2.2.1.1;have h3:=hb.1.2.2.1.2.1;have h4:=hb.1.2.2.2.1
  exact⟨(uD.facts hb.1.1).2.2.2.2.2.1,by omega,by omega,by omega,by omega⟩
theorem YD(s:Sub):t7 s s=some true:=by
  unfold t7
  simp only [bne_self_eq_false,Bool.false_eq_true,if_false,beq_self_eq_true,Bool.not_true]
end Go.Gv
end
noncomputable section
set_option linter.unusedVariables false
set_option linter.unusedSimpArgs false
set_option linter.unusedSectionVars false
namespace Go.Gv
theorem aAV{b:aM}{w:Int}{s:Sub}(h:s.cD=true):l5 s b w=some (s,b):=by
  unfold l5;rw [if_pos h]
theorem WU{w:Int}{s:Sub}(h:s.cD=true):∀d k:Nat,k+d=200→∀b,loop (iG w) ((k:Int),s,b)=some (s,b)
  | 0,k,hk,b=>bP (by simp only [iG];rw [if_neg (by simp;omega)])
  | d + 1, k, hk, b => by
    rw [bW (s':=(((k+1:Nat):Int),s,b)) (by
      simp only [iG]
      rw [if_pos (by simp;omega),aAV h,aR (by omega) (by omega)];rfl)]
    exact WU h d (k+1) (by omega) b
theorem run_eq{w:Int}(hw:0≤w∧w≤2):∀d k:Nat,k+d=200→∀(s:Sub) (b:aM),yC b→∃s' b',loop (m0 w) ((k:Int),s,b)=some (s',b')∧loop (iG w) ((k:Int),s,b)=some (s',b')∧yC b'
  | 0,k,hk,s,b,hb=>⟨s,b,bP (by simp only [m0,j3];rw [if_neg (by simp;omega)];rfl),bP (by simp only [iG];rw [if_neg (by simp;omega)]),hb⟩
  | d + 1, k, hk, s, b, hb => by
    cases hd:s.cD with
    | true=>exact⟨s,b,bP (by simp only [m0,j3,hd];rw [if_pos (by simp;omega)];rfl),WU hd (d+1) k hk b,hb⟩
    | false =>
      obtain⟨x,y,e1,e2,hx⟩:=step_eq hb hb.small hw s
      obtain⟨s',b',e3,e4,h⟩:=run_eq hw d (k+1) (by omega) y x hx
      refine⟨s',b',?_,?_,h⟩
      · rw [bW (s':=(((k+1:Nat):Int),y,x)) (by
          simp only [m0,j3,hd]
          rw [if_pos (by simp;omega),Bool.not_false,if_pos rfl,e1,aR (by omega) (by omega)];rfl)]
        exact e3
      · rw [bW (s':=(((k+1:Nat):Int),y,x)) (by
          simp only [iG]
          rw [if_pos (by simp;omega),e2,aR (by omega) (by omega)];rfl)]
        exact e4
theorem aAW{b:aM}(hs:qX b)(w:Int)(s:Sub):∃x y,AF b w s=some (x,y)∧wD b w s=some (x,y)∧qX x:=by
  unfold AF wD
  rw [(LK hs).1,(LK hs).2,QY hs.fits,QZ hs.fits,cV,kN]
  simp only [Option.bind_some,rU,sN]
  by_cases hb:yC b
  · simp only [decide_eq_true hb,Bool.not_true,Bool.false_eq_true,if_false]
    by_cases hw:0≤w∧w≤2
    · simp only [decide_eq_true hw,Bool.not_true,Bool.false_eq_true,if_false]
      obtain⟨s',b',e1,e2,h⟩:=run_eq hw 200 0 rfl s b hb
      rw [show((0:Nat):Int)=0 from rfl] at e1 e2
      rw [e1,e2];exact⟨_,_,rfl,rfl,h.small⟩
    · simp only [decide_eq_false hw,Bool.not_false,if_true];exact⟨_,_,rfl,rfl,hs⟩
  · simp only [decide_eq_false hb,Bool.not_false,if_true];exact⟨_,_,rfl,rfl,hs⟩
theorem J1{aB:aM}(hf:fit aB){aW:Int}(_:fit aW){aS:Sub}(_:fit aS):qW aB aW aS=some true:=by
  obtain⟨x,h1,h2⟩:=aAK hf
  unfold qW
  rw [h1]
  simp only [Option.bind_some]
  by_cases h3:x < 0
  · simp [h3]
  · have hs:qX aB:=h2 h3
    obtain⟨b,s,e1,e2,hr⟩:=aAW hs aW aS
    obtain⟨u,e3,e4,e5⟩:=Q0 hs
    obtain⟨v,f3,f4,f5⟩:=Q0 hr
    have n1:¬u.1 < 0:=by omega
    have n2:¬v.1 < 0:=by omega
    simp only [decide_eq_false h3,Bool.false_eq_true,if_false,aAL hs,yT,Option.bind_some,e1,e2,mD,mC,iQ,fJ,mB,iP,
      LJ hr,LJ hs,YD,Bool.not_true,e3,f3,decide_eq_false n1,f4,decide_eq_false n2,bne_self_eq_false]
end Go.Gv
end
