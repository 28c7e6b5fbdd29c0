import Derived.Test.YtgjpcfdgefopgabGreatXLF
set_option linter.unusedVariables false
set_option linter.unusedSimpArgs false
set_option linter.unusedSectionVars false
set_option linter.constructorNameAsVariable false
set_option linter.unnecessarySimpa false
noncomputable section
set_option linter.unusedVariables false
set_option linter.unusedSimpArgs false
namespace Go.Gv
theorem WD{α:Type}{f:α→Nat}:∀{l:List α} {x:α},x∈l→f x≤(l.map f).sum
  | y :: r, x, h => by
    rcases List.mem_cons.1 h with rfl | h
    · simp
    · have:=WD (f:=f) h;simp;omega
theorem aPV{α:Type}{sz:α→Nat}{f:Int×Int→Option (Step (Int×Int) (Out Int Int))}(l:List α)(hl:l.length≤maxLen)
    (hf:∀(k:Nat) (hk:k < l.length) (n:Int),0≤n→n≤1048576→f (n,(k:Int))=if (sz l[k]:Int)≤n then some (.next (n - sz l[k],((k+1:Nat):Int))) else some (.stop (.ret (-1)))) (he:∀n:Int,f (n,(l.length:Int))=some (.stop (.brk n)))
    {n:Int} (h0:0≤n) (h1:n≤1048576):loop f (n,0)=some (if ((l.map sz).sum:Int)≤n then .brk (n - (l.map sz).sum) else .ret (-1)):=by
  have key:∀(d k:Nat) (n:Int),k+d=l.length→0≤n→n≤1048576→loop f (n,(k:Int))=some (if (((l.drop k).map sz).sum:Int)≤n then .brk (n - ((l.drop k).map sz).sum) else .ret (-1)):=by
    intro d
    induction d with
    | zero =>
      intro k n hk h0 h1
      obtain rfl:k=l.length:=by omega
      rw [bX (he n),List.drop_length,if_pos (by simpa using h0)];simp
    | succ d ih =>
      intro k n hk h0 h1
      have hk':k < l.length:=by omega
      have hd:l.drop k=l[k] :: l.drop (k+1):=List.drop_eq_getElem_cons hk'
      have e:((l.drop k).map sz).sum=sz l[k]+((l.drop (k+1)).map sz).sum:=by rw [hd,List.map_cons,List.sum_cons]
      rw [e]
      by_cases q:(sz l[k]:Int)≤n
      · rw [bS (by rw [hf k hk' n h0 h1,if_pos q]),ih (k+1) _ (by omega) (by omega) (by omega)]
        by_cases q2:(((l.drop (k+1)).map sz).sum:Int)≤n - sz l[k]
        · rw [if_pos q2,if_pos (by omega)];congr 2;omega
        · rw [if_neg q2,if_neg (by omega)]
      · rw [bX (by rw [hf k hk' n h0 h1,if_neg q]),if_neg (by omega)]
  have:=key l.length 0 n (by omega) h0 h1
  simpa using this
def dC(l:List Int):Nat:=l.length
theorem O6(l:List Int):l.length≤dC l:=by unfold dC;omega
theorem aPW{l:List Int}(hf:fit l){n:Int}(h0:0≤n)(h1:n≤1048576):FJ l n=some (if (dC l:Int)≤n then n - dC l else -1):=by
  have hm:l.length≤9223372036854775807:=hf.1
  unfold FJ dC
  rw [aV (by omega) (by omega)]
  by_cases h:(l.length:Int)≤n
  · rw [if_pos h,if_neg (by simp;omega)]
  · rw [if_neg h,if_pos (by simp;omega)]
theorem aPX{l:List Int}(h:dC l≤4194304):FZ l=some l:=by
  have hl:=O6 l
  unfold FZ
  rw [aR (by omega),Int.toNat_natCast,RU l id]
  · simp [MF,ME]
  · intro acc k hk he
    simp only [ED]
    rw [if_pos (by simp;omega),aS hk]
    simp only [Option.bind_some]
    rw [aS (by omega)]
    simp only [Option.bind_some]
    rw [aV (by omega) (by omega)]
    simp
  · intro acc
    simp [ED]
theorem N6{l:List Int}(h:dC l≤4194304):lR l l=some true:=by
  have hl:=O6 l
  unfold lR
  have key:loop (qX l l) 0=some (Out.brk ()):=by
    refine fT (f:=qX l l) l.length (fun k=>(k:Int)) _ (fun k hk=>?_) ?_
    · simp only [qX]
      rw [if_pos (by simp;omega),aS hk,aV (by omega) (by omega)]
      simp
    · simp [qX]
  simp [key,MS,MR]
def oO(v:aG):Nat:=dC v.aO
theorem aNI{v:aG}(h:oO v≤4194304):C6 v v=some true:=by
  have h0:dC v.aO≤4194304:=by unfold oO at h;omega
  unfold C6
  simp [N6 h0]
def jS(l:List aG):Nat:=l.length+(l.map oO).sum
theorem VN{l:List aG}{x:aG}(h:x∈l):oO x≤jS l:=by have:=WD (f:=oO) h;unfold jS;omega
theorem VO(l:List aG):l.length≤jS l:=by unfold jS;omega
theorem aCA{l:List aG}(h:jS l≤4194304):tX l l=some true:=by
  have hl:=VO l
  unfold tX
  have key:loop (m4 l l) 0=some (Out.brk ()):=by
    refine fT (f:=m4 l l) l.length (fun k=>(k:Int)) _ (fun k hk=>?_) ?_
    · simp only [m4]
      rw [if_pos (by simp;omega),aS hk,aV (by omega) (by omega)]
      simp [aNI (Nat.le_trans (VN (List.getElem_mem hk)) h)]
    · simp [m4]
  simp [key,IL,IK]
def zI(v:aA):Nat:=jS v.Global+jS v.aU
theorem aNJ{v:aA}(h:zI v≤4194304):C7 v v=some true:=by
  have h0:jS v.Global≤4194304:=by unfold zI at h;omega
  have h1:jS v.aU≤4194304:=by unfold zI at h;omega
  unfold C7
  simp [aCA h0,aCA h1]
def DT(v:aC):Nat:=dC v.Bytes+dC v.Class
theorem aPY{v:aC}(h:DT v≤4194304):GB v v=some true:=by
  have h0:dC v.Bytes≤4194304:=by unfold DT at h;omega
  have h1:dC v.Class≤4194304:=by unfold DT at h;omega
  unfold GB
  simp [N6 h0,N6 h1]
theorem aSD(a:dK):J7 a a=some true:=by simp [J7]
def DU(l:List dK):Nat:=l.length
theorem aBF(l:List dK):l.length≤DU l:=by unfold DU;omega
theorem aPZ{l:List dK}(h:DU l≤4194304):GC l l=some true:=by
  have hl:=aBF l
  unfold GC
  have key:loop (qY l l) 0=some (Out.brk ()):=by
    refine fT (f:=qY l l) l.length (fun k=>(k:Int)) _ (fun k hk=>?_) ?_
    · simp only [qY]
      rw [if_pos (by simp;omega),aS hk,aV (by omega) (by omega)]
      simp [aSD]
    · simp [qY]
  simp [key,MU,MT]
theorem aTY(a:cX):R5 a=some a:=rfl
theorem aQU(a:cX):IP a a=some true:=by simp [IP]
def lV(l:List cX):Nat:=l.length
theorem RP(l:List cX):l.length≤lV l:=by unfold lV;omega
theorem aSE{l:List cX}(hf:fit l){n:Int}(h0:0≤n)(h1:n≤1048576):JS l n=some (if (lV l:Int)≤n then n - lV l else -1):=by
  have hm:l.length≤9223372036854775807:=hf.1
  unfold JS lV
  rw [aV (by omega) (by omega)]
  by_cases h:(l.length:Int)≤n
  · rw [if_pos h,if_neg (by simp;omega)]
  · rw [if_neg h,if_pos (by simp;omega)]
theorem aSF{l:List cX}(h:lV l≤4194304):JY l=some l:=by
  have hl:=RP l
  unfold JY
  rw [aR (by omega),Int.toNat_natCast,RU l id]
  · simp [OJ,OI]
  · intro acc k hk he
    simp only [G4]
    rw [if_pos (by simp;omega),aS hk]
    simp only [Option.bind_some,aTY]
    rw [aS (by omega)]
    simp only [Option.bind_some]
    rw [aV (by omega) (by omega)]
    simp
  · intro acc
    simp [G4]
theorem aSG{l:List cX}(h:lV l≤4194304):KA l l=some true:=by
  have hl:=RP l
  unfold KA
  have key:loop (tY l l) 0=some (Out.brk ()):=by
    refine fT (f:=tY l l) l.length (fun k=>(k:Int)) _ (fun k hk=>?_) ?_
    · simp only [tY]
      rw [if_pos (by simp;omega),aS hk,aV (by omega) (by omega)]
      simp [aQU]
    · simp [tY]
  simp [key,ON,OM]
def eZ(v:Queue):Nat:=lV v.fK
theorem aNK{v:Queue}(hf:fit v){n:Int}(h0:0≤n)(h1:n≤1048576):B3 v n=some (if (eZ v:Int)≤n then n - eZ v else -1):=by
  unfold B3 eZ
  rw [aSE (hf) (by omega) (by omega)]
  by_cases q0:(lV v.fK:Int)≤n
  · rw [if_pos q0];simp only [Option.bind_some];rw [if_neg (by simp only [decide_eq_true_eq];omega)]
  · rw [if_neg q0];rfl
theorem aNL{v:Queue}(h:eZ v≤4194304):CL v=some v:=by
  have h0:lV v.fK≤4194304:=by unfold eZ at h;omega
  unfold CL
  simp only [aSF h0,Option.bind_some]
theorem aNM{v:Queue}(h:eZ v≤4194304):DB v v=some true:=by
  have h0:lV v.fK≤4194304:=by unfold eZ at h;omega
  unfold DB
  simp [aSG h0]
def dM(l:List Queue):Nat:=l.length+(l.map eZ).sum
theorem vM{l:List Queue}{x:Queue}(h:x∈l):eZ x≤dM l:=by have:=WD (f:=eZ) h;unfold dM;omega
theorem vN(l:List Queue):l.length≤dM l:=by unfold dM;omega
theorem aJQ{l:List Queue}(hf:fit l){n:Int}(h0:0≤n)(h1:n≤1048576):zN l n=some (if (dM l:Int)≤n then n - dM l else -1):=by
  have hm:l.length≤9223372036854775807:=hf.1
  unfold zN dM
  rw [aV (by omega) (by omega)]
  by_cases h:(l.length:Int)≤n
  · rw [if_neg (by simp;omega),aPV (sz:=eZ) (f:=rL l) l hf.1 (fun k hk q q0 q1=>?_) (fun q=>by simp [rL]) (by omega) (by omega)]
    · by_cases h2:((l.map eZ).sum:Int)≤n - l.length
      · rw [if_pos h2,if_pos (by omega)];simp only [Option.bind_some,H9,H8];congr 1;omega
      · rw [if_neg h2,if_neg (by omega)];rfl
    · simp only [rL]
      rw [if_pos (by simp;omega),aS hk]
      simp only [Option.bind_some]
      rw [aNK (hf.2 _ (List.getElem_mem hk)) q0 q1]
      simp only [Option.bind_some]
      by_cases h2:(eZ l[k]:Int)≤q
      · rw [if_pos h2,if_pos h2,if_neg (by simp only [decide_eq_true_eq];omega),cY (eE hk hf.1)]
      · rw [if_neg h2,if_neg h2];rfl
  · rw [if_pos (by simp;omega),if_neg (by omega)]
theorem aJR{l:List Queue}(h:dM l≤4194304):zZ l=some l:=by
  have hl:=vN l
  unfold zZ
  rw [aR (by omega),Int.toNat_natCast,RU l id]
  · simp [IE,ID]
  · intro acc k hk he
    simp only [zE]
    rw [if_pos (by simp;omega),aS hk]
    simp only [Option.bind_some,aNL (Nat.le_trans (vM (List.getElem_mem hk)) h)]
    rw [aS (by omega)]
    simp only [Option.bind_some]
    rw [aV (by omega) (by omega)]
    simp
  · intro acc
    simp [zE]
theorem aCB{l:List Queue}(h:dM l≤4194304):tZ l l=some true:=by
  have hl:=vN l
  unfold tZ
  have key:loop (m6 l l) 0=some (Out.brk ()):=by
    refine fT (f:=m6 l l) l.length (fun k=>(k:Int)) _ (fun k hk=>?_) ?_
    · simp only [m6]
      rw [if_pos (by simp;omega),aS hk,aV (by omega) (by omega)]
      simp [aNM (Nat.le_trans (vM (List.getElem_mem hk)) h)]
    · simp [m6]
  simp [key,IS,IQ]
def E5(v:aD):Nat:=DU v.aP
theorem aNN{v:aD}(h:E5 v≤4194304):C8 v v=some true:=by
  have h0:DU v.aP≤4194304:=by unfold E5 at h;omega
  unfold C8
  simp [aPZ h0]
theorem aTZ(a:Ev):N2 a a=some true:=by simp [N2]
def JE(l:List Ev):Nat:=l.length
theorem aD1(l:List Ev):l.length≤JE l:=by unfold JE;omega
theorem aSH{l:List Ev}(h:JE l≤4194304):KB l l=some true:=by
  have hl:=aD1 l
  unfold KB
  have key:loop (t7 l l) 0=some (Out.brk ()):=by
    refine fT (f:=t7 l l) l.length (fun k=>(k:Int)) _ (fun k hk=>?_) ?_
    · simp only [t7]
      rw [if_pos (by simp;omega),aS hk,aV (by omega) (by omega)]
      simp [aTZ]
    · simp [t7]
  simp [key,OQ,OO]
theorem aSI(a:Sub):J8 a a=some true:=by simp [J8]
theorem aSJ(a:bJ):J9 a a=some true:=by simp [J9,aQU,aSI]
def DV(l:List bJ):Nat:=l.length
theorem aBG(l:List bJ):l.length≤DV l:=by unfold DV;omega
theorem aP0{l:List bJ}(h:DV l≤4194304):GG l l=some true:=by
  have hl:=aBG l
  unfold GG
  have key:loop (qZ l l) 0=some (Out.brk ()):=by
    refine fT (f:=qZ l l) l.length (fun k=>(k:Int)) _ (fun k hk=>?_) ?_
    · simp only [qZ]
      rw [if_pos (by simp;omega),aS hk,aV (by omega) (by omega)]
      simp [aSJ]
    · simp [qZ]
  simp [key,MW,MV]
def JF(v:Mem):Nat:=DT v.aC+zI v.aA
theorem aSK{v:Mem}(h:JF v≤4194304):J6 v v=some true:=by
  have h0:DT v.aC≤4194304:=by unfold JF at h;omega
  have h1:zI v.aA≤4194304:=by unfold JF at h;omega
  unfold J6
  simp [aPY h0,aNJ h1]
theorem aP1(a:bY):GD a a=some true:=by simp [GD]
def zJ(l:List bY):Nat:=l.length
theorem ZO(l:List bY):l.length≤zJ l:=by unfold zJ;omega
theorem aNO{l:List bY}(h:zJ l≤4194304):C9 l l=some true:=by
  have hl:=ZO l
  unfold C9
  have key:loop (o8 l l) 0=some (Out.brk ()):=by
    refine fT (f:=o8 l l) l.length (fun k=>(k:Int)) _ (fun k hk=>?_) ?_
    · simp only [o8]
      rw [if_pos (by simp;omega),aS hk,aV (by omega) (by omega)]
      simp [aP1]
    · simp [o8]
  simp [key,K2,K1]
def v8(v:aN):Nat:=zJ v.Rows
theorem aNP{v:aN}(h:v8 v≤4194304):DA v v=some true:=by
  have h0:zJ v.Rows≤4194304:=by unfold v8 at h;omega
  unfold DA
  simp [aNO h0]
def nK(l:List aN):Nat:=l.length+(l.map v8).sum
theorem VP{l:List aN}{x:aN}(h:x∈l):v8 x≤nK l:=by have:=WD (f:=v8) h;unfold nK;omega
theorem VQ(l:List aN):l.length≤nK l:=by unfold nK;omega
theorem aJS{l:List aN}(h:nK l≤4194304):AI l l=some true:=by
  have hl:=VQ l
  unfold AI
  have key:loop (m5 l l) 0=some (Out.brk ()):=by
    refine fT (f:=m5 l l) l.length (fun k=>(k:Int)) _ (fun k hk=>?_) ?_
    · simp only [m5]
      rw [if_pos (by simp;omega),aS hk,aV (by omega) (by omega)]
      simp [aNP (Nat.le_trans (VP (List.getElem_mem hk)) h)]
    · simp [m5]
  simp [key,IN,IM]
def sO(v:aB):Nat:=JF v.Mem+E5 v.aD+nK v.aK+dC v.b9
theorem aP2{v:aB}(h:sO v≤4194304):GF v v=some true:=by
  have h0:JF v.Mem≤4194304:=by unfold sO at h;omega
  have h1:E5 v.aD≤4194304:=by unfold sO at h;omega
  have h2:nK v.aK≤4194304:=by unfold sO at h;omega
  have h3:dC v.b9≤4194304:=by unfold sO at h;omega
  unfold GF
  simp [aSK h0,aNN h1,aJS h2,N6 h3]
def dU(v:fD):Nat:=dM v.aY+dC v.cT
theorem aJT{v:fD}(hf:fit v){n:Int}(h0:0≤n)(h1:n≤1048576):zO v n=some (if (dU v:Int)≤n then n - dU v else -1):=by
  unfold zO dU
  rw [aJQ (hf.1) (by omega) (by omega)]
  by_cases q0:(dM v.aY:Int)≤n
  · rw [if_pos q0];simp only [Option.bind_some];rw [if_neg (by simp only [decide_eq_true_eq];omega)]
    rw [aPW (hf.2) (by omega) (by omega)]
    by_cases q1:(dC v.cT:Int)≤n - (dM v.aY:Nat)
    · rw [if_pos q1];simp only [Option.bind_some];rw [if_neg (by simp only [decide_eq_true_eq];omega),if_pos (by omega)];congr 1;omega
    · rw [if_neg q1,if_neg (by omega)];rfl
  · rw [if_neg q0,if_neg (by omega)];rfl
theorem aJU{v:fD}(h:dU v≤4194304):lX v=some v:=by
  have h0:dM v.aY≤4194304:=by unfold dU at h;omega
  have h1:dC v.cT≤4194304:=by unfold dU at h;omega
  unfold lX
  simp only [aJR h0,aPX h1,Option.bind_some]
theorem aJV{v:fD}(h:dU v≤4194304):AJ v v=some true:=by
  have h0:dM v.aY≤4194304:=by unfold dU at h;omega
  have h1:dC v.cT≤4194304:=by unfold dU at h;omega
  unfold AJ
  simp [aCB h0,N6 h1]
def l4(v:aI):Nat:=sO v.aB+dC v.Cells+DV v.aQ+dM v.aY+JE v.Log
theorem aNQ{v:aI}(h:l4 v≤4194304):oE v v=some true:=by
  have h0:sO v.aB≤4194304:=by unfold l4 at h;omega
  have h1:dC v.Cells≤4194304:=by unfold l4 at h;omega
  have h2:DV v.aQ≤4194304:=by unfold l4 at h;omega
  have h3:dM v.aY≤4194304:=by unfold l4 at h;omega
  have h4:JE v.Log≤4194304:=by unfold l4 at h;omega
  unfold oE
  simp [aP2 h0,N6 h1,aP0 h2,aCB h3,aSH h4]
theorem nx3{α ρ:Type}{x:α}{k k' i i':Int}(h1:k=k')(h2:i=i'):(some (Step.next (x,k,i)):Option (Step (α×Int×Int) ρ))=some (.next (x,k',i')):=by rw [h1,h2]
theorem nx2{ρ:Type}{k k' i i':Int}(h1:k=k')(h2:i=i'):(some (Step.next (k,i)):Option (Step (Int×Int) ρ))=some (.next (k',i')):=by rw [h1,h2]
theorem vO(x y:Int):aH (aH x+y)=aH (x+y):=by
  simp [aH,IntKind.wrap,IntKind.bits,IntKind.signed];split <;> split <;> omega
theorem yY{α:Type}(l:List α)(wt:α→Nat)(P:α→α→Int→Prop){f:(List α×Int×Int)→Option (Step (List α×Int×Int) (List α×Int))}{k0:Int}(h0:0≤k0)(hB:k0+(l.map wt).sum≤4611686018427387904)
    (hf:∀(m:List α) (k:Int) (i:Nat) (hi:i < l.length) (hm:m.length=l.length),m[i]'(by omega)=l[i]→0≤k→k+wt l[i]≤4611686018427387904→∃a,f (m,k,(i:Int))=some (.next (m.set i a,k+wt l[i],((i+1:Nat):Int)))∧P l[i] a k)
    (he:∀(m:List α) (k:Int),m.length=l.length→f (m,k,(l.length:Int))=some (.stop (m,k))) :
    ∃m,loop f (l,k0,0)=some (m,k0+(l.map wt).sum)∧m.length=l.length∧∀j (hj:j < l.length) (hj':j < m.length),P l[j] m[j] (k0+((l.take j).map wt).sum):=by
  have key:∀(d i:Nat) (m:List α),i+d=l.length→m.length=l.length→(∀j (hj:j < l.length) (hj':j < m.length),i≤j→m[j]=l[j])→(∀j (hj:j < l.length) (hj':j < m.length),j < i→P l[j] m[j] (k0+((l.take j).map wt).sum)) →
      ∃m',loop f (m,k0+((l.take i).map wt).sum,(i:Int))=some (m',k0+(l.map wt).sum)∧m'.length=l.length∧∀j (hj:j < l.length) (hj':j < m'.length),P l[j] m'[j] (k0+((l.take j).map wt).sum):=by
    intro d
    induction d with
    | zero =>
      intro i m hi hm _ h
      obtain rfl:i=l.length:=by omega
      rw [List.take_length]
      exact⟨m,bX (he m _ hm),hm,fun j hj hj'=>h j hj hj' hj⟩
    | succ d ih =>
      intro i m hi hm hs h
      have hil:i < l.length:=by omega
      have hle:((l.take i).map wt).sum+wt l[i]≤(l.map wt).sum:=by
        have e:l.map wt=(l.take i).map wt++(wt l[i] :: (l.drop (i+1)).map wt):=by
          rw [←List.map_cons,←List.drop_eq_getElem_cons hil,←List.map_append,List.take_append_drop]
        rw [e,List.sum_append,List.sum_cons];omega
      obtain⟨a,e1,e2⟩:=hf m (k0+((l.take i).map wt).sum) i hil hm (hs i hil (by omega) (Nat.le_refl _)) (by omega) (by omega)
      have et:((l.take (i+1)).map wt).sum=((l.take i).map wt).sum+wt l[i]:=by
        rw [List.take_succ_eq_append_getElem hil,List.map_append,List.sum_append];simp
      rw [bS e1,show k0+((((l.take i).map wt).sum:Nat):Int)+(wt l[i]:Int)=k0+((((l.take (i+1)).map wt).sum:Nat):Int) by rw [et];omega]
      refine ih (i+1) (m.set i a) (by omega) (by simpa using hm) (fun j hj hj' hij=>?_) (fun j hj hj' hij=>?_)
      · rw [List.getElem_set_ne (by omega)];exact hs j hj _ (by omega)
      · by_cases e:j=i
        · subst e;rw [List.getElem_set_self];exact e2
        · rw [List.getElem_set_ne (by omega)];exact h j hj (by simpa using hj') (by omega)
  have:=key l.length 0 l (by omega) rfl (fun _ _ _ _=>rfl) (fun _ _ _ h=>absurd h (by omega))
  simpa using this
theorem yZ{α:Type}(l m:List α)(hml:m.length=l.length)(wt:α→Nat)(P:α→α→Int→Prop){g:(Int×Int)→Option (Step (Int×Int) (Out Int Int))}{k0:Int}
    (hP:∀j (hj:j < l.length) (hj':j < m.length),P l[j] m[j] (k0+((l.take j).map wt).sum))
    (hg:∀(i:Nat) (hi:i < l.length) (hi':i < m.length) (k:Int),P l[i] m[i] k→0≤k→k+wt l[i]≤4611686018427387904→g (k,(i:Int))=some (.next (k+wt l[i],((i+1:Nat):Int))))
    (he:∀k:Int,g (k,(m.length:Int))=some (.stop (.brk k))) (h0:0≤k0) (hB:k0+(l.map wt).sum≤4611686018427387904):loop g (k0,0)=some (.brk (k0+(l.map wt).sum)):=by
  have:=fT (f:=g) l.length (fun i=>(k0+((l.take i).map wt).sum,(i:Int))) (.brk (k0+(l.map wt).sum)) (fun i hi=>?_) (by
    rw [List.take_length,←hml];exact he _)
  · simpa using this
  · have hle:((l.take i).map wt).sum+wt l[i]≤(l.map wt).sum:=by
      have e:l.map wt=(l.take i).map wt++(wt l[i] :: (l.drop (i+1)).map wt):=by
        rw [←List.map_cons,←List.drop_eq_getElem_cons hi,←List.map_append,List.take_append_drop]
      rw [e,List.sum_append,List.sum_cons];omega
    have et:((l.take (i+1)).map wt).sum=((l.take i).map wt).sum+wt l[i]:=by
      rw [List.take_succ_eq_append_getElem hi,List.map_append,List.sum_append];simp
    rw [hg i hi (by omega) _ (hP i hi (by omega)) (by omega) (by omega),et]
    congr 3;omega
def cO(l:List Int):Nat:=(l.map fun _=>1).sum
theorem rH(l:List Int):cO l=1 * l.length:=by unfold cO;induction l with | nil=>rfl | cons a t ih=>simp only [List.map_cons,List.sum_cons,List.length_cons,ih];omega
theorem DW{l:List Int}{k:Int}(h0:0≤k)(hB:k+cO l≤4611686018427387904)(hl:l.length≤maxLen):∃m,hY l k=some (k+cO l,m)∧f6 m k=some (k+cO l):=by
  obtain⟨m,e1,e2,e3⟩:=yY l (fun _=>1) (fun _ a k=>∀(m:List Int) (i:Nat) (hi:i < m.length),m.length≤maxLen→m[i]=a→j5 m (k,(i:Int))=some (.next (k+1,((i+1:Nat):Int)))) (f:=sG l) h0 hB (fun m k i hi hm he hk hb=>⟨_,by
    simp only [sG]
    rw [aR hm,if_pos (by simp;omega),aS (by omega),Option.bind_some,Int.toNat_natCast]
    refine nx3 ?_ (cY (eE hi hl))
    (try simp only [vO,Int.add_assoc,Int.reduceAdd]);exact aV (by omega) (by omega),fun m i hi hx e=>by
    simp only [j5]
    rw [if_pos (by simp;omega)]
    simp only [aS hi,e,Option.bind_some,bne_self_eq_false,beq_self_eq_true,Bool.not_true,Bool.false_eq_true,if_false]
    refine nx2 ?_ (cY (eE hi hx))
    (try simp only [vO,Int.add_assoc,Int.reduceAdd]);exact aV (by omega) (by omega)⟩) (fun m k hm=>by
    simp only [sG]
    rw [aR hm,if_neg (by simp;omega)])
  refine⟨m,?_,?_⟩
  · unfold hY
    rw [e1];simp only [Option.bind_some,IU,IT];rw [aR e2];rfl
  · unfold f6
    rw [yZ l m e2 (fun _=>1) (fun _ a k=>∀(m:List Int) (i:Nat) (hi:i < m.length),m.length≤maxLen→m[i]=a→j5 m (k,(i:Int))=some (.next (k+1,((i+1:Nat):Int)))) e3 (g:=j5 m) (fun i hi hi' k h _ _=>h m i hi' (by omega) rfl) (fun k=>by simp [j5]) h0 hB];rfl
def fV(l:List aG):Nat:=(l.map fun x=>cO x.aO).sum
theorem TH{l:List aG}{k:Int}(h0:0≤k)(hB:k+fV l≤4611686018427387904)(hl:l.length≤maxLen)(hi:∀x∈l,x.aO.length≤maxLen):∃m,pA l k=some (k+fV l,m)∧pB m k=some (k+fV l):=by
  obtain⟨m,e1,e2,e3⟩:=yY l (fun x=>cO x.aO) (fun x a k=>f6 a.aO k=some (k+cO x.aO)) (f:=oG l) h0 hB (fun m k i hi' hm he hk hb=>by
    obtain⟨q,q1,q2⟩:=DW (l:=l[i].aO) hk hb (hi _ (List.getElem_mem hi'))
    refine⟨⟨q⟩,?_,q2⟩
    simp only [oG]
    rw [aR hm,if_pos (by simp;omega),aS (by omega),Option.bind_some,he,q1,Option.bind_some,Int.toNat_natCast,cY (eE hi' hl)]) (fun m k hm=>by
    simp only [oG]
    rw [aR hm,if_neg (by simp;omega)])
  refine⟨m,?_,?_⟩
  · unfold pA
    rw [e1];simp only [Option.bind_some,EL,EK];rw [aR e2];rfl
  · unfold pB
    rw [yZ l m e2 (fun x=>cO x.aO) (fun x a k=>f6 a.aO k=some (k+cO x.aO)) e3 (g:=oJ m) (fun i hi' hi2 k h hk hb=>by
      simp only [oJ]
      rw [if_pos (by simp;omega),aS hi2,Option.bind_some,h,Option.bind_some,if_neg (by simp;omega),cY (eE hi2 (by omega))]) (fun k=>by simp [oJ]) h0 hB];rfl
def sP(v:aA):Nat:=fV v.Global+fV v.aU
def ZP(v:aA):Prop:=v.Global.length≤maxLen∧(∀x∈v.Global,x.aO.length≤maxLen)∧v.aU.length≤maxLen∧(∀x∈v.aU,x.aO.length≤maxLen)
theorem aG9{v:aA}{k:Int}(h0:0≤k)(hB:k+sP v≤4611686018427387904)(hm:ZP v):∃s0 s1,yF v k=some (k+sP v,s0,s1)∧yI (⟨s0,s1⟩:aA) k=some (k+sP v):=by
  unfold sP at hB ⊢
  obtain⟨s0,a0,b0⟩:=TH (l:=v.Global) (k:=k) (by omega) (by omega) (hm.1) (hm.2.1)
  have z0:¬k+(fV v.Global:Nat) < 0:=by omega
  obtain⟨s1,a1,b1⟩:=TH (l:=v.aU) (k:=k+(fV v.Global:Nat)) (by omega) (by omega) (hm.2.2.1) (hm.2.2.2)
  have z1:¬k+(fV v.Global:Nat)+(fV v.aU:Nat) < 0:=by omega
  have e:k+(fV v.Global:Nat)+(fV v.aU:Nat)=k+((fV v.Global+fV v.aU:Nat):Int):=by omega
  rw [←e]
  refine⟨s0,s1,?_,?_⟩
  · unfold yF;simp only [a0,a1,Option.bind_some]
  · unfold yI;simp only [b0,decide_eq_false z0,b1,decide_eq_false z1,Option.bind_some,Bool.false_eq_true,if_false]
def rI(v:aC):Nat:=cO v.Bytes+cO v.Class
def aD2(v:aC):Prop:=v.Bytes.length≤maxLen∧v.Class.length≤maxLen
theorem aJW{v:aC}{k:Int}(h0:0≤k)(hB:k+rI v≤4611686018427387904)(hm:aD2 v):∃s0 s1,AK v k=some (k+rI v,s0,s1)∧AO (⟨s0,s1⟩:aC) k=some (k+rI v):=by
  unfold rI at hB ⊢
  obtain⟨s0,a0,b0⟩:=DW (l:=v.Bytes) (k:=k) (by omega) (by omega) (hm.1)
  have z0:¬k+(cO v.Bytes:Nat) < 0:=by omega
  obtain⟨s1,a1,b1⟩:=DW (l:=v.Class) (k:=k+(cO v.Bytes:Nat)) (by omega) (by omega) (hm.2)
  have z1:¬k+(cO v.Bytes:Nat)+(cO v.Class:Nat) < 0:=by omega
  have e:k+(cO v.Bytes:Nat)+(cO v.Class:Nat)=k+((cO v.Bytes+cO v.Class:Nat):Int):=by omega
  rw [←e]
  refine⟨s0,s1,?_,?_⟩
  · unfold AK;simp only [a0,a1,Option.bind_some]
  · unfold AO;simp only [b0,decide_eq_false z0,b1,decide_eq_false z1,Option.bind_some,Bool.false_eq_true,if_false]
def y4(l:List dK):Nat:=(l.map fun _=>4).sum
theorem aFR(l:List dK):y4 l=4 * l.length:=by unfold y4;induction l with | nil=>rfl | cons a t ih=>simp only [List.map_cons,List.sum_cons,List.length_cons,ih];omega
theorem aJX{l:List dK}{k:Int}(h0:0≤k)(hB:k+y4 l≤4611686018427387904)(hl:l.length≤maxLen):∃m,AL l k=some (k+y4 l,m)∧AP m k=some (k+y4 l):=by
  obtain⟨m,e1,e2,e3⟩:=yY l (fun _=>4) (fun _ a k=>∀(m:List dK) (i:Nat) (hi:i < m.length),m.length≤maxLen→m[i]=a→j6 m (k,(i:Int))=some (.next (k+4,((i+1:Nat):Int)))) (f:=sH l) h0 hB (fun m k i hi hm he hk hb=>⟨_,by
    simp only [sH]
    rw [aR hm,if_pos (by simp;omega),aS (by omega),Option.bind_some,Int.toNat_natCast]
    refine nx3 ?_ (cY (eE hi hl))
    (try simp only [vO,Int.add_assoc,Int.reduceAdd]);exact aV (by omega) (by omega),fun m i hi hx e=>by
    simp only [j6]
    rw [if_pos (by simp;omega)]
    simp only [aS hi,e,Option.bind_some,bne_self_eq_false,beq_self_eq_true,Bool.not_true,Bool.false_eq_true,if_false]
    refine nx2 ?_ (cY (eE hi hx))
    (try simp only [vO,Int.add_assoc,Int.reduceAdd]);exact aV (by omega) (by omega)⟩) (fun m k hm=>by
    simp only [sH]
    rw [aR hm,if_neg (by simp;omega)])
  refine⟨m,?_,?_⟩
  · unfold AL
    rw [e1];simp only [Option.bind_some,IW,IV];rw [aR e2];rfl
  · unfold AP
    rw [yZ l m e2 (fun _=>4) (fun _ a k=>∀(m:List dK) (i:Nat) (hi:i < m.length),m.length≤maxLen→m[i]=a→j6 m (k,(i:Int))=some (.next (k+4,((i+1:Nat):Int)))) e3 (g:=j6 m) (fun i hi hi' k h _ _=>h m i hi' (by omega) rfl) (fun k=>by simp [j6]) h0 hB];rfl
def AZ(l:List cX):Nat:=(l.map fun _=>4).sum
theorem ZQ(l:List cX):AZ l=4 * l.length:=by unfold AZ;induction l with | nil=>rfl | cons a t ih=>simp only [List.map_cons,List.sum_cons,List.length_cons,ih];omega
theorem aNR{l:List cX}{k:Int}(h0:0≤k)(hB:k+AZ l≤4611686018427387904)(hl:l.length≤maxLen):∃m,DC l k=some (k+AZ l,m)∧sJ m k=some (k+AZ l):=by
  obtain⟨m,e1,e2,e3⟩:=yY l (fun _=>4) (fun _ a k=>∀(m:List cX) (i:Nat) (hi:i < m.length),m.length≤maxLen→m[i]=a→kX m (k,(i:Int))=some (.next (k+4,((i+1:Nat):Int)))) (f:=uZ l) h0 hB (fun m k i hi hm he hk hb=>⟨_,by
    simp only [uZ]
    rw [aR hm,if_pos (by simp;omega),aS (by omega),Option.bind_some,Int.toNat_natCast]
    refine nx3 ?_ (cY (eE hi hl))
    (try simp only [vO,Int.add_assoc,Int.reduceAdd]);exact aV (by omega) (by omega),fun m i hi hx e=>by
    simp only [kX]
    rw [if_pos (by simp;omega)]
    simp only [aS hi,e,Option.bind_some,bne_self_eq_false,beq_self_eq_true,Bool.not_true,Bool.false_eq_true,if_false]
    refine nx2 ?_ (cY (eE hi hx))
    (try simp only [vO,Int.add_assoc,Int.reduceAdd]);exact aV (by omega) (by omega)⟩) (fun m k hm=>by
    simp only [uZ]
    rw [aR hm,if_neg (by simp;omega)])
  refine⟨m,?_,?_⟩
  · unfold DC
    rw [e1];simp only [Option.bind_some,K4,K3];rw [aR e2];rfl
  · unfold sJ
    rw [yZ l m e2 (fun _=>4) (fun _ a k=>∀(m:List cX) (i:Nat) (hi:i < m.length),m.length≤maxLen→m[i]=a→kX m (k,(i:Int))=some (.next (k+4,((i+1:Nat):Int)))) e3 (g:=kX m) (fun i hi hi' k h _ _=>h m i hi' (by omega) rfl) (fun k=>by simp [kX]) h0 hB];rfl
def e9(l:List Queue):Nat:=(l.map fun x=>AZ x.fK).sum
theorem TJ{l:List Queue}{k:Int}(h0:0≤k)(hB:k+e9 l≤4611686018427387904)(hl:l.length≤maxLen)(hi:∀x∈l,x.fK.length≤maxLen):∃m,o9 l k=some (k+e9 l,m)∧vF m k=some (k+e9 l):=by
  obtain⟨m,e1,e2,e3⟩:=yY l (fun x=>AZ x.fK) (fun x a k=>sJ a.fK k=some (k+AZ x.fK)) (f:=oF l) h0 hB (fun m k i hi' hm he hk hb=>by
    obtain⟨q,q1,q2⟩:=aNR (l:=l[i].fK) hk hb (hi _ (List.getElem_mem hi'))
    refine⟨⟨q⟩,?_,q2⟩
    simp only [oF]
    rw [aR hm,if_pos (by simp;omega),aS (by omega),Option.bind_some,he,q1,Option.bind_some,Int.toNat_natCast,cY (eE hi' hl)]) (fun m k hm=>by
    simp only [oF]
    rw [aR hm,if_neg (by simp;omega)])
  refine⟨m,?_,?_⟩
  · unfold o9
    rw [e1];simp only [Option.bind_some,EJ,EI];rw [aR e2];rfl
  · unfold vF
    rw [yZ l m e2 (fun x=>AZ x.fK) (fun x a k=>sJ a.fK k=some (k+AZ x.fK)) e3 (g:=oL m) (fun i hi' hi2 k h hk hb=>by
      simp only [oL]
      rw [if_pos (by simp;omega),aS hi2,Option.bind_some,h,Option.bind_some,if_neg (by simp;omega),cY (eE hi2 (by omega))]) (fun k=>by simp [oL]) h0 hB];rfl
def j8(v:aD):Nat:=y4 v.aP
def ZR(v:aD):Prop:=v.aP.length≤maxLen
theorem aHA{v:aD}{k:Int}(h0:0≤k)(hB:k+j8 v≤4611686018427387904)(hm:ZR v):∃s0,yG v k=some (k+j8 v,s0)∧yJ (⟨v.aJ,s0⟩:aD) k=some (k+j8 v):=by
  unfold j8 at hB ⊢
  obtain⟨s0,a0,b0⟩:=aJX (l:=v.aP) (k:=k) (by omega) (by omega) (hm)
  have z0:¬k+(y4 v.aP:Nat) < 0:=by omega
  have e:k+(y4 v.aP:Nat)=k+((y4 v.aP:Nat):Int):=by omega
  rw [←e]
  refine⟨s0,?_,?_⟩
  · unfold yG;simp only [a0,Option.bind_some]
  · unfold yJ;simp only [b0,decide_eq_false z0,Option.bind_some,Bool.false_eq_true,if_false]
def DO(l:List Ev):Nat:=(l.map fun _=>7).sum
theorem aHB(l:List Ev):DO l=7 * l.length:=by unfold DO;induction l with | nil=>rfl | cons a t ih=>simp only [List.map_cons,List.sum_cons,List.length_cons,ih];omega
theorem aNS{l:List Ev}{k:Int}(h0:0≤k)(hB:k+DO l≤4611686018427387904)(hl:l.length≤maxLen):∃m,DE l k=some (k+DO l,m)∧DG m k=some (k+DO l):=by
  obtain⟨m,e1,e2,e3⟩:=yY l (fun _=>7) (fun _ a k=>∀(m:List Ev) (i:Nat) (hi:i < m.length),m.length≤maxLen→m[i]=a→kY m (k,(i:Int))=some (.next (k+7,((i+1:Nat):Int)))) (f:=vC l) h0 hB (fun m k i hi hm he hk hb=>⟨_,by
    simp only [vC]
    rw [aR hm,if_pos (by simp;omega),aS (by omega),Option.bind_some,Int.toNat_natCast]
    refine nx3 ?_ (cY (eE hi hl))
    (try simp only [vO,Int.add_assoc,Int.reduceAdd]);exact aV (by omega) (by omega),fun m i hi hx e=>by
    simp only [kY]
    rw [if_pos (by simp;omega)]
    simp only [aS hi,e,Option.bind_some,bne_self_eq_false,beq_self_eq_true,Bool.not_true,Bool.false_eq_true,if_false]
    refine nx2 ?_ (cY (eE hi hx))
    (try simp only [vO,Int.add_assoc,Int.reduceAdd]);exact aV (by omega) (by omega)⟩) (fun m k hm=>by
    simp only [vC]
    rw [aR hm,if_neg (by simp;omega)])
  refine⟨m,?_,?_⟩
  · unfold DE
    rw [e1];simp only [Option.bind_some,K6,K5];rw [aR e2];rfl
  · unfold DG
    rw [yZ l m e2 (fun _=>7) (fun _ a k=>∀(m:List Ev) (i:Nat) (hi:i < m.length),m.length≤maxLen→m[i]=a→kY m (k,(i:Int))=some (.next (k+7,((i+1:Nat):Int)))) e3 (g:=kY m) (fun i hi hi' k h _ _=>h m i hi' (by omega) rfl) (fun k=>by simp [kY]) h0 hB];rfl
def nF(l:List bJ):Nat:=(l.map fun _=>21).sum
theorem aFS(l:List bJ):nF l=21 * l.length:=by unfold nF;induction l with | nil=>rfl | cons a t ih=>simp only [List.map_cons,List.sum_cons,List.length_cons,ih];omega
theorem aJY{l:List bJ}{k:Int}(h0:0≤k)(hB:k+nF l≤4611686018427387904)(hl:l.length≤maxLen):∃m,AN l k=some (k+nF l,m)∧AR m k=some (k+nF l):=by
  obtain⟨m,e1,e2,e3⟩:=yY l (fun _=>21) (fun _ a k=>∀(m:List bJ) (i:Nat) (hi:i < m.length),m.length≤maxLen→m[i]=a→j7 m (k,(i:Int))=some (.next (k+21,((i+1:Nat):Int)))) (f:=sI l) h0 hB (fun m k i hi hm he hk hb=>⟨_,by
    simp only [sI]
    rw [aR hm,if_pos (by simp;omega),aS (by omega),Option.bind_some,Int.toNat_natCast]
    refine nx3 ?_ (cY (eE hi hl))
    (try simp only [vO,Int.add_assoc,Int.reduceAdd]);exact aV (by omega) (by omega),fun m i hi hx e=>by
    simp only [j7]
    rw [if_pos (by simp;omega)]
    simp only [aS hi,e,Option.bind_some,bne_self_eq_false,beq_self_eq_true,Bool.not_true,Bool.false_eq_true,if_false]
    refine nx2 ?_ (cY (eE hi hx))
    (try simp only [vO,Int.add_assoc,Int.reduceAdd]);exact aV (by omega) (by omega)⟩) (fun m k hm=>by
    simp only [sI]
    rw [aR hm,if_neg (by simp;omega)])
  refine⟨m,?_,?_⟩
  · unfold AN
    rw [e1];simp only [Option.bind_some,IY,IX];rw [aR e2];rfl
  · unfold AR
    rw [yZ l m e2 (fun _=>21) (fun _ a k=>∀(m:List bJ) (i:Nat) (hi:i < m.length),m.length≤maxLen→m[i]=a→j7 m (k,(i:Int))=some (.next (k+21,((i+1:Nat):Int)))) e3 (g:=j7 m) (fun i hi hi' k h _ _=>h m i hi' (by omega) rfl) (fun k=>by simp [j7]) h0 hB];rfl
def oP(v:Mem):Nat:=rI v.aC+sP v.aA
def aHC(v:Mem):Prop:=aD2 v.aC∧ZP v.aA
theorem aNT{v:Mem}{k:Int}(h0:0≤k)(hB:k+oP v≤4611686018427387904)(hm:aHC v):∃s0 s1 s2 s3,DD v k=some (k+oP v,s0,s1,s2,s3)∧DF (⟨(⟨s0,s1⟩:aC),(⟨s2,s3⟩:aA)⟩:Mem) k=some (k+oP v):=by
  unfold oP at hB ⊢
  obtain⟨s0,s1,a0,b0⟩:=aJW (v:=v.aC) (k:=k) (by omega) (by omega) (hm.1)
  have z0:¬k+(rI v.aC:Nat) < 0:=by omega
  obtain⟨s2,s3,a1,b1⟩:=aG9 (v:=v.aA) (k:=k+(rI v.aC:Nat)) (by omega) (by omega) (hm.2)
  have z1:¬k+(rI v.aC:Nat)+(sP v.aA:Nat) < 0:=by omega
  have e:k+(rI v.aC:Nat)+(sP v.aA:Nat)=k+((rI v.aC+sP v.aA:Nat):Int):=by omega
  rw [←e]
  refine⟨s0,s1,s2,s3,?_,?_⟩
  · unfold DD;simp only [a0,a1,Option.bind_some]
  · unfold DF;simp only [b0,decide_eq_false z0,b1,decide_eq_false z1,Option.bind_some,Bool.false_eq_true,if_false]
def pM(l:List bY):Nat:=(l.map fun _=>2).sum
theorem aD3(l:List bY):pM l=2 * l.length:=by unfold pM;induction l with | nil=>rfl | cons a t ih=>simp only [List.map_cons,List.sum_cons,List.length_cons,ih];omega
theorem aHD{l:List bY}{k:Int}(h0:0≤k)(hB:k+pM l≤4611686018427387904)(hl:l.length≤maxLen):∃m,yH l k=some (k+pM l,m)∧m7 m k=some (k+pM l):=by
  obtain⟨m,e1,e2,e3⟩:=yY l (fun _=>2) (fun _ a k=>∀(m:List bY) (i:Nat) (hi:i < m.length),m.length≤maxLen→m[i]=a→iS m (k,(i:Int))=some (.next (k+2,((i+1:Nat):Int)))) (f:=p5 l) h0 hB (fun m k i hi hm he hk hb=>⟨_,by
    simp only [p5]
    rw [aR hm,if_pos (by simp;omega),aS (by omega),Option.bind_some,Int.toNat_natCast]
    refine nx3 ?_ (cY (eE hi hl))
    (try simp only [vO,Int.add_assoc,Int.reduceAdd]);exact aV (by omega) (by omega),fun m i hi hx e=>by
    simp only [iS]
    rw [if_pos (by simp;omega)]
    simp only [aS hi,e,Option.bind_some,bne_self_eq_false,beq_self_eq_true,Bool.not_true,Bool.false_eq_true,if_false]
    refine nx2 ?_ (cY (eE hi hx))
    (try simp only [vO,Int.add_assoc,Int.reduceAdd]);exact aV (by omega) (by omega)⟩) (fun m k hm=>by
    simp only [p5]
    rw [aR hm,if_neg (by simp;omega)])
  refine⟨m,?_,?_⟩
  · unfold yH
    rw [e1];simp only [Option.bind_some,GI,GH];rw [aR e2];rfl
  · unfold m7
    rw [yZ l m e2 (fun _=>2) (fun _ a k=>∀(m:List bY) (i:Nat) (hi:i < m.length),m.length≤maxLen→m[i]=a→iS m (k,(i:Int))=some (.next (k+2,((i+1:Nat):Int)))) e3 (g:=iS m) (fun i hi hi' k h _ _=>h m i hi' (by omega) rfl) (fun k=>by simp [iS]) h0 hB];rfl
def l5(l:List aN):Nat:=(l.map fun x=>pM x.Rows).sum
theorem aFT{l:List aN}{k:Int}(h0:0≤k)(hB:k+l5 l≤4611686018427387904)(hl:l.length≤maxLen)(hi:∀x∈l,x.Rows.length≤maxLen):∃m,vB l k=some (k+l5 l,m)∧vD m k=some (k+l5 l):=by
  obtain⟨m,e1,e2,e3⟩:=yY l (fun x=>pM x.Rows) (fun x a k=>m7 a.Rows k=some (k+pM x.Rows)) (f:=oH l) h0 hB (fun m k i hi' hm he hk hb=>by
    obtain⟨q,q1,q2⟩:=aHD (l:=l[i].Rows) hk hb (hi _ (List.getElem_mem hi'))
    refine⟨⟨q⟩,?_,q2⟩
    simp only [oH]
    rw [aR hm,if_pos (by simp;omega),aS (by omega),Option.bind_some,he,q1,Option.bind_some,Int.toNat_natCast,cY (eE hi' hl)]) (fun m k hm=>by
    simp only [oH]
    rw [aR hm,if_neg (by simp;omega)])
  refine⟨m,?_,?_⟩
  · unfold vB
    rw [e1];simp only [Option.bind_some,EN,EM];rw [aR e2];rfl
  · unfold vD
    rw [yZ l m e2 (fun x=>pM x.Rows) (fun x a k=>m7 a.Rows k=some (k+pM x.Rows)) e3 (g:=oK m) (fun i hi' hi2 k h hk hb=>by
      simp only [oK]
      rw [if_pos (by simp;omega),aS hi2,Option.bind_some,h,Option.bind_some,if_neg (by simp;omega),cY (eE hi2 (by omega))]) (fun k=>by simp [oK]) h0 hB];rfl
def gY(v:aB):Nat:=oP v.Mem+j8 v.aD+l5 v.aK+cO v.b9
def WE(v:aB):Prop:=aHC v.Mem∧ZR v.aD∧v.aK.length≤maxLen∧(∀x∈v.aK,x.Rows.length≤maxLen)∧v.b9.length≤maxLen
theorem aJZ{v:aB}{k:Int}(h0:0≤k)(hB:k+gY v≤4611686018427387904)(hm:WE v):∃s0 s1 s2 s3 s4 s5 s6,AM v k=some (k+gY v,s0,s1,s2,s3,s4,s5,s6)∧AQ (⟨(⟨(⟨s0,s1⟩:aC),(⟨s2,s3⟩:aA)⟩:Mem),(⟨v.aD.aJ,s4⟩:aD),s5,s6⟩:aB) k=some (k+gY v):=by
  unfold gY at hB ⊢
  obtain⟨s0,s1,s2,s3,a0,b0⟩:=aNT (v:=v.Mem) (k:=k) (by omega) (by omega) (hm.1)
  have z0:¬k+(oP v.Mem:Nat) < 0:=by omega
  obtain⟨s4,a1,b1⟩:=aHA (v:=v.aD) (k:=k+(oP v.Mem:Nat)) (by omega) (by omega) (hm.2.1)
  have z1:¬k+(oP v.Mem:Nat)+(j8 v.aD:Nat) < 0:=by omega
  obtain⟨s5,a2,b2⟩:=aFT (l:=v.aK) (k:=k+(oP v.Mem:Nat)+(j8 v.aD:Nat)) (by omega) (by omega) (hm.2.2.1) (hm.2.2.2.1)
  have z2:¬k+(oP v.Mem:Nat)+(j8 v.aD:Nat)+(l5 v.aK:Nat) < 0:=by omega
  obtain⟨s6,a3,b3⟩:=DW (l:=v.b9) (k:=k+(oP v.Mem:Nat)+(j8 v.aD:Nat)+(l5 v.aK:Nat)) (by omega) (by omega) (hm.2.2.2.2)
  have z3:¬k+(oP v.Mem:Nat)+(j8 v.aD:Nat)+(l5 v.aK:Nat)+(cO v.b9:Nat) < 0:=by omega
  have e:k+(oP v.Mem:Nat)+(j8 v.aD:Nat)+(l5 v.aK:Nat)+(cO v.b9:Nat)=k+((oP v.Mem+j8 v.aD+l5 v.aK+cO v.b9:Nat):Int):=by omega
  rw [←e]
  refine⟨s0,s1,s2,s3,s4,s5,s6,?_,?_⟩
  · unfold AM;simp only [a0,a1,a2,a3,Option.bind_some]
  · unfold AQ;simp only [b0,decide_eq_false z0,b1,decide_eq_false z1,b2,decide_eq_false z2,b3,decide_eq_false z3,Option.bind_some,Bool.false_eq_true,if_false]
def zK(v:fD):Nat:=e9 v.aY+cO v.cT
def aJ0(v:fD):Prop:=v.aY.length≤maxLen∧(∀x∈v.aY,x.fK.length≤maxLen)∧v.cT.length≤maxLen
theorem aFU{v:fD}{k:Int}(h0:0≤k)(hB:k+zK v≤4611686018427387904)(hm:aJ0 v):∃s0 s1,vA v k=some (k+zK v,s0,s1):=by
  unfold zK at hB ⊢
  obtain⟨s0,a0,b0⟩:=TJ (l:=v.aY) (k:=k) (by omega) (by omega) (hm.1) (hm.2.1)
  have z0:¬k+(e9 v.aY:Nat) < 0:=by omega
  obtain⟨s1,a1,b1⟩:=DW (l:=v.cT) (k:=k+(e9 v.aY:Nat)) (by omega) (by omega) (hm.2.2)
  have z1:¬k+(e9 v.aY:Nat)+(cO v.cT:Nat) < 0:=by omega
  have e:k+(e9 v.aY:Nat)+(cO v.cT:Nat)=k+((e9 v.aY+cO v.cT:Nat):Int):=by omega
  rw [←e]
  refine⟨s0,s1,?_⟩
  · unfold vA;simp only [a0,a1,Option.bind_some]
def wJ(v:aI):Nat:=gY v.aB+cO v.Cells+nF v.aQ+e9 v.aY+DO v.Log
def NJ(v:aI):Prop:=WE v.aB∧v.Cells.length≤maxLen∧v.aQ.length≤maxLen∧v.aY.length≤maxLen∧(∀x∈v.aY,x.fK.length≤maxLen)∧v.Log.length≤maxLen
theorem aHE{v:aI}{k:Int}(h0:0≤k)(hB:k+wJ v≤4611686018427387904)(hm:NJ v):∃s0 s1 s2 s3 s4 s5 s6 s7 s8 s9 s10,rA v k=some (k+wJ v,s0,s1,s2,s3,s4,s5,s6,s7,s8,s9,s10)∧m8 (⟨(⟨(⟨(⟨s0,s1⟩:aC),(⟨s2,s3⟩:aA)⟩:Mem),(⟨v.aB.aD.aJ,s4⟩:aD),s5,s6⟩:aB),s7,s8,s9,s10,v.aM⟩:aI) k=some (k+wJ v):=by
  unfold wJ at hB ⊢
  obtain⟨s0,s1,s2,s3,s4,s5,s6,a0,b0⟩:=aJZ (v:=v.aB) (k:=k) (by omega) (by omega) (hm.1)
  have z0:¬k+(gY v.aB:Nat) < 0:=by omega
  obtain⟨s7,a1,b1⟩:=DW (l:=v.Cells) (k:=k+(gY v.aB:Nat)) (by omega) (by omega) (hm.2.1)
  have z1:¬k+(gY v.aB:Nat)+(cO v.Cells:Nat) < 0:=by omega
  obtain⟨s8,a2,b2⟩:=aJY (l:=v.aQ) (k:=k+(gY v.aB:Nat)+(cO v.Cells:Nat)) (by omega) (by omega) (hm.2.2.1)
  have z2:¬k+(gY v.aB:Nat)+(cO v.Cells:Nat)+(nF v.aQ:Nat) < 0:=by omega
  obtain⟨s9,a3,b3⟩:=TJ (l:=v.aY) (k:=k+(gY v.aB:Nat)+(cO v.Cells:Nat)+(nF v.aQ:Nat)) (by omega) (by omega) (hm.2.2.2.1) (hm.2.2.2.2.1)
  have z3:¬k+(gY v.aB:Nat)+(cO v.Cells:Nat)+(nF v.aQ:Nat)+(e9 v.aY:Nat) < 0:=by omega
  obtain⟨s10,a4,b4⟩:=aNS (l:=v.Log) (k:=k+(gY v.aB:Nat)+(cO v.Cells:Nat)+(nF v.aQ:Nat)+(e9 v.aY:Nat)) (by omega) (by omega) (hm.2.2.2.2.2)
  have z4:¬k+(gY v.aB:Nat)+(cO v.Cells:Nat)+(nF v.aQ:Nat)+(e9 v.aY:Nat)+(DO v.Log:Nat) < 0:=by omega
  have e:k+(gY v.aB:Nat)+(cO v.Cells:Nat)+(nF v.aQ:Nat)+(e9 v.aY:Nat)+(DO v.Log:Nat)=k+((gY v.aB+cO v.Cells+nF v.aQ+e9 v.aY+DO v.Log:Nat):Int):=by omega
  rw [←e]
  refine⟨s0,s1,s2,s3,s4,s5,s6,s7,s8,s9,s10,?_,?_⟩
  · unfold rA;simp only [a0,a1,a2,a3,a4,Option.bind_some]
  · unfold m8;simp only [b0,decide_eq_false z0,b1,decide_eq_false z1,b2,decide_eq_false z2,b3,decide_eq_false z3,b4,decide_eq_false z4,Option.bind_some,Bool.false_eq_true,if_false]
end Go.Gv
end
noncomputable section
set_option linter.unusedVariables false
set_option linter.unusedSimpArgs false
set_option linter.unusedSectionVars false
namespace Go.Gv
def aNU:aC:=⟨List.replicate 384 0,[-1,-1,-1,-1,-1,-1]⟩
def aSL:aA:=⟨List.replicate 3 ⟨[]⟩,List.replicate 9 ⟨[]⟩⟩
def aIT:aB:=⟨⟨aNU,aSL⟩,⟨0,List.replicate 3 ⟨false,0,false,0⟩⟩,List.replicate 3 ⟨[]⟩,List.replicate 3 0⟩
theorem VR:B8=some aNU:=by
  unfold B8
  have key:loop oQ (0,[])=some (List.replicate 6 (-1)):=fT (f:=oQ) 6 (fun k=>((k:Int),List.replicate k (-1))) _ (fun k hk=>by
    simp only [oQ]
    rw [if_pos (by simp;omega),aR (by simp;omega),aV (by omega) (by omega),List.replicate_succ'];rfl) (by simp [oQ])
  rw [aR (by omega),key];rfl
theorem aSM:pY [-1] 6=some [-1,-1,-1,-1,-1,-1]:=by
  unfold pY
  rw [if_neg (by simp),show G5 (IntKind.u64.wrap (([-1]:List Int).length:Int)) (IntKind.u64.wrap 6)=some (0,6) by kernel_rfl]
  simp only [Option.bind_some]
  rw [if_neg (by simp),decide_eq_false (by omega)]
  simp only [lI,Bool.false_eq_true,if_false]
  rw [show IntKind.i64.wrap 6=6 from wrap_i64 (by omega) (by omega),aR (by omega),
    show(cL (List.replicate (Int.toNat 6) 0) 0 [-1],((min ([-1]:List Int).length ((List.replicate (Int.toNat 6) (0:Int)).length - 0):Nat):Int))=([-1,0,0,0,0,0],1) by kernel_rfl,
    bS (body:=iH) (s':=([-1,-1,0,0,0,0],2)) (by kernel_rfl),bS (body:=iH) (s':=([-1,-1,-1,-1,0,0],4)) (by kernel_rfl),
    bS (body:=iH) (s':=([-1,-1,-1,-1,-1,-1],6)) (by kernel_rfl),bX (body:=iH) (r:=[-1,-1,-1,-1,-1,-1]) (by kernel_rfl)]
  rfl
theorem VT:CP=some aNU:=by
  unfold CP
  rw [aR (by omega),aSM];rfl
theorem ZS:B9=some aIT∧CQ=some aIT:=by
  unfold B9 CQ L6 MI GX G6 GY G7 GZ G8 L7 MJ
  rw [VR,VT,aR (by omega),aR (by omega),aR (by omega),aR (by omega),aR (by omega)]
  exact⟨rfl,rfl⟩
theorem aNV:HO aIT:=of_decide_eq_true (by kernel_rfl)
def GR:aI:=⟨⟨⟨⟨[],[]⟩,⟨[],[]⟩⟩,⟨0,[]⟩,[],[]⟩,[],[],[],[],0⟩
def NL(t:List Queue):aI:=⟨aIT,List.replicate 2 0,List.replicate 3 aNE,t,[],0⟩
theorem aJ1{t:List Queue}(h:P0 t):WC (NL t):=
  ⟨aNV,rfl,rfl,h,by simp [NL],fun q hq=>by simp [NL] at hq;exact .inl hq,fun j hj=>by simp [NL] at hj;exact(aFP (by rw [hj];rfl)).2 hj⟩
theorem aCC{l:List Queue}(hl:l.length≤1048576)(hq:∀q∈l,q.fK.length≤1048576):wW l=some l∧z6 l=some l:=by
  constructor
  · unfold wW
    rw [RI l]
    · rfl
    · intro k hk
      have:=hq _ (List.getElem_mem hk)
      simp only [wV]
      rw [if_pos (by simp;omega),aS hk]
      simp only [Option.bind_some]
      rw [aR (by simp;omega),aR (by simp;omega),aV (by omega) (by omega)];rfl
    · simp [wV]
  · unfold z6
    rw [RI l]
    · rfl
    · intro k hk
      have:=hq _ (List.getElem_mem hk)
      simp only [zF]
      rw [if_pos (by simp;omega),aS hk]
      simp only [Option.bind_some,BO]
      rw [aR (by simp;omega),Option.bind_some,aR (by simp;omega),aV (by omega) (by omega)];rfl
    · simp [zF]
theorem aFV{t:List Queue}(hl:t.length≤1048576)(hq:∀q∈t,q.fK.length≤1048576):zP t=some (if P0 t then NL t else GR)∧z7 t=some (if P0 t then NL t else GR):=by
  have hm:t.length≤maxLen:=by simp only [maxLen];omega
  unfold zP z7
  rw [aDY hm,aDZ hm (fun q h=>by have:=hq q h;simp only [maxLen];omega)]
  simp only [Option.bind_some]
  by_cases h:P0 t
  · simp only [decide_eq_true h,Bool.not_true,Bool.false_eq_true,if_false,if_pos h,ZS.1,ZS.2,Option.bind_some,(aCC hl hq).1,(aCC hl hq).2]
    rw [aR (by omega),aR (by omega),aR (by omega),aR (by omega)]
    exact⟨rfl,rfl⟩
  · simp only [decide_eq_false h,Bool.not_false,if_true,if_neg h]
    exact⟨rfl,rfl⟩
theorem HT{α:Type}{f:α→Nat}{c:Nat}:∀{l:List α},(∀x∈l,f x≤c)→(l.map f).sum≤c * l.length
  | [],_=>by simp
  | a :: l, h => by
    have h1:=h a (by simp)
    have h2:=HT (l:=l) (fun x hx=>h x (by simp [hx]))
    simp only [List.map_cons,List.sum_cons,List.length_cons,Nat.mul_add];omega
theorem aNW{b:aB}(hb:HO b):sO b≤2000∧gY b≤2000∧WE b:=by
  obtain⟨⟨hm,hc,hl,hz⟩,_⟩:=hb
  obtain⟨hcnt,h3,h9,h1,h2,hsm,hcp,hlo,hsG,hsO⟩:=wI.facts hm
  have hM:∀{n:Nat},n≤1000→n≤maxLen:=fun h=>by simp only [maxLen];omega
  have l24:=hl.small.2.2.2
  have a1:(b.Mem.aA.Global.map oO).sum≤24 * b.Mem.aA.Global.length:=HT fun x hx=>by unfold oO dC;exact hsG x hx
  have a2:(b.Mem.aA.aU.map oO).sum≤24 * b.Mem.aA.aU.length:=HT fun x hx=>by unfold oO dC;exact hsO x hx
  have a3:(b.aK.map v8).sum≤24 * b.aK.length:=HT fun x hx=>by unfold v8 zJ;exact l24 x hx
  have b1:fV b.Mem.aA.Global≤24 * b.Mem.aA.Global.length:=HT fun x hx=>by have:=hsG x hx;rw [rH];omega
  have b2:fV b.Mem.aA.aU≤24 * b.Mem.aA.aU.length:=HT fun x hx=>by have:=hsO x hx;rw [rH];omega
  have b3:l5 b.aK≤48 * b.aK.length:=HT fun x hx=>by have:=l24 x hx;rw [aD3];omega
  have e1:=hc.2.1;have e2:=hl.1;have e3:=hz.1
  refine⟨?_,?_,⟨⟨hM (by omega),hM (by omega)⟩,hM (by omega),fun x hx=>hM (by have:=hsG x hx;omega),hM (by omega),fun x hx=>hM (by have:=hsO x hx;omega)⟩,hM (by omega),hM (by omega),fun x hx=>hM (by have:=l24 x hx;omega),hM (by omega)⟩
  · unfold sO JF DT zI jS E5 DU nK dC;omega
  · unfold gY oP rI sP j8;rw [rH,rH,aFR,rH];omega
theorem aNX{s:aI}(hs:WC s)(hl:s.Log.length≤2000000):l4 s≤3000+s.Log.length∧wJ s≤3000+7 * s.Log.length∧NJ s:=by
  obtain⟨hb,h2,h3,ht,_,_,_⟩:=hs
  obtain⟨z1,z2,z3⟩:=aNW hb
  have hM:∀{n:Nat},n≤2000000→n≤maxLen:=fun h=>by simp only [maxLen];omega
  have a1:(s.aY.map eZ).sum≤12 * s.aY.length:=HT fun x hx=>by unfold eZ lV;exact(ht.2 x hx).1
  have b1:e9 s.aY≤48 * s.aY.length:=HT fun x hx=>by have:=(ht.2 x hx).1;rw [ZQ];omega
  have e1:=ht.1
  refine⟨?_,?_,z3,hM (by omega),hM (by omega),hM (by omega),fun x hx=>hM (by have:=(ht.2 x hx).1;omega),hM hl⟩
  · unfold l4 dC DV dM JE;omega
  · unfold wJ;rw [rH,aFS,aHB];omega
theorem aNY:l4 GR=0∧wJ GR=0∧NJ GR:=by
  refine⟨rfl,rfl,?_⟩
  simp [NJ,WE,aHC,aD2,ZP,ZR,GR]
structure aP3 (s:aI):Prop where
  eq:oE s s=some true
  wM:∃c s0 s1 s2 s3 s4 s5 s6 s7 s8 s9 s10,0≤c∧rA s 1=some (c,s0,s1,s2,s3,s4,s5,s6,s7,s8,s9,s10)∧m8 ⟨⟨⟨⟨s0,s1⟩,⟨s2,s3⟩⟩,⟨s.aB.aD.aJ,s4⟩,s5,s6⟩,s7,s8,s9,s10,s.aM⟩ 1=some c
theorem aIU{s:aI}(h1:l4 s≤4194304)(h2:wJ s≤1000000000000000)(h3:NJ s):aP3 s:=by
  obtain⟨s0,s1,s2,s3,s4,s5,s6,s7,s8,s9,s10,e1,e2⟩:=aHE (v:=s) (k:=1) (by omega) (by omega) h3
  exact⟨aNQ h1,_,s0,s1,s2,s3,s4,s5,s6,s7,s8,s9,s10,by omega,e1,e2⟩
theorem aUP{s:aI}(hs:WC s)(hl:s.Log.length≤2000000):aP3 s:=by
  obtain⟨h1,h2,h3⟩:=aNX hs hl
  exact aIU (by omega) (by omega) h3
theorem aUQ:aP3 GR:=aIU (by rw [aNY.1];omega) (by rw [aNY.2.1];omega) aNY.2.2
end Go.Gv
end
noncomputable section
set_option linter.unusedVariables false
set_option linter.unusedSimpArgs false
set_option linter.unusedSectionVars false
set_option maxRecDepth 20000
namespace Go.Gv
theorem aP4{x:fD}(hp:x.cT.length≤1048576){m:Nat}(hm:m=min x.cT.length 400):∀d k:Nat,k+d=m→∀s:aI,WC s→s.Log.length≤k→∃s',loop (lG x) ((k:Int),s)=some s'∧loop (lQ x) ((k:Int),s)=some s'∧WC s'∧s'.Log.length≤m:=by
  have hN:(if 400 < (x.cT.length:Int) then (400:Int) else (x.cT.length:Int)).toNat=m:=by split <;> omega
  have hP:((x.cT.take ((if 400 < (x.cT.length:Int) then (400:Int) else (x.cT.length:Int)).toNat)).drop 0)=x.cT.take m:=by rw [hN,List.drop_zero]
  have hlen:(x.cT.take m).length=m:=by rw [List.length_take];omega
  intro d
  induction d with
  | zero =>
    intro k hk s hs hl
    refine⟨s,bX ?_,bX ?_,hs,by omega⟩
    · simp only [lG,iM]
      by_cases q:(k:Int) < x.cT.length
      · rw [if_pos (by simpa using q),decide_eq_false (by omega)];rfl
      · rw [if_neg (by simpa using q)];rfl
    · simp only [lQ,hP,hlen]
      rw [if_neg (by simp;omega)]
  | succ d ih =>
    intro k hk s hs hl
    have hk':k < x.cT.length:=by omega
    have hx:idx x.cT (k:Int)=some x.cT[k]:=aS hk'
    have hx2:idx (x.cT.take m) (k:Int)=some x.cT[k]:=by rw [aS (by omega),List.getElem_take]
    have ew:aH ((k:Int)+1)=((k+1:Nat):Int):=by rw [aV (by omega) (by omega)];rfl
    by_cases hw:0≤x.cT[k]∧x.cT[k]≤2
    · obtain⟨s1,e1,e2,h1,h2⟩:=aD0 hs (by omega) hw
      obtain⟨s',e3,e4,h3,h4⟩:=ih (k+1) (by omega) s1 h1 (by omega)
      refine⟨s',?_,?_,h3,h4⟩
      · rw [bS (s':=(((k+1:Nat):Int),s1)) (by
          simp only [lG,iM,lF]
          rw [if_pos (by simp;omega),if_pos (by simp;omega),hx]
          simp only [Option.bind_some,cK,decide_eq_true hw,if_true,e1,ew])]
        exact e3
      · rw [bS (s':=(((k+1:Nat):Int),s1)) (by
          simp only [lQ,lP,hP,hlen]
          rw [if_pos (by simp;omega),hx2]
          simp only [Option.bind_some,gL,decide_eq_true hw,if_true,e2,ew])]
        exact e4
    · obtain⟨s',e3,e4,h3,h4⟩:=ih (k+1) (by omega) s hs (by omega)
      refine⟨s',?_,?_,h3,h4⟩
      · rw [bS (s':=(((k+1:Nat):Int),s)) (by
          simp only [lG,iM,lF]
          rw [if_pos (by simp;omega),if_pos (by simp;omega),hx]
          simp only [Option.bind_some,cK,decide_eq_false hw,Bool.false_eq_true,if_false,ew])]
        exact e3
      · rw [bS (s':=(((k+1:Nat):Int),s)) (by
          simp only [lQ,lP,hP,hlen]
          rw [if_pos (by simp;omega),hx2]
          simp only [Option.bind_some,gL,decide_eq_false hw,Bool.false_eq_true,if_false,ew])]
        exact e4
theorem aD4{x:fD}(h:dU x≤1048576):∃s,xB x=some s∧qW x=some s∧aP3 s:=by
  have h1:dM x.aY≤1048576:=by unfold dU at h;omega
  have h2:x.cT.length≤1048576:=by unfold dU dC at h;omega
  have hl:=vN x.aY
  have hq:∀q∈x.aY,q.fK.length≤1048576:=fun q hq=>by have:=vM hq;unfold eZ lV at this;omega
  obtain⟨e1,e2⟩:=aFV (t:=x.aY) (by omega) hq
  unfold xB qW
  rw [e1,e2]
  simp only [Option.bind_some]
  by_cases ht:P0 x.aY
  · simp only [if_pos ht]
    have hj:(((NL x.aY).aQ.length:Int) == 0)=false:=rfl
    simp only [hj,Bool.false_eq_true,if_false]
    obtain⟨s,f1,f2,f3,f4⟩:=aP4 h2 (m:=min x.cT.length 400) rfl (min x.cT.length 400) 0 (by omega) _ (aJ1 ht) (by simp [NL])
    rw [show((0:Nat):Int)=0 from rfl] at f1 f2
    rw [f1,f2,aR (by split <;> omega)]
    exact⟨s,rfl,rfl,aUP f3 (by omega)⟩
  · simp only [if_neg ht]
    exact⟨GR,rfl,rfl,aUQ⟩
theorem NM{aX:fD}(hf:fit aX):pP aX=some true:=by
  unfold pP
  rw [aJT hf (by omega) (by omega)]
  simp only [Option.bind_some]
  by_cases h:(dU aX:Int)≤1048576
  · have h':dU aX≤1048576:=by omega
    obtain⟨s,e1,e2,⟨e3,c,s0,s1,s2,s3,s4,s5,s6,s7,s8,s9,s10,hc,e4,e5⟩⟩:=aD4 h'
    have n1:¬(1048576 - (dU aX:Int)) < 0:=by omega
    have n2:¬c < 0:=by omega
    have hl:=vN aX.aY
    have hsz:dM aX.aY≤1048576∧aX.cT.length≤1048576:=by unfold dU dC at h';omega
    have hops:∀x∈aX.aY,x.fK.length≤1048576:=fun q hq=>by have:=vM hq;unfold eZ lV at this;omega
    have hcn:zK aX≤1000000000000000:=by
      have:e9 aX.aY≤4194304 * aX.aY.length:=HT fun x hx=>by have:=hops x hx;rw [ZQ];omega
      unfold zK;rw [rH];omega
    have hM:∀{n:Nat},n≤1048576→n≤maxLen:=fun h=>by simp only [maxLen];omega
    obtain⟨t0,t1,g1⟩:=aFU (v:=aX) (k:=1) (by omega) (by omega) ⟨hM (by omega),fun x hx=>hM (hops x hx),hM (by omega)⟩
    have n3:¬(1+(zK aX:Int)) < 0:=by omega
    simp only [if_pos h,decide_eq_false n1,Bool.false_eq_true,if_false,aJU (show dU aX≤4194304 by omega),Option.bind_some,e1,e2,e3,aJV (show dU aX≤4194304 by omega),Bool.not_true,g1,decide_eq_false n3,iA,e4,e5,decide_eq_false n2,bne_self_eq_false]
  · rw [if_neg h]
    simp
end Go.Gv
end
