import Derived.Test.YtabnjpbikjfhoaaGreatXQF
set_option linter.unusedVariables false
set_option linter.unusedSimpArgs false
set_option linter.unusedSectionVars false
set_option linter.constructorNameAsVariable false
set_option linter.unnecessarySimpa false
noncomputable section
namespace Go.Gv
def bY(l:List aS):List c9:=l.flatMap aS.Rows
theorem JS{l:List aS}{k:Nat}(h:k < l.length):bY (l.take (k+1))=bY (l.take k)++l[k].Rows:=by
  unfold bY
  rw [SQ h,List.flatMap_append];simp
theorem aEC(l:List aS)(k:Nat):(bY (l.take k)).length≤(bY l).length:=by
  have:bY l=bY (l.take k)++bY (l.drop k):=by
    unfold bY;rw [←List.flatMap_append,UO]
  rw [this];simp
theorem aPM(l:List aS){k:Nat}(h:k < l.length):l[k].Rows.length≤(bY l).length:=by
  have h1:=aEC l (k+1)
  rw [JS h] at h1
  simp at h1;omega
theorem R8{l:List aS}{s:aS}(h:s∈l):s.Rows.length≤(bY l).length:=by
  obtain⟨k,hk,rfl⟩:=ON.1 h
  exact aPM l hk
theorem JT{l:List aS}(h:(bY l).length≤1073741824)(hl:l.length≤maxLen):A2 l=some (bY l):=by
  unfold A2
  have k1:loop (vD l) ([],0)=some (bY l):=by
    refine gD (f:=vD l) l.length (fun k=>(bY (l.take k),(k:Int))) _ (fun k hk=>?_) ?_
    · have h1:=aEC l (k+1)
      rw [JS hk] at h1
      simp only [vD]
      rw [if_pos (by simp;omega),aR hk]
      simp only [aG]
      rw [aO (by simp at h1;omega),JS hk,iZ (pK hk hl)]
    · simp [vD]
  rw [k1];rfl
def mK(h:Int):Prop:=(32≤h∧h≤223)∧h % 32 < 24
instance (h:Int):Decidable (mK h):=by unfold mK;infer_instance
theorem eB(h:Int):gT h=some (decide (mK h)):=by
  unfold gT wU mK
  rw [b7]
  by_cases q:32≤h∧h≤223
  · simp [q,y6 (show 0≤h by omega)]
  · simp [q]
theorem iU(h:Int):gR h=some (decide (mK h)):=by
  unfold gR mF mK
  rw [eA]
  by_cases q:32≤h∧h≤223
  · simp [q,y6 (show 0≤h by omega)]
  · simp [q]
theorem mK.mod{h:Int}(q:mK h):Int.tmod h 32=h % 32∧0≤h % 32∧h % 32≤23:=by
  unfold mK at q
  exact⟨y6 (by omega),by omega,by omega⟩
theorem dC(h:Int):fB h=some (if mK h then h % 32 else -1):=by
  unfold fB
  rw [eB]
  by_cases q:mK h
  · simp [q,q.mod.1]
  · simp [q]
def y9(r:c9):Prop:=mK r.Handle∧0≤r.aL∧r.aL≤100000
instance (r:c9):Decidable (y9 r):=by unfold y9;infer_instance
def mV(r:c9):Int:=r.Handle % 32
def qT(l:List aS):Prop:=l.length=3∧(bY l).length≤24∧(∀r∈bY l,y9 r)∧((bY l).map mV).Nodup
instance (l:List aS):Decidable (qT l):=by unfold qT;infer_instance
def rowAt(l:List c9)(k:Nat):c9:=l.getD k ⟨0,0⟩
theorem R9{l:List c9}{k:Nat}(h:k < l.length):rowAt l k=l[k]:=by
  unfold rowAt;rw [iX,eI h];rfl
theorem aAV{l:List aS}(h:(bY l).length≤1073741824)(hl:l.length≤maxLen):ID l=some (decide (qT l)):=by
  unfold ID zV
  rw [JT h hl]
  simp only [aG]
  by_cases h3:l.length=3
  · have n1:((l.length:Int) != 3)=false:=by simp;omega
    simp only [n1,aN,if_false]
    by_cases h24:(bY l).length≤24
    · rw [if_neg (by simp;omega)]
      have hst:∀k,k < (bY l).length→sM (bY l) (((bY l).take k).map mV,(k:Int))=if y9 (rowAt (bY l) k)∧mV (rowAt (bY l) k)∉((bY l).take k).map mV then some (.next (((bY l).take (k+1)).map mV,((k+1:Nat):Int))) else some (.stop (Out.ret false)):=by
        intro k hk
        simp only [sM,sL]
        rw [if_pos (by simp;omega),aR hk,R9 hk]
        simp only [aG,dC,b7]
        by_cases q:mK (bY l)[k].Handle
        · have hm:=q.mod
          rw [if_pos q,if_neg (by simp;omega)]
          by_cases q2:0≤(bY l)[k].aL∧(bY l)[k].aL≤100000
          · rw [bD q2]
            simp only [dA,aN,if_false]
            rw [L7 (by simp [maxLen];omega)]
            simp only [aG]
            by_cases q3:(bY l)[k].Handle % 32∈((bY l).take k).map mV
            · rw [bD q3];simp only [if_true];rw [if_neg (show ¬(y9 (bY l)[k]∧mV (bY l)[k]∉((bY l).take k).map mV) from fun x=>x.2 q3)]
            · rw [bQ q3]
              simp only [aN,if_false]
              rw [if_pos (show y9 (bY l)[k]∧mV (bY l)[k]∉((bY l).take k).map mV from ⟨⟨q,q2⟩,q3⟩),aO (by simp;omega),aP (by omega) (by omega),map_take _ hk];rfl
          · rw [bQ q2]
            simp only [iN,if_true]
            rw [if_neg (fun x:y9 _∧_=>q2 x.1.2)]
        · rw [if_neg q,if_pos (by simp),if_neg (fun x:y9 _∧_=>q x.1.1)];rfl
      have key:=vZ (f:=sM (bY l)) (bY l).length (fun k=>(((bY l).take k).map mV,(k:Int))) (fun k=>y9 (rowAt (bY l) k)∧mV (rowAt (bY l) k)∉((bY l).take k).map mV) (Out.brk ()) (Out.ret false) (fun k hk hx=>by rw [hst k hk,if_pos hx]) (fun k hk hx=>by rw [hst k hk,if_neg hx]) (by simp [sM])
      rw [YO,List.map_nil,show((0:Nat):Int)=0 from rfl] at key
      rw [key]
      have hiff:qT l↔∀k,k < (bY l).length→y9 (rowAt (bY l) k)∧mV (rowAt (bY l) k)∉((bY l).take k).map mV:=by
        constructor
        · rintro⟨_,_,q1,q2⟩ k hk
          rw [R9 hk]
          refine⟨q1 _ (dP hk),?_⟩
          have:=(OC _).1 q2 k (by simpa using hk)
          rw [List.getElem_map,←List.map_take] at this
          exact this
        · intro q
          refine⟨h3,h24,fun x hx=>?_,(OC _).2 fun k hk=>?_⟩
          · obtain⟨k,hk,rfl⟩:=ON.1 hx
            have:=(q k hk).1;rw [R9 hk] at this;exact this
          · have hk':k < (bY l).length:=by simpa using hk
            have:=(q k hk').2;rw [R9 hk'] at this
            rw [List.getElem_map,←List.map_take];exact this
      by_cases q:qT l
      · rw [if_pos (hiff.1 q),bD q];rfl
      · rw [if_neg (fun x=>q (hiff.2 x)),bQ q];rfl
    · rw [if_pos (by simp;omega),bQ (fun q:qT l=>h24 q.2.1)]
  · have n1:((l.length:Int) != 3)=true:=by simp;omega
    simp only [n1,if_true]
    rw [bQ (fun q:qT l=>h3 q.1)]
def goR:List Bool→List c9→Option (List Bool)
  | met,[]=>some met
  | met,r :: t=>if y9 r∧met.getD (mV r).toNat true=false then goR (met.set (mV r).toNat true) t else none
theorem aOP:∀{xs:List c9} {met m:List Bool},goR met xs=some m→m.length=met.length
  | [],met,m,h=>by simp [goR] at h;rw [h]
  | x :: r, met, m, h => by
    simp only [goR] at h
    split at h
    · have:=aOP h;simpa using this
    · cases h
theorem aED:∀(a b:List c9) (met:List Bool),goR met (a++b)=(goR met a).bind fun m=>goR m b
  | [],b,met=>rfl
  | x :: r, b, met => by
    simp only [YI,goR]
    split
    · exact aED r b _
    · rfl
theorem aKT:∀(xs:List c9) (met:List Bool),(goR met xs).isSome=true↔(∀r∈xs,y9 r)∧(y8 met (xs.map mV)).isSome=true
  | [],met=>by simp [goR,y8]
  | x :: r, met => by
    simp only [goR,DX,y8]
    by_cases h:y9 x
    · have hm:=h.1.mod
      have hs:0≤mV x∧mV x≤23:=hm.2
      by_cases h2:met.getD (mV x).toNat true=false
      · rw [if_pos ⟨h,h2⟩,if_pos ⟨hs,h2⟩,aKT r _]
        simp [h]
      · rw [if_neg (fun q=>h2 q.2),if_neg (fun q=>h2 q.2)];simp
    · rw [if_neg (fun q=>h q.1)]
      constructor
      · intro q;cases q
      · rintro⟨q,_⟩;exact(h (q x YM)).elim
theorem aPN{s:aS}(hl:s.Rows.length≤maxLen):∀d k (met:List Bool),k+d=s.Rows.length→met.length=24→loop (lC s) ((k:Int),met)=some (aIV (goR met (s.Rows.drop k))):=by
  intro d
  induction d with
  | zero =>
    intro k met hk hm
    rw [bM (r:=Out.brk met) (by simp [lC];omega),List.drop_eq_nil_of_le (by omega)];rfl
  | succ d ih =>
    intro k met hk hm
    have hk':k < s.Rows.length:=by omega
    have hd:s.Rows.drop k=s.Rows[k] :: s.Rows.drop (k+1):=J8 hk'
    have hst:lC s ((k:Int),met)=if y9 s.Rows[k]∧met.getD (mV s.Rows[k]).toNat true=false then some (.next (((k+1:Nat):Int),met.set (mV s.Rows[k]).toNat true)) else some (.stop (Out.ret false)):=by
      simp only [lC]
      rw [if_pos (by simp;omega),aR hk']
      simp only [aG,iU,eA]
      generalize s.Rows[k]=x
      by_cases q:mK x.Handle
      · by_cases q2:0≤x.aL∧x.aL≤100000
        · have hm2:=q.mod
          obtain⟨j,hj0⟩:=aQE hm2.2.1
          have hj:j < met.length:=by omega
          have e:met.getD j true=met[j]:=by rw [iX,eI hj];rfl
          have hr:y9 x:=⟨q,q2⟩
          simp only [q,q2,and_self,decide_true,dA,aN,if_false,jC,hm2.1,hj0,K9,hr,true_and,mV,e]
          rw [aO (by omega),aR hj]
          simp only [aG]
          cases met[j]
          · simp only [aN,if_false,if_true]
            rw [aO (by omega),iZ (pK hk' hl)]
          · simp
        · rw [bD q,bQ q2];simp only [dA,iN,aN,if_false,if_true,jC];rw [if_neg (fun y:y9 x∧_=>q2 y.1.2)]
      · rw [bQ q];simp only [iN,if_true,jC];rw [if_neg (fun y:y9 x∧_=>q y.1.1)]
    rw [hd,goR]
    by_cases q:y9 s.Rows[k]∧met.getD (mV s.Rows[k]).toNat true=false
    · rw [if_pos q] at hst ⊢
      rw [bX hst,ih (k+1) _ (by omega) (by simpa using hm)]
    · rw [if_neg q] at hst ⊢
      rw [bM hst];rfl
theorem aPO{l:List aS}(hn:l.length≤1000)(hs:∀s∈l,s.Rows.length≤maxLen):∀d k (met:List Bool),k+d=l.length→met.length=24 →
    loop (lD l) ((k:Int),met)=some (if (goR met (bY (l.drop k))).isSome=true then Out.brk () else Out.ret false):=by
  intro d
  induction d with
  | zero =>
    intro k met hk hm
    rw [List.drop_eq_nil_of_le (by omega),if_pos (show(goR met (bY [])).isSome=true from rfl)]
    refine bM ?_
    simp only [lD]
    rw [if_neg (by simp;omega)]
  | succ d ih =>
    intro k met hk hm
    have hk':k < l.length:=by omega
    have hd:l.drop k=l[k] :: l.drop (k+1):=J8 hk'
    have hsk:=hs _ (dP hk')
    have hf:bY (l.drop k)=l[k].Rows++bY (l.drop (k+1)):=by unfold bY;rw [hd,List.flatMap_cons]
    have h4:=aPN hsk _ 0 met (HA _) hm
    rw [show((0:Nat):Int)=0 from rfl,BH] at h4
    have hst:lD l ((k:Int),met)=(match goR met l[k].Rows with | some m=>some (.next (((k+1:Nat):Int),m)) | none=>some (.stop (Out.ret false))):=by
      simp only [lD]
      rw [if_pos (by simp;omega),aR hk']
      simp only [aG]
      rw [h4]
      cases goR met l[k].Rows with
      | none=>rfl
      | some m=>simp only [aG,aIV,OX,zJ];rw [aP (by omega) (by omega)];rfl
    rw [hf,aED]
    cases hg:goR met l[k].Rows with
    | none =>
      rw [hg] at hst
      rw [bM hst,if_neg (by simp)]
    | some m =>
      rw [hg] at hst
      rw [bX hst,ih (k+1) m (by omega) (by rw [aOP hg];exact hm)]
      simp only [aG]
theorem WH{l:List aS}(hn:l.length≤1000)(h:(bY l).length≤1073741824):uP l=some ((bY l).length:Int):=by
  unfold uP
  have key:loop (i5 l) (0,0)=some ((bY l).length:Int):=by
    refine gD (f:=i5 l) l.length (fun k=>(((bY (l.take k)).length:Int),(k:Int))) _ (fun k hk=>?_) ?_
    · have h1:=aEC l (k+1)
      rw [JS hk,G9] at h1
      simp only [i5]
      rw [if_pos (by simp;omega),aR hk]
      simp only [aG]
      rw [aP (by omega) (by omega),aP (by omega) (by omega),JS hk,G9]
      simp
    · simp [i5]
  rw [key];rfl
theorem AB{l:List aS}(h:(bY l).length≤1073741824):lU l=some (decide (qT l)):=by
  unfold lU
  by_cases h3:l.length=3
  · have n1:((l.length:Int) != 3)=false:=by simp;omega
    have hb:(1073741824:Nat)≤maxLen:=by simp [maxLen]
    simp only [n1,aN,if_false]
    have key:=aPO (l:=l) (by omega) (fun s hs=>by have:=R8 hs;omega) l.length 0 [false,false,false,false,false,false,false,false,false,false,false,false,false,false,false,false,false,false,false,false,false,false,false,false] (by omega) rfl
    rw [show((0:Nat):Int)=0 from rfl,BH] at key
    rw [key]
    have hm0:∀j:Nat,j < 24→[false,false,false,false,false,false,false,false,false,false,false,false,false,false,false,false,false,false,false,false,false,false,false,false].getD j true=false:=by decide
    have hiff:qT l↔(bY l).length≤24∧(goR [false,false,false,false,false,false,false,false,false,false,false,false,false,false,false,false,false,false,false,false,false,false,false,false] (bY l)).isSome=true:=by
      rw [aKT,UH _ _ rfl]
      have hr:(∀r∈bY l,y9 r)→∀x∈(bY l).map mV,0≤x∧x≤23:=by
        intro q x hx
        obtain⟨r,hr,rfl⟩:=List.mem_map.1 hx
        exact(q r hr).1.mod.2
      constructor
      · rintro⟨_,q1,q2,q3⟩
        exact⟨q1,q2,hr q2,q3,fun x hx=>hm0 _ (by have:=hr q2 x hx;omega)⟩
      · rintro⟨q1,q2,_,q3,_⟩
        exact⟨h3,q1,q2,q3⟩
    by_cases q:(goR [false,false,false,false,false,false,false,false,false,false,false,false,false,false,false,false,false,false,false,false,false,false,false,false] (bY l)).isSome=true
    · rw [if_pos q]
      simp only [aG,OY,zI]
      rw [WH (by omega) h]
      simp only [aG]
      congr 1
      rw [J1];simp only [decide_eq_true_eq]
      rw [hiff]
      exact⟨fun a=>⟨by omega,q⟩,fun a=>by omega⟩
    · rw [if_neg q,bQ (fun x=>q (hiff.1 x).2)];rfl
  · have n1:((l.length:Int) != 3)=true:=by simp;omega
    simp only [n1,if_true]
    rw [bQ (fun q:qT l=>h3 q.1)]
def dL(h:Int):Prop:=h=0∨mK h
instance (h:Int):Decidable (dL h):=by unfold dL;infer_instance
def J6(z:List Int):Prop:=z.length=3∧∀h∈z,dL h
instance (z:List Int):Decidable (J6 z):=by unfold J6;infer_instance
theorem zA{z:List Int}(hl:z.length≤maxLen):EB z=some (decide (J6 z)):=by
  unfold EB
  have hst:∀k (hk:k < z.length),yX z (k:Int)=if dL z[k] then some (.next ((k+1:Nat):Int)) else some (.stop (Out.ret false)):=by
    intro k hk
    simp only [yX,E7]
    rw [if_pos (by simp;omega),aR hk,iZ (pK hk hl)]
    simp only [aG,eB]
    generalize z[k]=x
    by_cases q:x=0
    · have n:(x != 0)=false:=by simp only [bne_eq_false_iff_eq];exact q
      rw [n,if_pos (show dL x from .inl q)];rfl
    · have n:(x != 0)=true:=by simp only [bne_iff_ne];exact q
      by_cases q2:mK x
      · rw [n,bD q2,if_pos (show dL x from .inr q2)];rfl
      · rw [n,bQ q2,if_neg (fun a:dL x=>a.elim q q2)];rfl
  have key:=jT (f:=yX z) z (fun k=>(k:Int)) dL (Out.brk ()) (Out.ret false) (fun k hk hx=>by rw [hst k hk,if_pos hx]) (fun k hk hx=>by rw [hst k hk,if_neg hx]) (by simp [yX])
  rw [show((0:Nat):Int)=0 from rfl] at key
  rw [key]
  by_cases q:∀x∈z,dL x
  · rw [if_pos q]
    have:J6 z↔z.length=3:=⟨fun a=>a.1,fun a=>⟨a,q⟩⟩
    simp only [aG,S6,S5,this]
    congr 1;rw [J1];simp only [beq_iff_eq,decide_eq_true_eq];omega
  · rw [if_neg q,bQ (fun a:J6 z=>q a.2)];rfl
theorem L9{z:List Int}(hl:z.length≤maxLen):D7 z=some (decide (J6 z)):=by
  unfold D7 EX
  have e:(fun y0=>HQ y0)=fun y:Int=>some (!decide (dL y)):=by
    funext y
    unfold HQ qX uQ
    rw [iU]
    by_cases q:y=0
    · have n:(y == 0)=true:=by simp only [beq_iff_eq];exact q
      rw [n,bD (show dL y from .inl q)];rfl
    · have n:(y == 0)=false:=by simp only [beq_eq_false_iff_ne];exact q
      by_cases q2:mK y
      · rw [n,bD q2,bD (show dL y from .inr q2)];rfl
      · rw [n,bQ q2,bQ (fun a:dL y=>a.elim q q2)];rfl
  rw [e,DN hl,FL]
  by_cases h3:z.length=3
  · have n:((z.length:Int) == 3)=true:=by simp;omega
    have:J6 z↔∀h∈z,dL h:=⟨fun a=>a.2,fun a=>⟨h3,a⟩⟩
    simp only [n,if_true,aG,Bool.not_not,this]
  · have n:((z.length:Int) == 3)=false:=by simp;omega
    simp only [n,aN,if_false]
    rw [bQ (fun a:J6 z=>h3 a.1)]
end Go.Gv
end
noncomputable section
namespace Go.Gv
theorem JU{α:Type}(l:List α)(f:α→Bool){body:Int→Option (Step Int (Out Unit Int))}(hb:∀k (hk:k < l.length),body (k:Int)=if f l[k] then some (.stop (.ret (k:Int))) else some (.next ((k+1:Nat):Int)))(he:body (l.length:Int)=some (.stop (.brk ()))) :
    ∃o,loop body 0=some o∧match o with | .brk _=>l.any f=false | .ret r=>0≤r∧l.any f=true:=by
  have key:=aPK (f:=body) l.length (fun k=>(k:Int)) (fun k=>if (l.drop k).any f then Out.ret ((k+(l.drop k).findIdx f:Nat):Int) else Out.brk ()) (fun k hk=>by
    by_cases h:k < l.length
    · have hd:l.drop k=l[k] :: l.drop (k+1):=J8 h
      rw [hb k h,hd]
      simp only [List.any_cons,List.findIdx_cons]
      by_cases h4:f l[k]=true
      · left;simp [h4]
      · right
        have h4:f l[k]=false:=by simpa using h4
        refine⟨h,by simp [h4],?_⟩
        simp only [h4,Bool.false_or,cond_false]
        congr 2;omega
    · left
      obtain rfl:k=l.length:=by omega
      rw [he];simp) 0 (xL _)
  rw [show((0:Nat):Int)=0 from rfl,BH] at key
  refine⟨_,key,?_⟩
  by_cases h:l.any f=true
  · rw [if_pos h];exact⟨by omega,h⟩
  · rw [if_neg h];simpa using h
theorem TN{l:List c9}(hl:l.length≤maxLen)(f:c9→Bool):iG l (fun x=>some (f x))=some (l.any f):=by
  obtain⟨o,e,h⟩:=JU l f (body:=jZ l (fun x=>some (f x))) (fun k hk=>by
    simp only [jZ]
    rw [if_pos (by simp;omega),aR hk,iZ (pK hk hl)];rfl) (by simp [jZ])
  unfold iG tN
  rw [e]
  cases o with
  | brk u=>simp only at h;simp [oO,yH,h]
  | ret r=>simp only at h;simp [oO,h]
theorem RJ{l:List aS}(hl:l.length≤maxLen)(f:aS→Bool)(g:aS→Option Bool)(hg:∀x∈l,g x=some (f x)):hQ l g=some (l.any f):=by
  obtain⟨o,e,h⟩:=JU l f (body:=jK l g) (fun k hk=>by
    simp only [jK]
    rw [if_pos (by simp;omega),aR hk,iZ (pK hk hl)]
    simp only [aG,hg _ (dP hk)]) (by simp [jK])
  unfold hQ rE
  rw [e]
  cases o with
  | brk u=>simp only at h;simp [m0,xN,h]
  | ret r=>simp only at h;simp [m0,h]
theorem RK{l:List aK}(hl:l.length≤maxLen)(f:aK→Bool)(g:aK→Option Bool)(hg:∀x∈l,g x=some (f x)):hU l g=some (l.any f):=by
  obtain⟨o,e,h⟩:=JU l f (body:=jL l g) (fun k hk=>by
    simp only [jL]
    rw [if_pos (by simp;omega),aR hk,iZ (pK hk hl)]
    simp only [aG,hg _ (dP hk)]) (by simp [jL])
  unfold hU rF
  rw [e]
  cases o with
  | brk u=>simp only at h;simp [m3,xO,h]
  | ret r=>simp only at h;simp [m3,h]
theorem contains_eq{l:List Int}(hl:l.length≤maxLen)(v:Int):o8 l v=some (decide (v∈l)):=by
  obtain⟨o,e,h⟩:=JU l (fun x=>v == x) (body:=eN l v) (fun k hk=>by
    simp only [eN]
    rw [if_pos (by simp;omega),aR hk,iZ (pK hk hl)];rfl) (by simp [eN])
  have ha:l.any (fun x=>v == x)=decide (v∈l):=by
    rw [J1];simp
  rw [ha] at h
  unfold o8 mG
  rw [e]
  cases o with
  | brk u=>simp only at h;simp [o7,HH,h]
  | ret r=>simp only at h;simp [o7,h]
theorem SA{l:List aK}{x:Int}:x∈dD l↔∃s∈l,x∈s.aM:=SP
noncomputable section
variable {m:Mem} (hsh:eZ m.aE) (hl:(eT m.aB).length≤1073741824) (hg:m.aB.Global.length≤maxLen) (ho:m.aB.Own.length≤maxLen)
include hl hg ho
theorem aEE(s:Int):KS m.aB s=some (decide (s∈eT m.aB)):=by
  have hb:(1073741824:Nat)≤maxLen:=by simp [maxLen]
  unfold KS
  rw [TL hl hg ho]
  simp only [aG]
  rw [L7 (by omega)];rfl
theorem RL(s:Int):F5 m.aB s=some (decide (s∈eT m.aB)):=by
  have hb:(1073741824:Nat)≤maxLen:=by simp [maxLen]
  have hal:=qS m.aB
  have e1:∀x∈m.aB.Global,oP x s=some (decide (s∈x.aM)):=fun x hx=>by
    have:=GF hx
    unfold oP;rw [contains_eq (by omega)];rfl
  have e2:∀x∈m.aB.Own,oP x s=some (decide (s∈x.aM)):=fun x hx=>by
    have:=GF hx
    unfold oP;rw [contains_eq (by omega)];rfl
  unfold F5 B5
  rw [RK hg (fun x=>decide (s∈x.aM)) _ e1,RK ho (fun x=>decide (s∈x.aM)) _ e2]
  have a1:(m.aB.Global.any fun x=>decide (s∈x.aM))=decide (s∈dD m.aB.Global):=by
    rw [J1];simp [SA]
  have a2:(m.aB.Own.any fun x=>decide (s∈x.aM))=decide (s∈dD m.aB.Own):=by
    rw [J1];simp [SA]
  rw [a1,a2]
  simp only [aG,eT,gK]
  by_cases q:s∈dD m.aB.Global <;> simp [q]
def l6(m:Mem)(s:Int):Int:=if bG m.aE s < 0 then 0 else if s∈eT m.aB then 1 else if 6 < mJ m.aE s then 2 else 3
include hsh
theorem aAW(s:Int):IB m s=some (l6 m s):=by
  unfold IB l6
  rw [iL hsh,aEE hl hg ho]
  simp only [aG]
  by_cases q:bG m.aE s < 0
  · simp [q]
  · rw [oV hsh (by omega)]
    by_cases q2:s∈eT m.aB
    · simp [q,q2]
    · by_cases q3:6 < mJ m.aE s <;> simp [q,q2,q3]
theorem aAX(s:Int):HR m s=some (l6 m s):=by
  unfold HR l6
  rw [lJ hsh,RL hl hg ho]
  simp only [aG]
  by_cases q:bG m.aE s < 0
  · simp [q]
  · rw [FN hsh (by omega)]
    by_cases q2:s∈eT m.aB
    · simp [q,q2]
    · by_cases q3:6 < mJ m.aE s <;> simp [q,q2,q3]
def qU(m:Mem)(h:Int):Prop:=mK h∧l6 m (h % 32)=3∧mJ m.aE (h % 32)=h / 32
instance (m:Mem) (h:Int):Decidable (qU m h):=by unfold qU;infer_instance
omit hl hg ho hsh in
theorem BA{m:Mem}{s:Int}(h:l6 m s=3):0≤bG m.aE s:=by
  unfold l6 at h
  split at h
  · omega
  · omega
theorem sP(h:Int):wV m h=some (decide (qU m h)):=by
  unfold wV sI
  rw [eB,dC]
  by_cases q:mK h
  · have hm:=q.mod
    rw [bD q,if_pos q]
    simp only [aG,if_true,aAW hsh hl hg ho]
    by_cases q2:l6 m (h % 32)=3
    · have n:(l6 m (h % 32) == 3)=true:=by simpa using q2
      have eg:CS h=some (h / 32):=by
        unfold CS
        unfold mK at q
        rw [eB,bD (show mK h from q),GD (by omega),aP (by omega) (by omega)];rfl
      rw [n,oV hsh (BA q2),eg]
      simp only [if_true,aG]
      congr 1;rw [J1];simp only [beq_iff_eq,decide_eq_true_eq]
      exact⟨fun a=>⟨q,q2,a⟩,fun a=>a.2.2⟩
    · have n:(l6 m (h % 32) == 3)=false:=by simpa using q2
      rw [n,bQ (fun a:qU m h=>q2 a.2.1)];rfl
  · rw [bQ q,bQ (fun a:qU m h=>q a.1)];rfl
theorem JV(h:Int):AZ m h=some (decide (qU m h)):=by
  unfold AZ uR
  rw [iU]
  by_cases q:mK h
  · have hm:=q.mod
    rw [bD q,hm.1]
    simp only [aG,if_true,aAX hsh hl hg ho]
    by_cases q2:l6 m (h % 32)=3
    · have n:(l6 m (h % 32) == 3)=true:=by simpa using q2
      have eg:aV (Int.tdiv h 32)=h / 32:=by
        unfold mK at q
        rw [GD (by omega),aP (by omega) (by omega)]
      rw [n,FN hsh (BA q2),eg]
      simp only [if_true,aG]
      congr 1;rw [J1];simp only [beq_iff_eq,decide_eq_true_eq]
      exact⟨fun a=>⟨q,q2,a⟩,fun a=>a.2.2⟩
    · have n:(l6 m (h % 32) == 3)=false:=by simpa using q2
      rw [n,bQ (fun a:qU m h=>q2 a.2.1)];rfl
  · rw [bQ q,bQ (fun a:qU m h=>q a.1)];rfl
end
def xJ(b:aD)(r:c9):Prop:=qU b.Mem r.Handle∧r.aL≤b.aH.aL
instance (b:aD) (r:c9):Decidable (xJ b r):=by unfold xJ;infer_instance
def sQ(b:aD):Prop:=(tK b.Mem∧PN b.aH∧qT b.aU∧J6 b.mA)∧∀r∈bY b.aU,xJ b r
instance (b:aD):Decidable (sQ b):=by unfold sQ;infer_instance
def JW(b:aD):Prop:=xW b.Mem∧b.aH.bO.length≤1048576∧b.aU.length≤1048576∧(bY b.aU).length≤1048576∧b.mA.length≤1048576
theorem JW.rows{b:aD}(h:JW b):∀s∈b.aU,s.Rows.length≤1048576:=fun s hs=>by
  have:=R8 hs;have:=h.2.2.2.1;omega
noncomputable section
variable {b:aD} (hf:b.Mem.aE.Bytes.length≤maxLen∧(eT b.Mem.aB).length≤1073741824∧b.aH.bO.length≤maxLen∧b.aU.length≤maxLen∧(bY b.aU).length≤1073741824∧b.mA.length≤maxLen)
include hf
theorem aEF:KT b=some (decide (sQ b)):=by
  obtain⟨f1,f2,f3,f4,f5,f6⟩:=hf
  unfold KT pZ
  rw [L8 f1 f2,iM,aAV f5 f4,zA f6]
  by_cases q1:tK b.Mem
  · by_cases q2:PN b.aH
    · by_cases q3:qT b.aU
      · by_cases q4:J6 b.mA
        · have hg:b.Mem.aB.Global.length≤maxLen:=by rw [q1.1.2.1];simp [maxLen]
          have ho:b.Mem.aB.Own.length≤maxLen:=by rw [q1.1.2.2.1];simp [maxLen]
          have hmx:(1073741824:Nat)≤maxLen:=by simp [maxLen]
          simp only [bD q1,bD q2,bD q3,bD q4,aG,dA,aN,if_false]
          rw [JT f5 f4]
          simp only [aG]
          have hst:∀k (hk:k < (bY b.aU).length),vF b (bY b.aU) (k:Int)=if xJ b (bY b.aU)[k] then some (.next ((k+1:Nat):Int)) else some (.stop (Out.ret false)):=by
            intro k hk
            simp only [vF,CT]
            rw [if_pos (by simp;omega),aR hk,iZ (show k < maxLen by omega)]
            generalize (bY b.aU)[k]=r
            simp only [aG,sP q1.1.1.1 f2 hg ho]
            by_cases a1:qU b.Mem r.Handle
            · rw [bD a1]
              simp only [dA,aN,if_false]
              by_cases a2:r.aL≤b.aH.aL
              · rw [if_neg (by simp;omega),if_pos ⟨a1,a2⟩]
              · rw [if_pos (by simp;omega),if_neg (fun x=>a2 x.2)]
            · rw [bQ a1]
              simp only [iN,if_true]
              rw [if_neg (fun x=>a1 x.1)]
          have key:=jT (f:=vF b (bY b.aU)) (bY b.aU) (fun k=>(k:Int)) (xJ b) (Out.brk ()) (Out.ret false) (fun k hk hx=>by rw [hst k hk,if_pos hx]) (fun k hk hx=>by rw [hst k hk,if_neg hx]) (by simp [vF])
          rw [show((0:Nat):Int)=0 from rfl] at key
          rw [key]
          by_cases q:∀r∈bY b.aU,xJ b r
          · rw [if_pos q,bD (show sQ b from ⟨⟨q1,q2,q3,q4⟩,q⟩)];rfl
          · rw [if_neg q,bQ (fun x:sQ b=>q x.2)];rfl
        · rw [bQ (fun x:sQ b=>q4 x.1.2.2.2),bD q1,bD q2,bD q3,bQ q4];rfl
      · rw [bQ (fun x:sQ b=>q3 x.1.2.2.1),bD q1,bD q2,bQ q3];rfl
    · rw [bQ (fun x:sQ b=>q2 x.1.2.1),bD q1,bQ q2];rfl
  · rw [bQ (fun x:sQ b=>q1 x.1.1),bQ q1];rfl
theorem aEG:KN b=some (decide (sQ b)):=by
  obtain⟨f1,f2,f3,f4,f5,f6⟩:=hf
  unfold KN pR
  rw [TM f1 f2,sO f3,AB f5,L9 f6]
  by_cases q1:tK b.Mem
  · by_cases q2:PN b.aH
    · by_cases q3:qT b.aU
      · by_cases q4:J6 b.mA
        · have hg:b.Mem.aB.Global.length≤maxLen:=by rw [q1.1.2.1];simp [maxLen]
          have ho:b.Mem.aB.Own.length≤maxLen:=by rw [q1.1.2.2.1];simp [maxLen]
          have hmx:(1073741824:Nat)≤maxLen:=by simp [maxLen]
          simp only [bD q1,bD q2,bD q3,bD q4,aG,dA,aN,if_false]
          have e1:(fun y0=>zK y0 b)=fun r:c9=>some (!decide (xJ b r)):=by
            funext r
            unfold zK rG
            rw [JV q1.1.1.1 f2 hg ho]
            by_cases a1:qU b.Mem r.Handle
            · by_cases a2:r.aL≤b.aH.aL
              · rw [bD a1,bD (show xJ b r from ⟨a1,a2⟩),bQ (show ¬b.aH.aL < r.aL by omega)];rfl
              · rw [bD a1,bQ (fun x:xJ b r=>a2 x.2),bD (show b.aH.aL < r.aL by omega)];rfl
            · rw [bQ a1,bQ (fun x:xJ b r=>a1 x.1)];rfl
          have e2:∀l∈b.aU,(fun y0=>EY y0 b) l=some (!decide (∀r∈l.Rows,xJ b r)):=fun l hl=>by
            have:=R8 hl
            simp only [EY]
            rw [e1,TN (by omega),FL];rfl
          rw [RJ f4 _ _ e2,FL]
          have hiff:sQ b↔∀l∈b.aU,∀r∈l.Rows,xJ b r:=by
            constructor
            · intro x l hl r hr
              exact x.2 r (SP.2 ⟨l,hl,hr⟩)
            · intro x
              refine⟨⟨q1,q2,q3,q4⟩,fun r hr=>?_⟩
              obtain⟨l,hl,hr⟩:=SP.1 hr
              exact x l hl r hr
          simp only [aG,Bool.not_not,hiff]
        · rw [bQ (fun x:sQ b=>q4 x.1.2.2.2),bD q1,bD q2,bD q3,bQ q4];rfl
      · rw [bQ (fun x:sQ b=>q3 x.1.2.2.1),bD q1,bD q2,bQ q3];rfl
    · rw [bQ (fun x:sQ b=>q2 x.1.2.1),bD q1,bQ q2];rfl
  · rw [bQ (fun x:sQ b=>q1 x.1.1),bQ q1];rfl
end
end Go.Gv
end
noncomputable section
namespace Go.Gv
theorem RM{α:Type}{f:(List α×Int)→Option (Step (List α×Int) (List α))}(l:List α)
    (h:∀k (hk:k < l.length),f (l.take k,(k:Int))=some (.next (l.take k ++ [l[k]],((k+1:Nat):Int)))) (he:f (l,(l.length:Int))=some (.stop l)):loop f ([],0)=some l:=by
  have:=gD (f:=f) l.length (fun k=>(l.take k,(k:Int))) l (fun k hk=>by rw [h k hk,SQ hk]) (by rw [IV];exact he)
  simpa using this
theorem aHD{α:Type}{f:(Int×List α)→Option (Step (Int×List α) (List α))}(l:List α)
    (h:∀k (hk:k < l.length),f ((k:Int),l.take k)=some (.next (((k+1:Nat):Int),l.take k ++ [l[k]]))) (he:f ((l.length:Int),l)=some (.stop l)):loop f (0,[])=some l:=by
  have:=gD (f:=f) l.length (fun k=>((k:Int),l.take k)) l (fun k hk=>by rw [h k hk,SQ hk]) (by rw [IV];exact he)
  simpa using this
theorem xK{l:List Int}(h:l.length≤1073741824):l9 l=some l:=by
  unfold l9;rw [aO (by simpa using h)];rfl
theorem oL{l:List Int}(h:l.length≤1073741824):fI l=some l:=by
  unfold fI;rw [aO (by simpa using h)];rfl
theorem aIY{l:List o5}(h:l.length≤1073741824):wF l=some l:=by
  unfold wF;rw [aO (by simpa using h)];rfl
theorem aGL{l:List c9}(h:l.length≤1073741824):tR l=some l:=by
  unfold tR;rw [aO (by simpa using h)];rfl
theorem aHE{l:List aK}(hl:l.length≤1048576)(hs:∀s∈l,s.aM.length≤1048576):F9 l=some l:=by
  unfold F9
  rw [RM l]
  · rfl
  · intro k hk
    have:=hs _ (dP hk)
    simp only [JA]
    rw [if_pos (by simp;omega),aR hk]
    simp only [aG]
    rw [xK (by omega),aG,aO (by simp;omega),aP (by omega) (by omega)];rfl
  · simp [JA]
theorem aGM{l:aB}(h1:l.Global.length≤1048576)(h2:l.Own.length≤1048576)(h3:∀s∈l.Global,s.aM.length≤1048576)(h4:∀s∈l.Own,s.aM.length≤1048576):KW l=some l:=by
  unfold KW;rw [aHE h1 h3,aHE h2 h4];rfl
theorem MA{l:aB}(h1:l.Global.length≤1048576)(h2:l.Own.length≤1048576)(h3:∀s∈l.Global,s.aM.length≤1048576)(h4:∀s∈l.Own,s.aM.length≤1048576):iF l=some l:=by
  unfold iF
  rw [aHD l.Global]
  · simp only [aG,KL,KK]
    rw [aHD l.Own]
    · rfl
    · intro k hk
      have:=h4 _ (dP hk)
      simp only [BU]
      rw [if_pos (by simp;omega),aR hk]
      simp only [aG]
      rw [oL (by omega),aG,aO (by simp;omega),BT,aP (by omega) (by omega)];rfl
    · simp [BU]
  · intro k hk
    have:=h3 _ (dP hk)
    simp only [BW]
    rw [if_pos (by simp;omega),aR hk]
    simp only [aG]
    rw [oL (by omega),aG,aO (by simp;omega),BV,aP (by omega) (by omega)];rfl
  · simp [BW]
theorem aIZ{h:aE}(h1:h.Bytes.length≤1048576)(h2:h.Class.length≤1048576):KV h=some h:=by
  unfold KV;rw [xK (by omega),xK (by omega)];rfl
theorem OD{h:aE}(h1:h.Bytes.length≤1048576)(h2:h.Class.length≤1048576):sU h=some h:=by
  unfold sU;rw [oL (by omega),oL (by omega)];rfl
theorem RN{m:Mem}(h:xW m):GA m=some m:=by
  have a:=aIZ h.1 h.2.1
  have b:=aGM h.2.2.1 h.2.2.2.1 h.WG.1 h.WG.2
  unfold GA;rw [a,b];rfl
theorem Y1{m:Mem}(h:xW m):BX m=some m:=by
  have a:=OD h.1 h.2.1
  have b:=MA h.2.2.1 h.2.2.2.1 h.WG.1 h.WG.2
  unfold BX;rw [a,b];rfl
theorem j7{c:aH}(h:c.bO.length≤1048576):oA c=some c:=by
  unfold oA;rw [aO (by simp;omega)];rfl
theorem zC{c:aH}(h:c.bO.length≤1048576):kC c=some c:=by
  unfold kC;rw [aIY (by omega)];rfl
theorem aGN{l:List aS}(hl:l.length≤1048576)(hs:∀s∈l,s.Rows.length≤1048576):IF l=some l:=by
  unfold IF
  rw [RM l]
  · rfl
  · intro k hk
    have:=hs _ (dP hk)
    simp only [GY]
    rw [if_pos (by simp;omega),aR hk]
    simp only [aG]
    rw [aO (by simp;omega),aO (by simp;omega),aP (by omega) (by omega)];rfl
  · simp [GY]
theorem MB{l:List aS}(hl:l.length≤1048576)(hs:∀s∈l,s.Rows.length≤1048576):kD l=some l:=by
  unfold kD
  rw [RM l]
  · rfl
  · intro k hk
    have:=hs _ (dP hk)
    simp only [BY]
    rw [if_pos (by simp;omega),aR hk]
    simp only [aG]
    rw [aGL (by omega),aG,aO (by simp;omega),aP (by omega) (by omega)];rfl
  · simp [BY]
theorem aI0{b:aD}(h:JW b):IG b=some b:=by
  have m:=RN h.1
  have c:=j7 h.2.1
  have l:=aGN h.2.2.1 h.rows
  have:=h.2.2.2.2
  unfold IG;rw [m,c,l,xK (by omega)];rfl
theorem aI1{b:aD}(h:JW b):ET b=some b:=by
  have m:=Y1 h.1
  have c:=zC h.2.1
  have l:=MB h.2.2.1 h.rows
  have:=h.2.2.2.2
  unfold ET;rw [m,c,l,oL (by omega)];rfl
end Go.Gv
end
noncomputable section
namespace Go.Gv
theorem jG(w:Int):eV w=some (decide (0≤w∧w≤2)):=by
  unfold eV;rw [eA];rfl
noncomputable section
variable {c:aH} (hc:PN c) {w:Int} (hw:0≤w∧w≤2)
include hc
theorem PN.small:c.bO.length≤1048576∧c.bO.length≤maxLen:=by
  have:=hc.2.1;simp only [maxLen];omega
theorem PN.aI2{k:Nat}{p:o5}(hp:POk c.aL p):PN ⟨c.aL,c.bO.set k p⟩:=⟨hc.1,by simpa using hc.2.1,fun q hq=>(oW hq).elim (hc.2.2 q) (fun e=>e ▸ hp)⟩
theorem PN.later(h:c.aL+1≤100000):PN ⟨c.aL+1,c.bO⟩:=by
  have h1:=hc.1
  exact⟨⟨by simp only;omega,h⟩,hc.2.1,fun q hq=>by
    obtain⟨a,b,d⟩:=hc.2.2 q hq
    exact⟨⟨a.1,by simp only;omega⟩,b,d⟩⟩
include hw
theorem X9:∃p,idx c.bO w=some p∧POk c.aL p:=by
  have h3:=hc.2.1
  rw [fL hw.1 (by omega)]
  exact⟨_,rfl,hc.2.2 _ (dP _)⟩
theorem aPP(e:Int):∃r,A3 c w e=some r∧KP c w e=some r∧PN r.1∧r.1.aL=c.aL:=by
  obtain⟨p,hp,h1,⟨hs0,hs1⟩,h2⟩:=X9 hc hw
  have h3:=hc.2.1
  unfold A3 KP
  rw [j7 hc.small.1,zC hc.small.1,iM,sO hc.small.2,jG,b7,bD hc,bD hw]
  simp only [aG,dA,aN,if_false,vG,CD,hp]
  cases h4:p.On
  · exact⟨_,rfl,rfl,hc,rfl⟩
  · cases h5:p.eW
    · by_cases h6:p.aL=e
      · simp only [mN,pU,h6,beq_self_eq_true,if_true,dA,aN,if_false]
        exact⟨_,rfl,rfl,hc,rfl⟩
      · have h6':(p.aL == e)=false:=by simpa using h6
        simp only [mN,pU,h6',dA,aN,if_false,hp,aG]
        by_cases h7:p.Seen=2
        · simp only [h7,beq_self_eq_true,if_true,show ¬((2:Int) < 2) by omega,decide_false,aN,if_false]
          exact⟨_,rfl,rfl,hc.aI2 ⟨h1,by simp,fun q=>by simp [h4] at q⟩,rfl⟩
        · have h7':(p.Seen == 2)=false:=by simpa using h7
          simp only [h7',show p.Seen < 2 by omega,decide_true,if_true,aN,if_false]
          have hw7:aV (p.Seen+1)=p.Seen+1:=aP (by omega) (by omega)
          exact⟨_,rfl,rfl,hc.aI2 ⟨h1,by simp only [hw7];omega,fun q=>by simp [h4] at q⟩,rfl⟩
    · exact⟨_,rfl,rfl,hc,rfl⟩
theorem aTF(e:Int):∃r,ED c w e=some r∧NW c w e=some r∧(PN r.1∧r.1.aL=c.aL)∧(r.2=false→r.1=c):=by
  obtain⟨p,hp,hpk⟩:=X9 hc hw
  have h3:=hc.2.1
  unfold ED NW
  rw [j7 hc.small.1,zC hc.small.1,iM,sO hc.small.2,jG,b7,b7,eA,bD hc,bD hw]
  simp only [aG,dA,aN,if_false,tE,yL,hp]
  by_cases h:0≤e∧e≤c.aL
  · simp only [bD h,dA,aN,if_false]
    exact⟨_,rfl,rfl,⟨hc.aI2 ⟨h,by simp,fun q=>by cases q⟩,rfl⟩,fun q=>by cases q⟩
  · simp only [bQ h,iN,if_true]
    exact⟨_,rfl,rfl,⟨hc,rfl⟩,fun _=>rfl⟩
omit hw in
theorem aV3(e:Int):∃r,IS c e=some r∧R7 c e=some r∧PN r.1∧c.aL≤r.1.aL:=by
  have h3:=hc.2.1
  unfold IS R7
  rw [j7 hc.small.1,zC hc.small.1,iM,sO hc.small.2,bD hc]
  simp only [aG,dA,aN,if_false,wZ,CE]
  by_cases h:c.aL=e
  · subst h
    simp only [bne_self_eq_false,aN,if_false]
    by_cases h:c.aL=100000
    · simp only [h,beq_self_eq_true,if_true];exact⟨_,rfl,rfl,hc,by simp [h]⟩
    · have h':(c.aL == 100000)=false:=by simpa using h
      have hE:=hc.1
      have hw7:aV (c.aL+1)=c.aL+1:=aP (by omega) (by omega)
      simp only [h',aN,if_false,hw7];exact⟨_,rfl,rfl,hc.later (by omega),by simp only;omega⟩
  · have h':(c.aL != e)=true:=by simpa using h
    simp only [h',if_true];exact⟨_,rfl,rfl,hc,Int.le_refl _⟩
end
theorem aYT{b:aD}(hc:PN b.aH){w:Int}(hw:0≤w∧w≤2)(s:Sub) :
    ∃x y,A5 b w s=some (x,y)∧wP s b w=some (y,x)∧∃cl,x=⟨b.Mem,cl,b.aU,b.mA⟩∧PN cl∧b.aH.aL≤cl.aL:=by
  obtain⟨r,e1,e2,h3,h4⟩:=aTF hc hw s.E
  unfold A5 wP
  rw [e1,e2]
  simp only [bK,bI,xU,aG]
  by_cases p0:s.Pc=0
  · simp only [p0,beq_self_eq_true,if_true];exact⟨_,_,rfl,rfl,_,rfl,hc,by omega⟩
  · have p0':(s.Pc == 0)=false:=by simpa using p0
    simp only [p0',aN,if_false]
    by_cases p1:s.Pc=1
    · simp only [p1,beq_self_eq_true,if_true]
      cases h:r.2
      · rw [h4 h];exact⟨_,_,rfl,rfl,_,rfl,hc,by omega⟩
      · exact⟨_,_,rfl,rfl,_,rfl,h3.1,by rw [h3.2];exact Int.le_refl _⟩
    · have p1':(s.Pc == 1)=false:=by simpa using p1
      simp only [p1',aN,if_false]
      by_cases p2:s.Pc=2
      · simp only [p2,beq_self_eq_true,if_true]
        by_cases q:b.aH.aL=s.E
        · simp only [q,beq_self_eq_true,if_true];exact⟨_,_,rfl,rfl,_,rfl,hc,by omega⟩
        · have q':(b.aH.aL == s.E)=false:=by simpa using q
          simp only [q',aN,if_false];exact⟨_,_,rfl,rfl,_,rfl,hc,by omega⟩
      · have p2':(s.Pc == 2)=false:=by simpa using p2
        simp only [p2',aN,if_false];exact⟨_,_,rfl,rfl,_,rfl,hc,by omega⟩
theorem aMX{b:aD}(hc:PN b.aH)(s:Sub) :
    ∃x y,nG b s=some (x,y)∧nR s b=some (y,x)∧∃cl,x=⟨b.Mem,cl,b.aU,b.mA⟩∧PN cl∧b.aH.aL≤cl.aL:=by
  obtain⟨r2,e3,e4,h4⟩:=aV3 hc s.E
  unfold nG nR kV
  rw [e3,e4,b7,jG]
  simp only [bK,bI,mO,mP,kU,aG]
  by_cases p0:s.Pc=0
  · simp only [p0,beq_self_eq_true,if_true];exact⟨_,_,rfl,rfl,_,rfl,hc,by omega⟩
  · have p0':(s.Pc == 0)=false:=by simpa using p0
    simp only [p0',aN,if_false]
    by_cases p1:s.Pc=1
    · simp only [p1,beq_self_eq_true,if_true,show((1:Int) == 2)=false from rfl,aN,if_false]
      by_cases hB:0≤s.B∧s.B≤2
      · obtain⟨r,e1,e2,h3,h3'⟩:=aPP hc hB s.E
        simp only [bD hB,dA,aN,if_false,if_true,e1,e2,aG]
        cases h:r.2
        · exact⟨_,_,rfl,rfl,_,rfl,h3,by rw [h3'];exact Int.le_refl _⟩
        · by_cases q:aV (s.B+1)=3
          · simp only [q,beq_self_eq_true,if_true,dA,aN,if_false];exact⟨_,_,rfl,rfl,_,rfl,h3,by rw [h3'];exact Int.le_refl _⟩
          · have q':(aV (s.B+1) == 3)=false:=by simpa using q
            simp only [q',dA,aN,if_false];exact⟨_,_,rfl,rfl,_,rfl,h3,by rw [h3'];exact Int.le_refl _⟩
      · simp only [bQ hB,iN,aN,if_false,if_true]
        exact⟨_,_,rfl,rfl,_,rfl,hc,by omega⟩
    · have p1':(s.Pc == 1)=false:=by simpa using p1
      simp only [p1',aN,if_false]
      by_cases p2:s.Pc=2
      · simp only [p2,beq_self_eq_true,if_true]
        cases h:r2.2
        · simp only [aN,if_false];exact⟨_,_,rfl,rfl,_,rfl,h4⟩
        · simp only [if_true];exact⟨_,_,rfl,rfl,_,rfl,h4⟩
      · have p2':(s.Pc == 2)=false:=by simpa using p2
        simp only [p2',aN,if_false];exact⟨_,_,rfl,rfl,_,rfl,hc,by omega⟩
end Go.Gv
end
noncomputable section
namespace Go.Gv
theorem aMY:∀(n:Nat) (l:List Int),l.Nodup→(∀x∈l,0≤x∧x < (n:Int))→l.length≤n
  | 0, l, _, h => by
    cases l with
    | nil=>simp
    | cons a t=>have:=h a (by simp);omega
  | n + 1, l, hn, h => by
    have ih:=aMY n (l.erase (n:Int)) (hn.erase _) (fun x hx=>by
      have h1:=(hn.mem_erase_iff).1 hx
      have h2:=h x h1.2
      have:=h1.1
      omega)
    have:=List.length_erase (a:=(n:Int)) (l:=l)
    split at this <;> omega
theorem aI3(a b:List aS):bY (a++b)=bY a++bY b:=by simp [bY]
theorem aI4(a b:List aK):dD (a++b)=dD a++dD b:=by simp [dD]
theorem NF{l:List aS}{k:Nat}(hk:k < l.length)(x:aS):bY (l.set k x)=bY (l.take k)++(x.Rows++bY (l.drop (k+1))):=by
  rw [List.set_eq_take_append_cons_drop,if_pos hk,aI3];simp [bY]
theorem K8{l:List aS}{k:Nat}(hk:k < l.length):bY l=bY (l.take k)++(l[k].Rows++bY (l.drop (k+1))):=by
  conv=>lhs;rw [←aBT hk,NF hk]
theorem IT{l:List aK}{k:Nat}(hk:k < l.length)(x:aK):dD (l.set k x)=dD (l.take k)++(x.aM++dD (l.drop (k+1))):=by
  rw [List.set_eq_take_append_cons_drop,if_pos hk,aI4];simp [dD]
theorem GG{l:List aK}{k:Nat}(hk:k < l.length):dD l=dD (l.take k)++(l[k].aM++dD (l.drop (k+1))):=by
  conv=>lhs;rw [←aBT hk,IT hk]
def YA(l:List aS)(s:Int):Prop:=∃r∈bY l,mK r.Handle∧r.Handle % 32=s
instance (l:List aS) (s:Int):Decidable (YA l s):=by unfold YA;infer_instance
noncomputable section
variable {l:List aS} (hl:qT l)
include hl
theorem qT.small:(bY l).length≤1073741824∧l.length≤maxLen∧l.length≤1048576∧∀s∈l,s.Rows.length≤24:=by
  have:=hl.1;have h2:=hl.2.1
  refine⟨by omega,by simp only [maxLen];omega,by omega,fun s hs=>?_⟩
  have:=R8 hs;omega
theorem PO(s:Int):IC l s=some (decide (YA l s)):=by
  have hm:=hl.small
  unfold IC
  rw [JT hm.1 hm.2.1,aG]
  have key:=jT (f:=nC s (bY l)) (bY l) (fun k=>(k:Int)) (fun r=>¬(mK r.Handle∧r.Handle % 32=s)) (Out.brk ()) (Out.ret true)
    (fun k hk hp=>by
      have hk':=hl.2.1
      simp only [nC,sJ]
      rw [if_pos (by simp;omega),aR hk,iZ (show k < maxLen by simp only [maxLen];omega)]
      simp only [aG,eB,dC]
      by_cases q:mK (bY l)[k].Handle
      · have:((bY l)[k].Handle % 32 == s)=false:=by simpa using fun a=>hp ⟨q,a⟩
        simp [q,this]
      · simp [q])
    (fun k hk hp=>by
      have hp:=Classical.not_not.1 hp
      simp only [nC,sJ]
      rw [if_pos (by simp;omega),aR hk]
      simp [eB,dC,hp.1,hp.2])
    (by simp [nC])
  have key':loop (nC s (bY l)) 0=_:=key
  rw [key']
  by_cases q:YA l s
  · rw [if_neg (fun a=>by obtain⟨r,hr,e⟩:=q;exact a r hr e),bD q];rfl
  · rw [if_pos (fun r hr e=>q ⟨r,hr,e⟩),bQ q];rfl
theorem aAY(s:Int):HX l s=some (decide (YA l s)):=by
  have hm:=hl.small
  unfold HX
  have e1:∀(r:c9),pT r s=some (decide (mK r.Handle∧r.Handle % 32=s)):=by
    intro r
    unfold pT pA
    rw [iU]
    by_cases q:mK r.Handle
    · rw [q.mod.1];simp [q];rfl
    · simp [q]
  have e2:∀x∈l,CC x s=some (x.Rows.any fun r=>decide (mK r.Handle∧r.Handle % 32=s)):=by
    intro x hx
    unfold CC
    have:x.Rows.length≤maxLen:=by have:=hm.2.2.2 x hx;simp only [maxLen];omega
    rw [show(fun y0=>pT y0 s)=fun r=>some (decide (mK r.Handle∧r.Handle % 32=s)) from funext e1,TN this];rfl
  rw [RJ hm.2.1 (fun x=>x.Rows.any fun r=>decide (mK r.Handle∧r.Handle % 32=s)) _ e2]
  simp only [aG]
  congr 1
  rw [J1,decide_eq_true_iff]
  simp only [List.any_eq_true,decide_eq_true_eq,YA,bY,SP]
  constructor
  · rintro⟨x,hx,r,hr,h⟩;exact⟨r,⟨x,hx,hr⟩,h⟩
  · rintro⟨r,⟨x,hx,hr⟩,h⟩;exact⟨x,hx,r,hr,h⟩
theorem qT.more{k:Nat}(hk:k < l.length){r:c9}(hr:y9 r)(hn:¬YA l (r.Handle % 32)):qT (l.set k ⟨l[k].Rows ++ [r]⟩):=by
  have e:=NF hk (⟨l[k].Rows ++ [r]⟩:aS)
  have p:(bY (l.set k ⟨l[k].Rows ++ [r]⟩)).Perm (r :: bY l):=by
    rw [e,K8 hk]
    refine List.Perm.trans ?_ List.perm_middle
    simp only [j8]
    exact List.Perm.append_left _ (by simp only [List.singleton_append];exact(List.perm_middle (l₁:=l[k].Rows) (l₂:=bY (l.drop (k+1))) (a:=r)))
  have h1:∀x∈bY (l.set k ⟨l[k].Rows ++ [r]⟩),y9 x:=fun x hx=>by
    rcases iA.1 (p.mem_iff.1 hx) with rfl | h
    · exact hr
    · exact hl.2.2.1 x h
  have h2:((bY (l.set k ⟨l[k].Rows ++ [r]⟩)).map mV).Nodup:=by
    refine(List.Perm.nodup_iff (p.map mV)).2 ?_
    rw [DX,List.nodup_cons]
    refine⟨fun h=>hn ?_,hl.2.2.2⟩
    obtain⟨x,hx,e⟩:=List.mem_map.1 h
    exact⟨x,hx,(hl.2.2.1 x hx).1,e⟩
  refine⟨by simpa using hl.1,?_,h1,h2⟩
  have:=aMY 24 _ h2 (fun x hx=>by
    obtain⟨y,hy,rfl⟩:=List.mem_map.1 hx
    have:=(h1 y hy).1.mod
    unfold mV;omega)
  simpa using this
end
theorem aPQ{b:aD}(hb:sQ b)(hs:JW b){w:Int}(hw:0≤w∧w≤2)(s:Sub) :
    ∃x y,qC b w s=some (x,y)∧pB s b w=some (y,x)∧∃L,x=⟨b.Mem,b.aH,L,b.mA⟩∧qT L∧∀r∈bY L,xJ b r:=by
  have hL:=hb.1.2.2.1
  have hm:=hb.1.1
  have hlen:w.toNat < b.aU.length:=by have:=hL.1;omega
  have hx:idx b.aU w=some b.aU[w.toNat]:=fL hw.1 (by omega)
  have hg:b.Mem.aB.Global.length≤maxLen:=by rw [hm.1.2.1];simp [maxLen]
  have ho:b.Mem.aB.Own.length≤maxLen:=by rw [hm.1.2.2.1];simp [maxLen]
  have hall:(eT b.Mem.aB).length≤1073741824:=by have:=hs.1.2.2.2.2;omega
  have hrow:=hL.small.2.2.2 _ (dP hlen)
  have he:=hb.1.2.1.1
  unfold qC pB lY
  rw [b7,eA,sP hm.1.1.1 hall hg ho,JV hm.1.1.1 hall hg ho,dC]
  simp only [bK,bI,aG,n9,tW,lX]
  by_cases p0:s.Pc=0
  · simp only [p0,beq_self_eq_true,if_true];exact⟨_,_,rfl,rfl,_,rfl,hL,hb.2⟩
  · have p0' : (s.Pc == 0) = false := by simpa using p0
    simp only [p0',aN,if_false]
    by_cases p1:s.Pc=1
    · simp only [p1,beq_self_eq_true,bne_self_eq_false,aN,if_false,if_true]
      by_cases q1:0≤s.E∧s.E≤b.aH.aL
      · simp only [bD q1,dA,aN,if_false]
        by_cases q2:qU b.Mem s.A
        · have hh:=q2.1
          simp only [bD q2,dA,aN,if_false,if_pos hh,hh.mod.1,PO hL,aAY hL,aG]
          by_cases q3:YA b.aU (s.A % 32)
          · simp only [bD q3,if_true];exact⟨_,_,rfl,rfl,_,rfl,hL,hb.2⟩
          · have hmore:=hL.more hlen (r:=⟨s.A,s.E⟩) ⟨hh,q1.1,by simp only;omega⟩ q3
            have e:E4 b.aU w s.A s.E=some (b.aU.set w.toNat ⟨b.aU[w.toNat].Rows ++ [⟨s.A,s.E⟩]⟩,true):=by
              unfold E4 wN
              rw [AB hL.small.1,jG,MB hL.small.2.2.1 (fun s h=>by have:=hL.small.2.2.2 s h;omega)]
              simp only [bD hL,bD hw,aG,dA,aN,if_false,hx]
              rw [aO (by simp;omega),AB hmore.small.1,bD hmore];rfl
            simp only [bQ q3,aN,if_false,hx,e,aG]
            rw [aO (by simp;omega)]
            refine⟨_,_,rfl,rfl,_,rfl,hmore,fun r hr=>?_⟩
            rw [NF hlen] at hr
            have hsp:=K8 hlen
            rcases gK.1 hr with h | h
            · exact hb.2 r (by rw [hsp];exact P2 _ h)
            · rcases gK.1 h with h | h
              · rcases gK.1 h with h | h
                · exact hb.2 r (by rw [hsp];exact YL _ (P2 _ h))
                · simp at h;subst h;exact⟨q2,q1.2⟩
              · exact hb.2 r (by rw [hsp];exact YL _ (YL _ h))
        · simp only [bQ q2,iN,if_true];exact⟨_,_,rfl,rfl,_,rfl,hL,hb.2⟩
      · simp only [bQ q1,iN,if_true];exact⟨_,_,rfl,rfl,_,rfl,hL,hb.2⟩
    · have p1':(s.Pc == 1)=false:=by simpa using p1
      have p1'':(s.Pc != 1)=true:=by simpa using p1
      simp only [p1',p1'',aN,if_false,if_true];exact⟨_,_,rfl,rfl,_,rfl,hL,hb.2⟩
end Go.Gv
end
noncomputable section
namespace Go.Gv
def st4(b:List Int)(a:Nat)(n:Int):List Int:=(((b.set a 0).set (a+1) 0).set (a+2) 0).set (a+3) n
theorem FP(b:List Int)(a:Nat)(n:Int):(st4 b a n).length=b.length:=by simp [st4]
theorem aKU{b:List Int}(h:uE b)(a:Nat){n:Int}(hn:0≤n∧n≤255):uE (st4 b a n):=by
  have key:∀{l:List Int} (i:Nat) (v:Int),uE l→0≤v∧v≤255→uE (l.set i v):=fun i v hl hv x hx=>by
    rcases oW hx with h | rfl
    · exact hl x h
    · exact hv
  exact key _ _ (key _ _ (key _ _ (key _ _ h (by omega)) (by omega)) (by omega)) hn
theorem aTG{n:Int}(hn:0≤n∧n≤255):((u8 n).toNat:Int)=n:=by
  obtain⟨m,rfl⟩:=aQE hn.1
  unfold u8
  rw [UInt8.toNat_ofNat'];omega
theorem WI{l:List Int}(i:Nat){v:Int}(hl:uE l)(hv:0≤v∧v≤255):uE (l.set i v):=fun x hx=>by
  rcases oW hx with h | rfl
  · exact hl x h
  · exact hv
def J7(b:List Int)(a:Nat)(n:Int):List Int:=(((b.set a (n / 16777216)).set (a+1) (n / 65536 % 256)).set (a+2) (n / 256 % 256)).set (a+3) (n % 256)
theorem WJ(b:List Int)(a:Nat)(n:Int):(J7 b a n).length=b.length:=by simp [J7]
theorem aPR{b:List Int}(h:uE b)(a:Nat){n:Int}(hn:0≤n∧n≤4294967295):uE (J7 b a n):=by
  unfold J7
  exact WI _ (WI _ (WI _ (WI _ h (by omega)) (by omega)) (by omega)) (by omega)
theorem aPS(b:List Int)(a:Nat)(x y z u:Int):(((b.set (a+3) u).set (a+2) z).set (a+1) y).set a x=(((b.set a x).set (a+1) y).set (a+2) z).set (a+3) u:=by
  refine List.ext_getElem (by simp) fun j h1 h2=>?_
  simp only [List.getElem_set]
  by_cases j0:a=j
  · subst j0;simp
  · by_cases j1:a+1=j
    · subst j1;simp
    · by_cases j2:a+2=j
      · subst j2;simp
      · by_cases j3:a+3=j
        · subst j3;simp
        · simp [j0,j1,j2,j3]
theorem YB{b:List Int}{a:Nat}(h:a+4≤b.length)(hl:b.length≤100000){n:Int}(hn:0≤n∧n≤4294967295):rP b (a:Int) 4 n=some (J7 b a n):=by
  have st:∀(c:List Int) (m:Int) (i:Nat),c.length=b.length→0≤m→m≤4294967295→i < 4→zX (a:Int) (c,m,(i:Int))=some (.next (c.set (a+i) (m % 256),m / 256,(i:Int) - 1)):=fun c m i hc h0 h1 hi=>by
    simp only [zX]
    rw [if_pos (by simp),aP (x:=(a:Int)+i) (by omega) (by omega),show(a:Int)+i=((a+i:Nat):Int) by omega,aR (by omega),aG,y6 h0,GD h0,aP (x:=m / 256) (by omega) (by omega),aP (x:=(i:Int) - 1) (by omega) (by omega),K9]
  unfold rP
  rw [show aV (4 - 1)=((3:Nat):Int) from by rw [aP (by omega) (by omega)];rfl]
  rw [bX (st b n 3 rfl hn.1 hn.2 (by omega)),show((3:Nat):Int) - 1=((2:Nat):Int) by rfl,
    bX (st _ _ 2 (by simp) (by omega) (by omega) (by omega)),show((2:Nat):Int) - 1=((1:Nat):Int) by rfl,
    bX (st _ _ 1 (by simp) (by omega) (by omega) (by omega)),show((1:Nat):Int) - 1=((0:Nat):Int) by rfl,
    bX (st _ _ 0 (by simp) (by omega) (by omega) (by omega)),bM (r:=J7 b a n)]
  · rfl
  · simp only [zX]
    rw [if_neg (by simp)]
    have e1:n / 256 / 256=n / 65536:=by omega
    have e2:n / 256 / 256 / 256=n / 16777216:=by omega
    have e3:n / 16777216 % 256=n / 16777216:=by omega
    rw [e1,show n / 65536 / 256=n / 16777216 by omega,e3]
    unfold J7
    simp only [MH]
    rw [aPS]
def TO(n:Int):List UInt8:=[u8 (n / 16777216),u8 (n / 65536),u8 (n / 256),u8 n]
theorem aEI{n:Int}(hn:0≤n∧n≤4294967295):AH n 4=some (TO n):=by
  have hw:j4 4=some true:=by unfold j4;rw [eA];rfl
  unfold AH
  rw [hw]
  have e1:IntKind.u64.wrap (aV (8 * 4))=32:=by decide
  have e2:aGT .i64 1 32=4294967296:=by decide
  simp only [aG,dA,aN,if_false,e1,e2]
  rw [if_neg (by simp;omega),aO (by omega),bQ (by omega)]
  simp only [yJ,aN,if_false]
  rw [aO (by omega),show aV (4 - 1)=((3:Nat):Int) from by rw [aP (by omega) (by omega)];rfl]
  have st:∀(m:Int) (c:List UInt8) (i:Nat),i < c.length→i < 4→0≤m→E1 (m,c,(i:Int))=some (.next (m / 256,c.set i (u8 m),(i:Int) - 1)):=fun m c i hc hi h0=>by
    simp only [E1]
    rw [if_pos (by simp),aR hc,aG,show(8:Int)=((8:Nat):Int) from rfl,aV1 h0 (by omega),aP (by omega) (by omega),K9];rfl
  rw [bX (st n _ 3 (by simp) (by omega) hn.1),show((3:Nat):Int) - 1=((2:Nat):Int) by rfl,
    bX (st _ _ 2 (by simp) (by omega) (by omega)),show((2:Nat):Int) - 1=((1:Nat):Int) by rfl,
    bX (st _ _ 1 (by simp) (by omega) (by omega)),show((1:Nat):Int) - 1=((0:Nat):Int) by rfl,
    bX (st _ _ 0 (by simp) (by omega) (by omega)),bM (r:=TO n)]
  · rfl
  · simp only [E1]
    rw [if_neg (by simp)]
    have e1:n / 256 / 256=n / 65536:=by omega
    rw [e1,show n / 65536 / 256=n / 16777216 by omega]
    rfl
theorem aI5{n:Int}(hn:0≤n):((u8 n).toNat:Int)=n % 256:=by
  have:u8 n=u8 (n % 256):=by
    unfold u8
    congr 1
    omega
  rw [this,aTG (by omega)]
theorem aEJ{b:List Int}{a:Nat}(h:a+4≤b.length)(hl:b.length≤100000){n:Int}(hn:0≤n∧n≤4294967295):uV b (a:Int) (TO n)=some (J7 b a n):=by
  have st:∀(c:List Int) (i:Nat) (v:UInt8),c.length=b.length→i < 4→idx (TO n) (i:Int)=some v→CA b (a:Int) (TO n) (c,(i:Int))=some (.next (c.set (a+i) (v.toNat:Int),((i+1:Nat):Int))):=fun c i v hc hi hv=>by
    simp only [CA]
    rw [aO hc,if_pos (by simp [TO];omega),hv,aG,aP (x:=(a:Int)+i) (by omega) (by omega),show(a:Int)+i=((a+i:Nat):Int) by omega,aR (by omega),aG,aP (by omega) (by omega),K9];rfl
  unfold uV
  rw [show(0:Int)=((0:Nat):Int) from rfl,bX (st b 0 _ rfl (by omega) rfl),bX (st _ 1 _ (by simp) (by omega) rfl),bX (st _ 2 _ (by simp) (by omega) rfl),bX (st _ 3 _ (by simp) (by omega) rfl),bM (r:=J7 b a n)]
  · simp only [aG,QJ,QI]
    rw [aO (WJ b a n)]
  · simp only [CA]
    rw [aO (by simp),if_neg (by simp [TO])]
    simp only [aI5 hn.1,aI5 (show 0≤n / 16777216 by omega),aI5 (show 0≤n / 65536 by omega),aI5 (show 0≤n / 256 by omega)]
    rw [show n / 16777216 % 256=n / 16777216 by omega]
    rfl
theorem aTH{b:List Int}{a:Nat}{n:Int}(hn:0≤n∧n≤255):J7 b a n=st4 b a n:=by
  unfold J7 st4
  rw [show n / 16777216=0 by omega,show n / 65536 % 256=0 by omega,show n / 256 % 256=0 by omega,show n % 256=n by omega]
theorem G6{b:List Int}{a:Nat}(h:a+4≤b.length)(hl:b.length≤100000){n:Int}(hn:0≤n∧n≤255):rP b (a:Int) 4 n=some (st4 b a n):=by
  rw [YB h hl ⟨hn.1,by omega⟩,aTH hn]
theorem a0J{n:Int}(hn:0≤n∧n≤255):TO n=[0,0,0,u8 n]:=by
  unfold TO
  rw [show n / 16777216=0 by omega,show n / 65536=0 by omega,show n / 256=0 by omega];rfl
theorem TP{n:Int}(hn:0≤n∧n≤255):AH n 4=some [0,0,0,u8 n]:=by
  rw [aEI ⟨hn.1,by omega⟩,a0J hn]
theorem RO{b:List Int}{a:Nat}(h:a+4≤b.length)(hl:b.length≤100000){n:Int}(hn:0≤n∧n≤255):uV b (a:Int) [0,0,0,u8 n]=some (st4 b a n):=by
  rw [←a0J hn,aEJ h hl ⟨hn.1,by omega⟩,aTH hn]
end Go.Gv
end
noncomputable section
namespace Go.Gv
theorem aW9{x y z:Int}:∀(a:Nat) (l:List Int),a+3≤l.length→dE l a [x,y,z]=((l.set a x).set (a+1) y).set (a+2) z
  | 0, l, h => by
    match l,h with
    | _ :: _ :: _ :: t,_=>simp [dE]
  | a + 1, l, h => by
    match l,h with
    | u :: t, h =>
      have ih:=aW9 (x:=x) (y:=y) (z:=z) a t (by simp at h;omega)
      simp only [List.set_cons_succ,←ih]
      simp [dE,Nat.add_right_comm]
def aTI(p k:Nat)(c:Int):Nat:=(fM ((p:Int) * 4+k) c).toNat
def gB(b:List Int)(p:Nat)(c:Int):Nat→List Int
  | 0=>((b.set (p * 64) 171).set (p * 64+1) c).set (p * 64+2) (cK c)
  | k+1=>st4 (gB b p c k) (aTI p k c) 1
theorem MC(b:List Int)(p:Nat)(c:Int):∀k,(gB b p c k).length=b.length
  | 0=>by simp [gB]
  | k+1=>by rw [gB,FP,MC b p c k]
theorem aEK{l:List Int}(i:Nat){v:Int}(hl:uE l)(hv:0≤v∧v≤255):uE (l.set i v):=fun x hx=>by
  rcases oW hx with h | rfl
  · exact hl x h
  · exact hv
theorem aI6{b:List Int}(hb:uE b)(p:Nat){c:Int}(hc:0≤c∧c≤2):∀k,uE (gB b p c k)
  | 0 => by
    have:=mY c
    exact aEK _ (aEK _ (aEK _ hb (by omega)) (by omega)) (by omega)
  | k+1=>aKU (aI6 hb p hc k) _ (by omega)
def gS(p:Nat)(n:Nat):List Int:=(List.range n).map fun(i:Nat)=>(p:Int) * 4+(i:Int)
theorem MD(p n:Nat):(gS p n).length=n:=by simp [gS]
theorem aOQ(p n:Nat):gS p (n+1)=gS p n ++ [(p:Int) * 4+(n:Int)]:=by simp [gS,List.range_succ]
theorem aI7{p k:Nat}{c:Int}(hp:p < 6)(hk:(k:Int) < cK c):fM ((p:Int) * 4+k) c=(aTI p k c:Int)∧aTI p k c+4≤384:=by
  have h4:=mY c
  have hm:=JN (c:=c) (i:=(k:Int)) (by omega) hk
  have hst:4≤aT c:=by
    have:0≤c∧c≤2:=kN.1 (by omega)
    rcases gJ this with e | e | e <;> rw [e] <;> decide
  have e:fM ((p:Int) * 4+k) c=(p:Int) * 64+8+(k:Int) * aT c:=by
    unfold fM
    rw [if_pos ⟨by omega,by omega⟩,show((p:Int) * 4+k) / 4=p by omega,show((p:Int) * 4+k) % 4=k by omega]
  unfold aTI
  rw [e];omega
theorem aHF{p k:Nat}(hp:p < 6)(hk:k < 4):qY (p:Int) (k:Int)=some ((p:Int) * 4+k)∧KO (p:Int) (k:Int)=some ((p:Int) * 4+k):=by
  have a:0≤(p:Int)∧(p:Int)≤5:=by omega
  have b:0≤(k:Int)∧(k:Int)≤3:=by omega
  have e1:aV ((p:Int) * 4)=(p:Int) * 4:=aP (by omega) (by omega)
  have e2:aV ((p:Int) * 4+k)=(p:Int) * 4+k:=aP (by omega) (by omega)
  constructor
  · unfold qY vA;rw [b7,b7,bD a,bD b,e1,e2];rfl
  · unfold KO CB;rw [eA,eA,bD a,bD b,e1,e2];rfl
noncomputable section
variable {b:List Int} (hb:b.length=384) {p:Nat} (hp:p < 6) {c:Int} (hc:0≤c∧c≤2)
include hb hp hc
theorem aEL:loop (zZ c (p:Int)) ([],0,gB b p c 0)=some (gS p (cK c).toNat,gB b p c (cK c).toNat):=by
  have h4:=mY c
  refine gD (cK c).toNat (fun k=>(gS p k,(k:Int),gB b p c k)) _ (fun k hk=>?_) ?_
  · have ho:=aI7 (c:=c) hp (k:=k) (by omega)
    simp only [zZ,GX,gU,aG]
    rw [if_pos (by simp;omega),(aHF hp (by omega)).1]
    simp only [aG,tJ,ho.1]
    rw [G6 (by rw [MC];omega) (by rw [MC];omega) (by omega)]
    simp only [aG]
    rw [aO (by rw [MD];simp;omega),aP (by omega) (by omega),aOQ];rfl
  · simp only [zZ,gU,aG]
    rw [if_neg (by simp;omega)]
theorem aMZ:loop (E2 c (p:Int) (cK c)) ([],0,gB b p c 0)=some (gS p (cK c).toNat,gB b p c (cK c).toNat):=by
  have h4:=mY c
  refine gD (cK c).toNat (fun k=>(gS p k,(k:Int),gB b p c k)) _ (fun k hk=>?_) ?_
  · have ho:=aI7 (c:=c) hp (k:=k) (by omega)
    simp only [E2,LI]
    rw [if_pos (by simp;omega),(aHF hp (by omega)).2]
    simp only [aG,y7,ho.1]
    rw [TP (by omega),aG,RO (by rw [MC];omega) (by rw [MC];omega) (by omega)]
    simp only [aG]
    rw [aO (by rw [MD];simp;omega),aP (by omega) (by omega),aOQ];rfl
  · simp only [E2]
    rw [if_neg (by simp;omega)]
end
theorem aTJ{h:aE}(hh:WX h){c:Int}(hc:0≤c∧c≤2) :
    (nZ h c=some (h,[])∧D9 h c=some (h,[])) ∨
    ∃p,p < 6∧cC h p < 0∧nZ h c=some (⟨gB h.Bytes p c (cK c).toNat,h.Class.set p c⟩,gS p (cK c).toNat)∧D9 h c=some (⟨gB h.Bytes p c (cK c).toNat,h.Class.set p c⟩,gS p (cK c).toNat):=by
  have hs:=hh.1
  have h6:=hs.2.1
  have h384:=hs.1
  have hp4:=mY c
  have hcp:=OD (h:=h) (by omega) (by omega)
  have hne:∀j (hj:j < 6),j < h.Class.findIdx (fun x=>decide (x = -1))→h.Class[j]≠-1:=fun j hj hlt=>by
    have:=List.not_of_lt_findIdx hlt
    simpa using this
  generalize hq:h.Class.findIdx (fun x=>decide (x = -1))=q at hne
  have hq6:q≤6:=by rw [←hq,←h6];exact List.findIdx_le_length
  have s1:∀k (hk:k < q),eQ h c (k:Int)=some (.next ((k+1:Nat):Int)):=fun k hk=>by
    have:=hne k (by omega) hk
    have n:(h.Class[k] != -1)=true:=by simpa using this
    simp only [eQ,zY]
    rw [if_pos (by simp;omega),aR (by omega),aG,n,if_pos rfl,aP (by omega) (by omega)];rfl
  have s2:∀k (hk:k < q),eN h.Class (-1) (k:Int)=some (.next ((k+1:Nat):Int)):=fun k hk=>by
    have:=hne k (by omega) hk
    have n:((-1:Int) == h.Class[k])=false:=by simpa using fun a=>this a.symm
    simp only [eN]
    rw [if_pos (by simp;omega),aR (by omega),aG,n,aP (by omega) (by omega)];rfl
  have hm:h.Bytes.length≤maxLen:=by rw [h384];simp [maxLen]
  by_cases h5:q=6
  · left
    have a1:loop (eQ h c) 0=some (Out.brk ()):=gD q (fun k=>(k:Int)) _ s1 (by simp only [eQ];rw [if_neg (by simp;omega)])
    have a2:loop (eN h.Class (-1)) 0=some (Out.brk ()):=gD q (fun k=>(k:Int)) _ s2 (by simp only [eN];rw [if_neg (by simp;omega)])
    constructor
    · unfold nZ;rw [a1];rfl
    · unfold D9 mG
      rw [a2,hcp,JQ hm,jF,bD hh,bD hc];rfl
  · right
    have hq5:q < 6:=by omega
    have he:h.Class[q] = -1:=by
      have:=List.findIdx_getElem (xs:=h.Class) (p:=fun x=>decide (x = -1)) (w:=by rw [hq];omega)
      simp only [hq,decide_eq_true_eq] at this
      exact this
    refine⟨q,hq5,by rw [←OB hs hq5,he];omega,?_,?_⟩
    · have a1:loop (eQ h c) 0=some (Out.ret (⟨gB h.Bytes q c (cK c).toNat,h.Class.set q c⟩,gS q (cK c).toNat)):=gD q (fun k=>(k:Int)) _ s1 (by
        have e0:aV ((q:Int) * 64)=((q * 64:Nat):Int):=by rw [aP (by omega) (by omega)];omega
        have e1:aV (((q * 64:Nat):Int)+1)=((q * 64+1:Nat):Int):=by rw [aP (by omega) (by omega)];omega
        have e2:aV (((q * 64:Nat):Int)+2)=((q * 64+2:Nat):Int):=by rw [aP (by omega) (by omega)];omega
        have n:(h.Class[q] != -1)=false:=by simpa using he
        simp only [eQ,e0,e1,e2,K9]
        rw [if_pos (by simp;omega),aR (by omega),aG,n,if_neg (by simp),aR (by omega),aG,aR (by simp;omega),aG,gU,aG,aR (by simp;omega),aG]
        have:=aEL h384 hq5 hc
        simp only [gB] at this
        rw [this];rfl)
      unfold nZ;rw [a1];rfl
    · have a2:loop (eN h.Class (-1)) 0=some (Out.ret (q:Int)):=gD q (fun k=>(k:Int)) _ s2 (by
        have n:((-1:Int) == h.Class[q])=true:=by rw [he];rfl
        simp only [eN]
        rw [if_pos (by simp;omega),aR (by omega),aG,n];rfl)
      unfold D9 mG
      rw [a2,hcp,JQ hm,jF,bD hh,bD hc]
      have e0:aV ((q:Int) * 64)=((q * 64:Nat):Int):=by rw [aP (by omega) (by omega)];omega
      simp only [aG,o7,dA,aN,if_false,yK,e0,z7,LJ,K9]
      rw [bQ (by omega),if_neg (by simp),aR (by omega),aG,aO (by omega),aW9 _ _ (by omega)]
      have:=aMZ h384 hq5 hc
      simp only [gB] at this
      rw [this];rfl
theorem LOk.count{l:aB}(h:LOk l):(eT l).length≤24:=aMY 24 _ h.2.2.2.2 (fun x hx=>by have:=h.2.2.2.1 x hx;omega)
theorem aPT{m:Mem}(hs:eZ m.aE){s:Int}(hc:0≤bG m.aE s):∃h,tC m s=some h∧E3 m s=some h:=by
  unfold tC E3 FB LK p8 wM
  rw [oV hs hc,FN hs hc,aG,aG,b7,b7,wA,eA]
  have h1:=(AA hc).1
  simp only [bD h1,aG,dA,aN,if_false]
  by_cases q:1≤mJ m.aE s∧mJ m.aE s≤6
  · simp only [bD q,dA,aN,if_false];exact⟨_,rfl,rfl⟩
  · simp only [bQ q,iN,if_true];exact⟨_,rfl,rfl⟩
theorem UI{l:List aK}{k:Nat}(hk:k < l.length)(t:List Int):(dD (l.set k ⟨l[k].aM++t⟩)).length=(dD l).length+t.length:=by
  rw [IT hk,GG hk];simp;omega
end Go.Gv
end
noncomputable section
namespace Go.Gv
def bt(b:List Int)(i:Nat):Int:=b.getD i 0
theorem aEM{b:List Int}{i:Nat}(h:i < b.length):b[i]=bt b i:=by
  unfold bt;rw [iX,eI h];rfl
theorem ld4{b:List Int}{a:Nat}(h:a+4≤b.length):ld b a 4=((bt b a * 256+bt b (a+1)) * 256+bt b (a+2)) * 256+bt b (a+3):=by
  unfold ld
  rw [J8 (by omega),J8 (by omega),J8 (by omega),J8 (by omega)]
  simp only [List.take_succ_cons,YO,ldF,List.foldl_cons,List.foldl_nil,aEM (b:=b) (i:=a) (by omega),aEM (b:=b) (i:=a+1) (by omega),aEM (b:=b) (i:=a+1+1) (by omega),aEM (b:=b) (i:=a+1+1+1) (by omega)]
  simp only [UP,Nat.reduceAdd];omega
theorem JX{b:List Int}{i j:Nat}{v:Int}(hi:i < b.length):bt (b.set i v) j=if j=i then v else bt b j:=by
  unfold bt
  rw [iX,iX,List.getElem?_set]
  by_cases h:i=j
  · subst h;simp [hi]
  · have h':¬j=i:=fun q=>h q.symm
    simp [h,h']
theorem AL{b:List Int}{a:Nat}{n:Int}(h:a+4≤b.length)(j:Nat):bt (st4 b a n) j=if j=a+3 then n else if a≤j∧j < a+3 then 0 else bt b j:=by
  unfold st4
  rw [JX (by simp;omega),JX (by simp;omega),JX (by simp;omega),JX (by omega)]
  by_cases h1:j=a+3
  · simp [h1]
  · rw [if_neg h1,if_neg h1]
    by_cases h2:a≤j∧j < a+3
    · rw [if_pos h2]
      by_cases h3:j=a+2
      · simp [h3]
      · rw [if_neg h3]
        by_cases h4:j=a+1
        · simp [h4]
        · rw [if_neg h4,if_pos (by omega)]
    · rw [if_neg h2,if_neg (by omega),if_neg (by omega),if_neg (by omega)]
theorem aM0{b:List Int}{a:Nat}{n:Int}(h:a+4≤b.length):ld (st4 b a n) a 4=n:=by
  rw [ld4 (by rw [FP];exact h),AL h,AL h,AL h,AL h,if_neg (by omega),if_pos (by omega),if_neg (by omega),if_pos (by omega),if_neg (by omega),if_pos (by omega),if_pos rfl]
  omega
theorem SB{b b':List Int}{a:Nat}(h:a+4≤b.length)(hl:b'.length=b.length)(hs:∀j,a≤j→j < a+4→bt b' j=bt b j):ld b' a 4=ld b a 4:=by
  rw [ld4 (by omega),ld4 h,hs a (by omega) (by omega),hs (a+1) (by omega) (by omega),hs (a+2) (by omega) (by omega),hs (a+3) (by omega) (by omega)]
def aAZ(h:aE)(p:Nat):Prop:=
  if cC h p < 0 then ∀k,k < 64→bt h.Bytes (p * 64+k)=0
  else ((bt h.Bytes (p * 64)=171∧bt h.Bytes (p * 64+1)=cC h p∧bt h.Bytes (p * 64+2)=cK (cC h p))∧(∀k,3≤k→k < 8→bt h.Bytes (p * 64+k)=0)∧∀i,i < (cK (cC h p)).toNat→1≤ld h.Bytes (p * 64+8+i * (aT (cC h p)).toNat) 4∧ld h.Bytes (p * 64+8+i * (aT (cC h p)).toNat) 4≤7)
theorem aHG{h:aE}(hs:eZ h){p:Nat}(hp:p < 6){k:Nat}(hk:k < 64):(dV h p).getD k 0=bt h.Bytes (p * 64+k):=by
  rw [←aHA hs hp hk,aEM (by have:=hs.1;omega)]
theorem WK{l:List Int}{x:Int}:x∈l↔∃k,k < l.length∧l.getD k 0=x:=by
  rw [ON]
  constructor
  · rintro⟨k,hk,e⟩
    exact⟨k,hk,by rw [iX,eI hk];exact e⟩
  · rintro⟨k,hk,e⟩
    exact⟨k,hk,by rw [iX,eI hk] at e;exact e⟩
theorem NG{h:aE}(hs:eZ h){p:Nat}(hp:p < 6):mU h p↔aAZ h p:=by
  unfold mU aAZ
  have hl:=JO hs hp
  split
  · constructor
    · intro q k hk
      rw [←aHG hs hp hk]
      exact q _ (WK.2 ⟨k,by omega,rfl⟩)
    · intro q x hx
      obtain⟨k,hk,rfl⟩:=WK.1 hx
      rw [aHG hs hp (by omega)];exact q k (by omega)
  · rw [aHG hs hp (by omega),aHG hs hp (by omega),aHG hs hp (by omega)]
    have e:(∀x∈((dV h p).drop 3).take 5,x=0)↔∀k,3≤k→k < 8→bt h.Bytes (p * 64+k)=0:=by
      have g:∀j,j < 5→(((dV h p).drop 3).take 5).getD j 0=bt h.Bytes (p * 64+(3+j)):=fun j hj=>by
        rw [←aHG hs hp (by omega),iX,iX,G8,if_pos hj,UM]
      constructor
      · intro q k h3 h8
        have:=q _ (WK.2 ⟨k - 3,by simp [hl];omega,rfl⟩)
        rw [g _ (by omega)] at this
        rw [show 3+(k - 3)=k by omega] at this;exact this
      · intro q x hx
        obtain⟨k,hk,rfl⟩:=WK.1 hx
        simp [hl] at hk
        rw [g _ hk];exact q _ (by omega) (by omega)
    rw [e];rfl
theorem aAZ.same{h h':aE}{p:Nat}(hp:p < 6)(hs:eZ h)(hl:h'.Bytes.length=h.Bytes.length)(hc:cC h' p=cC h p)(hb:∀k,k < 64→bt h'.Bytes (p * 64+k)=bt h.Bytes (p * 64+k))(q:aAZ h p):aAZ h' p:=by
  have h1:=hs.1
  unfold aAZ at q ⊢
  rw [hc]
  split
  · rename_i q0;rw [if_pos q0] at q
    exact fun k hk=>by rw [hb k hk];exact q k hk
  · rename_i q0;rw [if_neg q0] at q
    obtain⟨⟨a1,a2,a3⟩,a4,a5⟩:=q
    have b0:=hb 0 (by omega);have b1:=hb 1 (by omega);have b2:=hb 2 (by omega)
    simp only [MH] at b0
    refine⟨⟨by rw [b0];exact a1,by rw [b1];exact a2,by rw [b2];exact a3⟩,fun k k3 k8=>by rw [hb k (by omega)];exact a4 k k3 k8,fun i hi=>?_⟩
    have hz:=xI hs hp (c:=cC h p) rfl hi
    rw [SB (b:=h.Bytes) (by omega) hl fun j j1 j2=>by
      have:=hb (j - p * 64) (by omega)
      rw [show p * 64+(j - p * 64)=j by omega] at this;exact this]
    exact a5 i hi
theorem GH{h:aE}{s:Int}(hc:0≤bG h s):∃p i,p < 6∧i < (cK (cC h p)).toNat∧s=(p:Int) * 4+i∧bG h s=cC h p∧(fM s (bG h s)).toNat=p * 64+8+i * (aT (cC h p)).toNat∧(s / 4).toNat=p:=by
  obtain⟨h1,h2,h3⟩:=AA hc
  have hle:=mY (cC h (s / 4).toNat)
  refine⟨(s / 4).toNat,(s % 4).toNat,by omega,by omega,by omega,h3,?_,rfl⟩
  rw [h3]
  unfold fM
  rw [if_pos ⟨h1,by omega⟩]
  have hst:=(UG (cC h (s / 4).toNat)).1
  have e:s % 4 * aT (cC h (s / 4).toNat)=(((s % 4).toNat * (aT (cC h (s / 4).toNat)).toNat:Nat):Int):=by
    rw [Int.natCast_mul,Int.toNat_of_nonneg (by omega),Int.toNat_of_nonneg hst]
  omega
theorem OE{c:Int}{i j:Nat}(hi:i < (cK c).toNat)(hj:j < (cK c).toNat)(hn:i≠j):i * (aT c).toNat+4≤j * (aT c).toNat∨j * (aT c).toNat+4≤i * (aT c).toNat:=by
  have hc:0≤c∧c≤2:=kN.1 (by omega)
  have h12:12≤(aT c).toNat:=by rcases gJ hc with rfl | rfl | rfl <;> decide
  rcases Nat.lt_or_gt_of_ne hn with q | q
  · left
    have:(i+1) * (aT c).toNat≤j * (aT c).toNat:=yA _ q
    rw [gX] at this;omega
  · right
    have:(j+1) * (aT c).toNat≤i * (aT c).toNat:=yA _ q
    rw [gX] at this;omega
theorem WX.aYU{h:aE}(hh:WX h){s g:Int}(hc:0≤bG h s)(hg:1≤g∧g≤7) :
    WX ⟨st4 h.Bytes (fM s (bG h s)).toNat g,h.Class⟩∧∀t,0≤bG h t→mJ ⟨st4 h.Bytes (fM s (bG h s)).toNat g,h.Class⟩ t=if t=s then g else mJ h t:=by
  obtain⟨hs,hp⟩:=hh
  have h384:=hs.1
  have hs':eZ ⟨st4 h.Bytes (fM s (bG h s)).toNat g,h.Class⟩:=⟨by rw [FP];exact hs.1,hs.2.1,aKU hs.2.2.1 _ (by omega),hs.2.2.2⟩
  obtain⟨p,i,p6,hi,es,ec,eo,ep⟩:=GH hc
  have hz:=xI hs p6 rfl hi
  have h4:=mY (cC h p)
  refine⟨⟨hs',fun q hq=>?_⟩,fun t ht=>?_⟩
  · rw [NG hs' hq]
    have hold:=(NG hs hq).1 (hp q hq)
    by_cases e:q=p
    · subst e
      have hpos:0 < cK (cC h q):=by omega
      have hcl:¬cC h q < 0:=by have:=kN.1 hpos;omega
      unfold aAZ at hold ⊢
      have hcl':cC ⟨st4 h.Bytes (fM s (bG h s)).toNat g,h.Class⟩ q=cC h q:=rfl
      rw [hcl']
      rw [if_neg hcl] at hold ⊢
      obtain⟨⟨a1,a2,a3⟩,a4,a5⟩:=hold
      have bs:∀k,k < 8→bt (st4 h.Bytes (fM s (bG h s)).toNat g) (q * 64+k)=bt h.Bytes (q * 64+k):=fun k hk=>by
        rw [AL (by omega),if_neg (by omega),if_neg (by omega)]
      have b0:=bs 0 (by omega);have b1:=bs 1 (by omega);have b2:=bs 2 (by omega)
      simp only [MH] at b0
      refine⟨⟨by rw [b0];exact a1,by rw [b1];exact a2,by rw [b2];exact a3⟩,fun k k3 k8=>by rw [bs k k8];exact a4 k k3 k8,fun j hj=>?_⟩
      have hzj:=xI hs p6 rfl hj
      by_cases ej:j=i
      · subst ej
        simp only [eo]
        rw [aM0 (by omega)];exact hg
      · rw [SB (b:=h.Bytes) (by omega) (by simp only [FP]) fun k k1 k2=>?_]
        · exact a5 j hj
        · simp only [eo]
          have:=OE hi hj (fun q=>ej q.symm)
          rw [AL (by omega),if_neg (by omega),if_neg (by omega)]
    · refine aAZ.same hq hs (by simp only [FP]) rfl (fun k hk=>?_) hold
      rw [AL (by omega),if_neg (by omega),if_neg (by omega)]
  · have e2:bG ⟨st4 h.Bytes (fM s (bG h s)).toNat g,h.Class⟩ t=bG h t:=rfl
    unfold mJ
    rw [e2]
    by_cases e:t=s
    · subst e;rw [if_pos rfl];simp only;rw [aM0 (by omega)]
    · rw [if_neg e]
      obtain⟨p',i',p6',hi',es',ec',eo',ep'⟩:=GH ht
      have hz':=xI hs p6' rfl hi'
      rw [SB (b:=h.Bytes) (by omega) (by simp only [FP]) fun k k1 k2=>?_]
      simp only
      by_cases ee:p'=p
      · subst ee
        have:=OE hi hi' (fun q=>e (by rw [es,es',q]))
        rw [AL (by omega),if_neg (by omega),if_neg (by omega)]
      · have h4':=mY (cC h p')
        rw [AL (by omega),if_neg (by omega),if_neg (by omega)]
theorem aBK{p k:Nat}{c:Int}(hp:p < 6)(hk:(k:Int) < cK c):aTI p k c=p * 64+8+k * (aT c).toNat∧8+k * (aT c).toNat+4≤64:=by
  have hc:0≤c∧c≤2:=kN.1 (by omega)
  have h1:=aI7 (c:=c) hp hk
  have hle:=mY c
  have e:=h1.1
  unfold fM at e
  rw [if_pos (by omega)] at e
  have e1:((p:Int) * 4+k) / 4=p:=by omega
  have e2:((p:Int) * 4+k) % 4=k:=by omega
  rw [e1,e2] at e
  rcases gJ hc with rfl | rfl | rfl
  · rw [show aT 0=12 from rfl] at e ⊢
    rw [show cK 0=4 from rfl] at hk
    rw [show(12:Int).toNat=12 from rfl]
    omega
  · rw [show aT 1=20 from rfl] at e ⊢
    rw [show cK 1=2 from rfl] at hk
    rw [show(20:Int).toNat=20 from rfl]
    omega
  · rw [show aT 2=44 from rfl] at e ⊢
    rw [show cK 2=1 from rfl] at hk
    rw [show(44:Int).toNat=44 from rfl]
    omega
theorem aXA{b:List Int}{p:Nat}{c:Int}(hl:b.length=384)(hp:p < 6)(hc:0≤c∧c≤2):∀k:Nat,(k:Int)≤cK c→∀j,(j < p * 64∨p * 64+64≤j→bt (gB b p c k) j=bt b j)∧(3≤j→j < 8→bt (gB b p c k) (p * 64+j)=bt b (p * 64+j))∧bt (gB b p c k) (p * 64)=171∧bt (gB b p c k) (p * 64+1)=c∧bt (gB b p c k) (p * 64+2)=cK c
  | 0, hk, j => by
    have key:∀i,bt (gB b p c 0) i=if i=p * 64+2 then cK c else if i=p * 64+1 then c else if i=p * 64 then 171 else bt b i:=fun i=>by
      unfold gB
      rw [JX (by simp;omega),JX (by simp;omega),JX (by omega)]
    refine⟨fun h=>?_,fun h1 h2=>?_,?_,?_,?_⟩
    · rw [key,if_neg (by omega),if_neg (by omega),if_neg (by omega)]
    · rw [key,if_neg (by omega),if_neg (by omega),if_neg (by omega)]
    · rw [key,if_neg (by omega),if_neg (by omega),if_pos rfl]
    · rw [key,if_neg (by omega),if_pos rfl]
    · rw [key,if_pos rfl]
  | k + 1, hk, j => by
    have ih:=aXA hl hp hc k (by omega)
    have hoff:=aBK (c:=c) hp (by omega:(k:Int) < cK c)
    have hbl:=MC b p c k
    unfold gB
    refine⟨fun h=>?_,fun h1 h2=>?_,?_,?_,?_⟩
    · rw [AL (by omega),if_neg (by omega),if_neg (by omega)];exact(ih j).1 h
    · rw [AL (by omega),if_neg (by omega),if_neg (by omega)];exact(ih j).2.1 h1 h2
    · rw [AL (by omega),if_neg (by omega),if_neg (by omega)];exact(ih j).2.2.1
    · rw [AL (by omega),if_neg (by omega),if_neg (by omega)];exact(ih j).2.2.2.1
    · rw [AL (by omega),if_neg (by omega),if_neg (by omega)];exact(ih j).2.2.2.2
theorem aTK{b:List Int}{p:Nat}{c:Int}(hl:b.length=384)(hp:p < 6):∀k:Nat,(k:Int)≤cK c→∀i,i < k→ld (gB b p c k) (p * 64+8+i * (aT c).toNat) 4=1
  | 0,_,i,h=>absurd h (by omega)
  | k + 1, hk, i, h => by
    have hbl:=MC b p c k
    have ho:=aBK (c:=c) hp (by omega:(k:Int) < cK c)
    unfold gB
    by_cases e:i=k
    · subst e;rw [←ho.1];exact aM0 (by omega)
    · have hoi:=aBK (c:=c) hp (by omega:(i:Int) < cK c)
      have ha:=OE (c:=c) (i:=i) (j:=k) (by omega) (by omega) e
      rw [SB (b:=gB b p c k) (by omega) (by rw [FP]) fun j j1 j2=>by rw [AL (by omega),if_neg (by omega),if_neg (by omega)]]
      exact aTK hl hp k (by omega) i (by omega)
theorem WL{h:aE}(hs:eZ h){B:List Int}{p q:Nat}(hq:q < 6){c:Int}:cC ⟨B,h.Class.set p c⟩ q=if q=p then c else cC h q:=by
  have h6:=hs.2.1
  unfold cC
  rw [iX,iX,List.getElem?_set]
  by_cases e:p=q
  · subst e;simp [h6,hq]
  · have e':¬q=p:=fun z=>e z.symm
    simp [e,e']
theorem WX.a0K{h:aE}(hh:WX h){p:Nat}(hp:p < 6)(hun:cC h p < 0){c:Int}(hc:0≤c∧c≤2) :
    WX ⟨gB h.Bytes p c (cK c).toNat,h.Class.set p c⟩∧(∀t,(t / 4).toNat≠p→bG ⟨gB h.Bytes p c (cK c).toNat,h.Class.set p c⟩ t=bG h t)∧(∀t,0≤bG h t→(t / 4).toNat≠p∧mJ ⟨gB h.Bytes p c (cK c).toNat,h.Class.set p c⟩ t=mJ h t) ∧
      ∀i,i < (cK c).toNat→bG ⟨gB h.Bytes p c (cK c).toNat,h.Class.set p c⟩ ((p:Int) * 4+i)=c∧mJ ⟨gB h.Bytes p c (cK c).toNat,h.Class.set p c⟩ ((p:Int) * 4+i)=1:=by
  obtain⟨hs,hpg⟩:=hh
  have h384:=hs.1
  have hle:=mY c
  have hpn:((cK c).toNat:Int)≤cK c:=by omega
  have hb:=aXA h384 hp hc (cK c).toNat hpn
  have hbl:=MC h.Bytes p c (cK c).toNat
  have hs':eZ ⟨gB h.Bytes p c (cK c).toNat,h.Class.set p c⟩:=⟨by simp only [hbl];exact h384,by simp only [b9];exact hs.2.1,aI6 hs.2.2.1 p hc _,fun x hx=>by
    rcases oW hx with q | rfl
    · exact hs.2.2.2 x q
    · omega⟩
  have hcls:∀t:Int,(t / 4).toNat≠p→bG ⟨gB h.Bytes p c (cK c).toNat,h.Class.set p c⟩ t=bG h t:=fun t ht=>by
    unfold bG
    by_cases q:0≤t∧t≤23
    · rw [WL hs (by omega),if_neg ht]
    · rw [if_neg (fun z=>q z.1),if_neg (fun z=>q z.1)]
  refine⟨⟨hs',fun q hq=>?_⟩,hcls,fun t ht=>?_,fun i hi=>?_⟩
  · rw [NG hs' hq]
    have hold:=(NG hs hq).1 (hpg q hq)
    by_cases e:q=p
    · subst e
      unfold aAZ at hold ⊢
      rw [if_pos hun] at hold
      rw [WL hs hq,if_pos rfl,if_neg (by omega)]
      refine⟨(hb 0).2.2,fun k k3 k8=>?_,fun i hi=>?_⟩
      · simp only;rw [(hb k).2.1 k3 k8];exact hold k (by omega)
      · simp only;rw [aTK h384 hp _ hpn i hi];omega
    · refine aAZ.same hq hs (by simp only [hbl]) (by rw [WL hs hq,if_neg e]) (fun k hk=>?_) hold
      exact(hb _).1 (by omega)
  · obtain⟨p',i',p6',hi',es',ec',eo',ep'⟩:=GH ht
    have hne:(t / 4).toNat≠p:=fun z=>by rw [ec',←ep',z] at ht;omega
    refine⟨hne,?_⟩
    have hz':=xI hs p6' rfl hi'
    unfold mJ
    rw [hcls t hne,SB (b:=h.Bytes) (by omega) (by simp only [hbl]) fun k k1 k2=>(hb k).1 (by omega)]
  · have e1:((p:Int) * 4+i) / 4=p:=by omega
    have e2:((p:Int) * 4+i) % 4=i:=by omega
    have ec:bG ⟨gB h.Bytes p c (cK c).toNat,h.Class.set p c⟩ ((p:Int) * 4+i)=c:=by
      unfold bG
      rw [e1,e2,K9,WL hs hp,if_pos rfl,if_pos (by omega)]
    refine⟨ec,?_⟩
    unfold mJ
    rw [ec]
    have ho:=aBK (c:=c) hp (by omega:(i:Int) < cK c)
    have:(fM ((p:Int) * 4+i) c).toNat=p * 64+8+i * (aT c).toNat:=ho.1
    rw [this]
    exact aTK h384 hp _ hpn i hi
def xQ(m m':Mem)(k:Int):Prop:=tK m'∧∀s,l6 m s=3→s≠k→l6 m' s=3∧mJ m'.aE s=mJ m.aE s∧bG m'.aE s=bG m.aE s
theorem xQ.refl{m:Mem}(h:tK m)(k:Int):xQ m m k:=⟨h,fun _ h _=>⟨h,rfl,rfl⟩⟩
theorem xQ.live{m m':Mem}{k h:Int}(q:xQ m m' k)(hl:qU m h)(hn:h % 32≠k):qU m' h:=by
  obtain⟨h1,h2,h3⟩:=hl
  obtain⟨a,b,_⟩:=q.2 _ h2 hn
  exact⟨h1,a,by rw [b];exact h3⟩
theorem BC{l:List aK}{k j:Nat}(hk:k < l.length){t:aK}:eD (l.set k t) j=if j=k then t.aM else eD l j:=by
  unfold eD
  rw [iX,iX,List.getElem?_set]
  by_cases e:k=j
  · subst e;simp [hk]
  · have e':¬j=k:=fun z=>e z.symm
    simp [e,e']
theorem aHH{l:List aK}{k:Nat}(hk:k < l.length){t:aK}(ht:t.aM.Sublist l[k].aM):(dD (l.set k t)).Sublist (dD l):=by
  rw [IT hk,GG hk]
  exact(aLR _).append (ht.append (aLR _))
theorem WM{l:List aK}{k:Nat}(hk:k < l.length){xs:List Int}{s:Int}:s∈dD (l.set k ⟨l[k].aM++xs⟩)↔s∈dD l∨s∈xs:=by
  rw [IT hk,GG hk]
  simp only [gK]
  constructor
  · rintro(h | (h | h) | h)
    · exact .inl (.inl h)
    · exact .inl (.inr (.inl h))
    · exact .inr h
    · exact .inl (.inr (.inr h))
  · rintro((h | h | h) | h)
    · exact .inl h
    · exact .inr (.inl (.inl h))
    · exact .inr (.inr h)
    · exact .inr (.inl (.inr h))
theorem RP{l:List aK}{k:Nat}(hk:k < l.length){xs r q:List Int}(h:(q++(dD l++r)).Nodup)(hx:xs.Nodup)(hd:∀x∈xs,x∉q++(dD l++r)):(q++(dD (l.set k ⟨l[k].aM++xs⟩)++r)).Nodup:=by
  have hp:(q++(dD (l.set k ⟨l[k].aM++xs⟩)++r)).Perm (xs++(q++(dD l++r))):=by
    rw [IT hk,GG hk]
    have e1:q++(dD (l.take k)++(l[k].aM++xs++dD (l.drop (k+1)))++r)=(q++dD (l.take k)++l[k].aM)++(xs++(dD (l.drop (k+1))++r)):=by simp
    have e2:xs++(q++(dD (l.take k)++(l[k].aM++dD (l.drop (k+1)))++r))=xs++((q++dD (l.take k)++l[k].aM)++(dD (l.drop (k+1))++r)):=by simp
    rw [e1,e2]
    exact List.perm_append_comm_assoc _ _ _
  rw [hp.nodup_iff,List.nodup_append]
  exact⟨hx,h,fun a ha b hb e=>hd a ha (e ▸ hb)⟩
theorem sS{m:Mem}{s:Int}:l6 m s=3↔0≤bG m.aE s∧s∉eT m.aB∧mJ m.aE s≤6:=by
  unfold l6
  constructor
  · intro h
    split at h
    · omega
    · split at h
      · omega
      · split at h
        · omega
        · exact⟨by omega,by assumption,by omega⟩
  · rintro⟨a,b,c⟩
    rw [if_neg (by omega),if_neg b,if_neg (by omega)]
noncomputable section
variable {m:Mem} (hm:tK m)
include hm
theorem tK.aYV{k:Nat}(hk:k < 9){t:aK}(ht:t.aM.Sublist (eD m.aB.Own k)):xQ m ⟨m.aE,⟨m.aB.Global,m.aB.Own.set k t⟩⟩ (-1):=by
  obtain⟨⟨hh,h3,h9,h2,hr,hn⟩,hg,ho⟩:=hm
  have hk':k < m.aB.Own.length:=by omega
  have ht':t.aM.Sublist m.aB.Own[k].aM:=by rw [dM hk'];exact ht
  have hsub:(eT ⟨m.aB.Global,m.aB.Own.set k t⟩).Sublist (eT m.aB):=(aLR _).append (aHH hk' ht')
  refine⟨⟨⟨hh,h3,by simpa using h9,fun s hs=>?_,fun x hx=>hr x (hsub.subset hx),hsub.nodup hn⟩,hg,fun j hj=>?_⟩,fun s hs _=>⟨?_,rfl,rfl⟩⟩
  · rcases oW hs with q | rfl
    · exact h2 s q
    · have:=ht'.length_le;have:=h2 _ (dP hk');omega
  · unfold DQ
    simp only [BC hk']
    split
    · rename_i e;subst e
      exact fun x hx=>ho j hj x (ht.subset hx)
    · exact ho j hj
  · rw [sS] at hs ⊢
    exact⟨hs.1,fun q=>hs.2.1 (hsub.subset q),hs.2.2⟩
theorem tK.aPU{k:Nat}(hk:k < 3){t:aK}(ht:t.aM.Sublist (eD m.aB.Global k)):xQ m ⟨m.aE,⟨m.aB.Global.set k t,m.aB.Own⟩⟩ (-1):=by
  obtain⟨⟨hh,h3,h9,h2,hr,hn⟩,hg,ho⟩:=hm
  have hk':k < m.aB.Global.length:=by omega
  have ht':t.aM.Sublist m.aB.Global[k].aM:=by rw [dM hk'];exact ht
  have hsub:(eT ⟨m.aB.Global.set k t,m.aB.Own⟩).Sublist (eT m.aB):=(aHH hk' ht').append (aLR _)
  refine⟨⟨⟨hh,by simpa using h3,h9,h2,fun x hx=>hr x (hsub.subset hx),hsub.nodup hn⟩,fun j hj=>?_,ho⟩,fun s hs _=>⟨?_,rfl,rfl⟩⟩
  · unfold J5
    simp only [BC hk']
    split
    · rename_i e;subst e
      exact fun x hx=>hg j hj x (ht.subset hx)
    · exact hg j hj
  · rw [sS] at hs ⊢
    exact⟨hs.1,fun q=>hs.2.1 (hsub.subset q),hs.2.2⟩
theorem tK.aV4{k:Nat}(hk:k < 9){xs:List Int}(hl:(eD m.aB.Own k).length+xs.length≤2)(hx:xs.Nodup)(hf:DP m.aE xs ((k % 3:Nat):Int))(hd:∀x∈xs,x∉eT m.aB)(hk':k < m.aB.Own.length) :
    tK ⟨m.aE,⟨m.aB.Global,m.aB.Own.set k ⟨m.aB.Own[k].aM++xs⟩⟩⟩∧∀s,s∉xs→l6 m s=3→l6 ⟨m.aE,⟨m.aB.Global,m.aB.Own.set k ⟨m.aB.Own[k].aM++xs⟩⟩⟩ s=3:=by
  obtain⟨⟨hh,h3,h9,h2,hr,hn⟩,hg,ho⟩:=hm
  have hmem:∀s,s∈eT ⟨m.aB.Global,m.aB.Own.set k ⟨m.aB.Own[k].aM++xs⟩⟩↔s∈eT m.aB∨s∈xs:=fun s=>by
    unfold eT;simp only [gK,WM hk'];rw [or_assoc]
  have hcl:∀x∈xs,0≤x∧x≤23:=fun x h=>by
    have:=(hf x h).1
    exact(AA (h:=m.aE) (s:=x) (by omega)).1
  refine⟨⟨⟨hh,h3,by simpa using h9,fun s hs=>?_,fun x hx=>?_,?_⟩,hg,fun j hj=>?_⟩,fun s hs h3=>?_⟩
  · rcases oW hs with q | rfl
    · exact h2 s q
    · rw [←dM hk'] at hl;simpa using hl
  · rcases(hmem x).1 hx with q | q
    · exact hr x q
    · exact hcl x q
  · have:=RP (q:=dD m.aB.Global) (r:=[]) hk' (by simpa [eT] using hn) hx (by simpa [eT] using hd)
    simpa [eT] using this
  · unfold DQ
    simp only [BC hk']
    split
    · rename_i e;subst e
      intro x hx
      rcases gK.1 hx with q | q
      · rw [dM hk'] at q;exact ho j hj x q
      · exact hf x q
    · exact ho j hj
  · rw [sS] at h3 ⊢
    exact⟨h3.1,fun q=>(((hmem s).1 q).elim h3.2.1 hs),h3.2.2⟩
theorem tK.aEN{k:Nat}(hk:k < 3){xs:List Int}(hx:xs.Nodup)(hf:DP m.aE xs (k:Int))(hd:∀x∈xs,x∉eT m.aB)(hk':k < m.aB.Global.length) :
    tK ⟨m.aE,⟨m.aB.Global.set k ⟨m.aB.Global[k].aM++xs⟩,m.aB.Own⟩⟩∧∀s,s∉xs→l6 m s=3→l6 ⟨m.aE,⟨m.aB.Global.set k ⟨m.aB.Global[k].aM++xs⟩,m.aB.Own⟩⟩ s=3:=by
  obtain⟨⟨hh,h3,h9,h2,hr,hn⟩,hg,ho⟩:=hm
  have hmem:∀s,s∈eT ⟨m.aB.Global.set k ⟨m.aB.Global[k].aM++xs⟩,m.aB.Own⟩↔s∈eT m.aB∨s∈xs:=fun s=>by
    unfold eT;simp only [gK,WM hk'];rw [or_right_comm]
  have hcl:∀x∈xs,0≤x∧x≤23:=fun x h=>by
    have:=(hf x h).1
    exact(AA (h:=m.aE) (s:=x) (by omega)).1
  refine⟨⟨⟨hh,by simpa using h3,h9,h2,fun x hx=>?_,?_⟩,fun j hj=>?_,ho⟩,fun s hs h3=>?_⟩
  · rcases(hmem x).1 hx with q | q
    · exact hr x q
    · exact hcl x q
  · have:=RP (q:=[]) (r:=dD m.aB.Own) hk' (by simpa [eT] using hn) hx (by simpa [eT] using hd)
    simpa [eT] using this
  · unfold J5
    simp only [BC hk']
    split
    · rename_i e;subst e
      intro x hx
      rcases gK.1 hx with q | q
      · rw [dM hk'] at q;exact hg j hj x q
      · exact hf x q
    · exact hg j hj
  · rw [sS] at h3 ⊢
    exact⟨h3.1,fun q=>(((hmem s).1 q).elim h3.2.1 hs),h3.2.2⟩
theorem tK.RQ{x:Int}(hx:x∈eT m.aB):0≤bG m.aE x∧mJ m.aE x≤6:=by
  obtain⟨⟨hh,h3,h9,h2,hr,hn⟩,hg,ho⟩:=hm
  have key:∀(l:List aK),x∈dD l→∃k,k < l.length∧x∈eD l k:=fun l h=>by
    obtain⟨s,h1,h2⟩:=SA.1 h
    obtain⟨k,hk,rfl⟩:=ON.1 h1
    exact⟨k,hk,by rw [←dM hk];exact h2⟩
  rcases gK.1 hx with q | q
  · obtain⟨k,hk,h⟩:=key _ q
    have:=hg k (by omega) x h
    exact⟨by omega,this.2⟩
  · obtain⟨k,hk,h⟩:=key _ q
    have:=ho k (by omega) x h
    exact⟨by omega,this.2⟩
theorem tK.heap{h':aE}(hh:WX h')(hs:∀x∈eT m.aB,bG h' x=bG m.aE x∧mJ h' x=mJ m.aE x):tK ⟨h',m.aB⟩:=by
  obtain⟨⟨_,hl⟩,hg,ho⟩:=hm
  have key:∀(l:List aK) k x,x∈eD l k→x∈dD l:=fun l k x h=>by
    unfold eD at h
    rw [iX] at h
    cases hk:l[k]? with
    | none=>rw [hk] at h;simp at h
    | some s=>rw [hk] at h;exact SA.2 ⟨s,AQ hk,h⟩
  refine⟨⟨hh,hl⟩,fun k hk x hx=>?_,fun k hk x hx=>?_⟩
  · obtain⟨a,b⟩:=hs x (P2 _ (key _ k x hx))
    show bG h' x=_∧mJ h' x≤6
    rw [a,b];exact hg k hk x hx
  · obtain⟨a,b⟩:=hs x (YL _ (key _ k x hx))
    show bG h' x=_∧mJ h' x≤6
    rw [a,b];exact ho k hk x hx
theorem tK.a1H{s g:Int}(hu:l6 m s=3)(hg:1≤g∧g≤7):xQ m ⟨⟨st4 m.aE.Bytes (fM s (bG m.aE s)).toNat g,m.aE.Class⟩,m.aB⟩ s∧mJ ⟨st4 m.aE.Bytes (fM s (bG m.aE s)).toNat g,m.aE.Class⟩ s=g:=by
  have hu':=sS.1 hu
  obtain⟨a,b⟩:=WX.aYU hm.1.1 hu'.1 hg
  refine⟨⟨tK.heap hm a fun x hx=>⟨rfl,?_⟩,fun t ht hn=>?_⟩,by rw [b s hu'.1,if_pos rfl]⟩
  · rw [b x (tK.RQ hm hx).1,if_neg (show ¬x=s from fun e=>hu'.2.1 (e ▸ hx))]
  · have ht':=sS.1 ht
    have e:mJ ⟨st4 m.aE.Bytes (fM s (bG m.aE s)).toNat g,m.aE.Class⟩ t=mJ m.aE t:=by rw [b t ht'.1,if_neg hn]
    exact⟨sS.2 ⟨ht'.1,ht'.2.1,by simp only [e];exact ht'.2.2⟩,e,rfl⟩
theorem tK.a0L{p:Nat}(hp:p < 6)(hun:cC m.aE p < 0){c:Int}(hc:0≤c∧c≤2){xs:List Int}(hxs:∀x∈xs,∃i,i < (cK c).toNat∧x=(p:Int) * 4+(i:Nat))(hx:xs.Nodup)(hk':c.toNat < m.aB.Global.length) :
    xQ m ⟨⟨gB m.aE.Bytes p c (cK c).toNat,m.aE.Class.set p c⟩,⟨m.aB.Global.set c.toNat ⟨m.aB.Global[c.toNat].aM++xs⟩,m.aB.Own⟩⟩ (-1):=by
  obtain⟨a,b,d,e⟩:=WX.a0K hm.1.1 hp hun hc
  have h1:tK ⟨⟨gB m.aE.Bytes p c (cK c).toNat,m.aE.Class.set p c⟩,m.aB⟩:=tK.heap hm a fun x hx=>by
    obtain⟨q,r⟩:=d x (tK.RQ hm hx).1
    exact⟨b x q,r⟩
  have hno:∀x∈xs,¬0≤bG m.aE x:=fun x h q=>by
    obtain⟨i,hi,rfl⟩:=hxs x h
    have h4:=mY c
    exact(d _ q).1 (by omega)
  obtain⟨f,g⟩:=tK.aEN h1 (k:=c.toNat) (by omega) hx (fun x h=>by
    obtain⟨i,hi,rfl⟩:=hxs x h
    have:=e i hi
    exact⟨by simp only [this.1];omega,by simp only [this.2];omega⟩) (fun x h q=>hno x h (tK.RQ hm q).1) hk'
  refine⟨f,fun s hs _=>?_⟩
  have hs':=sS.1 hs
  obtain⟨q,r⟩:=d s hs'.1
  have h2:l6 ⟨⟨gB m.aE.Bytes p c (cK c).toNat,m.aE.Class.set p c⟩,m.aB⟩ s=3:=sS.2 ⟨by simp only [b s q];exact hs'.1,hs'.2.1,by simp only [r];exact hs'.2.2⟩
  exact⟨g s (fun h=>hno s h hs'.1) h2,r,b s q⟩
end
end Go.Gv
end
noncomputable section
namespace Go.Gv
theorem aYW{p n:Nat}{x:Int}(h:x∈gS p n):∃i,i < n∧x=(p:Int) * 4+(i:Nat):=by
  simp only [gS,List.mem_map,List.mem_range] at h
  obtain⟨i,h1,h2⟩:=h
  exact⟨i,h1,h2.symm⟩
theorem aTL(p n:Nat):(gS p n).Nodup:=by
  unfold gS
  rw [List.Nodup,List.pairwise_map]
  exact List.Pairwise.imp (fun h e=>h (by omega)) (List.nodup_range (n:=n))
theorem aKV{m:Mem}(hm:tK m){c:Int}(hc:0≤c∧c≤2) :
    ∃m' s,wY m c=some (m',s)∧HW m c=some (m',s)∧xW m'∧(0≤s→eZ m'.aE∧0≤bG m'.aE s)∧xQ m m' (-1):=by
  have hl:=hm.1.2
  have hcnt:=hl.count
  have hs:=hm.1.1.1
  have hsl:=hl.WG (by omega)
  have hp4:=mY c
  have hpp:0 < cK c:=kN.2 hc
  have hall:=qS m.aB
  have hsG:∀s∈m.aB.Global,s.aM.length≤24:=fun s h=>by have:=GF h;omega
  have hsO:∀s∈m.aB.Own,s.aM.length≤24:=fun s h=>by have:=GF h;omega
  have h3:=hl.1
  have h9:=hl.2.1
  have hcpl:=MA (l:=m.aB) (by omega) (by omega) (fun s h=>by have:=hsG s h;omega) (fun s h=>by have:=hsO s h;omega)
  unfold wY HW
  rcases aTJ hm.1.1 hc with ⟨e1,e2⟩ | ⟨p,hp,hun,e1,e2⟩
  · rw [e1,e2,hcpl]
    have h1:=hs.1;have h2:=hs.2.1
    exact⟨_,_,rfl,rfl,⟨by simp only;omega,by simp only;omega,by simp only;omega,by simp only;omega,by simp only;omega⟩,fun h=>absurd h (by omega),xQ.refl hm _⟩
  · rw [e1,e2,hcpl]
    simp only [aG,GS,GR,z5,MD]
    have hn:(((cK c).toNat:Int) == 0)=false:=by simpa using (by omega:¬((cK c).toNat:Int)=0)
    have hk:c.toNat < m.aB.Global.length:=by omega
    have hg0:=hsG _ (dP hk)
    have hx:idx m.aB.Global c=some m.aB.Global[c.toNat]:=fL hc.1 (by omega)
    have hz:idx (gS p (cK c).toNat) 0=some ((p:Int) * 4):=by
      have:=aR (l:=gS p (cK c).toNat) (k:=0) (by rw [MD];omega)
      rw [show((0:Nat):Int)=0 from rfl] at this
      rw [this];simp [gS]
    have hlen:(List.drop (1:Int).toNat (List.take (cK c).toNat (gS p (cK c).toNat))).length≤4:=by simp [MD];omega
    simp only [hn,aN,if_false,hx,aG,hz]
    rw [aO (by omega),aO (by omega)]
    have hcl:cC ⟨gB m.aE.Bytes p c (cK c).toNat,m.aE.Class.set p c⟩ p=c:=by
      have h6:=hs.2.1
      unfold cC;simp [iX,List.getElem?_set,h6,hp]
    refine⟨_,_,rfl,rfl,⟨by simp only [MC];have:=hs.1;omega,by simp only [b9];have:=hs.2.1;omega,by simp only [b9];omega,by simp only;omega,?_⟩,fun _=>⟨⟨by simp only [MC];exact hs.1,by simp only [b9];exact hs.2.1,aI6 hs.2.2.1 p hc _,fun x hx=>?_⟩,?_⟩,?_⟩
    · rw [qS];simp only [UI hk];omega
    · rcases oW hx with h | rfl
      · exact hs.2.2.2 x h
      · omega
    · unfold bG
      have e4:((p:Int) * 4 / 4).toNat=p:=by omega
      rw [e4]
      simp only [hcl]
      rw [if_pos ⟨by omega,by omega⟩];exact hc.1
    · exact tK.a0L hm hp hun hc (fun x hx=>aYW (aBS (aBR hx))) ((aTL p _).sublist ((List.drop_sublist _ _).trans (List.take_sublist _ _))) hk
theorem AM(n:Int):∃c,j6 n=some c∧wL n=some c∧(c = -1∨(0≤c∧c≤2)):=by
  have s1:∀k,0≤k∧k≤2→fC n k=some (if 1≤n∧n≤gI k then .stop (Out.ret k) else .next (k+1)):=fun k hk=>by
    simp only [fC]
    rw [if_pos (by simp;omega),qR,aG,b7,aG,aP (by omega) (by omega)]
    by_cases q:1≤n∧n≤gI k
    · rw [bD q,if_pos rfl,if_pos q]
    · rw [bQ q,if_neg (by simp),if_neg q]
  have s2:∀k,0≤k∧k≤2→jE n k=some (if 1≤n∧n≤gI k then .stop (Out.ret k) else .next (k+1)):=fun k hk=>by
    simp only [jE,zN]
    rw [if_pos (by simp;omega),RC,aG,aP (by omega) (by omega)]
    by_cases q1:1≤n
    · by_cases q2:n≤gI k <;> simp [q1,q2]
    · simp [q1]
  have st:∀k,0≤k∧k≤2→1≤n∧n≤gI k→loop (fC n) k=some (Out.ret k)∧loop (jE n) k=some (Out.ret k):=fun k hk h=>
    ⟨bM (by rw [s1 k hk,if_pos h]),bM (by rw [s2 k hk,if_pos h])⟩
  have nx:∀k,0≤k∧k≤2→¬(1≤n∧n≤gI k)→loop (fC n) k=loop (fC n) (k+1)∧loop (jE n) k=loop (jE n) (k+1):=fun k hk h=>
    ⟨bX (by rw [s1 k hk,if_neg h]),bX (by rw [s2 k hk,if_neg h])⟩
  unfold j6 wL
  by_cases q0:1≤n∧n≤gI 0
  · have:=st 0 (by omega) q0
    rw [this.1,this.2];exact⟨_,rfl,rfl,.inr (by omega)⟩
  · have h0:=nx 0 (by omega) q0
    rw [h0.1,h0.2,show(0:Int)+1=1 from rfl]
    by_cases q1:1≤n∧n≤gI 1
    · have:=st 1 (by omega) q1
      rw [this.1,this.2];exact⟨_,rfl,rfl,.inr (by omega)⟩
    · have h1:=nx 1 (by omega) q1
      rw [h1.1,h1.2,show(1:Int)+1=2 from rfl]
      by_cases q2:1≤n∧n≤gI 2
      · have:=st 2 (by omega) q2
        rw [this.1,this.2];exact⟨_,rfl,rfl,.inr (by omega)⟩
      · have h2:=nx 2 (by omega) q2
        rw [h2.1,h2.2,show(2:Int)+1=3 from rfl,bM (body:=fC n) (r:=Out.brk ()) (by simp [fC]),bM (body:=jE n) (r:=Out.brk ()) (by simp [jE])]
        exact⟨_,rfl,rfl,.inl rfl⟩
theorem aTM{s:aK}(hl:s.aM.length≤1048576):∃t x,oQ s=some (t,x)∧uU s=some (x,t)∧t.aM.length≤s.aM.length∧(0≤x→x∈s.aM)∧t.aM.Sublist s.aM:=by
  unfold oQ uU FA
  rw [aP (by omega) (by omega)]
  by_cases q:s.aM.length=0
  · rw [if_pos (by simpa using q),if_pos (by simp;omega)]
    exact⟨_,_,rfl,rfl,iW _,fun h=>absurd h (by omega),aLR _⟩
  · have hx:idx s.aM ((s.aM.length:Int) - 1)=some (s.aM[s.aM.length - 1]'(by omega)):=by
      rw [show((s.aM.length:Int) - 1)=((s.aM.length - 1:Nat):Int) by omega,aR (by omega)]
    rw [if_neg (by simpa using q),if_neg (by simp;omega),aO (by omega),hx]
    simp only [aG]
    rw [aO (by omega)]
    exact⟨_,_,rfl,rfl,by simp,fun _=>dP _,(List.drop_sublist _ _).trans (List.take_sublist _ _)⟩
theorem zD{w c:Int}(hw:0≤w∧w≤2)(hc:0≤c∧c≤2):rO w c=some (w * 3+c)∧D8 w c=some (w * 3+c):=by
  have e:aV (aV (w * 3)+c)=w * 3+c:=by rw [aP (x:=w * 3) (by omega) (by omega),aP (by omega) (by omega)]
  constructor
  · unfold rO yU;rw [b7,b7,bD hw,bD hc,e];rfl
  · unfold D8 E0;rw [jG,jF,bD hw,bD hc,e];rfl
theorem aEO{l:List aK}{k:Nat}(hk:k < l.length){t:aK}(ht:t.aM.length≤l[k].aM.length):(dD (l.set k t)).length≤(dD l).length:=by
  rw [IT hk,GG hk];simp;omega
noncomputable section
variable {m:Mem} (hm:tK m)
include hm
theorem tK.facts:(eT m.aB).length≤24∧m.aB.Global.length=3∧m.aB.Own.length=9∧m.aE.Bytes.length=384∧m.aE.Class.length=6∧xW m∧iF m.aB=some m.aB∧jY m.aB=some true ∧
    (∀s∈m.aB.Global,s.aM.length≤24)∧(∀s∈m.aB.Own,s.aM.length≤24):=by
  have hl:=hm.1.2
  have hcnt:=hl.count
  have hall:=qS m.aB
  have hsG:∀s∈m.aB.Global,s.aM.length≤24:=fun s h=>by have:=GF h;omega
  have hsO:∀s∈m.aB.Own,s.aM.length≤24:=fun s h=>by have:=GF h;omega
  have h3:=hl.1;have h9:=hl.2.1
  have h1:=hm.1.1.1.1;have h2:=hm.1.1.1.2.1
  refine⟨hcnt,h3,h9,h1,h2,⟨by omega,by omega,by omega,by omega,by omega⟩,MA (by omega) (by omega) (fun s h=>by have:=hsG s h;omega) (fun s h=>by have:=hsO s h;omega),by rw [PM (by omega),bD hl],hsG,hsO⟩
theorem aEP{w c:Int}(hw:0≤w∧w≤2)(hc:0≤c∧c≤2) :
    ∃l t x,idx m.aB.Own (w * 3+c)=some l∧oQ l=some (t,x)∧HV m.aB w c=some (⟨m.aB.Global,m.aB.Own.set (w * 3+c).toNat t⟩,x) ∧
      xW ⟨m.aE,⟨m.aB.Global,m.aB.Own.set (w * 3+c).toNat t⟩⟩∧(0≤x→0≤bG m.aE x)∧xQ m ⟨m.aE,⟨m.aB.Global,m.aB.Own.set (w * 3+c).toNat t⟩⟩ (-1):=by
  obtain⟨hcnt,h3,h9,h1,h2,hsm,hcp,hlo,hsG,hsO⟩:=tK.facts hm
  have hk:(w * 3+c).toNat < m.aB.Own.length:=by omega
  have hx:idx m.aB.Own (w * 3+c)=some m.aB.Own[(w * 3+c).toNat]:=fL (by omega) (by omega)
  have h24:=hsO _ (dP hk)
  obtain⟨t,x,e1,e2,ht,hmem,hsub⟩:=aTM (s:=m.aB.Own[(w * 3+c).toNat]) (by omega)
  have hall:=qS m.aB
  refine⟨_,t,x,hx,e1,?_,⟨by simp only;omega,by simp only;omega,by simp only;omega,by simp only [b9];omega,?_⟩,fun h0=>?_,tK.aYV hm (by omega) (by rw [←dM hk];exact hsub)⟩
  · unfold HV zO
    rw [hcp,(zD hw hc).2,hlo]
    simp only [aG,dA,aN,if_false]
    rw [bQ (by omega),if_neg (by simp),hx,aG,e2];rfl
  · have:=aEO hk ht
    rw [qS];simp only;omega
  · have:=hm.2.2 (w * 3+c).toNat (by omega) x (by rw [←dM hk];exact hmem h0)
    omega
theorem TQ{c:Int}(hc:0≤c∧c≤2) :
    ∃l t x,idx m.aB.Global c=some l∧oQ l=some (t,x)∧zP m.aB c=some (⟨m.aB.Global.set c.toNat t,m.aB.Own⟩,x) ∧
      xW ⟨m.aE,⟨m.aB.Global.set c.toNat t,m.aB.Own⟩⟩∧(0≤x→0≤bG m.aE x)∧xQ m ⟨m.aE,⟨m.aB.Global.set c.toNat t,m.aB.Own⟩⟩ (-1):=by
  obtain⟨hcnt,h3,h9,h1,h2,hsm,hcp,hlo,hsG,hsO⟩:=tK.facts hm
  have hk:c.toNat < m.aB.Global.length:=by omega
  have hx:idx m.aB.Global c=some m.aB.Global[c.toNat]:=fL (by omega) (by omega)
  have h24:=hsG _ (dP hk)
  obtain⟨t,x,e1,e2,ht,hmem,hsub⟩:=aTM (s:=m.aB.Global[c.toNat]) (by omega)
  have hall:=qS m.aB
  refine⟨_,t,x,hx,e1,?_,⟨by simp only;omega,by simp only;omega,by simp only [b9];omega,by simp only;omega,?_⟩,fun h0=>?_,tK.aPU hm (by omega) (by rw [←dM hk];exact hsub)⟩
  · unfold zP rJ
    rw [hcp,hlo,jF,bD hc]
    simp only [aG,dA,aN,if_false]
    rw [hx,aG,e2];rfl
  · have:=aEO hk ht
    rw [qS];simp only;omega
  · have:=hm.2.1 c.toNat (by omega) x (by rw [←dM hk];exact hmem h0)
    omega
theorem aV5{w h:Int}(hw:0≤w∧w≤2)(hv:qU m h):∃m',A4 m w (h % 32)=some m'∧NV m w h=some m'∧xW m'∧xQ m m' (h % 32):=by
  obtain⟨hcnt,h3,h9,h1,h2,hsm,hcp,hlo,hsG,hsO⟩:=tK.facts hm
  have hs:=hm.1.1.1
  have hh:=hv.1
  have hhm:=hh.mod
  have hcl:=BA hv.2.1
  have hgo:=FM hcl
  have hc2:0≤bG m.aE (h % 32)∧bG m.aE (h % 32)≤2:=by
    obtain⟨_,q,e⟩:=AA hcl
    rw [e];exact kN.1 (by omega)
  have hg6:1≤h / 32∧h / 32≤6:=by unfold mK at hh;omega
  have hbl:m.aE.Bytes.length≤maxLen:=by rw [h1];simp [maxLen]
  have hnot:h % 32∉eT m.aB:=fun q=>by
    have:=hv.2.1;unfold l6 at this;rw [if_neg (by omega),if_pos q] at this;omega
  have hcpH:=OD (h:=m.aE) (by omega) (by omega)
  have eo:fM (h % 32) (bG m.aE (h % 32))=(((fM (h % 32) (bG m.aE (h % 32))).toNat:Nat):Int):=by omega
  have ew:aV (h / 32+1)=h / 32+1:=aP (by omega) (by omega)
  have ed:aV (Int.tdiv h 32)=h / 32:=by rw [GD (by unfold mK at hh;omega),aP (by omega) (by omega)]
  have hall:=qS m.aB
  obtain⟨hr1,hr2⟩:=tK.a1H hm hv.2.1 (g:=h / 32+1) (by omega)
  have hu:=sS.1 hv.2.1
  unfold A4 NV QL rD
  rw [hhm.1,iL hs,hcpH,DO hbl,bD hs,lJ hs,ed,ew,hcp]
  simp only [aG,dA,aN,if_false,I5,CG,I4]
  rw [oV hs hcl,hv.2.2,eA,bQ (show ¬bG m.aE (h % 32) < 0 by omega),bD (show 1≤h / 32+1∧h / 32+1≤7 by omega)]
  simp only [aG,dA,aN,if_false,tJ,y7,ew]
  generalize hgn:(fM (h % 32) (bG m.aE (h % 32))).toNat=a at eo
  rw [hgn] at hr1 hr2
  rw [eo,G6 (by omega) (by omega) (by omega),TP (by omega)]
  simp only [aG]
  rw [RO (by omega) (by omega) (by omega)]
  simp only [aG,CZ,LM,ed,ew,hhm.1]
  by_cases q:h / 32+1≤6
  · have hk:(w * 3+bG m.aE (h % 32)).toNat < m.aB.Own.length:=by omega
    have hx:idx m.aB.Own (w * 3+bG m.aE (h % 32))=some m.aB.Own[(w * 3+bG m.aE (h % 32)).toNat]:=fL (by omega) (by omega)
    have hk2:(bG m.aE (h % 32)).toNat < m.aB.Global.length:=by omega
    have hx2:idx m.aB.Global (bG m.aE (h % 32))=some m.aB.Global[(bG m.aE (h % 32)).toNat]:=fL (by omega) (by omega)
    have b1:=hsO _ (dP hk)
    have b2:=hsG _ (dP hk2)
    rw [bD q,if_pos rfl,if_pos rfl]
    unfold KU XF wO
    rw [lJ hs,aG,hcp,(zD hw hc2).1,(zD hw hc2).2,hlo,wA,bD (show 0≤h % 32∧h % 32≤23 by omega),RL (by omega) (by simp only [maxLen];omega) (by simp only [maxLen];omega),bQ hnot]
    simp only [aG,dA,aN,if_false,hx,hx2]
    have nz:¬w * 3+bG m.aE (h % 32) < 0:=by omega
    simp only [bQ nz,aN,if_false]
    by_cases q2:m.aB.Own[(w * 3+bG m.aE (h % 32)).toNat].aM.length < 2
    · have y1:(m.aB.Own[(w * 3+bG m.aE (h % 32)).toNat].aM.length:Int) < 2:=by omega
      have y2:¬(2:Int)≤m.aB.Own[(w * 3+bG m.aE (h % 32)).toNat].aM.length:=by omega
      simp only [bD y1,bQ y2,aN,if_false,if_true]
      rw [aO (by simp;omega),aO (by simp;omega)]
      refine⟨_,rfl,rfl,⟨by simp only [FP];omega,by simp only;omega,by simp only;omega,by simp only [b9];omega,?_⟩,?_⟩
      · rw [qS];simp only [UI hk];simp;omega
      · have hmod:((w * 3+bG m.aE (h % 32)).toNat % 3:Nat)=(bG m.aE (h % 32)).toNat:=by omega
        obtain⟨z1,z2⟩:=tK.aV4 hr1.1 (k:=(w * 3+bG m.aE (h % 32)).toNat) (by omega) (xs:=[h % 32]) (by simp only [←dM hk,KA,SO];omega) (by simp) (fun x hx=>by
          simp at hx;subst hx
          exact⟨by rw [hmod];show bG m.aE (h % 32)=_;omega,by rw [hr2];omega⟩) (fun x hx=>by simp at hx;subst hx;exact hnot) hk
        refine⟨z1,fun s h1 h2=>?_⟩
        obtain⟨y1,y2,y3⟩:=hr1.2 s h1 h2
        exact⟨z2 s (by simpa using h2) y1,y2,y3⟩
    · have y1:¬(m.aB.Own[(w * 3+bG m.aE (h % 32)).toNat].aM.length:Int) < 2:=by omega
      have y2:(2:Int)≤m.aB.Own[(w * 3+bG m.aE (h % 32)).toNat].aM.length:=by omega
      simp only [bD y2,bQ y1,aN,if_false,if_true]
      rw [aO (by simp;omega),aO (by simp;omega)]
      refine⟨_,rfl,rfl,⟨by simp only [FP];omega,by simp only;omega,by simp only [b9];omega,by simp only;omega,?_⟩,?_⟩
      · rw [qS];simp only [UI hk2];simp;omega
      · obtain⟨z1,z2⟩:=tK.aEN hr1.1 (k:=(bG m.aE (h % 32)).toNat) (by omega) (xs:=[h % 32]) (by simp) (fun x hx=>by
          simp at hx;subst hx
          exact⟨by show bG m.aE (h % 32)=_;omega,by rw [hr2];omega⟩) (fun x hx=>by simp at hx;subst hx;exact hnot) hk2
        refine⟨z1,fun s h1 h2=>?_⟩
        obtain⟨y1,y2,y3⟩:=hr1.2 s h1 h2
        exact⟨z2 s (by simpa using h2) y1,y2,y3⟩
  · rw [bQ q,if_neg (by simp),if_neg (by simp)]
    refine⟨_,rfl,rfl,⟨by simp only [FP];omega,by simp only;omega,by simp only;omega,by simp only;omega,by rw [qS];simp only;omega⟩,hr1⟩
end
theorem alloc_eq{b:aD}(hm:tK b.Mem){w:Int}(hw:0≤w∧w≤2)(s:Sub) :
    ∃x y,tD b w s=some (x,y)∧rK s b w=some (y,x)∧∃m',x=⟨m',b.aH,b.aU,b.mA⟩∧xW m'∧xQ b.Mem m' (-1):=by
  have hsm:=(tK.facts hm).2.2.2.2.2.1
  have hs:=hm.1.1.1
  obtain⟨c,ec,ei,hcc⟩:=AM s.A
  unfold tD rK
  rw [ec,ei]
  simp only [aG]
  by_cases c0:c < 0
  · simp only [bD c0,if_true,bK,bI];exact⟨_,_,rfl,rfl,_,rfl,hsm,xQ.refl hm _⟩
  have hc:0≤c∧c≤2:=by omega
  simp only [bQ c0,aN,if_false]
  have fin:∀(m':Mem) (x:Int),xW m'→xQ b.Mem m' (-1)→(0≤x→eZ m'.aE∧0≤bG m'.aE x) →
      ∃X Y,hJ s x ⟨m',b.aH,b.aU,b.mA⟩=some (X,Y)∧iD s x ⟨m',b.aH,b.aU,b.mA⟩=some (Y,X)∧∃m',X=⟨m',b.aH,b.aU,b.mA⟩∧xW m'∧xQ b.Mem m' (-1):=by
    intro m' x hs' hst hx
    unfold hJ iD
    simp only [qA,IE,bK,bI]
    by_cases x0:0≤x
    · obtain⟨h,e1,e2⟩:=aPT (m:=m') (hx x0).1 (hx x0).2
      rw [bQ (show ¬x < 0 by omega),bD x0]
      simp only [aN,if_false,if_true,e1,e2,aG]
      exact⟨_,_,rfl,rfl,m',rfl,hs',hst⟩
    · rw [bD (show x < 0 by omega),bQ x0]
      by_cases p3:s.Pc=3
      · simp only [p3,beq_self_eq_true,if_true,aN,if_false,aG];exact⟨_,_,rfl,rfl,m',rfl,hs',hst⟩
      · have p3':(s.Pc == 3)=false:=by simpa using p3
        simp only [p3',if_true,aN,if_false,aG];exact⟨_,_,rfl,rfl,m',rfl,hs',hst⟩
  by_cases p0:s.Pc=0
  · obtain⟨l,t,x,e1,e2,e3,h1,h2,h3⟩:=aEP hm hw hc
    simp only [p0,beq_self_eq_true,if_true,(zD hw hc).1,aG,e1,e2,e3]
    exact fin _ x h1 h3 (fun h=>⟨hs,h2 h⟩)
  · have p0':(s.Pc == 0)=false:=by simpa using p0
    simp only [p0',aN,if_false,qB,mX]
    obtain⟨l,t,x,e1,e2,e3,h1,h2,h3⟩:=TQ hm hc
    by_cases p1:s.Pc=1
    · simp only [p1,beq_self_eq_true,if_true,aG,e1,e2,e3]
      exact fin _ x h1 h3 (fun h=>⟨hs,h2 h⟩)
    · have p1':(s.Pc == 1)=false:=by simpa using p1
      simp only [p1',aN,if_false]
      by_cases p3:s.Pc=3
      · simp only [p3,beq_self_eq_true,if_true,aG,e1,e2,e3]
        exact fin _ x h1 h3 (fun h=>⟨hs,h2 h⟩)
      · have p3':(s.Pc == 3)=false:=by simpa using p3
        simp only [p3',aN,if_false]
        by_cases p2:s.Pc=2
        · obtain⟨m',x,e1,e2,h1,h2,h3⟩:=aKV hm hc
          simp only [p2,beq_self_eq_true,if_true,aG,e1,e2]
          exact fin m' x h1 h3 h2
        · have p2':(s.Pc == 2)=false:=by simpa using p2
          simp only [p2',aN,if_false,bK,bI];exact⟨_,_,rfl,rfl,_,rfl,hsm,xQ.refl hm _⟩
end Go.Gv
end
noncomputable section
namespace Go.Gv
theorem aOR(r:c9)(e:Int):∃v,EC r e=some v∧MX r e=some v:=by
  unfold EC MX CV HY
  by_cases h:2≤e
  · simp only [bD h,if_true];exact⟨_,rfl,rfl⟩
  · simp only [bQ h,aN,if_false];exact⟨_,rfl,rfl⟩
theorem aV6{b:aD}{w:Int}{l:aS}(hx:idx b.aU w=some l)(hl:l.Rows.length≤1000)(s:Sub) :
    (rQ l.Rows s.Row s.E=some (-1)∧nS s b w=(bI s 0).bind fun x=>some (x,b)) ∨
    ∃k,∃h:k < l.Rows.length,rQ l.Rows s.Row s.E=some (k:Int)∧nS s b w=some (⟨s.Kind,s.A,2,s.E,(k:Int),0,l.Rows[k].Handle,s.Out,s.Code,s.cS⟩,b):=by
  have key:∀d k,k+d=l.Rows.length →
      (loop (eC l.Rows s.E) (k:Int)=some (Out.brk ())∧loop (eS s b w) (k:Int)=some (Out.brk ())) ∨
      ∃j,∃h:j < l.Rows.length,loop (eC l.Rows s.E) (k:Int)=some (Out.ret (j:Int))∧loop (eS s b w) (k:Int)=some (Out.ret (⟨s.Kind,s.A,2,s.E,(j:Int),0,l.Rows[j].Handle,s.Out,s.Code,s.cS⟩,b)):=by
    intro d
    induction d with
    | zero =>
      intro k hk
      left
      exact⟨bM (by simp only [eC];rw [if_neg (by simp;omega)]),bM (by simp only [eS,hx,aG];rw [if_neg (by simp;omega)])⟩
    | succ d ih =>
      intro k hk
      have hk':k < l.Rows.length:=by omega
      obtain⟨v,e1,e2⟩:=aOR l.Rows[k] s.E
      cases v with
      | true =>
        right
        refine⟨k,hk',bM ?_,bM ?_⟩
        · simp only [eC]
          rw [if_pos (by simp;omega),aR hk',aG,e1];rfl
        · simp only [eS,hx,aG]
          rw [if_pos (by simp;omega),aR hk',aG,e2];rfl
      | false =>
        have n1:eC l.Rows s.E (k:Int)=some (.next ((k+1:Nat):Int)):=by
          simp only [eC]
          rw [if_pos (by simp;omega),aR hk',aG,e1,aG,aP (by omega) (by omega)];rfl
        have n2:eS s b w (k:Int)=some (.next ((k+1:Nat):Int)):=by
          simp only [eS,hx,aG]
          rw [if_pos (by simp;omega),aR hk',aG,e2,aG,aP (by omega) (by omega)];rfl
        rw [bX n1,bX n2]
        exact ih (k+1) (by omega)
  unfold rQ nS
  have hst:∃i:Nat,(if 0 < s.Row then s.Row else 0)=(i:Int)∧(if s.Row < 0 then 0 else s.Row)=(i:Int):=by
    refine⟨s.Row.toNat,?_,?_⟩ <;> split <;> omega
  obtain⟨i,i1,i2⟩:=hst
  rw [i1,i2]
  by_cases hi:i≤l.Rows.length
  · rcases key (l.Rows.length - i) i (by omega) with ⟨a,c⟩ | ⟨j,hj,a,c⟩
    · left;rw [a,c];exact⟨rfl,rfl⟩
    · right;rw [a,c];exact⟨j,hj,rfl,rfl⟩
  · left
    rw [bM (body:=eC l.Rows s.E) (r:=Out.brk ()) (by simp only [eC];rw [if_neg (by simp;omega)]),
      bM (body:=eS s b w) (r:=Out.brk ()) (by simp only [eS,hx,aG];rw [if_neg (by simp;omega)])]
    exact⟨rfl,rfl⟩
theorem del_eq{α:Type}{l:List α}{k:Nat}(h:k < l.length):((dE l k (l.drop (k+1))).take (k+(l.length - (k+1)))).drop 0=l.eraseIdx k:=by
  have h1:(l.take k).length=k:=by rw [xZ];omega
  have h2:(l.drop (k+1)).length=l.length - (k+1):=by simp
  unfold dE
  rw [BH,List.eraseIdx_eq_take_drop_succ,List.take_of_length_le (l:=l.drop (k+1)) (by rw [h2];omega),←j8]
  rw [show k+(l.length - (k+1))=(l.take k++l.drop (k+1)).length by rw [G9,h1,h2]]
  exact List.take_left
theorem aM1{α:Type}{l:List α}{k:Nat}(h:k < l.length):l.Perm (l[k] :: l.eraseIdx k):=by
  have e:l=l.take k++l[k] :: l.drop (k+1):=by rw [←J8 h,UO]
  rw [List.eraseIdx_eq_take_drop_succ]
  refine(List.Perm.of_eq e).trans ?_
  exact List.perm_middle
theorem qT.drop{b:List aS}(hL:qT b){w:Nat}(hw:w < b.length):∀k (hk:k < b[w].Rows.length),qT (b.set w ⟨b[w].Rows.eraseIdx k⟩)∧∀r∈bY (b.set w ⟨b[w].Rows.eraseIdx k⟩),r∈bY b∧r.Handle % 32≠b[w].Rows[k].Handle % 32:=by
  intro k hk
  have hsub:(bY (b.set w ⟨b[w].Rows.eraseIdx k⟩)).Sublist (bY b):=by
    rw [NF hw,K8 hw]
    exact(aLR _).append ((List.eraseIdx_sublist _ _).append (aLR _))
  have hnd:=hL.2.2.2
  refine⟨⟨by simpa using hL.1,FV hsub.length_le hL.2.1,fun r hr=>hL.2.2.1 r (hsub.subset hr),(hsub.map mV).nodup hnd⟩,fun r hr=>⟨hsub.subset hr,?_⟩⟩
  have hp:(bY b).Perm (b[w].Rows[k] :: bY (b.set w ⟨b[w].Rows.eraseIdx k⟩)):=by
    rw [NF hw,K8 hw]
    refine List.Perm.trans (List.Perm.append_left _ (List.Perm.append_right _ (aM1 hk))) ?_
    exact List.perm_middle
  have:=(hp.map mV).nodup_iff.1 hnd
  rw [DX,List.nodup_cons] at this
  exact fun e=>this.1 (List.mem_map.2 ⟨r,hr,e⟩)
theorem aM2{b:aD}(hb:sQ b){w:Int}(hw:0≤w∧w≤2)(s:Sub) :
    ∃x y,nH b w s=some (x,y)∧nT s b w=some (y,x)∧∃m' L,x=⟨m',b.aH,L,b.mA⟩∧xW m'∧tK m'∧qT L∧∀r∈bY L,qU m' r.Handle∧r.aL≤b.aH.aL:=by
  have hm:=hb.1.1
  have hL:=hb.1.2.2.1
  have hZ:=hb.1.2.2.2
  have hsm:=(tK.facts hm).2.2.2.2.2.1
  have hlen:w.toNat < b.aU.length:=by have:=hL.1;omega
  have hx:idx b.aU w=some b.aU[w.toNat]:=fL hw.1 (by omega)
  have hrow:=hL.small.2.2.2 _ (dP hlen)
  have hmemL:b.aU[w.toNat]∈b.aU:=dP hlen
  have hset:=qT.drop hL hlen
  generalize b.aU[w.toNat]=l at hx hrow hset hmemL
  have done:∀y:Sub,∃x z,(some (b,y):Option (aD×Sub))=some (x,z)∧(some (y,b):Option (Sub×aD))=some (z,x)∧∃m' L,x=⟨m',b.aH,L,b.mA⟩∧xW m'∧tK m'∧qT L∧∀r∈bY L,qU m' r.Handle∧r.aL≤b.aH.aL:=
    fun y=>⟨_,_,rfl,rfl,b.Mem,b.aU,rfl,hsm,hm,hL,hb.2⟩
  have hw1:aV ((l.Rows.length:Int) - 1)=(l.Rows.length:Int) - 1:=aP (by omega) (by omega)
  have hhas:F7 b.aU w s.Row=some (decide (0≤s.Row∧s.Row≤(l.Rows.length:Int) - 1)):=by
    unfold F7 CF
    rw [jG,bD hw,aG,if_pos rfl,hx,aG,eA,hw1];rfl
  unfold nH nT
  rw [hhas,hx]
  simp only [aG,bK,b7,hw1]
  have hat:∃a:Bool,(if decide (0≤s.Row∧s.Row≤(l.Rows.length:Int) - 1)=true then (idx l.Rows s.Row).bind fun x15=>fJ s b w (x15.Handle == s.H) else fJ s b w false)=fJ s b w a ∧
      (if (!decide (0≤s.Row∧s.Row≤(l.Rows.length:Int) - 1))=true then eF b s true else (idx l.Rows s.Row).bind fun x11=>eF b s (x11.Handle != s.H))=eF b s (!a) ∧
      (a=true→∃r,r∈l.Rows∧idx l.Rows s.Row=some r∧r.Handle=s.H∧0≤s.Row∧s.Row < l.Rows.length) ∧
      (a=false→∀f:c9→Option (aD×Sub),(if (!decide (0≤s.Row∧s.Row≤(l.Rows.length:Int) - 1))=true then eG b w s l true else (idx l.Rows s.Row).bind fun x=>if (x.Handle != s.H)=true then eG b w s l true else f x)=eG b w s l true):=by
    by_cases q:0≤s.Row∧s.Row≤(l.Rows.length:Int) - 1
    · have hr:idx l.Rows s.Row=some (l.Rows[s.Row.toNat]'(by omega)):=fL q.1 (by omega)
      by_cases q2:(l.Rows[s.Row.toNat]'(by omega)).Handle=s.H
      · refine⟨true,?_,?_,fun _=>⟨_,dP _,hr,q2,q.1,by omega⟩,fun h=>by cases h⟩
        · rw [bD q,if_pos rfl,hr,aG,q2,beq_self_eq_true]
        · rw [bD q,if_neg (by simp),hr,aG,q2,bne_self_eq_false];rfl
      · have n1:((l.Rows[s.Row.toNat]'(by omega)).Handle == s.H)=false:=by simpa using q2
        have n2:((l.Rows[s.Row.toNat]'(by omega)).Handle != s.H)=true:=by simpa using q2
        refine⟨false,?_,?_,(fun h=>by cases h),fun _ f=>?_⟩
        · rw [bD q,if_pos rfl,hr,aG,n1]
        · rw [bD q,if_neg (by simp),hr,aG,n2];rfl
        · rw [bD q,if_neg (by simp),hr,aG,n2,if_pos rfl]
    · refine⟨false,?_,?_,(fun h=>by cases h),fun _ f=>?_⟩
      · rw [bQ q,if_neg (by simp)]
      · rw [bQ q,if_pos (by simp)];rfl
      · rw [bQ q,if_pos (by simp)]
  obtain⟨a,ha1,ha2,ha3,ha4⟩:=hat
  rw [ha1,ha2]
  unfold fJ
  by_cases p0:s.Pc=0
  · simp only [p0,beq_self_eq_true,if_true];exact done _
  have p0':(s.Pc == 0)=false:=by simpa using p0
  simp only [p0',aN,if_false]
  by_cases p1:s.Pc=1
  · simp only [p1,beq_self_eq_true,if_true]
    rcases aV6 hx (by omega) s with ⟨e1,e2⟩ | ⟨k,hk,e1,e2⟩
    · rw [e1,e2,aG,if_pos (by simp)];simp only [bI,p1,aG];exact done _
    · rw [e1,e2,aG,if_neg (by simp),aR hk];simp only [aG];exact done _
  have p1':(s.Pc == 1)=false:=by simpa using p1
  simp only [p1',aN,if_false]
  by_cases p2:s.Pc=2
  · simp only [p2,beq_self_eq_true,if_true,jG,aG]
    by_cases hB:0≤s.B∧s.B≤2
    · rw [bD hB]
      simp only [dA,aN,if_false,if_true]
      cases a with
      | true =>
        have hz:idx b.mA s.B=some (b.mA[s.B.toNat]'(by have:=hZ.1;omega)):=fL hB.1 (by have:=hZ.1;omega)
        simp only [eF,eK,dA,aN,if_false,if_true,hz,aG,mQ]
        by_cases q:(b.mA[s.B.toNat]'(by have:=hZ.1;omega))=s.H
        · simp only [q,beq_self_eq_true,if_true];exact done _
        · have q':((b.mA[s.B.toNat]'(by have:=hZ.1;omega)) == s.H)=false:=by simpa using q
          simp only [q',aN,if_false]
          by_cases q3:aV (s.B+1)=3
          · simp only [q3,beq_self_eq_true,if_true];exact done _
          · have q3':(aV (s.B+1) == 3)=false:=by simpa using q3
            simp only [q3',aN,if_false];exact done _
      | false =>
        simp only [eF,eK,dJ,bK,bI,iN,if_true,aN,if_false,p2,show((2:Int) == 3)=false from rfl,aG]
        exact done _
    · rw [bQ hB]
      simp only [eF,eK,dJ,bK,bI,iN,if_true,aN,if_false,p2,show((2:Int) == 3)=false from rfl,aG]
      exact done _
  have p2':(s.Pc == 2)=false:=by simpa using p2
  simp only [p2',aN,if_false,eK]
  by_cases p3:s.Pc=3
  · simp only [p3,beq_self_eq_true,if_true]
    cases a with
    | false =>
      rw [ha4 rfl]
      simp only [eG,dJ,bK,bI,if_true,aN,if_false,aG]
      exact done _
    | true =>
      obtain⟨r,hrm,hr,hrH,r0,r1⟩:=ha3 rfl
      obtain⟨v,e1,e2⟩:=aOR r s.E
      rw [bD (show 0≤s.Row∧s.Row≤(l.Rows.length:Int) - 1 by omega)]
      simp only [dA,aN,if_false,if_true,hr,aG,hrH,bne_self_eq_false,hx,e1,e2]
      cases v with
      | false =>
        simp only [eG,dJ,bK,bI,iN,if_true,aN,if_false,aG]
        exact done _
      | true =>
        have hlive:qU b.Mem s.H:=by
          have:r∈bY b.aU:=SP.2 ⟨l,hmemL,hrm⟩
          have:=(hb.2 r this).1
          rwa [hrH] at this
        obtain⟨m',f1,f2,f3,f4⟩:=aV5 hm hw hlive
        have ew:aV (s.Row+1)=s.Row+1:=aP (by omega) (by omega)
        have hdrop:HZ b.aU w s.Row=some (b.aU.set w.toNat ⟨((dE l.Rows s.Row.toNat (l.Rows.drop (s.Row+1).toNat)).take (s.Row.toNat+(l.Rows.length - (s.Row+1).toNat))).drop 0⟩,true):=by
          unfold HZ zQ
          rw [MB hL.small.2.2.1 (fun s h=>by have:=hL.small.2.2.2 s h;omega),AB hL.small.1,bD hL,hhas,bD (show 0≤s.Row∧s.Row≤(l.Rows.length:Int) - 1 by omega)]
          simp only [aG,dA,aN,if_false,hx,ew]
          unfold AI
          rw [aO (by omega),if_neg (by simp;omega),aO (by omega),aO (by omega),aO (by omega),aO]
          · rfl
          · rw [fG (by omega)]
            simp only [BH,xZ,fG (show s.Row.toNat≤l.Rows.length by omega)]
            omega
        simp only [eG,dJ,rR,ew,dA,aN,if_false,if_true]
        rw [aO (by omega),aO (by omega),aO (by omega),dC,if_pos hlive.1,aG,f1,f2,hdrop]
        have hk:s.Row.toNat < l.Rows.length:=by omega
        have eL:((dE l.Rows s.Row.toNat (l.Rows.drop (s.Row+1).toNat)).take (s.Row.toNat+(l.Rows.length - (s.Row+1).toNat))).drop 0=l.Rows.eraseIdx s.Row.toNat:=by
          rw [show(s.Row+1).toNat=s.Row.toNat+1 by omega];exact del_eq hk
        have er:l.Rows[s.Row.toNat]=r:=by
          have:=aR hk
          rw [show((s.Row.toNat:Nat):Int)=s.Row by omega,hr] at this
          exact(Option.some.inj this).symm
        rw [eL] at hdrop ⊢
        obtain⟨g1,g2⟩:=hset s.Row.toNat hk
        refine⟨_,_,rfl,rfl,m',_,rfl,f3,f4.1,g1,fun q hq=>?_⟩
        obtain⟨g3,g4⟩:=g2 q hq
        obtain⟨g5,g6⟩:=hb.2 q g3
        refine⟨f4.live g5 fun e=>?_,g6⟩
        rw [er,hrH] at g4
        exact g4 e
  · have p3':(s.Pc == 3)=false:=by simpa using p3
    simp only [p3',aN,if_false,dJ,bI,aG]
    exact done _
end Go.Gv
end
noncomputable section
namespace Go.Gv
theorem JW.fits{b:aD}(h:JW b):b.Mem.aE.Bytes.length≤maxLen∧(eT b.Mem.aB).length≤1073741824∧b.aH.bO.length≤maxLen∧b.aU.length≤maxLen∧(bY b.aU).length≤1073741824∧b.mA.length≤maxLen:=by
  have hb:(1048576:Nat)≤maxLen:=by simp [maxLen]
  have g1:=h.1.1;have g2:=h.1.2.2.2.2;have g3:=h.2.1;have g4:=h.2.2.1;have g5:=h.2.2.2.1;have g6:=h.2.2.2.2
  exact⟨by omega,by omega,by omega,by omega,by omega,by omega⟩
theorem step_eq{b:aD}(hb:sQ b)(hs:JW b){w:Int}(hw:0≤w∧w≤2)(s:Sub) :
    ∃x y,rS b w s=some (x,y)∧j5 s b w=some (y,x)∧sQ x:=by
  have hz:=hb.1.2.2.2.1
  have hl:=hb.1.2.2.1
  unfold rS j5
  cases hd:s.cS with
  | true=>exact⟨_,_,rfl,rfl,hb⟩
  | false =>
    simp only [aN,if_false]
    by_cases k1:s.Kind=1
    · obtain⟨x,y,e1,e2,m,rfl,h1,h2⟩:=alloc_eq hb.1.1 hw s
      simp only [k1,beq_self_eq_true,if_true,e1,e2,aG]
      exact⟨_,_,rfl,rfl,⟨h2.1,hb.1.2⟩,fun r hr=>⟨h2.live (hb.2 r hr).1 (by have:=(hb.2 r hr).1.1;unfold mK at this;omega),(hb.2 r hr).2⟩⟩
    have k1':(s.Kind == 1)=false:=by simpa using k1
    simp only [k1',aN,if_false]
    by_cases k2:s.Kind=2
    · obtain⟨x,y,e1,e2,L,rfl,h1,h2⟩:=aPQ hb hs hw s
      simp only [k2,beq_self_eq_true,if_true,e1,e2,aG]
      exact⟨_,_,rfl,rfl,⟨hb.1.1,hb.1.2.1,h1,hb.1.2.2.2⟩,h2⟩
    have k2':(s.Kind == 2)=false:=by simpa using k2
    simp only [k2',aN,if_false]
    by_cases k3:s.Kind=3
    · obtain⟨x,y,e1,e2,c,rfl,h1,h2⟩:=aMX hb.1.2.1 s
      simp only [k3,beq_self_eq_true,if_true,e1,e2,aG]
      exact⟨_,_,rfl,rfl,⟨hb.1.1,h1,hb.1.2.2⟩,fun r hr=>⟨(hb.2 r hr).1,Int.le_trans (hb.2 r hr).2 h2⟩⟩
    have k3':(s.Kind == 3)=false:=by simpa using k3
    simp only [k3',aN,if_false]
    by_cases k4:s.Kind=4
    · obtain⟨x,y,e1,e2,m,L,rfl,h1,h2,h3,h4⟩:=aM2 hb hw s
      simp only [k4,beq_self_eq_true,if_true,e1,e2,aG]
      exact⟨_,_,rfl,rfl,⟨h2,hb.1.2.1,h3,hb.1.2.2.2⟩,h4⟩
    have k4':(s.Kind == 4)=false:=by simpa using k4
    simp only [k4',aN,if_false]
    by_cases k5:s.Kind=5
    · obtain⟨x,y,e1,e2,c,rfl,h1,h2⟩:=aYT hb.1.2.1 hw s
      simp only [k5,beq_self_eq_true,if_true,e1,e2,aG]
      exact⟨_,_,rfl,rfl,⟨hb.1.1,h1,hb.1.2.2⟩,fun r hr=>⟨(hb.2 r hr).1,Int.le_trans (hb.2 r hr).2 h2⟩⟩
    have k5':(s.Kind == 5)=false:=by simpa using k5
    simp only [k5',aN,if_false,bK,bI,aG]
    exact⟨_,_,rfl,rfl,hb⟩
theorem sQ.small{b:aD}(hb:sQ b):JW b:=by
  have h1:=hb.1.2.1.2.1;have h2:=hb.1.2.2.1.1;have h3:=hb.1.2.2.1.2.1;have h4:=hb.1.2.2.2.1
  exact⟨(tK.facts hb.1.1).2.2.2.2.2.1,by omega,by omega,by omega,by omega⟩
end Go.Gv
end
noncomputable section
namespace Go.Gv
theorem aBL{b:List Int}{a:Nat}{n:Int}(h:a+4≤b.length){j:Nat}(hj:j < a∨a+4≤j):bt (J7 b a n) j=bt b j:=by
  unfold J7
  rw [JX (by simp;omega),JX (by simp;omega),JX (by simp;omega),JX (by omega),if_neg (by omega),if_neg (by omega),if_neg (by omega),if_neg (by omega)]
theorem WX.put{h:aE}(hh:WX h){s:Int}(hc:0≤bG h s){n:Int}(hn:0≤n∧n≤4294967295) :
    WX ⟨J7 h.Bytes ((fM s (bG h s)).toNat+4) n,h.Class⟩∧∀t,0≤bG h t→mJ ⟨J7 h.Bytes ((fM s (bG h s)).toNat+4) n,h.Class⟩ t=mJ h t:=by
  obtain⟨hs,hp⟩:=hh
  have h384:=hs.1
  have hs':eZ ⟨J7 h.Bytes ((fM s (bG h s)).toNat+4) n,h.Class⟩:=⟨by rw [WJ];exact hs.1,hs.2.1,aPR hs.2.2.1 _ hn,hs.2.2.2⟩
  obtain⟨p,i,p6,hi,es,ec,eo,ep⟩:=GH hc
  have hcl:0≤cC h p∧cC h p≤2:=kN.1 (by omega)
  have hroom:8+i * (aT (cC h p)).toNat+8≤64∧∀j,j < (cK (cC h p)).toNat→j * (aT (cC h p)).toNat+4≤i * (aT (cC h p)).toNat+4∨i * (aT (cC h p)).toNat+12≤j * (aT (cC h p)).toNat:=by
    generalize cC h p=c at hi hcl
    rcases gJ hcl with rfl | rfl | rfl
    · rw [show(cK 0).toNat=4 from rfl] at *;rw [show(aT 0).toNat=12 from rfl]
      exact⟨by omega,fun j hj=>by omega⟩
    · rw [show(cK 1).toNat=2 from rfl] at *;rw [show(aT 1).toNat=20 from rfl]
      exact⟨by omega,fun j hj=>by omega⟩
    · rw [show(cK 2).toNat=1 from rfl] at *;rw [show(aT 2).toNat=44 from rfl]
      exact⟨by omega,fun j hj=>by omega⟩
  have hgen:∀q j,q < 6→j < (cK (cC h q)).toNat→ld (J7 h.Bytes ((fM s (bG h s)).toNat+4) n) (q * 64+8+j * (aT (cC h q)).toNat) 4=ld h.Bytes (q * 64+8+j * (aT (cC h q)).toNat) 4:=fun q j hq hj=>by
    have hz:=xI hs hq rfl hj
    refine SB (by omega) (by simp only [WJ]) fun k k1 k2=>?_
    by_cases e:q=p
    · subst e
      have:=hroom.2 j hj
      exact aBL (by omega) (by omega)
    · exact aBL (by omega) (by omega)
  refine⟨⟨hs',fun q hq=>?_⟩,fun t ht=>?_⟩
  · rw [NG hs' hq]
    have hold:=(NG hs hq).1 (hp q hq)
    by_cases e:q=p
    · subst e
      have hcl':¬cC h q < 0:=by omega
      unfold aAZ at hold ⊢
      have hcc:cC ⟨J7 h.Bytes ((fM s (bG h s)).toNat+4) n,h.Class⟩ q=cC h q:=rfl
      rw [hcc]
      rw [if_neg hcl'] at hold ⊢
      obtain⟨⟨a1,a2,a3⟩,a4,a5⟩:=hold
      have bs:∀k,k < 8→bt (J7 h.Bytes ((fM s (bG h s)).toNat+4) n) (q * 64+k)=bt h.Bytes (q * 64+k):=fun k hk=>aBL (by omega) (by omega)
      have b0:=bs 0 (by omega);have b1:=bs 1 (by omega);have b2:=bs 2 (by omega)
      simp only [MH] at b0
      refine⟨⟨by rw [b0];exact a1,by rw [b1];exact a2,by rw [b2];exact a3⟩,fun k k3 k8=>by rw [bs k k8];exact a4 k k3 k8,fun j hj=>?_⟩
      rw [hgen q j hq hj];exact a5 j hj
    · refine aAZ.same hq hs (by simp only [WJ]) rfl (fun k hk=>aBL (by omega) (by omega)) hold
  · obtain⟨p',i',p6',hi',es',ec',eo',ep'⟩:=GH ht
    have e2:bG ⟨J7 h.Bytes ((fM s (bG h s)).toNat+4) n,h.Class⟩ t=bG h t:=rfl
    unfold mJ
    rw [e2,eo']
    exact hgen p' i' p6' hi'
theorem tK.put{m:Mem}(hm:tK m){s:Int}(hc:0≤bG m.aE s){n:Int}(hn:0≤n∧n≤4294967295):xQ m ⟨⟨J7 m.aE.Bytes ((fM s (bG m.aE s)).toNat+4) n,m.aE.Class⟩,m.aB⟩ (-1):=by
  obtain⟨a,b⟩:=WX.put hm.1.1 hc hn
  refine⟨tK.heap hm a fun x hx=>⟨rfl,b x (tK.RQ hm hx).1⟩,fun t ht _=>?_⟩
  have ht':=sS.1 ht
  have e:=b t ht'.1
  exact⟨sS.2 ⟨ht'.1,ht'.2.1,by simp only [e];exact ht'.2.2⟩,e,rfl⟩
theorem start_eq{h:aE}(hs:eZ h){s:Int}(hc:0≤bG h s):C0 s (bG h s)=some (fM s (bG h s)+4)∧H0 s (bG h s)=some (fM s (bG h s)+4):=by
  have hg:=FM hc
  unfold C0 H0
  rw [tJ,y7,aG,if_neg (by simp;omega),aP (by omega) (by omega)]
  exact⟨rfl,rfl⟩
theorem aEQ{h:aE}(hs:eZ h){s:Int}(hc:0≤bG h s):wQ h s 0 4=some (fM s (bG h s)+4):=by
  have hg:=FM hc
  have hc2:0≤bG h s∧bG h s≤2:=by
    obtain⟨_,q,e⟩:=AA hc
    rw [e];exact kN.1 (by omega)
  have hz:8≤gI (bG h s)∧gI (bG h s)≤40:=by rcases gJ hc2 with e | e | e <;> rw [e] <;> decide
  unfold wQ NX
  rw [lJ hs,aG,(start_eq hs hc).2,aG,if_neg (by simp;omega),RC]
  simp only [aG,eA]
  rw [aP (x:=fM s (bG h s)+4+gI (bG h s)) (by omega) (by omega),aP (x:=fM s (bG h s)+4+gI (bG h s) - (fM s (bG h s)+4)) (by omega) (by omega),aP (x:=fM s (bG h s)+4+gI (bG h s) - (fM s (bG h s)+4) - 4) (by omega) (by omega),bD (by omega),aP (by omega) (by omega)]
  simp
theorem Y2{n:Int}(hn:0≤n∧n≤65535):∃t:List UInt8,JB n 4=some t∧(t == [])=false:=by
  have st:∀(m:Int) (c:List UInt8) (i:Nat),c.length≤4→i < 4→0≤m→m≤4294967295→FC 4 (m,c,(i:Int))=some (.next (m / 256,[u8 (m % 256)]++c,((i+1:Nat):Int))):=fun m c i hc hi h0 h1=>by
    simp only [FC]
    rw [if_pos (by simp;omega),aO (by simp;omega),y6 h0,GD h0,aP (x:=m / 256) (by omega) (by omega),aP (by omega) (by omega)];rfl
  unfold JB
  rw [b7]
  simp only [aG,show(decide ((1:Int)≤4∧(4:Int)≤7))=true from rfl,dA,aN,if_false,FD,bQ (show ¬n < 0 by omega)]
  rw [show(0:Int)=((0:Nat):Int) from rfl,bX (st n [] 0 (by simp) (by omega) hn.1 (by omega)),bX (st _ _ 1 (by simp) (by omega) (by omega) (by omega)),bX (st _ _ 2 (by simp) (by omega) (by omega) (by omega)),bX (st _ _ 3 (by simp) (by omega) (by omega) (by omega)),bM (by simp only [FC];rw [if_neg (by simp)])]
  simp only [aG,S8,S7]
  rw [if_neg (by simp;omega)]
  exact⟨_,rfl,rfl⟩
theorem aM3{m:Mem}(hm:tK m){h n:Int}(hn:0≤n∧n≤65535):∃x c,xA m h 0 4 n=some (x,c)∧H3 m h 0 4 n=some (x,c)∧xQ m x (-1)∧(c≠0→x=m):=by
  obtain⟨hcnt,h3,h9,h1,h2,hsm,hcp,hlo,hsG,hsO⟩:=tK.facts hm
  have hs:=hm.1.1.1
  have hbl:m.aE.Bytes.length≤maxLen:=by rw [h1];simp [maxLen]
  have hall:(eT m.aB).length≤1073741824:=by omega
  have hg:m.aB.Global.length≤maxLen:=by rw [h3];simp [maxLen]
  have ho:m.aB.Own.length≤maxLen:=by rw [h9];simp [maxLen]
  have hw4:j4 4=some true:=by unfold j4;rw [eA];rfl
  unfold xA H3 KX QM
  rw [RN hsm,Y1 hsm,L8 hbl hall,TM hbl hall,bD hm,b7,hw4,aEI ⟨hn.1,by omega⟩]
  simp only [aG,dA,aN,if_false,vI,CH,show(decide ((1:Int)≤4∧(4:Int)≤7))=true from rfl,sP hs hall hg ho,JV hs hall hg ho]
  by_cases hv:qU m h
  · have hh:=hv.1
    have hcl:=BA hv.2.1
    have hgo:=FM hcl
    have hc2:0≤bG m.aE (h % 32)∧bG m.aE (h % 32)≤2:=by
      obtain⟨_,q,e⟩:=AA hcl
      rw [e];exact kN.1 (by omega)
    have hz:8≤gI (bG m.aE (h % 32))∧gI (bG m.aE (h % 32))≤40:=by rcases gJ hc2 with e | e | e <;> rw [e] <;> decide
    obtain⟨p,i,p6,hi,es,ec,eo,ep⟩:=GH hcl
    have hroom:(fM (h % 32) (bG m.aE (h % 32))).toNat+8≤384:=by
      rw [eo]
      have hcl':0≤cC m.aE p∧cC m.aE p≤2:=by rw [←ec];exact hc2
      generalize cC m.aE p=c at hi hcl'
      rcases gJ hcl' with rfl | rfl | rfl
      · rw [show(cK 0).toNat=4 from rfl] at hi;rw [show(aT 0).toNat=12 from rfl];omega
      · rw [show(cK 1).toNat=2 from rfl] at hi;rw [show(aT 1).toNat=20 from rfl];omega
      · rw [show(cK 2).toNat=1 from rfl] at hi;rw [show(aT 2).toNat=44 from rfl];omega
    simp only [bD hv,dA,aN,if_false,dC,if_pos hh,aG,iL hs,qR,b7,hh.mod.1,aEQ hs hcl]
    rw [aP (x:=gI (bG m.aE (h % 32)) - 1) (by omega) (by omega),bD (show(0:Int)≤0∧(0:Int)≤gI (bG m.aE (h % 32)) - 1 by omega),aP (x:=gI (bG m.aE (h % 32)) - 0) (by omega) (by omega),bQ (show ¬gI (bG m.aE (h % 32)) - 0 < 4 by omega)]
    simp only [dA,aN,if_false,vH,(start_eq hs hcl).1,aG]
    rw [aP (x:=fM (h % 32) (bG m.aE (h % 32))+4+0) (by omega) (by omega),Int.add_zero,bQ (show ¬fM (h % 32) (bG m.aE (h % 32))+4 < 0 by omega)]
    have eo':fM (h % 32) (bG m.aE (h % 32))+4=(((fM (h % 32) (bG m.aE (h % 32))).toNat+4:Nat):Int):=by omega
    have hput:=tK.put hm hcl (n:=n) ⟨hn.1,by omega⟩
    have hspf:∃t:List UInt8,JB n 4=some t∧(t == [])=false:=Y2 hn
    obtain⟨t,ht1,ht2⟩:=hspf
    have hld:lS m.aE.Bytes (((fM (h % 32) (bG m.aE (h % 32))).toNat+4:Nat):Int) 4=some (ld m.aE.Bytes ((fM (h % 32) (bG m.aE (h % 32))).toNat+4) 4):=z8 hs.2.2.1 (w:=4) (by omega) (by omega) (by omega)
    rw [eo',hld]
    simp only [aG,aN,if_false,bne_self_eq_false,ht1,ht2,show(TO n == [])=false from rfl]
    rw [YB (by omega) (by omega) ⟨hn.1,by omega⟩,aEJ (by omega) (by omega) ⟨hn.1,by omega⟩]
    exact⟨_,_,rfl,rfl,hput,fun q=>absurd rfl q⟩
  · simp only [bQ hv,iN,if_true,aG,show((4:Int) != 0)=true from rfl]
    exact⟨_,_,rfl,rfl,xQ.refl hm _,fun _=>rfl⟩
theorem aM4{b:aD}(hm:tK b.Mem)(h:Int):∃r,GB b.Mem.aE h 0 4=some r∧H4 b h 0 4=some r:=by
  have hs:=hm.1.1.1
  have h1:=hs.1
  have hbl:b.Mem.aE.Bytes.length≤maxLen:=by rw [h1];simp [maxLen]
  have hw4:j4 4=some true:=by unfold j4;rw [eA];rfl
  unfold GB H4 rD
  rw [eB,iU,b7,hw4,DO hbl,bD hs]
  simp only [aG,vJ,sC,show(decide ((1:Int)≤4∧(4:Int)≤7))=true from rfl,dA,aN,if_false]
  by_cases hh:mK h
  · simp only [bD hh,dA,aN,if_false,dC,if_pos hh,aG,iL hs,lJ hs,hh.mod.1]
    by_cases hcl:bG b.Mem.aE (h % 32) < 0
    · simp only [bD hcl,if_true,kI];exact⟨_,rfl,rfl⟩
    · have hcl':0≤bG b.Mem.aE (h % 32):=by omega
      have hgo:=FM hcl'
      have hc2:0≤bG b.Mem.aE (h % 32)∧bG b.Mem.aE (h % 32)≤2:=by
        obtain⟨_,q,e⟩:=AA hcl'
        rw [e];exact kN.1 (by omega)
      have hz:8≤gI (bG b.Mem.aE (h % 32))∧gI (bG b.Mem.aE (h % 32))≤40:=by rcases gJ hc2 with e | e | e <;> rw [e] <;> decide
      obtain⟨p,i,p6,hi,es,ec,eo,ep⟩:=GH hcl'
      have hroom:(fM (h % 32) (bG b.Mem.aE (h % 32))).toNat+8≤384:=by
        rw [eo]
        have hcl'':0≤cC b.Mem.aE p∧cC b.Mem.aE p≤2:=by rw [←ec];exact hc2
        generalize cC b.Mem.aE p=c at hi hcl''
        rcases gJ hcl'' with rfl | rfl | rfl
        · rw [show(cK 0).toNat=4 from rfl] at hi;rw [show(aT 0).toNat=12 from rfl];omega
        · rw [show(cK 1).toNat=2 from rfl] at hi;rw [show(aT 1).toNat=20 from rfl];omega
        · rw [show(cK 2).toNat=1 from rfl] at hi;rw [show(aT 2).toNat=44 from rfl];omega
      simp only [bQ hcl,aN,if_false,qR,b7,aG,aEQ hs hcl']
      rw [aP (x:=gI (bG b.Mem.aE (h % 32)) - 1) (by omega) (by omega),bD (show(0:Int)≤0∧(0:Int)≤gI (bG b.Mem.aE (h % 32)) - 1 by omega),aP (x:=gI (bG b.Mem.aE (h % 32)) - 0) (by omega) (by omega),bQ (show ¬gI (bG b.Mem.aE (h % 32)) - 0 < 4 by omega)]
      simp only [dA,aN,if_false,kI,dC,if_pos hh,(start_eq hs hcl').1,aG]
      rw [aP (x:=fM (h % 32) (bG b.Mem.aE (h % 32))+4+0) (by omega) (by omega),Int.add_zero,bQ (show ¬fM (h % 32) (bG b.Mem.aE (h % 32))+4 < 0 by omega)]
      have eo':fM (h % 32) (bG b.Mem.aE (h % 32))+4=(((fM (h % 32) (bG b.Mem.aE (h % 32))).toNat+4:Nat):Int):=by omega
      have hld:lS b.Mem.aE.Bytes (((fM (h % 32) (bG b.Mem.aE (h % 32))).toNat+4:Nat):Int) 4=some (ld b.Mem.aE.Bytes ((fM (h % 32) (bG b.Mem.aE (h % 32))).toNat+4) 4):=z8 hs.2.2.1 (w:=4) (by omega) (by omega) (by omega)
      have hls:uY b.Mem.aE.Bytes (((fM (h % 32) (bG b.Mem.aE (h % 32))).toNat+4:Nat):Int) 4=some (ld b.Mem.aE.Bytes ((fM (h % 32) (bG b.Mem.aE (h % 32))).toNat+4) 4):=DM hs.2.2.1 (w:=4) (by omega) (by omega) (by omega)
      rw [eo',hld,hls]
      exact⟨_,rfl,rfl⟩
  · simp only [bQ hh,iN,if_true];exact⟨_,rfl,rfl⟩
end Go.Gv
end
noncomputable section
namespace Go.Gv
theorem aKW{l:List eU}(hl:l.length≤maxLen)(f:eU→Bool)(g:eU→Option Bool)(hg:∀x∈l,g x=some (f x)):lW l g=some (l.any f):=by
  obtain⟨o,e,h⟩:=JU l f (body:=lV l g) (fun k hk=>by
    simp only [lV]
    rw [if_pos (by simp;omega),aR hk,iZ (pK hk hl)]
    simp only [aG,hg _ (dP hk)]) (by simp [lV])
  unfold lW xT
  rw [e]
  cases o with
  | brk u=>simp only at h;simp [rI,B6,h]
  | ret r=>simp only at h;simp [rI,h]
theorem aER{l:List Queue}(hl:l.length≤maxLen)(f:Queue→Bool)(g:Queue→Option Bool)(hg:∀x∈l,g x=some (f x)):jN l g=some (l.any f):=by
  obtain⟨o,e,h⟩:=JU l f (body:=jM l g) (fun k hk=>by
    simp only [jM]
    rw [if_pos (by simp;omega),aR hk,iZ (pK hk hl)]
    simp only [aG,hg _ (dP hk)]) (by simp [jM])
  unfold jN rH
  rw [e]
  cases o with
  | brk u=>simp only at h;simp [m4,xP,h]
  | ret r=>simp only at h;simp [m4,h]
theorem aI8{l:List bR}(hl:l.length≤maxLen)(f:bR→Bool)(g:bR→Option Bool)(hg:∀x∈l,g x=some (f x)):kT l g=some (l.any f):=by
  obtain⟨o,e,h⟩:=JU l f (body:=kS l g) (fun k hk=>by
    simp only [kS]
    rw [if_pos (by simp;omega),aR hk,iZ (pK hk hl)]
    simp only [aG,hg _ (dP hk)]) (by simp [kS])
  unfold kT uT
  rw [e]
  cases o with
  | brk u=>simp only at h;simp [pS,A0,h]
  | ret r=>simp only at h;simp [pS,h]
def FQ(k:Int):Prop:=k=1∨k=2∨k=3∨k=7
instance (k:Int):Decidable (FQ k):=by unfold FQ;infer_instance
def uF(o:eU):Prop:=(1≤o.Kind∧o.Kind≤7)∧(FQ o.Kind∨o.Cell=0)∧(0≤o.Cell∧o.Cell≤1)∧if o.Kind=1 then (0≤o.dU∧o.dU≤100)∧0≤o.eH∧o.eH≤65535 else o.dU=0∧o.eH=0
instance (o:eU):Decidable (uF o):=by unfold uF;infer_instance
theorem hb0(x:Int):(x == 0)=decide (x=0):=by rw [J1];simp
theorem aM5:FQ 1:=.inl rfl
theorem aPV(k:Int):BP k=some (decide (FQ k)):=by
  unfold BP kP FQ
  by_cases h1:k=1
  · simp [h1]
  · by_cases h2:k=2
    · simp [h2]
    · by_cases h3:k=3
      · simp [h3]
      · by_cases h7:k=7
        · simp [h7]
        · simp [h1,h2,h3,h7]
theorem WN(o:eU):IP o=some (decide (uF o)):=by
  unfold IP BQ HL HM uF
  rw [b7,aPV,b7,b7,b7]
  by_cases h1:1≤o.Kind∧o.Kind≤7
  · by_cases h2:FQ o.Kind
    · by_cases h3:0≤o.Cell∧o.Cell≤1
      · by_cases h4:o.Kind=1
        · by_cases h5:0≤o.dU∧o.dU≤100 <;> simp [h1,h2,h3,h4,h5,aM5] <;> exact hb0 _
        · by_cases h5:o.dU=0 <;> simp [h1,h2,h3,h4,h5,aM5] <;> exact hb0 _
      · simp [h1,h2,h3]
    · by_cases h0:o.Cell=0
      · by_cases h4:o.Kind=1
        · exact absurd (.inl h4) h2
        · by_cases h5:o.dU=0 <;> simp [h1,h2,h0,h4,h5,aM5] <;> exact hb0 _
      · simp [h1,h2,h0]
  · simp [h1]
theorem WO(o:eU):IQ o=some (decide (uF o)):=by
  have key:∀x,nQ o x=if 1≤o.Kind∧o.Kind≤7 then (if x then some (decide ((0≤o.Cell∧o.Cell≤1)∧if o.Kind=1 then (0≤o.dU∧o.dU≤100)∧0≤o.eH∧o.eH≤65535 else o.dU=0∧o.eH=0):Bool) else some (decide (o.Cell=0∧if o.Kind=1 then (0≤o.dU∧o.dU≤100)∧0≤o.eH∧o.eH≤65535 else o.dU=0∧o.eH=0))) else some false:=fun x=>by
    unfold nQ B7 HT HU
    rw [eA,eA,eA,eA]
    by_cases h1:1≤o.Kind∧o.Kind≤7
    · cases x
      · by_cases h0:o.Cell=0
        · by_cases h4:o.Kind=1
          · by_cases h5:0≤o.dU∧o.dU≤100 <;> simp [h1,h0,h4,h5,aM5] <;> exact hb0 _
          · by_cases h5:o.dU=0 <;> simp [h1,h0,h4,h5,aM5] <;> exact hb0 _
        · simp [h1,h0]
      · by_cases h3:0≤o.Cell∧o.Cell≤1
        · by_cases h4:o.Kind=1
          · by_cases h5:0≤o.dU∧o.dU≤100 <;> simp [h1,h3,h4,h5,aM5] <;> exact hb0 _
          · by_cases h5:o.dU=0 <;> simp [h1,h3,h4,h5,aM5] <;> exact hb0 _
        · simp [h1,h3]
    · simp [h1]
  have key2:IQ o=nQ o (decide (FQ o.Kind)):=by
    unfold IQ FQ
    by_cases h1:o.Kind=1
    · simp [h1]
    · by_cases h2:o.Kind=2
      · simp [h2]
      · by_cases h3:o.Kind=3
        · simp [h3]
        · have h7:(o.Kind == 7)=decide (o.Kind=1∨o.Kind=2∨o.Kind=3∨o.Kind=7):=by rw [J1];simp [h1,h2,h3]
          rw [if_neg (by simpa using h1),if_neg (by simpa using h2),if_neg (by simpa using h3),h7]
  rw [key2,key]
  unfold uF
  by_cases h1:1≤o.Kind∧o.Kind≤7
  · by_cases h2:FQ o.Kind
    · simp only [h1,h2,and_self,decide_true,if_true,true_or,true_and]
    · by_cases h0:o.Cell=0
      · simp [h1,h2,h0]
      · simp [h1,h2,h0]
  · simp [h1]
theorem WQ(h:Int):iI h=some (decide (dL h)):=by
  unfold iI zW dL
  rw [eB]
  by_cases q:h=0 <;> simp [q]
theorem OF(h:Int):qX h=some (decide (dL h)):=by
  unfold qX uQ dL
  rw [iU]
  by_cases q:h=0 <;> simp [q]
def aKX(l:List eU):Prop:=∀o∈l,uF o
instance (l:List eU):Decidable (aKX l):=by unfold aKX;infer_instance
def QOk(q:Queue):Prop:=q.jJ.length≤12∧aKX q.jJ
instance (q:Queue):Decidable (QOk q):=by unfold QOk;infer_instance
def RR(l:List Queue):Prop:=l.length=3∧∀q∈l,QOk q
instance (l:List Queue):Decidable (RR l):=by unfold RR;infer_instance
theorem WR{l:List Queue}(hl:l.length≤maxLen):BR l=some (decide (RR l)):=by
  unfold BR
  have inner:∀k (hk:k < l.length),l[k].jJ.length≤12→loop (m5 l (k:Int)) 0=some (if aKX l[k].jJ then Out.brk () else Out.ret false):=by
    intro k hk h12
    have hb:∀j (hj:j < l[k].jJ.length),m5 l (k:Int) (j:Int)=if uF l[k].jJ[j] then some (.next ((j+1:Nat):Int)) else some (.stop (Out.ret false)):=by
      intro j hj
      simp only [m5]
      rw [aR hk,aG,if_pos (by simp;omega),aG,aR hj,aG,WN,aG,aP (by omega) (by omega)]
      by_cases q:uF l[k].jJ[j] <;> simp [q]
    have:=jT (f:=m5 l (k:Int)) l[k].jJ (fun j=>(j:Int)) uF (Out.brk ()) (Out.ret false) (fun j hj hp=>by rw [hb j hj,if_pos hp]) (fun j hj hp=>by rw [hb j hj,if_neg hp]) (by
      simp only [m5]
      rw [aR hk,aG,if_neg (by simp)])
    refine Eq.trans this ?_
    congr 1
  have hs:∀k (hk:k < l.length),m6 l (k:Int)=if QOk l[k] then some (.next ((k+1:Nat):Int)) else some (.stop (Out.ret false)):=by
    intro k hk
    simp only [m6]
    rw [if_pos (by simp;omega),aR hk,aG]
    by_cases h12:l[k].jJ.length≤12
    · rw [if_neg (by simp;omega),inner k hk h12]
      by_cases q:aKX l[k].jJ
      · rw [if_pos q,if_pos ⟨h12,q⟩]
        simp only [aG,OU,OT]
        rw [iZ (pK hk hl)]
      · rw [if_neg q,if_neg (fun a=>q a.2)];rfl
    · rw [if_pos (by simp;omega),if_neg (fun a=>h12 a.1)]
  have key:loop (m6 l) 0=_:=jT (f:=m6 l) l (fun k=>(k:Int)) QOk (Out.brk ()) (Out.ret false) (fun k hk hp=>by rw [hs k hk,if_pos hp]) (fun k hk hp=>by rw [hs k hk,if_neg hp]) (by simp [m6])
  rw [key]
  by_cases q:∀x∈l,QOk x
  · rw [if_pos q]
    simp only [aG,OV,OS]
    congr 1;rw [J1];simp only [beq_iff_eq,decide_eq_true_eq]
    exact⟨fun a=>⟨by omega,q⟩,fun a=>by have:=a.1;omega⟩
  · rw [if_neg q,bQ (show ¬RR l from fun a=>q a.2)];rfl
theorem WS{l:List Queue}(hl:l.length≤maxLen)(hq:∀q∈l,q.jJ.length≤maxLen):F6 l=some (decide (RR l)):=by
  have e1:∀q∈l,EZ q=some (!decide (QOk q)):=by
    intro q hm
    unfold EZ wH
    have e:∀x∈q.jJ,zL x=some (!decide (uF x)):=fun x _=>by
      unfold zL;rw [WO];rfl
    rw [aKW (hq q hm) (fun x=>!decide (uF x)) _ e,FL]
    by_cases h:q.jJ.length≤12
    · rw [if_neg (by simp;omega)]
      by_cases h2:∀x∈q.jJ,uF x
      · rw [bD h2,bD (show QOk q from ⟨h,h2⟩)];rfl
      · rw [bQ h2,bQ (show ¬QOk q from fun a=>h2 a.2)];rfl
    · rw [if_pos (by simp;omega),bQ (show ¬QOk q from fun a=>h a.1)];rfl
  unfold F6 B8
  rw [aER hl (fun q=>!decide (QOk q)) _ e1,FL]
  by_cases h:l.length=3
  · rw [if_pos (by simp;omega)]
    by_cases h2:∀x∈l,QOk x
    · rw [bD h2,bD (show RR l from ⟨h,h2⟩)];rfl
    · rw [bQ h2,bQ (show ¬RR l from fun a=>h2 a.2)];rfl
  · rw [if_neg (by simp;omega),bQ (show ¬RR l from fun a=>h a.1)]
def TR:bR:=⟨false,⟨0,0,0,0⟩,0,0,⟨0,0,0,0,0,0,0,0,0,false⟩,0,0,0,0⟩
def JOk(j:bR):Prop:=if j.fV then uF j.Op∧dL j.H∧dL j.Old else j=TR
instance (j:bR):Decidable (JOk j):=by unfold JOk;infer_instance
theorem GI{j:bR}(hb:j.fV=true):JOk j↔uF j.Op∧dL j.H∧dL j.Old:=by unfold JOk;rw [if_pos hb]
theorem RS{j:bR}(hb:j.fV=false):JOk j↔j=TR:=by unfold JOk;rw [if_neg (by simp [hb])]
theorem aKY(j:bR):NU j=some (decide (JOk j)):=by
  unfold NU yI
  rw [WO,OF,OF]
  cases hb:j.fV
  · rw [show decide (JOk j)=decide (j=TR) from decide_eq_decide.2 (RS hb)];rfl
  · rw [show decide (JOk j)=decide (uF j.Op∧dL j.H∧dL j.Old) from decide_eq_decide.2 (GI hb)]
    by_cases h1:uF j.Op
    · by_cases h2:dL j.H <;> simp [h1,h2]
    · simp [h1]
def xX(s:aA):Prop:=sQ s.aD∧s.Cells.length=2∧s.aQ.length=3∧RR s.cE∧(0≤s.aJ∧s.aJ≤1000000)∧(∀h∈s.Cells,dL h)∧∀j∈s.aQ,JOk j
instance (s:aA):Decidable (xX s):=by unfold xX;infer_instance
noncomputable section
variable {s:aA} (hf:s.aD.Mem.aE.Bytes.length≤maxLen∧(eT s.aD.Mem.aB).length≤1073741824∧s.aD.aH.bO.length≤maxLen∧s.aD.aU.length≤maxLen∧(bY s.aD.aU).length≤1073741824∧s.aD.mA.length≤maxLen) (ht:s.cE.length≤maxLen) (hq:∀q∈s.cE,q.jJ.length≤maxLen) (hcl:s.Cells.length≤maxLen) (hjl:s.aQ.length≤maxLen)
include hf ht
theorem aA0:wW s=some (decide (xX s)):=by
  unfold wW lH
  rw [aEF hf,WR ht,b7]
  by_cases h1:sQ s.aD
  · by_cases h2:s.Cells.length=2
    · by_cases h3:s.aQ.length=3
      · by_cases h4:RR s.cE
        · by_cases h5:0≤s.aJ∧s.aJ≤1000000
          · have c2:((s.Cells.length:Int) != 2)=false:=by simp;omega
            have c3:((s.aQ.length:Int) != 3)=false:=by simp;omega
            simp only [bD h1,bD h4,bD h5,c2,c3,aG,dA,aN,if_false]
            have k2:loop (nF s) 0=some (if ∀h∈s.Cells,dL h then Out.brk () else Out.ret false):=by
              have hb:∀k (hk:k < s.Cells.length),nF s (k:Int)=if dL s.Cells[k] then some (.next ((k+1:Nat):Int)) else some (.stop (Out.ret false)):=fun k hk=>by
                simp only [nF]
                rw [if_pos (by simp;omega),aR hk,aG,WQ,aG,aP (by omega) (by omega)]
                by_cases q:dL s.Cells[k] <;> simp [q]
              exact jT (f:=nF s) s.Cells (fun k=>(k:Int)) dL _ _ (fun k hk hp=>by rw [hb k hk,if_pos hp]) (fun k hk hp=>by rw [hb k hk,if_neg hp]) (by simp [nF,h2])
            have k3:loop (nE s) 0=some (if ∀j∈s.aQ,JOk j then Out.brk () else Out.ret false):=by
              have hb:∀k (hk:k < s.aQ.length),nE s (k:Int)=if JOk s.aQ[k] then some (.next ((k+1:Nat):Int)) else some (.stop (Out.ret false)):=fun k hk=>by
                simp only [nE]
                rw [if_pos (by simp;omega),aR hk]
                generalize s.aQ[k]=j
                simp only [aG,eP,WN,WQ,aP (show -9223372036854775808≤(k:Int)+1 by omega) (show(k:Int)+1≤9223372036854775807 by omega)]
                cases hb:j.fV
                · by_cases e:j=TR
                  · have a1:dL j.H:=by rw [e];exact .inl rfl
                    have a2:dL j.Old:=by rw [e];exact .inl rfl
                    have e':j=(⟨false,(⟨0,0,0,0⟩:eU),0,0,(⟨0,0,0,0,0,0,0,0,0,false⟩:Sub),0,0,0,0⟩:bR):=e
                    simp only [iN,if_true,bD e',dA,aN,if_false,bD a1,bD a2,if_pos ((RS hb).2 e)];rfl
                  · have e':¬j=(⟨false,(⟨0,0,0,0⟩:eU),0,0,(⟨0,0,0,0,0,0,0,0,0,false⟩:Sub),0,0,0,0⟩:bR):=e
                    simp only [iN,if_true,bQ e',aN,if_false,if_neg (fun q=>e ((RS hb).1 q))]
                · by_cases a0:uF j.Op
                  · by_cases a1:dL j.H
                    · by_cases a2:dL j.Old <;> simp [a0,a1,a2,GI hb]
                    · simp [a0,a1,GI hb]
                  · simp [a0,GI hb]
              exact jT (f:=nE s) s.aQ (fun k=>(k:Int)) JOk _ _ (fun k hk hp=>by rw [hb k hk,if_pos hp]) (fun k hk hp=>by rw [hb k hk,if_neg hp]) (by simp [nE,h3])
            rw [k2]
            by_cases q2:∀h∈s.Cells,dL h
            · rw [if_pos q2]
              simp only [aG,O7,O6]
              rw [k3]
              by_cases q3:∀j∈s.aQ,JOk j
              · rw [if_pos q3,bD (show xX s from ⟨h1,h2,h3,h4,h5,q2,q3⟩)];rfl
              · rw [if_neg q3,bQ (fun a:xX s=>q3 a.2.2.2.2.2.2)];rfl
            · rw [if_neg q2,bQ (fun a:xX s=>q2 a.2.2.2.2.2.1)];rfl
          · rw [bQ (fun a:xX s=>h5 a.2.2.2.2.1)]
            simp [h1,h2,h3,h4,h5]
        · rw [bQ (fun a:xX s=>h4 a.2.2.2.1)]
          simp [h1,h2,h3,h4]
      · rw [bQ (fun a:xX s=>h3 a.2.2.1)]
        have c3:((s.aQ.length:Int) != 3)=true:=by simp;omega
        simp [h1,h2,h3,c3]
    · rw [bQ (fun a:xX s=>h2 a.2.1)]
      have c2:((s.Cells.length:Int) != 2)=true:=by simp;omega
      simp [h1,h2,c2]
  · rw [bQ (fun a:xX s=>h1 a.1)];simp [h1]
include hq hcl hjl
theorem aA1:wI s=some (decide (xX s)):=by
  have e1:uS=fun x=>some (!decide (dL x)):=funext fun x=>by unfold uS;rw [OF];rfl
  have e2:∀x∈s.aQ,B9 x=some (!decide (JOk x)):=fun x _=>by unfold B9;rw [aKY];rfl
  unfold wI iH
  rw [aEG hf,WS ht hq,eA,show(fun y0=>uS y0)=fun x=>some (!decide (dL x)) from e1,DN hcl,FL,aI8 hjl _ _ e2,FL]
  by_cases h1:sQ s.aD
  · by_cases h2:s.Cells.length=2
    · by_cases h3:s.aQ.length=3
      · have c2:((s.Cells.length:Int) == 2)=true:=by simp;omega
        have c3:((s.aQ.length:Int) == 3)=true:=by simp;omega
        by_cases h4:RR s.cE
        · by_cases h5:0≤s.aJ∧s.aJ≤1000000
          · by_cases q2:∀h∈s.Cells,dL h
            · by_cases q3:∀j∈s.aQ,JOk j
              · rw [bD (show xX s from ⟨h1,h2,h3,h4,h5,q2,q3⟩)]
                simp only [bD h1,bD h4,bD h5,bD q2,bD q3,c2,c3,aG,dA,iN,aN,if_false,if_true]
              · rw [bQ (fun a:xX s=>q3 a.2.2.2.2.2.2)]
                simp only [bD h1,bD h4,bD h5,bD q2,bQ q3,c2,c3,aG,dA,iN,aN,if_false,if_true]
            · rw [bQ (fun a:xX s=>q2 a.2.2.2.2.2.1)]
              simp only [bD h1,bD h4,bD h5,bQ q2,c2,c3,aG,dA,iN,aN,if_false,if_true]
          · rw [bQ (fun a:xX s=>h5 a.2.2.2.2.1)]
            simp only [bD h1,bD h4,bQ h5,c2,c3,aG,aN,if_false,if_true]
        · rw [bQ (fun a:xX s=>h4 a.2.2.2.1)]
          simp only [bD h1,bQ h4,c2,c3,aG,aN,if_false,if_true]
      · rw [bQ (fun a:xX s=>h3 a.2.2.1)]
        have c2:((s.Cells.length:Int) == 2)=true:=by simp;omega
        have c3:((s.aQ.length:Int) == 3)=false:=by simp;omega
        simp only [bD h1,c2,c3,aG,aN,if_false,if_true]
    · rw [bQ (fun a:xX s=>h2 a.2.1)]
      have c2:((s.Cells.length:Int) == 2)=false:=by simp;omega
      simp only [bD h1,c2,aG,aN,if_false,if_true]
  · rw [bQ (fun a:xX s=>h1 a.1)];simp only [bQ h1,aG,aN,if_false]
end
end Go.Gv
end
noncomputable section
namespace Go.Gv
theorem JY{α:Type}{l:List α}{w:Int}(h0:0≤w)(h1:w < l.length)(x:α):idx (l.set w.toNat x) w=some x:=by
  unfold idx
  rw [if_pos h0,YK (by omega)]
theorem gC{a b:Int}(h:¬a=b):(a == b)=false:=by simpa using h
theorem OG{a b:Int}(h:¬a=b):(a != b)=true:=by simpa using h
theorem aKZ{c:aH}(hc:PN c){w:Int}(hw:0≤w∧w≤2):∃r,AK c w=some r∧NY c w=some r∧PN r.1∧r.1.aL=c.aL:=by
  obtain⟨p,hp,hpk⟩:=X9 hc hw
  unfold AK NY
  rw [j7 hc.small.1,zC hc.small.1,iM,sO hc.small.2,jG,b7,bD hc,bD hw]
  simp only [aG,dA,aN,if_false,hp,tF,yN]
  cases p.On with
  | true =>
    simp only [dA,aN,if_false]
    have h0:=hc.1
    exact⟨_,rfl,rfl,hc.aI2 ⟨by simp only;omega,by simp,fun _=>rfl⟩,rfl⟩
  | false=>simp only [iN,if_true];exact⟨_,rfl,rfl,hc,rfl⟩
theorem J6.set{z:List Int}(hz:J6 z)(k:Nat){h:Int}(hh:dL h):J6 (z.set k h):=⟨by simpa using hz.1,fun q hq=>(oW hq).elim (hz.2 q) (fun e=>e ▸ hh)⟩
theorem aM6{z:List Int}(hz:J6 z){w:Int}(hw:0≤w∧w≤2)(h:Int):∃r,xB z w h=some r∧H5 z w h=some r∧J6 r.1:=by
  have h3:=hz.1
  have hx:idx z w=some (z[w.toNat]'(by omega)):=fL hw.1 (by omega)
  unfold xB H5
  rw [xK (by omega),oL (by omega),zA (by simp only [maxLen];omega),L9 (by simp only [maxLen];omega),bD hz,b7,jG,bD hw,eB,iU]
  simp only [aG,dA,aN,if_false,nI,sE,hx]
  by_cases q:mK h
  · simp only [bD q,dA,aN,if_false];exact⟨_,rfl,rfl,hz.set _ (.inr q)⟩
  · simp only [bQ q,iN,if_true];exact⟨_,rfl,rfl,hz⟩
theorem aTN{z:List Int}(hz:J6 z){w:Int}(hw:0≤w∧w≤2):∃r,EE z w=some r∧NZ z w=some r∧J6 r.1:=by
  have h3:=hz.1
  have hx:idx z w=some (z[w.toNat]'(by omega)):=fL hw.1 (by omega)
  unfold EE NZ
  rw [xK (by omega),oL (by omega),zA (by simp only [maxLen];omega),L9 (by simp only [maxLen];omega),bD hz,b7,jG,bD hw]
  simp only [aG,dA,aN,if_false,tG,yO,hx]
  by_cases q:(z[w.toNat]'(by omega))=0
  · simp only [q,beq_self_eq_true,if_true];exact⟨_,rfl,rfl,hz⟩
  · simp only [gC q,aN,if_false];exact⟨_,rfl,rfl,hz.set _ (.inl rfl)⟩
theorem sQ.clock{b:aD}(hb:sQ b){cl:aH}(h:PN cl)(e:b.aH.aL≤cl.aL):sQ ⟨b.Mem,cl,b.aU,b.mA⟩:=⟨⟨hb.1.1,h,hb.1.2.2⟩,fun r hr=>⟨(hb.2 r hr).1,Int.le_trans (hb.2 r hr).2 e⟩⟩
theorem sQ.haz{b:aD}(hb:sQ b){z:List Int}(h:J6 z):sQ ⟨b.Mem,b.aH,b.aU,z⟩:=⟨⟨hb.1.1,hb.1.2.1,hb.1.2.2.1,h⟩,hb.2⟩
theorem sQ.mem{b:aD}(hb:sQ b){m:Mem}(h:xQ b.Mem m (-1)):sQ ⟨m,b.aH,b.aU,b.mA⟩:=⟨⟨h.1,hb.1.2⟩,fun r hr=>⟨h.live (hb.2 r hr).1 (by have:=(hb.2 r hr).1.1;unfold mK at this;omega),(hb.2 r hr).2⟩⟩
theorem xX.put{s:aA}(hs:xX s){w:Int}{b:aD}(hb:sQ b){c:List Int}(hc:c.length=2∧∀h∈c,dL h){j:bR}(hj:JOk j)(l:List Ev):xX ⟨b,c,s.aQ.set w.toNat j,s.cE,l,s.aJ⟩:=
  ⟨hb,hc.1,by simpa using hs.2.2.1,hs.2.2.2.1,hs.2.2.2.2.1,hc.2,fun q hq=>(oW hq).elim (hs.2.2.2.2.2.2 q) (fun e=>e ▸ hj)⟩
theorem cZ{j:bR}(h:j.fV=true)(h1:uF j.Op∧dL j.H∧dL j.Old):JOk j:=(GI h).2 h1
noncomputable section
variable {s:aA} (hs:xX s) (hl:s.Log.length≤1000000000) {w:Int} (hw:0≤w∧w≤2) {j:bR} (hj:idx s.aQ w=some j) (hb:j.fV=true) (hjo:uF j.Op∧dL j.H∧dL j.Old)
include hs hl hw hj hb hjo
theorem aYX(hk:j.Op.Kind=1):∃x,((A6 s w j).bind fun q=>cN w q.1 q.2)=some x∧CL s w=some x∧xX x∧x.Log.length≤s.Log.length+1:=by
  have h3:=hs.2.2.1
  have hset:∀x,idx (s.aQ.set w.toNat x) w=some x:=JY hw.1 (by omega)
  have hn:∀(e:Ev) {α:Type} (k:Option α),need (s.Log.length + [e].length≤1073741824) k=k:=fun e _ k=>aO (by simp;omega) k
  have hcs:s.Cells.length=2∧∀h∈s.Cells,dL h:=⟨hs.2.1,hs.2.2.2.2.2.1⟩
  have hcell:idx s.Cells j.Op.Cell=some (s.Cells[j.Op.Cell.toNat]'(by have:=hjo.1.2.2.1;omega)):=fL hjo.1.2.2.1.1 (by have:=hjo.1.2.2.1;omega)
  have hcm:dL (s.Cells[j.Op.Cell.toNat]'(by have:=hjo.1.2.2.1;omega)):=hcs.2 _ (dP _)
  generalize (s.Cells[j.Op.Cell.toNat]'(by have:=hjo.1.2.2.1;omega))=cell at hcell hcm
  have hval:0≤j.Op.eH∧j.Op.eH≤65535:=by have:=hjo.1.2.2.2;rw [if_pos hk] at this;exact this.2
  unfold A6 CL
  rw [hj]
  simp only [aG,bC,bP,dF,cN,fZ,jD]
  by_cases p0:j.Pc=0
  · obtain⟨x,y,e1,e2,hx⟩:=step_eq hs.1 hs.1.small hw j.Sub
    simp only [p0,beq_self_eq_true,if_true,e1,e2,aG]
    cases hd:y.cS with
    | false=>simp only [iN,if_true,aG,hj];exact⟨_,rfl,rfl,hs.put hx hcs (by exact cZ hb hjo) _,iB _⟩
    | true =>
      simp only [dA,aN,if_false]
      by_cases c0:y.Code=0
      · simp only [c0,bne_self_eq_false,aN,if_false,eB,iU,aG]
        by_cases o0:mK y.Out
        · simp only [bD o0,dA,aN,if_false,aG,hj];exact⟨_,rfl,rfl,hs.put hx hcs (by exact cZ hb ⟨hjo.1,.inr o0,hjo.2.2⟩) _,iB _⟩
        · simp only [bQ o0,iN,if_true,aG,hj];exact⟨_,rfl,rfl,hs.put hx hcs (by exact cZ hb hjo) _,iB _⟩
      · simp only [OG c0,if_true,aG,hj];exact⟨_,rfl,rfl,hs.put hx hcs (by exact cZ hb hjo) _,iB _⟩
  simp only [gC p0,aN,if_false]
  by_cases p1:j.Pc=1
  · obtain⟨x,c,e1,e2,h1,h2⟩:=aM3 hs.1.1.1 (h:=j.H) hval
    simp only [p1,beq_self_eq_true,if_true,e1,e2,aG,CI,hj,bP,dF]
    by_cases c0:c=0
    · simp only [c0,bne_self_eq_false,aN,if_false,aG,hj];exact⟨_,rfl,rfl,hs.put (hs.1.mem h1) hcs (by exact cZ hb hjo) _,iB _⟩
    · have:=h2 c0
      subst this
      simp only [OG c0,if_true,aG,hj];exact⟨_,rfl,rfl,hs.put hs.1 hcs (by exact cZ hb hjo) _,iB _⟩
  simp only [gC p1,aN,if_false]
  by_cases p2:j.Pc=2
  · have hc2:(s.Cells.set j.Op.Cell.toNat j.H).length=2∧∀h∈s.Cells.set j.Op.Cell.toNat j.H,dL h:=⟨by simpa using hcs.1,fun q hq=>(oW hq).elim (hcs.2 q) (fun e=>e ▸ hjo.2.1)⟩
    simp only [p2,beq_self_eq_true,if_true,hcell,aG,hset,hn,CK,dB,dN,CJ,bP,dF,jD]
    by_cases c0:cell=0
    · simp only [c0,beq_self_eq_true,if_true,aG,hj,KC];exact⟨_,rfl,rfl,hs.put hs.1 hc2 (by exact cZ hb ⟨hjo.1,hjo.2.1,.inl rfl⟩) _,by simp⟩
    · simp only [gC c0,aN,if_false,aG,hj,KC];exact⟨_,rfl,rfl,hs.put hs.1 hc2 (by exact cZ hb ⟨hjo.1,hjo.2.1,hcm⟩) _,by simp⟩
  simp only [gC p2,aN,if_false]
  by_cases p3:j.Pc=3
  · obtain⟨x,y,e1,e2,hx⟩:=step_eq hs.1 hs.1.small hw j.Sub
    simp only [p3,beq_self_eq_true,if_true,e1,e2,aG]
    cases hd:y.cS with
    | false=>simp only [iN,if_true,aN,if_false,aG,hj];exact⟨_,rfl,rfl,hs.put hx hcs (by exact cZ hb hjo) _,iB _⟩
    | true=>simp only [dA,if_true,aN,if_false,aG,hj];exact⟨_,rfl,rfl,hs.put hx hcs (by exact cZ hb hjo) _,iB _⟩
  simp only [gC p3,aN,if_false,aG,hj]
  exact⟨_,rfl,rfl,hs.put hs.1 hcs (by exact cZ hb hjo) _,iB _⟩
theorem get_eq(hk:j.Op.Kind=2):∃x,((A7 s w j).bind fun q=>cN w q.1 q.2)=some x∧CM s w=some x∧xX x∧x.Log.length≤s.Log.length+1:=by
  have h3:=hs.2.2.1
  have hset:∀x,idx (s.aQ.set w.toNat x) w=some x:=JY hw.1 (by omega)
  have hn:∀(e:Ev) {α:Type} (k:Option α),need (s.Log.length + [e].length≤1073741824) k=k:=fun e _ k=>aO (by simp;omega) k
  have hcs:s.Cells.length=2∧∀h∈s.Cells,dL h:=⟨hs.2.1,hs.2.2.2.2.2.1⟩
  have hcell:idx s.Cells j.Op.Cell=some (s.Cells[j.Op.Cell.toNat]'(by have:=hjo.1.2.2.1;omega)):=fL hjo.1.2.2.1.1 (by have:=hjo.1.2.2.1;omega)
  have hcm:dL (s.Cells[j.Op.Cell.toNat]'(by have:=hjo.1.2.2.1;omega)):=hcs.2 _ (dP _)
  generalize (s.Cells[j.Op.Cell.toNat]'(by have:=hjo.1.2.2.1;omega))=cell at hcell hcm
  obtain⟨pn,hpn,_⟩:=X9 hs.1.1.2.1 hw
  unfold A7 CM
  rw [hj]
  simp only [aG,bC,bP,dF,cN]
  by_cases p0:j.Pc=0
  · obtain⟨x,y,e1,e2,hx⟩:=step_eq hs.1 hs.1.small hw j.Sub
    simp only [p0,beq_self_eq_true,if_true,e1,e2,aG]
    cases hd:y.cS with
    | false=>simp only [iN,if_true,aN,if_false,aG,hj];exact⟨_,rfl,rfl,hs.put hx hcs (by exact cZ hb hjo) _,iB _⟩
    | true=>simp only [dA,if_true,aN,if_false,aG,hj];exact⟨_,rfl,rfl,hs.put hx hcs (by exact cZ hb hjo) _,iB _⟩
  simp only [gC p0,aN,if_false]
  by_cases p1:j.Pc=1
  · simp only [p1,beq_self_eq_true,if_true,hcell,aG,iJ,hn,uW,hj,dB,dN,hset]
    by_cases c0:cell=0
    · simp only [c0,beq_self_eq_true,if_true,aG,hj,KC];exact⟨_,rfl,rfl,hs.put hs.1 hcs (by exact cZ hb ⟨hjo.1,.inl rfl,hjo.2.2⟩) _,by simp⟩
    · simp only [gC c0,aN,if_false,aG,hj,KC];exact⟨_,rfl,rfl,hs.put hs.1 hcs (by exact cZ hb ⟨hjo.1,hcm,hjo.2.2⟩) _,by simp⟩
  simp only [gC p1,aN,if_false]
  by_cases p2:j.Pc=2
  · obtain⟨r,e1,e2⟩:=aM4 hs.1.1.1 j.H
    simp only [p2,beq_self_eq_true,if_true,l5,lE,hj,e1,e2,aG,hset,KC]
    exact⟨_,rfl,rfl,hs.put hs.1 hcs (by exact cZ hb hjo) _,iB _⟩
  simp only [gC p2,aN,if_false]
  by_cases p3:j.Pc=3
  · simp only [p3,beq_self_eq_true,if_true,oR,lO,hj,hpn,aG,dF,rL,jP,jQ,bC]
    cases pn.On with
    | false=>simp only [aN,if_false,aG,iN,if_true,hj];exact⟨_,rfl,rfl,hs.put hs.1 hcs (by exact cZ hb hjo) _,iB _⟩
    | true =>
      simp only [if_true,aG]
      cases pn.eW with
      | false=>simp only [aN,if_false,aG,iN,dA,if_true,hj];exact⟨_,rfl,rfl,hs.put hs.1 hcs (by exact cZ hb hjo) _,iB _⟩
      | true=>simp only [aN,if_false,aG,iN,dA,if_true,hj];exact⟨_,rfl,rfl,hs.put hs.1 hcs (by exact cZ hb hjo) _,iB _⟩
  simp only [gC p3,aN,if_false]
  by_cases p4:j.Pc=4
  · obtain⟨r,e1,e2,h1,h2⟩:=aKZ hs.1.1.2.1 hw
    simp only [p4,beq_self_eq_true,if_true,e1,e2,sD,aG,hj]
    exact⟨_,rfl,rfl,hs.put (hs.1.clock h1 (by rw [h2];exact Int.le_refl _)) hcs (by exact cZ hb hjo) _,iB _⟩
  simp only [gC p4,aN,if_false,aG,hj]
  exact⟨_,rfl,rfl,hs.put hs.1 hcs (by exact cZ hb hjo) _,iB _⟩
theorem aYY(hk:j.Op.Kind=3):∃x,((A8 s w j).bind fun q=>cN w q.1 q.2)=some x∧CQ s w=some x∧xX x∧x.Log.length≤s.Log.length+1:=by
  have h3:=hs.2.2.1
  have hset:∀x,idx (s.aQ.set w.toNat x) w=some x:=JY hw.1 (by omega)
  have hn:∀(e:Ev) {α:Type} (k:Option α),need (s.Log.length + [e].length≤1073741824) k=k:=fun e _ k=>aO (by simp;omega) k
  have hcs:s.Cells.length=2∧∀h∈s.Cells,dL h:=⟨hs.2.1,hs.2.2.2.2.2.1⟩
  have hcell:idx s.Cells j.Op.Cell=some (s.Cells[j.Op.Cell.toNat]'(by have:=hjo.1.2.2.1;omega)):=fL hjo.1.2.2.1.1 (by have:=hjo.1.2.2.1;omega)
  have hcm:dL (s.Cells[j.Op.Cell.toNat]'(by have:=hjo.1.2.2.1;omega)):=hcs.2 _ (dP _)
  generalize (s.Cells[j.Op.Cell.toNat]'(by have:=hjo.1.2.2.1;omega))=cell at hcell hcm
  unfold A8 CQ
  rw [hj]
  simp only [aG,bC,bP,dF,cN,CN,CP]
  by_cases p0:j.Pc=0
  · simp only [p0,beq_self_eq_true,if_true,hcell,aG,iJ,hn,hj,dB,dN,hset]
    by_cases c0:cell=0
    · simp only [c0,beq_self_eq_true,if_true,aG,hj,KC,hn];exact⟨_,rfl,rfl,hs.put hs.1 hcs (by exact cZ hb ⟨hjo.1,.inl rfl,hjo.2.2⟩) _,by simp⟩
    · simp only [gC c0,aN,if_false,aG,hj,KC];exact⟨_,rfl,rfl,hs.put hs.1 hcs (by exact cZ hb ⟨hjo.1,hcm,hjo.2.2⟩) _,iB _⟩
  simp only [gC p0,aN,if_false]
  by_cases p1:j.Pc=1
  · obtain⟨r,e1,e2,h1⟩:=aM6 hs.1.1.2.2.2 hw j.H
    simp only [p1,beq_self_eq_true,if_true,e1,e2,aG,hj]
    exact⟨_,rfl,rfl,hs.put (hs.1.haz h1) hcs (by exact cZ hb hjo) _,iB _⟩
  simp only [gC p1,aN,if_false]
  by_cases p2:j.Pc=2
  · simp only [p2,beq_self_eq_true,if_true,hcell,aG,iJ,hn,hj,dB,dN]
    by_cases c0:cell=j.H
    · simp only [c0,bne_self_eq_false,aN,if_false,aG,hj];exact⟨_,rfl,rfl,hs.put hs.1 hcs (by exact cZ hb hjo) _,by simp⟩
    · simp only [OG c0,if_true,aG,hj];exact⟨_,rfl,rfl,hs.put hs.1 hcs (by exact cZ hb hjo) _,iB _⟩
  simp only [gC p2,aN,if_false]
  by_cases p3:j.Pc=3
  · obtain⟨r,e1,e2⟩:=aM4 hs.1.1.1 j.H
    simp only [p3,beq_self_eq_true,if_true,l5,lE,hj,e1,e2,aG,hset,KC]
    exact⟨_,rfl,rfl,hs.put hs.1 hcs (by exact cZ hb hjo) _,iB _⟩
  simp only [gC p3,aN,if_false]
  by_cases p4:j.Pc=4
  · obtain⟨r,e1,e2,h1⟩:=aTN hs.1.1.2.2.2 hw
    simp only [p4,beq_self_eq_true,if_true,e1,e2,aG,hj]
    exact⟨_,rfl,rfl,hs.put (hs.1.haz h1) hcs (by exact cZ hb hjo) _,iB _⟩
  simp only [gC p4,aN,if_false,aG,hj]
  exact⟨_,rfl,rfl,hs.put hs.1 hcs (by exact cZ hb hjo) _,iB _⟩
theorem aV8(hk:j.Op.Kind=7):∃x,((xC s w j).bind fun q=>cN w q.1 q.2)=some x∧zR s w=some x∧xX x∧x.Log.length≤s.Log.length+1:=by
  have h3:=hs.2.2.1
  have hset:∀x,idx (s.aQ.set w.toNat x) w=some x:=JY hw.1 (by omega)
  have hn:∀(e:Ev) {α:Type} (k:Option α),need (s.Log.length + [e].length≤1073741824) k=k:=fun e _ k=>aO (by simp;omega) k
  have hcs:s.Cells.length=2∧∀h∈s.Cells,dL h:=⟨hs.2.1,hs.2.2.2.2.2.1⟩
  have hcell:idx s.Cells j.Op.Cell=some (s.Cells[j.Op.Cell.toNat]'(by have:=hjo.1.2.2.1;omega)):=fL hjo.1.2.2.1.1 (by have:=hjo.1.2.2.1;omega)
  have hcm:dL (s.Cells[j.Op.Cell.toNat]'(by have:=hjo.1.2.2.1;omega)):=hcs.2 _ (dP _)
  generalize (s.Cells[j.Op.Cell.toNat]'(by have:=hjo.1.2.2.1;omega))=cell at hcell hcm
  obtain⟨pn,hpn,_⟩:=X9 hs.1.1.2.1 hw
  unfold xC zR
  rw [hj,hpn]
  simp only [aG,bC,bP,dF,cN,AJ,rN,rM,hj]
  by_cases p0:j.Pc=0
  · simp only [p0,beq_self_eq_true,if_true]
    cases pn.On with
    | false=>simp only [iN,if_true,aG,hj];exact⟨_,rfl,rfl,hs.put hs.1 hcs (by exact cZ hb hjo) _,iB _⟩
    | true =>
      simp only [dA,aN,if_false]
      cases pn.eW with
      | true=>simp only [if_true,aG,hj];exact⟨_,rfl,rfl,hs.put hs.1 hcs (by exact cZ hb hjo) _,iB _⟩
      | false =>
        simp only [aN,if_false,hcell,aG,iJ,hn,uW,hj,dB,dN,hset]
        by_cases c0:cell=0
        · simp only [c0,beq_self_eq_true,if_true,aG,hj,KC];exact⟨_,rfl,rfl,hs.put hs.1 hcs (by exact cZ hb ⟨hjo.1,.inl rfl,hjo.2.2⟩) _,by simp⟩
        · simp only [gC c0,aN,if_false,aG,hj,KC];exact⟨_,rfl,rfl,hs.put hs.1 hcs (by exact cZ hb ⟨hjo.1,hcm,hjo.2.2⟩) _,by simp⟩
  simp only [gC p0,aN,if_false,hj,aG]
  by_cases p1:j.Pc=1
  · obtain⟨r,e1,e2⟩:=aM4 hs.1.1.1 j.H
    simp only [p1,beq_self_eq_true,if_true,l5,lE,hj,e1,e2,aG,hset,KC]
    exact⟨_,rfl,rfl,hs.put hs.1 hcs (by exact cZ hb hjo) _,iB _⟩
  simp only [gC p1,aN,if_false]
  by_cases p2:j.Pc=2
  · simp only [p2,beq_self_eq_true,if_true,oR,lO,hj,hpn,aG,dF,rL,jP,jQ,bC]
    cases pn.On with
    | false=>simp only [aN,if_false,aG,iN,if_true,hj];exact⟨_,rfl,rfl,hs.put hs.1 hcs (by exact cZ hb hjo) _,iB _⟩
    | true =>
      simp only [if_true,aG]
      cases pn.eW with
      | false=>simp only [aN,if_false,aG,iN,dA,if_true,hj];exact⟨_,rfl,rfl,hs.put hs.1 hcs (by exact cZ hb hjo) _,iB _⟩
      | true=>simp only [aN,if_false,aG,iN,dA,if_true,hj];exact⟨_,rfl,rfl,hs.put hs.1 hcs (by exact cZ hb hjo) _,iB _⟩
  simp only [gC p2,aN,if_false,aG,hj]
  exact⟨_,rfl,rfl,hs.put hs.1 hcs (by exact cZ hb hjo) _,iB _⟩
theorem aTO(hk:j.Op.Kind=4∨j.Op.Kind=5∨j.Op.Kind=6):∃x,((tH s w j).bind fun q=>cN w q.1 q.2)=some x∧wR s w=some x∧xX x∧x.Log.length≤s.Log.length+1:=by
  have h3:=hs.2.2.1
  have hset:∀x,idx (s.aQ.set w.toNat x) w=some x:=JY hw.1 (by omega)
  have hcs:s.Cells.length=2∧∀h∈s.Cells,dL h:=⟨hs.2.1,hs.2.2.2.2.2.1⟩
  obtain⟨x,y,e1,e2,hx⟩:=step_eq hs.1 hs.1.small hw j.Sub
  unfold tH wR
  rw [hj]
  simp only [aG,bC,bP,dF,cN,fZ,jD,qD,fW,pH,pC,pG,pE,pD,hj,e1,e2]
  rcases hk with k4 | k5 | k6
  · simp only [k4,show((4:Int) == 6)=false from rfl,show((4:Int) == 5)=false from rfl,show((4:Int) == 4)=true from rfl,aN,if_false,if_true]
    by_cases p0:j.Pc=0
    · simp only [p0,bne_self_eq_false,beq_self_eq_true,aN,if_false,if_true]
      cases hd:y.cS with
      | false=>simp only [iN,if_true,aN,if_false,aG,hj];exact⟨_,rfl,rfl,hs.put hx hcs (by exact cZ hb hjo) _,iB _⟩
      | true=>simp only [dA,if_true,aN,if_false,aG,hj];exact⟨_,rfl,rfl,hs.put hx hcs (by exact cZ hb hjo) _,iB _⟩
    · simp only [OG p0,gC p0,aN,if_false,if_true]
      by_cases p1:j.Pc=1
      · simp only [p1,bne_self_eq_false,beq_self_eq_true,aN,if_false,if_true,show((1:Int) == 0)=false from rfl]
        cases hd:y.cS with
        | false=>simp only [iN,if_true,aN,if_false,aG,hj];exact⟨_,rfl,rfl,hs.put hx hcs (by exact cZ hb hjo) _,iB _⟩
        | true=>simp only [dA,if_true,aN,if_false,aG,hj];exact⟨_,rfl,rfl,hs.put hx hcs (by exact cZ hb hjo) _,iB _⟩
      · simp only [OG p1,gC p1,aN,if_false,if_true,aG,hj]
        exact⟨_,rfl,rfl,hs.put hs.1 hcs (by exact cZ hb hjo) _,iB _⟩
  · simp only [k5,show((5:Int) == 6)=false from rfl,show((5:Int) == 5)=true from rfl,show((5:Int) == 4)=false from rfl,aN,if_false,if_true]
    by_cases p0:j.Pc=0
    · simp only [p0,bne_self_eq_false,beq_self_eq_true,aN,if_false,if_true]
      cases hd:y.cS with
      | false=>simp only [iN,if_true,aN,if_false,aG,hj];exact⟨_,rfl,rfl,hs.put hx hcs (by exact cZ hb hjo) _,iB _⟩
      | true=>simp only [dA,if_true,aN,if_false,aG,hj];exact⟨_,rfl,rfl,hs.put hx hcs (by exact cZ hb hjo) _,iB _⟩
    · simp only [OG p0,gC p0,aN,if_false,if_true]
      by_cases p1:j.Pc=1
      · simp only [p1,bne_self_eq_false,aN,if_false,if_true,aG,hj]
        exact⟨_,rfl,rfl,hs.put hs.1 hcs (by exact cZ hb hjo) _,iB _⟩
      · simp only [OG p1,if_true,aG,hj]
        exact⟨_,rfl,rfl,hs.put hs.1 hcs (by exact cZ hb hjo) _,iB _⟩
  · simp only [k6,beq_self_eq_true,show((6:Int) == 5)=false from rfl,show((6:Int) == 4)=false from rfl,aN,if_false,if_true]
    by_cases p0:j.Pc=0
    · obtain⟨r,f1,f2,h1,h2⟩:=aKZ hs.1.1.2.1 hw
      simp only [p0,beq_self_eq_true,if_true,f1,f2,sD,aG]
      cases hr:r.2 with
      | false=>simp only [iN,if_true,aG,hj];exact⟨_,rfl,rfl,hs.put (hs.1.clock h1 (by rw [h2];exact Int.le_refl _)) hcs (by exact cZ hb hjo) _,iB _⟩
      | true=>simp only [dA,aN,if_false,aG,hj];exact⟨_,rfl,rfl,hs.put (hs.1.clock h1 (by rw [h2];exact Int.le_refl _)) hcs (by exact cZ hb hjo) _,iB _⟩
    · simp only [gC p0,aN,if_false,aG,hj]
      exact⟨_,rfl,rfl,hs.put hs.1 hcs (by exact cZ hb hjo) _,iB _⟩
end
theorem aM7{l:List eU}(h:0 < l.length)(hl:l.length≤1000):wJ l 0 1=some (l.drop 1):=by
  have e:=del_eq (l:=l) (k:=0) h
  unfold wJ
  rw [aO (by omega),if_neg (by simp),aO (by omega),aO (by omega),aO (by omega),aO]
  · simp only [Int.toNat_zero,Int.toNat_one] at e ⊢
    rw [HA] at e
    rw [HA,e,List.eraseIdx_zero,List.drop_one]
  · rw [fG (by omega)]
    simp only [BH,xZ,fG (show(0:Int).toNat≤l.length by simp)]
    omega
theorem aES{o:eU}(ho:uF o)(ser pc:Int)(sub:Sub)(code:Int):JOk ⟨true,o,ser,pc,sub,0,0,0,code⟩:=(GI rfl).2 ⟨ho,.inl rfl,.inl rfl⟩
theorem aTP{s:aA}(hs:xX s)(hl:s.Log.length≤1000000000){w:Int}(hw:0≤w∧w≤2){j:bR}(hj:idx s.aQ w=some j):∃x,tB s w=some x∧wK s w=some x∧xX x∧x.Log.length≤s.Log.length+1:=by
  have h3:=hs.2.2.1
  have ht:=hs.2.2.2.1
  have hser:=hs.2.2.2.2.1
  have hset:∀x,idx (s.aQ.set w.toNat x) w=some x:=JY hw.1 (by omega)
  have hn:∀(e:Ev) {α:Type} (k:Option α),need (s.Log.length + [e].length≤1073741824) k=k:=fun e _ k=>aO (by simp;omega) k
  have hq:idx s.cE w=some (s.cE[w.toNat]'(by have:=ht.1;omega)):=fL hw.1 (by have:=ht.1;omega)
  have hqk:QOk (s.cE[w.toNat]'(by have:=ht.1;omega)):=ht.2 _ (dP _)
  generalize (s.cE[w.toNat]'(by have:=ht.1;omega))=q at hq hqk
  obtain⟨pn,hpn,_⟩:=X9 hs.1.1.2.1 hw
  have ew:aV (s.aJ+1)=s.aJ+1:=aP (by omega) (by omega)
  unfold tB wK
  rw [hq]
  simp only [aG,p7,o9]
  by_cases l0:q.jJ.length=0
  · simp only [show((q.jJ.length:Int) == 0)=true by rw [l0];rfl,if_true]
    exact⟨_,rfl,rfl,hs,iB _⟩
  · simp only [show((q.jJ.length:Int) == 0)=false from gC (by omega),aN,if_false]
    by_cases s0:s.aJ=1000000
    · simp only [s0,beq_self_eq_true,if_true]
      exact⟨_,rfl,rfl,hs,iB _⟩
    · simp only [gC s0,aN,if_false,hq,aG]
      have hx:idx q.jJ 0=some (q.jJ[0]'(by omega)):=by have:=aR (l:=q.jJ) (k:=0) (by omega);simpa using this
      have ho:uF (q.jJ[0]'(by omega)):=hqk.2 _ (dP _)
      have h12:=hqk.1
      have hdel:=aM7 (l:=q.jJ) (by omega) (by omega)
      generalize (q.jJ[0]'(by omega))=o at hx ho
      have etk:(q.jJ.take q.jJ.length).drop (1:Int).toNat=q.jJ.drop 1:=by rw [IV];rfl
      have hT:RR (s.cE.set w.toNat ⟨q.jJ.drop 1⟩):=⟨by simpa using ht.1,fun z hz=>(oW hz).elim (ht.2 z) (fun e=>by
        subst e
        exact⟨by simp only [MG];omega,fun a ha=>hqk.2 a (aBR ha)⟩)⟩
      have fin:∀(jb:bR) (l:List Ev),JOk jb→xX ⟨s.aD,s.Cells,s.aQ.set w.toNat jb,s.cE.set w.toNat ⟨q.jJ.drop 1⟩,l,s.aJ+1⟩:=fun jb l hjb=>
        ⟨hs.1,hs.2.1,by simpa using h3,hT,by simp only;omega,hs.2.2.2.2.2.1,fun z hz=>(oW hz).elim (hs.2.2.2.2.2.2 z) (fun e=>e ▸ hjb)⟩
      simp only [hx,hdel,aG,fZ,jD,ew]
      rw [aO (by omega)]
      by_cases k1:o.Kind=1
      · simp only [k1,beq_self_eq_true,if_true,dZ,dT,hj,dB,dN,aG,hset,hn,etk,ew]
        exact⟨_,rfl,rfl,fin _ _ (aES ho _ _ _ _),by simp⟩
      simp only [gC k1,aN,if_false]
      have pin:∀z,z=true→∃x,hC s w q o z=some x∧jA s w o (q.jJ.drop 1) z=some x∧xX x∧x.Log.length≤s.Log.length+1:=fun z hz=>by
        subst hz
        simp only [hC,jA,if_true,fZ,jD,hpn,aG,bP]
        cases pn.On with
        | true =>
          simp only [if_true,dZ,dT,hj,dB,dN,aG,hset,hn,etk,ew]
          exact⟨_,rfl,rfl,fin _ _ (aES ho _ _ _ _),by simp⟩
        | false =>
          simp only [aN,if_false,dZ,dT,hj,dB,dN,aG,hset,hn,etk,ew]
          exact⟨_,rfl,rfl,fin _ _ (aES ho _ _ _ _),by simp⟩
      by_cases k2:o.Kind=2
      · simp only [k2,beq_self_eq_true,if_true];exact pin true rfl
      simp only [gC k2,aN,if_false]
      by_cases k5:o.Kind=5
      · simp only [k5,beq_self_eq_true];exact pin true rfl
      simp only [gC k5,hC,jA,aN,if_false,fZ,jD,aG]
      by_cases k4:o.Kind=4
      · simp only [k4,beq_self_eq_true,if_true,dZ,dT,hj,dB,dN,aG,hset,hn,etk,ew]
        exact⟨_,rfl,rfl,fin _ _ (aES ho _ _ _ _),by simp⟩
      · simp only [gC k4,aN,if_false,dZ,dT,hj,dB,dN,aG,hset,hn,etk,ew]
        exact⟨_,rfl,rfl,fin _ _ (aES ho _ _ _ _),by simp⟩
theorem aI9{s:aA}(hs:xX s)(hl:s.Log.length≤1000000000){w:Int}(hw:0≤w∧w≤2):∃x,vK s w=some x∧lF s w=some x∧xX x∧x.Log.length≤s.Log.length+1:=by
  have h3:=hs.2.2.1
  have hset:∀x,idx (s.aQ.set w.toNat x) w=some x:=JY hw.1 (by omega)
  have hn:∀(e:Ev) {α:Type} (k:Option α),need (s.Log.length + [e].length≤1073741824) k=k:=fun e _ k=>aO (by simp;omega) k
  have hj:idx s.aQ w=some (s.aQ[w.toNat]'(by omega)):=fL hw.1 (by omega)
  have hjk:JOk (s.aQ[w.toNat]'(by omega)):=hs.2.2.2.2.2.2 _ (dP _)
  generalize (s.aQ[w.toNat]'(by omega))=j at hj hjk
  unfold vK lF
  rw [hj]
  simp only [aG]
  cases hb:j.fV with
  | false =>
    obtain⟨x,e1,e2,e3,e4⟩:=aTP hs hl hw hj
    simp only [iN,if_true,e1,e2,aG]
    exact⟨_,rfl,rfl,e3,e4⟩
  | true =>
    have hjo:=(GI hb).1 hjk
    simp only [dA,aN,if_false]
    by_cases p9:j.Pc=9
    · simp only [p9,beq_self_eq_true,if_true,hn,dB,dN,hj,aG]
      exact⟨_,rfl,rfl,hs.put hs.1 ⟨hs.2.1,hs.2.2.2.2.2.1⟩ ((RS rfl).2 rfl) _,by simp⟩
    simp only [gC p9,aN,if_false]
    have close:∀{A B:Option aA} {x:aA},A=some x→B=some x→xX x→x.Log.length≤s.Log.length+1→∃x,A=some x∧(B.bind fun z=>some z)=some x∧xX x∧x.Log.length≤s.Log.length+1:=fun h1 h2 h3 h4=>⟨_,h1,by rw [h2];rfl,h3,h4⟩
    by_cases k1:j.Op.Kind=1
    · obtain⟨x,e1,e2,e3,e4⟩:=aYX hs hl hw hj hb hjo k1
      simp only [k1,beq_self_eq_true,if_true];exact close e1 e2 e3 e4
    simp only [gC k1,aN,if_false]
    by_cases k2:j.Op.Kind=2
    · obtain⟨x,e1,e2,e3,e4⟩:=get_eq hs hl hw hj hb hjo k2
      simp only [k2,beq_self_eq_true,if_true];exact close e1 e2 e3 e4
    simp only [gC k2,aN,if_false]
    by_cases k3:j.Op.Kind=3
    · obtain⟨x,e1,e2,e3,e4⟩:=aYY hs hl hw hj hb hjo k3
      simp only [k3,beq_self_eq_true,if_true];exact close e1 e2 e3 e4
    simp only [gC k3,aN,if_false]
    by_cases k7:j.Op.Kind=7
    · obtain⟨x,e1,e2,e3,e4⟩:=aV8 hs hl hw hj hb hjo k7
      simp only [k7,beq_self_eq_true,if_true];exact close e1 e2 e3 e4
    simp only [gC k7,aN,if_false]
    have hkr:=hjo.1.1
    obtain⟨x,e1,e2,e3,e4⟩:=aTO hs hl hw hj hb hjo (by omega)
    exact close e1 e2 e3 e4
end Go.Gv
end
noncomputable section
namespace Go.Gv
def AN(s:Sub)(code:Int):Sub:={s with Code:=code,cS:=true}
def AO(n:Int):Int:=if 1≤n∧n≤8 then 0 else if 1≤n∧n≤16 then 1 else if 1≤n∧n≤40 then 2 else -1
theorem aM8(n:Int):-1≤AO n∧AO n≤2:=by unfold AO;split <;> (try split) <;> (try split) <;> omega
theorem aHI(n:Int):j6 n=some (AO n):=by
  have s1:∀k,0≤k∧k≤2→fC n k=some (if 1≤n∧n≤gI k then .stop (Out.ret k) else .next (k+1)):=fun k hk=>by
    simp only [fC]
    rw [if_pos (by simp;omega),qR,aG,b7,aG,aP (by omega) (by omega)]
    by_cases q:1≤n∧n≤gI k
    · rw [bD q,if_pos rfl,if_pos q]
    · rw [bQ q,if_neg (by simp),if_neg q]
  have z0:gI 0=8:=rfl
  have z1:gI 1=16:=rfl
  have z2:gI 2=40:=rfl
  unfold j6 AO
  by_cases q0:1≤n∧n≤8
  · rw [bM (by rw [s1 0 (by omega),if_pos (by omega)]),if_pos q0];rfl
  · rw [bX (by rw [s1 0 (by omega),if_neg (by omega)]),if_neg q0,show(0:Int)+1=1 from rfl]
    by_cases q1:1≤n∧n≤16
    · rw [bM (by rw [s1 1 (by omega),if_pos (by omega)]),if_pos q1];rfl
    · rw [bX (by rw [s1 1 (by omega),if_neg (by omega)]),if_neg q1,show(1:Int)+1=2 from rfl]
      by_cases q2:1≤n∧n≤40
      · rw [bM (by rw [s1 2 (by omega),if_pos (by omega)]),if_pos q2];rfl
      · rw [bX (by rw [s1 2 (by omega),if_neg (by omega)]),if_neg q2,show(2:Int)+1=3 from rfl,bM (body:=fC n) (r:=Out.brk ()) (by simp [fC])];rfl
def YC(l:List Int):List Int×Int:=(l.dropLast,l.getLastD (-1))
theorem aBM{s:aK}(h:s.aM.length≤1048576):oQ s=some (⟨(YC s.aM).1⟩,(YC s.aM).2):=by
  unfold oQ FA YC
  obtain⟨l⟩:=s
  rcases List.eq_nil_or_concat l with rfl | ⟨L,b,rfl⟩
  · rfl
  · simp only [List.concat_eq_append] at h ⊢
    have hl:(L ++ [b]).length=L.length+1:=by simp
    rw [hl,aP (by omega) (by omega),show((L.length+1:Nat):Int) - 1=(L.length:Int) by omega,if_neg (by simp;omega),aO (by omega),aR (by rw [hl];omega)]
    simp
def JZ(m:Mem)(w c:Int):Mem×Int:=(⟨m.aE,⟨m.aB.Global,m.aB.Own.set (w * 3+c).toNat ⟨(YC (eD m.aB.Own (w * 3+c).toNat)).1⟩⟩⟩,(YC (eD m.aB.Own (w * 3+c).toNat)).2)
def BD(m:Mem)(c:Int):Mem×Int:=(⟨m.aE,⟨m.aB.Global.set c.toNat ⟨(YC (eD m.aB.Global c.toNat)).1⟩,m.aB.Own⟩⟩,(YC (eD m.aB.Global c.toNat)).2)
def SC(h:aE):Nat:=h.Class.findIdx (fun x=>decide (x = -1))
def RT(m:Mem)(c:Int):Mem×Int:=if SC m.aE=6 then (m,-1) else
  (⟨⟨gB m.aE.Bytes (SC m.aE) c (cK c).toNat,m.aE.Class.set (SC m.aE) c⟩,⟨m.aB.Global.set c.toNat ⟨eD m.aB.Global c.toNat++(gS (SC m.aE) (cK c).toNat).drop 1⟩,m.aB.Own⟩⟩,(SC m.aE:Int) * 4)
theorem aTQ{h:aE}(hs:eZ h):SC h≤6:=by rw [←hs.2.1];exact List.findIdx_le_length
theorem aYZ{h:aE}(hs:eZ h)(hq:SC h≠6):SC h < 6∧cC h (SC h) = -1:=by
  have h6:=hs.2.1
  have hlt:SC h < 6:=by have:=aTQ hs;omega
  refine⟨hlt,?_⟩
  rw [←OB hs hlt]
  have:=List.findIdx_getElem (xs:=h.Class) (p:=fun x=>decide (x = -1)) (w:=by show SC h < _;omega)
  exact of_decide_eq_true this
theorem aOS{h:aE}(hs:eZ h):∀j (hj:j < 6),j < SC h→cC h j≠-1:=fun j hj hlt=>by
  have:=List.not_of_lt_findIdx hlt
  rw [←OB hs hj]
  simpa using this
theorem aY0{h:aE}(hh:WX h){c:Int}(hc:0≤c∧c≤2):nZ h c=some (if SC h=6 then (h,[]) else (⟨gB h.Bytes (SC h) c (cK c).toNat,h.Class.set (SC h) c⟩,gS (SC h) (cK c).toNat)):=by
  have hs:=hh.1
  have h6:=hs.2.1
  have h384:=hs.1
  have hle:=aTQ hs
  have s1:∀k (hk:k < SC h),eQ h c (k:Int)=some (.next ((k+1:Nat):Int)):=fun k hk=>by
    have n:(h.Class[k] != -1)=true:=by
      have:=aOS hs k (by omega) hk
      rw [←OB hs (by omega)] at this
      simpa using this
    simp only [eQ,zY]
    rw [if_pos (by simp;omega),aR (by omega),aG,n,if_pos rfl,aP (by omega) (by omega)];rfl
  unfold nZ
  by_cases hq:SC h=6
  · have a1:loop (eQ h c) 0=some (Out.brk ()):=gD (SC h) (fun k=>(k:Int)) _ s1 (by simp only [eQ];rw [if_neg (by simp;omega)])
    rw [a1,if_pos hq];rfl
  · obtain⟨hlt,he⟩:=aYZ hs hq
    rw [←OB hs hlt] at he
    generalize hqq:SC h=q at *
    have a1:loop (eQ h c) 0=some (Out.ret (⟨gB h.Bytes q c (cK c).toNat,h.Class.set q c⟩,gS q (cK c).toNat)):=gD q (fun k=>(k:Int)) _ s1 (by
      have e0:aV ((q:Int) * 64)=((q * 64:Nat):Int):=by rw [aP (by omega) (by omega)];omega
      have e1:aV (((q * 64:Nat):Int)+1)=((q * 64+1:Nat):Int):=by rw [aP (by omega) (by omega)];omega
      have e2:aV (((q * 64:Nat):Int)+2)=((q * 64+2:Nat):Int):=by rw [aP (by omega) (by omega)];omega
      have n:(h.Class[q] != -1)=false:=by simpa using he
      simp only [eQ,e0,e1,e2,K9]
      rw [if_pos (by simp;omega),aR (by omega),aG,n,if_neg (by simp),aR (by omega),aG,aR (by simp;omega),aG,gU,aG,aR (by simp;omega),aG]
      have:=aEL h384 hlt hc
      simp only [gB] at this
      rw [this];rfl)
    rw [a1,if_neg hq];rfl
theorem aPX{m:Mem}(hm:tK m){c:Int}(hc:0≤c∧c≤2):wY m c=some (RT m c):=by
  have h3:=hm.1.2.1
  have hpp:0 < cK c:=kN.2 hc
  have hp4:=mY c
  obtain⟨_,_,_,_,_,_,_,_,hsG,_⟩:=tK.facts hm
  unfold wY RT
  rw [aY0 hm.1.1 hc]
  by_cases hq:SC m.aE=6
  · simp only [if_pos hq,aG];rfl
  · have hk:c.toNat < m.aB.Global.length:=by omega
    have hg0:=hsG _ (dP hk)
    have hx:idx m.aB.Global c=some m.aB.Global[c.toNat]:=fL hc.1 (by omega)
    have hz:idx (gS (SC m.aE) (cK c).toNat) 0=some ((SC m.aE:Int) * 4):=by
      have:=aR (l:=gS (SC m.aE) (cK c).toNat) (k:=0) (by rw [MD];omega)
      rw [show((0:Nat):Int)=0 from rfl] at this
      rw [this];simp [gS]
    have hn:(((cK c).toNat:Int) == 0)=false:=by simpa using (by omega:¬((cK c).toNat:Int)=0)
    have ht:(gS (SC m.aE) (cK c).toNat).take (cK c).toNat=gS (SC m.aE) (cK c).toNat:=List.take_of_length_le (by rw [MD];omega)
    have hd:((gS (SC m.aE) (cK c).toNat).drop 1).length≤4:=by rw [MG,MD];omega
    simp only [if_neg hq,aG,MD,hn,aN,if_false,hx,hz,z5,ht]
    rw [aO (by omega),aO (by simp only [MG,MD,Int.toNat_one];omega),dM hk];rfl
def aY1(m:Mem)(s:Int):Int:=if 1≤mJ m.aE s∧mJ m.aE s≤6 then mJ m.aE s * 32+s else 0
theorem aV9{m:Mem}(hs:eZ m.aE){s:Int}(hc:0≤bG m.aE s):tC m s=some (aY1 m s):=by
  unfold tC FB p8 aY1
  rw [oV hs hc,aG,b7,b7]
  have h1:=(AA hc).1
  simp only [bD h1,aG,dA,aN,if_false]
  by_cases q:1≤mJ m.aE s∧mJ m.aE s≤6
  · simp only [bD q,dA,aN,if_false,if_pos q]
    rw [aP (x:=mJ m.aE s * 32) (by omega) (by omega),aP (by omega) (by omega)];rfl
  · simp only [bQ q,iN,if_true,if_neg q];rfl
def OH(b:aD)(s:Sub)(p:Mem×Int):aD×Sub:=
  if 0≤p.2 then ({b with Mem:=p.1},AN {s with Out:=aY1 p.1 p.2} 0) else if s.Pc=3 then ({b with Mem:=p.1},AN s 3) else ({b with Mem:=p.1},{s with Pc:=s.Pc+1})
def J0(b:aD)(w:Int)(s:Sub):aD×Sub:=
  if AO s.A < 0 then (b,AN s 2)
  else if s.Pc=0 then OH b s (JZ b.Mem w (AO s.A))
  else if s.Pc=1∨s.Pc=3 then OH b s (BD b.Mem (AO s.A))
  else if s.Pc=2 then OH b s (RT b.Mem (AO s.A))
  else (b,AN s 1)
theorem aPY{b:aD}(hm:tK b.Mem){w:Int}(hw:0≤w∧w≤2)(s:Sub):tD b w s=some (J0 b w s):=by
  obtain⟨hcnt,h3,h9,h1,h2,hsm,hcp,hlo,hsG,hsO⟩:=tK.facts hm
  have hs:=hm.1.1.1
  have hr:=aM8 s.A
  unfold tD J0
  rw [aHI]
  simp only [aG]
  by_cases c0:AO s.A < 0
  · simp only [bD c0,if_true,bK,if_pos c0];rfl
  generalize AO s.A=c at *
  have hc:0≤c∧c≤2:=by omega
  simp only [bQ c0,aN,if_false,if_neg c0]
  have fin:∀(p:Mem×Int),-1≤p.2→(0≤p.2→eZ p.1.aE∧0≤bG p.1.aE p.2)→s.Pc≤3∧0≤s.Pc→hJ s p.2 ⟨p.1,b.aH,b.aU,b.mA⟩=some (OH b s p):=by
    intro p hp hx hpc
    unfold hJ OH
    simp only [qA,IE,bK]
    by_cases x0:0≤p.2
    · rw [bQ (show ¬p.2 < 0 by omega),bD x0]
      simp only [aN,if_false,if_true,if_pos x0,aV9 (hx x0).1 (hx x0).2,aG];rfl
    · rw [bD (show p.2 < 0 by omega),bQ x0]
      by_cases p3:s.Pc=3
      · have p3':(s.Pc == 3)=true:=by simpa using p3
        simp only [p3',if_true,if_neg x0,if_pos p3,aG];rfl
      · have p3':(s.Pc == 3)=false:=by simpa using p3
        have e:aV (s.Pc+1)=s.Pc+1:=aP (by omega) (by omega)
        simp only [p3',if_true,aN,if_false,if_neg x0,if_neg p3,aG,e]
  have popL:∀l:List Int,-1≤(YC l).2∨(YC l).2∈l:=fun l=>by
    unfold YC
    rcases List.eq_nil_or_concat l with rfl | ⟨L,b,rfl⟩
    · left;simp
    · right;simp
  by_cases p0:s.Pc=0
  · have hk:(w * 3+c).toNat < b.Mem.aB.Own.length:=by omega
    have hx:idx b.Mem.aB.Own (w * 3+c)=some b.Mem.aB.Own[(w * 3+c).toNat]:=fL (by omega) (by omega)
    obtain⟨l,t,x,e1,e2,e3,g1,g2,g3⟩:=aEP hm hw hc
    have hl:=hsO _ (dP hk)
    rw [hx] at e1;cases e1
    rw [aBM (by omega)] at e2
    have ep:JZ b.Mem w c=(⟨b.Mem.aE,⟨b.Mem.aB.Global,b.Mem.aB.Own.set (w * 3+c).toNat t⟩⟩,x):=by
      unfold JZ
      rw [←dM hk]
      injection e2 with e2;injection e2 with e4 e5
      rw [←e4,←e5]
    have hx0:-1≤x:=by
      injection e2 with e2;injection e2 with e4 e5
      rcases popL b.Mem.aB.Own[(w * 3+c).toNat].aM with h | h
      · rw [←e5];exact h
      · rw [←e5];have:=hm.1.2.2.2.2.1 _ (YL _ (SP.2 ⟨_,dP hk,h⟩));omega
    have p0':(s.Pc == 0)=true:=by simpa using p0
    have:=fin (JZ b.Mem w c) (by rw [ep];exact hx0) (by rw [ep];exact fun h=>⟨hs,g2 h⟩) (by omega)
    rw [ep] at this
    simp only [p0',if_true,if_pos p0,(zD hw hc).1,aG,hx]
    rw [aBM (show b.Mem.aB.Own[(w * 3+c).toNat].aM.length≤1048576 by omega),e2,aG,ep]
    exact this
  · have p0':(s.Pc == 0)=false:=by simpa using p0
    simp only [p0',aN,if_false,qB,if_neg p0]
    have hk:c.toNat < b.Mem.aB.Global.length:=by omega
    have hx:idx b.Mem.aB.Global c=some b.Mem.aB.Global[c.toNat]:=fL (by omega) (by omega)
    obtain⟨l,t,x,e1,e2,e3,g1,g2,g3⟩:=TQ hm hc
    have hl:=hsG _ (dP hk)
    rw [hx] at e1;cases e1
    rw [aBM (by omega)] at e2
    have ep:BD b.Mem c=(⟨b.Mem.aE,⟨b.Mem.aB.Global.set c.toNat t,b.Mem.aB.Own⟩⟩,x):=by
      unfold BD
      rw [←dM hk]
      injection e2 with e2;injection e2 with e4 e5
      rw [←e4,←e5]
    have hx0:-1≤x:=by
      injection e2 with e2;injection e2 with e4 e5
      rcases popL b.Mem.aB.Global[c.toNat].aM with h | h
      · rw [←e5];exact h
      · rw [←e5];have:=hm.1.2.2.2.2.1 _ (P2 _ (SP.2 ⟨_,dP hk,h⟩));omega
    have tg:0≤s.Pc∧s.Pc≤3→(idx b.Mem.aB.Global c).bind (fun x13=>(oQ x13).bind fun x14=>hJ s x14.2 ({b with Mem:=(⟨b.Mem.aE,(⟨b.Mem.aB.Global.set c.toNat x14.1,b.Mem.aB.Own⟩:aB)⟩:Mem)}:aD))=some (OH b s (BD b.Mem c)):=fun hpc=>by
      have:=fin (BD b.Mem c) (by rw [ep];exact hx0) (by rw [ep];exact fun h=>⟨hs,g2 h⟩) (by omega)
      rw [hx,aG,aBM (by omega),e2,aG,←this,ep]
    by_cases p1:s.Pc=1
    · have p1':(s.Pc == 1)=true:=by simpa using p1
      simp only [p1',if_true]
      rw [tg (by omega),if_pos (.inl p1)]
    · have p1':(s.Pc == 1)=false:=by simpa using p1
      simp only [p1',aN,if_false]
      by_cases p3:s.Pc=3
      · have p3':(s.Pc == 3)=true:=by simpa using p3
        simp only [p3',if_true]
        rw [tg (by omega),if_pos (.inr p3)]
      · have p3':(s.Pc == 3)=false:=by simpa using p3
        have n13:¬(s.Pc=1∨s.Pc=3):=by omega
        simp only [p3',aN,if_false,if_neg n13]
        by_cases p2:s.Pc=2
        · obtain⟨m',y,f1,f2,k1,k2,k3⟩:=aKV hm hc
          have hg:=aPX hm hc
          rw [f1] at hg
          have hg':RT b.Mem c=(m',y):=by injection hg with hg;exact hg.symm
          have hy:-1≤(RT b.Mem c).2:=by unfold RT;split <;> simp only <;> omega
          have p2':(s.Pc == 2)=true:=by simpa using p2
          simp only [p2',if_true,if_pos p2,f1,aG]
          have:=fin (RT b.Mem c) hy (by rw [hg'];exact k2) (by omega)
          rw [hg'] at this ⊢
          exact this
        · have p2':(s.Pc == 2)=false:=by simpa using p2
          simp only [p2',aN,if_false,bK,if_neg p2,aG];rfl
end Go.Gv
end
noncomputable section
namespace Go.Gv
def rB(c:aH)(w:Int):o5:=c.bO.getD w.toNat ⟨false,0,false,0⟩
theorem EL{c:aH}(hc:PN c){w:Int}(hw:0≤w∧w≤2):idx c.bO w=some (rB c w):=by
  have:=hc.2.1
  rw [fL hw.1 (by omega)]
  simp [rB,iX,eI (show w.toNat < c.bO.length by omega)]
def aHJ(c:aH)(w e:Int):aH×Bool:=
  if (rB c w).On=false∨(rB c w).eW=true∨(rB c w).aL=e then (c,true)
  else if (rB c w).Seen=2 then (⟨c.aL,c.bO.set w.toNat {rB c w with eW:=true,Seen:=0}⟩,true)
  else (⟨c.aL,c.bO.set w.toNat {rB c w with Seen:=(rB c w).Seen+1}⟩,false)
theorem aTR{c:aH}(hc:PN c){w:Int}(hw:0≤w∧w≤2):POk c.aL (rB c w):=by
  have:=EL hc hw
  have h2:=hc.2.1
  rw [fL hw.1 (by omega)] at this
  injection this with this
  rw [←this]
  exact hc.2.2 _ (dP _)
theorem aTS{c:aH}(hc:PN c){w:Int}(hw:0≤w∧w≤2)(e:Int):A3 c w e=some (aHJ c w e):=by
  have hp:=aTR hc hw
  have hx:=EL hc hw
  have hsm:=hc.small
  unfold A3 vG aHJ
  rw [j7 hsm.1,iM,bD hc,b7,bD hw,hx]
  simp only [aG,dA,aN,if_false,mN,hx]
  generalize rB c w=p at *
  have ew:aV (p.Seen+1)=p.Seen+1:=aP (by have:=hp.2.1;omega) (by have:=hp.2.1;omega)
  cases h1:p.On
  · simp
  · cases h2:p.eW
    · by_cases h3:p.aL=e
      · simp [h3]
      · have h3':(p.aL == e)=false:=by simpa using h3
        by_cases h4:p.Seen=2
        · simp [h3,h3',h4]
        · have h4':(p.Seen == 2)=false:=by simpa using h4
          simp [h3,h3',h4,h4',ew]
    · simp
def aK0(c:aH)(e:Int):aH×Bool:=if c.aL=e∧e≠100000 then (⟨e+1,c.bO⟩,true) else (c,false)
theorem aTT{c:aH}(hc:PN c)(e:Int):IS c e=some (aK0 c e):=by
  have hsm:=hc.small
  unfold IS wZ aK0
  rw [j7 hsm.1,iM,bD hc]
  simp only [aG,dA,aN,if_false]
  by_cases h1:c.aL=e
  · have he:=hc.1
    have ew:aV (e+1)=e+1:=aP (by omega) (by omega)
    by_cases h2:e=100000
    · simp [h1,h2]
    · have h2':(e == 100000)=false:=by simpa using h2
      simp [h1,h2,h2',ew]
  · simp [h1]
def YD(c:aH)(w e:Int):aH×Bool:=if 0≤e∧e≤c.aL then (⟨c.aL,c.bO.set w.toNat ⟨true,e,false,0⟩⟩,true) else (c,false)
theorem aPZ{c:aH}(hc:PN c){w:Int}(hw:0≤w∧w≤2)(e:Int):ED c w e=some (YD c w e):=by
  have hsm:=hc.small
  unfold ED tE YD
  rw [j7 hsm.1,iM,bD hc,b7,bD hw,b7]
  simp only [aG,dA,aN,if_false]
  by_cases h1:0≤e∧e≤c.aL
  · simp [h1,EL hc hw]
  · simp [h1]
def YE(c:aH)(w:Int):aH×Bool:=if (rB c w).On then (⟨c.aL,c.bO.set w.toNat ⟨false,0,false,0⟩⟩,true) else (c,false)
theorem aHK{c:aH}(hc:PN c){w:Int}(hw:0≤w∧w≤2):AK c w=some (YE c w):=by
  have hsm:=hc.small
  have hx:=EL hc hw
  unfold AK tF YE
  rw [j7 hsm.1,iM,bD hc,b7,bD hw,hx]
  simp only [aG,dA,aN,if_false,hx]
  cases h1:(rB c w).On <;> simp
def aET(b:aD)(s:Sub):aD×Sub:=
  if s.Pc=0 then (b,{s with Pc:=1,E:=b.aH.aL,B:=0})
  else if s.Pc=1 then
    if 0≤s.B∧s.B≤2 then
      if (aHJ b.aH s.B s.E).2 then ({b with aH:=(aHJ b.aH s.B s.E).1},{s with Pc:=if s.B=2 then 2 else 1,B:=s.B+1})
      else ({b with aH:=(aHJ b.aH s.B s.E).1},AN s 8)
    else (b,AN s 1)
  else if s.Pc=2 then ({b with aH:=(aK0 b.aH s.E).1},AN {s with Out:=if (aK0 b.aH s.E).2 then 1 else s.Out} 0)
  else (b,AN s 1)
theorem aK1{b:aD}(hc:PN b.aH)(s:Sub):nG b s=some (aET b s):=by
  unfold nG aET
  rw [aTT hc,b7]
  simp only [bK,mO,mP,aG]
  by_cases p0:s.Pc=0
  · have p0':(s.Pc == 0)=true:=by simpa using p0
    simp only [p0',if_true,if_pos p0]
  · have p0':(s.Pc == 0)=false:=by simpa using p0
    simp only [p0',aN,if_false,if_neg p0]
    by_cases p1:s.Pc=1
    · have p1':(s.Pc == 1)=true:=by simpa using p1
      simp only [p1',if_true,if_pos p1]
      by_cases hB:0≤s.B∧s.B≤2
      · have ew:aV (s.B+1)=s.B+1:=aP (by omega) (by omega)
        simp only [bD hB,dA,aN,if_false,if_pos hB,aTS hc hB,aG,ew]
        cases h:(aHJ b.aH s.B s.E).2
        · simp [AN]
        · by_cases q:s.B=2
          · have q':(s.B+1 == 3)=true:=by simp [q]
            simp [q',q]
          · have q':(s.B+1 == 3)=false:=by simp;omega
            simp [q',q,p1]
      · simp only [bQ hB,iN,if_true,if_neg hB];rfl
    · have p1':(s.Pc == 1)=false:=by simpa using p1
      simp only [p1',aN,if_false,if_neg p1]
      by_cases p2:s.Pc=2
      · have p2':(s.Pc == 2)=true:=by simpa using p2
        simp only [p2',if_true,if_pos p2]
        cases h:(aK0 b.aH s.E).2 <;> rfl
      · have p2':(s.Pc == 2)=false:=by simpa using p2
        simp only [p2',aN,if_false,if_neg p2];rfl
def aY2(b:aD)(w:Int)(s:Sub):aD×Sub:=
  if s.Pc=0 then (b,{s with Pc:=1,E:=b.aH.aL})
  else if s.Pc=1 then
    if (YD b.aH w s.E).2 then ({b with aH:=(YD b.aH w s.E).1},{s with Pc:=2}) else ({b with aH:=(YD b.aH w s.E).1},AN s 1)
  else if s.Pc=2 then if b.aH.aL=s.E then (b,AN s 0) else (b,{s with Pc:=0})
  else (b,AN s 1)
theorem aWA{b:aD}(hc:PN b.aH){w:Int}(hw:0≤w∧w≤2)(s:Sub):A5 b w s=some (aY2 b w s):=by
  unfold A5 aY2
  rw [aPZ hc hw]
  simp only [bK,aG]
  by_cases p0:s.Pc=0
  · have p0':(s.Pc == 0)=true:=by simpa using p0
    simp only [p0',if_true,if_pos p0]
  · have p0':(s.Pc == 0)=false:=by simpa using p0
    simp only [p0',aN,if_false,if_neg p0]
    by_cases p1:s.Pc=1
    · have p1':(s.Pc == 1)=true:=by simpa using p1
      simp only [p1',if_true,if_pos p1]
      cases h:(YD b.aH w s.E).2 <;> rfl
    · have p1':(s.Pc == 1)=false:=by simpa using p1
      simp only [p1',aN,if_false,if_neg p1]
      by_cases p2:s.Pc=2
      · have p2':(s.Pc == 2)=true:=by simpa using p2
        simp only [p2',if_true,if_pos p2]
        by_cases q:b.aH.aL=s.E
        · have q':(b.aH.aL == s.E)=true:=by simpa using q
          simp only [q',if_true,if_pos q];rfl
        · have q':(b.aH.aL == s.E)=false:=by simpa using q
          simp only [q',aN,if_false,if_neg q]
      · have p2':(s.Pc == 2)=false:=by simpa using p2
        simp only [p2',aN,if_false,if_neg p2];rfl
def AP(l:List aS)(w:Int):List c9:=(l.getD w.toNat ⟨[]⟩).Rows
theorem OI{l:List aS}(hl:qT l){w:Int}(hw:0≤w∧w≤2):idx l w=some ⟨AP l w⟩:=by
  have:=hl.1
  rw [fL hw.1 (by omega)]
  simp [AP,iX,eI (show w.toNat < l.length by omega)]
theorem aHL{l:List aS}(hl:qT l){w:Int}(hw:0≤w∧w≤2):(AP l w).length≤24:=by
  have h:=OI hl hw
  have h3:=hl.1
  rw [fL hw.1 (by omega)] at h
  injection h with h
  have:=hl.small.2.2.2 _ (dP (show w.toNat < l.length by omega))
  rw [h] at this;exact this
def OJ(b:aD)(w:Int)(s:Sub):aD×Sub:=
  if s.Pc=0 then (b,{s with Pc:=1,E:=b.aH.aL})
  else if s.Pc=1 then
    if 0≤s.E∧s.E≤b.aH.aL then
      if qU b.Mem s.A∧¬YA b.aU (s.A % 32) then ({b with aU:=b.aU.set w.toNat ⟨AP b.aU w ++ [⟨s.A,s.E⟩]⟩},AN s 0) else (b,AN s 4)
    else (b,AN s 1)
  else (b,AN s 1)
theorem aM9{b:aD}(hb:sQ b){w:Int}(hw:0≤w∧w≤2)(s:Sub):qC b w s=some (OJ b w s):=by
  have hL:=hb.1.2.2.1
  have hm:=hb.1.1
  obtain⟨h1,h2,h3,_⟩:=tK.facts hm
  have hx:=OI hL hw
  have hrow:=aHL hL hw
  unfold qC OJ
  rw [b7,sP hm.1.1.1 (by omega) (by simp only [maxLen];omega) (by simp only [maxLen];omega),dC]
  simp only [bK,aG,n9,tW]
  by_cases p0:s.Pc=0
  · have p0':(s.Pc == 0)=true:=by simpa using p0
    simp only [p0',if_true,if_pos p0]
  · have p0':(s.Pc == 0)=false:=by simpa using p0
    simp only [p0',aN,if_false,if_neg p0]
    by_cases p1:s.Pc=1
    · have p1':(s.Pc == 1)=true:=by simpa using p1
      simp only [p1',if_true,if_pos p1]
      by_cases q1:0≤s.E∧s.E≤b.aH.aL
      · simp only [bD q1,dA,aN,if_false,if_pos q1]
        by_cases q2:qU b.Mem s.A
        · have hh:=q2.1
          simp only [bD q2,dA,aN,if_false,if_pos hh,PO hL,aG]
          by_cases q3:YA b.aU (s.A % 32)
          · simp only [bD q3,if_true,if_neg (show ¬(qU b.Mem s.A∧¬YA b.aU (s.A % 32)) from fun h=>h.2 q3)];rfl
          · simp only [bQ q3,aN,if_false,hx,aG,if_pos (show qU b.Mem s.A∧¬YA b.aU (s.A % 32) from ⟨q2,q3⟩)]
            rw [aO (by simp;omega)];rfl
        · simp only [bQ q2,iN,if_true,if_neg (show ¬(qU b.Mem s.A∧¬YA b.aU (s.A % 32)) from fun h=>q2 h.1)];rfl
      · simp only [bQ q1,iN,if_true,if_neg q1];rfl
    · have p1':(s.Pc == 1)=false:=by simpa using p1
      simp only [p1',aN,if_false,if_neg p1];rfl
def PQ(r:c9)(e:Int):Prop:=2≤e∧r.aL≤aV (e - 2)
instance (r:c9) (e:Int):Decidable (PQ r e):=by unfold PQ;infer_instance
theorem aEU(r:c9)(e:Int):EC r e=some (decide (PQ r e)):=by
  unfold EC CV PQ
  by_cases h:2≤e
  · rw [bD h,if_pos rfl]
    simp [h]
  · simp [h]
def GJ(l:List c9)(e:Int)(k:Nat):Nat:=k+(l.drop k).findIdx (fun r=>decide (PQ r e))
theorem aTU{l:List c9}(hl:l.length≤1000){from_ e:Int}:rQ l from_ e=some (if GJ l e from_.toNat < l.length then (GJ l e from_.toNat:Int) else -1):=by
  have hst:(if 0 < from_ then from_ else 0)=(from_.toNat:Int):=by split <;> omega
  unfold rQ
  rw [hst]
  have key:∀d k:Nat,l.length≤k+d→loop (eC l e) (k:Int)=some (if GJ l e k < l.length then Out.ret (GJ l e k:Int) else Out.brk ()):=by
    intro d
    induction d with
    | zero =>
      intro k hk
      rw [bM (r:=Out.brk ()) (by simp only [eC];rw [if_neg (by simp;omega)]),if_neg (by unfold GJ;omega)]
    | succ d ih =>
      intro k hk
      by_cases hkl:k < l.length
      · have hd:l.drop k=l[k] :: l.drop (k+1):=J8 hkl
        by_cases hr:PQ l[k] e
        · have hs:GJ l e k=k:=by unfold GJ;rw [hd,List.findIdx_cons,bD hr];rfl
          rw [bM (r:=Out.ret (k:Int)) (by simp only [eC];rw [if_pos (by simp;omega),aR hkl,aG,aEU _ e,aG,bD hr,if_pos rfl]),hs,if_pos hkl]
        · have hs:GJ l e k=GJ l e (k+1):=by unfold GJ;rw [hd,List.findIdx_cons,bQ hr];simp only [cond_false];omega
          rw [bX (s':=((k+1:Nat):Int)) (by simp only [eC];rw [if_pos (by simp;omega),aR hkl,aG,aEU _ e,aG,bQ hr,if_neg (by simp),aP (by omega) (by omega)];rfl),ih (k+1) (by omega),hs]
      · rw [bM (r:=Out.brk ()) (by simp only [eC];rw [if_neg (by simp;omega)]),if_neg (by unfold GJ;omega)]
  rw [key l.length from_.toNat (by omega)]
  split <;> rfl
def aTV(m:Mem)(w h:Int):Mem:=
  if h / 32+1≤6 then
    if (eD m.aB.Own (w * 3+bG m.aE (h % 32)).toNat).length < 2 then ⟨⟨st4 m.aE.Bytes (fM (h % 32) (bG m.aE (h % 32))).toNat (h / 32+1),m.aE.Class⟩,⟨m.aB.Global,m.aB.Own.set (w * 3+bG m.aE (h % 32)).toNat ⟨eD m.aB.Own (w * 3+bG m.aE (h % 32)).toNat ++ [h % 32]⟩⟩⟩
    else ⟨⟨st4 m.aE.Bytes (fM (h % 32) (bG m.aE (h % 32))).toNat (h / 32+1),m.aE.Class⟩,⟨m.aB.Global.set (bG m.aE (h % 32)).toNat ⟨eD m.aB.Global (bG m.aE (h % 32)).toNat ++ [h % 32]⟩,m.aB.Own⟩⟩
  else ⟨⟨st4 m.aE.Bytes (fM (h % 32) (bG m.aE (h % 32))).toNat (h / 32+1),m.aE.Class⟩,m.aB⟩
theorem aTW{m:Mem}(hm:tK m){w h:Int}(hw:0≤w∧w≤2)(hv:qU m h):A4 m w (h % 32)=some (aTV m w h):=by
  obtain⟨hcnt,h3,h9,h1,h2,hsm,hcp,hlo,hsG,hsO⟩:=tK.facts hm
  have hs:=hm.1.1.1
  have hh:=hv.1
  have hcl:=BA hv.2.1
  have hgo:=FM hcl
  have hc2:0≤bG m.aE (h % 32)∧bG m.aE (h % 32)≤2:=by
    obtain⟨_,q,e⟩:=AA hcl
    rw [e];exact kN.1 (by omega)
  have hg6:1≤h / 32∧h / 32≤6:=by unfold mK at hh;omega
  have eo:fM (h % 32) (bG m.aE (h % 32))=(((fM (h % 32) (bG m.aE (h % 32))).toNat:Nat):Int):=by omega
  have ew:aV (h / 32+1)=h / 32+1:=aP (by omega) (by omega)
  unfold A4 aTV
  rw [iL hs,aG,oV hs hcl,hv.2.2,aG,tJ,aG,ew]
  generalize hgn:(fM (h % 32) (bG m.aE (h % 32))).toNat=a at eo
  rw [eo,G6 (by omega) (by omega) (by omega)]
  simp only [aG,CZ,CY,ew]
  generalize bG m.aE (h % 32)=c at *
  by_cases q:h / 32+1≤6
  · have hk:(w * 3+c).toNat < m.aB.Own.length:=by omega
    have hx:idx m.aB.Own (w * 3+c)=some m.aB.Own[(w * 3+c).toNat]:=fL (by omega) (by omega)
    have hk2:c.toNat < m.aB.Global.length:=by omega
    have hx2:idx m.aB.Global c=some m.aB.Global[c.toNat]:=fL (by omega) (by omega)
    have b1:=hsO _ (dP hk)
    have b2:=hsG _ (dP hk2)
    rw [bD q,if_pos rfl,if_pos q]
    unfold KU
    rw [(zD hw hc2).1]
    simp only [aG,hx,hx2,CX,I8,I9,←dM hk,←dM hk2]
    by_cases q2:m.aB.Own[(w * 3+c).toNat].aM.length < 2
    · have y1:(m.aB.Own[(w * 3+c).toNat].aM.length:Int) < 2:=by omega
      simp only [bD y1,if_true,if_pos q2]
      rw [aO (by simp;omega)];rfl
    · have y1:¬(m.aB.Own[(w * 3+c).toNat].aM.length:Int) < 2:=by omega
      simp only [bQ y1,aN,if_false,if_neg q2]
      rw [aO (by simp;omega)];rfl
  · rw [bQ q,if_neg (by simp),if_neg q]
def TS(z:List Int)(w:Int):Int:=z.getD w.toNat 0
theorem NH{z:List Int}(hz:J6 z){w:Int}(hw:0≤w∧w≤2):idx z w=some (TS z w):=by
  have:=hz.1
  rw [fL hw.1 (by omega)]
  simp [TS,iX,eI (show w.toNat < z.length by omega)]
def RU(l:List c9)(k:Int):c9:=l.getD k.toNat ⟨0,0⟩
theorem WT{l:List c9}{k:Int}(h:0≤k∧k < l.length):idx l k=some (RU l k):=by
  rw [fL h.1 h.2]
  simp [RU,iX,eI (show k.toNat < l.length by omega)]
def PR(l:List c9)(s:Sub):Prop:=0≤s.Row∧s.Row < l.length∧(RU l s.Row).Handle=s.H
instance (l:List c9) (s:Sub):Decidable (PR l s):=by unfold PR;infer_instance
def aEV(b:aD)(w:Int)(s:Sub):aD×Sub:=
  if s.Pc=0 then (b,{s with Pc:=1,E:=b.aH.aL,Row:=0})
  else if s.Pc=1 then
    if GJ (AP b.aU w) s.E s.Row.toNat < (AP b.aU w).length then (b,{s with Pc:=2,Row:=(GJ (AP b.aU w) s.E s.Row.toNat:Int),B:=0,H:=(RU (AP b.aU w) (GJ (AP b.aU w) s.E s.Row.toNat:Int)).Handle})
    else (b,AN s 0)
  else if s.Pc=2 then
    if (0≤s.B∧s.B≤2)∧PR (AP b.aU w) s then
      if TS b.mA s.B=s.H then (b,{s with Pc:=1,Row:=s.Row+1}) else (b,{s with Pc:=if s.B=2 then 3 else 2,B:=s.B+1})
    else (b,AN s 1)
  else if s.Pc=3 then
    if PR (AP b.aU w) s∧PQ (RU (AP b.aU w) s.Row) s.E then ({b with Mem:=aTV b.Mem w s.H,aU:=b.aU.set w.toNat ⟨(AP b.aU w).eraseIdx s.Row.toNat⟩},{s with Pc:=1,Out:=aV (s.Out+1)})
    else (b,AN s 1)
  else (b,AN s 1)
theorem aK2{l:List aS}(hl:qT l){w:Int}(hw:0≤w∧w≤2){r:c9}(hr:r∈AP l w):r∈bY l:=by
  have h:=OI hl hw
  have h3:=hl.1
  rw [fL hw.1 (by omega)] at h
  injection h with h
  exact SP.2 ⟨l[w.toNat],dP _,by rw [h];exact hr⟩
theorem aTX{l:List c9}{k:Int}(h:0≤k∧k < l.length):RU l k∈l:=by
  have:=WT h
  rw [fL h.1 h.2] at this
  injection this with this
  rw [←this];exact dP _
theorem aK3{b:aD}(hb:sQ b){w:Int}(hw:0≤w∧w≤2)(s:Sub):nH b w s=some (aEV b w s):=by
  have hL:=hb.1.2.2.1
  have hm:=hb.1.1
  have hx:=OI hL hw
  have hrow:=aHL hL hw
  have hfl:=fun r hr=>aK2 hL hw (r:=r) hr
  unfold nH aEV
  rw [hx]
  simp only [aG,bK]
  generalize AP b.aU w=l at *
  by_cases p0:s.Pc=0
  · have p0':(s.Pc == 0)=true:=by simpa using p0
    simp only [p0',if_true,if_pos p0]
  have p0':(s.Pc == 0)=false:=by simpa using p0
  simp only [p0',aN,if_false,if_neg p0]
  by_cases p1:s.Pc=1
  · have p1':(s.Pc == 1)=true:=by simpa using p1
    simp only [p1',if_true,if_pos p1,aTU (show l.length≤1000 by omega),aG]
    by_cases q:GJ l s.E s.Row.toNat < l.length
    · have n:¬(GJ l s.E s.Row.toNat:Int) < 0:=by omega
      simp only [if_pos q,bQ n,aN,if_false,WT (l:=l) (k:=(GJ l s.E s.Row.toNat:Int)) (by omega),aG]
    · simp only [if_neg q,bD (show(-1:Int) < 0 by omega),if_true];rfl
  have p1':(s.Pc == 1)=false:=by simpa using p1
  simp only [p1',aN,if_false,if_neg p1]
  have el:aV ((l.length:Int) - 1)=(l.length:Int) - 1:=aP (by omega) (by omega)
  by_cases p2:s.Pc=2
  · have p2':(s.Pc == 2)=true:=by simpa using p2
    simp only [p2',if_true,if_pos p2,b7,el,aG,eF,mQ,bK]
    by_cases hB:0≤s.B∧s.B≤2
    · simp only [bD hB,dA,aN,if_false]
      by_cases hR:0≤s.Row∧s.Row≤(l.length:Int) - 1
      · simp only [bD hR,dA,aN,if_false,WT (l:=l) (k:=s.Row) (by omega),aG]
        by_cases hH:(RU l s.Row).Handle=s.H
        · have hH':((RU l s.Row).Handle != s.H)=false:=by simpa using hH
          have ha:(0≤s.B∧s.B≤2)∧PR l s:=⟨hB,hR.1,by omega,hH⟩
          have e1:aV (s.B+1)=s.B+1:=aP (by omega) (by omega)
          have e2:aV (s.Row+1)=s.Row+1:=aP (by omega) (by omega)
          simp only [hH',aN,if_false,if_pos ha,NH hb.1.2.2.2 hB,aG,e1,e2]
          by_cases hz:TS b.mA s.B=s.H
          · have hz':(TS b.mA s.B == s.H)=true:=by simpa using hz
            simp only [hz',if_true,if_pos hz]
          · have hz':(TS b.mA s.B == s.H)=false:=by simpa using hz
            simp only [hz',aN,if_false,if_neg hz]
            by_cases q:s.B=2
            · have q':(s.B+1 == 3)=true:=by simp [q]
              simp only [q',if_true,if_pos q]
            · have q':(s.B+1 == 3)=false:=by simp;omega
              simp only [q',aN,if_false,if_neg q,p2]
        · have hH':((RU l s.Row).Handle != s.H)=true:=by simpa using hH
          have ha:¬((0≤s.B∧s.B≤2)∧PR l s):=fun h=>hH h.2.2.2
          simp only [hH',if_true,if_neg ha,aG];rfl
      · have ha:¬((0≤s.B∧s.B≤2)∧PR l s):=fun h=>hR ⟨h.2.1,by have:=h.2.2.1;omega⟩
        simp only [bQ hR,iN,if_true,if_neg ha,aG];rfl
    · have ha:¬((0≤s.B∧s.B≤2)∧PR l s):=fun h=>hB h.1
      simp only [bQ hB,iN,if_true,if_neg ha,aG];rfl
  have p2':(s.Pc == 2)=false:=by simpa using p2
  simp only [p2',aN,if_false,if_neg p2]
  by_cases p3:s.Pc=3
  · have p3':(s.Pc == 3)=true:=by simpa using p3
    simp only [p3',if_true,if_pos p3,b7,el,aG,eG,rR,bK]
    by_cases hR:0≤s.Row∧s.Row≤(l.length:Int) - 1
    · simp only [bD hR,dA,aN,if_false,WT (l:=l) (k:=s.Row) (by omega),aG]
      by_cases hH:(RU l s.Row).Handle=s.H
      · have hH':((RU l s.Row).Handle != s.H)=false:=by simpa using hH
        simp only [hH',aN,if_false,aEU,aG]
        by_cases hr:PQ (RU l s.Row) s.E
        · have ha:PR l s∧PQ (RU l s.Row) s.E:=⟨⟨hR.1,by omega,hH⟩,hr⟩
          have e2:aV (s.Row+1)=s.Row+1:=aP (by omega) (by omega)
          have hlive:=(hb.2 _ (hfl _ (aTX (l:=l) (k:=s.Row) (by omega)))).1
          rw [hH] at hlive
          have et:(s.Row+1).toNat=s.Row.toNat+1:=by omega
          simp only [bD hr,dA,aN,if_false,if_pos ha,e2,dC,if_pos hlive.1,aG,aTW hm hw hlive,et]
          rw [aO (by omega),aO (by omega),aO (by omega),del_eq (by omega)]
        · have ha:¬(PR l s∧PQ (RU l s.Row) s.E):=fun h=>hr h.2
          simp only [bQ hr,iN,if_true,if_neg ha,aG];rfl
      · have hH':((RU l s.Row).Handle != s.H)=true:=by simpa using hH
        have ha:¬(PR l s∧PQ (RU l s.Row) s.E):=fun h=>hH h.1.2.2
        simp only [hH',if_true,if_neg ha,aG];rfl
    · have ha:¬(PR l s∧PQ (RU l s.Row) s.E):=fun h=>hR ⟨h.1.1,by have:=h.1.2.1;omega⟩
      simp only [bQ hR,iN,if_true,if_neg ha,aG];rfl
  · have p3':(s.Pc == 3)=false:=by simpa using p3
    simp only [p3',aN,if_false,if_neg p3];rfl
def jH(b:aD)(w:Int)(s:Sub):aD×Sub:=
  if s.cS then (b,s) else if s.Kind=1 then J0 b w s else if s.Kind=2 then OJ b w s else if s.Kind=3 then aET b s else if s.Kind=4 then aEV b w s else if s.Kind=5 then aY2 b w s else (b,AN s 1)
theorem aJA{b:aD}(hb:sQ b){w:Int}(hw:0≤w∧w≤2)(s:Sub):rS b w s=some (jH b w s):=by
  unfold rS jH
  rw [aPY hb.1.1 hw,aM9 hb hw,aK1 hb.1.2.1,aK3 hb hw,aWA hb.1.2.1 hw]
  simp only [aG,bK]
  cases s.cS
  · simp only [aN,if_false,beq_iff_eq]
    split <;> (try rfl)
    split <;> (try rfl)
    split <;> (try rfl)
    split <;> (try rfl)
    split <;> rfl
  · rfl
end Go.Gv
end
noncomputable section
namespace Go.Gv
def aTY:aE:=⟨List.replicate 384 0,[-1,-1,-1,-1,-1,-1]⟩
def aY3:aB:=⟨List.replicate 3 ⟨[]⟩,List.replicate 9 ⟨[]⟩⟩
def aOT:aD:=⟨⟨aTY,aY3⟩,⟨0,List.replicate 3 ⟨false,0,false,0⟩⟩,List.replicate 3 ⟨[]⟩,List.replicate 3 0⟩
theorem aA2:HN=some aTY:=by
  unfold HN
  have key:loop rZ (0,[])=some (List.replicate 6 (-1)):=gD (f:=rZ) 6 (fun k=>((k:Int),List.replicate k (-1))) _ (fun k hk=>by
    simp only [rZ]
    rw [if_pos (by simp;omega),aO (by simp;omega),aP (by omega) (by omega),List.replicate_succ'];rfl) (by simp [rZ])
  rw [aO (by omega),key];rfl
theorem aY4:tS [-1] 6=some [-1,-1,-1,-1,-1,-1]:=by
  unfold tS
  rw [if_neg (by simp),show LN (IntKind.u64.wrap (([-1]:List Int).length:Int)) (IntKind.u64.wrap 6)=some (0,6) by kernel_rfl]
  simp only [aG]
  rw [if_neg (by simp),bQ (by omega)]
  simp only [nU,aN,if_false]
  rw [show IntKind.i64.wrap 6=6 from wrap_i64 (by omega) (by omega),aO (by omega),
    show(dE (List.replicate (Int.toNat 6) 0) 0 [-1],((min ([-1]:List Int).length ((List.replicate (Int.toNat 6) (0:Int)).length - 0):Nat):Int))=([-1,0,0,0,0,0],1) by kernel_rfl,
    bX (body:=kE) (s':=([-1,-1,0,0,0,0],2)) (by kernel_rfl),bX (body:=kE) (s':=([-1,-1,-1,-1,0,0],4)) (by kernel_rfl),
    bX (body:=kE) (s':=([-1,-1,-1,-1,-1,-1],6)) (by kernel_rfl),bM (body:=kE) (r:=[-1,-1,-1,-1,-1,-1]) (by kernel_rfl)]
  rfl
theorem aA3:H6=some aTY:=by
  unfold H6
  rw [aO (by omega),aY4];rfl
theorem aEW:HO=some aOT∧H7=some aOT:=by
  unfold HO H7 QF QP LF LO LG LP LH LQ QG QQ
  rw [aA2,aA3,aO (by omega),aO (by omega),aO (by omega),aO (by omega),aO (by omega)]
  exact⟨rfl,rfl⟩
theorem aTZ:sQ aOT:=of_decide_eq_true (by kernel_rfl)
def aOU:aA:=⟨⟨⟨⟨[],[]⟩,⟨[],[]⟩⟩,⟨0,[]⟩,[],[]⟩,[],[],[],[],0⟩
def wB(t:List Queue):aA:=⟨aOT,List.replicate 2 0,List.replicate 3 TR,t,[],0⟩
theorem aP0{t:List Queue}(h:RR t):xX (wB t):=
  ⟨aTZ,rfl,rfl,h,by simp [wB],fun q hq=>by simp [wB] at hq;exact .inl hq,fun j hj=>by simp [wB] at hj;exact(RS (by rw [hj];rfl)).2 hj⟩
theorem SD{l:List Queue}(hl:l.length≤1048576)(hq:∀q∈l,q.jJ.length≤1048576):uI l=some l∧yE l=some l:=by
  constructor
  · unfold uI
    rw [RM l]
    · rfl
    · intro k hk
      have:=hq _ (dP hk)
      simp only [BS]
      rw [if_pos (by simp;omega),aR hk]
      simp only [aG]
      rw [aO (by simp;omega),aO (by simp;omega),aP (by omega) (by omega)];rfl
    · simp [BS]
  · unfold yE
    rw [RM l]
    · rfl
    · intro k hk
      have:=hq _ (dP hk)
      simp only [D6]
      rw [if_pos (by simp;omega),aR hk]
      simp only [aG,GO]
      rw [aO (by simp;omega),aG,aO (by simp;omega),aP (by omega) (by omega)];rfl
    · simp [D6]
theorem aK4{t:List Queue}(hl:t.length≤1048576)(hq:∀q∈t,q.jJ.length≤1048576):sT t=some (if RR t then wB t else aOU)∧sZ t=some (if RR t then wB t else aOU):=by
  have hm:t.length≤maxLen:=by simp only [maxLen];omega
  unfold sT sZ
  rw [WR hm,WS hm (fun q h=>by have:=hq q h;simp only [maxLen];omega)]
  simp only [aG]
  by_cases h:RR t
  · simp only [bD h,dA,aN,if_false,if_pos h,aEW.1,aEW.2,aG,(SD hl hq).1,(SD hl hq).2]
    rw [aO (by omega),aO (by omega),aO (by omega),aO (by omega)]
    exact⟨rfl,rfl⟩
  · simp only [bQ h,iN,if_true,if_neg h]
    exact⟨rfl,rfl⟩
end Go.Gv
end
noncomputable section
namespace Go.Gv
def FR(s:aA):Prop:=JW s.aD∧s.Cells.length≤1048576∧s.aQ.length≤1048576∧s.cE.length≤1048576∧(∀q∈s.cE,q.jJ.length≤1048576)∧s.Log.length≤1048576
theorem FR.fits{s:aA}(h:FR s):s.aD.Mem.aE.Bytes.length≤maxLen∧(eT s.aD.Mem.aB).length≤1073741824∧s.aD.aH.bO.length≤maxLen∧s.aD.aU.length≤maxLen∧(bY s.aD.aU).length≤1073741824∧s.aD.mA.length≤maxLen:=by
  obtain⟨⟨⟨a1,a2,a3,a4,a5⟩,b1,b2,b3,b4⟩,_⟩:=h
  simp only [maxLen];omega
theorem aOV{s:aA}(h:FR s):wW s=some (decide (xX s)):=aA0 h.fits (by have:=h.2.2.2.1;simp only [maxLen];omega)
theorem aOW{s:aA}(h:FR s):wI s=some (decide (xX s)):=
  have hM:∀{n:Nat},n≤1048576→n≤maxLen:=fun h=>by simp only [maxLen];omega
  aA1 h.fits (hM h.2.2.2.1) (fun q hq=>hM (h.2.2.2.2.1 q hq)) (hM h.2.1) (hM h.2.2.1)
theorem TU{s:aA}(h:FR s):C1 s=some s:=by
  obtain⟨hb,c1,c2,c3,c4,c5⟩:=h
  have n1:∀{β:Type} (k:Option β),need (([]:List bR).length+s.aQ.length≤1073741824) k=k:=fun k=>aO (by simp only [SO];omega) k
  have n2:∀{β:Type} (k:Option β),need (([]:List Ev).length+s.Log.length≤1073741824) k=k:=fun k=>aO (by simp only [SO];omega) k
  unfold C1 GZ
  simp only [aI0 hb,xK (show s.Cells.length≤1073741824 by omega),(SD c3 c4).1,aG,n1,n2,aGP]
theorem TV{s:aA}(h:FR s):uJ s=some s:=by
  obtain⟨hb,c1,c2,c3,c4,c5⟩:=h
  have n1:∀{β:Type} (k:Option β),need (([]:List bR).length+s.aQ.length≤1073741824) k=k:=fun k=>aO (by simp only [SO];omega) k
  have n2:∀{β:Type} (k:Option β),need (([]:List Ev).length+s.Log.length≤1073741824) k=k:=fun k=>aO (by simp only [SO];omega) k
  unfold uJ D5 GP
  simp only [aI1 hb,oL (show s.Cells.length≤1073741824 by omega),(SD c3 c4).2,aG,n1,n2,aGP]
theorem GK{s:aA}(h:xX s)(hl:s.Log.length≤1000000):FR s:=by
  have ht:=h.2.2.2.1
  exact⟨h.1.small,by have:=h.2.1;omega,by have:=h.2.2.1;omega,by have:=ht.1;omega,fun q hq=>by have:=(ht.2 q hq).1;omega,by omega⟩
end Go.Gv
end
noncomputable section
namespace Go.Gv
def G7(m:Mem)(h n:Int):Mem×Int:=if qU m h then (⟨⟨J7 m.aE.Bytes ((fM (h % 32) (bG m.aE (h % 32))).toNat+4) n,m.aE.Class⟩,m.aB⟩,0) else (m,4)
theorem aXB{h:aE}{s:Int}(hcl:0≤bG h s):(fM s (bG h s)).toNat+8≤384∧8≤gI (bG h s)∧gI (bG h s)≤40:=by
  have hc2:0≤bG h s∧bG h s≤2:=by
    obtain⟨_,q,e⟩:=AA hcl
    rw [e];exact kN.1 (by omega)
  have hz:8≤gI (bG h s)∧gI (bG h s)≤40:=by rcases gJ hc2 with e | e | e <;> rw [e] <;> decide
  obtain⟨p,i,p6,hi,es,ec,eo,ep⟩:=GH hcl
  refine⟨?_,hz⟩
  rw [eo]
  have hcl':0≤cC h p∧cC h p≤2:=by rw [←ec];exact hc2
  generalize cC h p=c at hi hcl'
  rcases gJ hcl' with rfl | rfl | rfl
  · rw [show(cK 0).toNat=4 from rfl] at hi;rw [show(aT 0).toNat=12 from rfl];omega
  · rw [show(cK 1).toNat=2 from rfl] at hi;rw [show(aT 1).toNat=20 from rfl];omega
  · rw [show(cK 2).toNat=1 from rfl] at hi;rw [show(aT 2).toNat=44 from rfl];omega
theorem aP1{m:Mem}(hm:tK m){h n:Int}(hn:0≤n∧n≤65535):xA m h 0 4 n=some (G7 m h n):=by
  obtain⟨hcnt,h3,h9,h1,h2,hsm,hcp,hlo,hsG,hsO⟩:=tK.facts hm
  have hs:=hm.1.1.1
  have hbl:m.aE.Bytes.length≤maxLen:=by rw [h1];simp [maxLen]
  have hall:(eT m.aB).length≤1073741824:=by omega
  have hg:m.aB.Global.length≤maxLen:=by rw [h3];simp [maxLen]
  have ho:m.aB.Own.length≤maxLen:=by rw [h9];simp [maxLen]
  unfold xA KX G7
  rw [RN hsm,L8 hbl hall,bD hm,b7]
  simp only [aG,dA,aN,if_false,vI,show(decide ((1:Int)≤4∧(4:Int)≤7))=true from rfl,sP hs hall hg ho]
  by_cases hv:qU m h
  · have hh:=hv.1
    have hcl:=BA hv.2.1
    have hgo:=FM hcl
    obtain⟨hroom,hz⟩:=aXB hcl
    simp only [bD hv,dA,aN,if_false,if_pos hv,dC,if_pos hh,aG,iL hs,qR,b7]
    rw [aP (x:=gI (bG m.aE (h % 32)) - 1) (by omega) (by omega),bD (show(0:Int)≤0∧(0:Int)≤gI (bG m.aE (h % 32)) - 1 by omega),aP (x:=gI (bG m.aE (h % 32)) - 0) (by omega) (by omega),bQ (show ¬gI (bG m.aE (h % 32)) - 0 < 4 by omega)]
    simp only [dA,aN,if_false,vH,(start_eq hs hcl).1,aG]
    rw [aP (x:=fM (h % 32) (bG m.aE (h % 32))+4+0) (by omega) (by omega),Int.add_zero]
    have eo':fM (h % 32) (bG m.aE (h % 32))+4=(((fM (h % 32) (bG m.aE (h % 32))).toNat+4:Nat):Int):=by omega
    obtain⟨t,ht1,ht2⟩:=Y2 hn
    rw [eo']
    simp only [aG,aN,if_false,bne_self_eq_false,ht1,ht2]
    rw [YB (by omega) (by omega) ⟨hn.1,by omega⟩];rfl
  · simp only [bQ hv,iN,if_true,aG,show((4:Int) != 0)=true from rfl,if_neg hv]
def aT0(h:aE)(x:Int):Int:=if mK x∧0≤bG h (x % 32) then ld h.Bytes ((fM (x % 32) (bG h (x % 32))).toNat+4) 4 else 0
theorem aJB{s:aA}(hm:tK s.aD.Mem)(j:bR):l5 s j=some (aT0 s.aD.Mem.aE j.H):=by
  have hs:=hm.1.1.1
  have h1:=hs.1
  unfold l5 GB aT0
  generalize j.H=h
  rw [eB,b7]
  simp only [aG,vJ,show(decide ((1:Int)≤4∧(4:Int)≤7))=true from rfl,dA,aN,if_false]
  by_cases hh:mK h
  · simp only [bD hh,dA,aN,if_false,dC,if_pos hh,aG,iL hs]
    by_cases hcl:bG s.aD.Mem.aE (h % 32) < 0
    · simp only [bD hcl,if_true,kI,aG,if_neg (show ¬(mK h∧0≤bG s.aD.Mem.aE (h % 32)) by omega)]
    · have hcl':0≤bG s.aD.Mem.aE (h % 32):=by omega
      have hgo:=FM hcl'
      obtain⟨hroom,hz⟩:=aXB hcl'
      simp only [bQ hcl,aN,if_false,qR,b7,aG,if_pos (show mK h∧0≤bG s.aD.Mem.aE (h % 32) from ⟨hh,hcl'⟩)]
      rw [aP (x:=gI (bG s.aD.Mem.aE (h % 32)) - 1) (by omega) (by omega),bD (show(0:Int)≤0∧(0:Int)≤gI (bG s.aD.Mem.aE (h % 32)) - 1 by omega),aP (x:=gI (bG s.aD.Mem.aE (h % 32)) - 0) (by omega) (by omega),bQ (show ¬gI (bG s.aD.Mem.aE (h % 32)) - 0 < 4 by omega)]
      simp only [dA,aN,if_false,kI,dC,if_pos hh,(start_eq hs hcl').1,aG]
      rw [aP (x:=fM (h % 32) (bG s.aD.Mem.aE (h % 32))+4+0) (by omega) (by omega),Int.add_zero]
      have eo':fM (h % 32) (bG s.aD.Mem.aE (h % 32))+4=(((fM (h % 32) (bG s.aD.Mem.aE (h % 32))).toNat+4:Nat):Int):=by omega
      rw [eo',show(4:Int)=((4:Nat):Int) from rfl,DM hs.2.2.1 (by omega) (by omega) (by omega)];rfl
  · simp only [bQ hh,iN,if_true,aG,if_neg (show ¬(mK h∧0≤bG s.aD.Mem.aE (h % 32)) from fun q=>hh q.1)]
def aEX(z:List Int)(w h:Int):List Int:=if mK h then z.set w.toNat h else z
theorem aK5{z:List Int}(hz:J6 z){w:Int}(hw:0≤w∧w≤2)(h:Int):∃t,xB z w h=some (aEX z w h,t):=by
  have h3:=hz.1
  unfold xB nI aEX
  rw [xK (by omega),zA (by simp only [maxLen];omega),bD hz,b7,bD hw,eB]
  by_cases q:mK h
  · simp only [bD q,NH hz hw,aG,dA,aN,if_false,if_pos q];exact⟨_,rfl⟩
  · simp only [bQ q,aG,dA,iN,aN,if_false,if_true,if_neg q];exact⟨_,rfl⟩
def aNA(z:List Int)(w:Int):List Int:=if TS z w=0 then z else z.set w.toNat 0
theorem aP2{z:List Int}(hz:J6 z){w:Int}(hw:0≤w∧w≤2):∃t,EE z w=some (aNA z w,t):=by
  have h3:=hz.1
  unfold EE tG aNA
  rw [xK (by omega),zA (by simp only [maxLen];omega),bD hz,b7,bD hw,NH hz hw]
  by_cases q:TS z w=0
  · have q':(TS z w == 0)=true:=by simpa using q
    simp only [q',aG,dA,aN,if_false,if_true,if_pos q,NH hz hw];exact⟨_,rfl⟩
  · have q':(TS z w == 0)=false:=by simpa using q
    simp only [q',aG,dA,aN,if_false,if_neg q,NH hz hw];exact⟨_,rfl⟩
structure JR where
  b:aD
  c:List Int
  j:bR
  l:List Ev
def lK(j:bR)(pc code:Int):bR:={j with Pc:=pc,Code:=code}
def SN(kind a:Int):Sub:=⟨kind,a,0,0,0,0,0,0,0,false⟩
def cellAt(c:List Int)(k:Int):Int:=c.getD k.toNat 0
def aJC(c:aH)(w:Int)(j:bR)(pc:Int):bR:=if (rB c w).On=true∧(rB c w).eW=false then lK j pc 0 else lK {j with eH:=0} pc 6
noncomputable section
variable (s:aA) (w:Int) (j:bR)
def TW(h:Int):Ev:=⟨3,w,j.aJ,j.Op.Cell,h,0,0⟩
def aJD:JR:=
  if j.Pc=0 then
    if (jH s.aD w j.Sub).2.cS then
      if (jH s.aD w j.Sub).2.Code≠0 then ⟨(jH s.aD w j.Sub).1,s.Cells,lK {j with Sub:=(jH s.aD w j.Sub).2} 9 (jH s.aD w j.Sub).2.Code,[]⟩
      else if mK (jH s.aD w j.Sub).2.Out then ⟨(jH s.aD w j.Sub).1,s.Cells,lK {j with Sub:=(jH s.aD w j.Sub).2,H:=(jH s.aD w j.Sub).2.Out} 1 0,[]⟩
      else ⟨(jH s.aD w j.Sub).1,s.Cells,lK {j with Sub:=(jH s.aD w j.Sub).2} 9 1,[]⟩
    else ⟨(jH s.aD w j.Sub).1,s.Cells,{j with Sub:=(jH s.aD w j.Sub).2},[]⟩
  else if j.Pc=1 then ⟨{s.aD with Mem:=(G7 s.aD.Mem j.H j.Op.eH).1},s.Cells,if (G7 s.aD.Mem j.H j.Op.eH).2=0 then lK j 2 0 else lK j 9 (G7 s.aD.Mem j.H j.Op.eH).2,[]⟩
  else if j.Pc=2 then ⟨s.aD,s.Cells.set j.Op.Cell.toNat j.H,if cellAt s.Cells j.Op.Cell=0 then lK {j with Old:=0} 9 0 else lK {j with Sub:=SN 2 (cellAt s.Cells j.Op.Cell),Old:=cellAt s.Cells j.Op.Cell} 3 0,[⟨2,w,j.aJ,j.Op.Cell,j.H,j.Op.eH,0⟩]⟩
  else if j.Pc=3 then ⟨(jH s.aD w j.Sub).1,s.Cells,if (jH s.aD w j.Sub).2.cS then lK {j with Sub:=(jH s.aD w j.Sub).2} 9 (jH s.aD w j.Sub).2.Code else {j with Sub:=(jH s.aD w j.Sub).2},[]⟩
  else ⟨s.aD,s.Cells,lK j 9 1,[]⟩
def aY5:JR:=
  if j.Pc=0 then ⟨(jH s.aD w j.Sub).1,s.Cells,if (jH s.aD w j.Sub).2.cS then lK {j with Sub:=(jH s.aD w j.Sub).2} 1 0 else {j with Sub:=(jH s.aD w j.Sub).2},[]⟩
  else if j.Pc=1 then ⟨s.aD,s.Cells,if cellAt s.Cells j.Op.Cell=0 then lK {j with H:=0} 4 8 else lK {j with H:=cellAt s.Cells j.Op.Cell} 2 0,[TW w j (cellAt s.Cells j.Op.Cell)]⟩
  else if j.Pc=2 then ⟨s.aD,s.Cells,lK {j with eH:=aT0 s.aD.Mem.aE j.H} 3 0,[]⟩
  else if j.Pc=3 then ⟨s.aD,s.Cells,aJC s.aD.aH w j 4,[]⟩
  else if j.Pc=4 then ⟨{s.aD with aH:=(YE s.aD.aH w).1},s.Cells,lK j 9 j.Code,[]⟩
  else ⟨s.aD,s.Cells,lK j 9 1,[]⟩
def aY6:JR:=
  if j.Pc=0 then if cellAt s.Cells j.Op.Cell=0 then ⟨s.aD,s.Cells,lK {j with H:=0} 4 8,[TW w j 0]⟩ else ⟨s.aD,s.Cells,lK {j with H:=cellAt s.Cells j.Op.Cell} 1 0,[]⟩
  else if j.Pc=1 then ⟨{s.aD with mA:=aEX s.aD.mA w j.H},s.Cells,lK j 2 0,[]⟩
  else if j.Pc=2 then if cellAt s.Cells j.Op.Cell=j.H then ⟨s.aD,s.Cells,lK j 3 0,[TW w j j.H]⟩ else ⟨s.aD,s.Cells,lK j 0 0,[]⟩
  else if j.Pc=3 then ⟨s.aD,s.Cells,lK {j with eH:=aT0 s.aD.Mem.aE j.H} 4 0,[]⟩
  else if j.Pc=4 then ⟨{s.aD with mA:=aNA s.aD.mA w},s.Cells,lK j 9 j.Code,[]⟩
  else ⟨s.aD,s.Cells,lK j 9 1,[]⟩
def aT1:JR:=
  if j.Pc=0 then
    if (rB s.aD.aH w).On=false then ⟨s.aD,s.Cells,lK j 9 5,[]⟩
    else if (rB s.aD.aH w).eW=true then ⟨s.aD,s.Cells,lK j 9 6,[]⟩
    else ⟨s.aD,s.Cells,if cellAt s.Cells j.Op.Cell=0 then lK {j with H:=0} 9 8 else lK {j with H:=cellAt s.Cells j.Op.Cell} 1 0,[TW w j (cellAt s.Cells j.Op.Cell)]⟩
  else if j.Pc=1 then ⟨s.aD,s.Cells,lK {j with eH:=aT0 s.aD.Mem.aE j.H} 2 0,[]⟩
  else if j.Pc=2 then ⟨s.aD,s.Cells,aJC s.aD.aH w j 9,[]⟩
  else ⟨s.aD,s.Cells,lK j 9 1,[]⟩
def aNB:JR:=
  if j.Op.Kind=6 then
    if j.Pc=0 then ⟨{s.aD with aH:=(YE s.aD.aH w).1},s.Cells,lK j 9 (if (YE s.aD.aH w).2 then 0 else 5),[]⟩
    else ⟨s.aD,s.Cells,lK j 9 1,[]⟩
  else if j.Pc=0∨j.Pc=1∧j.Op.Kind≠5 then
    ⟨(jH s.aD w j.Sub).1, s.Cells, if (jH s.aD w j.Sub).2.cS then
      if j.Op.Kind=5 then lK {j with Sub:=(jH s.aD w j.Sub).2} 9 (jH s.aD w j.Sub).2.Code
      else if j.Pc=0 then lK {j with Sub:=SN 4 0} 1 0
      else lK {j with Sub:=(jH s.aD w j.Sub).2,eH:=(jH s.aD w j.Sub).2.Out} 9 (jH s.aD w j.Sub).2.Code
      else {j with Sub:=(jH s.aD w j.Sub).2},[]⟩
  else ⟨s.aD,s.Cells,lK j 9 1,[]⟩
def aWB:JR:=if j.Op.Kind=1 then aJD s w j else if j.Op.Kind=2 then aY5 s w j else if j.Op.Kind=3 then aY6 s w j else if j.Op.Kind=7 then aT1 s w j else aNB s w j
end
def lP(s:aA)(w:Int)(r:JR):aA:=⟨r.b,r.c,s.aQ.set w.toNat r.j,s.cE,s.Log++r.l,s.aJ⟩
def PT(t:List Queue)(w:Int):List eU:=(t.getD w.toNat ⟨[]⟩).jJ
def kW(s:aA)(w:Int):bR:=s.aQ.getD w.toNat TR
def aJE(c:aH)(w:Int)(o:eU)(ser:Int):bR:=
  if o.Kind=1 then ⟨true,o,ser,0,SN 1 o.dU,0,0,0,0⟩
  else if o.Kind=2∨o.Kind=5 then if (rB c w).On then ⟨true,o,ser,9,SN 5 0,0,0,0,1⟩ else ⟨true,o,ser,0,SN 5 0,0,0,0,0⟩
  else if o.Kind=4 then ⟨true,o,ser,0,SN 3 0,0,0,0,0⟩
  else ⟨true,o,ser,0,⟨0,0,0,0,0,0,0,0,0,false⟩,0,0,0,0⟩
def aJF(s:aA)(w:Int):aA:=match PT s.cE w with
  | []=>s
  | o :: r => if s.aJ = 1000000 then s else
    ⟨s.aD,s.Cells,s.aQ.set w.toNat (aJE s.aD.aH w o (s.aJ+1)),s.cE.set w.toNat ⟨r⟩,s.Log ++ [⟨1,w,s.aJ+1,o.Cell,0,0,0⟩],s.aJ+1⟩
def a0M(w:Int)(j:bR):Ev:=⟨4,w,j.aJ,j.Op.Cell,j.H,j.eH,j.Code⟩
def WU(s:aA)(w:Int):aA:=
  if (kW s w).fV=false then aJF s w
  else if (kW s w).Pc=9 then ⟨s.aD,s.Cells,s.aQ.set w.toNat TR,s.cE,s.Log ++ [a0M w (kW s w)],s.aJ⟩
  else lP s w (aWB s w (kW s w))
noncomputable section
variable {s:aA} (hs:xX s) (hl:s.Log.length≤1000000000) {w:Int} (hw:0≤w∧w≤2) {j:bR} (hjo:uF j.Op∧dL j.H∧dL j.Old)
include hs
theorem SF(hw:0≤w∧w≤2):idx s.aQ w=some (kW s w):=by
  have:=hs.2.2.1
  rw [fL hw.1 (by omega)]
  simp [kW,iX,eI (show w.toNat < s.aQ.length by omega)]
theorem OK{k:Int}(hk:0≤k∧k≤1):idx s.Cells k=some (cellAt s.Cells k):=by
  have:=hs.2.1
  rw [fL hk.1 (by omega)]
  simp [cellAt,iX,eI (show k.toNat < s.Cells.length by omega)]
include hw
theorem aK6(x:aA)(hx:x.aQ=s.aQ)(j:bR):cN w x j=some {x with aQ:=x.aQ.set w.toNat j}:=by
  unfold cN
  rw [hx,SF hs hw,aG]
include hl hjo
theorem aWC(hk:j.Op.Kind=1):((A6 s w j).bind fun q=>cN w q.1 q.2)=some (lP s w (aJD s w j)):=by
  have hn:∀(e:Ev) {α:Type} (k:Option α),need (s.Log.length + [e].length≤1073741824) k=k:=fun e _ k=>aO (by simp;omega) k
  have hcell:=OK hs hjo.1.2.2.1
  have hval:0≤j.Op.eH∧j.Op.eH≤65535:=by have:=hjo.1.2.2.2;rw [if_pos hk] at this;exact this.2
  have hj:=fun x hx j=>aK6 hs hw x hx j
  unfold A6 aJD
  simp only [aJA hs.1 hw,aP1 hs.1.1.1 hval,hcell,aG,bC,fZ,hn]
  by_cases p0:j.Pc=0
  · have p0':(j.Pc == 0)=true:=by simpa using p0
    simp only [p0',if_true,if_pos p0]
    cases hd:(jH s.aD w j.Sub).2.cS with
    | false=>simp only [iN,if_true,aN,if_false,aG];refine(hj _ ?_ _).trans ?_;rfl;simp [lP]
    | true =>
      simp only [dA,aN,if_false,if_true]
      by_cases c0:(jH s.aD w j.Sub).2.Code=0
      · have c0':((jH s.aD w j.Sub).2.Code != 0)=false:=by simpa using c0
        simp only [c0',aN,if_false,if_neg (show ¬(jH s.aD w j.Sub).2.Code≠0 from fun h=>h c0),eB,aG]
        by_cases o0:mK (jH s.aD w j.Sub).2.Out
        · simp only [bD o0,dA,aN,if_false,if_pos o0,aG];refine(hj _ ?_ _).trans ?_;rfl;simp [lP,lK]
        · simp only [bQ o0,iN,if_true,if_neg o0,aG];refine(hj _ ?_ _).trans ?_;rfl;simp [lP,lK]
      · have c0':((jH s.aD w j.Sub).2.Code != 0)=true:=by simpa using c0
        simp only [c0',if_true,if_pos (show(jH s.aD w j.Sub).2.Code≠0 from c0),aG];refine(hj _ ?_ _).trans ?_;rfl;simp [lP,lK]
  have p0':(j.Pc == 0)=false:=by simpa using p0
  simp only [p0',aN,if_false,if_neg p0]
  by_cases p1:j.Pc=1
  · have p1':(j.Pc == 1)=true:=by simpa using p1
    simp only [p1',if_true,if_pos p1]
    by_cases c0:(G7 s.aD.Mem j.H j.Op.eH).2=0
    · have c0':((G7 s.aD.Mem j.H j.Op.eH).2 != 0)=false:=by simpa using c0
      simp only [c0',aN,if_false,if_pos c0,aG];refine(hj _ ?_ _).trans ?_;rfl;simp [lP,lK]
    · have c0':((G7 s.aD.Mem j.H j.Op.eH).2 != 0)=true:=by simpa using c0
      simp only [c0',if_true,if_neg c0,aG];refine(hj _ ?_ _).trans ?_;rfl;simp [lP,lK]
  have p1':(j.Pc == 1)=false:=by simpa using p1
  simp only [p1',aN,if_false,if_neg p1]
  by_cases p2:j.Pc=2
  · have p2':(j.Pc == 2)=true:=by simpa using p2
    simp only [p2',if_true,if_pos p2]
    by_cases c0:cellAt s.Cells j.Op.Cell=0
    · have c0':(cellAt s.Cells j.Op.Cell == 0)=true:=by simpa using c0
      simp only [c0',if_true,if_pos c0,aG];refine(hj _ ?_ _).trans ?_;rfl;simp [lP,lK,c0]
    · have c0':(cellAt s.Cells j.Op.Cell == 0)=false:=by simpa using c0
      simp only [c0',aN,if_false,if_neg c0,aG];refine(hj _ ?_ _).trans ?_;rfl;simp [lP,lK,SN]
  have p2':(j.Pc == 2)=false:=by simpa using p2
  simp only [p2',aN,if_false,if_neg p2]
  by_cases p3:j.Pc=3
  · have p3':(j.Pc == 3)=true:=by simpa using p3
    simp only [p3',if_true,if_pos p3]
    cases hd:(jH s.aD w j.Sub).2.cS with
    | false=>simp only [iN,if_true,aN,if_false,aG];refine(hj _ ?_ _).trans ?_;rfl;simp [lP]
    | true=>simp only [dA,aN,if_false,if_true,aG];refine(hj _ ?_ _).trans ?_;rfl;simp [lP,lK]
  have p3':(j.Pc == 3)=false:=by simpa using p3
  simp only [p3',aN,if_false,if_neg p3,aG];refine(hj _ ?_ _).trans ?_;rfl;simp [lP,lK]
theorem aWD:((A7 s w j).bind fun q=>cN w q.1 q.2)=some (lP s w (aY5 s w j)):=by
  have hn:∀(e:Ev) {α:Type} (k:Option α),need (s.Log.length + [e].length≤1073741824) k=k:=fun e _ k=>aO (by simp;omega) k
  have hcell:=OK hs hjo.1.2.2.1
  have hj:=fun x hx j=>aK6 hs hw x hx j
  unfold A7 aY5
  simp only [aJA hs.1 hw,hcell,aG,bC,iJ,hn,aJB hs.1.1.1,aHK hs.1.1.2.1 hw,oR,EL hs.1.1.2.1 hw]
  by_cases p0:j.Pc=0
  · have p0':(j.Pc == 0)=true:=by simpa using p0
    simp only [p0',if_true,if_pos p0]
    cases hd:(jH s.aD w j.Sub).2.cS with
    | false=>simp only [iN,if_true,aN,if_false,aG];refine(hj _ ?_ _).trans ?_;rfl;simp [lP]
    | true=>simp only [dA,aN,if_false,if_true,aG];refine(hj _ ?_ _).trans ?_;rfl;simp [lP,lK]
  have p0':(j.Pc == 0)=false:=by simpa using p0
  simp only [p0',aN,if_false,if_neg p0]
  by_cases p1:j.Pc=1
  · have p1':(j.Pc == 1)=true:=by simpa using p1
    simp only [p1',if_true,if_pos p1]
    by_cases c0:cellAt s.Cells j.Op.Cell=0
    · have c0':(cellAt s.Cells j.Op.Cell == 0)=true:=by simpa using c0
      simp only [c0',if_true,if_pos c0,aG];refine(hj _ ?_ _).trans ?_;rfl;simp [lP,lK,TW,c0]
    · have c0':(cellAt s.Cells j.Op.Cell == 0)=false:=by simpa using c0
      simp only [c0',aN,if_false,if_neg c0,aG];refine(hj _ ?_ _).trans ?_;rfl;simp [lP,lK,TW]
  have p1':(j.Pc == 1)=false:=by simpa using p1
  simp only [p1',aN,if_false,if_neg p1]
  by_cases p2:j.Pc=2
  · have p2':(j.Pc == 2)=true:=by simpa using p2
    simp only [p2',if_true,if_pos p2,aG];refine(hj _ ?_ _).trans ?_;rfl;simp [lP,lK]
  have p2':(j.Pc == 2)=false:=by simpa using p2
  simp only [p2',aN,if_false,if_neg p2]
  by_cases p3:j.Pc=3
  · have p3':(j.Pc == 3)=true:=by simpa using p3
    simp only [p3',if_true,if_pos p3,aG,jQ,bC,aJC]
    cases h1:(rB s.aD.aH w).On <;> cases h2:(rB s.aD.aH w).eW <;> simp only [iN,dA,aN,if_false,if_true,aG,and_false,and_true,false_and,true_and,reduceCtorEq] <;> (refine(hj _ ?_ _).trans ?_;rfl;simp [lP,lK])
  have p3':(j.Pc == 3)=false:=by simpa using p3
  simp only [p3',aN,if_false,if_neg p3]
  by_cases p4:j.Pc=4
  · have p4':(j.Pc == 4)=true:=by simpa using p4
    simp only [p4',if_true,if_pos p4,aG];refine(hj _ ?_ _).trans ?_;rfl;simp [lP,lK]
  have p4':(j.Pc == 4)=false:=by simpa using p4
  simp only [p4',aN,if_false,if_neg p4,aG];refine(hj _ ?_ _).trans ?_;rfl;simp [lP,lK]
theorem aWE:((A8 s w j).bind fun q=>cN w q.1 q.2)=some (lP s w (aY6 s w j)):=by
  have hn:∀(e:Ev) {α:Type} (k:Option α),need (s.Log.length + [e].length≤1073741824) k=k:=fun e _ k=>aO (by simp;omega) k
  have hcell:=OK hs hjo.1.2.2.1
  have hj:=fun x hx j=>aK6 hs hw x hx j
  obtain⟨t1,e1⟩:=aK5 hs.1.1.2.2.2 hw j.H
  obtain⟨t2,e2⟩:=aP2 hs.1.1.2.2.2 hw
  unfold A8 aY6
  simp only [hcell,aG,bC,iJ,hn,aJB hs.1.1.1,e1,e2]
  by_cases p0:j.Pc=0
  · have p0':(j.Pc == 0)=true:=by simpa using p0
    simp only [p0',if_true,if_pos p0]
    by_cases c0:cellAt s.Cells j.Op.Cell=0
    · have c0':(cellAt s.Cells j.Op.Cell == 0)=true:=by simpa using c0
      simp only [c0',if_true,if_pos c0,aG];refine(hj _ ?_ _).trans ?_;rfl;simp [lP,lK,TW,c0]
    · have c0':(cellAt s.Cells j.Op.Cell == 0)=false:=by simpa using c0
      simp only [c0',aN,if_false,if_neg c0,aG];refine(hj _ ?_ _).trans ?_;rfl;simp [lP,lK]
  have p0':(j.Pc == 0)=false:=by simpa using p0
  simp only [p0',aN,if_false,if_neg p0]
  by_cases p1:j.Pc=1
  · have p1':(j.Pc == 1)=true:=by simpa using p1
    simp only [p1',if_true,if_pos p1,aG];refine(hj _ ?_ _).trans ?_;rfl;simp [lP,lK]
  have p1':(j.Pc == 1)=false:=by simpa using p1
  simp only [p1',aN,if_false,if_neg p1]
  by_cases p2:j.Pc=2
  · have p2':(j.Pc == 2)=true:=by simpa using p2
    simp only [p2',if_true,if_pos p2]
    by_cases c0:cellAt s.Cells j.Op.Cell=j.H
    · have c0':(cellAt s.Cells j.Op.Cell != j.H)=false:=by simpa using c0
      simp only [c0',aN,if_false,if_pos c0,aG];refine(hj _ ?_ _).trans ?_;rfl;simp [lP,lK,TW]
    · have c0':(cellAt s.Cells j.Op.Cell != j.H)=true:=by simpa using c0
      simp only [c0',if_true,if_neg c0,aG];refine(hj _ ?_ _).trans ?_;rfl;simp [lP,lK]
  have p2':(j.Pc == 2)=false:=by simpa using p2
  simp only [p2',aN,if_false,if_neg p2]
  by_cases p3:j.Pc=3
  · have p3':(j.Pc == 3)=true:=by simpa using p3
    simp only [p3',if_true,if_pos p3,aG];refine(hj _ ?_ _).trans ?_;rfl;simp [lP,lK]
  have p3':(j.Pc == 3)=false:=by simpa using p3
  simp only [p3',aN,if_false,if_neg p3]
  by_cases p4:j.Pc=4
  · have p4':(j.Pc == 4)=true:=by simpa using p4
    simp only [p4',if_true,if_pos p4,aG];refine(hj _ ?_ _).trans ?_;rfl;simp [lP,lK]
  have p4':(j.Pc == 4)=false:=by simpa using p4
  simp only [p4',aN,if_false,if_neg p4,aG];refine(hj _ ?_ _).trans ?_;rfl;simp [lP,lK]
theorem aT2:((xC s w j).bind fun q=>cN w q.1 q.2)=some (lP s w (aT1 s w j)):=by
  have hn:∀(e:Ev) {α:Type} (k:Option α),need (s.Log.length + [e].length≤1073741824) k=k:=fun e _ k=>aO (by simp;omega) k
  have hcell:=OK hs hjo.1.2.2.1
  have hj:=fun x hx j=>aK6 hs hw x hx j
  unfold xC aT1
  simp only [hcell,aG,bC,iJ,hn,aJB hs.1.1.1,oR,EL hs.1.1.2.1 hw]
  by_cases p0:j.Pc=0
  · have p0':(j.Pc == 0)=true:=by simpa using p0
    simp only [p0',if_true,if_pos p0]
    cases h1:(rB s.aD.aH w).On with
    | false=>simp only [iN,if_true,aG];refine(hj _ ?_ _).trans ?_;rfl;simp [lP,lK]
    | true =>
      cases h2:(rB s.aD.aH w).eW with
      | true=>simp only [dA,aN,if_false,if_true,aG,reduceCtorEq];refine(hj _ ?_ _).trans ?_;rfl;simp [lP,lK]
      | false =>
        simp only [dA,aN,if_false,reduceCtorEq]
        by_cases c0:cellAt s.Cells j.Op.Cell=0
        · have c0':(cellAt s.Cells j.Op.Cell == 0)=true:=by simpa using c0
          simp only [c0',if_true,if_pos c0,aG];refine(hj _ ?_ _).trans ?_;rfl;simp [lP,lK,TW,c0]
        · have c0':(cellAt s.Cells j.Op.Cell == 0)=false:=by simpa using c0
          simp only [c0',aN,if_false,if_neg c0,aG];refine(hj _ ?_ _).trans ?_;rfl;simp [lP,lK,TW]
  have p0':(j.Pc == 0)=false:=by simpa using p0
  simp only [p0',aN,if_false,if_neg p0]
  by_cases p1:j.Pc=1
  · have p1':(j.Pc == 1)=true:=by simpa using p1
    simp only [p1',if_true,if_pos p1,aG];refine(hj _ ?_ _).trans ?_;rfl;simp [lP,lK]
  have p1':(j.Pc == 1)=false:=by simpa using p1
  simp only [p1',aN,if_false,if_neg p1]
  by_cases p2:j.Pc=2
  · have p2':(j.Pc == 2)=true:=by simpa using p2
    simp only [p2',if_true,if_pos p2,aG,jQ,bC,aJC]
    cases h1:(rB s.aD.aH w).On <;> cases h2:(rB s.aD.aH w).eW <;> simp only [iN,dA,aN,if_false,if_true,aG,and_false,and_true,false_and,true_and,reduceCtorEq] <;> (refine(hj _ ?_ _).trans ?_;rfl;simp [lP,lK])
  have p2':(j.Pc == 2)=false:=by simpa using p2
  simp only [p2',aN,if_false,if_neg p2,aG];refine(hj _ ?_ _).trans ?_;rfl;simp [lP,lK]
theorem aP3:((tH s w j).bind fun q=>cN w q.1 q.2)=some (lP s w (aNB s w j)):=by
  have hj:=fun x hx j=>aK6 hs hw x hx j
  unfold tH aNB qD
  simp only [aHK hs.1.1.2.1 hw,aG,bC]
  have step:j.Op.Kind≠6→(j.Pc=0∨j.Pc=1∧j.Op.Kind≠5)→((fW s w j false).bind fun q=>cN w q.1 q.2)=some (lP s w ⟨(jH s.aD w j.Sub).1,s.Cells,if (jH s.aD w j.Sub).2.cS then if j.Op.Kind=5 then lK {j with Sub:=(jH s.aD w j.Sub).2} 9 (jH s.aD w j.Sub).2.Code else if j.Pc=0 then lK {j with Sub:=SN 4 0} 1 0 else lK {j with Sub:=(jH s.aD w j.Sub).2,eH:=(jH s.aD w j.Sub).2.Out} 9 (jH s.aD w j.Sub).2.Code else {j with Sub:=(jH s.aD w j.Sub).2},[]⟩):=fun k6 kp=>by
    unfold fW
    simp only [aN,if_false,aJA hs.1 hw,aG,bC,fZ]
    cases hd:(jH s.aD w j.Sub).2.cS with
    | false=>simp only [iN,if_true,aN,if_false,aG];refine(hj _ ?_ _).trans ?_;rfl;simp [lP]
    | true =>
      simp only [dA,aN,if_false,if_true]
      by_cases k5:j.Op.Kind=5
      · have k5':(j.Op.Kind == 5)=true:=by simpa using k5
        simp only [k5',if_true,if_pos k5,aG];refine(hj _ ?_ _).trans ?_;rfl;simp [lP,lK]
      · have k5':(j.Op.Kind == 5)=false:=by simpa using k5
        simp only [k5',aN,if_false,if_neg k5]
        by_cases p0:j.Pc=0
        · have p0':(j.Pc == 0)=true:=by simpa using p0
          simp only [p0',if_true,if_pos p0,aG];refine(hj _ ?_ _).trans ?_;rfl;simp [lP,lK,SN]
        · have p0':(j.Pc == 0)=false:=by simpa using p0
          simp only [p0',aN,if_false,if_neg p0,aG];refine(hj _ ?_ _).trans ?_;rfl;simp [lP,lK]
  have bad:((fW s w j true).bind fun q=>cN w q.1 q.2)=some (lP s w ⟨s.aD,s.Cells,lK j 9 1,[]⟩):=by
    unfold fW
    simp only [if_true,bC,aG];refine(hj _ ?_ _).trans ?_;rfl;simp [lP,lK]
  by_cases k6:j.Op.Kind=6
  · have k6':(j.Op.Kind == 6)=true:=by simpa using k6
    simp only [k6',if_true,if_pos k6]
    by_cases p0:j.Pc=0
    · have p0':(j.Pc == 0)=true:=by simpa using p0
      simp only [p0',if_true,if_pos p0]
      cases h1:(YE s.aD.aH w).2 with
      | true=>simp only [dA,aN,if_false,if_true,aG];refine(hj _ ?_ _).trans ?_;rfl;simp [lP,lK]
      | false=>simp only [iN,aN,if_false,if_true,aG];refine(hj _ ?_ _).trans ?_;rfl;simp [lP,lK]
    · have p0':(j.Pc == 0)=false:=by simpa using p0
      simp only [p0',aN,if_false,if_neg p0]
      exact bad
  have k6':(j.Op.Kind == 6)=false:=by simpa using k6
  simp only [k6',aN,if_false,if_neg k6]
  by_cases p0:j.Pc=0
  · have p0':(j.Pc != 0)=false:=by simpa using p0
    have hc:j.Pc=0∨j.Pc=1∧j.Op.Kind≠5:=.inl p0
    simp only [p0',aN,if_false,if_pos hc]
    exact step k6 hc
  have p0':(j.Pc != 0)=true:=by simpa using p0
  simp only [p0',if_true]
  by_cases p1:j.Pc=1
  · have p1':(j.Pc != 1)=false:=by simpa using p1
    simp only [p1',aN,if_false]
    by_cases k5:j.Op.Kind=5
    · have k5':(j.Op.Kind == 5)=true:=by simpa using k5
      simp only [k5',if_neg (show ¬(j.Pc=0∨j.Pc=1∧j.Op.Kind≠5) from fun h=>h.elim p0 fun h=>h.2 k5)]
      exact bad
    · have k5':(j.Op.Kind == 5)=false:=by simpa using k5
      have hc:j.Pc=0∨j.Pc=1∧j.Op.Kind≠5:=.inr ⟨p1,k5⟩
      simp only [k5',if_pos hc]
      exact step k6 hc
  · have p1':(j.Pc != 1)=true:=by simpa using p1
    simp only [p1',if_true,if_neg (show ¬(j.Pc=0∨j.Pc=1∧j.Op.Kind≠5) from fun h=>h.elim p0 fun h=>p1 h.1)]
    exact bad
omit hjo
theorem aP4:tB s w=some (aJF s w):=by
  have ht:=hs.2.2.2.1
  have hser:=hs.2.2.2.2.1
  have hn:∀(e:Ev) {α:Type} (k:Option α),need (s.Log.length + [e].length≤1073741824) k=k:=fun e _ k=>aO (by simp;omega) k
  have hq:idx s.cE w=some ⟨PT s.cE w⟩:=by
    have:=ht.1
    rw [fL hw.1 (by omega)]
    simp [PT,iX,eI (show w.toNat < s.cE.length by omega)]
  have ew:aV (s.aJ+1)=s.aJ+1:=aP (by omega) (by omega)
  have h12:(PT s.cE w).length≤12:=by
    have h3:=ht.1
    rw [fL hw.1 (by omega)] at hq
    injection hq with hq
    have:=(ht.2 _ (dP (show w.toNat < s.cE.length by omega))).1
    rw [hq] at this;exact this
  unfold tB aJF
  rw [hq,aG]
  simp only [p7,hq,aG]
  cases ho:PT s.cE w with
  | nil=>simp
  | cons o r =>
    rw [ho] at h12
    simp only [KA] at h12
    have l0:(((o :: r).length:Int) == 0)=false:=by simp;omega
    simp only [l0,aN,if_false]
    by_cases s0:s.aJ=1000000
    · have s0':(s.aJ == 1000000)=true:=by simpa using s0
      simp only [s0',if_true,if_pos s0]
    have s0':(s.aJ == 1000000)=false:=by simpa using s0
    have hx:idx (o :: r) 0=some o:=rfl
    have etk:((o :: r).take (o :: r).length).drop (1:Int).toNat=r:=by rw [IV];rfl
    simp only [s0',aN,if_false,if_neg s0,hx,aG,fZ,ew]
    rw [aO (by simp only [KA];omega)]
    have fin:∀jb:bR,dZ s w ⟨o :: r⟩ o jb=some ⟨s.aD,s.Cells,s.aQ.set w.toNat jb,s.cE.set w.toNat ⟨r⟩,s.Log ++ [⟨1,w,s.aJ+1,o.Cell,0,0,0⟩],s.aJ+1⟩:=fun jb=>by
      simp only [dZ,SF hs hw,aG,hn,etk,ew]
    unfold aJE
    by_cases k1:o.Kind=1
    · have k1':(o.Kind == 1)=true:=by simpa using k1
      simp only [k1',if_true,if_pos k1,fin];rfl
    have k1':(o.Kind == 1)=false:=by simpa using k1
    simp only [k1',aN,if_false,if_neg k1]
    have pin:∀z,z=true→hC s w ⟨o :: r⟩ o z=some ⟨s.aD,s.Cells,s.aQ.set w.toNat (if (rB s.aD.aH w).On then ⟨true,o,s.aJ+1,9,SN 5 0,0,0,0,1⟩ else ⟨true,o,s.aJ+1,0,SN 5 0,0,0,0,0⟩),s.cE.set w.toNat ⟨r⟩,s.Log ++ [⟨1,w,s.aJ+1,o.Cell,0,0,0⟩],s.aJ+1⟩:=fun z hz=>by
      subst hz
      simp only [hC,if_true,fZ,EL hs.1.1.2.1 hw,aG,ew,fin]
      cases (rB s.aD.aH w).On <;> rfl
    by_cases k2:o.Kind=2
    · have k2':(o.Kind == 2)=true:=by simpa using k2
      simp only [k2',if_true,if_pos (show o.Kind=2∨o.Kind=5 from .inl k2)]
      exact pin true rfl
    have k2':(o.Kind == 2)=false:=by simpa using k2
    simp only [k2',aN,if_false]
    by_cases k5:o.Kind=5
    · have k5':(o.Kind == 5)=true:=by simpa using k5
      simp only [k5',if_pos (show o.Kind=2∨o.Kind=5 from .inr k5)]
      exact pin true rfl
    have k5':(o.Kind == 5)=false:=by simpa using k5
    simp only [k5',hC,aN,if_false,if_neg (show ¬(o.Kind=2∨o.Kind=5) from fun h=>h.elim k2 k5),fZ,aG,ew,fin]
    by_cases k4:o.Kind=4
    · have k4':(o.Kind == 4)=true:=by simpa using k4
      simp only [k4',if_true,if_pos k4];rfl
    · have k4':(o.Kind == 4)=false:=by simpa using k4
      simp only [k4',aN,if_false,if_neg k4]
theorem aK7:vK s w=some (WU s w):=by
  have hn:∀(e:Ev) {α:Type} (k:Option α),need (s.Log.length + [e].length≤1073741824) k=k:=fun e _ k=>aO (by simp;omega) k
  have hjk:JOk (kW s w):=by
    have h:=SF hs hw
    have h3:=hs.2.2.1
    rw [fL hw.1 (by omega)] at h
    injection h with h
    rw [←h];exact hs.2.2.2.2.2.2 _ (dP _)
  unfold vK WU
  rw [SF hs hw,aG]
  cases hb:(kW s w).fV with
  | false=>simp only [iN,if_true,aP4 hs hl hw,aG]
  | true =>
    have hjo:=(GI hb).1 hjk
    simp only [dA,aN,if_false,reduceCtorEq]
    by_cases p9:(kW s w).Pc=9
    · have p9':((kW s w).Pc == 9)=true:=by simpa using p9
      simp only [p9',if_true,if_pos p9,hn];rfl
    have p9':((kW s w).Pc == 9)=false:=by simpa using p9
    simp only [p9',aN,if_false,if_neg p9]
    unfold aWB
    by_cases k1:(kW s w).Op.Kind=1
    · have k1':((kW s w).Op.Kind == 1)=true:=by simpa using k1
      simp only [k1',if_true,if_pos k1];exact aWC hs hl hw hjo k1
    have k1':((kW s w).Op.Kind == 1)=false:=by simpa using k1
    simp only [k1',aN,if_false,if_neg k1]
    by_cases k2:(kW s w).Op.Kind=2
    · have k2':((kW s w).Op.Kind == 2)=true:=by simpa using k2
      simp only [k2',if_true,if_pos k2];exact aWD hs hl hw hjo
    have k2':((kW s w).Op.Kind == 2)=false:=by simpa using k2
    simp only [k2',aN,if_false,if_neg k2]
    by_cases k3:(kW s w).Op.Kind=3
    · have k3':((kW s w).Op.Kind == 3)=true:=by simpa using k3
      simp only [k3',if_true,if_pos k3];exact aWE hs hl hw hjo
    have k3':((kW s w).Op.Kind == 3)=false:=by simpa using k3
    simp only [k3',aN,if_false,if_neg k3]
    by_cases k7:(kW s w).Op.Kind=7
    · have k7':((kW s w).Op.Kind == 7)=true:=by simpa using k7
      simp only [k7',if_true,if_pos k7];exact aT2 hs hl hw hjo
    have k7':((kW s w).Op.Kind == 7)=false:=by simpa using k7
    simp only [k7',aN,if_false,if_neg k7];exact aP3 hs hl hw hjo
theorem aK8:lF s w=some (WU s w)∧xX (WU s w)∧(WU s w).Log.length≤s.Log.length+1:=by
  obtain⟨x,e1,e2,h1,h2⟩:=aI9 hs hl hw
  rw [aK7 hs hl hw] at e1
  injection e1 with e1
  rw [e1];exact⟨e2,h1,h2⟩
end
end Go.Gv
end
