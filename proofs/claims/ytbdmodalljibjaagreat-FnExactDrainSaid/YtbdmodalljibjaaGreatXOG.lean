import Derived.Test.YtbdmodalljibjaaGreatXOF
set_option linter.unusedVariables false
set_option linter.unusedSimpArgs false
set_option linter.unusedSectionVars false
set_option linter.constructorNameAsVariable false
set_option linter.unnecessarySimpa false
noncomputable section
namespace Go.Gv
def bP(l:List aO):List bM:=l.flatMap aO.Rows
theorem I6{l:List aO}{k:Nat}(h:k < l.length):bP (l.take (k+1))=bP (l.take k)++l[k].Rows:=by
  unfold bP
  rw [List.take_succ_eq_append_getElem h,List.flatMap_append];simp
theorem aE8(l:List aO)(k:Nat):(bP (l.take k)).length≤(bP l).length:=by
  have:bP l=bP (l.take k)++bP (l.drop k):=by
    unfold bP;rw [←List.flatMap_append,List.take_append_drop]
  rw [this];simp
theorem aQB(l:List aO){k:Nat}(h:k < l.length):l[k].Rows.length≤(bP l).length:=by
  have h1:=aE8 l (k+1)
  rw [I6 h] at h1
  simp at h1;omega
theorem NM{l:List aO}{s:aO}(h:s∈l):s.Rows.length≤(bP l).length:=by
  obtain⟨k,hk,rfl⟩:=List.mem_iff_getElem.1 h
  exact aQB l hk
theorem I7{l:List aO}(h:(bP l).length≤1073741824)(hl:l.length≤maxLen):zT l=some (bP l):=by
  unfold zT
  have k1:loop (sW l) ([],0)=some (bP l):=by
    refine gA (f:=sW l) l.length (fun k=>(bP (l.take k),(k:Int))) _ (fun k hk=>?_) ?_
    · have h1:=aE8 l (k+1)
      rw [I6 hk] at h1
      simp only [sW]
      rw [if_pos (by simp;omega),aQ hk]
      simp only [aI]
      rw [aP (by simp at h1;omega),I6 hk,cX (eE hk hl)]
    · simp [sW]
  rw [k1];rfl
def rN(h:Int):Prop:=(32≤h∧h≤223)∧h % 32 < 24
instance (h:Int):Decidable (rN h):=by unfold rN;infer_instance
theorem fE(h:Int):fY h=some (decide (rN h)):=by
  unfold fY uJ rN
  rw [cW]
  by_cases q:32≤h∧h≤223
  · simp [q,B5 (show 0≤h by omega)]
  · simp [q]
theorem iE(h:Int):fZ h=some (decide (rN h)):=by
  unfold fZ lQ rN
  rw [dO]
  by_cases q:32≤h∧h≤223
  · simp [q,B5 (show 0≤h by omega)]
  · simp [q]
theorem rN.mod{h:Int}(q:rN h):Int.tmod h 32=h % 32∧0≤h % 32∧h % 32≤23:=by
  unfold rN at q
  exact⟨B5 (by omega),by omega,by omega⟩
theorem fB(h:Int):eO h=some (if rN h then h % 32 else -1):=by
  unfold eO
  rw [fE]
  by_cases q:rN h
  · simp [q,q.mod.1]
  · simp [q]
def xL(r:bM):Prop:=rN r.Handle∧0≤r.aM∧r.aM≤100000
instance (r:bM):Decidable (xL r):=by unfold xL;infer_instance
def mB(r:bM):Int:=r.Handle % 32
def sM(l:List aO):Prop:=l.length=3∧(bP l).length≤24∧(∀r∈bP l,xL r)∧((bP l).map mB).Nodup
instance (l:List aO):Decidable (sM l):=by unfold sM;infer_instance
def rowAt(l:List bM)(k:Nat):bM:=l.getD k ⟨0,0⟩
theorem SO{l:List bM}{k:Nat}(h:k < l.length):rowAt l k=l[k]:=by
  unfold rowAt;rw [List.getD_eq_getElem?_getD,List.getElem?_eq_getElem h];rfl
theorem aA6{l:List aO}(h:(bP l).length≤1073741824)(hl:l.length≤maxLen):FV l=some (decide (sM l)):=by
  unfold FV xQ
  rw [I7 h hl]
  simp only [aI]
  by_cases h3:l.length=3
  · have n1:((l.length:Int) != 3)=false:=by simp;omega
    simp only [n1,a9,if_false]
    by_cases h24:(bP l).length≤24
    · rw [if_neg (by simp;omega)]
      have hst:∀k,k < (bP l).length→qW (bP l) (((bP l).take k).map mB,(k:Int))=if xL (rowAt (bP l) k)∧mB (rowAt (bP l) k)∉((bP l).take k).map mB then some (.next (((bP l).take (k+1)).map mB,((k+1:Nat):Int))) else some (.stop (Out.ret false)):=by
        intro k hk
        simp only [qW,qV]
        rw [if_pos (by simp;omega),aQ hk,SO hk]
        simp only [aI,fB,cW]
        by_cases q:rN (bP l)[k].Handle
        · have hm:=q.mod
          rw [if_pos q,if_neg (by simp;omega)]
          by_cases q2:0≤(bP l)[k].aM∧(bP l)[k].aM≤100000
          · rw [bL q2]
            simp only [eD,a9,if_false]
            rw [LR (by simp [maxLen];omega)]
            simp only [aI]
            by_cases q3:(bP l)[k].Handle % 32∈((bP l).take k).map mB
            · rw [bL q3];simp only [if_true];rw [if_neg (show ¬(xL (bP l)[k]∧mB (bP l)[k]∉((bP l).take k).map mB) from fun x=>x.2 q3)]
            · rw [bH q3]
              simp only [a9,if_false]
              rw [if_pos (show xL (bP l)[k]∧mB (bP l)[k]∉((bP l).take k).map mB from ⟨⟨q,q2⟩,q3⟩),aP (by simp;omega),aU (by omega) (by omega),map_take _ hk];rfl
          · rw [bH q2]
            simp only [lJ,if_true]
            rw [if_neg (fun x:xL _∧_=>q2 x.1.2)]
        · rw [if_neg q,if_pos (by simp),if_neg (fun x:xL _∧_=>q x.1.1)];rfl
      have key:=tY (f:=qW (bP l)) (bP l).length (fun k=>(((bP l).take k).map mB,(k:Int))) (fun k=>xL (rowAt (bP l) k)∧mB (rowAt (bP l) k)∉((bP l).take k).map mB) (Out.brk ()) (Out.ret false) (fun k hk hx=>by rw [hst k hk,if_pos hx]) (fun k hk hx=>by rw [hst k hk,if_neg hx]) (by simp [qW])
      rw [List.take_zero,List.map_nil,show((0:Nat):Int)=0 from rfl] at key
      rw [key]
      have hiff:sM l↔∀k,k < (bP l).length→xL (rowAt (bP l) k)∧mB (rowAt (bP l) k)∉((bP l).take k).map mB:=by
        constructor
        · rintro⟨_,_,q1,q2⟩ k hk
          rw [SO hk]
          refine⟨q1 _ (List.getElem_mem hk),?_⟩
          have:=(OX _).1 q2 k (by simpa using hk)
          rw [List.getElem_map,←List.map_take] at this
          exact this
        · intro q
          refine⟨h3,h24,fun x hx=>?_,(OX _).2 fun k hk=>?_⟩
          · obtain⟨k,hk,rfl⟩:=List.mem_iff_getElem.1 hx
            have:=(q k hk).1;rw [SO hk] at this;exact this
          · have hk':k < (bP l).length:=by simpa using hk
            have:=(q k hk').2;rw [SO hk'] at this
            rw [List.getElem_map,←List.map_take];exact this
      by_cases q:sM l
      · rw [if_pos (hiff.1 q),bL q];rfl
      · rw [if_neg (fun x=>q (hiff.2 x)),bH q];rfl
    · rw [if_pos (by simp;omega),bH (fun q:sM l=>h24 q.2.1)]
  · have n1:((l.length:Int) != 3)=true:=by simp;omega
    simp only [n1,if_true]
    rw [bH (fun q:sM l=>h3 q.1)]
def goR:List Bool→List bM→Option (List Bool)
  | met,[]=>some met
  | met,r :: t=>if xL r∧met.getD (mB r).toNat true=false then goR (met.set (mB r).toNat true) t else none
theorem aPK:∀{xs:List bM} {met m:List Bool},goR met xs=some m→m.length=met.length
  | [],met,m,h=>by simp [goR] at h;rw [h]
  | x :: r, met, m, h => by
    simp only [goR] at h
    split at h
    · have:=aPK h;simpa using this
    · cases h
theorem aE9:∀(a b:List bM) (met:List Bool),goR met (a++b)=(goR met a).bind fun m=>goR m b
  | [],b,met=>rfl
  | x :: r, b, met => by
    simp only [List.cons_append,goR]
    split
    · exact aE9 r b _
    · rfl
theorem aLZ:∀(xs:List bM) (met:List Bool),(goR met xs).isSome=true↔(∀r∈xs,xL r)∧(xJ met (xs.map mB)).isSome=true
  | [],met=>by simp [goR,xJ]
  | x :: r, met => by
    simp only [goR,List.map_cons,xJ]
    by_cases h:xL x
    · have hm:=h.1.mod
      have hs:0≤mB x∧mB x≤23:=hm.2
      by_cases h2:met.getD (mB x).toNat true=false
      · rw [if_pos ⟨h,h2⟩,if_pos ⟨hs,h2⟩,aLZ r _]
        simp [h]
      · rw [if_neg (fun q=>h2 q.2),if_neg (fun q=>h2 q.2)];simp
    · rw [if_neg (fun q=>h q.1)]
      constructor
      · intro q;cases q
      · rintro⟨q,_⟩;exact(h (q x List.mem_cons_self)).elim
theorem aQC{s:aO}(hl:s.Rows.length≤maxLen):∀d k (met:List Bool),k+d=s.Rows.length→met.length=24→loop (kH s) ((k:Int),met)=some (aJ7 (goR met (s.Rows.drop k))):=by
  intro d
  induction d with
  | zero =>
    intro k met hk hm
    rw [bZ (r:=Out.brk met) (by simp [kH];omega),List.drop_eq_nil_of_le (by omega)];rfl
  | succ d ih =>
    intro k met hk hm
    have hk':k < s.Rows.length:=by omega
    have hd:s.Rows.drop k=s.Rows[k] :: s.Rows.drop (k+1):=List.drop_eq_getElem_cons hk'
    have hst:kH s ((k:Int),met)=if xL s.Rows[k]∧met.getD (mB s.Rows[k]).toNat true=false then some (.next (((k+1:Nat):Int),met.set (mB s.Rows[k]).toNat true)) else some (.stop (Out.ret false)):=by
      simp only [kH]
      rw [if_pos (by simp;omega),aQ hk']
      simp only [aI,iE,dO]
      generalize s.Rows[k]=x
      by_cases q:rN x.Handle
      · by_cases q2:0≤x.aM∧x.aM≤100000
        · have hm2:=q.mod
          obtain⟨j,hj0⟩:=Int.eq_ofNat_of_zero_le hm2.2.1
          have hj:j < met.length:=by omega
          have e:met.getD j true=met[j]:=by rw [List.getD_eq_getElem?_getD,List.getElem?_eq_getElem hj];rfl
          have hr:xL x:=⟨q,q2⟩
          simp only [q,q2,and_self,decide_true,eD,a9,if_false,iS,hm2.1,hj0,Int.toNat_natCast,hr,true_and,mB,e]
          rw [aP (by omega),aQ hj]
          simp only [aI]
          cases met[j]
          · simp only [a9,if_false,if_true]
            rw [aP (by omega),cX (eE hk' hl)]
          · simp
        · rw [bL q,bH q2];simp only [eD,lJ,a9,if_false,if_true,iS];rw [if_neg (fun y:xL x∧_=>q2 y.1.2)]
      · rw [bH q];simp only [lJ,if_true,iS];rw [if_neg (fun y:xL x∧_=>q y.1.1)]
    rw [hd,goR]
    by_cases q:xL s.Rows[k]∧met.getD (mB s.Rows[k]).toNat true=false
    · rw [if_pos q] at hst ⊢
      rw [cH hst,ih (k+1) _ (by omega) (by simpa using hm)]
    · rw [if_neg q] at hst ⊢
      rw [bZ hst];rfl
theorem aQD{l:List aO}(hn:l.length≤1000)(hs:∀s∈l,s.Rows.length≤maxLen):∀d k (met:List Bool),k+d=l.length→met.length=24 →
    loop (kI l) ((k:Int),met)=some (if (goR met (bP (l.drop k))).isSome=true then Out.brk () else Out.ret false):=by
  intro d
  induction d with
  | zero =>
    intro k met hk hm
    rw [List.drop_eq_nil_of_le (by omega),if_pos (show(goR met (bP [])).isSome=true from rfl)]
    refine bZ ?_
    simp only [kI]
    rw [if_neg (by simp;omega)]
  | succ d ih =>
    intro k met hk hm
    have hk':k < l.length:=by omega
    have hd:l.drop k=l[k] :: l.drop (k+1):=List.drop_eq_getElem_cons hk'
    have hsk:=hs _ (List.getElem_mem hk')
    have hf:bP (l.drop k)=l[k].Rows++bP (l.drop (k+1)):=by unfold bP;rw [hd,List.flatMap_cons]
    have h4:=aQC hsk _ 0 met (Nat.zero_add _) hm
    rw [show((0:Nat):Int)=0 from rfl,List.drop_zero] at h4
    have hst:kI l ((k:Int),met)=(match goR met l[k].Rows with | some m=>some (.next (((k+1:Nat):Int),m)) | none=>some (.stop (Out.ret false))):=by
      simp only [kI]
      rw [if_pos (by simp;omega),aQ hk']
      simp only [aI]
      rw [h4]
      cases goR met l[k].Rows with
      | none=>rfl
      | some m=>simp only [aI,aJ7,PI,yC];rw [aU (by omega) (by omega)];rfl
    rw [hf,aE9]
    cases hg:goR met l[k].Rows with
    | none =>
      rw [hg] at hst
      rw [bZ hst,if_neg (by simp)]
    | some m =>
      rw [hg] at hst
      rw [cH hst,ih (k+1) m (by omega) (by rw [aPK hg];exact hm)]
      simp only [aI]
theorem WJ{l:List aO}(hn:l.length≤1000)(h:(bP l).length≤1073741824):tG l=some ((bP l).length:Int):=by
  unfold tG
  have key:loop (iJ l) (0,0)=some ((bP l).length:Int):=by
    refine gA (f:=iJ l) l.length (fun k=>(((bP (l.take k)).length:Int),(k:Int))) _ (fun k hk=>?_) ?_
    · have h1:=aE8 l (k+1)
      rw [I6 hk,List.length_append] at h1
      simp only [iJ]
      rw [if_pos (by simp;omega),aQ hk]
      simp only [aI]
      rw [aU (by omega) (by omega),aU (by omega) (by omega),I6 hk,List.length_append]
      simp
    · simp [iJ]
  rw [key];rfl
theorem yY{l:List aO}(h:(bP l).length≤1073741824):kZ l=some (decide (sM l)):=by
  unfold kZ
  by_cases h3:l.length=3
  · have n1:((l.length:Int) != 3)=false:=by simp;omega
    have hb:(1073741824:Nat)≤maxLen:=by simp [maxLen]
    simp only [n1,a9,if_false]
    have key:=aQD (l:=l) (by omega) (fun s hs=>by have:=NM hs;omega) l.length 0 [false,false,false,false,false,false,false,false,false,false,false,false,false,false,false,false,false,false,false,false,false,false,false,false] (by omega) rfl
    rw [show((0:Nat):Int)=0 from rfl,List.drop_zero] at key
    rw [key]
    have hm0:∀j:Nat,j < 24→[false,false,false,false,false,false,false,false,false,false,false,false,false,false,false,false,false,false,false,false,false,false,false,false].getD j true=false:=by decide
    have hiff:sM l↔(bP l).length≤24∧(goR [false,false,false,false,false,false,false,false,false,false,false,false,false,false,false,false,false,false,false,false,false,false,false,false] (bP l)).isSome=true:=by
      rw [aLZ,UZ _ _ rfl]
      have hr:(∀r∈bP l,xL r)→∀x∈(bP l).map mB,0≤x∧x≤23:=by
        intro q x hx
        obtain⟨r,hr,rfl⟩:=List.mem_map.1 hx
        exact(q r hr).1.mod.2
      constructor
      · rintro⟨_,q1,q2,q3⟩
        exact⟨q1,q2,hr q2,q3,fun x hx=>hm0 _ (by have:=hr q2 x hx;omega)⟩
      · rintro⟨q1,q2,_,q3,_⟩
        exact⟨h3,q1,q2,q3⟩
    by_cases q:(goR [false,false,false,false,false,false,false,false,false,false,false,false,false,false,false,false,false,false,false,false,false,false,false,false] (bP l)).isSome=true
    · rw [if_pos q]
      simp only [aI,PJ,yA]
      rw [WJ (by omega) h]
      simp only [aI]
      congr 1
      rw [Bool.eq_iff_iff];simp only [decide_eq_true_eq]
      rw [hiff]
      exact⟨fun a=>⟨by omega,q⟩,fun a=>by omega⟩
    · rw [if_neg q,bH (fun x=>q (hiff.1 x).2)];rfl
  · have n1:((l.length:Int) != 3)=true:=by simp;omega
    simp only [n1,if_true]
    rw [bH (fun q:sM l=>h3 q.1)]
def dE(h:Int):Prop:=h=0∨rN h
instance (h:Int):Decidable (dE h):=by unfold dE;infer_instance
def OY(z:List Int):Prop:=z.length=3∧∀h∈z,dE h
instance (z:List Int):Decidable (OY z):=by unfold OY;infer_instance
theorem LS{z:List Int}(hl:z.length≤maxLen):CU z=some (decide (OY z)):=by
  unfold CU
  have hst:∀k (hk:k < z.length),wJ z (k:Int)=if dE z[k] then some (.next ((k+1:Nat):Int)) else some (.stop (Out.ret false)):=by
    intro k hk
    simp only [wJ,DD]
    rw [if_pos (by simp;omega),aQ hk,cX (eE hk hl)]
    simp only [aI,fE]
    generalize z[k]=x
    by_cases q:x=0
    · have n:(x != 0)=false:=by simp only [bne_eq_false_iff_eq];exact q
      rw [n,if_pos (show dE x from .inl q)];rfl
    · have n:(x != 0)=true:=by simp only [bne_iff_ne];exact q
      by_cases q2:rN x
      · rw [n,bL q2,if_pos (show dE x from .inr q2)];rfl
      · rw [n,bH q2,if_neg (fun a:dE x=>a.elim q q2)];rfl
  have key:=iD (f:=wJ z) z (fun k=>(k:Int)) dE (Out.brk ()) (Out.ret false) (fun k hk hx=>by rw [hst k hk,if_pos hx]) (fun k hk hx=>by rw [hst k hk,if_neg hx]) (by simp [wJ])
  rw [show((0:Nat):Int)=0 from rfl] at key
  rw [key]
  by_cases q:∀x∈z,dE x
  · rw [if_pos q]
    have:OY z↔z.length=3:=⟨fun a=>a.1,fun a=>⟨a,q⟩⟩
    simp only [aI,S8,S7,this]
    congr 1;rw [Bool.eq_iff_iff];simp only [beq_iff_eq,decide_eq_true_eq];omega
  · rw [if_neg q,bH (fun a:OY z=>q a.2)];rfl
theorem LU{z:List Int}(hl:z.length≤maxLen):C1 z=some (decide (OY z)):=by
  unfold C1 DR
  have e:(fun y0=>GN y0)=fun y:Int=>some (!decide (dE y)):=by
    funext y
    unfold GN pS tH
    rw [iE]
    by_cases q:y=0
    · have n:(y == 0)=true:=by simp only [beq_iff_eq];exact q
      rw [n,bL (show dE y from .inl q)];rfl
    · have n:(y == 0)=false:=by simp only [beq_eq_false_iff_ne];exact q
      by_cases q2:rN y
      · rw [n,bL q2,bL (show dE y from .inr q2)];rfl
      · rw [n,bH q2,bH (fun a:dE y=>a.elim q q2)];rfl
  rw [e,B6 hl,ED]
  by_cases h3:z.length=3
  · have n:((z.length:Int) == 3)=true:=by simp;omega
    have:OY z↔∀h∈z,dE h:=⟨fun a=>a.2,fun a=>⟨h3,a⟩⟩
    simp only [n,if_true,aI,Bool.not_not,this]
  · have n:((z.length:Int) == 3)=false:=by simp;omega
    simp only [n,a9,if_false]
    rw [bH (fun a:OY z=>h3 a.1)]
end Go.Gv
end
noncomputable section
namespace Go.Gv
theorem I8{α:Type}(l:List α)(f:α→Bool){body:Int→Option (Step Int (Out Unit Int))}(hb:∀k (hk:k < l.length),body (k:Int)=if f l[k] then some (.stop (.ret (k:Int))) else some (.next ((k+1:Nat):Int)))(he:body (l.length:Int)=some (.stop (.brk ()))) :
    ∃o,loop body 0=some o∧match o with | .brk _=>l.any f=false | .ret r=>0≤r∧l.any f=true:=by
  have key:=aP9 (f:=body) l.length (fun k=>(k:Int)) (fun k=>if (l.drop k).any f then Out.ret ((k+(l.drop k).findIdx f:Nat):Int) else Out.brk ()) (fun k hk=>by
    by_cases h:k < l.length
    · have hd:l.drop k=l[k] :: l.drop (k+1):=List.drop_eq_getElem_cons h
      rw [hb k h,hd]
      simp only [List.any_cons,List.findIdx_cons]
      by_cases h4:f l[k]=true
      · left;simp [h4]
      · right
        have h4:f l[k]=false:=by simpa using h4
        refine⟨h,by simp [h4],?_⟩
        simp only [h4,Bool.false_or,cond_false]
        congr 2;omega
    · left
      obtain rfl:k=l.length:=by omega
      rw [he];simp) 0 (Nat.zero_le _)
  rw [show((0:Nat):Int)=0 from rfl,List.drop_zero] at key
  refine⟨_,key,?_⟩
  by_cases h:l.any f=true
  · rw [if_pos h];exact⟨by omega,h⟩
  · rw [if_neg h];simpa using h
theorem T0{l:List bM}(hl:l.length≤maxLen)(f:bM→Bool):gT l (fun x=>some (f x))=some (l.any f):=by
  obtain⟨o,e,h⟩:=I8 l f (body:=jF l (fun x=>some (f x))) (fun k hk=>by
    simp only [jF]
    rw [if_pos (by simp;omega),aQ hk,cX (eE hk hl)];rfl) (by simp [jF])
  unfold gT rZ
  rw [e]
  cases o with
  | brk u=>simp only at h;simp [nM,wR,h]
  | ret r=>simp only at h;simp [nM,h]
theorem R0{l:List aO}(hl:l.length≤maxLen)(f:aO→Bool)(g:aO→Option Bool)(hg:∀x∈l,g x=some (f x)):gD l g=some (l.any f):=by
  obtain⟨o,e,h⟩:=I8 l f (body:=iY l g) (fun k hk=>by
    simp only [iY]
    rw [if_pos (by simp;omega),aQ hk,cX (eE hk hl)]
    simp only [aI,hg _ (List.getElem_mem hk)]) (by simp [iY])
  unfold gD qA
  rw [e]
  cases o with
  | brk u=>simp only at h;simp [mI,vR,h]
  | ret r=>simp only at h;simp [mI,h]
theorem R1{l:List aH}(hl:l.length≤maxLen)(f:aH→Bool)(g:aH→Option Bool)(hg:∀x∈l,g x=some (f x)):gE l g=some (l.any f):=by
  obtain⟨o,e,h⟩:=I8 l f (body:=iZ l g) (fun k hk=>by
    simp only [iZ]
    rw [if_pos (by simp;omega),aQ hk,cX (eE hk hl)]
    simp only [aI,hg _ (List.getElem_mem hk)]) (by simp [iZ])
  unfold gE qB
  rw [e]
  cases o with
  | brk u=>simp only at h;simp [mJ,vS,h]
  | ret r=>simp only at h;simp [mJ,h]
theorem contains_eq{l:List Int}(hl:l.length≤maxLen)(v:Int):nV l v=some (decide (v∈l)):=by
  obtain⟨o,e,h⟩:=I8 l (fun x=>v == x) (body:=dY l v) (fun k hk=>by
    simp only [dY]
    rw [if_pos (by simp;omega),aQ hk,cX (eE hk hl)];rfl) (by simp [dY])
  have ha:l.any (fun x=>v == x)=decide (v∈l):=by
    rw [Bool.eq_iff_iff];simp
  rw [ha] at h
  unfold nV lR
  rw [e]
  cases o with
  | brk u=>simp only at h;simp [nU,FH,h]
  | ret r=>simp only at h;simp [nU,h]
theorem SP{l:List aH}{x:Int}:x∈cV l↔∃s∈l,x∈s.aL:=List.mem_flatMap
noncomputable section
variable {m:Mem} (hsh:fQ m.aG) (hl:(eC m.aA).length≤1073741824) (hg:m.aA.Global.length≤maxLen) (ho:m.aA.bQ.length≤maxLen)
include hl hg ho
theorem aFA(s:Int):J0 m.aA s=some (decide (s∈eC m.aA)):=by
  have hb:(1073741824:Nat)≤maxLen:=by simp [maxLen]
  unfold J0
  rw [TX hl hg ho]
  simp only [aI]
  rw [LR (by omega)];rfl
theorem R2(s:Int):EO m.aA s=some (decide (s∈eC m.aA)):=by
  have hb:(1073741824:Nat)≤maxLen:=by simp [maxLen]
  have hal:=mA m.aA
  have e1:∀x∈m.aA.Global,nN x s=some (decide (s∈x.aL)):=fun x hx=>by
    have:=xK hx
    unfold nN;rw [contains_eq (by omega)];rfl
  have e2:∀x∈m.aA.bQ,nN x s=some (decide (s∈x.aL)):=fun x hx=>by
    have:=xK hx
    unfold nN;rw [contains_eq (by omega)];rfl
  unfold EO A1
  rw [R1 hg (fun x=>decide (s∈x.aL)) _ e1,R1 ho (fun x=>decide (s∈x.aL)) _ e2]
  have a1:(m.aA.Global.any fun x=>decide (s∈x.aL))=decide (s∈cV m.aA.Global):=by
    rw [Bool.eq_iff_iff];simp [SP]
  have a2:(m.aA.bQ.any fun x=>decide (s∈x.aL))=decide (s∈cV m.aA.bQ):=by
    rw [Bool.eq_iff_iff];simp [SP]
  rw [a1,a2]
  simp only [aI,eC,List.mem_append]
  by_cases q:s∈cV m.aA.Global <;> simp [q]
def lD(m:Mem)(s:Int):Int:=if bS m.aG s < 0 then 0 else if s∈eC m.aA then 1 else if 6 < nP m.aG s then 2 else 3
include hsh
theorem aA7(s:Int):FW m s=some (lD m s):=by
  unfold FW lD
  rw [m3 hsh,aFA hl hg ho]
  simp only [aI]
  by_cases q:bS m.aG s < 0
  · simp [q]
  · rw [xI hsh (by omega)]
    by_cases q2:s∈eC m.aA
    · simp [q,q2]
    · by_cases q3:6 < nP m.aG s <;> simp [q,q2,q3]
theorem aA8(s:Int):GO m s=some (lD m s):=by
  unfold GO lD
  rw [kK hsh,R2 hl hg ho]
  simp only [aI]
  by_cases q:bS m.aG s < 0
  · simp [q]
  · rw [EE hsh (by omega)]
    by_cases q2:s∈eC m.aA
    · simp [q,q2]
    · by_cases q3:6 < nP m.aG s <;> simp [q,q2,q3]
def CA(m:Mem)(h:Int):Prop:=rN h∧lD m (h % 32)=3∧nP m.aG (h % 32)=h / 32
instance (m:Mem) (h:Int):Decidable (CA m h):=by unfold CA;infer_instance
omit hl hg ho hsh in
theorem KZ{m:Mem}{s:Int}(h:lD m s=3):0≤bS m.aG s:=by
  unfold lD at h
  split at h
  · omega
  · omega
theorem FB(h:Int):uK m h=some (decide (CA m h)):=by
  unfold uK qX
  rw [fE,fB]
  by_cases q:rN h
  · have hm:=q.mod
    rw [bL q,if_pos q]
    simp only [aI,if_true,aA7 hsh hl hg ho]
    by_cases q2:lD m (h % 32)=3
    · have n:(lD m (h % 32) == 3)=true:=by simpa using q2
      have eg:AB h=some (h / 32):=by
        unfold AB
        unfold rN at q
        rw [fE,bL (show rN h from q),ET (by omega),aU (by omega) (by omega)];rfl
      rw [n,xI hsh (KZ q2),eg]
      simp only [if_true,aI]
      congr 1;rw [Bool.eq_iff_iff];simp only [beq_iff_eq,decide_eq_true_eq]
      exact⟨fun a=>⟨q,q2,a⟩,fun a=>a.2.2⟩
    · have n:(lD m (h % 32) == 3)=false:=by simpa using q2
      rw [n,bH (fun a:CA m h=>q2 a.2.1)];rfl
  · rw [bH q,bH (fun a:CA m h=>q a.1)];rfl
theorem I9(h:Int):zY m h=some (decide (CA m h)):=by
  unfold zY tI
  rw [iE]
  by_cases q:rN h
  · have hm:=q.mod
    rw [bL q,hm.1]
    simp only [aI,if_true,aA8 hsh hl hg ho]
    by_cases q2:lD m (h % 32)=3
    · have n:(lD m (h % 32) == 3)=true:=by simpa using q2
      have eg:aE (Int.tdiv h 32)=h / 32:=by
        unfold rN at q
        rw [ET (by omega),aU (by omega) (by omega)]
      rw [n,EE hsh (KZ q2),eg]
      simp only [if_true,aI]
      congr 1;rw [Bool.eq_iff_iff];simp only [beq_iff_eq,decide_eq_true_eq]
      exact⟨fun a=>⟨q,q2,a⟩,fun a=>a.2.2⟩
    · have n:(lD m (h % 32) == 3)=false:=by simpa using q2
      rw [n,bH (fun a:CA m h=>q2 a.2.1)];rfl
  · rw [bH q,bH (fun a:CA m h=>q a.1)];rfl
end
def vN(b:aD)(r:bM):Prop:=CA b.Mem r.Handle∧r.aM≤b.aJ.aM
instance (b:aD) (r:bM):Decidable (vN b r):=by unfold vN;infer_instance
def uA(b:aD):Prop:=(yX b.Mem∧U4 b.aJ∧sM b.aX∧OY b.jQ)∧∀r∈bP b.aX,vN b r
instance (b:aD):Decidable (uA b):=by unfold uA;infer_instance
def JA(b:aD):Prop:=zL b.Mem∧b.aJ.bD.length≤1048576∧b.aX.length≤1048576∧(bP b.aX).length≤1048576∧b.jQ.length≤1048576
theorem JA.rows{b:aD}(h:JA b):∀s∈b.aX,s.Rows.length≤1048576:=fun s hs=>by
  have:=NM hs;have:=h.2.2.2.1;omega
noncomputable section
variable {b:aD} (hf:b.Mem.aG.Bytes.length≤maxLen∧(eC b.Mem.aA).length≤1073741824∧b.aJ.bD.length≤maxLen∧b.aX.length≤maxLen∧(bP b.aX).length≤1073741824∧b.jQ.length≤maxLen)
include hf
theorem aFB:J1 b=some (decide (uA b)):=by
  obtain⟨f1,f2,f3,f4,f5,f6⟩:=hf
  unfold J1 oO
  rw [TY f1 f2,rL,aA6 f5 f4,LS f6]
  by_cases q1:yX b.Mem
  · by_cases q2:U4 b.aJ
    · by_cases q3:sM b.aX
      · by_cases q4:OY b.jQ
        · have hg:b.Mem.aA.Global.length≤maxLen:=by rw [q1.1.2.1];simp [maxLen]
          have ho:b.Mem.aA.bQ.length≤maxLen:=by rw [q1.1.2.2.1];simp [maxLen]
          have hmx:(1073741824:Nat)≤maxLen:=by simp [maxLen]
          simp only [bL q1,bL q2,bL q3,bL q4,aI,eD,a9,if_false]
          rw [I7 f5 f4]
          simp only [aI]
          have hst:∀k (hk:k < (bP b.aX).length),sY b (bP b.aX) (k:Int)=if vN b (bP b.aX)[k] then some (.next ((k+1:Nat):Int)) else some (.stop (Out.ret false)):=by
            intro k hk
            simp only [sY,AD]
            rw [if_pos (by simp;omega),aQ hk,cX (show k < maxLen by omega)]
            generalize (bP b.aX)[k]=r
            simp only [aI,FB q1.1.1.1 f2 hg ho]
            by_cases a1:CA b.Mem r.Handle
            · rw [bL a1]
              simp only [eD,a9,if_false]
              by_cases a2:r.aM≤b.aJ.aM
              · rw [if_neg (by simp;omega),if_pos ⟨a1,a2⟩]
              · rw [if_pos (by simp;omega),if_neg (fun x=>a2 x.2)]
            · rw [bH a1]
              simp only [lJ,if_true]
              rw [if_neg (fun x=>a1 x.1)]
          have key:=iD (f:=sY b (bP b.aX)) (bP b.aX) (fun k=>(k:Int)) (vN b) (Out.brk ()) (Out.ret false) (fun k hk hx=>by rw [hst k hk,if_pos hx]) (fun k hk hx=>by rw [hst k hk,if_neg hx]) (by simp [sY])
          rw [show((0:Nat):Int)=0 from rfl] at key
          rw [key]
          by_cases q:∀r∈bP b.aX,vN b r
          · rw [if_pos q,bL (show uA b from ⟨⟨q1,q2,q3,q4⟩,q⟩)];rfl
          · rw [if_neg q,bH (fun x:uA b=>q x.2)];rfl
        · rw [bH (fun x:uA b=>q4 x.1.2.2.2),bL q1,bL q2,bL q3,bH q4];rfl
      · rw [bH (fun x:uA b=>q3 x.1.2.2.1),bL q1,bL q2,bH q3];rfl
    · rw [bH (fun x:uA b=>q2 x.1.2.1),bL q1,bH q2];rfl
  · rw [bH (fun x:uA b=>q1 x.1.1),bH q1];rfl
theorem aFC:KJ b=some (decide (uA b)):=by
  obtain⟨f1,f2,f3,f4,f5,f6⟩:=hf
  unfold KJ o6
  rw [TZ f1 f2,rM f3,yY f5,LU f6]
  by_cases q1:yX b.Mem
  · by_cases q2:U4 b.aJ
    · by_cases q3:sM b.aX
      · by_cases q4:OY b.jQ
        · have hg:b.Mem.aA.Global.length≤maxLen:=by rw [q1.1.2.1];simp [maxLen]
          have ho:b.Mem.aA.bQ.length≤maxLen:=by rw [q1.1.2.2.1];simp [maxLen]
          have hmx:(1073741824:Nat)≤maxLen:=by simp [maxLen]
          simp only [bL q1,bL q2,bL q3,bL q4,aI,eD,a9,if_false]
          have e1:(fun y0=>yD y0 b)=fun r:bM=>some (!decide (vN b r)):=by
            funext r
            unfold yD qC
            rw [I9 q1.1.1.1 f2 hg ho]
            by_cases a1:CA b.Mem r.Handle
            · by_cases a2:r.aM≤b.aJ.aM
              · rw [bL a1,bL (show vN b r from ⟨a1,a2⟩),bH (show ¬b.aJ.aM < r.aM by omega)];rfl
              · rw [bL a1,bH (fun x:vN b r=>a2 x.2),bL (show b.aJ.aM < r.aM by omega)];rfl
            · rw [bH a1,bH (fun x:vN b r=>a1 x.1)];rfl
          have e2:∀l∈b.aX,(fun y0=>DS y0 b) l=some (!decide (∀r∈l.Rows,vN b r)):=fun l hl=>by
            have:=NM hl
            simp only [DS]
            rw [e1,T0 (by omega),ED];rfl
          rw [R0 f4 _ _ e2,ED]
          have hiff:uA b↔∀l∈b.aX,∀r∈l.Rows,vN b r:=by
            constructor
            · intro x l hl r hr
              exact x.2 r (List.mem_flatMap.2 ⟨l,hl,hr⟩)
            · intro x
              refine⟨⟨q1,q2,q3,q4⟩,fun r hr=>?_⟩
              obtain⟨l,hl,hr⟩:=List.mem_flatMap.1 hr
              exact x l hl r hr
          simp only [aI,Bool.not_not,hiff]
        · rw [bH (fun x:uA b=>q4 x.1.2.2.2),bL q1,bL q2,bL q3,bH q4];rfl
      · rw [bH (fun x:uA b=>q3 x.1.2.2.1),bL q1,bL q2,bH q3];rfl
    · rw [bH (fun x:uA b=>q2 x.1.2.1),bL q1,bH q2];rfl
  · rw [bH (fun x:uA b=>q1 x.1.1),bH q1];rfl
end
end Go.Gv
end
noncomputable section
namespace Go.Gv
theorem R3{α:Type}{f:(List α×Int)→Option (Step (List α×Int) (List α))}(l:List α)
    (h:∀k (hk:k < l.length),f (l.take k,(k:Int))=some (.next (l.take k ++ [l[k]],((k+1:Nat):Int)))) (he:f (l,(l.length:Int))=some (.stop l)):loop f ([],0)=some l:=by
  have:=gA (f:=f) l.length (fun k=>(l.take k,(k:Int))) l (fun k hk=>by rw [h k hk,List.take_succ_eq_append_getElem hk]) (by rw [List.take_length];exact he)
  simpa using this
theorem aH9{α:Type}{f:(Int×List α)→Option (Step (Int×List α) (List α))}(l:List α)
    (h:∀k (hk:k < l.length),f ((k:Int),l.take k)=some (.next (((k+1:Nat):Int),l.take k ++ [l[k]]))) (he:f ((l.length:Int),l)=some (.stop l)):loop f (0,[])=some l:=by
  have:=gA (f:=f) l.length (fun k=>((k:Int),l.take k)) l (fun k hk=>by rw [h k hk,List.take_succ_eq_append_getElem hk]) (by rw [List.take_length];exact he)
  simpa using this
theorem C5{l:List Int}(h:l.length≤1073741824):lE l=some l:=by
  unfold lE;rw [aP (by simpa using h)];rfl
theorem nK{l:List Int}(h:l.length≤1073741824):eT l=some l:=by
  unfold eT;rw [aP (by simpa using h)];rfl
theorem aJ9{l:List fO}(h:l.length≤1073741824):uU l=some l:=by
  unfold uU;rw [aP (by simpa using h)];rfl
theorem aHF{l:List bM}(h:l.length≤1073741824):sG l=some l:=by
  unfold sG;rw [aP (by simpa using h)];rfl
theorem aIA{l:List aH}(hl:l.length≤1048576)(hs:∀s∈l,s.aL.length≤1048576):EJ l=some l:=by
  unfold EJ
  rw [R3 l]
  · rfl
  · intro k hk
    have:=hs _ (List.getElem_mem hk)
    simp only [H4]
    rw [if_pos (by simp;omega),aQ hk]
    simp only [aI]
    rw [C5 (by omega),aI,aP (by simp;omega),aU (by omega) (by omega)];rfl
  · simp [H4]
theorem aHG{l:aA}(h1:l.Global.length≤1048576)(h2:l.bQ.length≤1048576)(h3:∀s∈l.Global,s.aL.length≤1048576)(h4:∀s∈l.bQ,s.aL.length≤1048576):J3 l=some l:=by
  unfold J3;rw [aIA h1 h3,aIA h2 h4];rfl
theorem LV{l:aA}(h1:l.Global.length≤1048576)(h2:l.bQ.length≤1048576)(h3:∀s∈l.Global,s.aL.length≤1048576)(h4:∀s∈l.bQ,s.aL.length≤1048576):gR l=some l:=by
  unfold gR
  rw [aH9 l.Global]
  · simp only [aI,KH,KG]
    rw [aH9 l.bQ]
    · rfl
    · intro k hk
      have:=h4 _ (List.getElem_mem hk)
      simp only [AT]
      rw [if_pos (by simp;omega),aQ hk]
      simp only [aI]
      rw [nK (by omega),aI,aP (by simp;omega),AS,aU (by omega) (by omega)];rfl
    · simp [AT]
  · intro k hk
    have:=h3 _ (List.getElem_mem hk)
    simp only [AV]
    rw [if_pos (by simp;omega),aQ hk]
    simp only [aI]
    rw [nK (by omega),aI,aP (by simp;omega),AU,aU (by omega) (by omega)];rfl
  · simp [AV]
theorem aKA{h:aG}(h1:h.Bytes.length≤1048576)(h2:h.Class.length≤1048576):J2 h=some h:=by
  unfold J2;rw [C5 (by omega),C5 (by omega)];rfl
theorem OZ{h:aG}(h1:h.Bytes.length≤1048576)(h2:h.Class.length≤1048576):rS h=some h:=by
  unfold rS;rw [nK (by omega),nK (by omega)];rfl
theorem Y4{m:Mem}(h:zL m):EK m=some m:=by
  have a:=aKA h.1 h.2.1
  have b:=aHG h.2.2.1 h.2.2.2.1 h.Y3.1 h.Y3.2
  unfold EK;rw [a,b];rfl
theorem Y5{m:Mem}(h:zL m):AW m=some m:=by
  have a:=OZ h.1 h.2.1
  have b:=LV h.2.2.1 h.2.2.2.1 h.Y3.1 h.Y3.2
  unfold AW;rw [a,b];rfl
theorem xM{c:aJ}(h:c.bD.length≤1048576):m8 c=some c:=by
  unfold m8;rw [aP (by simp;omega)];rfl
theorem xN{c:aJ}(h:c.bD.length≤1048576):jM c=some c:=by
  unfold jM;rw [aJ9 (by omega)];rfl
theorem aHH{l:List aO}(hl:l.length≤1048576)(hs:∀s∈l,s.Rows.length≤1048576):F5 l=some l:=by
  unfold F5
  rw [R3 l]
  · rfl
  · intro k hk
    have:=hs _ (List.getElem_mem hk)
    simp only [EZ]
    rw [if_pos (by simp;omega),aQ hk]
    simp only [aI]
    rw [aP (by simp;omega),aP (by simp;omega),aU (by omega) (by omega)];rfl
  · simp [EZ]
theorem LW{l:List aO}(hl:l.length≤1048576)(hs:∀s∈l,s.Rows.length≤1048576):jN l=some l:=by
  unfold jN
  rw [R3 l]
  · rfl
  · intro k hk
    have:=hs _ (List.getElem_mem hk)
    simp only [AX]
    rw [if_pos (by simp;omega),aQ hk]
    simp only [aI]
    rw [aHF (by omega),aI,aP (by simp;omega),aU (by omega) (by omega)];rfl
  · simp [AX]
theorem aKB{b:aD}(h:JA b):F6 b=some b:=by
  have m:=Y4 h.1
  have c:=xM h.2.1
  have l:=aHH h.2.2.1 h.rows
  have:=h.2.2.2.2
  unfold F6;rw [m,c,l,C5 (by omega)];rfl
theorem aKC{b:aD}(h:JA b):DM b=some b:=by
  have m:=Y5 h.1
  have c:=xN h.2.1
  have l:=LW h.2.2.1 h.rows
  have:=h.2.2.2.2
  unfold DM;rw [m,c,l,nK (by omega)];rfl
end Go.Gv
end
noncomputable section
namespace Go.Gv
theorem lI(w:Int):fD w=some (decide (0≤w∧w≤2)):=by
  unfold fD;rw [dO];rfl
noncomputable section
variable {c:aJ} (hc:U4 c) {w:Int} (hw:0≤w∧w≤2)
include hc
theorem U4.small:c.bD.length≤1048576∧c.bD.length≤maxLen:=by
  have:=hc.2.1;simp only [maxLen];omega
theorem U4.aKD{k:Nat}{p:fO}(hp:POk c.aM p):U4 ⟨c.aM,c.bD.set k p⟩:=⟨hc.1,by simpa using hc.2.1,fun q hq=>(List.mem_or_eq_of_mem_set hq).elim (hc.2.2 q) (fun e=>e ▸ hp)⟩
theorem U4.a1R(h:c.aM+1≤100000):U4 ⟨c.aM+1,c.bD⟩:=by
  have h1:=hc.1
  exact⟨⟨by simp only;omega,h⟩,hc.2.1,fun q hq=>by
    obtain⟨a,b,d⟩:=hc.2.2 q hq
    exact⟨⟨a.1,by simp only;omega⟩,b,d⟩⟩
include hw
theorem YF:∃p,idx c.bD w=some p∧POk c.aM p:=by
  have h3:=hc.2.1
  rw [r9 hw.1 (by omega)]
  exact⟨_,rfl,hc.2.2 _ (List.getElem_mem _)⟩
theorem aQE(e:Int):∃r,J4 c w e=some r∧KM c w e=some r∧U4 r.1∧r.1.aM=c.aM:=by
  obtain⟨p,hp,h1,⟨hs0,hs1⟩,h2⟩:=YF hc hw
  have h3:=hc.2.1
  unfold J4 KM
  rw [xM hc.small.1,xN hc.small.1,rL,rM hc.small.2,lI,cW,bL hc,bL hw]
  simp only [aI,eD,a9,if_false,AL,A9,hp]
  cases h4:p.On
  · exact⟨_,rfl,rfl,hc,rfl⟩
  · cases h5:p.eI
    · by_cases h6:p.aM=e
      · simp only [oP,o8,h6,beq_self_eq_true,if_true,eD,a9,if_false]
        exact⟨_,rfl,rfl,hc,rfl⟩
      · have h6':(p.aM == e)=false:=by simpa using h6
        simp only [oP,o8,h6',eD,a9,if_false,hp,aI]
        by_cases h7:p.Seen=2
        · simp only [h7,beq_self_eq_true,if_true,show ¬((2:Int) < 2) by omega,decide_false,a9,if_false]
          exact⟨_,rfl,rfl,hc.aKD ⟨h1,by simp,fun q=>by simp [h4] at q⟩,rfl⟩
        · have h7':(p.Seen == 2)=false:=by simpa using h7
          simp only [h7',show p.Seen < 2 by omega,decide_true,if_true,a9,if_false]
          have hw7:aE (p.Seen+1)=p.Seen+1:=aU (by omega) (by omega)
          exact⟨_,rfl,rfl,hc.aKD ⟨h1,by simp only [hw7];omega,fun q=>by simp [h4] at q⟩,rfl⟩
    · exact⟨_,rfl,rfl,hc,rfl⟩
theorem aT9(e:Int):∃r,N3 c w e=some r∧OC c w e=some r∧(U4 r.1∧r.1.aM=c.aM)∧(r.2=false→r.1=c):=by
  obtain⟨p,hp,hpk⟩:=YF hc hw
  have h3:=hc.2.1
  unfold N3 OC
  rw [xM hc.small.1,xN hc.small.1,rL,rM hc.small.2,lI,cW,cW,dO,bL hc,bL hw]
  simp only [aI,eD,a9,if_false,wK,wV,hp]
  by_cases h:0≤e∧e≤c.aM
  · simp only [bL h,eD,a9,if_false]
    exact⟨_,rfl,rfl,⟨hc.aKD ⟨h,by simp,fun q=>by cases q⟩,rfl⟩,fun q=>by cases q⟩
  · simp only [bH h,lJ,if_true]
    exact⟨_,rfl,rfl,⟨hc,rfl⟩,fun _=>rfl⟩
omit hw in
theorem aW4(e:Int):∃r,SK c e=some r∧SM c e=some r∧U4 r.1∧c.aM≤r.1.aM:=by
  have h3:=hc.2.1
  unfold SK SM
  rw [xM hc.small.1,xN hc.small.1,rL,rM hc.small.2,bL hc]
  simp only [aI,eD,a9,if_false,AM,BA]
  by_cases h:c.aM=e
  · subst h
    simp only [bne_self_eq_false,a9,if_false]
    by_cases h:c.aM=100000
    · simp only [h,beq_self_eq_true,if_true];exact⟨_,rfl,rfl,hc,by simp [h]⟩
    · have h':(c.aM == 100000)=false:=by simpa using h
      have hE:=hc.1
      have hw7:aE (c.aM+1)=c.aM+1:=aU (by omega) (by omega)
      simp only [h',a9,if_false,hw7];exact⟨_,rfl,rfl,hc.a1R (by omega),by simp only;omega⟩
  · have h':(c.aM != e)=true:=by simpa using h
    simp only [h',if_true];exact⟨_,rfl,rfl,hc,Int.le_refl _⟩
end
theorem aZY{b:aD}(hc:U4 b.aJ){w:Int}(hw:0≤w∧w≤2)(s:Sub) :
    ∃x y,J6 b w s=some (x,y)∧vF s b w=some (y,x)∧∃cl,x=⟨b.Mem,cl,b.aX,b.jQ⟩∧U4 cl∧b.aJ.aM≤cl.aM:=by
  obtain⟨r,e1,e2,h3,h4⟩:=aT9 hc hw s.E
  unfold J6 vF
  rw [e1,e2]
  simp only [b7,bC,vY,aI]
  by_cases p0:s.Pc=0
  · simp only [p0,beq_self_eq_true,if_true];exact⟨_,_,rfl,rfl,_,rfl,hc,by omega⟩
  · have p0':(s.Pc == 0)=false:=by simpa using p0
    simp only [p0',a9,if_false]
    by_cases p1:s.Pc=1
    · simp only [p1,beq_self_eq_true,if_true]
      cases h:r.2
      · rw [h4 h];exact⟨_,_,rfl,rfl,_,rfl,hc,by omega⟩
      · exact⟨_,_,rfl,rfl,_,rfl,h3.1,by rw [h3.2];exact Int.le_refl _⟩
    · have p1':(s.Pc == 1)=false:=by simpa using p1
      simp only [p1',a9,if_false]
      by_cases p2:s.Pc=2
      · simp only [p2,beq_self_eq_true,if_true]
        by_cases q:b.aJ.aM=s.E
        · simp only [q,beq_self_eq_true,if_true];exact⟨_,_,rfl,rfl,_,rfl,hc,by omega⟩
        · have q':(b.aJ.aM == s.E)=false:=by simpa using q
          simp only [q',a9,if_false];exact⟨_,_,rfl,rfl,_,rfl,hc,by omega⟩
      · have p2':(s.Pc == 2)=false:=by simpa using p2
        simp only [p2',a9,if_false];exact⟨_,_,rfl,rfl,_,rfl,hc,by omega⟩
theorem aNI{b:aD}(hc:U4 b.aJ)(s:Sub) :
    ∃x y,xU b s=some (x,y)∧nD s b=some (y,x)∧∃cl,x=⟨b.Mem,cl,b.aX,b.jQ⟩∧U4 cl∧b.aJ.aM≤cl.aM:=by
  obtain⟨r2,e3,e4,h4⟩:=aW4 hc s.E
  unfold xU nD j4
  rw [e3,e4,cW,lI]
  simp only [b7,bC,pW,pX,jZ,aI]
  by_cases p0:s.Pc=0
  · simp only [p0,beq_self_eq_true,if_true];exact⟨_,_,rfl,rfl,_,rfl,hc,by omega⟩
  · have p0':(s.Pc == 0)=false:=by simpa using p0
    simp only [p0',a9,if_false]
    by_cases p1:s.Pc=1
    · simp only [p1,beq_self_eq_true,if_true,show((1:Int) == 2)=false from rfl,a9,if_false]
      by_cases hB:0≤s.B∧s.B≤2
      · obtain⟨r,e1,e2,h3,h3'⟩:=aQE hc hB s.E
        simp only [bL hB,eD,a9,if_false,if_true,e1,e2,aI]
        cases h:r.2
        · exact⟨_,_,rfl,rfl,_,rfl,h3,by rw [h3'];exact Int.le_refl _⟩
        · by_cases q:aE (s.B+1)=3
          · simp only [q,beq_self_eq_true,if_true,eD,a9,if_false];exact⟨_,_,rfl,rfl,_,rfl,h3,by rw [h3'];exact Int.le_refl _⟩
          · have q':(aE (s.B+1) == 3)=false:=by simpa using q
            simp only [q',eD,a9,if_false];exact⟨_,_,rfl,rfl,_,rfl,h3,by rw [h3'];exact Int.le_refl _⟩
      · simp only [bH hB,lJ,a9,if_false,if_true]
        exact⟨_,_,rfl,rfl,_,rfl,hc,by omega⟩
    · have p1':(s.Pc == 1)=false:=by simpa using p1
      simp only [p1',a9,if_false]
      by_cases p2:s.Pc=2
      · simp only [p2,beq_self_eq_true,if_true]
        cases h:r2.2
        · simp only [a9,if_false];exact⟨_,_,rfl,rfl,_,rfl,h4⟩
        · simp only [if_true];exact⟨_,_,rfl,rfl,_,rfl,h4⟩
      · have p2':(s.Pc == 2)=false:=by simpa using p2
        simp only [p2',a9,if_false];exact⟨_,_,rfl,rfl,_,rfl,hc,by omega⟩
end Go.Gv
end
noncomputable section
namespace Go.Gv
theorem aNJ:∀(n:Nat) (l:List Int),l.Nodup→(∀x∈l,0≤x∧x < (n:Int))→l.length≤n
  | 0, l, _, h => by
    cases l with
    | nil=>simp
    | cons a t=>have:=h a (by simp);omega
  | n + 1, l, hn, h => by
    have ih:=aNJ n (l.erase (n:Int)) (hn.erase _) (fun x hx=>by
      have h1:=(hn.mem_erase_iff).1 hx
      have h2:=h x h1.2
      have:=h1.1
      omega)
    have:=List.length_erase (a:=(n:Int)) (l:=l)
    split at this <;> omega
theorem aKE(a b:List aO):bP (a++b)=bP a++bP b:=by simp [bP]
theorem aKF(a b:List aH):cV (a++b)=cV a++cV b:=by simp [cV]
theorem NN{l:List aO}{k:Nat}(hk:k < l.length)(x:aO):bP (l.set k x)=bP (l.take k)++(x.Rows++bP (l.drop (k+1))):=by
  rw [List.set_eq_take_append_cons_drop,if_pos hk,aKE];simp [bP]
theorem K0{l:List aO}{k:Nat}(hk:k < l.length):bP l=bP (l.take k)++(l[k].Rows++bP (l.drop (k+1))):=by
  conv=>lhs;rw [←List.set_getElem_self hk,NN hk]
theorem HP{l:List aH}{k:Nat}(hk:k < l.length)(x:aH):cV (l.set k x)=cV (l.take k)++(x.aL++cV (l.drop (k+1))):=by
  rw [List.set_eq_take_append_cons_drop,if_pos hk,aKF];simp [cV]
theorem EU{l:List aH}{k:Nat}(hk:k < l.length):cV l=cV (l.take k)++(l[k].aL++cV (l.drop (k+1))):=by
  conv=>lhs;rw [←List.set_getElem_self hk,HP hk]
def aL0(l:List aO)(s:Int):Prop:=∃r∈bP l,rN r.Handle∧r.Handle % 32=s
instance (l:List aO) (s:Int):Decidable (aL0 l s):=by unfold aL0;infer_instance
noncomputable section
variable {l:List aO} (hl:sM l)
include hl
theorem sM.small:(bP l).length≤1073741824∧l.length≤maxLen∧l.length≤1048576∧∀s∈l,s.Rows.length≤24:=by
  have:=hl.1;have h2:=hl.2.1
  refine⟨by omega,by simp only [maxLen];omega,by omega,fun s hs=>?_⟩
  have:=NM hs;omega
theorem aA9(s:Int):F9 l s=some (decide (aL0 l s)):=by
  have hm:=hl.small
  unfold F9
  rw [I7 hm.1 hm.2.1,aI]
  have key:=iD (f:=mV s (bP l)) (bP l) (fun k=>(k:Int)) (fun r=>¬(rN r.Handle∧r.Handle % 32=s)) (Out.brk ()) (Out.ret true)
    (fun k hk hp=>by
      have hk':=hl.2.1
      simp only [mV,qY]
      rw [if_pos (by simp;omega),aQ hk,cX (show k < maxLen by simp only [maxLen];omega)]
      simp only [aI,fE,fB]
      by_cases q:rN (bP l)[k].Handle
      · have:((bP l)[k].Handle % 32 == s)=false:=by simpa using fun a=>hp ⟨q,a⟩
        simp [q,this]
      · simp [q])
    (fun k hk hp=>by
      have hp:=Classical.not_not.1 hp
      simp only [mV,qY]
      rw [if_pos (by simp;omega),aQ hk]
      simp [fE,fB,hp.1,hp.2])
    (by simp [mV])
  have key':loop (mV s (bP l)) 0=_:=key
  rw [key']
  by_cases q:aL0 l s
  · rw [if_neg (fun a=>by obtain⟨r,hr,e⟩:=q;exact a r hr e),bL q];rfl
  · rw [if_pos (fun r hr e=>q ⟨r,hr,e⟩),bH q];rfl
theorem aBA(s:Int):GV l s=some (decide (aL0 l s)):=by
  have hm:=hl.small
  unfold GV
  have e1:∀(r:bM),o7 r s=some (decide (rN r.Handle∧r.Handle % 32=s)):=by
    intro r
    unfold o7 nY
    rw [iE]
    by_cases q:rN r.Handle
    · rw [q.mod.1];simp [q];rfl
    · simp [q]
  have e2:∀x∈l,A8 x s=some (x.Rows.any fun r=>decide (rN r.Handle∧r.Handle % 32=s)):=by
    intro x hx
    unfold A8
    have:x.Rows.length≤maxLen:=by have:=hm.2.2.2 x hx;simp only [maxLen];omega
    rw [show(fun y0=>o7 y0 s)=fun r=>some (decide (rN r.Handle∧r.Handle % 32=s)) from funext e1,T0 this];rfl
  rw [R0 hm.2.1 (fun x=>x.Rows.any fun r=>decide (rN r.Handle∧r.Handle % 32=s)) _ e2]
  simp only [aI]
  congr 1
  rw [Bool.eq_iff_iff,decide_eq_true_iff]
  simp only [List.any_eq_true,decide_eq_true_eq,aL0,bP,List.mem_flatMap]
  constructor
  · rintro⟨x,hx,r,hr,h⟩;exact⟨r,⟨x,hx,hr⟩,h⟩
  · rintro⟨r,⟨x,hx,hr⟩,h⟩;exact⟨x,hx,r,hr,h⟩
theorem sM.more{k:Nat}(hk:k < l.length){r:bM}(hr:xL r)(hn:¬aL0 l (r.Handle % 32)):sM (l.set k ⟨l[k].Rows ++ [r]⟩):=by
  have e:=NN hk (⟨l[k].Rows ++ [r]⟩:aO)
  have p:(bP (l.set k ⟨l[k].Rows ++ [r]⟩)).Perm (r :: bP l):=by
    rw [e,K0 hk]
    refine List.Perm.trans ?_ List.perm_middle
    simp only [List.append_assoc]
    exact List.Perm.append_left _ (by simp only [List.singleton_append];exact(List.perm_middle (l₁:=l[k].Rows) (l₂:=bP (l.drop (k+1))) (a:=r)))
  have h1:∀x∈bP (l.set k ⟨l[k].Rows ++ [r]⟩),xL x:=fun x hx=>by
    rcases List.mem_cons.1 (p.mem_iff.1 hx) with rfl | h
    · exact hr
    · exact hl.2.2.1 x h
  have h2:((bP (l.set k ⟨l[k].Rows ++ [r]⟩)).map mB).Nodup:=by
    refine(List.Perm.nodup_iff (p.map mB)).2 ?_
    rw [List.map_cons,List.nodup_cons]
    refine⟨fun h=>hn ?_,hl.2.2.2⟩
    obtain⟨x,hx,e⟩:=List.mem_map.1 h
    exact⟨x,hx,(hl.2.2.1 x hx).1,e⟩
  refine⟨by simpa using hl.1,?_,h1,h2⟩
  have:=aNJ 24 _ h2 (fun x hx=>by
    obtain⟨y,hy,rfl⟩:=List.mem_map.1 hx
    have:=(h1 y hy).1.mod
    unfold mB;omega)
  simpa using this
end
theorem aQF{b:aD}(hb:uA b)(hs:JA b){w:Int}(hw:0≤w∧w≤2)(s:Sub) :
    ∃x y,AK b w s=some (x,y)∧nZ s b w=some (y,x)∧∃L,x=⟨b.Mem,b.aJ,L,b.jQ⟩∧sM L∧∀r∈bP L,vN b r:=by
  have hL:=hb.1.2.2.1
  have hm:=hb.1.1
  have hlen:w.toNat < b.aX.length:=by have:=hL.1;omega
  have hx:idx b.aX w=some b.aX[w.toNat]:=r9 hw.1 (by omega)
  have hg:b.Mem.aA.Global.length≤maxLen:=by rw [hm.1.2.1];simp [maxLen]
  have ho:b.Mem.aA.bQ.length≤maxLen:=by rw [hm.1.2.2.1];simp [maxLen]
  have hall:(eC b.Mem.aA).length≤1073741824:=by have:=hs.1.2.2.2.2;omega
  have hrow:=hL.small.2.2.2 _ (List.getElem_mem hlen)
  have he:=hb.1.2.1.1
  unfold AK nZ lC
  rw [cW,dO,FB hm.1.1.1 hall hg ho,I9 hm.1.1.1 hall hg ho,fB]
  simp only [b7,bC,aI,sE,AJ,lB]
  by_cases p0:s.Pc=0
  · simp only [p0,beq_self_eq_true,if_true];exact⟨_,_,rfl,rfl,_,rfl,hL,hb.2⟩
  · have p0' : (s.Pc == 0) = false := by simpa using p0
    simp only [p0',a9,if_false]
    by_cases p1:s.Pc=1
    · simp only [p1,beq_self_eq_true,bne_self_eq_false,a9,if_false,if_true]
      by_cases q1:0≤s.E∧s.E≤b.aJ.aM
      · simp only [bL q1,eD,a9,if_false]
        by_cases q2:CA b.Mem s.A
        · have hh:=q2.1
          simp only [bL q2,eD,a9,if_false,if_pos hh,hh.mod.1,aA9 hL,aBA hL,aI]
          by_cases q3:aL0 b.aX (s.A % 32)
          · simp only [bL q3,if_true];exact⟨_,_,rfl,rfl,_,rfl,hL,hb.2⟩
          · have hmore:=hL.more hlen (r:=⟨s.A,s.E⟩) ⟨hh,q1.1,by simp only;omega⟩ q3
            have e:DZ b.aX w s.A s.E=some (b.aX.set w.toNat ⟨b.aX[w.toNat].Rows ++ [⟨s.A,s.E⟩]⟩,true):=by
              unfold DZ vC
              rw [yY hL.small.1,lI,LW hL.small.2.2.1 (fun s h=>by have:=hL.small.2.2.2 s h;omega)]
              simp only [bL hL,bL hw,aI,eD,a9,if_false,hx]
              rw [aP (by simp;omega),yY hmore.small.1,bL hmore];rfl
            simp only [bH q3,a9,if_false,hx,e,aI]
            rw [aP (by simp;omega)]
            refine⟨_,_,rfl,rfl,_,rfl,hmore,fun r hr=>?_⟩
            rw [NN hlen] at hr
            have hsp:=K0 hlen
            rcases List.mem_append.1 hr with h | h
            · exact hb.2 r (by rw [hsp];exact List.mem_append_left _ h)
            · rcases List.mem_append.1 h with h | h
              · rcases List.mem_append.1 h with h | h
                · exact hb.2 r (by rw [hsp];exact List.mem_append_right _ (List.mem_append_left _ h))
                · simp at h;subst h;exact⟨q2,q1.2⟩
              · exact hb.2 r (by rw [hsp];exact List.mem_append_right _ (List.mem_append_right _ h))
        · simp only [bH q2,lJ,if_true];exact⟨_,_,rfl,rfl,_,rfl,hL,hb.2⟩
      · simp only [bH q1,lJ,if_true];exact⟨_,_,rfl,rfl,_,rfl,hL,hb.2⟩
    · have p1':(s.Pc == 1)=false:=by simpa using p1
      have p1'':(s.Pc != 1)=true:=by simpa using p1
      simp only [p1',p1'',a9,if_false,if_true];exact⟨_,_,rfl,rfl,_,rfl,hL,hb.2⟩
end Go.Gv
end
noncomputable section
namespace Go.Gv
def st4(b:List Int)(a:Nat)(n:Int):List Int:=(((b.set a 0).set (a+1) 0).set (a+2) 0).set (a+3) n
theorem EF(b:List Int)(a:Nat)(n:Int):(st4 b a n).length=b.length:=by simp [st4]
theorem aL1{b:List Int}(h:sL b)(a:Nat){n:Int}(hn:0≤n∧n≤255):sL (st4 b a n):=by
  have key:∀{l:List Int} (i:Nat) (v:Int),sL l→0≤v∧v≤255→sL (l.set i v):=fun i v hl hv x hx=>by
    rcases List.mem_or_eq_of_mem_set hx with h | rfl
    · exact hl x h
    · exact hv
  exact key _ _ (key _ _ (key _ _ (key _ _ h (by omega)) (by omega)) (by omega)) hn
theorem aUA{n:Int}(hn:0≤n∧n≤255):((u8 n).toNat:Int)=n:=by
  obtain⟨m,rfl⟩:=Int.eq_ofNat_of_zero_le hn.1
  unfold u8
  rw [UInt8.toNat_ofNat'];omega
theorem WK{l:List Int}(i:Nat){v:Int}(hl:sL l)(hv:0≤v∧v≤255):sL (l.set i v):=fun x hx=>by
  rcases List.mem_or_eq_of_mem_set hx with h | rfl
  · exact hl x h
  · exact hv
def LX(b:List Int)(a:Nat)(n:Int):List Int:=(((b.set a (n / 16777216)).set (a+1) (n / 65536 % 256)).set (a+2) (n / 256 % 256)).set (a+3) (n % 256)
theorem WL(b:List Int)(a:Nat)(n:Int):(LX b a n).length=b.length:=by simp [LX]
theorem aQG{b:List Int}(h:sL b)(a:Nat){n:Int}(hn:0≤n∧n≤4294967295):sL (LX b a n):=by
  unfold LX
  exact WK _ (WK _ (WK _ (WK _ h (by omega)) (by omega)) (by omega)) (by omega)
theorem aQH(b:List Int)(a:Nat)(x y z u:Int):(((b.set (a+3) u).set (a+2) z).set (a+1) y).set a x=(((b.set a x).set (a+1) y).set (a+2) z).set (a+3) u:=by
  refine List.ext_getElem (by simp) fun j h1 h2=>?_
  simp only [List.getElem_set]
  by_cases j0:a=j
  · subst j0;simp
  · by_cases j1:a+1=j
    · subst j1;simp
    · by_cases j2:a+2=j
      · subst j2;simp
      · by_cases j3:a+3=j
        · subst j3;simp
        · simp [j0,j1,j2,j3]
theorem aIC{b:List Int}{a:Nat}(h:a+4≤b.length)(hl:b.length≤100000){n:Int}(hn:0≤n∧n≤4294967295):pV b (a:Int) 4 n=some (LX b a n):=by
  have st:∀(c:List Int) (m:Int) (i:Nat),c.length=b.length→0≤m→m≤4294967295→i < 4→xS (a:Int) (c,m,(i:Int))=some (.next (c.set (a+i) (m % 256),m / 256,(i:Int) - 1)):=fun c m i hc h0 h1 hi=>by
    simp only [xS]
    rw [if_pos (by simp),aU (x:=(a:Int)+i) (by omega) (by omega),show(a:Int)+i=((a+i:Nat):Int) by omega,aQ (by omega),aI,B5 h0,ET h0,aU (x:=m / 256) (by omega) (by omega),aU (x:=(i:Int) - 1) (by omega) (by omega),Int.toNat_natCast]
  unfold pV
  rw [show aE (4 - 1)=((3:Nat):Int) from by rw [aU (by omega) (by omega)];rfl]
  rw [cH (st b n 3 rfl hn.1 hn.2 (by omega)),show((3:Nat):Int) - 1=((2:Nat):Int) by rfl,
    cH (st _ _ 2 (by simp) (by omega) (by omega) (by omega)),show((2:Nat):Int) - 1=((1:Nat):Int) by rfl,
    cH (st _ _ 1 (by simp) (by omega) (by omega) (by omega)),show((1:Nat):Int) - 1=((0:Nat):Int) by rfl,
    cH (st _ _ 0 (by simp) (by omega) (by omega) (by omega)),bZ (r:=LX b a n)]
  · rfl
  · simp only [xS]
    rw [if_neg (by simp)]
    have e1:n / 256 / 256=n / 65536:=by omega
    have e2:n / 256 / 256 / 256=n / 16777216:=by omega
    have e3:n / 16777216 % 256=n / 16777216:=by omega
    rw [e1,show n / 65536 / 256=n / 16777216 by omega,e3]
    unfold LX
    simp only [Nat.add_zero]
    rw [aQH]
def T1(n:Int):List UInt8:=[u8 (n / 16777216),u8 (n / 65536),u8 (n / 256),u8 n]
theorem aFD{n:Int}(hn:0≤n∧n≤4294967295):zF n 4=some (T1 n):=by
  have hw:jG 4=some true:=by unfold jG;rw [dO];rfl
  unfold zF
  rw [hw]
  have e1:IntKind.u64.wrap (aE (8 * 4))=32:=by decide
  have e2:aHO .i64 1 32=4294967296:=by decide
  simp only [aI,eD,a9,if_false,e1,e2]
  rw [if_neg (by simp;omega),aP (by omega),bH (by omega)]
  simp only [wT,a9,if_false]
  rw [aP (by omega),show aE (4 - 1)=((3:Nat):Int) from by rw [aU (by omega) (by omega)];rfl]
  have st:∀(m:Int) (c:List UInt8) (i:Nat),i < c.length→i < 4→0≤m→DW (m,c,(i:Int))=some (.next (m / 256,c.set i (u8 m),(i:Int) - 1)):=fun m c i hc hi h0=>by
    simp only [DW]
    rw [if_pos (by simp),aQ hc,aI,show(8:Int)=((8:Nat):Int) from rfl,aW2 h0 (by omega),aU (by omega) (by omega),Int.toNat_natCast];rfl
  rw [cH (st n _ 3 (by simp) (by omega) hn.1),show((3:Nat):Int) - 1=((2:Nat):Int) by rfl,
    cH (st _ _ 2 (by simp) (by omega) (by omega)),show((2:Nat):Int) - 1=((1:Nat):Int) by rfl,
    cH (st _ _ 1 (by simp) (by omega) (by omega)),show((1:Nat):Int) - 1=((0:Nat):Int) by rfl,
    cH (st _ _ 0 (by simp) (by omega) (by omega)),bZ (r:=T1 n)]
  · rfl
  · simp only [DW]
    rw [if_neg (by simp)]
    have e1:n / 256 / 256=n / 65536:=by omega
    rw [e1,show n / 65536 / 256=n / 16777216 by omega]
    rfl
theorem aKG{n:Int}(hn:0≤n):((u8 n).toNat:Int)=n % 256:=by
  have:u8 n=u8 (n % 256):=by
    unfold u8
    congr 1
    omega
  rw [this,aUA (by omega)]
theorem aFE{b:List Int}{a:Nat}(h:a+4≤b.length)(hl:b.length≤100000){n:Int}(hn:0≤n∧n≤4294967295):tL b (a:Int) (T1 n)=some (LX b a n):=by
  have st:∀(c:List Int) (i:Nat) (v:UInt8),c.length=b.length→i < 4→idx (T1 n) (i:Int)=some v→A6 b (a:Int) (T1 n) (c,(i:Int))=some (.next (c.set (a+i) (v.toNat:Int),((i+1:Nat):Int))):=fun c i v hc hi hv=>by
    simp only [A6]
    rw [aP hc,if_pos (by simp [T1];omega),hv,aI,aU (x:=(a:Int)+i) (by omega) (by omega),show(a:Int)+i=((a+i:Nat):Int) by omega,aQ (by omega),aI,aU (by omega) (by omega),Int.toNat_natCast];rfl
  unfold tL
  rw [show(0:Int)=((0:Nat):Int) from rfl,cH (st b 0 _ rfl (by omega) rfl),cH (st _ 1 _ (by simp) (by omega) rfl),cH (st _ 2 _ (by simp) (by omega) rfl),cH (st _ 3 _ (by simp) (by omega) rfl),bZ (r:=LX b a n)]
  · simp only [aI,Q8,Q7]
    rw [aP (WL b a n)]
  · simp only [A6]
    rw [aP (by simp),if_neg (by simp [T1])]
    simp only [aKG hn.1,aKG (show 0≤n / 16777216 by omega),aKG (show 0≤n / 65536 by omega),aKG (show 0≤n / 256 by omega)]
    rw [show n / 16777216 % 256=n / 16777216 by omega]
    rfl
theorem aUB{b:List Int}{a:Nat}{n:Int}(hn:0≤n∧n≤255):LX b a n=st4 b a n:=by
  unfold LX st4
  rw [show n / 16777216=0 by omega,show n / 65536 % 256=0 by omega,show n / 256 % 256=0 by omega,show n % 256=n by omega]
theorem P5{b:List Int}{a:Nat}(h:a+4≤b.length)(hl:b.length≤100000){n:Int}(hn:0≤n∧n≤255):pV b (a:Int) 4 n=some (st4 b a n):=by
  rw [aIC h hl ⟨hn.1,by omega⟩,aUB hn]
theorem a1S{n:Int}(hn:0≤n∧n≤255):T1 n=[0,0,0,u8 n]:=by
  unfold T1
  rw [show n / 16777216=0 by omega,show n / 65536=0 by omega,show n / 256=0 by omega];rfl
theorem T2{n:Int}(hn:0≤n∧n≤255):zF n 4=some [0,0,0,u8 n]:=by
  rw [aFD ⟨hn.1,by omega⟩,a1S hn]
theorem R4{b:List Int}{a:Nat}(h:a+4≤b.length)(hl:b.length≤100000){n:Int}(hn:0≤n∧n≤255):tL b (a:Int) [0,0,0,u8 n]=some (st4 b a n):=by
  rw [←a1S hn,aFE h hl ⟨hn.1,by omega⟩,aUB hn]
end Go.Gv
end
noncomputable section
namespace Go.Gv
theorem aYF{x y z:Int}:∀(a:Nat) (l:List Int),a+3≤l.length→cT l a [x,y,z]=((l.set a x).set (a+1) y).set (a+2) z
  | 0, l, h => by
    match l,h with
    | _ :: _ :: _ :: t,_=>simp [cT]
  | a + 1, l, h => by
    match l,h with
    | u :: t, h =>
      have ih:=aYF (x:=x) (y:=y) (z:=z) a t (by simp at h;omega)
      simp only [List.set_cons_succ,←ih]
      simp [cT,Nat.add_right_comm]
def aUC(p k:Nat)(c:Int):Nat:=(gH ((p:Int) * 4+k) c).toNat
def gB(b:List Int)(p:Nat)(c:Int):Nat→List Int
  | 0=>((b.set (p * 64) 171).set (p * 64+1) c).set (p * 64+2) (cP c)
  | k+1=>st4 (gB b p c k) (aUC p k c) 1
theorem LY(b:List Int)(p:Nat)(c:Int):∀k,(gB b p c k).length=b.length
  | 0=>by simp [gB]
  | k+1=>by rw [gB,EF,LY b p c k]
theorem aFF{l:List Int}(i:Nat){v:Int}(hl:sL l)(hv:0≤v∧v≤255):sL (l.set i v):=fun x hx=>by
  rcases List.mem_or_eq_of_mem_set hx with h | rfl
  · exact hl x h
  · exact hv
theorem aKH{b:List Int}(hb:sL b)(p:Nat){c:Int}(hc:0≤c∧c≤2):∀k,sL (gB b p c k)
  | 0 => by
    have:=nI c
    exact aFF _ (aFF _ (aFF _ hb (by omega)) (by omega)) (by omega)
  | k+1=>aL1 (aKH hb p hc k) _ (by omega)
def gS(p:Nat)(n:Nat):List Int:=(List.range n).map fun(i:Nat)=>(p:Int) * 4+(i:Int)
theorem aFG(p n:Nat):(gS p n).length=n:=by simp [gS]
theorem aPL(p n:Nat):gS p (n+1)=gS p n ++ [(p:Int) * 4+(n:Int)]:=by simp [gS,List.range_succ]
theorem aKI{p k:Nat}{c:Int}(hp:p < 6)(hk:(k:Int) < cP c):gH ((p:Int) * 4+k) c=(aUC p k c:Int)∧aUC p k c+4≤384:=by
  have h4:=nI c
  have hm:=I2 (c:=c) (i:=(k:Int)) (by omega) hk
  have hst:4≤aY c:=by
    have:0≤c∧c≤2:=nJ.1 (by omega)
    rcases gQ this with e | e | e <;> rw [e] <;> decide
  have e:gH ((p:Int) * 4+k) c=(p:Int) * 64+8+(k:Int) * aY c:=by
    unfold gH
    rw [if_pos ⟨by omega,by omega⟩,show((p:Int) * 4+k) / 4=p by omega,show((p:Int) * 4+k) % 4=k by omega]
  unfold aUC
  rw [e];omega
theorem aID{p k:Nat}(hp:p < 6)(hk:k < 4):pQ (p:Int) (k:Int)=some ((p:Int) * 4+k)∧KL (p:Int) (k:Int)=some ((p:Int) * 4+k):=by
  have a:0≤(p:Int)∧(p:Int)≤5:=by omega
  have b:0≤(k:Int)∧(k:Int)≤3:=by omega
  have e1:aE ((p:Int) * 4)=(p:Int) * 4:=aU (by omega) (by omega)
  have e2:aE ((p:Int) * 4+k)=(p:Int) * 4+k:=aU (by omega) (by omega)
  constructor
  · unfold pQ sS;rw [cW,cW,bL a,bL b,e1,e2];rfl
  · unfold KL A7;rw [dO,dO,bL a,bL b,e1,e2];rfl
noncomputable section
variable {b:List Int} (hb:b.length=384) {p:Nat} (hp:p < 6) {c:Int} (hc:0≤c∧c≤2)
include hb hp hc
theorem aNK:loop (xT c (p:Int)) ([],0,gB b p c 0)=some (gS p (cP c).toNat,gB b p c (cP c).toNat):=by
  have h4:=nI c
  refine gA (cP c).toNat (fun k=>(gS p k,(k:Int),gB b p c k)) _ (fun k hk=>?_) ?_
  · have ho:=aKI (c:=c) hp (k:=k) (by omega)
    simp only [xT,E2,hC,aI]
    rw [if_pos (by simp;omega),(aID hp (by omega)).1]
    simp only [aI,xG,ho.1]
    rw [P5 (by rw [LY];omega) (by rw [LY];omega) (by omega)]
    simp only [aI]
    rw [aP (by rw [aFG];simp;omega),aU (by omega) (by omega),aPL];rfl
  · simp only [xT,hC,aI]
    rw [if_neg (by simp;omega)]
theorem aNL:loop (DX c (p:Int) (cP c)) ([],0,gB b p c 0)=some (gS p (cP c).toNat,gB b p c (cP c).toNat):=by
  have h4:=nI c
  refine gA (cP c).toNat (fun k=>(gS p k,(k:Int),gB b p c k)) _ (fun k hk=>?_) ?_
  · have ho:=aKI (c:=c) hp (k:=k) (by omega)
    simp only [DX,LB]
    rw [if_pos (by simp;omega),(aID hp (by omega)).2]
    simp only [aI,xH,ho.1]
    rw [T2 (by omega),aI,R4 (by rw [LY];omega) (by rw [LY];omega) (by omega)]
    simp only [aI]
    rw [aP (by rw [aFG];simp;omega),aU (by omega) (by omega),aPL];rfl
  · simp only [DX]
    rw [if_neg (by simp;omega)]
end
theorem aUD{h:aG}(hh:YE h){c:Int}(hc:0≤c∧c≤2) :
    (uP h c=some (h,[])∧C2 h c=some (h,[])) ∨
    ∃p,p < 6∧bY h p < 0∧uP h c=some (⟨gB h.Bytes p c (cP c).toNat,h.Class.set p c⟩,gS p (cP c).toNat)∧C2 h c=some (⟨gB h.Bytes p c (cP c).toNat,h.Class.set p c⟩,gS p (cP c).toNat):=by
  have hs:=hh.1
  have h6:=hs.2.1
  have h384:=hs.1
  have hp4:=nI c
  have hcp:=OZ (h:=h) (by omega) (by omega)
  have hne:∀j (hj:j < 6),j < h.Class.findIdx (fun x=>decide (x = -1))→h.Class[j]≠-1:=fun j hj hlt=>by
    have:=List.not_of_lt_findIdx hlt
    simpa using this
  generalize hq:h.Class.findIdx (fun x=>decide (x = -1))=q at hne
  have hq6:q≤6:=by rw [←hq,←h6];exact List.findIdx_le_length
  have s1:∀k (hk:k < q),kC h c (k:Int)=some (.next ((k+1:Nat):Int)):=fun k hk=>by
    have:=hne k (by omega) hk
    have n:(h.Class[k] != -1)=true:=by simpa using this
    simp only [kC,E1]
    rw [if_pos (by simp;omega),aQ (by omega),aI,n,if_pos rfl,aU (by omega) (by omega)];rfl
  have s2:∀k (hk:k < q),dY h.Class (-1) (k:Int)=some (.next ((k+1:Nat):Int)):=fun k hk=>by
    have:=hne k (by omega) hk
    have n:((-1:Int) == h.Class[k])=false:=by simpa using fun a=>this a.symm
    simp only [dY]
    rw [if_pos (by simp;omega),aQ (by omega),aI,n,aU (by omega) (by omega)];rfl
  have hm:h.Bytes.length≤maxLen:=by rw [h384];simp [maxLen]
  by_cases h5:q=6
  · left
    have a1:loop (kC h c) 0=some (Out.brk ()):=gA q (fun k=>(k:Int)) _ s1 (by simp only [kC];rw [if_neg (by simp;omega)])
    have a2:loop (dY h.Class (-1)) 0=some (Out.brk ()):=gA q (fun k=>(k:Int)) _ s2 (by simp only [dY];rw [if_neg (by simp;omega)])
    constructor
    · unfold uP;rw [a1];rfl
    · unfold C2 lR
      rw [a2,hcp,I5 hm,iV,bL hh,bL hc];rfl
  · right
    have hq5:q < 6:=by omega
    have he:h.Class[q] = -1:=by
      have:=List.findIdx_getElem (xs:=h.Class) (p:=fun x=>decide (x = -1)) (w:=by rw [hq];omega)
      simp only [hq,decide_eq_true_eq] at this
      exact this
    refine⟨q,hq5,by rw [←aPI hs hq5,he];omega,?_,?_⟩
    · have a1:loop (kC h c) 0=some (Out.ret (⟨gB h.Bytes q c (cP c).toNat,h.Class.set q c⟩,gS q (cP c).toNat)):=gA q (fun k=>(k:Int)) _ s1 (by
        have e0:aE ((q:Int) * 64)=((q * 64:Nat):Int):=by rw [aU (by omega) (by omega)];omega
        have e1:aE (((q * 64:Nat):Int)+1)=((q * 64+1:Nat):Int):=by rw [aU (by omega) (by omega)];omega
        have e2:aE (((q * 64:Nat):Int)+2)=((q * 64+2:Nat):Int):=by rw [aU (by omega) (by omega)];omega
        have n:(h.Class[q] != -1)=false:=by simpa using he
        simp only [kC,e0,e1,e2,Int.toNat_natCast]
        rw [if_pos (by simp;omega),aQ (by omega),aI,n,if_neg (by simp),aQ (by omega),aI,aQ (by simp;omega),aI,hC,aI,aQ (by simp;omega),aI]
        have:=aNK h384 hq5 hc
        simp only [gB] at this
        rw [this];rfl)
      unfold uP;rw [a1];rfl
    · have a2:loop (dY h.Class (-1)) 0=some (Out.ret (q:Int)):=gA q (fun k=>(k:Int)) _ s2 (by
        have n:((-1:Int) == h.Class[q])=true:=by rw [he];rfl
        simp only [dY]
        rw [if_pos (by simp;omega),aQ (by omega),aI,n];rfl)
      unfold C2 lR
      rw [a2,hcp,I5 hm,iV,bL hh,bL hc]
      have e0:aE ((q:Int) * 64)=((q * 64:Nat):Int):=by rw [aU (by omega) (by omega)];omega
      simp only [aI,nU,eD,a9,if_false,wU,e0,yV,LC,Int.toNat_natCast]
      rw [bH (by omega),if_neg (by simp),aQ (by omega),aI,aP (by omega),aYF _ _ (by omega)]
      have:=aNL h384 hq5 hc
      simp only [gB] at this
      rw [this];rfl
theorem LOk.count{l:aA}(h:LOk l):(eC l).length≤24:=aNJ 24 _ h.2.2.2.2 (fun x hx=>by have:=h.2.2.2.1 x hx;omega)
theorem aQI{m:Mem}(hs:fQ m.aG){s:Int}(hc:0≤bS m.aG s):∃h,DF m s=some h∧DY m s=some h:=by
  unfold DF DY K8 LD uQ vB
  rw [xI hs hc,EE hs hc,aI,aI,cW,cW,tZ,dO]
  have h1:=(HI hc).1
  simp only [bL h1,aI,eD,a9,if_false]
  by_cases q:1≤nP m.aG s∧nP m.aG s≤6
  · simp only [bL q,eD,a9,if_false];exact⟨_,rfl,rfl⟩
  · simp only [bH q,lJ,if_true];exact⟨_,rfl,rfl⟩
theorem U0{l:List aH}{k:Nat}(hk:k < l.length)(t:List Int):(cV (l.set k ⟨l[k].aL++t⟩)).length=(cV l).length+t.length:=by
  rw [HP hk,EU hk];simp;omega
end Go.Gv
end
noncomputable section
namespace Go.Gv
def bt(b:List Int)(i:Nat):Int:=b.getD i 0
theorem aFH{b:List Int}{i:Nat}(h:i < b.length):b[i]=bt b i:=by
  unfold bt;rw [List.getD_eq_getElem?_getD,List.getElem?_eq_getElem h];rfl
theorem ld4{b:List Int}{a:Nat}(h:a+4≤b.length):ld b a 4=((bt b a * 256+bt b (a+1)) * 256+bt b (a+2)) * 256+bt b (a+3):=by
  unfold ld
  rw [List.drop_eq_getElem_cons (by omega),List.drop_eq_getElem_cons (by omega),List.drop_eq_getElem_cons (by omega),List.drop_eq_getElem_cons (by omega)]
  simp only [List.take_succ_cons,List.take_zero,ldF,List.foldl_cons,List.foldl_nil,aFH (b:=b) (i:=a) (by omega),aFH (b:=b) (i:=a+1) (by omega),aFH (b:=b) (i:=a+1+1) (by omega),aFH (b:=b) (i:=a+1+1+1) (by omega)]
  simp only [Nat.add_assoc,Nat.reduceAdd];omega
theorem JB{b:List Int}{i j:Nat}{v:Int}(hi:i < b.length):bt (b.set i v) j=if j=i then v else bt b j:=by
  unfold bt
  rw [List.getD_eq_getElem?_getD,List.getD_eq_getElem?_getD,List.getElem?_set]
  by_cases h:i=j
  · subst h;simp [hi]
  · have h':¬j=i:=fun q=>h q.symm
    simp [h,h']
theorem zN{b:List Int}{a:Nat}{n:Int}(h:a+4≤b.length)(j:Nat):bt (st4 b a n) j=if j=a+3 then n else if a≤j∧j < a+3 then 0 else bt b j:=by
  unfold st4
  rw [JB (by simp;omega),JB (by simp;omega),JB (by simp;omega),JB (by omega)]
  by_cases h1:j=a+3
  · simp [h1]
  · rw [if_neg h1,if_neg h1]
    by_cases h2:a≤j∧j < a+3
    · rw [if_pos h2]
      by_cases h3:j=a+2
      · simp [h3]
      · rw [if_neg h3]
        by_cases h4:j=a+1
        · simp [h4]
        · rw [if_neg h4,if_pos (by omega)]
    · rw [if_neg h2,if_neg (by omega),if_neg (by omega),if_neg (by omega)]
theorem aNM{b:List Int}{a:Nat}{n:Int}(h:a+4≤b.length):ld (st4 b a n) a 4=n:=by
  rw [ld4 (by rw [EF];exact h),zN h,zN h,zN h,zN h,if_neg (by omega),if_pos (by omega),if_neg (by omega),if_pos (by omega),if_neg (by omega),if_pos (by omega),if_pos rfl]
  omega
theorem SQ{b b':List Int}{a:Nat}(h:a+4≤b.length)(hl:b'.length=b.length)(hs:∀j,a≤j→j < a+4→bt b' j=bt b j):ld b' a 4=ld b a 4:=by
  rw [ld4 (by omega),ld4 h,hs a (by omega) (by omega),hs (a+1) (by omega) (by omega),hs (a+2) (by omega) (by omega),hs (a+3) (by omega) (by omega)]
def aBB(h:aG)(p:Nat):Prop:=
  if bY h p < 0 then ∀k,k < 64→bt h.Bytes (p * 64+k)=0
  else ((bt h.Bytes (p * 64)=171∧bt h.Bytes (p * 64+1)=bY h p∧bt h.Bytes (p * 64+2)=cP (bY h p))∧(∀k,3≤k→k < 8→bt h.Bytes (p * 64+k)=0)∧∀i,i < (cP (bY h p)).toNat→1≤ld h.Bytes (p * 64+8+i * (aY (bY h p)).toNat) 4∧ld h.Bytes (p * 64+8+i * (aY (bY h p)).toNat) 4≤7)
theorem aIE{h:aG}(hs:fQ h){p:Nat}(hp:p < 6){k:Nat}(hk:k < 64):(dL h p).getD k 0=bt h.Bytes (p * 64+k):=by
  rw [←aH6 hs hp hk,aFH (by have:=hs.1;omega)]
theorem WM{l:List Int}{x:Int}:x∈l↔∃k,k < l.length∧l.getD k 0=x:=by
  rw [List.mem_iff_getElem]
  constructor
  · rintro⟨k,hk,e⟩
    exact⟨k,hk,by rw [List.getD_eq_getElem?_getD,List.getElem?_eq_getElem hk];exact e⟩
  · rintro⟨k,hk,e⟩
    exact⟨k,hk,by rw [List.getD_eq_getElem?_getD,List.getElem?_eq_getElem hk] at e;exact e⟩
theorem NO{h:aG}(hs:fQ h){p:Nat}(hp:p < 6):l9 h p↔aBB h p:=by
  unfold l9 aBB
  have hl:=I4 hs hp
  split
  · constructor
    · intro q k hk
      rw [←aIE hs hp hk]
      exact q _ (WM.2 ⟨k,by omega,rfl⟩)
    · intro q x hx
      obtain⟨k,hk,rfl⟩:=WM.1 hx
      rw [aIE hs hp (by omega)];exact q k (by omega)
  · rw [aIE hs hp (by omega),aIE hs hp (by omega),aIE hs hp (by omega)]
    have e:(∀x∈((dL h p).drop 3).take 5,x=0)↔∀k,3≤k→k < 8→bt h.Bytes (p * 64+k)=0:=by
      have g:∀j,j < 5→(((dL h p).drop 3).take 5).getD j 0=bt h.Bytes (p * 64+(3+j)):=fun j hj=>by
        rw [←aIE hs hp (by omega),List.getD_eq_getElem?_getD,List.getD_eq_getElem?_getD,List.getElem?_take,if_pos hj,List.getElem?_drop]
      constructor
      · intro q k h3 h8
        have:=q _ (WM.2 ⟨k - 3,by simp [hl];omega,rfl⟩)
        rw [g _ (by omega)] at this
        rw [show 3+(k - 3)=k by omega] at this;exact this
      · intro q x hx
        obtain⟨k,hk,rfl⟩:=WM.1 hx
        simp [hl] at hk
        rw [g _ hk];exact q _ (by omega) (by omega)
    rw [e];rfl
theorem aBB.same{h h':aG}{p:Nat}(hp:p < 6)(hs:fQ h)(hl:h'.Bytes.length=h.Bytes.length)(hc:bY h' p=bY h p)(hb:∀k,k < 64→bt h'.Bytes (p * 64+k)=bt h.Bytes (p * 64+k))(q:aBB h p):aBB h' p:=by
  have h1:=hs.1
  unfold aBB at q ⊢
  rw [hc]
  split
  · rename_i q0;rw [if_pos q0] at q
    exact fun k hk=>by rw [hb k hk];exact q k hk
  · rename_i q0;rw [if_neg q0] at q
    obtain⟨⟨a1,a2,a3⟩,a4,a5⟩:=q
    have b0:=hb 0 (by omega);have b1:=hb 1 (by omega);have b2:=hb 2 (by omega)
    simp only [Nat.add_zero] at b0
    refine⟨⟨by rw [b0];exact a1,by rw [b1];exact a2,by rw [b2];exact a3⟩,fun k k3 k8=>by rw [hb k (by omega)];exact a4 k k3 k8,fun i hi=>?_⟩
    have hz:=vM hs hp (c:=bY h p) rfl hi
    rw [SQ (b:=h.Bytes) (by omega) hl fun j j1 j2=>by
      have:=hb (j - p * 64) (by omega)
      rw [show p * 64+(j - p * 64)=j by omega] at this;exact this]
    exact a5 i hi
theorem JC{h:aG}{s:Int}(hc:0≤bS h s):∃p i,p < 6∧i < (cP (bY h p)).toNat∧s=(p:Int) * 4+i∧bS h s=bY h p∧(gH s (bS h s)).toNat=p * 64+8+i * (aY (bY h p)).toNat∧(s / 4).toNat=p:=by
  obtain⟨h1,h2,h3⟩:=HI hc
  have hle:=nI (bY h (s / 4).toNat)
  refine⟨(s / 4).toNat,(s % 4).toNat,by omega,by omega,by omega,h3,?_,rfl⟩
  rw [h3]
  unfold gH
  rw [if_pos ⟨h1,by omega⟩]
  have hst:=(UY (bY h (s / 4).toNat)).1
  have e:s % 4 * aY (bY h (s / 4).toNat)=(((s % 4).toNat * (aY (bY h (s / 4).toNat)).toNat:Nat):Int):=by
    rw [Int.natCast_mul,Int.toNat_of_nonneg (by omega),Int.toNat_of_nonneg hst]
  omega
theorem O0{c:Int}{i j:Nat}(hi:i < (cP c).toNat)(hj:j < (cP c).toNat)(hn:i≠j):i * (aY c).toNat+4≤j * (aY c).toNat∨j * (aY c).toNat+4≤i * (aY c).toNat:=by
  have hc:0≤c∧c≤2:=nJ.1 (by omega)
  have h12:12≤(aY c).toNat:=by rcases gQ hc with rfl | rfl | rfl <;> decide
  rcases Nat.lt_or_gt_of_ne hn with q | q
  · left
    have:(i+1) * (aY c).toNat≤j * (aY c).toNat:=Nat.mul_le_mul_right _ q
    rw [Nat.add_mul] at this;omega
  · right
    have:(j+1) * (aY c).toNat≤i * (aY c).toNat:=Nat.mul_le_mul_right _ q
    rw [Nat.add_mul] at this;omega
theorem YE.aZZ{h:aG}(hh:YE h){s g:Int}(hc:0≤bS h s)(hg:1≤g∧g≤7) :
    YE ⟨st4 h.Bytes (gH s (bS h s)).toNat g,h.Class⟩∧∀t,0≤bS h t→nP ⟨st4 h.Bytes (gH s (bS h s)).toNat g,h.Class⟩ t=if t=s then g else nP h t:=by
  obtain⟨hs,hp⟩:=hh
  have h384:=hs.1
  have hs':fQ ⟨st4 h.Bytes (gH s (bS h s)).toNat g,h.Class⟩:=⟨by rw [EF];exact hs.1,hs.2.1,aL1 hs.2.2.1 _ (by omega),hs.2.2.2⟩
  obtain⟨p,i,p6,hi,es,ec,eo,ep⟩:=JC hc
  have hz:=vM hs p6 rfl hi
  have h4:=nI (bY h p)
  refine⟨⟨hs',fun q hq=>?_⟩,fun t ht=>?_⟩
  · rw [NO hs' hq]
    have hold:=(NO hs hq).1 (hp q hq)
    by_cases e:q=p
    · subst e
      have hpos:0 < cP (bY h q):=by omega
      have hcl:¬bY h q < 0:=by have:=nJ.1 hpos;omega
      unfold aBB at hold ⊢
      have hcl':bY ⟨st4 h.Bytes (gH s (bS h s)).toNat g,h.Class⟩ q=bY h q:=rfl
      rw [hcl']
      rw [if_neg hcl] at hold ⊢
      obtain⟨⟨a1,a2,a3⟩,a4,a5⟩:=hold
      have bs:∀k,k < 8→bt (st4 h.Bytes (gH s (bS h s)).toNat g) (q * 64+k)=bt h.Bytes (q * 64+k):=fun k hk=>by
        rw [zN (by omega),if_neg (by omega),if_neg (by omega)]
      have b0:=bs 0 (by omega);have b1:=bs 1 (by omega);have b2:=bs 2 (by omega)
      simp only [Nat.add_zero] at b0
      refine⟨⟨by rw [b0];exact a1,by rw [b1];exact a2,by rw [b2];exact a3⟩,fun k k3 k8=>by rw [bs k k8];exact a4 k k3 k8,fun j hj=>?_⟩
      have hzj:=vM hs p6 rfl hj
      by_cases ej:j=i
      · subst ej
        simp only [eo]
        rw [aNM (by omega)];exact hg
      · rw [SQ (b:=h.Bytes) (by omega) (by simp only [EF]) fun k k1 k2=>?_]
        · exact a5 j hj
        · simp only [eo]
          have:=O0 hi hj (fun q=>ej q.symm)
          rw [zN (by omega),if_neg (by omega),if_neg (by omega)]
    · refine aBB.same hq hs (by simp only [EF]) rfl (fun k hk=>?_) hold
      rw [zN (by omega),if_neg (by omega),if_neg (by omega)]
  · have e2:bS ⟨st4 h.Bytes (gH s (bS h s)).toNat g,h.Class⟩ t=bS h t:=rfl
    unfold nP
    rw [e2]
    by_cases e:t=s
    · subst e;rw [if_pos rfl];simp only;rw [aNM (by omega)]
    · rw [if_neg e]
      obtain⟨p',i',p6',hi',es',ec',eo',ep'⟩:=JC ht
      have hz':=vM hs p6' rfl hi'
      rw [SQ (b:=h.Bytes) (by omega) (by simp only [EF]) fun k k1 k2=>?_]
      simp only
      by_cases ee:p'=p
      · subst ee
        have:=O0 hi hi' (fun q=>e (by rw [es,es',q]))
        rw [zN (by omega),if_neg (by omega),if_neg (by omega)]
      · have h4':=nI (bY h p')
        rw [zN (by omega),if_neg (by omega),if_neg (by omega)]
theorem aB1{p k:Nat}{c:Int}(hp:p < 6)(hk:(k:Int) < cP c):aUC p k c=p * 64+8+k * (aY c).toNat∧8+k * (aY c).toNat+4≤64:=by
  have hc:0≤c∧c≤2:=nJ.1 (by omega)
  have h1:=aKI (c:=c) hp hk
  have hle:=nI c
  have e:=h1.1
  unfold gH at e
  rw [if_pos (by omega)] at e
  have e1:((p:Int) * 4+k) / 4=p:=by omega
  have e2:((p:Int) * 4+k) % 4=k:=by omega
  rw [e1,e2] at e
  rcases gQ hc with rfl | rfl | rfl
  · rw [show aY 0=12 from rfl] at e ⊢
    rw [show cP 0=4 from rfl] at hk
    rw [show(12:Int).toNat=12 from rfl]
    omega
  · rw [show aY 1=20 from rfl] at e ⊢
    rw [show cP 1=2 from rfl] at hk
    rw [show(20:Int).toNat=20 from rfl]
    omega
  · rw [show aY 2=44 from rfl] at e ⊢
    rw [show cP 2=1 from rfl] at hk
    rw [show(44:Int).toNat=44 from rfl]
    omega
theorem aYG{b:List Int}{p:Nat}{c:Int}(hl:b.length=384)(hp:p < 6)(hc:0≤c∧c≤2):∀k:Nat,(k:Int)≤cP c→∀j,(j < p * 64∨p * 64+64≤j→bt (gB b p c k) j=bt b j)∧(3≤j→j < 8→bt (gB b p c k) (p * 64+j)=bt b (p * 64+j))∧bt (gB b p c k) (p * 64)=171∧bt (gB b p c k) (p * 64+1)=c∧bt (gB b p c k) (p * 64+2)=cP c
  | 0, hk, j => by
    have key:∀i,bt (gB b p c 0) i=if i=p * 64+2 then cP c else if i=p * 64+1 then c else if i=p * 64 then 171 else bt b i:=fun i=>by
      unfold gB
      rw [JB (by simp;omega),JB (by simp;omega),JB (by omega)]
    refine⟨fun h=>?_,fun h1 h2=>?_,?_,?_,?_⟩
    · rw [key,if_neg (by omega),if_neg (by omega),if_neg (by omega)]
    · rw [key,if_neg (by omega),if_neg (by omega),if_neg (by omega)]
    · rw [key,if_neg (by omega),if_neg (by omega),if_pos rfl]
    · rw [key,if_neg (by omega),if_pos rfl]
    · rw [key,if_pos rfl]
  | k + 1, hk, j => by
    have ih:=aYG hl hp hc k (by omega)
    have hoff:=aB1 (c:=c) hp (by omega:(k:Int) < cP c)
    have hbl:=LY b p c k
    unfold gB
    refine⟨fun h=>?_,fun h1 h2=>?_,?_,?_,?_⟩
    · rw [zN (by omega),if_neg (by omega),if_neg (by omega)];exact(ih j).1 h
    · rw [zN (by omega),if_neg (by omega),if_neg (by omega)];exact(ih j).2.1 h1 h2
    · rw [zN (by omega),if_neg (by omega),if_neg (by omega)];exact(ih j).2.2.1
    · rw [zN (by omega),if_neg (by omega),if_neg (by omega)];exact(ih j).2.2.2.1
    · rw [zN (by omega),if_neg (by omega),if_neg (by omega)];exact(ih j).2.2.2.2
theorem aUE{b:List Int}{p:Nat}{c:Int}(hl:b.length=384)(hp:p < 6):∀k:Nat,(k:Int)≤cP c→∀i,i < k→ld (gB b p c k) (p * 64+8+i * (aY c).toNat) 4=1
  | 0,_,i,h=>absurd h (by omega)
  | k + 1, hk, i, h => by
    have hbl:=LY b p c k
    have ho:=aB1 (c:=c) hp (by omega:(k:Int) < cP c)
    unfold gB
    by_cases e:i=k
    · subst e;rw [←ho.1];exact aNM (by omega)
    · have hoi:=aB1 (c:=c) hp (by omega:(i:Int) < cP c)
      have ha:=O0 (c:=c) (i:=i) (j:=k) (by omega) (by omega) e
      rw [SQ (b:=gB b p c k) (by omega) (by rw [EF]) fun j j1 j2=>by rw [zN (by omega),if_neg (by omega),if_neg (by omega)]]
      exact aUE hl hp k (by omega) i (by omega)
theorem WN{h:aG}(hs:fQ h){B:List Int}{p q:Nat}(hq:q < 6){c:Int}:bY ⟨B,h.Class.set p c⟩ q=if q=p then c else bY h q:=by
  have h6:=hs.2.1
  unfold bY
  rw [List.getD_eq_getElem?_getD,List.getD_eq_getElem?_getD,List.getElem?_set]
  by_cases e:p=q
  · subst e;simp [h6,hq]
  · have e':¬q=p:=fun z=>e z.symm
    simp [e,e']
theorem YE.a1T{h:aG}(hh:YE h){p:Nat}(hp:p < 6)(hun:bY h p < 0){c:Int}(hc:0≤c∧c≤2) :
    YE ⟨gB h.Bytes p c (cP c).toNat,h.Class.set p c⟩∧(∀t,(t / 4).toNat≠p→bS ⟨gB h.Bytes p c (cP c).toNat,h.Class.set p c⟩ t=bS h t)∧(∀t,0≤bS h t→(t / 4).toNat≠p∧nP ⟨gB h.Bytes p c (cP c).toNat,h.Class.set p c⟩ t=nP h t) ∧
      ∀i,i < (cP c).toNat→bS ⟨gB h.Bytes p c (cP c).toNat,h.Class.set p c⟩ ((p:Int) * 4+i)=c∧nP ⟨gB h.Bytes p c (cP c).toNat,h.Class.set p c⟩ ((p:Int) * 4+i)=1:=by
  obtain⟨hs,hpg⟩:=hh
  have h384:=hs.1
  have hle:=nI c
  have hpn:((cP c).toNat:Int)≤cP c:=by omega
  have hb:=aYG h384 hp hc (cP c).toNat hpn
  have hbl:=LY h.Bytes p c (cP c).toNat
  have hs':fQ ⟨gB h.Bytes p c (cP c).toNat,h.Class.set p c⟩:=⟨by simp only [hbl];exact h384,by simp only [List.length_set];exact hs.2.1,aKH hs.2.2.1 p hc _,fun x hx=>by
    rcases List.mem_or_eq_of_mem_set hx with q | rfl
    · exact hs.2.2.2 x q
    · omega⟩
  have hcls:∀t:Int,(t / 4).toNat≠p→bS ⟨gB h.Bytes p c (cP c).toNat,h.Class.set p c⟩ t=bS h t:=fun t ht=>by
    unfold bS
    by_cases q:0≤t∧t≤23
    · rw [WN hs (by omega),if_neg ht]
    · rw [if_neg (fun z=>q z.1),if_neg (fun z=>q z.1)]
  refine⟨⟨hs',fun q hq=>?_⟩,hcls,fun t ht=>?_,fun i hi=>?_⟩
  · rw [NO hs' hq]
    have hold:=(NO hs hq).1 (hpg q hq)
    by_cases e:q=p
    · subst e
      unfold aBB at hold ⊢
      rw [if_pos hun] at hold
      rw [WN hs hq,if_pos rfl,if_neg (by omega)]
      refine⟨(hb 0).2.2,fun k k3 k8=>?_,fun i hi=>?_⟩
      · simp only;rw [(hb k).2.1 k3 k8];exact hold k (by omega)
      · simp only;rw [aUE h384 hp _ hpn i hi];omega
    · refine aBB.same hq hs (by simp only [hbl]) (by rw [WN hs hq,if_neg e]) (fun k hk=>?_) hold
      exact(hb _).1 (by omega)
  · obtain⟨p',i',p6',hi',es',ec',eo',ep'⟩:=JC ht
    have hne:(t / 4).toNat≠p:=fun z=>by rw [ec',←ep',z] at ht;omega
    refine⟨hne,?_⟩
    have hz':=vM hs p6' rfl hi'
    unfold nP
    rw [hcls t hne,SQ (b:=h.Bytes) (by omega) (by simp only [hbl]) fun k k1 k2=>(hb k).1 (by omega)]
  · have e1:((p:Int) * 4+i) / 4=p:=by omega
    have e2:((p:Int) * 4+i) % 4=i:=by omega
    have ec:bS ⟨gB h.Bytes p c (cP c).toNat,h.Class.set p c⟩ ((p:Int) * 4+i)=c:=by
      unfold bS
      rw [e1,e2,Int.toNat_natCast,WN hs hp,if_pos rfl,if_pos (by omega)]
    refine⟨ec,?_⟩
    unfold nP
    rw [ec]
    have ho:=aB1 (c:=c) hp (by omega:(i:Int) < cP c)
    have:(gH ((p:Int) * 4+i) c).toNat=p * 64+8+i * (aY c).toNat:=ho.1
    rw [this]
    exact aUE h384 hp _ hpn i hi
def vU(m m':Mem)(k:Int):Prop:=yX m'∧∀s,lD m s=3→s≠k→lD m' s=3∧nP m'.aG s=nP m.aG s∧bS m'.aG s=bS m.aG s
theorem vU.refl{m:Mem}(h:yX m)(k:Int):vU m m k:=⟨h,fun _ h _=>⟨h,rfl,rfl⟩⟩
theorem vU.live{m m':Mem}{k h:Int}(q:vU m m' k)(hl:CA m h)(hn:h % 32≠k):CA m' h:=by
  obtain⟨h1,h2,h3⟩:=hl
  obtain⟨a,b,_⟩:=q.2 _ h2 hn
  exact⟨h1,a,by rw [b];exact h3⟩
theorem K1{l:List aH}{k j:Nat}(hk:k < l.length){t:aH}:j6 (l.set k t) j=if j=k then t.aL else j6 l j:=by
  unfold j6
  rw [List.getD_eq_getElem?_getD,List.getD_eq_getElem?_getD,List.getElem?_set]
  by_cases e:k=j
  · subst e;simp [hk]
  · have e':¬j=k:=fun z=>e z.symm
    simp [e,e']
theorem aIF{l:List aH}{k:Nat}(hk:k < l.length){t:aH}(ht:t.aL.Sublist l[k].aL):(cV (l.set k t)).Sublist (cV l):=by
  rw [HP hk,EU hk]
  exact(List.Sublist.refl _).append (ht.append (List.Sublist.refl _))
theorem WO{l:List aH}{k:Nat}(hk:k < l.length){xs:List Int}{s:Int}:s∈cV (l.set k ⟨l[k].aL++xs⟩)↔s∈cV l∨s∈xs:=by
  rw [HP hk,EU hk]
  simp only [List.mem_append]
  constructor
  · rintro(h | (h | h) | h)
    · exact .inl (.inl h)
    · exact .inl (.inr (.inl h))
    · exact .inr h
    · exact .inl (.inr (.inr h))
  · rintro((h | h | h) | h)
    · exact .inl h
    · exact .inr (.inl (.inl h))
    · exact .inr (.inr h)
    · exact .inr (.inl (.inr h))
theorem R5{l:List aH}{k:Nat}(hk:k < l.length){xs r q:List Int}(h:(q++(cV l++r)).Nodup)(hx:xs.Nodup)(hd:∀x∈xs,x∉q++(cV l++r)):(q++(cV (l.set k ⟨l[k].aL++xs⟩)++r)).Nodup:=by
  have hp:(q++(cV (l.set k ⟨l[k].aL++xs⟩)++r)).Perm (xs++(q++(cV l++r))):=by
    rw [HP hk,EU hk]
    have e1:q++(cV (l.take k)++(l[k].aL++xs++cV (l.drop (k+1)))++r)=(q++cV (l.take k)++l[k].aL)++(xs++(cV (l.drop (k+1))++r)):=by simp
    have e2:xs++(q++(cV (l.take k)++(l[k].aL++cV (l.drop (k+1)))++r))=xs++((q++cV (l.take k)++l[k].aL)++(cV (l.drop (k+1))++r)):=by simp
    rw [e1,e2]
    exact List.perm_append_comm_assoc _ _ _
  rw [hp.nodup_iff,List.nodup_append]
  exact⟨hx,h,fun a ha b hb e=>hd a ha (e ▸ hb)⟩
theorem rO{m:Mem}{s:Int}:lD m s=3↔0≤bS m.aG s∧s∉eC m.aA∧nP m.aG s≤6:=by
  unfold lD
  constructor
  · intro h
    split at h
    · omega
    · split at h
      · omega
      · split at h
        · omega
        · exact⟨by omega,by assumption,by omega⟩
  · rintro⟨a,b,c⟩
    rw [if_neg (by omega),if_neg b,if_neg (by omega)]
noncomputable section
variable {m:Mem} (hm:yX m)
include hm
theorem yX.aZ0{k:Nat}(hk:k < 9){t:aH}(ht:t.aL.Sublist (j6 m.aA.bQ k)):vU m ⟨m.aG,⟨m.aA.Global,m.aA.bQ.set k t⟩⟩ (-1):=by
  obtain⟨⟨hh,h3,h9,h2,hr,hn⟩,hg,ho⟩:=hm
  have hk':k < m.aA.bQ.length:=by omega
  have ht':t.aL.Sublist m.aA.bQ[k].aL:=by rw [fV hk'];exact ht
  have hsub:(eC ⟨m.aA.Global,m.aA.bQ.set k t⟩).Sublist (eC m.aA):=(List.Sublist.refl _).append (aIF hk' ht')
  refine⟨⟨⟨hh,h3,by simpa using h9,fun s hs=>?_,fun x hx=>hr x (hsub.subset hx),hsub.nodup hn⟩,hg,fun j hj=>?_⟩,fun s hs _=>⟨?_,rfl,rfl⟩⟩
  · rcases List.mem_or_eq_of_mem_set hs with q | rfl
    · exact h2 s q
    · have:=ht'.length_le;have:=h2 _ (List.getElem_mem hk');omega
  · unfold B9
    simp only [K1 hk']
    split
    · rename_i e;subst e
      exact fun x hx=>ho j hj x (ht.subset hx)
    · exact ho j hj
  · rw [rO] at hs ⊢
    exact⟨hs.1,fun q=>hs.2.1 (hsub.subset q),hs.2.2⟩
theorem yX.aQJ{k:Nat}(hk:k < 3){t:aH}(ht:t.aL.Sublist (j6 m.aA.Global k)):vU m ⟨m.aG,⟨m.aA.Global.set k t,m.aA.bQ⟩⟩ (-1):=by
  obtain⟨⟨hh,h3,h9,h2,hr,hn⟩,hg,ho⟩:=hm
  have hk':k < m.aA.Global.length:=by omega
  have ht':t.aL.Sublist m.aA.Global[k].aL:=by rw [fV hk'];exact ht
  have hsub:(eC ⟨m.aA.Global.set k t,m.aA.bQ⟩).Sublist (eC m.aA):=(aIF hk' ht').append (List.Sublist.refl _)
  refine⟨⟨⟨hh,by simpa using h3,h9,h2,fun x hx=>hr x (hsub.subset hx),hsub.nodup hn⟩,fun j hj=>?_,ho⟩,fun s hs _=>⟨?_,rfl,rfl⟩⟩
  · unfold JI
    simp only [K1 hk']
    split
    · rename_i e;subst e
      exact fun x hx=>hg j hj x (ht.subset hx)
    · exact hg j hj
  · rw [rO] at hs ⊢
    exact⟨hs.1,fun q=>hs.2.1 (hsub.subset q),hs.2.2⟩
theorem yX.aW5{k:Nat}(hk:k < 9){xs:List Int}(hl:(j6 m.aA.bQ k).length+xs.length≤2)(hx:xs.Nodup)(hf:B8 m.aG xs ((k % 3:Nat):Int))(hd:∀x∈xs,x∉eC m.aA)(hk':k < m.aA.bQ.length) :
    yX ⟨m.aG,⟨m.aA.Global,m.aA.bQ.set k ⟨m.aA.bQ[k].aL++xs⟩⟩⟩∧∀s,s∉xs→lD m s=3→lD ⟨m.aG,⟨m.aA.Global,m.aA.bQ.set k ⟨m.aA.bQ[k].aL++xs⟩⟩⟩ s=3:=by
  obtain⟨⟨hh,h3,h9,h2,hr,hn⟩,hg,ho⟩:=hm
  have hmem:∀s,s∈eC ⟨m.aA.Global,m.aA.bQ.set k ⟨m.aA.bQ[k].aL++xs⟩⟩↔s∈eC m.aA∨s∈xs:=fun s=>by
    unfold eC;simp only [List.mem_append,WO hk'];rw [or_assoc]
  have hcl:∀x∈xs,0≤x∧x≤23:=fun x h=>by
    have:=(hf x h).1
    exact(HI (h:=m.aG) (s:=x) (by omega)).1
  refine⟨⟨⟨hh,h3,by simpa using h9,fun s hs=>?_,fun x hx=>?_,?_⟩,hg,fun j hj=>?_⟩,fun s hs h3=>?_⟩
  · rcases List.mem_or_eq_of_mem_set hs with q | rfl
    · exact h2 s q
    · rw [←fV hk'] at hl;simpa using hl
  · rcases(hmem x).1 hx with q | q
    · exact hr x q
    · exact hcl x q
  · have:=R5 (q:=cV m.aA.Global) (r:=[]) hk' (by simpa [eC] using hn) hx (by simpa [eC] using hd)
    simpa [eC] using this
  · unfold B9
    simp only [K1 hk']
    split
    · rename_i e;subst e
      intro x hx
      rcases List.mem_append.1 hx with q | q
      · rw [fV hk'] at q;exact ho j hj x q
      · exact hf x q
    · exact ho j hj
  · rw [rO] at h3 ⊢
    exact⟨h3.1,fun q=>(((hmem s).1 q).elim h3.2.1 hs),h3.2.2⟩
theorem yX.aFI{k:Nat}(hk:k < 3){xs:List Int}(hx:xs.Nodup)(hf:B8 m.aG xs (k:Int))(hd:∀x∈xs,x∉eC m.aA)(hk':k < m.aA.Global.length) :
    yX ⟨m.aG,⟨m.aA.Global.set k ⟨m.aA.Global[k].aL++xs⟩,m.aA.bQ⟩⟩∧∀s,s∉xs→lD m s=3→lD ⟨m.aG,⟨m.aA.Global.set k ⟨m.aA.Global[k].aL++xs⟩,m.aA.bQ⟩⟩ s=3:=by
  obtain⟨⟨hh,h3,h9,h2,hr,hn⟩,hg,ho⟩:=hm
  have hmem:∀s,s∈eC ⟨m.aA.Global.set k ⟨m.aA.Global[k].aL++xs⟩,m.aA.bQ⟩↔s∈eC m.aA∨s∈xs:=fun s=>by
    unfold eC;simp only [List.mem_append,WO hk'];rw [or_right_comm]
  have hcl:∀x∈xs,0≤x∧x≤23:=fun x h=>by
    have:=(hf x h).1
    exact(HI (h:=m.aG) (s:=x) (by omega)).1
  refine⟨⟨⟨hh,by simpa using h3,h9,h2,fun x hx=>?_,?_⟩,fun j hj=>?_,ho⟩,fun s hs h3=>?_⟩
  · rcases(hmem x).1 hx with q | q
    · exact hr x q
    · exact hcl x q
  · have:=R5 (q:=[]) (r:=cV m.aA.bQ) hk' (by simpa [eC] using hn) hx (by simpa [eC] using hd)
    simpa [eC] using this
  · unfold JI
    simp only [K1 hk']
    split
    · rename_i e;subst e
      intro x hx
      rcases List.mem_append.1 hx with q | q
      · rw [fV hk'] at q;exact hg j hj x q
      · exact hf x q
    · exact hg j hj
  · rw [rO] at h3 ⊢
    exact⟨h3.1,fun q=>(((hmem s).1 q).elim h3.2.1 hs),h3.2.2⟩
theorem yX.R6{x:Int}(hx:x∈eC m.aA):0≤bS m.aG x∧nP m.aG x≤6:=by
  obtain⟨⟨hh,h3,h9,h2,hr,hn⟩,hg,ho⟩:=hm
  have key:∀(l:List aH),x∈cV l→∃k,k < l.length∧x∈j6 l k:=fun l h=>by
    obtain⟨s,h1,h2⟩:=SP.1 h
    obtain⟨k,hk,rfl⟩:=List.mem_iff_getElem.1 h1
    exact⟨k,hk,by rw [←fV hk];exact h2⟩
  rcases List.mem_append.1 hx with q | q
  · obtain⟨k,hk,h⟩:=key _ q
    have:=hg k (by omega) x h
    exact⟨by omega,this.2⟩
  · obtain⟨k,hk,h⟩:=key _ q
    have:=ho k (by omega) x h
    exact⟨by omega,this.2⟩
theorem yX.heap{h':aG}(hh:YE h')(hs:∀x∈eC m.aA,bS h' x=bS m.aG x∧nP h' x=nP m.aG x):yX ⟨h',m.aA⟩:=by
  obtain⟨⟨_,hl⟩,hg,ho⟩:=hm
  have key:∀(l:List aH) k x,x∈j6 l k→x∈cV l:=fun l k x h=>by
    unfold j6 at h
    rw [List.getD_eq_getElem?_getD] at h
    cases hk:l[k]? with
    | none=>rw [hk] at h;simp at h
    | some s=>rw [hk] at h;exact SP.2 ⟨s,List.mem_of_getElem? hk,h⟩
  refine⟨⟨hh,hl⟩,fun k hk x hx=>?_,fun k hk x hx=>?_⟩
  · obtain⟨a,b⟩:=hs x (List.mem_append_left _ (key _ k x hx))
    show bS h' x=_∧nP h' x≤6
    rw [a,b];exact hg k hk x hx
  · obtain⟨a,b⟩:=hs x (List.mem_append_right _ (key _ k x hx))
    show bS h' x=_∧nP h' x≤6
    rw [a,b];exact ho k hk x hx
theorem yX.a2N{s g:Int}(hu:lD m s=3)(hg:1≤g∧g≤7):vU m ⟨⟨st4 m.aG.Bytes (gH s (bS m.aG s)).toNat g,m.aG.Class⟩,m.aA⟩ s∧nP ⟨st4 m.aG.Bytes (gH s (bS m.aG s)).toNat g,m.aG.Class⟩ s=g:=by
  have hu':=rO.1 hu
  obtain⟨a,b⟩:=YE.aZZ hm.1.1 hu'.1 hg
  refine⟨⟨yX.heap hm a fun x hx=>⟨rfl,?_⟩,fun t ht hn=>?_⟩,by rw [b s hu'.1,if_pos rfl]⟩
  · rw [b x (yX.R6 hm hx).1,if_neg (show ¬x=s from fun e=>hu'.2.1 (e ▸ hx))]
  · have ht':=rO.1 ht
    have e:nP ⟨st4 m.aG.Bytes (gH s (bS m.aG s)).toNat g,m.aG.Class⟩ t=nP m.aG t:=by rw [b t ht'.1,if_neg hn]
    exact⟨rO.2 ⟨ht'.1,ht'.2.1,by simp only [e];exact ht'.2.2⟩,e,rfl⟩
theorem yX.a1U{p:Nat}(hp:p < 6)(hun:bY m.aG p < 0){c:Int}(hc:0≤c∧c≤2){xs:List Int}(hxs:∀x∈xs,∃i,i < (cP c).toNat∧x=(p:Int) * 4+(i:Nat))(hx:xs.Nodup)(hk':c.toNat < m.aA.Global.length) :
    vU m ⟨⟨gB m.aG.Bytes p c (cP c).toNat,m.aG.Class.set p c⟩,⟨m.aA.Global.set c.toNat ⟨m.aA.Global[c.toNat].aL++xs⟩,m.aA.bQ⟩⟩ (-1):=by
  obtain⟨a,b,d,e⟩:=YE.a1T hm.1.1 hp hun hc
  have h1:yX ⟨⟨gB m.aG.Bytes p c (cP c).toNat,m.aG.Class.set p c⟩,m.aA⟩:=yX.heap hm a fun x hx=>by
    obtain⟨q,r⟩:=d x (yX.R6 hm hx).1
    exact⟨b x q,r⟩
  have hno:∀x∈xs,¬0≤bS m.aG x:=fun x h q=>by
    obtain⟨i,hi,rfl⟩:=hxs x h
    have h4:=nI c
    exact(d _ q).1 (by omega)
  obtain⟨f,g⟩:=yX.aFI h1 (k:=c.toNat) (by omega) hx (fun x h=>by
    obtain⟨i,hi,rfl⟩:=hxs x h
    have:=e i hi
    exact⟨by simp only [this.1];omega,by simp only [this.2];omega⟩) (fun x h q=>hno x h (yX.R6 hm q).1) hk'
  refine⟨f,fun s hs _=>?_⟩
  have hs':=rO.1 hs
  obtain⟨q,r⟩:=d s hs'.1
  have h2:lD ⟨⟨gB m.aG.Bytes p c (cP c).toNat,m.aG.Class.set p c⟩,m.aA⟩ s=3:=rO.2 ⟨by simp only [b s q];exact hs'.1,hs'.2.1,by simp only [r];exact hs'.2.2⟩
  exact⟨g s (fun h=>hno s h hs'.1) h2,r,b s q⟩
end
end Go.Gv
end
noncomputable section
namespace Go.Gv
theorem aZ1{p n:Nat}{x:Int}(h:x∈gS p n):∃i,i < n∧x=(p:Int) * 4+(i:Nat):=by
  simp only [gS,List.mem_map,List.mem_range] at h
  obtain⟨i,h1,h2⟩:=h
  exact⟨i,h1,h2.symm⟩
theorem aUF(p n:Nat):(gS p n).Nodup:=by
  unfold gS
  rw [List.Nodup,List.pairwise_map]
  exact List.Pairwise.imp (fun h e=>h (by omega)) (List.nodup_range (n:=n))
theorem aUG{m:Mem}(hm:yX m){c:Int}(hc:0≤c∧c≤2) :
    ∃m' s,F8 m c=some (m',s)∧GU m c=some (m',s)∧zL m'∧(0≤s→fQ m'.aG∧0≤bS m'.aG s)∧vU m m' (-1):=by
  have hl:=hm.1.2
  have hcnt:=hl.count
  have hs:=hm.1.1.1
  have hsl:=hl.Y3 (by omega)
  have hp4:=nI c
  have hpp:0 < cP c:=nJ.2 hc
  have hall:=mA m.aA
  have hsG:∀s∈m.aA.Global,s.aL.length≤24:=fun s h=>by have:=xK h;omega
  have hsO:∀s∈m.aA.bQ,s.aL.length≤24:=fun s h=>by have:=xK h;omega
  have h3:=hl.1
  have h9:=hl.2.1
  have hcpl:=LV (l:=m.aA) (by omega) (by omega) (fun s h=>by have:=hsG s h;omega) (fun s h=>by have:=hsO s h;omega)
  unfold F8 GU
  rcases aUD hm.1.1 hc with ⟨e1,e2⟩ | ⟨p,hp,hun,e1,e2⟩
  · rw [e1,e2,hcpl]
    have h1:=hs.1;have h2:=hs.2.1
    exact⟨_,_,rfl,rfl,⟨by simp only;omega,by simp only;omega,by simp only;omega,by simp only;omega,by simp only;omega⟩,fun h=>absurd h (by omega),vU.refl hm _⟩
  · rw [e1,e2,hcpl]
    simp only [aI,E9,E8,E3,aFG]
    have hn:(((cP c).toNat:Int) == 0)=false:=by simpa using (by omega:¬((cP c).toNat:Int)=0)
    have hk:c.toNat < m.aA.Global.length:=by omega
    have hg0:=hsG _ (List.getElem_mem hk)
    have hx:idx m.aA.Global c=some m.aA.Global[c.toNat]:=r9 hc.1 (by omega)
    have hz:idx (gS p (cP c).toNat) 0=some ((p:Int) * 4):=by
      have:=aQ (l:=gS p (cP c).toNat) (k:=0) (by rw [aFG];omega)
      rw [show((0:Nat):Int)=0 from rfl] at this
      rw [this];simp [gS]
    have hlen:(List.drop (1:Int).toNat (List.take (cP c).toNat (gS p (cP c).toNat))).length≤4:=by simp [aFG];omega
    simp only [hn,a9,if_false,hx,aI,hz]
    rw [aP (by omega),aP (by omega)]
    have hcl:bY ⟨gB m.aG.Bytes p c (cP c).toNat,m.aG.Class.set p c⟩ p=c:=by
      have h6:=hs.2.1
      unfold bY;simp [List.getD_eq_getElem?_getD,List.getElem?_set,h6,hp]
    refine⟨_,_,rfl,rfl,⟨by simp only [LY];have:=hs.1;omega,by simp only [List.length_set];have:=hs.2.1;omega,by simp only [List.length_set];omega,by simp only;omega,?_⟩,fun _=>⟨⟨by simp only [LY];exact hs.1,by simp only [List.length_set];exact hs.2.1,aKH hs.2.2.1 p hc _,fun x hx=>?_⟩,?_⟩,?_⟩
    · rw [mA];simp only [U0 hk];omega
    · rcases List.mem_or_eq_of_mem_set hx with h | rfl
      · exact hs.2.2.2 x h
      · omega
    · unfold bS
      have e4:((p:Int) * 4 / 4).toNat=p:=by omega
      rw [e4]
      simp only [hcl]
      rw [if_pos ⟨by omega,by omega⟩];exact hc.1
    · exact yX.a1U hm hp hun hc (fun x hx=>aZ1 (List.mem_of_mem_take (List.mem_of_mem_drop hx))) ((aUF p _).sublist ((List.drop_sublist _ _).trans (List.take_sublist _ _))) hk
theorem aNN(n:Int):∃c,F7 n=some c∧GR n=some c∧(c = -1∨(0≤c∧c≤2)):=by
  have s1:∀k,0≤k∧k≤2→iQ n k=some (if 1≤n∧n≤l8 k then .stop (Out.ret k) else .next (k+1)):=fun k hk=>by
    simp only [iQ]
    rw [if_pos (by simp;omega),I1,aI,cW,aI,aU (by omega) (by omega)]
    by_cases q:1≤n∧n≤l8 k
    · rw [bL q,if_pos rfl,if_pos q]
    · rw [bH q,if_neg (by simp),if_neg q]
  have s2:∀k,0≤k∧k≤2→iU n k=some (if 1≤n∧n≤l8 k then .stop (Out.ret k) else .next (k+1)):=fun k hk=>by
    simp only [iU,yG]
    rw [if_pos (by simp;omega),RT,aI,aU (by omega) (by omega)]
    by_cases q1:1≤n
    · by_cases q2:n≤l8 k <;> simp [q1,q2]
    · simp [q1]
  have st:∀k,0≤k∧k≤2→1≤n∧n≤l8 k→loop (iQ n) k=some (Out.ret k)∧loop (iU n) k=some (Out.ret k):=fun k hk h=>
    ⟨bZ (by rw [s1 k hk,if_pos h]),bZ (by rw [s2 k hk,if_pos h])⟩
  have nx:∀k,0≤k∧k≤2→¬(1≤n∧n≤l8 k)→loop (iQ n) k=loop (iQ n) (k+1)∧loop (iU n) k=loop (iU n) (k+1):=fun k hk h=>
    ⟨cH (by rw [s1 k hk,if_neg h]),cH (by rw [s2 k hk,if_neg h])⟩
  unfold F7 GR
  by_cases q0:1≤n∧n≤l8 0
  · have:=st 0 (by omega) q0
    rw [this.1,this.2];exact⟨_,rfl,rfl,.inr (by omega)⟩
  · have h0:=nx 0 (by omega) q0
    rw [h0.1,h0.2,show(0:Int)+1=1 from rfl]
    by_cases q1:1≤n∧n≤l8 1
    · have:=st 1 (by omega) q1
      rw [this.1,this.2];exact⟨_,rfl,rfl,.inr (by omega)⟩
    · have h1:=nx 1 (by omega) q1
      rw [h1.1,h1.2,show(1:Int)+1=2 from rfl]
      by_cases q2:1≤n∧n≤l8 2
      · have:=st 2 (by omega) q2
        rw [this.1,this.2];exact⟨_,rfl,rfl,.inr (by omega)⟩
      · have h2:=nx 2 (by omega) q2
        rw [h2.1,h2.2,show(2:Int)+1=3 from rfl,bZ (body:=iQ n) (r:=Out.brk ()) (by simp [iQ]),bZ (body:=iU n) (r:=Out.brk ()) (by simp [iU])]
        exact⟨_,rfl,rfl,.inl rfl⟩
theorem aUH{s:aH}(hl:s.aL.length≤1048576):∃t x,y8 s=some (t,x)∧tK s=some (x,t)∧t.aL.length≤s.aL.length∧(0≤x→x∈s.aL)∧t.aL.Sublist s.aL:=by
  unfold y8 tK K7
  rw [aU (by omega) (by omega)]
  by_cases q:s.aL.length=0
  · rw [if_pos (by simpa using q),if_pos (by simp;omega)]
    exact⟨_,_,rfl,rfl,Nat.le_refl _,fun h=>absurd h (by omega),List.Sublist.refl _⟩
  · have hx:idx s.aL ((s.aL.length:Int) - 1)=some (s.aL[s.aL.length - 1]'(by omega)):=by
      rw [show((s.aL.length:Int) - 1)=((s.aL.length - 1:Nat):Int) by omega,aQ (by omega)]
    rw [if_neg (by simpa using q),if_neg (by simp;omega),aP (by omega),hx]
    simp only [aI]
    rw [aP (by omega)]
    exact⟨_,_,rfl,rfl,by simp,fun _=>List.getElem_mem _,(List.drop_sublist _ _).trans (List.take_sublist _ _)⟩
theorem WQ{w c:Int}(hw:0≤w∧w≤2)(hc:0≤c∧c≤2):sV w c=some (w * 3+c)∧IL w c=some (w * 3+c):=by
  have e:aE (aE (w * 3)+c)=w * 3+c:=by rw [aU (x:=w * 3) (by omega) (by omega),aU (by omega) (by omega)]
  constructor
  · unfold sV wG;rw [cW,cW,bL hw,bL hc,e];rfl
  · unfold IL DV;rw [lI,iV,bL hw,bL hc,e];rfl
theorem aFJ{l:List aH}{k:Nat}(hk:k < l.length){t:aH}(ht:t.aL.length≤l[k].aL.length):(cV (l.set k t)).length≤(cV l).length:=by
  rw [HP hk,EU hk];simp;omega
noncomputable section
variable {m:Mem} (hm:yX m)
include hm
theorem yX.facts:(eC m.aA).length≤24∧m.aA.Global.length=3∧m.aA.bQ.length=9∧m.aG.Bytes.length=384∧m.aG.Class.length=6∧zL m∧gR m.aA=some m.aA∧jD m.aA=some true ∧
    (∀s∈m.aA.Global,s.aL.length≤24)∧(∀s∈m.aA.bQ,s.aL.length≤24):=by
  have hl:=hm.1.2
  have hcnt:=hl.count
  have hall:=mA m.aA
  have hsG:∀s∈m.aA.Global,s.aL.length≤24:=fun s h=>by have:=xK h;omega
  have hsO:∀s∈m.aA.bQ,s.aL.length≤24:=fun s h=>by have:=xK h;omega
  have h3:=hl.1;have h9:=hl.2.1
  have h1:=hm.1.1.1.1;have h2:=hm.1.1.1.2.1
  refine⟨hcnt,h3,h9,h1,h2,⟨by omega,by omega,by omega,by omega,by omega⟩,LV (by omega) (by omega) (fun s h=>by have:=hsG s h;omega) (fun s h=>by have:=hsO s h;omega),by rw [P4 (by omega),bL hl],hsG,hsO⟩
theorem aNO{w c:Int}(hw:0≤w∧w≤2)(hc:0≤c∧c≤2) :
    ∃l t x,idx m.aA.bQ (w * 3+c)=some l∧y8 l=some (t,x)∧GS m.aA w c=some (⟨m.aA.Global,m.aA.bQ.set (w * 3+c).toNat t⟩,x) ∧
      zL ⟨m.aG,⟨m.aA.Global,m.aA.bQ.set (w * 3+c).toNat t⟩⟩∧(0≤x→0≤bS m.aG x)∧vU m ⟨m.aG,⟨m.aA.Global,m.aA.bQ.set (w * 3+c).toNat t⟩⟩ (-1):=by
  obtain⟨hcnt,h3,h9,h1,h2,hsm,hcp,hlo,hsG,hsO⟩:=yX.facts hm
  have hk:(w * 3+c).toNat < m.aA.bQ.length:=by omega
  have hx:idx m.aA.bQ (w * 3+c)=some m.aA.bQ[(w * 3+c).toNat]:=r9 (by omega) (by omega)
  have h24:=hsO _ (List.getElem_mem hk)
  obtain⟨t,x,e1,e2,ht,hmem,hsub⟩:=aUH (s:=m.aA.bQ[(w * 3+c).toNat]) (by omega)
  have hall:=mA m.aA
  refine⟨_,t,x,hx,e1,?_,⟨by simp only;omega,by simp only;omega,by simp only;omega,by simp only [List.length_set];omega,?_⟩,fun h0=>?_,yX.aZ0 hm (by omega) (by rw [←fV hk];exact hsub)⟩
  · unfold GS yH
    rw [hcp,(WQ hw hc).2,hlo]
    simp only [aI,eD,a9,if_false]
    rw [bH (by omega),if_neg (by simp),hx,aI,e2];rfl
  · have:=aFJ hk ht
    rw [mA];simp only;omega
  · have:=hm.2.2 (w * 3+c).toNat (by omega) x (by rw [←fV hk];exact hmem h0)
    omega
theorem aHI{c:Int}(hc:0≤c∧c≤2) :
    ∃l t x,idx m.aA.Global c=some l∧y8 l=some (t,x)∧yI m.aA c=some (⟨m.aA.Global.set c.toNat t,m.aA.bQ⟩,x) ∧
      zL ⟨m.aG,⟨m.aA.Global.set c.toNat t,m.aA.bQ⟩⟩∧(0≤x→0≤bS m.aG x)∧vU m ⟨m.aG,⟨m.aA.Global.set c.toNat t,m.aA.bQ⟩⟩ (-1):=by
  obtain⟨hcnt,h3,h9,h1,h2,hsm,hcp,hlo,hsG,hsO⟩:=yX.facts hm
  have hk:c.toNat < m.aA.Global.length:=by omega
  have hx:idx m.aA.Global c=some m.aA.Global[c.toNat]:=r9 (by omega) (by omega)
  have h24:=hsG _ (List.getElem_mem hk)
  obtain⟨t,x,e1,e2,ht,hmem,hsub⟩:=aUH (s:=m.aA.Global[c.toNat]) (by omega)
  have hall:=mA m.aA
  refine⟨_,t,x,hx,e1,?_,⟨by simp only;omega,by simp only;omega,by simp only [List.length_set];omega,by simp only;omega,?_⟩,fun h0=>?_,yX.aQJ hm (by omega) (by rw [←fV hk];exact hsub)⟩
  · unfold yI qE
    rw [hcp,hlo,iV,bL hc]
    simp only [aI,eD,a9,if_false]
    rw [hx,aI,e2];rfl
  · have:=aFJ hk ht
    rw [mA];simp only;omega
  · have:=hm.2.1 c.toNat (by omega) x (by rw [←fV hk];exact hmem h0)
    omega
theorem aW6{w h:Int}(hw:0≤w∧w≤2)(hv:CA m h):∃m',J5 m w (h % 32)=some m'∧OB m w h=some m'∧zL m'∧vU m m' (h % 32):=by
  obtain⟨hcnt,h3,h9,h1,h2,hsm,hcp,hlo,hsG,hsO⟩:=yX.facts hm
  have hs:=hm.1.1.1
  have hh:=hv.1
  have hhm:=hh.mod
  have hcl:=KZ hv.2.1
  have hgo:=OW hcl
  have hc2:0≤bS m.aG (h % 32)∧bS m.aG (h % 32)≤2:=by
    obtain⟨_,q,e⟩:=HI hcl
    rw [e];exact nJ.1 (by omega)
  have hg6:1≤h / 32∧h / 32≤6:=by unfold rN at hh;omega
  have hbl:m.aG.Bytes.length≤maxLen:=by rw [h1];simp [maxLen]
  have hnot:h % 32∉eC m.aA:=fun q=>by
    have:=hv.2.1;unfold lD at this;rw [if_neg (by omega),if_pos q] at this;omega
  have hcpH:=OZ (h:=m.aG) (by omega) (by omega)
  have eo:gH (h % 32) (bS m.aG (h % 32))=(((gH (h % 32) (bS m.aG (h % 32))).toNat:Nat):Int):=by omega
  have ew:aE (h / 32+1)=h / 32+1:=aU (by omega) (by omega)
  have ed:aE (Int.tdiv h 32)=h / 32:=by rw [ET (by unfold rN at hh;omega),aU (by omega) (by omega)]
  have hall:=mA m.aA
  obtain⟨hr1,hr2⟩:=yX.a2N hm hv.2.1 (g:=h / 32+1) (by omega)
  have hu:=rO.1 hv.2.1
  unfold J5 OB RB p8
  rw [hhm.1,m3 hs,hcpH,B7 hbl,bL hs,kK hs,ed,ew,hcp]
  simp only [aI,eD,a9,if_false,IN,BD,IM]
  rw [xI hs hcl,hv.2.2,dO,bH (show ¬bS m.aG (h % 32) < 0 by omega),bL (show 1≤h / 32+1∧h / 32+1≤7 by omega)]
  simp only [aI,eD,a9,if_false,xG,xH,ew]
  generalize hgn:(gH (h % 32) (bS m.aG (h % 32))).toNat=a at eo
  rw [hgn] at hr1 hr2
  rw [eo,P5 (by omega) (by omega) (by omega),T2 (by omega)]
  simp only [aI]
  rw [R4 (by omega) (by omega) (by omega)]
  simp only [aI,H7,LG,ed,ew,hhm.1]
  by_cases q:h / 32+1≤6
  · have hk:(w * 3+bS m.aG (h % 32)).toNat < m.aA.bQ.length:=by omega
    have hx:idx m.aA.bQ (w * 3+bS m.aG (h % 32))=some m.aA.bQ[(w * 3+bS m.aG (h % 32)).toNat]:=r9 (by omega) (by omega)
    have hk2:(bS m.aG (h % 32)).toNat < m.aA.Global.length:=by omega
    have hx2:idx m.aA.Global (bS m.aG (h % 32))=some m.aA.Global[(bS m.aG (h % 32)).toNat]:=r9 (by omega) (by omega)
    have b1:=hsO _ (List.getElem_mem hk)
    have b2:=hsG _ (List.getElem_mem hk2)
    rw [bL q,if_pos rfl,if_pos rfl]
    unfold QV XN vD
    rw [kK hs,aI,hcp,(WQ hw hc2).1,(WQ hw hc2).2,hlo,tZ,bL (show 0≤h % 32∧h % 32≤23 by omega),R2 (by omega) (by simp only [maxLen];omega) (by simp only [maxLen];omega),bH hnot]
    simp only [aI,eD,a9,if_false,hx,hx2]
    have nz:¬w * 3+bS m.aG (h % 32) < 0:=by omega
    simp only [bH nz,a9,if_false]
    by_cases q2:m.aA.bQ[(w * 3+bS m.aG (h % 32)).toNat].aL.length < 2
    · have y1:(m.aA.bQ[(w * 3+bS m.aG (h % 32)).toNat].aL.length:Int) < 2:=by omega
      have y2:¬(2:Int)≤m.aA.bQ[(w * 3+bS m.aG (h % 32)).toNat].aL.length:=by omega
      simp only [bL y1,bH y2,a9,if_false,if_true]
      rw [aP (by simp;omega),aP (by simp;omega)]
      refine⟨_,rfl,rfl,⟨by simp only [EF];omega,by simp only;omega,by simp only;omega,by simp only [List.length_set];omega,?_⟩,?_⟩
      · rw [mA];simp only [U0 hk];simp;omega
      · have hmod:((w * 3+bS m.aG (h % 32)).toNat % 3:Nat)=(bS m.aG (h % 32)).toNat:=by omega
        obtain⟨z1,z2⟩:=yX.aW5 hr1.1 (k:=(w * 3+bS m.aG (h % 32)).toNat) (by omega) (xs:=[h % 32]) (by simp only [←fV hk,List.length_cons,List.length_nil];omega) (by simp) (fun x hx=>by
          simp at hx;subst hx
          exact⟨by rw [hmod];show bS m.aG (h % 32)=_;omega,by rw [hr2];omega⟩) (fun x hx=>by simp at hx;subst hx;exact hnot) hk
        refine⟨z1,fun s h1 h2=>?_⟩
        obtain⟨y1,y2,y3⟩:=hr1.2 s h1 h2
        exact⟨z2 s (by simpa using h2) y1,y2,y3⟩
    · have y1:¬(m.aA.bQ[(w * 3+bS m.aG (h % 32)).toNat].aL.length:Int) < 2:=by omega
      have y2:(2:Int)≤m.aA.bQ[(w * 3+bS m.aG (h % 32)).toNat].aL.length:=by omega
      simp only [bL y2,bH y1,a9,if_false,if_true]
      rw [aP (by simp;omega),aP (by simp;omega)]
      refine⟨_,rfl,rfl,⟨by simp only [EF];omega,by simp only;omega,by simp only [List.length_set];omega,by simp only;omega,?_⟩,?_⟩
      · rw [mA];simp only [U0 hk2];simp;omega
      · obtain⟨z1,z2⟩:=yX.aFI hr1.1 (k:=(bS m.aG (h % 32)).toNat) (by omega) (xs:=[h % 32]) (by simp) (fun x hx=>by
          simp at hx;subst hx
          exact⟨by show bS m.aG (h % 32)=_;omega,by rw [hr2];omega⟩) (fun x hx=>by simp at hx;subst hx;exact hnot) hk2
        refine⟨z1,fun s h1 h2=>?_⟩
        obtain⟨y1,y2,y3⟩:=hr1.2 s h1 h2
        exact⟨z2 s (by simpa using h2) y1,y2,y3⟩
  · rw [bH q,if_neg (by simp),if_neg (by simp)]
    refine⟨_,rfl,rfl,⟨by simp only [EF];omega,by simp only;omega,by simp only;omega,by simp only;omega,by rw [mA];simp only;omega⟩,hr1⟩
end
theorem alloc_eq{b:aD}(hm:yX b.Mem){w:Int}(hw:0≤w∧w≤2)(s:Sub) :
    ∃x y,DG b w s=some (x,y)∧qF s b w=some (y,x)∧∃m',x=⟨m',b.aJ,b.aX,b.jQ⟩∧zL m'∧vU b.Mem m' (-1):=by
  have hsm:=(yX.facts hm).2.2.2.2.2.1
  have hs:=hm.1.1.1
  obtain⟨c,ec,ei,hcc⟩:=aNN s.A
  unfold DG qF
  rw [ec,ei]
  simp only [aI]
  by_cases c0:c < 0
  · simp only [bL c0,if_true,b7,bC];exact⟨_,_,rfl,rfl,_,rfl,hsm,vU.refl hm _⟩
  have hc:0≤c∧c≤2:=by omega
  simp only [bH c0,a9,if_false]
  have fin:∀(m':Mem) (x:Int),zL m'→vU b.Mem m' (-1)→(0≤x→fQ m'.aG∧0≤bS m'.aG x) →
      ∃X Y,lN s x ⟨m',b.aJ,b.aX,b.jQ⟩=some (X,Y)∧gP s x ⟨m',b.aJ,b.aX,b.jQ⟩=some (Y,X)∧∃m',X=⟨m',b.aJ,b.aX,b.jQ⟩∧zL m'∧vU b.Mem m' (-1):=by
    intro m' x hs' hst hx
    unfold lN gP
    simp only [uR,N2,b7,bC]
    by_cases x0:0≤x
    · obtain⟨h,e1,e2⟩:=aQI (m:=m') (hx x0).1 (hx x0).2
      rw [bH (show ¬x < 0 by omega),bL x0]
      simp only [a9,if_false,if_true,e1,e2,aI]
      exact⟨_,_,rfl,rfl,m',rfl,hs',hst⟩
    · rw [bL (show x < 0 by omega),bH x0]
      by_cases p3:s.Pc=3
      · simp only [p3,beq_self_eq_true,if_true,a9,if_false,aI];exact⟨_,_,rfl,rfl,m',rfl,hs',hst⟩
      · have p3':(s.Pc == 3)=false:=by simpa using p3
        simp only [p3',if_true,a9,if_false,aI];exact⟨_,_,rfl,rfl,m',rfl,hs',hst⟩
  by_cases p0:s.Pc=0
  · obtain⟨l,t,x,e1,e2,e3,h1,h2,h3⟩:=aNO hm hw hc
    simp only [p0,beq_self_eq_true,if_true,(WQ hw hc).1,aI,e1,e2,e3]
    exact fin _ x h1 h3 (fun h=>⟨hs,h2 h⟩)
  · have p0':(s.Pc == 0)=false:=by simpa using p0
    simp only [p0',a9,if_false,uS,mE]
    obtain⟨l,t,x,e1,e2,e3,h1,h2,h3⟩:=aHI hm hc
    by_cases p1:s.Pc=1
    · simp only [p1,beq_self_eq_true,if_true,aI,e1,e2,e3]
      exact fin _ x h1 h3 (fun h=>⟨hs,h2 h⟩)
    · have p1':(s.Pc == 1)=false:=by simpa using p1
      simp only [p1',a9,if_false]
      by_cases p3:s.Pc=3
      · simp only [p3,beq_self_eq_true,if_true,aI,e1,e2,e3]
        exact fin _ x h1 h3 (fun h=>⟨hs,h2 h⟩)
      · have p3':(s.Pc == 3)=false:=by simpa using p3
        simp only [p3',a9,if_false]
        by_cases p2:s.Pc=2
        · obtain⟨m',x,e1,e2,h1,h2,h3⟩:=aUG hm hc
          simp only [p2,beq_self_eq_true,if_true,aI,e1,e2]
          exact fin m' x h1 h3 h2
        · have p2':(s.Pc == 2)=false:=by simpa using p2
          simp only [p2',a9,if_false,b7,bC];exact⟨_,_,rfl,rfl,_,rfl,hsm,vU.refl hm _⟩
end Go.Gv
end
noncomputable section
namespace Go.Gv
theorem aPM(r:bM)(e:Int):∃v,ML r e=some v∧MU r e=some v:=by
  unfold ML MU GA GW
  by_cases h:2≤e
  · simp only [bL h,if_true];exact⟨_,rfl,rfl⟩
  · simp only [bH h,a9,if_false];exact⟨_,rfl,rfl⟩
theorem aW7{b:aD}{w:Int}{l:aO}(hx:idx b.aX w=some l)(hl:l.Rows.length≤1000)(s:Sub) :
    (AN l.Rows s.Row s.E=some (-1)∧nE s b w=(bC s 0).bind fun x=>some (x,b)) ∨
    ∃k,∃h:k < l.Rows.length,AN l.Rows s.Row s.E=some (k:Int)∧nE s b w=some (⟨s.Kind,s.A,2,s.E,(k:Int),0,l.Rows[k].Handle,s.Out,s.Code,s.cJ⟩,b):=by
  have key:∀d k,k+d=l.Rows.length →
      (loop (gY l.Rows s.E) (k:Int)=some (Out.brk ())∧loop (eA s b w) (k:Int)=some (Out.brk ())) ∨
      ∃j,∃h:j < l.Rows.length,loop (gY l.Rows s.E) (k:Int)=some (Out.ret (j:Int))∧loop (eA s b w) (k:Int)=some (Out.ret (⟨s.Kind,s.A,2,s.E,(j:Int),0,l.Rows[j].Handle,s.Out,s.Code,s.cJ⟩,b)):=by
    intro d
    induction d with
    | zero =>
      intro k hk
      left
      exact⟨bZ (by simp only [gY];rw [if_neg (by simp;omega)]),bZ (by simp only [eA,hx,aI];rw [if_neg (by simp;omega)])⟩
    | succ d ih =>
      intro k hk
      have hk':k < l.Rows.length:=by omega
      obtain⟨v,e1,e2⟩:=aPM l.Rows[k] s.E
      cases v with
      | true =>
        right
        refine⟨k,hk',bZ ?_,bZ ?_⟩
        · simp only [gY]
          rw [if_pos (by simp;omega),aQ hk',aI,e1];rfl
        · simp only [eA,hx,aI]
          rw [if_pos (by simp;omega),aQ hk',aI,e2];rfl
      | false =>
        have n1:gY l.Rows s.E (k:Int)=some (.next ((k+1:Nat):Int)):=by
          simp only [gY]
          rw [if_pos (by simp;omega),aQ hk',aI,e1,aI,aU (by omega) (by omega)];rfl
        have n2:eA s b w (k:Int)=some (.next ((k+1:Nat):Int)):=by
          simp only [eA,hx,aI]
          rw [if_pos (by simp;omega),aQ hk',aI,e2,aI,aU (by omega) (by omega)];rfl
        rw [cH n1,cH n2]
        exact ih (k+1) (by omega)
  unfold AN nE
  have hst:∃i:Nat,(if 0 < s.Row then s.Row else 0)=(i:Int)∧(if s.Row < 0 then 0 else s.Row)=(i:Int):=by
    refine⟨s.Row.toNat,?_,?_⟩ <;> split <;> omega
  obtain⟨i,i1,i2⟩:=hst
  rw [i1,i2]
  by_cases hi:i≤l.Rows.length
  · rcases key (l.Rows.length - i) i (by omega) with ⟨a,c⟩ | ⟨j,hj,a,c⟩
    · left;rw [a,c];exact⟨rfl,rfl⟩
    · right;rw [a,c];exact⟨j,hj,rfl,rfl⟩
  · left
    rw [bZ (body:=gY l.Rows s.E) (r:=Out.brk ()) (by simp only [gY];rw [if_neg (by simp;omega)]),
      bZ (body:=eA s b w) (r:=Out.brk ()) (by simp only [eA,hx,aI];rw [if_neg (by simp;omega)])]
    exact⟨rfl,rfl⟩
theorem del_eq{α:Type}{l:List α}{k:Nat}(h:k < l.length):((cT l k (l.drop (k+1))).take (k+(l.length - (k+1)))).drop 0=l.eraseIdx k:=by
  have h1:(l.take k).length=k:=by rw [List.length_take];omega
  have h2:(l.drop (k+1)).length=l.length - (k+1):=by simp
  unfold cT
  rw [List.drop_zero,List.eraseIdx_eq_take_drop_succ,List.take_of_length_le (l:=l.drop (k+1)) (by rw [h2];omega),←List.append_assoc]
  rw [show k+(l.length - (k+1))=(l.take k++l.drop (k+1)).length by rw [List.length_append,h1,h2]]
  exact List.take_left
theorem aNP{α:Type}{l:List α}{k:Nat}(h:k < l.length):l.Perm (l[k] :: l.eraseIdx k):=by
  have e:l=l.take k++l[k] :: l.drop (k+1):=by rw [←List.drop_eq_getElem_cons h,List.take_append_drop]
  rw [List.eraseIdx_eq_take_drop_succ]
  refine(List.Perm.of_eq e).trans ?_
  exact List.perm_middle
theorem sM.drop{b:List aO}(hL:sM b){w:Nat}(hw:w < b.length):∀k (hk:k < b[w].Rows.length),sM (b.set w ⟨b[w].Rows.eraseIdx k⟩)∧∀r∈bP (b.set w ⟨b[w].Rows.eraseIdx k⟩),r∈bP b∧r.Handle % 32≠b[w].Rows[k].Handle % 32:=by
  intro k hk
  have hsub:(bP (b.set w ⟨b[w].Rows.eraseIdx k⟩)).Sublist (bP b):=by
    rw [NN hw,K0 hw]
    exact(List.Sublist.refl _).append ((List.eraseIdx_sublist _ _).append (List.Sublist.refl _))
  have hnd:=hL.2.2.2
  refine⟨⟨by simpa using hL.1,Nat.le_trans hsub.length_le hL.2.1,fun r hr=>hL.2.2.1 r (hsub.subset hr),(hsub.map mB).nodup hnd⟩,fun r hr=>⟨hsub.subset hr,?_⟩⟩
  have hp:(bP b).Perm (b[w].Rows[k] :: bP (b.set w ⟨b[w].Rows.eraseIdx k⟩)):=by
    rw [NN hw,K0 hw]
    refine List.Perm.trans (List.Perm.append_left _ (List.Perm.append_right _ (aNP hk))) ?_
    exact List.perm_middle
  have:=(hp.map mB).nodup_iff.1 hnd
  rw [List.map_cons,List.nodup_cons] at this
  exact fun e=>this.1 (List.mem_map.2 ⟨r,hr,e⟩)
theorem aNQ{b:aD}(hb:uA b){w:Int}(hw:0≤w∧w≤2)(s:Sub) :
    ∃x y,xV b w s=some (x,y)∧nF s b w=some (y,x)∧∃m' L,x=⟨m',b.aJ,L,b.jQ⟩∧zL m'∧yX m'∧sM L∧∀r∈bP L,CA m' r.Handle∧r.aM≤b.aJ.aM:=by
  have hm:=hb.1.1
  have hL:=hb.1.2.2.1
  have hZ:=hb.1.2.2.2
  have hsm:=(yX.facts hm).2.2.2.2.2.1
  have hlen:w.toNat < b.aX.length:=by have:=hL.1;omega
  have hx:idx b.aX w=some b.aX[w.toNat]:=r9 hw.1 (by omega)
  have hrow:=hL.small.2.2.2 _ (List.getElem_mem hlen)
  have hmemL:b.aX[w.toNat]∈b.aX:=List.getElem_mem hlen
  have hset:=sM.drop hL hlen
  generalize b.aX[w.toNat]=l at hx hrow hset hmemL
  have done:∀y:Sub,∃x z,(some (b,y):Option (aD×Sub))=some (x,z)∧(some (y,b):Option (Sub×aD))=some (z,x)∧∃m' L,x=⟨m',b.aJ,L,b.jQ⟩∧zL m'∧yX m'∧sM L∧∀r∈bP L,CA m' r.Handle∧r.aM≤b.aJ.aM:=
    fun y=>⟨_,_,rfl,rfl,b.Mem,b.aX,rfl,hsm,hm,hL,hb.2⟩
  have hw1:aE ((l.Rows.length:Int) - 1)=(l.Rows.length:Int) - 1:=aU (by omega) (by omega)
  have hhas:EP b.aX w s.Row=some (decide (0≤s.Row∧s.Row≤(l.Rows.length:Int) - 1)):=by
    unfold EP BC
    rw [lI,bL hw,aI,if_pos rfl,hx,aI,dO,hw1];rfl
  unfold xV nF
  rw [hhas,hx]
  simp only [aI,b7,cW,hw1]
  have hat:∃a:Bool,(if decide (0≤s.Row∧s.Row≤(l.Rows.length:Int) - 1)=true then (idx l.Rows s.Row).bind fun x15=>eU s b w (x15.Handle == s.H) else eU s b w false)=eU s b w a ∧
      (if (!decide (0≤s.Row∧s.Row≤(l.Rows.length:Int) - 1))=true then eG b s true else (idx l.Rows s.Row).bind fun x11=>eG b s (x11.Handle != s.H))=eG b s (!a) ∧
      (a=true→∃r,r∈l.Rows∧idx l.Rows s.Row=some r∧r.Handle=s.H∧0≤s.Row∧s.Row < l.Rows.length) ∧
      (a=false→∀f:bM→Option (aD×Sub),(if (!decide (0≤s.Row∧s.Row≤(l.Rows.length:Int) - 1))=true then eH b w s l true else (idx l.Rows s.Row).bind fun x=>if (x.Handle != s.H)=true then eH b w s l true else f x)=eH b w s l true):=by
    by_cases q:0≤s.Row∧s.Row≤(l.Rows.length:Int) - 1
    · have hr:idx l.Rows s.Row=some (l.Rows[s.Row.toNat]'(by omega)):=r9 q.1 (by omega)
      by_cases q2:(l.Rows[s.Row.toNat]'(by omega)).Handle=s.H
      · refine⟨true,?_,?_,fun _=>⟨_,List.getElem_mem _,hr,q2,q.1,by omega⟩,fun h=>by cases h⟩
        · rw [bL q,if_pos rfl,hr,aI,q2,beq_self_eq_true]
        · rw [bL q,if_neg (by simp),hr,aI,q2,bne_self_eq_false];rfl
      · have n1:((l.Rows[s.Row.toNat]'(by omega)).Handle == s.H)=false:=by simpa using q2
        have n2:((l.Rows[s.Row.toNat]'(by omega)).Handle != s.H)=true:=by simpa using q2
        refine⟨false,?_,?_,(fun h=>by cases h),fun _ f=>?_⟩
        · rw [bL q,if_pos rfl,hr,aI,n1]
        · rw [bL q,if_neg (by simp),hr,aI,n2];rfl
        · rw [bL q,if_neg (by simp),hr,aI,n2,if_pos rfl]
    · refine⟨false,?_,?_,(fun h=>by cases h),fun _ f=>?_⟩
      · rw [bH q,if_neg (by simp)]
      · rw [bH q,if_pos (by simp)];rfl
      · rw [bH q,if_pos (by simp)]
  obtain⟨a,ha1,ha2,ha3,ha4⟩:=hat
  rw [ha1,ha2]
  unfold eU
  by_cases p0:s.Pc=0
  · simp only [p0,beq_self_eq_true,if_true];exact done _
  have p0':(s.Pc == 0)=false:=by simpa using p0
  simp only [p0',a9,if_false]
  by_cases p1:s.Pc=1
  · simp only [p1,beq_self_eq_true,if_true]
    rcases aW7 hx (by omega) s with ⟨e1,e2⟩ | ⟨k,hk,e1,e2⟩
    · rw [e1,e2,aI,if_pos (by simp)];simp only [bC,p1,aI];exact done _
    · rw [e1,e2,aI,if_neg (by simp),aQ hk];simp only [aI];exact done _
  have p1':(s.Pc == 1)=false:=by simpa using p1
  simp only [p1',a9,if_false]
  by_cases p2:s.Pc=2
  · simp only [p2,beq_self_eq_true,if_true,lI,aI]
    by_cases hB:0≤s.B∧s.B≤2
    · rw [bL hB]
      simp only [eD,a9,if_false,if_true]
      cases a with
      | true =>
        have hz:idx b.jQ s.B=some (b.jQ[s.B.toNat]'(by have:=hZ.1;omega)):=r9 hB.1 (by have:=hZ.1;omega)
        simp only [eG,dU,eD,a9,if_false,if_true,hz,aI,pY]
        by_cases q:(b.jQ[s.B.toNat]'(by have:=hZ.1;omega))=s.H
        · simp only [q,beq_self_eq_true,if_true];exact done _
        · have q':((b.jQ[s.B.toNat]'(by have:=hZ.1;omega)) == s.H)=false:=by simpa using q
          simp only [q',a9,if_false]
          by_cases q3:aE (s.B+1)=3
          · simp only [q3,beq_self_eq_true,if_true];exact done _
          · have q3':(aE (s.B+1) == 3)=false:=by simpa using q3
            simp only [q3',a9,if_false];exact done _
      | false =>
        simp only [eG,dU,cZ,b7,bC,lJ,if_true,a9,if_false,p2,show((2:Int) == 3)=false from rfl,aI]
        exact done _
    · rw [bH hB]
      simp only [eG,dU,cZ,b7,bC,lJ,if_true,a9,if_false,p2,show((2:Int) == 3)=false from rfl,aI]
      exact done _
  have p2':(s.Pc == 2)=false:=by simpa using p2
  simp only [p2',a9,if_false,dU]
  by_cases p3:s.Pc=3
  · simp only [p3,beq_self_eq_true,if_true]
    cases a with
    | false =>
      rw [ha4 rfl]
      simp only [eH,cZ,b7,bC,if_true,a9,if_false,aI]
      exact done _
    | true =>
      obtain⟨r,hrm,hr,hrH,r0,r1⟩:=ha3 rfl
      obtain⟨v,e1,e2⟩:=aPM r s.E
      rw [bL (show 0≤s.Row∧s.Row≤(l.Rows.length:Int) - 1 by omega)]
      simp only [eD,a9,if_false,if_true,hr,aI,hrH,bne_self_eq_false,hx,e1,e2]
      cases v with
      | false =>
        simp only [eH,cZ,b7,bC,lJ,if_true,a9,if_false,aI]
        exact done _
      | true =>
        have hlive:CA b.Mem s.H:=by
          have:r∈bP b.aX:=List.mem_flatMap.2 ⟨l,hmemL,hrm⟩
          have:=(hb.2 r this).1
          rwa [hrH] at this
        obtain⟨m',f1,f2,f3,f4⟩:=aW6 hm hw hlive
        have ew:aE (s.Row+1)=s.Row+1:=aU (by omega) (by omega)
        have hdrop:GX b.aX w s.Row=some (b.aX.set w.toNat ⟨((cT l.Rows s.Row.toNat (l.Rows.drop (s.Row+1).toNat)).take (s.Row.toNat+(l.Rows.length - (s.Row+1).toNat))).drop 0⟩,true):=by
          unfold GX yJ
          rw [LW hL.small.2.2.1 (fun s h=>by have:=hL.small.2.2.2 s h;omega),yY hL.small.1,bL hL,hhas,bL (show 0≤s.Row∧s.Row≤(l.Rows.length:Int) - 1 by omega)]
          simp only [aI,eD,a9,if_false,hx,ew]
          unfold zG
          rw [aP (by omega),if_neg (by simp;omega),aP (by omega),aP (by omega),aP (by omega),aP]
          · rfl
          · rw [eR (by omega)]
            simp only [List.drop_zero,List.length_take,eR (show s.Row.toNat≤l.Rows.length by omega)]
            omega
        simp only [eH,cZ,y9,ew,eD,a9,if_false,if_true]
        rw [aP (by omega),aP (by omega),aP (by omega),fB,if_pos hlive.1,aI,f1,f2,hdrop]
        have hk:s.Row.toNat < l.Rows.length:=by omega
        have eL:((cT l.Rows s.Row.toNat (l.Rows.drop (s.Row+1).toNat)).take (s.Row.toNat+(l.Rows.length - (s.Row+1).toNat))).drop 0=l.Rows.eraseIdx s.Row.toNat:=by
          rw [show(s.Row+1).toNat=s.Row.toNat+1 by omega];exact del_eq hk
        have er:l.Rows[s.Row.toNat]=r:=by
          have:=aQ hk
          rw [show((s.Row.toNat:Nat):Int)=s.Row by omega,hr] at this
          exact(Option.some.inj this).symm
        rw [eL] at hdrop ⊢
        obtain⟨g1,g2⟩:=hset s.Row.toNat hk
        refine⟨_,_,rfl,rfl,m',_,rfl,f3,f4.1,g1,fun q hq=>?_⟩
        obtain⟨g3,g4⟩:=g2 q hq
        obtain⟨g5,g6⟩:=hb.2 q g3
        refine⟨f4.live g5 fun e=>?_,g6⟩
        rw [er,hrH] at g4
        exact g4 e
  · have p3':(s.Pc == 3)=false:=by simpa using p3
    simp only [p3',a9,if_false,cZ,bC,aI]
    exact done _
end Go.Gv
end
noncomputable section
namespace Go.Gv
theorem JA.fits{b:aD}(h:JA b):b.Mem.aG.Bytes.length≤maxLen∧(eC b.Mem.aA).length≤1073741824∧b.aJ.bD.length≤maxLen∧b.aX.length≤maxLen∧(bP b.aX).length≤1073741824∧b.jQ.length≤maxLen:=by
  have hb:(1048576:Nat)≤maxLen:=by simp [maxLen]
  have g1:=h.1.1;have g2:=h.1.2.2.2.2;have g3:=h.2.1;have g4:=h.2.2.1;have g5:=h.2.2.2.1;have g6:=h.2.2.2.2
  exact⟨by omega,by omega,by omega,by omega,by omega,by omega⟩
theorem step_eq{b:aD}(hb:uA b)(hs:JA b){w:Int}(hw:0≤w∧w≤2)(s:Sub) :
    ∃x y,zA b w s=some (x,y)∧jH s b w=some (y,x)∧uA x:=by
  have hz:=hb.1.2.2.2.1
  have hl:=hb.1.2.2.1
  unfold zA jH
  cases hd:s.cJ with
  | true=>exact⟨_,_,rfl,rfl,hb⟩
  | false =>
    simp only [a9,if_false]
    by_cases k1:s.Kind=1
    · obtain⟨x,y,e1,e2,m,rfl,h1,h2⟩:=alloc_eq hb.1.1 hw s
      simp only [k1,beq_self_eq_true,if_true,e1,e2,aI]
      exact⟨_,_,rfl,rfl,⟨h2.1,hb.1.2⟩,fun r hr=>⟨h2.live (hb.2 r hr).1 (by have:=(hb.2 r hr).1.1;unfold rN at this;omega),(hb.2 r hr).2⟩⟩
    have k1':(s.Kind == 1)=false:=by simpa using k1
    simp only [k1',a9,if_false]
    by_cases k2:s.Kind=2
    · obtain⟨x,y,e1,e2,L,rfl,h1,h2⟩:=aQF hb hs hw s
      simp only [k2,beq_self_eq_true,if_true,e1,e2,aI]
      exact⟨_,_,rfl,rfl,⟨hb.1.1,hb.1.2.1,h1,hb.1.2.2.2⟩,h2⟩
    have k2':(s.Kind == 2)=false:=by simpa using k2
    simp only [k2',a9,if_false]
    by_cases k3:s.Kind=3
    · obtain⟨x,y,e1,e2,c,rfl,h1,h2⟩:=aNI hb.1.2.1 s
      simp only [k3,beq_self_eq_true,if_true,e1,e2,aI]
      exact⟨_,_,rfl,rfl,⟨hb.1.1,h1,hb.1.2.2⟩,fun r hr=>⟨(hb.2 r hr).1,Int.le_trans (hb.2 r hr).2 h2⟩⟩
    have k3':(s.Kind == 3)=false:=by simpa using k3
    simp only [k3',a9,if_false]
    by_cases k4:s.Kind=4
    · obtain⟨x,y,e1,e2,m,L,rfl,h1,h2,h3,h4⟩:=aNQ hb hw s
      simp only [k4,beq_self_eq_true,if_true,e1,e2,aI]
      exact⟨_,_,rfl,rfl,⟨h2,hb.1.2.1,h3,hb.1.2.2.2⟩,h4⟩
    have k4':(s.Kind == 4)=false:=by simpa using k4
    simp only [k4',a9,if_false]
    by_cases k5:s.Kind=5
    · obtain⟨x,y,e1,e2,c,rfl,h1,h2⟩:=aZY hb.1.2.1 hw s
      simp only [k5,beq_self_eq_true,if_true,e1,e2,aI]
      exact⟨_,_,rfl,rfl,⟨hb.1.1,h1,hb.1.2.2⟩,fun r hr=>⟨(hb.2 r hr).1,Int.le_trans (hb.2 r hr).2 h2⟩⟩
    have k5':(s.Kind == 5)=false:=by simpa using k5
    simp only [k5',a9,if_false,b7,bC,aI]
    exact⟨_,_,rfl,rfl,hb⟩
theorem uA.small{b:aD}(hb:uA b):JA b:=by
  have h1:=hb.1.2.1.2.1;have h2:=hb.1.2.2.1.1;have h3:=hb.1.2.2.1.2.1;have h4:=hb.1.2.2.2.1
  exact⟨(yX.facts hb.1.1).2.2.2.2.2.1,by omega,by omega,by omega,by omega⟩
end Go.Gv
end
noncomputable section
namespace Go.Gv
theorem aB2{b:List Int}{a:Nat}{n:Int}(h:a+4≤b.length){j:Nat}(hj:j < a∨a+4≤j):bt (LX b a n) j=bt b j:=by
  unfold LX
  rw [JB (by simp;omega),JB (by simp;omega),JB (by simp;omega),JB (by omega),if_neg (by omega),if_neg (by omega),if_neg (by omega),if_neg (by omega)]
theorem YE.put{h:aG}(hh:YE h){s:Int}(hc:0≤bS h s){n:Int}(hn:0≤n∧n≤4294967295) :
    YE ⟨LX h.Bytes ((gH s (bS h s)).toNat+4) n,h.Class⟩∧∀t,0≤bS h t→nP ⟨LX h.Bytes ((gH s (bS h s)).toNat+4) n,h.Class⟩ t=nP h t:=by
  obtain⟨hs,hp⟩:=hh
  have h384:=hs.1
  have hs':fQ ⟨LX h.Bytes ((gH s (bS h s)).toNat+4) n,h.Class⟩:=⟨by rw [WL];exact hs.1,hs.2.1,aQG hs.2.2.1 _ hn,hs.2.2.2⟩
  obtain⟨p,i,p6,hi,es,ec,eo,ep⟩:=JC hc
  have hcl:0≤bY h p∧bY h p≤2:=nJ.1 (by omega)
  have hroom:8+i * (aY (bY h p)).toNat+8≤64∧∀j,j < (cP (bY h p)).toNat→j * (aY (bY h p)).toNat+4≤i * (aY (bY h p)).toNat+4∨i * (aY (bY h p)).toNat+12≤j * (aY (bY h p)).toNat:=by
    generalize bY h p=c at hi hcl
    rcases gQ hcl with rfl | rfl | rfl
    · rw [show(cP 0).toNat=4 from rfl] at *;rw [show(aY 0).toNat=12 from rfl]
      exact⟨by omega,fun j hj=>by omega⟩
    · rw [show(cP 1).toNat=2 from rfl] at *;rw [show(aY 1).toNat=20 from rfl]
      exact⟨by omega,fun j hj=>by omega⟩
    · rw [show(cP 2).toNat=1 from rfl] at *;rw [show(aY 2).toNat=44 from rfl]
      exact⟨by omega,fun j hj=>by omega⟩
  have hgen:∀q j,q < 6→j < (cP (bY h q)).toNat→ld (LX h.Bytes ((gH s (bS h s)).toNat+4) n) (q * 64+8+j * (aY (bY h q)).toNat) 4=ld h.Bytes (q * 64+8+j * (aY (bY h q)).toNat) 4:=fun q j hq hj=>by
    have hz:=vM hs hq rfl hj
    refine SQ (by omega) (by simp only [WL]) fun k k1 k2=>?_
    by_cases e:q=p
    · subst e
      have:=hroom.2 j hj
      exact aB2 (by omega) (by omega)
    · exact aB2 (by omega) (by omega)
  refine⟨⟨hs',fun q hq=>?_⟩,fun t ht=>?_⟩
  · rw [NO hs' hq]
    have hold:=(NO hs hq).1 (hp q hq)
    by_cases e:q=p
    · subst e
      have hcl':¬bY h q < 0:=by omega
      unfold aBB at hold ⊢
      have hcc:bY ⟨LX h.Bytes ((gH s (bS h s)).toNat+4) n,h.Class⟩ q=bY h q:=rfl
      rw [hcc]
      rw [if_neg hcl'] at hold ⊢
      obtain⟨⟨a1,a2,a3⟩,a4,a5⟩:=hold
      have bs:∀k,k < 8→bt (LX h.Bytes ((gH s (bS h s)).toNat+4) n) (q * 64+k)=bt h.Bytes (q * 64+k):=fun k hk=>aB2 (by omega) (by omega)
      have b0:=bs 0 (by omega);have b1:=bs 1 (by omega);have b2:=bs 2 (by omega)
      simp only [Nat.add_zero] at b0
      refine⟨⟨by rw [b0];exact a1,by rw [b1];exact a2,by rw [b2];exact a3⟩,fun k k3 k8=>by rw [bs k k8];exact a4 k k3 k8,fun j hj=>?_⟩
      rw [hgen q j hq hj];exact a5 j hj
    · refine aBB.same hq hs (by simp only [WL]) rfl (fun k hk=>aB2 (by omega) (by omega)) hold
  · obtain⟨p',i',p6',hi',es',ec',eo',ep'⟩:=JC ht
    have e2:bS ⟨LX h.Bytes ((gH s (bS h s)).toNat+4) n,h.Class⟩ t=bS h t:=rfl
    unfold nP
    rw [e2,eo']
    exact hgen p' i' p6' hi'
theorem yX.put{m:Mem}(hm:yX m){s:Int}(hc:0≤bS m.aG s){n:Int}(hn:0≤n∧n≤4294967295):vU m ⟨⟨LX m.aG.Bytes ((gH s (bS m.aG s)).toNat+4) n,m.aG.Class⟩,m.aA⟩ (-1):=by
  obtain⟨a,b⟩:=YE.put hm.1.1 hc hn
  refine⟨yX.heap hm a fun x hx=>⟨rfl,b x (yX.R6 hm hx).1⟩,fun t ht _=>?_⟩
  have ht':=rO.1 ht
  have e:=b t ht'.1
  exact⟨rO.2 ⟨ht'.1,ht'.2.1,by simp only [e];exact ht'.2.2⟩,e,rfl⟩
theorem start_eq{h:aG}(hs:fQ h){s:Int}(hc:0≤bS h s):AO s (bS h s)=some (gH s (bS h s)+4)∧GY s (bS h s)=some (gH s (bS h s)+4):=by
  have hg:=OW hc
  unfold AO GY
  rw [xG,xH,aI,if_neg (by simp;omega),aU (by omega) (by omega)]
  exact⟨rfl,rfl⟩
theorem aFK{h:aG}(hs:fQ h){s:Int}(hc:0≤bS h s):vG h s 0 4=some (gH s (bS h s)+4):=by
  have hg:=OW hc
  have hc2:0≤bS h s∧bS h s≤2:=by
    obtain⟨_,q,e⟩:=HI hc
    rw [e];exact nJ.1 (by omega)
  have hz:8≤l8 (bS h s)∧l8 (bS h s)≤40:=by rcases gQ hc2 with e | e | e <;> rw [e] <;> decide
  unfold vG OD
  rw [kK hs,aI,(start_eq hs hc).2,aI,if_neg (by simp;omega),RT]
  simp only [aI,dO]
  rw [aU (x:=gH s (bS h s)+4+l8 (bS h s)) (by omega) (by omega),aU (x:=gH s (bS h s)+4+l8 (bS h s) - (gH s (bS h s)+4)) (by omega) (by omega),aU (x:=gH s (bS h s)+4+l8 (bS h s) - (gH s (bS h s)+4) - 4) (by omega) (by omega),bL (by omega),aU (by omega) (by omega)]
  simp
theorem aL2{n:Int}(hn:0≤n∧n≤65535):∃t:List UInt8,H8 n 4=some t∧(t == [])=false:=by
  have st:∀(m:Int) (c:List UInt8) (i:Nat),c.length≤4→i < 4→0≤m→m≤4294967295→DH 4 (m,c,(i:Int))=some (.next (m / 256,[u8 (m % 256)]++c,((i+1:Nat):Int))):=fun m c i hc hi h0 h1=>by
    simp only [DH]
    rw [if_pos (by simp;omega),aP (by simp;omega),B5 h0,ET h0,aU (x:=m / 256) (by omega) (by omega),aU (by omega) (by omega)];rfl
  unfold H8
  rw [cW]
  simp only [aI,show(decide ((1:Int)≤4∧(4:Int)≤7))=true from rfl,eD,a9,if_false,DI,bH (show ¬n < 0 by omega)]
  rw [show(0:Int)=((0:Nat):Int) from rfl,cH (st n [] 0 (by simp) (by omega) hn.1 (by omega)),cH (st _ _ 1 (by simp) (by omega) (by omega) (by omega)),cH (st _ _ 2 (by simp) (by omega) (by omega) (by omega)),cH (st _ _ 3 (by simp) (by omega) (by omega) (by omega)),bZ (by simp only [DH];rw [if_neg (by simp)])]
  simp only [aI,TA,S9]
  rw [if_neg (by simp;omega)]
  exact⟨_,rfl,rfl⟩
theorem aNR{m:Mem}(hm:yX m){h n:Int}(hn:0≤n∧n≤65535):∃x c,GB m h 0 4 n=some (x,c)∧GZ m h 0 4 n=some (x,c)∧vU m x (-1)∧(c≠0→x=m):=by
  obtain⟨hcnt,h3,h9,h1,h2,hsm,hcp,hlo,hsG,hsO⟩:=yX.facts hm
  have hs:=hm.1.1.1
  have hbl:m.aG.Bytes.length≤maxLen:=by rw [h1];simp [maxLen]
  have hall:(eC m.aA).length≤1073741824:=by omega
  have hg:m.aA.Global.length≤maxLen:=by rw [h3];simp [maxLen]
  have ho:m.aA.bQ.length≤maxLen:=by rw [h9];simp [maxLen]
  have hw4:jG 4=some true:=by unfold jG;rw [dO];rfl
  unfold GB GZ QW RC
  rw [Y4 hsm,Y5 hsm,TY hbl hall,TZ hbl hall,bL hm,cW,hw4,aFD ⟨hn.1,by omega⟩]
  simp only [aI,eD,a9,if_false,AQ,BE,show(decide ((1:Int)≤4∧(4:Int)≤7))=true from rfl,FB hs hall hg ho,I9 hs hall hg ho]
  by_cases hv:CA m h
  · have hh:=hv.1
    have hcl:=KZ hv.2.1
    have hgo:=OW hcl
    have hc2:0≤bS m.aG (h % 32)∧bS m.aG (h % 32)≤2:=by
      obtain⟨_,q,e⟩:=HI hcl
      rw [e];exact nJ.1 (by omega)
    have hz:8≤l8 (bS m.aG (h % 32))∧l8 (bS m.aG (h % 32))≤40:=by rcases gQ hc2 with e | e | e <;> rw [e] <;> decide
    obtain⟨p,i,p6,hi,es,ec,eo,ep⟩:=JC hcl
    have hroom:(gH (h % 32) (bS m.aG (h % 32))).toNat+8≤384:=by
      rw [eo]
      have hcl':0≤bY m.aG p∧bY m.aG p≤2:=by rw [←ec];exact hc2
      generalize bY m.aG p=c at hi hcl'
      rcases gQ hcl' with rfl | rfl | rfl
      · rw [show(cP 0).toNat=4 from rfl] at hi;rw [show(aY 0).toNat=12 from rfl];omega
      · rw [show(cP 1).toNat=2 from rfl] at hi;rw [show(aY 1).toNat=20 from rfl];omega
      · rw [show(cP 2).toNat=1 from rfl] at hi;rw [show(aY 2).toNat=44 from rfl];omega
    simp only [bL hv,eD,a9,if_false,fB,if_pos hh,aI,m3 hs,I1,cW,hh.mod.1,aFK hs hcl]
    rw [aU (x:=l8 (bS m.aG (h % 32)) - 1) (by omega) (by omega),bL (show(0:Int)≤0∧(0:Int)≤l8 (bS m.aG (h % 32)) - 1 by omega),aU (x:=l8 (bS m.aG (h % 32)) - 0) (by omega) (by omega),bH (show ¬l8 (bS m.aG (h % 32)) - 0 < 4 by omega)]
    simp only [eD,a9,if_false,AP,(start_eq hs hcl).1,aI]
    rw [aU (x:=gH (h % 32) (bS m.aG (h % 32))+4+0) (by omega) (by omega),Int.add_zero,bH (show ¬gH (h % 32) (bS m.aG (h % 32))+4 < 0 by omega)]
    have eo':gH (h % 32) (bS m.aG (h % 32))+4=(((gH (h % 32) (bS m.aG (h % 32))).toNat+4:Nat):Int):=by omega
    have hput:=yX.put hm hcl (n:=n) ⟨hn.1,by omega⟩
    have hspf:∃t:List UInt8,H8 n 4=some t∧(t == [])=false:=aL2 hn
    obtain⟨t,ht1,ht2⟩:=hspf
    have hld:kY m.aG.Bytes (((gH (h % 32) (bS m.aG (h % 32))).toNat+4:Nat):Int) 4=some (ld m.aG.Bytes ((gH (h % 32) (bS m.aG (h % 32))).toNat+4) 4):=yW hs.2.2.1 (w:=4) (by omega) (by omega) (by omega)
    rw [eo',hld]
    simp only [aI,a9,if_false,bne_self_eq_false,ht1,ht2,show(T1 n == [])=false from rfl]
    rw [aIC (by omega) (by omega) ⟨hn.1,by omega⟩,aFE (by omega) (by omega) ⟨hn.1,by omega⟩]
    exact⟨_,_,rfl,rfl,hput,fun q=>absurd rfl q⟩
  · simp only [bH hv,lJ,if_true,aI,show((4:Int) != 0)=true from rfl]
    exact⟨_,_,rfl,rfl,vU.refl hm _,fun _=>rfl⟩
theorem aNS{b:aD}(hm:yX b.Mem)(h:Int):∃r,J8 b.Mem.aG h 0 4=some r∧G0 b h 0 4=some r:=by
  have hs:=hm.1.1.1
  have h1:=hs.1
  have hbl:b.Mem.aG.Bytes.length≤maxLen:=by rw [h1];simp [maxLen]
  have hw4:jG 4=some true:=by unfold jG;rw [dO];rfl
  unfold J8 G0 p8
  rw [fE,iE,cW,hw4,B7 hbl,bL hs]
  simp only [aI,AR,rD,show(decide ((1:Int)≤4∧(4:Int)≤7))=true from rfl,eD,a9,if_false]
  by_cases hh:rN h
  · simp only [bL hh,eD,a9,if_false,fB,if_pos hh,aI,m3 hs,kK hs,hh.mod.1]
    by_cases hcl:bS b.Mem.aG (h % 32) < 0
    · simp only [bL hcl,if_true,oQ];exact⟨_,rfl,rfl⟩
    · have hcl':0≤bS b.Mem.aG (h % 32):=by omega
      have hgo:=OW hcl'
      have hc2:0≤bS b.Mem.aG (h % 32)∧bS b.Mem.aG (h % 32)≤2:=by
        obtain⟨_,q,e⟩:=HI hcl'
        rw [e];exact nJ.1 (by omega)
      have hz:8≤l8 (bS b.Mem.aG (h % 32))∧l8 (bS b.Mem.aG (h % 32))≤40:=by rcases gQ hc2 with e | e | e <;> rw [e] <;> decide
      obtain⟨p,i,p6,hi,es,ec,eo,ep⟩:=JC hcl'
      have hroom:(gH (h % 32) (bS b.Mem.aG (h % 32))).toNat+8≤384:=by
        rw [eo]
        have hcl'':0≤bY b.Mem.aG p∧bY b.Mem.aG p≤2:=by rw [←ec];exact hc2
        generalize bY b.Mem.aG p=c at hi hcl''
        rcases gQ hcl'' with rfl | rfl | rfl
        · rw [show(cP 0).toNat=4 from rfl] at hi;rw [show(aY 0).toNat=12 from rfl];omega
        · rw [show(cP 1).toNat=2 from rfl] at hi;rw [show(aY 1).toNat=20 from rfl];omega
        · rw [show(cP 2).toNat=1 from rfl] at hi;rw [show(aY 2).toNat=44 from rfl];omega
      simp only [bH hcl,a9,if_false,I1,cW,aI,aFK hs hcl']
      rw [aU (x:=l8 (bS b.Mem.aG (h % 32)) - 1) (by omega) (by omega),bL (show(0:Int)≤0∧(0:Int)≤l8 (bS b.Mem.aG (h % 32)) - 1 by omega),aU (x:=l8 (bS b.Mem.aG (h % 32)) - 0) (by omega) (by omega),bH (show ¬l8 (bS b.Mem.aG (h % 32)) - 0 < 4 by omega)]
      simp only [eD,a9,if_false,oQ,fB,if_pos hh,(start_eq hs hcl').1,aI]
      rw [aU (x:=gH (h % 32) (bS b.Mem.aG (h % 32))+4+0) (by omega) (by omega),Int.add_zero,bH (show ¬gH (h % 32) (bS b.Mem.aG (h % 32))+4 < 0 by omega)]
      have eo':gH (h % 32) (bS b.Mem.aG (h % 32))+4=(((gH (h % 32) (bS b.Mem.aG (h % 32))).toNat+4:Nat):Int):=by omega
      have hld:kY b.Mem.aG.Bytes (((gH (h % 32) (bS b.Mem.aG (h % 32))).toNat+4:Nat):Int) 4=some (ld b.Mem.aG.Bytes ((gH (h % 32) (bS b.Mem.aG (h % 32))).toNat+4) 4):=yW hs.2.2.1 (w:=4) (by omega) (by omega) (by omega)
      have hls:sP b.Mem.aG.Bytes (((gH (h % 32) (bS b.Mem.aG (h % 32))).toNat+4:Nat):Int) 4=some (ld b.Mem.aG.Bytes ((gH (h % 32) (bS b.Mem.aG (h % 32))).toNat+4) 4):=I3 hs.2.2.1 (w:=4) (by omega) (by omega) (by omega)
      rw [eo',hld,hls]
      exact⟨_,rfl,rfl⟩
  · simp only [bH hh,lJ,if_true];exact⟨_,rfl,rfl⟩
end Go.Gv
end
noncomputable section
namespace Go.Gv
theorem aL3{l:List dP}(hl:l.length≤maxLen)(f:dP→Bool)(g:dP→Option Bool)(hg:∀x∈l,g x=some (f x)):lA l g=some (l.any f):=by
  obtain⟨o,e,h⟩:=I8 l f (body:=k9 l g) (fun k hk=>by
    simp only [k9]
    rw [if_pos (by simp;omega),aQ hk,cX (eE hk hl)]
    simp only [aI,hg _ (List.getElem_mem hk)]) (by simp [k9])
  unfold lA vX
  rw [e]
  cases o with
  | brk u=>simp only at h;simp [qD,A2,h]
  | ret r=>simp only at h;simp [qD,h]
theorem R7{l:List Queue}(hl:l.length≤maxLen)(f:Queue→Bool)(g:Queue→Option Bool)(hg:∀x∈l,g x=some (f x)):gC l g=some (l.any f):=by
  obtain⟨o,e,h⟩:=I8 l f (body:=iX l g) (fun k hk=>by
    simp only [iX]
    rw [if_pos (by simp;omega),aQ hk,cX (eE hk hl)]
    simp only [aI,hg _ (List.getElem_mem hk)]) (by simp [iX])
  unfold gC p5
  rw [e]
  cases o with
  | brk u=>simp only at h;simp [mH,vQ,h]
  | ret r=>simp only at h;simp [mH,h]
theorem WR{l:List bW}(hl:l.length≤maxLen)(f:bW→Bool)(g:bW→Option Bool)(hg:∀x∈l,g x=some (f x)):hY l g=some (l.any f):=by
  obtain⟨o,e,h⟩:=I8 l f (body:=jW l g) (fun k hk=>by
    simp only [jW]
    rw [if_pos (by simp;omega),aQ hk,cX (eE hk hl)]
    simp only [aI,hg _ (List.getElem_mem hk)]) (by simp [jW])
  unfold hY sZ
  rw [e]
  cases o with
  | brk u=>simp only at h;simp [oW,zU,h]
  | ret r=>simp only at h;simp [oW,h]
def EG(k:Int):Prop:=k=1∨k=2∨k=3∨k=7
instance (k:Int):Decidable (EG k):=by unfold EG;infer_instance
def vV(o:dP):Prop:=(1≤o.Kind∧o.Kind≤7)∧(EG o.Kind∨o.Cell=0)∧(0≤o.Cell∧o.Cell≤1)∧if o.Kind=1 then (0≤o.dQ∧o.dQ≤100)∧0≤o.dN∧o.dN≤65535 else o.dQ=0∧o.dN=0
instance (o:dP):Decidable (vV o):=by unfold vV;infer_instance
theorem hb0(x:Int):(x == 0)=decide (x=0):=by rw [Bool.eq_iff_iff];simp
theorem aNT:EG 1:=.inl rfl
theorem aQK(k:Int):AE k=some (decide (EG k)):=by
  unfold AE jV EG
  by_cases h1:k=1
  · simp [h1]
  · by_cases h2:k=2
    · simp [h2]
    · by_cases h3:k=3
      · simp [h3]
      · by_cases h7:k=7
        · simp [h7]
        · simp [h1,h2,h3,h7]
theorem WS(o:dP):HN o=some (decide (vV o)):=by
  unfold HN AF FX FY vV
  rw [cW,aQK,cW,cW,cW]
  by_cases h1:1≤o.Kind∧o.Kind≤7
  · by_cases h2:EG o.Kind
    · by_cases h3:0≤o.Cell∧o.Cell≤1
      · by_cases h4:o.Kind=1
        · by_cases h5:0≤o.dQ∧o.dQ≤100 <;> simp [h1,h2,h3,h4,h5,aNT] <;> exact hb0 _
        · by_cases h5:o.dQ=0 <;> simp [h1,h2,h3,h4,h5,aNT] <;> exact hb0 _
      · simp [h1,h2,h3]
    · by_cases h0:o.Cell=0
      · by_cases h4:o.Kind=1
        · exact absurd (.inl h4) h2
        · by_cases h5:o.dQ=0 <;> simp [h1,h2,h0,h4,h5,aNT] <;> exact hb0 _
      · simp [h1,h2,h0]
  · simp [h1]
theorem WT(o:dP):HO o=some (decide (vV o)):=by
  have key:∀x,nC o x=if 1≤o.Kind∧o.Kind≤7 then (if x then some (decide ((0≤o.Cell∧o.Cell≤1)∧if o.Kind=1 then (0≤o.dQ∧o.dQ≤100)∧0≤o.dN∧o.dN≤65535 else o.dQ=0∧o.dN=0):Bool) else some (decide (o.Cell=0∧if o.Kind=1 then (0≤o.dQ∧o.dQ≤100)∧0≤o.dN∧o.dN≤65535 else o.dQ=0∧o.dN=0))) else some false:=fun x=>by
    unfold nC A3 GP GQ
    rw [dO,dO,dO,dO]
    by_cases h1:1≤o.Kind∧o.Kind≤7
    · cases x
      · by_cases h0:o.Cell=0
        · by_cases h4:o.Kind=1
          · by_cases h5:0≤o.dQ∧o.dQ≤100 <;> simp [h1,h0,h4,h5,aNT] <;> exact hb0 _
          · by_cases h5:o.dQ=0 <;> simp [h1,h0,h4,h5,aNT] <;> exact hb0 _
        · simp [h1,h0]
      · by_cases h3:0≤o.Cell∧o.Cell≤1
        · by_cases h4:o.Kind=1
          · by_cases h5:0≤o.dQ∧o.dQ≤100 <;> simp [h1,h3,h4,h5,aNT] <;> exact hb0 _
          · by_cases h5:o.dQ=0 <;> simp [h1,h3,h4,h5,aNT] <;> exact hb0 _
        · simp [h1,h3]
    · simp [h1]
  have key2:HO o=nC o (decide (EG o.Kind)):=by
    unfold HO EG
    by_cases h1:o.Kind=1
    · simp [h1]
    · by_cases h2:o.Kind=2
      · simp [h2]
      · by_cases h3:o.Kind=3
        · simp [h3]
        · have h7:(o.Kind == 7)=decide (o.Kind=1∨o.Kind=2∨o.Kind=3∨o.Kind=7):=by rw [Bool.eq_iff_iff];simp [h1,h2,h3]
          rw [if_neg (by simpa using h1),if_neg (by simpa using h2),if_neg (by simpa using h3),h7]
  rw [key2,key]
  unfold vV
  by_cases h1:1≤o.Kind∧o.Kind≤7
  · by_cases h2:EG o.Kind
    · simp only [h1,h2,and_self,decide_true,if_true,true_or,true_and]
    · by_cases h0:o.Cell=0
      · simp [h1,h2,h0]
      · simp [h1,h2,h0]
  · simp [h1]
theorem WU(h:Int):gX h=some (decide (dE h)):=by
  unfold gX xR dE
  rw [fE]
  by_cases q:h=0 <;> simp [q]
theorem O1(h:Int):pS h=some (decide (dE h)):=by
  unfold pS tH dE
  rw [iE]
  by_cases q:h=0 <;> simp [q]
def aL4(l:List dP):Prop:=∀o∈l,vV o
instance (l:List dP):Decidable (aL4 l):=by unfold aL4;infer_instance
def QOk(q:Queue):Prop:=q.eZ.length≤12∧aL4 q.eZ
instance (q:Queue):Decidable (QOk q):=by unfold QOk;infer_instance
def aBC(l:List Queue):Prop:=l.length=3∧∀q∈l,QOk q
instance (l:List Queue):Decidable (aBC l):=by unfold aBC;infer_instance
theorem aKJ{l:List Queue}(hl:l.length≤maxLen):FZ l=some (decide (aBC l)):=by
  unfold FZ
  have inner:∀k (hk:k < l.length),l[k].eZ.length≤12→loop (mR l (k:Int)) 0=some (if aL4 l[k].eZ then Out.brk () else Out.ret false):=by
    intro k hk h12
    have hb:∀j (hj:j < l[k].eZ.length),mR l (k:Int) (j:Int)=if vV l[k].eZ[j] then some (.next ((j+1:Nat):Int)) else some (.stop (Out.ret false)):=by
      intro j hj
      simp only [mR]
      rw [aQ hk,aI,if_pos (by simp;omega),aI,aQ hj,aI,WS,aI,aU (by omega) (by omega)]
      by_cases q:vV l[k].eZ[j] <;> simp [q]
    have:=iD (f:=mR l (k:Int)) l[k].eZ (fun j=>(j:Int)) vV (Out.brk ()) (Out.ret false) (fun j hj hp=>by rw [hb j hj,if_pos hp]) (fun j hj hp=>by rw [hb j hj,if_neg hp]) (by
      simp only [mR]
      rw [aQ hk,aI,if_neg (by simp)])
    refine Eq.trans this ?_
    congr 1
  have hs:∀k (hk:k < l.length),mS l (k:Int)=if QOk l[k] then some (.next ((k+1:Nat):Int)) else some (.stop (Out.ret false)):=by
    intro k hk
    simp only [mS]
    rw [if_pos (by simp;omega),aQ hk,aI]
    by_cases h12:l[k].eZ.length≤12
    · rw [if_neg (by simp;omega),inner k hk h12]
      by_cases q:aL4 l[k].eZ
      · rw [if_pos q,if_pos ⟨h12,q⟩]
        simp only [aI,PB,PA]
        rw [cX (eE hk hl)]
      · rw [if_neg q,if_neg (fun a=>q a.2)];rfl
    · rw [if_pos (by simp;omega),if_neg (fun a=>h12 a.1)]
  have key:loop (mS l) 0=_:=iD (f:=mS l) l (fun k=>(k:Int)) QOk (Out.brk ()) (Out.ret false) (fun k hk hp=>by rw [hs k hk,if_pos hp]) (fun k hk hp=>by rw [hs k hk,if_neg hp]) (by simp [mS])
  rw [key]
  by_cases q:∀x∈l,QOk x
  · rw [if_pos q]
    simp only [aI,PC,O9]
    congr 1;rw [Bool.eq_iff_iff];simp only [beq_iff_eq,decide_eq_true_eq]
    exact⟨fun a=>⟨by omega,q⟩,fun a=>by have:=a.1;omega⟩
  · rw [if_neg q,bH (show ¬aBC l from fun a=>q a.2)];rfl
theorem aKK{l:List Queue}(hl:l.length≤maxLen)(hq:∀q∈l,q.eZ.length≤maxLen):KK l=some (decide (aBC l)):=by
  have e1:∀q∈l,DT q=some (!decide (QOk q)):=by
    intro q hm
    unfold DT uW
    have e:∀x∈q.eZ,yE x=some (!decide (vV x)):=fun x _=>by
      unfold yE;rw [WT];rfl
    rw [aL3 (hq q hm) (fun x=>!decide (vV x)) _ e,ED]
    by_cases h:q.eZ.length≤12
    · rw [if_neg (by simp;omega)]
      by_cases h2:∀x∈q.eZ,vV x
      · rw [bL h2,bL (show QOk q from ⟨h,h2⟩)];rfl
      · rw [bH h2,bH (show ¬QOk q from fun a=>h2 a.2)];rfl
    · rw [if_pos (by simp;omega),bH (show ¬QOk q from fun a=>h a.1)];rfl
  unfold KK A4
  rw [R7 hl (fun q=>!decide (QOk q)) _ e1,ED]
  by_cases h:l.length=3
  · rw [if_pos (by simp;omega)]
    by_cases h2:∀x∈l,QOk x
    · rw [bL h2,bL (show aBC l from ⟨h,h2⟩)];rfl
    · rw [bH h2,bH (show ¬aBC l from fun a=>h2 a.2)];rfl
  · rw [if_neg (by simp;omega),bH (show ¬aBC l from fun a=>h a.1)]
def aPN:bW:=⟨false,⟨0,0,0,0⟩,0,0,⟨0,0,0,0,0,0,0,0,0,false⟩,0,0,0,0⟩
def JOk(j:bW):Prop:=if j.fP then vV j.Op∧dE j.H∧dE j.Old else j=aPN
instance (j:bW):Decidable (JOk j):=by unfold JOk;infer_instance
theorem JD{j:bW}(hb:j.fP=true):JOk j↔vV j.Op∧dE j.H∧dE j.Old:=by unfold JOk;rw [if_pos hb]
theorem WV{j:bW}(hb:j.fP=false):JOk j↔j=aPN:=by unfold JOk;rw [if_neg (by simp [hb])]
theorem aL5(j:bW):OA j=some (decide (JOk j)):=by
  unfold OA wS
  rw [WT,O1,O1]
  cases hb:j.fP
  · rw [show decide (JOk j)=decide (j=aPN) from decide_eq_decide.2 (WV hb)];rfl
  · rw [show decide (JOk j)=decide (vV j.Op∧dE j.H∧dE j.Old) from decide_eq_decide.2 (JD hb)]
    by_cases h1:vV j.Op
    · by_cases h2:dE j.H <;> simp [h1,h2]
    · simp [h1]
def CG(s:aC):Prop:=uA s.aD∧s.Cells.length=2∧s.aW.length=3∧aBC s.cG∧(0≤s.aR∧s.aR≤1000000)∧(∀h∈s.Cells,dE h)∧∀j∈s.aW,JOk j
instance (s:aC):Decidable (CG s):=by unfold CG;infer_instance
noncomputable section
variable {s:aC} (hf:s.aD.Mem.aG.Bytes.length≤maxLen∧(eC s.aD.Mem.aA).length≤1073741824∧s.aD.aJ.bD.length≤maxLen∧s.aD.aX.length≤maxLen∧(bP s.aD.aX).length≤1073741824∧s.aD.jQ.length≤maxLen) (ht:s.cG.length≤maxLen) (hq:∀q∈s.cG,q.eZ.length≤maxLen) (hcl:s.Cells.length≤maxLen) (hjl:s.aW.length≤maxLen)
include hf ht
theorem aBD:uL s=some (decide (CG s)):=by
  unfold uL kB
  rw [aFB hf,aKJ ht,cW]
  by_cases h1:uA s.aD
  · by_cases h2:s.Cells.length=2
    · by_cases h3:s.aW.length=3
      · by_cases h4:aBC s.cG
        · by_cases h5:0≤s.aR∧s.aR≤1000000
          · have c2:((s.Cells.length:Int) != 2)=false:=by simp;omega
            have c3:((s.aW.length:Int) != 3)=false:=by simp;omega
            simp only [bL h1,bL h4,bL h5,c2,c3,aI,eD,a9,if_false]
            have k2:loop (mU s) 0=some (if ∀h∈s.Cells,dE h then Out.brk () else Out.ret false):=by
              have hb:∀k (hk:k < s.Cells.length),mU s (k:Int)=if dE s.Cells[k] then some (.next ((k+1:Nat):Int)) else some (.stop (Out.ret false)):=fun k hk=>by
                simp only [mU]
                rw [if_pos (by simp;omega),aQ hk,aI,WU,aI,aU (by omega) (by omega)]
                by_cases q:dE s.Cells[k] <;> simp [q]
              exact iD (f:=mU s) s.Cells (fun k=>(k:Int)) dE _ _ (fun k hk hp=>by rw [hb k hk,if_pos hp]) (fun k hk hp=>by rw [hb k hk,if_neg hp]) (by simp [mU,h2])
            have k3:loop (mT s) 0=some (if ∀j∈s.aW,JOk j then Out.brk () else Out.ret false):=by
              have hb:∀k (hk:k < s.aW.length),mT s (k:Int)=if JOk s.aW[k] then some (.next ((k+1:Nat):Int)) else some (.stop (Out.ret false)):=fun k hk=>by
                simp only [mT]
                rw [if_pos (by simp;omega),aQ hk]
                generalize s.aW[k]=j
                simp only [aI,d6,WS,WU,aU (show -9223372036854775808≤(k:Int)+1 by omega) (show(k:Int)+1≤9223372036854775807 by omega)]
                cases hb:j.fP
                · by_cases e:j=aPN
                  · have a1:dE j.H:=by rw [e];exact .inl rfl
                    have a2:dE j.Old:=by rw [e];exact .inl rfl
                    have e':j=(⟨false,(⟨0,0,0,0⟩:dP),0,0,(⟨0,0,0,0,0,0,0,0,0,false⟩:Sub),0,0,0,0⟩:bW):=e
                    simp only [lJ,if_true,bL e',eD,a9,if_false,bL a1,bL a2,if_pos ((WV hb).2 e)];rfl
                  · have e':¬j=(⟨false,(⟨0,0,0,0⟩:dP),0,0,(⟨0,0,0,0,0,0,0,0,0,false⟩:Sub),0,0,0,0⟩:bW):=e
                    simp only [lJ,if_true,bH e',a9,if_false,if_neg (fun q=>e ((WV hb).1 q))]
                · by_cases a0:vV j.Op
                  · by_cases a1:dE j.H
                    · by_cases a2:dE j.Old <;> simp [a0,a1,a2,JD hb]
                    · simp [a0,a1,JD hb]
                  · simp [a0,JD hb]
              exact iD (f:=mT s) s.aW (fun k=>(k:Int)) JOk _ _ (fun k hk hp=>by rw [hb k hk,if_pos hp]) (fun k hk hp=>by rw [hb k hk,if_neg hp]) (by simp [mT,h3])
            rw [k2]
            by_cases q2:∀h∈s.Cells,dE h
            · rw [if_pos q2]
              simp only [aI,PE,PD]
              rw [k3]
              by_cases q3:∀j∈s.aW,JOk j
              · rw [if_pos q3,bL (show CG s from ⟨h1,h2,h3,h4,h5,q2,q3⟩)];rfl
              · rw [if_neg q3,bH (fun a:CG s=>q3 a.2.2.2.2.2.2)];rfl
            · rw [if_neg q2,bH (fun a:CG s=>q2 a.2.2.2.2.2.1)];rfl
          · rw [bH (fun a:CG s=>h5 a.2.2.2.2.1)]
            simp [h1,h2,h3,h4,h5]
        · rw [bH (fun a:CG s=>h4 a.2.2.2.1)]
          simp [h1,h2,h3,h4]
      · rw [bH (fun a:CG s=>h3 a.2.2.1)]
        have c3:((s.aW.length:Int) != 3)=true:=by simp;omega
        simp [h1,h2,h3,c3]
    · rw [bH (fun a:CG s=>h2 a.2.1)]
      have c2:((s.Cells.length:Int) != 2)=true:=by simp;omega
      simp [h1,h2,c2]
  · rw [bH (fun a:CG s=>h1 a.1)];simp [h1]
include hq hcl hjl
theorem aBE:uX s=some (decide (CG s)):=by
  have e1:tJ=fun x=>some (!decide (dE x)):=funext fun x=>by unfold tJ;rw [O1];rfl
  have e2:∀x∈s.aW,A5 x=some (!decide (JOk x)):=fun x _=>by unfold A5;rw [aL5];rfl
  unfold uX g7
  rw [aFC hf,aKK ht hq,dO,show(fun y0=>tJ y0)=fun x=>some (!decide (dE x)) from e1,B6 hcl,ED,WR hjl _ _ e2,ED]
  by_cases h1:uA s.aD
  · by_cases h2:s.Cells.length=2
    · by_cases h3:s.aW.length=3
      · have c2:((s.Cells.length:Int) == 2)=true:=by simp;omega
        have c3:((s.aW.length:Int) == 3)=true:=by simp;omega
        by_cases h4:aBC s.cG
        · by_cases h5:0≤s.aR∧s.aR≤1000000
          · by_cases q2:∀h∈s.Cells,dE h
            · by_cases q3:∀j∈s.aW,JOk j
              · rw [bL (show CG s from ⟨h1,h2,h3,h4,h5,q2,q3⟩)]
                simp only [bL h1,bL h4,bL h5,bL q2,bL q3,c2,c3,aI,eD,lJ,a9,if_false,if_true]
              · rw [bH (fun a:CG s=>q3 a.2.2.2.2.2.2)]
                simp only [bL h1,bL h4,bL h5,bL q2,bH q3,c2,c3,aI,eD,lJ,a9,if_false,if_true]
            · rw [bH (fun a:CG s=>q2 a.2.2.2.2.2.1)]
              simp only [bL h1,bL h4,bL h5,bH q2,c2,c3,aI,eD,lJ,a9,if_false,if_true]
          · rw [bH (fun a:CG s=>h5 a.2.2.2.2.1)]
            simp only [bL h1,bL h4,bH h5,c2,c3,aI,a9,if_false,if_true]
        · rw [bH (fun a:CG s=>h4 a.2.2.2.1)]
          simp only [bL h1,bH h4,c2,c3,aI,a9,if_false,if_true]
      · rw [bH (fun a:CG s=>h3 a.2.2.1)]
        have c2:((s.Cells.length:Int) == 2)=true:=by simp;omega
        have c3:((s.aW.length:Int) == 3)=false:=by simp;omega
        simp only [bL h1,c2,c3,aI,a9,if_false,if_true]
    · rw [bH (fun a:CG s=>h2 a.2.1)]
      have c2:((s.Cells.length:Int) == 2)=false:=by simp;omega
      simp only [bL h1,c2,aI,a9,if_false,if_true]
  · rw [bH (fun a:CG s=>h1 a.1)];simp only [bH h1,aI,a9,if_false]
end
end Go.Gv
end
noncomputable section
namespace Go.Gv
theorem JE{α:Type}{l:List α}{w:Int}(h0:0≤w)(h1:w < l.length)(x:α):idx (l.set w.toNat x) w=some x:=by
  unfold idx
  rw [if_pos h0,List.getElem?_set_self (by omega)]
theorem fJ{a b:Int}(h:¬a=b):(a == b)=false:=by simpa using h
theorem O2{a b:Int}(h:¬a=b):(a != b)=true:=by simpa using h
theorem aL6{c:aJ}(hc:U4 c){w:Int}(hw:0≤w∧w≤2):∃r,H9 c w=some r∧OE c w=some r∧U4 r.1∧r.1.aM=c.aM:=by
  obtain⟨p,hp,hpk⟩:=YF hc hw
  unfold H9 OE
  rw [xM hc.small.1,xN hc.small.1,rL,rM hc.small.2,lI,cW,bL hc,bL hw]
  simp only [aI,eD,a9,if_false,hp,wM,wW]
  cases p.On with
  | true =>
    simp only [eD,a9,if_false]
    have h0:=hc.1
    exact⟨_,rfl,rfl,hc.aKD ⟨by simp only;omega,by simp,fun _=>rfl⟩,rfl⟩
  | false=>simp only [lJ,if_true];exact⟨_,rfl,rfl,hc,rfl⟩
theorem OY.set{z:List Int}(hz:OY z)(k:Nat){h:Int}(hh:dE h):OY (z.set k h):=⟨by simpa using hz.1,fun q hq=>(List.mem_or_eq_of_mem_set hq).elim (hz.2 q) (fun e=>e ▸ hh)⟩
theorem aNU{z:List Int}(hz:OY z){w:Int}(hw:0≤w∧w≤2)(h:Int):∃r,GC z w h=some r∧G3 z w h=some r∧OY r.1:=by
  have h3:=hz.1
  have hx:idx z w=some (z[w.toNat]'(by omega)):=r9 hw.1 (by omega)
  unfold GC G3
  rw [C5 (by omega),nK (by omega),LS (by simp only [maxLen];omega),LU (by simp only [maxLen];omega),bL hz,cW,lI,bL hw,fE,iE]
  simp only [aI,eD,a9,if_false,qZ,rF,hx]
  by_cases q:rN h
  · simp only [bL q,eD,a9,if_false];exact⟨_,rfl,rfl,hz.set _ (.inr q)⟩
  · simp only [bH q,lJ,if_true];exact⟨_,rfl,rfl,hz⟩
theorem aUI{z:List Int}(hz:OY z){w:Int}(hw:0≤w∧w≤2):∃r,N4 z w=some r∧OF z w=some r∧OY r.1:=by
  have h3:=hz.1
  have hx:idx z w=some (z[w.toNat]'(by omega)):=r9 hw.1 (by omega)
  unfold N4 OF
  rw [C5 (by omega),nK (by omega),LS (by simp only [maxLen];omega),LU (by simp only [maxLen];omega),bL hz,cW,lI,bL hw]
  simp only [aI,eD,a9,if_false,wN,wX,hx]
  by_cases q:(z[w.toNat]'(by omega))=0
  · simp only [q,beq_self_eq_true,if_true];exact⟨_,rfl,rfl,hz⟩
  · simp only [fJ q,a9,if_false];exact⟨_,rfl,rfl,hz.set _ (.inl rfl)⟩
theorem uA.clock{b:aD}(hb:uA b){cl:aJ}(h:U4 cl)(e:b.aJ.aM≤cl.aM):uA ⟨b.Mem,cl,b.aX,b.jQ⟩:=⟨⟨hb.1.1,h,hb.1.2.2⟩,fun r hr=>⟨(hb.2 r hr).1,Int.le_trans (hb.2 r hr).2 e⟩⟩
theorem uA.haz{b:aD}(hb:uA b){z:List Int}(h:OY z):uA ⟨b.Mem,b.aJ,b.aX,z⟩:=⟨⟨hb.1.1,hb.1.2.1,hb.1.2.2.1,h⟩,hb.2⟩
theorem uA.mem{b:aD}(hb:uA b){m:Mem}(h:vU b.Mem m (-1)):uA ⟨m,b.aJ,b.aX,b.jQ⟩:=⟨⟨h.1,hb.1.2⟩,fun r hr=>⟨h.live (hb.2 r hr).1 (by have:=(hb.2 r hr).1.1;unfold rN at this;omega),(hb.2 r hr).2⟩⟩
theorem CG.put{s:aC}(hs:CG s){w:Int}{b:aD}(hb:uA b){c:List Int}(hc:c.length=2∧∀h∈c,dE h){j:bW}(hj:JOk j)(l:List Ev):CG ⟨b,c,s.aW.set w.toNat j,s.cG,l,s.aR⟩:=
  ⟨hb,hc.1,by simpa using hs.2.2.1,hs.2.2.2.1,hs.2.2.2.2.1,hc.2,fun q hq=>(List.mem_or_eq_of_mem_set hq).elim (hs.2.2.2.2.2.2 q) (fun e=>e ▸ hj)⟩
theorem cO{j:bW}(h:j.fP=true)(h1:vV j.Op∧dE j.H∧dE j.Old):JOk j:=(JD h).2 h1
noncomputable section
variable {s:aC} (hs:CG s) (hl:s.Log.length≤1000000000) {w:Int} (hw:0≤w∧w≤2) {j:bW} (hj:idx s.aW w=some j) (hb:j.fP=true) (hjo:vV j.Op∧dE j.H∧dE j.Old)
include hs hl hw hj hb hjo
theorem aZ2(hk:j.Op.Kind=1):∃x,((J7 s w j).bind fun q=>dX w q.1 q.2)=some x∧BI s w=some x∧CG x∧x.Log.length≤s.Log.length+1:=by
  have h3:=hs.2.2.1
  have hset:∀x,idx (s.aW.set w.toNat x) w=some x:=JE hw.1 (by omega)
  have hn:∀(e:Ev) {α:Type} (k:Option α),need (s.Log.length + [e].length≤1073741824) k=k:=fun e _ k=>aP (by simp;omega) k
  have hcs:s.Cells.length=2∧∀h∈s.Cells,dE h:=⟨hs.2.1,hs.2.2.2.2.2.1⟩
  have hcell:idx s.Cells j.Op.Cell=some (s.Cells[j.Op.Cell.toNat]'(by have:=hjo.1.2.2.1;omega)):=r9 hjo.1.2.2.1.1 (by have:=hjo.1.2.2.1;omega)
  have hcm:dE (s.Cells[j.Op.Cell.toNat]'(by have:=hjo.1.2.2.1;omega)):=hcs.2 _ (List.getElem_mem _)
  generalize (s.Cells[j.Op.Cell.toNat]'(by have:=hjo.1.2.2.1;omega))=cell at hcell hcm
  have hval:0≤j.Op.dN∧j.Op.dN≤65535:=by have:=hjo.1.2.2.2;rw [if_pos hk] at this;exact this.2
  unfold J7 BI
  rw [hj]
  simp only [aI,bK,bJ,cY,dX,jL,iT]
  by_cases p0:j.Pc=0
  · obtain⟨x,y,e1,e2,hx⟩:=step_eq hs.1 hs.1.small hw j.Sub
    simp only [p0,beq_self_eq_true,if_true,e1,e2,aI]
    cases hd:y.cJ with
    | false=>simp only [lJ,if_true,aI,hj];exact⟨_,rfl,rfl,hs.put hx hcs (by exact cO hb hjo) _,Nat.le_succ _⟩
    | true =>
      simp only [eD,a9,if_false]
      by_cases c0:y.Code=0
      · simp only [c0,bne_self_eq_false,a9,if_false,fE,iE,aI]
        by_cases o0:rN y.Out
        · simp only [bL o0,eD,a9,if_false,aI,hj];exact⟨_,rfl,rfl,hs.put hx hcs (by exact cO hb ⟨hjo.1,.inr o0,hjo.2.2⟩) _,Nat.le_succ _⟩
        · simp only [bH o0,lJ,if_true,aI,hj];exact⟨_,rfl,rfl,hs.put hx hcs (by exact cO hb hjo) _,Nat.le_succ _⟩
      · simp only [O2 c0,if_true,aI,hj];exact⟨_,rfl,rfl,hs.put hx hcs (by exact cO hb hjo) _,Nat.le_succ _⟩
  simp only [fJ p0,a9,if_false]
  by_cases p1:j.Pc=1
  · obtain⟨x,c,e1,e2,h1,h2⟩:=aNR hs.1.1.1 (h:=j.H) hval
    simp only [p1,beq_self_eq_true,if_true,e1,e2,aI,BF,hj,bJ,cY]
    by_cases c0:c=0
    · simp only [c0,bne_self_eq_false,a9,if_false,aI,hj];exact⟨_,rfl,rfl,hs.put (hs.1.mem h1) hcs (by exact cO hb hjo) _,Nat.le_succ _⟩
    · have:=h2 c0
      subst this
      simp only [O2 c0,if_true,aI,hj];exact⟨_,rfl,rfl,hs.put hs.1 hcs (by exact cO hb hjo) _,Nat.le_succ _⟩
  simp only [fJ p1,a9,if_false]
  by_cases p2:j.Pc=2
  · have hc2:(s.Cells.set j.Op.Cell.toNat j.H).length=2∧∀h∈s.Cells.set j.Op.Cell.toNat j.H,dE h:=⟨by simpa using hcs.1,fun q hq=>(List.mem_or_eq_of_mem_set hq).elim (hcs.2 q) (fun e=>e ▸ hjo.2.1)⟩
    simp only [p2,beq_self_eq_true,if_true,hcell,aI,hset,hn,BH,cR,dC,BG,bJ,cY,iT]
    by_cases c0:cell=0
    · simp only [c0,beq_self_eq_true,if_true,aI,hj,List.set_set];exact⟨_,rfl,rfl,hs.put hs.1 hc2 (by exact cO hb ⟨hjo.1,hjo.2.1,.inl rfl⟩) _,by simp⟩
    · simp only [fJ c0,a9,if_false,aI,hj,List.set_set];exact⟨_,rfl,rfl,hs.put hs.1 hc2 (by exact cO hb ⟨hjo.1,hjo.2.1,hcm⟩) _,by simp⟩
  simp only [fJ p2,a9,if_false]
  by_cases p3:j.Pc=3
  · obtain⟨x,y,e1,e2,hx⟩:=step_eq hs.1 hs.1.small hw j.Sub
    simp only [p3,beq_self_eq_true,if_true,e1,e2,aI]
    cases hd:y.cJ with
    | false=>simp only [lJ,if_true,a9,if_false,aI,hj];exact⟨_,rfl,rfl,hs.put hx hcs (by exact cO hb hjo) _,Nat.le_succ _⟩
    | true=>simp only [eD,if_true,a9,if_false,aI,hj];exact⟨_,rfl,rfl,hs.put hx hcs (by exact cO hb hjo) _,Nat.le_succ _⟩
  simp only [fJ p3,a9,if_false,aI,hj]
  exact⟨_,rfl,rfl,hs.put hs.1 hcs (by exact cO hb hjo) _,Nat.le_succ _⟩
theorem get_eq(hk:j.Op.Kind=2):∃x,((J9 s w j).bind fun q=>dX w q.1 q.2)=some x∧BJ s w=some x∧CG x∧x.Log.length≤s.Log.length+1:=by
  have h3:=hs.2.2.1
  have hset:∀x,idx (s.aW.set w.toNat x) w=some x:=JE hw.1 (by omega)
  have hn:∀(e:Ev) {α:Type} (k:Option α),need (s.Log.length + [e].length≤1073741824) k=k:=fun e _ k=>aP (by simp;omega) k
  have hcs:s.Cells.length=2∧∀h∈s.Cells,dE h:=⟨hs.2.1,hs.2.2.2.2.2.1⟩
  have hcell:idx s.Cells j.Op.Cell=some (s.Cells[j.Op.Cell.toNat]'(by have:=hjo.1.2.2.1;omega)):=r9 hjo.1.2.2.1.1 (by have:=hjo.1.2.2.1;omega)
  have hcm:dE (s.Cells[j.Op.Cell.toNat]'(by have:=hjo.1.2.2.1;omega)):=hcs.2 _ (List.getElem_mem _)
  generalize (s.Cells[j.Op.Cell.toNat]'(by have:=hjo.1.2.2.1;omega))=cell at hcell hcm
  obtain⟨pn,hpn,_⟩:=YF hs.1.1.2.1 hw
  unfold J9 BJ
  rw [hj]
  simp only [aI,bK,bJ,cY,dX]
  by_cases p0:j.Pc=0
  · obtain⟨x,y,e1,e2,hx⟩:=step_eq hs.1 hs.1.small hw j.Sub
    simp only [p0,beq_self_eq_true,if_true,e1,e2,aI]
    cases hd:y.cJ with
    | false=>simp only [lJ,if_true,a9,if_false,aI,hj];exact⟨_,rfl,rfl,hs.put hx hcs (by exact cO hb hjo) _,Nat.le_succ _⟩
    | true=>simp only [eD,if_true,a9,if_false,aI,hj];exact⟨_,rfl,rfl,hs.put hx hcs (by exact cO hb hjo) _,Nat.le_succ _⟩
  simp only [fJ p0,a9,if_false]
  by_cases p1:j.Pc=1
  · simp only [p1,beq_self_eq_true,if_true,hcell,aI,kW,hn,tM,hj,cR,dC,hset]
    by_cases c0:cell=0
    · simp only [c0,beq_self_eq_true,if_true,aI,hj,List.set_set];exact⟨_,rfl,rfl,hs.put hs.1 hcs (by exact cO hb ⟨hjo.1,.inl rfl,hjo.2.2⟩) _,by simp⟩
    · simp only [fJ c0,a9,if_false,aI,hj,List.set_set];exact⟨_,rfl,rfl,hs.put hs.1 hcs (by exact cO hb ⟨hjo.1,hcm,hjo.2.2⟩) _,by simp⟩
  simp only [fJ p1,a9,if_false]
  by_cases p2:j.Pc=2
  · obtain⟨r,e1,e2⟩:=aNS hs.1.1.1 j.H
    simp only [p2,beq_self_eq_true,if_true,pZ,kJ,hj,e1,e2,aI,hset,List.set_set]
    exact⟨_,rfl,rfl,hs.put hs.1 hcs (by exact cO hb hjo) _,Nat.le_succ _⟩
  simp only [fJ p2,a9,if_false]
  by_cases p3:j.Pc=3
  · simp only [p3,beq_self_eq_true,if_true,wL,kQ,hj,hpn,aI,cY,qG,i5,oR,bK]
    cases pn.On with
    | false=>simp only [a9,if_false,aI,lJ,if_true,hj];exact⟨_,rfl,rfl,hs.put hs.1 hcs (by exact cO hb hjo) _,Nat.le_succ _⟩
    | true =>
      simp only [if_true,aI]
      cases pn.eI with
      | false=>simp only [a9,if_false,aI,lJ,eD,if_true,hj];exact⟨_,rfl,rfl,hs.put hs.1 hcs (by exact cO hb hjo) _,Nat.le_succ _⟩
      | true=>simp only [a9,if_false,aI,lJ,eD,if_true,hj];exact⟨_,rfl,rfl,hs.put hs.1 hcs (by exact cO hb hjo) _,Nat.le_succ _⟩
  simp only [fJ p3,a9,if_false]
  by_cases p4:j.Pc=4
  · obtain⟨r,e1,e2,h1,h2⟩:=aL6 hs.1.1.2.1 hw
    simp only [p4,beq_self_eq_true,if_true,e1,e2,rE,aI,hj]
    exact⟨_,rfl,rfl,hs.put (hs.1.clock h1 (by rw [h2];exact Int.le_refl _)) hcs (by exact cO hb hjo) _,Nat.le_succ _⟩
  simp only [fJ p4,a9,if_false,aI,hj]
  exact⟨_,rfl,rfl,hs.put hs.1 hcs (by exact cO hb hjo) _,Nat.le_succ _⟩
theorem aZ3(hk:j.Op.Kind=3):∃x,((KA s w j).bind fun q=>dX w q.1 q.2)=some x∧BM s w=some x∧CG x∧x.Log.length≤s.Log.length+1:=by
  have h3:=hs.2.2.1
  have hset:∀x,idx (s.aW.set w.toNat x) w=some x:=JE hw.1 (by omega)
  have hn:∀(e:Ev) {α:Type} (k:Option α),need (s.Log.length + [e].length≤1073741824) k=k:=fun e _ k=>aP (by simp;omega) k
  have hcs:s.Cells.length=2∧∀h∈s.Cells,dE h:=⟨hs.2.1,hs.2.2.2.2.2.1⟩
  have hcell:idx s.Cells j.Op.Cell=some (s.Cells[j.Op.Cell.toNat]'(by have:=hjo.1.2.2.1;omega)):=r9 hjo.1.2.2.1.1 (by have:=hjo.1.2.2.1;omega)
  have hcm:dE (s.Cells[j.Op.Cell.toNat]'(by have:=hjo.1.2.2.1;omega)):=hcs.2 _ (List.getElem_mem _)
  generalize (s.Cells[j.Op.Cell.toNat]'(by have:=hjo.1.2.2.1;omega))=cell at hcell hcm
  unfold KA BM
  rw [hj]
  simp only [aI,bK,bJ,cY,dX,BK,BL]
  by_cases p0:j.Pc=0
  · simp only [p0,beq_self_eq_true,if_true,hcell,aI,kW,hn,hj,cR,dC,hset]
    by_cases c0:cell=0
    · simp only [c0,beq_self_eq_true,if_true,aI,hj,List.set_set,hn];exact⟨_,rfl,rfl,hs.put hs.1 hcs (by exact cO hb ⟨hjo.1,.inl rfl,hjo.2.2⟩) _,by simp⟩
    · simp only [fJ c0,a9,if_false,aI,hj,List.set_set];exact⟨_,rfl,rfl,hs.put hs.1 hcs (by exact cO hb ⟨hjo.1,hcm,hjo.2.2⟩) _,Nat.le_succ _⟩
  simp only [fJ p0,a9,if_false]
  by_cases p1:j.Pc=1
  · obtain⟨r,e1,e2,h1⟩:=aNU hs.1.1.2.2.2 hw j.H
    simp only [p1,beq_self_eq_true,if_true,e1,e2,aI,hj]
    exact⟨_,rfl,rfl,hs.put (hs.1.haz h1) hcs (by exact cO hb hjo) _,Nat.le_succ _⟩
  simp only [fJ p1,a9,if_false]
  by_cases p2:j.Pc=2
  · simp only [p2,beq_self_eq_true,if_true,hcell,aI,kW,hn,hj,cR,dC]
    by_cases c0:cell=j.H
    · simp only [c0,bne_self_eq_false,a9,if_false,aI,hj];exact⟨_,rfl,rfl,hs.put hs.1 hcs (by exact cO hb hjo) _,by simp⟩
    · simp only [O2 c0,if_true,aI,hj];exact⟨_,rfl,rfl,hs.put hs.1 hcs (by exact cO hb hjo) _,Nat.le_succ _⟩
  simp only [fJ p2,a9,if_false]
  by_cases p3:j.Pc=3
  · obtain⟨r,e1,e2⟩:=aNS hs.1.1.1 j.H
    simp only [p3,beq_self_eq_true,if_true,pZ,kJ,hj,e1,e2,aI,hset,List.set_set]
    exact⟨_,rfl,rfl,hs.put hs.1 hcs (by exact cO hb hjo) _,Nat.le_succ _⟩
  simp only [fJ p3,a9,if_false]
  by_cases p4:j.Pc=4
  · obtain⟨r,e1,e2,h1⟩:=aUI hs.1.1.2.2.2 hw
    simp only [p4,beq_self_eq_true,if_true,e1,e2,aI,hj]
    exact⟨_,rfl,rfl,hs.put (hs.1.haz h1) hcs (by exact cO hb hjo) _,Nat.le_succ _⟩
  simp only [fJ p4,a9,if_false,aI,hj]
  exact⟨_,rfl,rfl,hs.put hs.1 hcs (by exact cO hb hjo) _,Nat.le_succ _⟩
theorem aW9(hk:j.Op.Kind=7):∃x,((GD s w j).bind fun q=>dX w q.1 q.2)=some x∧yK s w=some x∧CG x∧x.Log.length≤s.Log.length+1:=by
  have h3:=hs.2.2.1
  have hset:∀x,idx (s.aW.set w.toNat x) w=some x:=JE hw.1 (by omega)
  have hn:∀(e:Ev) {α:Type} (k:Option α),need (s.Log.length + [e].length≤1073741824) k=k:=fun e _ k=>aP (by simp;omega) k
  have hcs:s.Cells.length=2∧∀h∈s.Cells,dE h:=⟨hs.2.1,hs.2.2.2.2.2.1⟩
  have hcell:idx s.Cells j.Op.Cell=some (s.Cells[j.Op.Cell.toNat]'(by have:=hjo.1.2.2.1;omega)):=r9 hjo.1.2.2.1.1 (by have:=hjo.1.2.2.1;omega)
  have hcm:dE (s.Cells[j.Op.Cell.toNat]'(by have:=hjo.1.2.2.1;omega)):=hcs.2 _ (List.getElem_mem _)
  generalize (s.Cells[j.Op.Cell.toNat]'(by have:=hjo.1.2.2.1;omega))=cell at hcell hcm
  obtain⟨pn,hpn,_⟩:=YF hs.1.1.2.1 hw
  unfold GD yK
  rw [hj,hpn]
  simp only [aI,bK,bJ,cY,dX,zH,qI,qH,hj]
  by_cases p0:j.Pc=0
  · simp only [p0,beq_self_eq_true,if_true]
    cases pn.On with
    | false=>simp only [lJ,if_true,aI,hj];exact⟨_,rfl,rfl,hs.put hs.1 hcs (by exact cO hb hjo) _,Nat.le_succ _⟩
    | true =>
      simp only [eD,a9,if_false]
      cases pn.eI with
      | true=>simp only [if_true,aI,hj];exact⟨_,rfl,rfl,hs.put hs.1 hcs (by exact cO hb hjo) _,Nat.le_succ _⟩
      | false =>
        simp only [a9,if_false,hcell,aI,kW,hn,tM,hj,cR,dC,hset]
        by_cases c0:cell=0
        · simp only [c0,beq_self_eq_true,if_true,aI,hj,List.set_set];exact⟨_,rfl,rfl,hs.put hs.1 hcs (by exact cO hb ⟨hjo.1,.inl rfl,hjo.2.2⟩) _,by simp⟩
        · simp only [fJ c0,a9,if_false,aI,hj,List.set_set];exact⟨_,rfl,rfl,hs.put hs.1 hcs (by exact cO hb ⟨hjo.1,hcm,hjo.2.2⟩) _,by simp⟩
  simp only [fJ p0,a9,if_false,hj,aI]
  by_cases p1:j.Pc=1
  · obtain⟨r,e1,e2⟩:=aNS hs.1.1.1 j.H
    simp only [p1,beq_self_eq_true,if_true,pZ,kJ,hj,e1,e2,aI,hset,List.set_set]
    exact⟨_,rfl,rfl,hs.put hs.1 hcs (by exact cO hb hjo) _,Nat.le_succ _⟩
  simp only [fJ p1,a9,if_false]
  by_cases p2:j.Pc=2
  · simp only [p2,beq_self_eq_true,if_true,wL,kQ,hj,hpn,aI,cY,qG,i5,oR,bK]
    cases pn.On with
    | false=>simp only [a9,if_false,aI,lJ,if_true,hj];exact⟨_,rfl,rfl,hs.put hs.1 hcs (by exact cO hb hjo) _,Nat.le_succ _⟩
    | true =>
      simp only [if_true,aI]
      cases pn.eI with
      | false=>simp only [a9,if_false,aI,lJ,eD,if_true,hj];exact⟨_,rfl,rfl,hs.put hs.1 hcs (by exact cO hb hjo) _,Nat.le_succ _⟩
      | true=>simp only [a9,if_false,aI,lJ,eD,if_true,hj];exact⟨_,rfl,rfl,hs.put hs.1 hcs (by exact cO hb hjo) _,Nat.le_succ _⟩
  simp only [fJ p2,a9,if_false,aI,hj]
  exact⟨_,rfl,rfl,hs.put hs.1 hcs (by exact cO hb hjo) _,Nat.le_succ _⟩
theorem aUJ(hk:j.Op.Kind=4∨j.Op.Kind=5∨j.Op.Kind=6):∃x,((DJ s w j).bind fun q=>dX w q.1 q.2)=some x∧vH s w=some x∧CG x∧x.Log.length≤s.Log.length+1:=by
  have h3:=hs.2.2.1
  have hset:∀x,idx (s.aW.set w.toNat x) w=some x:=JE hw.1 (by omega)
  have hcs:s.Cells.length=2∧∀h∈s.Cells,dE h:=⟨hs.2.1,hs.2.2.2.2.2.1⟩
  obtain⟨x,y,e1,e2,hx⟩:=step_eq hs.1 hs.1.small hw j.Sub
  unfold DJ vH
  rw [hj]
  simp only [aI,bK,bJ,cY,dX,jL,iT,uT,lO,oE,n9,oD,oC,oA,hj,e1,e2]
  rcases hk with k4 | k5 | k6
  · simp only [k4,show((4:Int) == 6)=false from rfl,show((4:Int) == 5)=false from rfl,show((4:Int) == 4)=true from rfl,a9,if_false,if_true]
    by_cases p0:j.Pc=0
    · simp only [p0,bne_self_eq_false,beq_self_eq_true,a9,if_false,if_true]
      cases hd:y.cJ with
      | false=>simp only [lJ,if_true,a9,if_false,aI,hj];exact⟨_,rfl,rfl,hs.put hx hcs (by exact cO hb hjo) _,Nat.le_succ _⟩
      | true=>simp only [eD,if_true,a9,if_false,aI,hj];exact⟨_,rfl,rfl,hs.put hx hcs (by exact cO hb hjo) _,Nat.le_succ _⟩
    · simp only [O2 p0,fJ p0,a9,if_false,if_true]
      by_cases p1:j.Pc=1
      · simp only [p1,bne_self_eq_false,beq_self_eq_true,a9,if_false,if_true,show((1:Int) == 0)=false from rfl]
        cases hd:y.cJ with
        | false=>simp only [lJ,if_true,a9,if_false,aI,hj];exact⟨_,rfl,rfl,hs.put hx hcs (by exact cO hb hjo) _,Nat.le_succ _⟩
        | true=>simp only [eD,if_true,a9,if_false,aI,hj];exact⟨_,rfl,rfl,hs.put hx hcs (by exact cO hb hjo) _,Nat.le_succ _⟩
      · simp only [O2 p1,fJ p1,a9,if_false,if_true,aI,hj]
        exact⟨_,rfl,rfl,hs.put hs.1 hcs (by exact cO hb hjo) _,Nat.le_succ _⟩
  · simp only [k5,show((5:Int) == 6)=false from rfl,show((5:Int) == 5)=true from rfl,show((5:Int) == 4)=false from rfl,a9,if_false,if_true]
    by_cases p0:j.Pc=0
    · simp only [p0,bne_self_eq_false,beq_self_eq_true,a9,if_false,if_true]
      cases hd:y.cJ with
      | false=>simp only [lJ,if_true,a9,if_false,aI,hj];exact⟨_,rfl,rfl,hs.put hx hcs (by exact cO hb hjo) _,Nat.le_succ _⟩
      | true=>simp only [eD,if_true,a9,if_false,aI,hj];exact⟨_,rfl,rfl,hs.put hx hcs (by exact cO hb hjo) _,Nat.le_succ _⟩
    · simp only [O2 p0,fJ p0,a9,if_false,if_true]
      by_cases p1:j.Pc=1
      · simp only [p1,bne_self_eq_false,a9,if_false,if_true,aI,hj]
        exact⟨_,rfl,rfl,hs.put hs.1 hcs (by exact cO hb hjo) _,Nat.le_succ _⟩
      · simp only [O2 p1,if_true,aI,hj]
        exact⟨_,rfl,rfl,hs.put hs.1 hcs (by exact cO hb hjo) _,Nat.le_succ _⟩
  · simp only [k6,beq_self_eq_true,show((6:Int) == 5)=false from rfl,show((6:Int) == 4)=false from rfl,a9,if_false,if_true]
    by_cases p0:j.Pc=0
    · obtain⟨r,f1,f2,h1,h2⟩:=aL6 hs.1.1.2.1 hw
      simp only [p0,beq_self_eq_true,if_true,f1,f2,rE,aI]
      cases hr:r.2 with
      | false=>simp only [lJ,if_true,aI,hj];exact⟨_,rfl,rfl,hs.put (hs.1.clock h1 (by rw [h2];exact Int.le_refl _)) hcs (by exact cO hb hjo) _,Nat.le_succ _⟩
      | true=>simp only [eD,a9,if_false,aI,hj];exact⟨_,rfl,rfl,hs.put (hs.1.clock h1 (by rw [h2];exact Int.le_refl _)) hcs (by exact cO hb hjo) _,Nat.le_succ _⟩
    · simp only [fJ p0,a9,if_false,aI,hj]
      exact⟨_,rfl,rfl,hs.put hs.1 hcs (by exact cO hb hjo) _,Nat.le_succ _⟩
end
theorem aNV{l:List dP}(h:0 < l.length)(hl:l.length≤1000):uZ l 0 1=some (l.drop 1):=by
  have e:=del_eq (l:=l) (k:=0) h
  unfold uZ
  rw [aP (by omega),if_neg (by simp),aP (by omega),aP (by omega),aP (by omega),aP]
  · simp only [Int.toNat_zero,Int.toNat_one] at e ⊢
    rw [Nat.zero_add] at e
    rw [Nat.zero_add,e,List.eraseIdx_zero,List.drop_one]
  · rw [eR (by omega)]
    simp only [List.drop_zero,List.length_take,eR (show(0:Int).toNat≤l.length by simp)]
    omega
theorem aFL{o:dP}(ho:vV o)(ser pc:Int)(sub:Sub)(code:Int):JOk ⟨true,o,ser,pc,sub,0,0,0,code⟩:=(JD rfl).2 ⟨ho,.inl rfl,.inl rfl⟩
theorem aUK{s:aC}(hs:CG s)(hl:s.Log.length≤1000000000){w:Int}(hw:0≤w∧w≤2){j:bW}(hj:idx s.aW w=some j):∃x,DE s w=some x∧vA s w=some x∧CG x∧x.Log.length≤s.Log.length+1:=by
  have h3:=hs.2.2.1
  have ht:=hs.2.2.2.1
  have hser:=hs.2.2.2.2.1
  have hset:∀x,idx (s.aW.set w.toNat x) w=some x:=JE hw.1 (by omega)
  have hn:∀(e:Ev) {α:Type} (k:Option α),need (s.Log.length + [e].length≤1073741824) k=k:=fun e _ k=>aP (by simp;omega) k
  have hq:idx s.cG w=some (s.cG[w.toNat]'(by have:=ht.1;omega)):=r9 hw.1 (by have:=ht.1;omega)
  have hqk:QOk (s.cG[w.toNat]'(by have:=ht.1;omega)):=ht.2 _ (List.getElem_mem _)
  generalize (s.cG[w.toNat]'(by have:=ht.1;omega))=q at hq hqk
  obtain⟨pn,hpn,_⟩:=YF hs.1.1.2.1 hw
  have ew:aE (s.aR+1)=s.aR+1:=aU (by omega) (by omega)
  unfold DE vA
  rw [hq]
  simp only [aI,uO,nX]
  by_cases l0:q.eZ.length=0
  · simp only [show((q.eZ.length:Int) == 0)=true by rw [l0];rfl,if_true]
    exact⟨_,rfl,rfl,hs,Nat.le_succ _⟩
  · simp only [show((q.eZ.length:Int) == 0)=false from fJ (by omega),a9,if_false]
    by_cases s0:s.aR=1000000
    · simp only [s0,beq_self_eq_true,if_true]
      exact⟨_,rfl,rfl,hs,Nat.le_succ _⟩
    · simp only [fJ s0,a9,if_false,hq,aI]
      have hx:idx q.eZ 0=some (q.eZ[0]'(by omega)):=by have:=aQ (l:=q.eZ) (k:=0) (by omega);simpa using this
      have ho:vV (q.eZ[0]'(by omega)):=hqk.2 _ (List.getElem_mem _)
      have h12:=hqk.1
      have hdel:=aNV (l:=q.eZ) (by omega) (by omega)
      generalize (q.eZ[0]'(by omega))=o at hx ho
      have etk:(q.eZ.take q.eZ.length).drop (1:Int).toNat=q.eZ.drop 1:=by rw [List.take_length];rfl
      have hT:aBC (s.cG.set w.toNat ⟨q.eZ.drop 1⟩):=⟨by simpa using ht.1,fun z hz=>(List.mem_or_eq_of_mem_set hz).elim (ht.2 z) (fun e=>by
        subst e
        exact⟨by simp only [List.length_drop];omega,fun a ha=>hqk.2 a (List.mem_of_mem_drop ha)⟩)⟩
      have fin:∀(jb:bW) (l:List Ev),JOk jb→CG ⟨s.aD,s.Cells,s.aW.set w.toNat jb,s.cG.set w.toNat ⟨q.eZ.drop 1⟩,l,s.aR+1⟩:=fun jb l hjb=>
        ⟨hs.1,hs.2.1,by simpa using h3,hT,by simp only;omega,hs.2.2.2.2.2.1,fun z hz=>(List.mem_or_eq_of_mem_set hz).elim (hs.2.2.2.2.2.2 z) (fun e=>e ▸ hjb)⟩
      simp only [hx,hdel,aI,jL,iT,ew]
      rw [aP (by omega)]
      by_cases k1:o.Kind=1
      · simp only [k1,beq_self_eq_true,if_true,eS,dK,hj,cR,dC,aI,hset,hn,etk,ew]
        exact⟨_,rfl,rfl,fin _ _ (aFL ho _ _ _ _),by simp⟩
      simp only [fJ k1,a9,if_false]
      have pin:∀z,z=true→∃x,lM s w q o z=some x∧iO s w o (q.eZ.drop 1) z=some x∧CG x∧x.Log.length≤s.Log.length+1:=fun z hz=>by
        subst hz
        simp only [lM,iO,if_true,jL,iT,hpn,aI,bJ]
        cases pn.On with
        | true =>
          simp only [if_true,eS,dK,hj,cR,dC,aI,hset,hn,etk,ew]
          exact⟨_,rfl,rfl,fin _ _ (aFL ho _ _ _ _),by simp⟩
        | false =>
          simp only [a9,if_false,eS,dK,hj,cR,dC,aI,hset,hn,etk,ew]
          exact⟨_,rfl,rfl,fin _ _ (aFL ho _ _ _ _),by simp⟩
      by_cases k2:o.Kind=2
      · simp only [k2,beq_self_eq_true,if_true];exact pin true rfl
      simp only [fJ k2,a9,if_false]
      by_cases k5:o.Kind=5
      · simp only [k5,beq_self_eq_true];exact pin true rfl
      simp only [fJ k5,lM,iO,a9,if_false,jL,iT,aI]
      by_cases k4:o.Kind=4
      · simp only [k4,beq_self_eq_true,if_true,eS,dK,hj,cR,dC,aI,hset,hn,etk,ew]
        exact⟨_,rfl,rfl,fin _ _ (aFL ho _ _ _ _),by simp⟩
      · simp only [fJ k4,a9,if_false,eS,dK,hj,cR,dC,aI,hset,hn,etk,ew]
        exact⟨_,rfl,rfl,fin _ _ (aFL ho _ _ _ _),by simp⟩
theorem aKL{s:aC}(hs:CG s)(hl:s.Log.length≤1000000000){w:Int}(hw:0≤w∧w≤2):∃x,N5 s w=some x∧yL s w=some x∧CG x∧x.Log.length≤s.Log.length+1:=by
  have h3:=hs.2.2.1
  have hset:∀x,idx (s.aW.set w.toNat x) w=some x:=JE hw.1 (by omega)
  have hn:∀(e:Ev) {α:Type} (k:Option α),need (s.Log.length + [e].length≤1073741824) k=k:=fun e _ k=>aP (by simp;omega) k
  have hj:idx s.aW w=some (s.aW[w.toNat]'(by omega)):=r9 hw.1 (by omega)
  have hjk:JOk (s.aW[w.toNat]'(by omega)):=hs.2.2.2.2.2.2 _ (List.getElem_mem _)
  generalize (s.aW[w.toNat]'(by omega))=j at hj hjk
  unfold N5 yL
  rw [hj]
  simp only [aI]
  cases hb:j.fP with
  | false =>
    obtain⟨x,e1,e2,e3,e4⟩:=aUK hs hl hw hj
    simp only [lJ,if_true,e1,e2,aI]
    exact⟨_,rfl,rfl,e3,e4⟩
  | true =>
    have hjo:=(JD hb).1 hjk
    simp only [eD,a9,if_false]
    by_cases p9:j.Pc=9
    · simp only [p9,beq_self_eq_true,if_true,hn,cR,dC,hj,aI]
      exact⟨_,rfl,rfl,hs.put hs.1 ⟨hs.2.1,hs.2.2.2.2.2.1⟩ ((WV rfl).2 rfl) _,by simp⟩
    simp only [fJ p9,a9,if_false]
    have close:∀{A B:Option aC} {x:aC},A=some x→B=some x→CG x→x.Log.length≤s.Log.length+1→∃x,A=some x∧(B.bind fun z=>some z)=some x∧CG x∧x.Log.length≤s.Log.length+1:=fun h1 h2 h3 h4=>⟨_,h1,by rw [h2];rfl,h3,h4⟩
    by_cases k1:j.Op.Kind=1
    · obtain⟨x,e1,e2,e3,e4⟩:=aZ2 hs hl hw hj hb hjo k1
      simp only [k1,beq_self_eq_true,if_true];exact close e1 e2 e3 e4
    simp only [fJ k1,a9,if_false]
    by_cases k2:j.Op.Kind=2
    · obtain⟨x,e1,e2,e3,e4⟩:=get_eq hs hl hw hj hb hjo k2
      simp only [k2,beq_self_eq_true,if_true];exact close e1 e2 e3 e4
    simp only [fJ k2,a9,if_false]
    by_cases k3:j.Op.Kind=3
    · obtain⟨x,e1,e2,e3,e4⟩:=aZ3 hs hl hw hj hb hjo k3
      simp only [k3,beq_self_eq_true,if_true];exact close e1 e2 e3 e4
    simp only [fJ k3,a9,if_false]
    by_cases k7:j.Op.Kind=7
    · obtain⟨x,e1,e2,e3,e4⟩:=aW9 hs hl hw hj hb hjo k7
      simp only [k7,beq_self_eq_true,if_true];exact close e1 e2 e3 e4
    simp only [fJ k7,a9,if_false]
    have hkr:=hjo.1.1
    obtain⟨x,e1,e2,e3,e4⟩:=aUJ hs hl hw hj hb hjo (by omega)
    exact close e1 e2 e3 e4
end Go.Gv
end
noncomputable section
namespace Go.Gv
theorem aB3{α:Type}{f:α→Nat}:∀{l:List α} {x:α},x∈l→f x≤(l.map f).sum
  | y :: r, x, h => by
    rcases List.mem_cons.1 h with rfl | h
    · simp
    · have:=aB3 (f:=f) h;simp;omega
theorem aKM{α:Type}{sz:α→Nat}{f:Int×Int→Option (Step (Int×Int) (Out Int Int))}(l:List α)(hl:l.length≤maxLen)
    (hf:∀(k:Nat) (hk:k < l.length) (n:Int),0≤n→n≤1048576→f (n,(k:Int))=if (sz l[k]:Int)≤n then some (.next (n - sz l[k],((k+1:Nat):Int))) else some (.stop (.ret (-1)))) (he:∀n:Int,f (n,(l.length:Int))=some (.stop (.brk n)))
    {n:Int} (h0:0≤n) (h1:n≤1048576):loop f (n,0)=some (if ((l.map sz).sum:Int)≤n then .brk (n - (l.map sz).sum) else .ret (-1)):=by
  have key:∀(d k:Nat) (n:Int),k+d=l.length→0≤n→n≤1048576→loop f (n,(k:Int))=some (if (((l.drop k).map sz).sum:Int)≤n then .brk (n - ((l.drop k).map sz).sum) else .ret (-1)):=by
    intro d
    induction d with
    | zero =>
      intro k n hk h0 h1
      obtain rfl:k=l.length:=by omega
      rw [bZ (he n),List.drop_length,if_pos (by simpa using h0)];simp
    | succ d ih =>
      intro k n hk h0 h1
      have hk':k < l.length:=by omega
      have hd:l.drop k=l[k] :: l.drop (k+1):=List.drop_eq_getElem_cons hk'
      have e:((l.drop k).map sz).sum=sz l[k]+((l.drop (k+1)).map sz).sum:=by rw [hd,List.map_cons,List.sum_cons]
      rw [e]
      by_cases q:(sz l[k]:Int)≤n
      · rw [cH (by rw [hf k hk' n h0 h1,if_pos q]),ih (k+1) _ (by omega) (by omega) (by omega)]
        by_cases q2:(((l.drop (k+1)).map sz).sum:Int)≤n - sz l[k]
        · rw [if_pos q2,if_pos (by omega)];congr 2;omega
        · rw [if_neg q2,if_neg (by omega)]
      · rw [bZ (by rw [hf k hk' n h0 h1,if_neg q]),if_neg (by omega)]
  have:=key l.length 0 n (by omega) h0 h1
  simpa using this
def cM(l:List Int):Nat:=l.length
theorem T3(l:List Int):l.length≤cM l:=by unfold cM;omega
theorem WW{l:List Int}(hf:fit l){n:Int}(h0:0≤n)(h1:n≤1048576):pP l n=some (if (cM l:Int)≤n then n - cM l else -1):=by
  have hm:l.length≤9223372036854775807:=hf.1
  unfold pP cM
  rw [aU (by omega) (by omega)]
  by_cases h:(l.length:Int)≤n
  · rw [if_pos h,if_neg (by simp;omega)]
  · rw [if_neg h,if_pos (by simp;omega)]
theorem WX{l:List Int}(h:cM l≤4194304):pR l=some l:=by
  have hl:=T3 l
  unfold pR
  rw [aP (by omega),Int.toNat_natCast,uD l id]
  · simp [QY,QX]
  · intro acc k hk he
    simp only [IF]
    rw [if_pos (by simp;omega),aQ hk]
    simp only [aI]
    rw [aQ (by omega)]
    simp only [aI]
    rw [aU (by omega) (by omega)]
    simp
  · intro acc
    simp [IF]
theorem WY{l:List Int}(h:cM l≤4194304):pT l l=some true:=by
  have hl:=T3 l
  unfold pT
  have key:loop (tN l l) 0=some (Out.brk ()):=by
    refine gA (f:=tN l l) l.length (fun k=>(k:Int)) _ (fun k hk=>?_) ?_
    · simp only [tN]
      rw [if_pos (by simp;omega),aQ hk,aU (by omega) (by omega)]
      simp
    · simp [tN]
  simp [key,RE,RD]
def iP(v:aG):Nat:=cM v.Bytes+cM v.Class
theorem aXA{v:aG}(hf:fit v){n:Int}(h0:0≤n)(h1:n≤1048576):JU v n=some (if (iP v:Int)≤n then n - iP v else -1):=by
  unfold JU iP
  rw [WW (hf.1) (by omega) (by omega)]
  by_cases q0:(cM v.Bytes:Int)≤n
  · rw [if_pos q0];simp only [aI];rw [if_neg (by simp only [decide_eq_true_eq];omega)]
    rw [WW (hf.2) (by omega) (by omega)]
    by_cases q1:(cM v.Class:Int)≤n - (cM v.Bytes:Nat)
    · rw [if_pos q1];simp only [aI];rw [if_neg (by simp only [decide_eq_true_eq];omega),if_pos (by omega)];congr 1;omega
    · rw [if_neg q1,if_neg (by omega)];rfl
  · rw [if_neg q0,if_neg (by omega)];rfl
theorem aXB{v:aG}(h:iP v≤4194304):KC v=some v:=by
  have h0:cM v.Bytes≤4194304:=by unfold iP at h;omega
  have h1:cM v.Class≤4194304:=by unfold iP at h;omega
  unfold KC
  simp only [WX h0,WX h1,aI]
theorem aXC{v:aG}(h:iP v≤4194304):KO v v=some true:=by
  have h0:cM v.Bytes≤4194304:=by unfold iP at h;omega
  have h1:cM v.Class≤4194304:=by unfold iP at h;omega
  unfold KO
  simp [WY h0,WY h1]
def fK(v:aH):Nat:=cM v.aL
theorem aUL{v:aH}(hf:fit v){n:Int}(h0:0≤n)(h1:n≤1048576):FK v n=some (if (fK v:Int)≤n then n - fK v else -1):=by
  unfold FK fK
  rw [WW (hf) (by omega) (by omega)]
  by_cases q0:(cM v.aL:Int)≤n
  · rw [if_pos q0];simp only [aI];rw [if_neg (by simp only [decide_eq_true_eq];omega)]
  · rw [if_neg q0];rfl
theorem aUM{v:aH}(h:fK v≤4194304):GF v=some v:=by
  have h0:cM v.aL≤4194304:=by unfold fK at h;omega
  unfold GF
  simp only [WX h0,aI]
theorem aUN{v:aH}(h:fK v≤4194304):G4 v v=some true:=by
  have h0:cM v.aL≤4194304:=by unfold fK at h;omega
  unfold G4
  simp [WY h0]
def dV(l:List aH):Nat:=l.length+(l.map fK).sum
theorem P6{l:List aH}{x:aH}(h:x∈l):fK x≤dV l:=by have:=aB3 (f:=fK) h;unfold dV;omega
theorem P7(l:List aH):l.length≤dV l:=by unfold dV;omega
theorem aIG{l:List aH}(hf:fit l){n:Int}(h0:0≤n)(h1:n≤1048576):wB l n=some (if (dV l:Int)≤n then n - dV l else -1):=by
  have hm:l.length≤9223372036854775807:=hf.1
  unfold wB dV
  rw [aU (by omega) (by omega)]
  by_cases h:(l.length:Int)≤n
  · rw [if_neg (by simp;omega),aKM (sz:=fK) (f:=uE l) l hf.1 (fun k hk q q0 q1=>?_) (fun q=>by simp [uE]) (by omega) (by omega)]
    · by_cases h2:((l.map fK).sum:Int)≤n - l.length
      · rw [if_pos h2,if_pos (by omega)];simp only [aI,MF,ME];congr 1;omega
      · rw [if_neg h2,if_neg (by omega)];rfl
    · simp only [uE]
      rw [if_pos (by simp;omega),aQ hk]
      simp only [aI]
      rw [aUL (hf.2 _ (List.getElem_mem hk)) q0 q1]
      simp only [aI]
      by_cases h2:(fK l[k]:Int)≤q
      · rw [if_pos h2,if_pos h2,if_neg (by simp only [decide_eq_true_eq];omega),cX (eE hk hf.1)]
      · rw [if_neg h2,if_neg h2];rfl
  · rw [if_pos (by simp;omega),if_neg (by omega)]
theorem aIH{l:List aH}(h:dV l≤4194304):wO l=some l:=by
  have hl:=P7 l
  unfold wO
  rw [aP (by omega),Int.toNat_natCast,uD l id]
  · simp [MN,MM]
  · intro acc k hk he
    simp only [CV]
    rw [if_pos (by simp;omega),aQ hk]
    simp only [aI,aUM (Nat.le_trans (P6 (List.getElem_mem hk)) h)]
    rw [aQ (by omega)]
    simp only [aI]
    rw [aU (by omega) (by omega)]
    simp
  · intro acc
    simp [CV]
theorem aII{l:List aH}(h:dV l≤4194304):wY l l=some true:=by
  have hl:=P7 l
  unfold wY
  have key:loop (pB l l) 0=some (Out.brk ()):=by
    refine gA (f:=pB l l) l.length (fun k=>(k:Int)) _ (fun k hk=>?_) ?_
    · simp only [pB]
      rw [if_pos (by simp;omega),aQ hk,aU (by omega) (by omega)]
      simp [aUN (Nat.le_trans (P6 (List.getElem_mem hk)) h)]
    · simp [pB]
  simp [key,MW,MV]
def hO(v:aA):Nat:=dV v.Global+dV v.bQ
theorem aUO{v:aA}(hf:fit v){n:Int}(h0:0≤n)(h1:n≤1048576):FL v n=some (if (hO v:Int)≤n then n - hO v else -1):=by
  unfold FL hO
  rw [aIG (hf.1) (by omega) (by omega)]
  by_cases q0:(dV v.Global:Int)≤n
  · rw [if_pos q0];simp only [aI];rw [if_neg (by simp only [decide_eq_true_eq];omega)]
    rw [aIG (hf.2) (by omega) (by omega)]
    by_cases q1:(dV v.bQ:Int)≤n - (dV v.Global:Nat)
    · rw [if_pos q1];simp only [aI];rw [if_neg (by simp only [decide_eq_true_eq];omega),if_pos (by omega)];congr 1;omega
    · rw [if_neg q1,if_neg (by omega)];rfl
  · rw [if_neg q0,if_neg (by omega)];rfl
theorem aUP{v:aA}(h:hO v≤4194304):GG v=some v:=by
  have h0:dV v.Global≤4194304:=by unfold hO at h;omega
  have h1:dV v.bQ≤4194304:=by unfold hO at h;omega
  unfold GG
  simp only [aIH h0,aIH h1,aI]
theorem aUQ{v:aA}(h:hO v≤4194304):G5 v v=some true:=by
  have h0:dV v.Global≤4194304:=by unfold hO at h;omega
  have h1:dV v.bQ≤4194304:=by unfold hO at h;omega
  unfold G5
  simp [aII h0,aII h1]
def i6(v:Mem):Nat:=iP v.aG+hO v.aA
theorem aZ4{v:Mem}(hf:fit v){n:Int}(h0:0≤n)(h1:n≤1048576):NY v n=some (if (i6 v:Int)≤n then n - i6 v else -1):=by
  unfold NY i6
  rw [aXA (hf.1) (by omega) (by omega)]
  by_cases q0:(iP v.aG:Int)≤n
  · rw [if_pos q0];simp only [aI];rw [if_neg (by simp only [decide_eq_true_eq];omega)]
    rw [aUO (hf.2) (by omega) (by omega)]
    by_cases q1:(hO v.aA:Int)≤n - (iP v.aG:Nat)
    · rw [if_pos q1];simp only [aI];rw [if_neg (by simp only [decide_eq_true_eq];omega),if_pos (by omega)];congr 1;omega
    · rw [if_neg q1,if_neg (by omega)];rfl
  · rw [if_neg q0,if_neg (by omega)];rfl
theorem aZ5{v:Mem}(h:i6 v≤4194304):N6 v=some v:=by
  have h0:iP v.aG≤4194304:=by unfold i6 at h;omega
  have h1:hO v.aA≤4194304:=by unfold i6 at h;omega
  unfold N6
  simp only [aXB h0,aUP h1,aI]
theorem aZ6{v:Mem}(h:i6 v≤4194304):OG v v=some true:=by
  have h0:iP v.aG≤4194304:=by unfold i6 at h;omega
  have h1:hO v.aA≤4194304:=by unfold i6 at h;omega
  unfold OG
  simp [aXC h0,aUQ h1]
theorem aZ7(a:fO):UI a=some a:=rfl
theorem aZ8(a:fO):OH a a=some true:=by simp [OH]
def lV(l:List fO):Nat:=l.length
theorem T4(l:List fO):l.length≤lV l:=by unfold lV;omega
theorem aXD{l:List fO}(hf:fit l){n:Int}(h0:0≤n)(h1:n≤1048576):JV l n=some (if (lV l:Int)≤n then n - lV l else -1):=by
  have hm:l.length≤9223372036854775807:=hf.1
  unfold JV lV
  rw [aU (by omega) (by omega)]
  by_cases h:(l.length:Int)≤n
  · rw [if_pos h,if_neg (by simp;omega)]
  · rw [if_neg h,if_pos (by simp;omega)]
theorem aXE{l:List fO}(h:lV l≤4194304):KD l=some l:=by
  have hl:=T4 l
  unfold KD
  rw [aP (by omega),Int.toNat_natCast,uD l id]
  · simp [Q0,QZ]
  · intro acc k hk he
    simp only [IG]
    rw [if_pos (by simp;omega),aQ hk]
    simp only [aI,aZ7]
    rw [aQ (by omega)]
    simp only [aI]
    rw [aU (by omega) (by omega)]
    simp
  · intro acc
    simp [IG]
theorem aXF{l:List fO}(h:lV l≤4194304):KP l l=some true:=by
  have hl:=T4 l
  unfold KP
  have key:loop (tO l l) 0=some (Out.brk ()):=by
    refine gA (f:=tO l l) l.length (fun k=>(k:Int)) _ (fun k hk=>?_) ?_
    · simp only [tO]
      rw [if_pos (by simp;omega),aQ hk,aU (by omega) (by omega)]
      simp [aZ8]
    · simp [tO]
  simp [key,RG,RF]
def hQ(v:aJ):Nat:=lV v.bD
theorem aUR{v:aJ}(hf:fit v){n:Int}(h0:0≤n)(h1:n≤1048576):FM v n=some (if (hQ v:Int)≤n then n - hQ v else -1):=by
  unfold FM hQ
  rw [aXD (hf.2) (by omega) (by omega)]
  by_cases q0:(lV v.bD:Int)≤n
  · rw [if_pos q0];simp only [aI];rw [if_neg (by simp only [decide_eq_true_eq];omega)]
  · rw [if_neg q0];rfl
theorem aUS{v:aJ}(h:hQ v≤4194304):GH v=some v:=by
  have h0:lV v.bD≤4194304:=by unfold hQ at h;omega
  unfold GH
  simp only [aXE h0,aI]
theorem aUT{v:aJ}(h:hQ v≤4194304):G6 v v=some true:=by
  have h0:lV v.bD≤4194304:=by unfold hQ at h;omega
  unfold G6
  simp [aXF h0]
theorem aXG(a:bM):Q1 a=some a:=rfl
theorem aXH(a:bM):KQ a a=some true:=by simp [KQ]
def kL(l:List bM):Nat:=l.length
theorem R8(l:List bM):l.length≤kL l:=by unfold kL;omega
theorem aUU{l:List bM}(hf:fit l){n:Int}(h0:0≤n)(h1:n≤1048576):FN l n=some (if (kL l:Int)≤n then n - kL l else -1):=by
  have hm:l.length≤9223372036854775807:=hf.1
  unfold FN kL
  rw [aU (by omega) (by omega)]
  by_cases h:(l.length:Int)≤n
  · rw [if_pos h,if_neg (by simp;omega)]
  · rw [if_neg h,if_pos (by simp;omega)]
theorem aUV{l:List bM}(h:kL l≤4194304):GI l=some l:=by
  have hl:=R8 l
  unfold GI
  rw [aP (by omega),Int.toNat_natCast,uD l id]
  · simp [PG,PF]
  · intro acc k hk he
    simp only [E4]
    rw [if_pos (by simp;omega),aQ hk]
    simp only [aI,aXG]
    rw [aQ (by omega)]
    simp only [aI]
    rw [aU (by omega) (by omega)]
    simp
  · intro acc
    simp [E4]
theorem aUW{l:List bM}(h:kL l≤4194304):G7 l l=some true:=by
  have hl:=R8 l
  unfold G7
  have key:loop (rG l l) 0=some (Out.brk ()):=by
    refine gA (f:=rG l l) l.length (fun k=>(k:Int)) _ (fun k hk=>?_) ?_
    · simp only [rG]
      rw [if_pos (by simp;omega),aQ hk,aU (by omega) (by omega)]
      simp [aXH]
    · simp [rG]
  simp [key,PN,PM]
def gL(v:aO):Nat:=kL v.Rows
theorem aUX{v:aO}(hf:fit v){n:Int}(h0:0≤n)(h1:n≤1048576):FO v n=some (if (gL v:Int)≤n then n - gL v else -1):=by
  unfold FO gL
  rw [aUU (hf) (by omega) (by omega)]
  by_cases q0:(kL v.Rows:Int)≤n
  · rw [if_pos q0];simp only [aI];rw [if_neg (by simp only [decide_eq_true_eq];omega)]
  · rw [if_neg q0];rfl
theorem aUY{v:aO}(h:gL v≤4194304):GJ v=some v:=by
  have h0:kL v.Rows≤4194304:=by unfold gL at h;omega
  unfold GJ
  simp only [aUV h0,aI]
theorem aUZ{v:aO}(h:gL v≤4194304):G8 v v=some true:=by
  have h0:kL v.Rows≤4194304:=by unfold gL at h;omega
  unfold G8
  simp [aUW h0]
def fH(l:List aO):Nat:=l.length+(l.map gL).sum
theorem P8{l:List aO}{x:aO}(h:x∈l):gL x≤fH l:=by have:=aB3 (f:=gL) h;unfold fH;omega
theorem P9(l:List aO):l.length≤fH l:=by unfold fH;omega
theorem aQM{l:List aO}(hf:fit l){n:Int}(h0:0≤n)(h1:n≤1048576):C9 l n=some (if (fH l:Int)≤n then n - fH l else -1):=by
  have hm:l.length≤9223372036854775807:=hf.1
  unfold C9 fH
  rw [aU (by omega) (by omega)]
  by_cases h:(l.length:Int)≤n
  · rw [if_neg (by simp;omega),aKM (sz:=gL) (f:=uF l) l hf.1 (fun k hk q q0 q1=>?_) (fun q=>by simp [uF]) (by omega) (by omega)]
    · by_cases h2:((l.map gL).sum:Int)≤n - l.length
      · rw [if_pos h2,if_pos (by omega)];simp only [aI,MH,MG];congr 1;omega
      · rw [if_neg h2,if_neg (by omega)];rfl
    · simp only [uF]
      rw [if_pos (by simp;omega),aQ hk]
      simp only [aI]
      rw [aUX (hf.2 _ (List.getElem_mem hk)) q0 q1]
      simp only [aI]
      by_cases h2:(gL l[k]:Int)≤q
      · rw [if_pos h2,if_pos h2,if_neg (by simp only [decide_eq_true_eq];omega),cX (eE hk hf.1)]
      · rw [if_neg h2,if_neg h2];rfl
  · rw [if_pos (by simp;omega),if_neg (by omega)]
theorem aQN{l:List aO}(h:fH l≤4194304):DK l=some l:=by
  have hl:=P9 l
  unfold DK
  rw [aP (by omega),Int.toNat_natCast,uD l id]
  · simp [MP,MO]
  · intro acc k hk he
    simp only [CX]
    rw [if_pos (by simp;omega),aQ hk]
    simp only [aI,aUY (Nat.le_trans (P8 (List.getElem_mem hk)) h)]
    rw [aQ (by omega)]
    simp only [aI]
    rw [aU (by omega) (by omega)]
    simp
  · intro acc
    simp [CX]
theorem aQO{l:List aO}(h:fH l≤4194304):D0 l l=some true:=by
  have hl:=P9 l
  unfold D0
  have key:loop (pC l l) 0=some (Out.brk ()):=by
    refine gA (f:=pC l l) l.length (fun k=>(k:Int)) _ (fun k hk=>?_) ?_
    · simp only [pC]
      rw [if_pos (by simp;omega),aQ hk,aU (by omega) (by omega)]
      simp [aUZ (Nat.le_trans (P8 (List.getElem_mem hk)) h)]
    · simp [pC]
  simp [key,MY,MX]
def d7(v:aD):Nat:=i6 v.Mem+hQ v.aJ+fH v.aX+cM v.jQ
theorem aXI{v:aD}(hf:fit v){n:Int}(h0:0≤n)(h1:n≤1048576):JW v n=some (if (d7 v:Int)≤n then n - d7 v else -1):=by
  unfold JW d7
  rw [aZ4 (hf.1) (by omega) (by omega)]
  by_cases q0:(i6 v.Mem:Int)≤n
  · rw [if_pos q0];simp only [aI];rw [if_neg (by simp only [decide_eq_true_eq];omega)]
    rw [aUR (hf.2.1) (by omega) (by omega)]
    by_cases q1:(hQ v.aJ:Int)≤n - (i6 v.Mem:Nat)
    · rw [if_pos q1];simp only [aI];rw [if_neg (by simp only [decide_eq_true_eq];omega)]
      rw [aQM (hf.2.2.1) (by omega) (by omega)]
      by_cases q2:(fH v.aX:Int)≤n - (i6 v.Mem:Nat) - (hQ v.aJ:Nat)
      · rw [if_pos q2];simp only [aI];rw [if_neg (by simp only [decide_eq_true_eq];omega)]
        rw [WW (hf.2.2.2) (by omega) (by omega)]
        by_cases q3:(cM v.jQ:Int)≤n - (i6 v.Mem:Nat) - (hQ v.aJ:Nat) - (fH v.aX:Nat)
        · rw [if_pos q3];simp only [aI];rw [if_neg (by simp only [decide_eq_true_eq];omega),if_pos (by omega)];congr 1;omega
        · rw [if_neg q3,if_neg (by omega)];rfl
      · rw [if_neg q2,if_neg (by omega)];rfl
    · rw [if_neg q1,if_neg (by omega)];rfl
  · rw [if_neg q0,if_neg (by omega)];rfl
theorem aXJ{v:aD}(h:d7 v≤4194304):KE v=some v:=by
  have h0:i6 v.Mem≤4194304:=by unfold d7 at h;omega
  have h1:hQ v.aJ≤4194304:=by unfold d7 at h;omega
  have h2:fH v.aX≤4194304:=by unfold d7 at h;omega
  have h3:cM v.jQ≤4194304:=by unfold d7 at h;omega
  unfold KE
  simp only [aZ5 h0,aUS h1,aQN h2,WX h3,aI]
theorem aXK{v:aD}(h:d7 v≤4194304):KR v v=some true:=by
  have h0:i6 v.Mem≤4194304:=by unfold d7 at h;omega
  have h1:hQ v.aJ≤4194304:=by unfold d7 at h;omega
  have h2:fH v.aX≤4194304:=by unfold d7 at h;omega
  have h3:cM v.jQ≤4194304:=by unfold d7 at h;omega
  unfold KR
  simp [aZ6 h0,aUT h1,aQO h2,WY h3]
theorem a1V(a:dP):SL a=some a:=rfl
theorem aYH(a:dP):MZ a a=some true:=by simp [MZ]
def pM(l:List dP):Nat:=l.length
theorem WZ(l:List dP):l.length≤pM l:=by unfold pM;omega
theorem aZ9{l:List dP}(hf:fit l){n:Int}(h0:0≤n)(h1:n≤1048576):NZ l n=some (if (pM l:Int)≤n then n - pM l else -1):=by
  have hm:l.length≤9223372036854775807:=hf.1
  unfold NZ pM
  rw [aU (by omega) (by omega)]
  by_cases h:(l.length:Int)≤n
  · rw [if_pos h,if_neg (by simp;omega)]
  · rw [if_neg h,if_pos (by simp;omega)]
theorem a0A{l:List dP}(h:pM l≤4194304):N7 l=some l:=by
  have hl:=WZ l
  unfold N7
  rw [aP (by omega),Int.toNat_natCast,uD l id]
  · simp [TC,TB]
  · intro acc k hk he
    simp only [K9]
    rw [if_pos (by simp;omega),aQ hk]
    simp only [aI,a1V]
    rw [aQ (by omega)]
    simp only [aI]
    rw [aU (by omega) (by omega)]
    simp
  · intro acc
    simp [K9]
theorem a0B{l:List dP}(h:pM l≤4194304):OK l l=some true:=by
  have hl:=WZ l
  unfold OK
  have key:loop (wZ l l) 0=some (Out.brk ()):=by
    refine gA (f:=wZ l l) l.length (fun k=>(k:Int)) _ (fun k hk=>?_) ?_
    · simp only [wZ]
      rw [if_pos (by simp;omega),aQ hk,aU (by omega) (by omega)]
      simp [aYH]
    · simp [wZ]
  simp [key,TJ,TH]
def gN(v:Queue):Nat:=pM v.eZ
theorem aU0{v:Queue}(hf:fit v){n:Int}(h0:0≤n)(h1:n≤1048576):FP v n=some (if (gN v:Int)≤n then n - gN v else -1):=by
  unfold FP gN
  rw [aZ9 (hf) (by omega) (by omega)]
  by_cases q0:(pM v.eZ:Int)≤n
  · rw [if_pos q0];simp only [aI];rw [if_neg (by simp only [decide_eq_true_eq];omega)]
  · rw [if_neg q0];rfl
theorem aU1{v:Queue}(h:gN v≤4194304):GK v=some v:=by
  have h0:pM v.eZ≤4194304:=by unfold gN at h;omega
  unfold GK
  simp only [a0A h0,aI]
theorem aU2{v:Queue}(h:gN v≤4194304):G9 v v=some true:=by
  have h0:pM v.eZ≤4194304:=by unfold gN at h;omega
  unfold G9
  simp [a0B h0]
def fW(l:List Queue):Nat:=l.length+(l.map gN).sum
theorem FC{l:List Queue}{x:Queue}(h:x∈l):gN x≤fW l:=by have:=aB3 (f:=gN) h;unfold fW;omega
theorem FD(l:List Queue):l.length≤fW l:=by unfold fW;omega
theorem aQP{l:List Queue}(hf:fit l){n:Int}(h0:0≤n)(h1:n≤1048576):DA l n=some (if (fW l:Int)≤n then n - fW l else -1):=by
  have hm:l.length≤9223372036854775807:=hf.1
  unfold DA fW
  rw [aU (by omega) (by omega)]
  by_cases h:(l.length:Int)≤n
  · rw [if_neg (by simp;omega),aKM (sz:=gN) (f:=uG l) l hf.1 (fun k hk q q0 q1=>?_) (fun q=>by simp [uG]) (by omega) (by omega)]
    · by_cases h2:((l.map gN).sum:Int)≤n - l.length
      · rw [if_pos h2,if_pos (by omega)];simp only [aI,MJ,MI];congr 1;omega
      · rw [if_neg h2,if_neg (by omega)];rfl
    · simp only [uG]
      rw [if_pos (by simp;omega),aQ hk]
      simp only [aI]
      rw [aU0 (hf.2 _ (List.getElem_mem hk)) q0 q1]
      simp only [aI]
      by_cases h2:(gN l[k]:Int)≤q
      · rw [if_pos h2,if_pos h2,if_neg (by simp only [decide_eq_true_eq];omega),cX (eE hk hf.1)]
      · rw [if_neg h2,if_neg h2];rfl
  · rw [if_pos (by simp;omega),if_neg (by omega)]
theorem aQQ{l:List Queue}(h:fW l≤4194304):DL l=some l:=by
  have hl:=FD l
  unfold DL
  rw [aP (by omega),Int.toNat_natCast,uD l id]
  · simp [MR,MQ]
  · intro acc k hk he
    simp only [CY]
    rw [if_pos (by simp;omega),aQ hk]
    simp only [aI,aU1 (Nat.le_trans (FC (List.getElem_mem hk)) h)]
    rw [aQ (by omega)]
    simp only [aI]
    rw [aU (by omega) (by omega)]
    simp
  · intro acc
    simp [CY]
theorem aQR{l:List Queue}(h:fW l≤4194304):D1 l l=some true:=by
  have hl:=FD l
  unfold D1
  have key:loop (pD l l) 0=some (Out.brk ()):=by
    refine gA (f:=pD l l) l.length (fun k=>(k:Int)) _ (fun k hk=>?_) ?_
    · simp only [pD]
      rw [if_pos (by simp;omega),aQ hk,aU (by omega) (by omega)]
      simp [aU2 (Nat.le_trans (FC (List.getElem_mem hk)) h)]
    · simp [pD]
  simp [key,M1,M0]
theorem a0C(a:Sub):OI a a=some true:=by simp [OI]
theorem a0D(a:bW):UJ a=some a:=rfl
theorem a0E(a:bW):OJ a a=some true:=by simp [OJ,aYH,a0C]
def jA(l:List bW):Nat:=l.length
theorem T5(l:List bW):l.length≤jA l:=by unfold jA;omega
theorem aXL{l:List bW}(hf:fit l){n:Int}(h0:0≤n)(h1:n≤1048576):JX l n=some (if (jA l:Int)≤n then n - jA l else -1):=by
  have hm:l.length≤9223372036854775807:=hf.1
  unfold JX jA
  rw [aU (by omega) (by omega)]
  by_cases h:(l.length:Int)≤n
  · rw [if_pos h,if_neg (by simp;omega)]
  · rw [if_neg h,if_pos (by simp;omega)]
theorem aXM{l:List bW}(h:jA l≤4194304):KF l=some l:=by
  have hl:=T5 l
  unfold KF
  rw [aP (by omega),Int.toNat_natCast,uD l id]
  · simp [Q3,Q2]
  · intro acc k hk he
    simp only [IH]
    rw [if_pos (by simp;omega),aQ hk]
    simp only [aI,a0D]
    rw [aQ (by omega)]
    simp only [aI]
    rw [aU (by omega) (by omega)]
    simp
  · intro acc
    simp [IH]
theorem aXN{l:List bW}(h:jA l≤4194304):KS l l=some true:=by
  have hl:=T5 l
  unfold KS
  have key:loop (tP l l) 0=some (Out.brk ()):=by
    refine gA (f:=tP l l) l.length (fun k=>(k:Int)) _ (fun k hk=>?_) ?_
    · simp only [tP]
      rw [if_pos (by simp;omega),aQ hk,aU (by omega) (by omega)]
      simp [a0E]
    · simp [tP]
  simp [key,RI,RH]
theorem a1W(a:Ev):XH a=some a:=rfl
theorem a1X(a:Ev):SN a a=some true:=by simp [SN]
def pN(l:List Ev):Nat:=l.length
theorem W0(l:List Ev):l.length≤pN l:=by unfold pN;omega
theorem a0F{l:List Ev}(hf:fit l){n:Int}(h0:0≤n)(h1:n≤1048576):N0 l n=some (if (pN l:Int)≤n then n - pN l else -1):=by
  have hm:l.length≤9223372036854775807:=hf.1
  unfold N0 pN
  rw [aU (by omega) (by omega)]
  by_cases h:(l.length:Int)≤n
  · rw [if_pos h,if_neg (by simp;omega)]
  · rw [if_neg h,if_pos (by simp;omega)]
theorem a0G{l:List Ev}(h:pN l≤4194304):N8 l=some l:=by
  have hl:=W0 l
  unfold N8
  rw [aP (by omega),Int.toNat_natCast,uD l id]
  · simp [TE,TD]
  · intro acc k hk he
    simp only [LA]
    rw [if_pos (by simp;omega),aQ hk]
    simp only [aI,a1W]
    rw [aQ (by omega)]
    simp only [aI]
    rw [aU (by omega) (by omega)]
    simp
  · intro acc
    simp [LA]
theorem a0H{l:List Ev}(h:pN l≤4194304):OL l l=some true:=by
  have hl:=W0 l
  unfold OL
  have key:loop (xA l l) 0=some (Out.brk ()):=by
    refine gA (f:=xA l l) l.length (fun k=>(k:Int)) _ (fun k hk=>?_) ?_
    · simp only [xA]
      rw [if_pos (by simp;omega),aQ hk,aU (by omega) (by omega)]
      simp [a1X]
    · simp [xA]
  simp [key,TM,TL]
def dF(v:aC):Nat:=d7 v.aD+cM v.Cells+jA v.aW+fW v.cG+pN v.Log
theorem aU3{v:aC}(hf:fit v){n:Int}(h0:0≤n)(h1:n≤1048576):AA v n=some (if (dF v:Int)≤n then n - dF v else -1):=by
  unfold AA dF
  rw [aXI (hf.1) (by omega) (by omega)]
  by_cases q0:(d7 v.aD:Int)≤n
  · rw [if_pos q0];simp only [aI];rw [if_neg (by simp only [decide_eq_true_eq];omega)]
    rw [WW (hf.2.1) (by omega) (by omega)]
    by_cases q1:(cM v.Cells:Int)≤n - (d7 v.aD:Nat)
    · rw [if_pos q1];simp only [aI];rw [if_neg (by simp only [decide_eq_true_eq];omega)]
      rw [aXL (hf.2.2.1) (by omega) (by omega)]
      by_cases q2:(jA v.aW:Int)≤n - (d7 v.aD:Nat) - (cM v.Cells:Nat)
      · rw [if_pos q2];simp only [aI];rw [if_neg (by simp only [decide_eq_true_eq];omega)]
        rw [aQP (hf.2.2.2.1) (by omega) (by omega)]
        by_cases q3:(fW v.cG:Int)≤n - (d7 v.aD:Nat) - (cM v.Cells:Nat) - (jA v.aW:Nat)
        · rw [if_pos q3];simp only [aI];rw [if_neg (by simp only [decide_eq_true_eq];omega)]
          rw [a0F (hf.2.2.2.2.1) (by omega) (by omega)]
          by_cases q4:(pN v.Log:Int)≤n - (d7 v.aD:Nat) - (cM v.Cells:Nat) - (jA v.aW:Nat) - (fW v.cG:Nat)
          · rw [if_pos q4];simp only [aI];rw [if_neg (by simp only [decide_eq_true_eq];omega),if_pos (by omega)];congr 1;omega
          · rw [if_neg q4,if_neg (by omega)];rfl
        · rw [if_neg q3,if_neg (by omega)];rfl
      · rw [if_neg q2,if_neg (by omega)];rfl
    · rw [if_neg q1,if_neg (by omega)];rfl
  · rw [if_neg q0,if_neg (by omega)];rfl
theorem aU4{v:aC}(h:dF v≤4194304):gZ v=some v:=by
  have h0:d7 v.aD≤4194304:=by unfold dF at h;omega
  have h1:cM v.Cells≤4194304:=by unfold dF at h;omega
  have h2:jA v.aW≤4194304:=by unfold dF at h;omega
  have h3:fW v.cG≤4194304:=by unfold dF at h;omega
  have h4:pN v.Log≤4194304:=by unfold dF at h;omega
  unfold gZ
  simp only [aXJ h0,WX h1,aXM h2,aQQ h3,a0G h4,aI]
theorem aU5{v:aC}(h:dF v≤4194304):g8 v v=some true:=by
  have h0:d7 v.aD≤4194304:=by unfold dF at h;omega
  have h1:cM v.Cells≤4194304:=by unfold dF at h;omega
  have h2:jA v.aW≤4194304:=by unfold dF at h;omega
  have h3:fW v.cG≤4194304:=by unfold dF at h;omega
  have h4:pN v.Log≤4194304:=by unfold dF at h;omega
  unfold g8
  simp [aXK h0,WY h1,aXN h2,aQR h3,a0H h4]
theorem nx3{α ρ:Type}{x:α}{k k' i i':Int}(h1:k=k')(h2:i=i'):(some (Step.next (x,k,i)):Option (Step (α×Int×Int) ρ))=some (.next (x,k',i')):=by rw [h1,h2]
theorem nx2{ρ:Type}{k k' i i':Int}(h1:k=k')(h2:i=i'):(some (Step.next (k,i)):Option (Step (Int×Int) ρ))=some (.next (k',i')):=by rw [h1,h2]
theorem yZ(x y:Int):aE (aE x+y)=aE (x+y):=by
  simp [aE,IntKind.wrap,IntKind.bits,IntKind.signed];split <;> split <;> omega
theorem CB{α:Type}(l:List α)(wt:α→Nat)(P:α→α→Int→Prop){f:(List α×Int×Int)→Option (Step (List α×Int×Int) (List α×Int))}{k0:Int}(h0:0≤k0)(hB:k0+(l.map wt).sum≤4611686018427387904)
    (hf:∀(m:List α) (k:Int) (i:Nat) (hi:i < l.length) (hm:m.length=l.length),m[i]'(by omega)=l[i]→0≤k→k+wt l[i]≤4611686018427387904→∃a,f (m,k,(i:Int))=some (.next (m.set i a,k+wt l[i],((i+1:Nat):Int)))∧P l[i] a k)
    (he:∀(m:List α) (k:Int),m.length=l.length→f (m,k,(l.length:Int))=some (.stop (m,k))) :
    ∃m,loop f (l,k0,0)=some (m,k0+(l.map wt).sum)∧m.length=l.length∧∀j (hj:j < l.length) (hj':j < m.length),P l[j] m[j] (k0+((l.take j).map wt).sum):=by
  have key:∀(d i:Nat) (m:List α),i+d=l.length→m.length=l.length→(∀j (hj:j < l.length) (hj':j < m.length),i≤j→m[j]=l[j])→(∀j (hj:j < l.length) (hj':j < m.length),j < i→P l[j] m[j] (k0+((l.take j).map wt).sum)) →
      ∃m',loop f (m,k0+((l.take i).map wt).sum,(i:Int))=some (m',k0+(l.map wt).sum)∧m'.length=l.length∧∀j (hj:j < l.length) (hj':j < m'.length),P l[j] m'[j] (k0+((l.take j).map wt).sum):=by
    intro d
    induction d with
    | zero =>
      intro i m hi hm _ h
      obtain rfl:i=l.length:=by omega
      rw [List.take_length]
      exact⟨m,bZ (he m _ hm),hm,fun j hj hj'=>h j hj hj' hj⟩
    | succ d ih =>
      intro i m hi hm hs h
      have hil:i < l.length:=by omega
      have hle:((l.take i).map wt).sum+wt l[i]≤(l.map wt).sum:=by
        have e:l.map wt=(l.take i).map wt++(wt l[i] :: (l.drop (i+1)).map wt):=by
          rw [←List.map_cons,←List.drop_eq_getElem_cons hil,←List.map_append,List.take_append_drop]
        rw [e,List.sum_append,List.sum_cons];omega
      obtain⟨a,e1,e2⟩:=hf m (k0+((l.take i).map wt).sum) i hil hm (hs i hil (by omega) (Nat.le_refl _)) (by omega) (by omega)
      have et:((l.take (i+1)).map wt).sum=((l.take i).map wt).sum+wt l[i]:=by
        rw [List.take_succ_eq_append_getElem hil,List.map_append,List.sum_append];simp
      rw [cH e1,show k0+((((l.take i).map wt).sum:Nat):Int)+(wt l[i]:Int)=k0+((((l.take (i+1)).map wt).sum:Nat):Int) by rw [et];omega]
      refine ih (i+1) (m.set i a) (by omega) (by simpa using hm) (fun j hj hj' hij=>?_) (fun j hj hj' hij=>?_)
      · rw [List.getElem_set_ne (by omega)];exact hs j hj _ (by omega)
      · by_cases e:j=i
        · subst e;rw [List.getElem_set_self];exact e2
        · rw [List.getElem_set_ne (by omega)];exact h j hj (by simpa using hj') (by omega)
  have:=key l.length 0 l (by omega) rfl (fun _ _ _ _=>rfl) (fun _ _ _ h=>absurd h (by omega))
  simpa using this
theorem CC{α:Type}(l m:List α)(hml:m.length=l.length)(wt:α→Nat)(P:α→α→Int→Prop){g:(Int×Int)→Option (Step (Int×Int) (Out Int Int))}{k0:Int}
    (hP:∀j (hj:j < l.length) (hj':j < m.length),P l[j] m[j] (k0+((l.take j).map wt).sum))
    (hg:∀(i:Nat) (hi:i < l.length) (hi':i < m.length) (k:Int),P l[i] m[i] k→0≤k→k+wt l[i]≤4611686018427387904→g (k,(i:Int))=some (.next (k+wt l[i],((i+1:Nat):Int))))
    (he:∀k:Int,g (k,(m.length:Int))=some (.stop (.brk k))) (h0:0≤k0) (hB:k0+(l.map wt).sum≤4611686018427387904):loop g (k0,0)=some (.brk (k0+(l.map wt).sum)):=by
  have:=gA (f:=g) l.length (fun i=>(k0+((l.take i).map wt).sum,(i:Int))) (.brk (k0+(l.map wt).sum)) (fun i hi=>?_) (by
    rw [List.take_length,←hml];exact he _)
  · simpa using this
  · have hle:((l.take i).map wt).sum+wt l[i]≤(l.map wt).sum:=by
      have e:l.map wt=(l.take i).map wt++(wt l[i] :: (l.drop (i+1)).map wt):=by
        rw [←List.map_cons,←List.drop_eq_getElem_cons hi,←List.map_append,List.take_append_drop]
      rw [e,List.sum_append,List.sum_cons];omega
    have et:((l.take (i+1)).map wt).sum=((l.take i).map wt).sum+wt l[i]:=by
      rw [List.take_succ_eq_append_getElem hi,List.map_append,List.sum_append];simp
    rw [hg i hi (by omega) _ (hP i hi (by omega)) (by omega) (by omega),et]
    congr 3;omega
def dJ(l:List Int):Nat:=(l.map fun _=>1).sum
theorem iW(l:List Int):dJ l=1 * l.length:=by unfold dJ;induction l with | nil=>rfl | cons a t ih=>simp only [List.map_cons,List.sum_cons,List.length_cons,ih];omega
theorem NP{l:List Int}{k:Int}(h0:0≤k)(hB:k+dJ l≤4611686018427387904)(hl:l.length≤maxLen):∃m,lG l k=some (k+dJ l,m)∧iF m k=some (k+dJ l):=by
  obtain⟨m,e1,e2,e3⟩:=CB l (fun _=>1) (fun _ a k=>∀(m:List Int) (i:Nat) (hi:i < m.length),m.length≤maxLen→m[i]=a→lS m (k,(i:Int))=some (.next (k+1,((i+1:Nat):Int)))) (f:=vI l) h0 hB (fun m k i hi hm he hk hb=>⟨_,by
    simp only [vI]
    rw [aP hm,if_pos (by simp;omega),aQ (by omega),aI,Int.toNat_natCast]
    refine nx3 ?_ (cX (eE hi hl))
    (try simp only [yZ,Int.add_assoc,Int.reduceAdd]);exact aU (by omega) (by omega),fun m i hi hx e=>by
    simp only [lS]
    rw [if_pos (by simp;omega)]
    simp only [aQ hi,e,aI,bne_self_eq_false,beq_self_eq_true,eD,a9,if_false]
    refine nx2 ?_ (cX (eE hi hx))
    (try simp only [yZ,Int.add_assoc,Int.reduceAdd]);exact aU (by omega) (by omega)⟩) (fun m k hm=>by
    simp only [vI]
    rw [aP hm,if_neg (by simp;omega)])
  refine⟨m,?_,?_⟩
  · unfold lG
    rw [e1];simp only [aI,M4,M3];rw [aP e2];rfl
  · unfold iF
    rw [CC l m e2 (fun _=>1) (fun _ a k=>∀(m:List Int) (i:Nat) (hi:i < m.length),m.length≤maxLen→m[i]=a→lS m (k,(i:Int))=some (.next (k+1,((i+1:Nat):Int)))) e3 (g:=lS m) (fun i hi hi' k h _ _=>h m i hi' (by omega) rfl) (fun k=>by simp [lS]) h0 hB];rfl
def rP(v:aG):Nat:=dJ v.Bytes+dJ v.Class
def aPO(v:aG):Prop:=v.Bytes.length≤maxLen∧v.Class.length≤maxLen
theorem aQS{v:aG}{k:Int}(h0:0≤k)(hB:k+rP v≤4611686018427387904)(hm:aPO v):∃s0 s1,D2 v k=some (k+rP v,s0,s1)∧D6 (⟨s0,s1⟩:aG) k=some (k+rP v):=by
  unfold rP at hB ⊢
  obtain⟨s0,a0,b0⟩:=NP (l:=v.Bytes) (k:=k) (by omega) (by omega) (hm.1)
  have z0:¬k+(dJ v.Bytes:Nat) < 0:=by omega
  obtain⟨s1,a1,b1⟩:=NP (l:=v.Class) (k:=k+(dJ v.Bytes:Nat)) (by omega) (by omega) (hm.2)
  have z1:¬k+(dJ v.Bytes:Nat)+(dJ v.Class:Nat) < 0:=by omega
  have e:k+(dJ v.Bytes:Nat)+(dJ v.Class:Nat)=k+((dJ v.Bytes+dJ v.Class:Nat):Int):=by omega
  rw [←e]
  refine⟨s0,s1,?_,?_⟩
  · unfold D2;simp only [a0,a1,aI]
  · unfold D6;simp only [b0,bH z0,b1,bH z1,aI,a9,if_false]
def fX(l:List aH):Nat:=(l.map fun x=>dJ x.aL).sum
theorem Y6{l:List aH}{k:Int}(h0:0≤k)(hB:k+fX l≤4611686018427387904)(hl:l.length≤maxLen)(hi:∀x∈l,x.aL.length≤maxLen):∃m,rH l k=some (k+fX l,m)∧rI m k=some (k+fX l):=by
  obtain⟨m,e1,e2,e3⟩:=CB l (fun x=>dJ x.aL) (fun x a k=>iF a.aL k=some (k+dJ x.aL)) (f:=qJ l) h0 hB (fun m k i hi' hm he hk hb=>by
    obtain⟨q,q1,q2⟩:=NP (l:=l[i].aL) hk hb (hi _ (List.getElem_mem hi'))
    refine⟨⟨q⟩,?_,q2⟩
    simp only [qJ]
    rw [aP hm,if_pos (by simp;omega),aQ (by omega),aI,he,q1,aI,Int.toNat_natCast,cX (eE hi' hl)]) (fun m k hm=>by
    simp only [qJ]
    rw [aP hm,if_neg (by simp;omega)])
  refine⟨m,?_,?_⟩
  · unfold rH
    rw [e1];simp only [aI,IQ,IP];rw [aP e2];rfl
  · unfold rI
    rw [CC l m e2 (fun x=>dJ x.aL) (fun x a k=>iF a.aL k=some (k+dJ x.aL)) e3 (g:=qM m) (fun i hi' hi2 k h hk hb=>by
      simp only [qM]
      rw [if_pos (by simp;omega),aQ hi2,aI,h,aI,if_neg (by simp;omega),cX (eE hi2 (by omega))]) (fun k=>by simp [qM]) h0 hB];rfl
def rX(v:aA):Nat:=fX v.Global+fX v.bQ
def aL7(v:aA):Prop:=v.Global.length≤maxLen∧(∀x∈v.Global,x.aL.length≤maxLen)∧v.bQ.length≤maxLen∧(∀x∈v.bQ,x.aL.length≤maxLen)
theorem aNW{v:aA}{k:Int}(h0:0≤k)(hB:k+rX v≤4611686018427387904)(hm:aL7 v):∃s0 s1,BN v k=some (k+rX v,s0,s1)∧BQ (⟨s0,s1⟩:aA) k=some (k+rX v):=by
  unfold rX at hB ⊢
  obtain⟨s0,a0,b0⟩:=Y6 (l:=v.Global) (k:=k) (by omega) (by omega) (hm.1) (hm.2.1)
  have z0:¬k+(fX v.Global:Nat) < 0:=by omega
  obtain⟨s1,a1,b1⟩:=Y6 (l:=v.bQ) (k:=k+(fX v.Global:Nat)) (by omega) (by omega) (hm.2.2.1) (hm.2.2.2)
  have z1:¬k+(fX v.Global:Nat)+(fX v.bQ:Nat) < 0:=by omega
  have e:k+(fX v.Global:Nat)+(fX v.bQ:Nat)=k+((fX v.Global+fX v.bQ:Nat):Int):=by omega
  rw [←e]
  refine⟨s0,s1,?_,?_⟩
  · unfold BN;simp only [a0,a1,aI]
  · unfold BQ;simp only [b0,bH z0,b1,bH z1,aI,a9,if_false]
def oF(v:Mem):Nat:=rP v.aG+rX v.aA
def aU6(v:Mem):Prop:=aPO v.aG∧aL7 v.aA
theorem aU7{v:Mem}{k:Int}(h0:0≤k)(hB:k+oF v≤4611686018427387904)(hm:aU6 v):∃s0 s1 s2 s3,HA v k=some (k+oF v,s0,s1,s2,s3)∧HD (⟨(⟨s0,s1⟩:aG),(⟨s2,s3⟩:aA)⟩:Mem) k=some (k+oF v):=by
  unfold oF at hB ⊢
  obtain⟨s0,s1,a0,b0⟩:=aQS (v:=v.aG) (k:=k) (by omega) (by omega) (hm.1)
  have z0:¬k+(rP v.aG:Nat) < 0:=by omega
  obtain⟨s2,s3,a1,b1⟩:=aNW (v:=v.aA) (k:=k+(rP v.aG:Nat)) (by omega) (by omega) (hm.2)
  have z1:¬k+(rP v.aG:Nat)+(rX v.aA:Nat) < 0:=by omega
  have e:k+(rP v.aG:Nat)+(rX v.aA:Nat)=k+((rP v.aG+rX v.aA:Nat):Int):=by omega
  rw [←e]
  refine⟨s0,s1,s2,s3,?_,?_⟩
  · unfold HA;simp only [a0,a1,aI]
  · unfold HD;simp only [b0,bH z0,b1,bH z1,aI,a9,if_false]
def CD(l:List fO):Nat:=(l.map fun _=>4).sum
theorem Y7(l:List fO):CD l=4 * l.length:=by unfold CD;induction l with | nil=>rfl | cons a t ih=>simp only [List.map_cons,List.sum_cons,List.length_cons,ih];omega
theorem aQT{l:List fO}{k:Int}(h0:0≤k)(hB:k+CD l≤4611686018427387904)(hl:l.length≤maxLen):∃m,D3 l k=some (k+CD l,m)∧D7 m k=some (k+CD l):=by
  obtain⟨m,e1,e2,e3⟩:=CB l (fun _=>4) (fun _ a k=>∀(m:List fO) (i:Nat) (hi:i < m.length),m.length≤maxLen→m[i]=a→lT m (k,(i:Int))=some (.next (k+4,((i+1:Nat):Int)))) (f:=vJ l) h0 hB (fun m k i hi hm he hk hb=>⟨_,by
    simp only [vJ]
    rw [aP hm,if_pos (by simp;omega),aQ (by omega),aI,Int.toNat_natCast]
    refine nx3 ?_ (cX (eE hi hl))
    (try simp only [yZ,Int.add_assoc,Int.reduceAdd]);exact aU (by omega) (by omega),fun m i hi hx e=>by
    simp only [lT]
    rw [if_pos (by simp;omega)]
    simp only [aQ hi,e,aI,bne_self_eq_false,beq_self_eq_true,eD,a9,if_false]
    refine nx2 ?_ (cX (eE hi hx))
    (try simp only [yZ,Int.add_assoc,Int.reduceAdd]);exact aU (by omega) (by omega)⟩) (fun m k hm=>by
    simp only [vJ]
    rw [aP hm,if_neg (by simp;omega)])
  refine⟨m,?_,?_⟩
  · unfold D3
    rw [e1];simp only [aI,M6,M5];rw [aP e2];rfl
  · unfold D7
    rw [CC l m e2 (fun _=>4) (fun _ a k=>∀(m:List fO) (i:Nat) (hi:i < m.length),m.length≤maxLen→m[i]=a→lT m (k,(i:Int))=some (.next (k+4,((i+1:Nat):Int)))) e3 (g:=lT m) (fun i hi hi' k h _ _=>h m i hi' (by omega) rfl) (fun k=>by simp [lT]) h0 hB];rfl
def j7(v:aJ):Nat:=CD v.bD
def aL8(v:aJ):Prop:=v.bD.length≤maxLen
theorem aNX{v:aJ}{k:Int}(h0:0≤k)(hB:k+j7 v≤4611686018427387904)(hm:aL8 v):∃s0,BO v k=some (k+j7 v,s0)∧BR (⟨v.aM,s0⟩:aJ) k=some (k+j7 v):=by
  unfold j7 at hB ⊢
  obtain⟨s0,a0,b0⟩:=aQT (l:=v.bD) (k:=k) (by omega) (by omega) (hm)
  have z0:¬k+(CD v.bD:Nat) < 0:=by omega
  have e:k+(CD v.bD:Nat)=k+((CD v.bD:Nat):Int):=by omega
  rw [←e]
  refine⟨s0,?_,?_⟩
  · unfold BO;simp only [a0,aI]
  · unfold BR;simp only [b0,bH z0,aI,a9,if_false]
def rY(l:List bM):Nat:=(l.map fun _=>2).sum
theorem W1(l:List bM):rY l=2 * l.length:=by unfold rY;induction l with | nil=>rfl | cons a t ih=>simp only [List.map_cons,List.sum_cons,List.length_cons,ih];omega
theorem aNY{l:List bM}{k:Int}(h0:0≤k)(hB:k+rY l≤4611686018427387904)(hl:l.length≤maxLen):∃m,BP l k=some (k+rY l,m)∧pE m k=some (k+rY l):=by
  obtain⟨m,e1,e2,e3⟩:=CB l (fun _=>2) (fun _ a k=>∀(m:List bM) (i:Nat) (hi:i < m.length),m.length≤maxLen→m[i]=a→j5 m (k,(i:Int))=some (.next (k+2,((i+1:Nat):Int)))) (f:=sH l) h0 hB (fun m k i hi hm he hk hb=>⟨_,by
    simp only [sH]
    rw [aP hm,if_pos (by simp;omega),aQ (by omega),aI,Int.toNat_natCast]
    refine nx3 ?_ (cX (eE hi hl))
    (try simp only [yZ,Int.add_assoc,Int.reduceAdd]);exact aU (by omega) (by omega),fun m i hi hx e=>by
    simp only [j5]
    rw [if_pos (by simp;omega)]
    simp only [aQ hi,e,aI,bne_self_eq_false,beq_self_eq_true,eD,a9,if_false]
    refine nx2 ?_ (cX (eE hi hx))
    (try simp only [yZ,Int.add_assoc,Int.reduceAdd]);exact aU (by omega) (by omega)⟩) (fun m k hm=>by
    simp only [sH]
    rw [aP hm,if_neg (by simp;omega)])
  refine⟨m,?_,?_⟩
  · unfold BP
    rw [e1];simp only [aI,KU,KT];rw [aP e2];rfl
  · unfold pE
    rw [CC l m e2 (fun _=>2) (fun _ a k=>∀(m:List bM) (i:Nat) (hi:i < m.length),m.length≤maxLen→m[i]=a→j5 m (k,(i:Int))=some (.next (k+2,((i+1:Nat):Int)))) e3 (g:=j5 m) (fun i hi hi' k h _ _=>h m i hi' (by omega) rfl) (fun k=>by simp [j5]) h0 hB];rfl
def mC(l:List aO):Nat:=(l.map fun x=>rY x.Rows).sum
theorem aL9{l:List aO}{k:Int}(h0:0≤k)(hB:k+mC l≤4611686018427387904)(hl:l.length≤maxLen)(hi:∀x∈l,x.Rows.length≤maxLen):∃m,yN l k=some (k+mC l,m)∧yR m k=some (k+mC l):=by
  obtain⟨m,e1,e2,e3⟩:=CB l (fun x=>rY x.Rows) (fun x a k=>pE a.Rows k=some (k+rY x.Rows)) (f:=qK l) h0 hB (fun m k i hi' hm he hk hb=>by
    obtain⟨q,q1,q2⟩:=aNY (l:=l[i].Rows) hk hb (hi _ (List.getElem_mem hi'))
    refine⟨⟨q⟩,?_,q2⟩
    simp only [qK]
    rw [aP hm,if_pos (by simp;omega),aQ (by omega),aI,he,q1,aI,Int.toNat_natCast,cX (eE hi' hl)]) (fun m k hm=>by
    simp only [qK]
    rw [aP hm,if_neg (by simp;omega)])
  refine⟨m,?_,?_⟩
  · unfold yN
    rw [e1];simp only [aI,IT,IS];rw [aP e2];rfl
  · unfold yR
    rw [CC l m e2 (fun x=>rY x.Rows) (fun x a k=>pE a.Rows k=some (k+rY x.Rows)) e3 (g:=qN m) (fun i hi' hi2 k h hk hb=>by
      simp only [qN]
      rw [if_pos (by simp;omega),aQ hi2,aI,h,aI,if_neg (by simp;omega),cX (eE hi2 (by omega))]) (fun k=>by simp [qN]) h0 hB];rfl
def iM(v:aD):Nat:=oF v.Mem+j7 v.aJ+mC v.aX+dJ v.jQ
def aKN(v:aD):Prop:=aU6 v.Mem∧aL8 v.aJ∧v.aX.length≤maxLen∧(∀x∈v.aX,x.Rows.length≤maxLen)∧v.jQ.length≤maxLen
theorem aQU{v:aD}{k:Int}(h0:0≤k)(hB:k+iM v≤4611686018427387904)(hm:aKN v):∃s0 s1 s2 s3 s4 s5 s6,D4 v k=some (k+iM v,s0,s1,s2,s3,s4,s5,s6)∧D8 (⟨(⟨(⟨s0,s1⟩:aG),(⟨s2,s3⟩:aA)⟩:Mem),(⟨v.aJ.aM,s4⟩:aJ),s5,s6⟩:aD) k=some (k+iM v):=by
  unfold iM at hB ⊢
  obtain⟨s0,s1,s2,s3,a0,b0⟩:=aU7 (v:=v.Mem) (k:=k) (by omega) (by omega) (hm.1)
  have z0:¬k+(oF v.Mem:Nat) < 0:=by omega
  obtain⟨s4,a1,b1⟩:=aNX (v:=v.aJ) (k:=k+(oF v.Mem:Nat)) (by omega) (by omega) (hm.2.1)
  have z1:¬k+(oF v.Mem:Nat)+(j7 v.aJ:Nat) < 0:=by omega
  obtain⟨s5,a2,b2⟩:=aL9 (l:=v.aX) (k:=k+(oF v.Mem:Nat)+(j7 v.aJ:Nat)) (by omega) (by omega) (hm.2.2.1) (hm.2.2.2.1)
  have z2:¬k+(oF v.Mem:Nat)+(j7 v.aJ:Nat)+(mC v.aX:Nat) < 0:=by omega
  obtain⟨s6,a3,b3⟩:=NP (l:=v.jQ) (k:=k+(oF v.Mem:Nat)+(j7 v.aJ:Nat)+(mC v.aX:Nat)) (by omega) (by omega) (hm.2.2.2.2)
  have z3:¬k+(oF v.Mem:Nat)+(j7 v.aJ:Nat)+(mC v.aX:Nat)+(dJ v.jQ:Nat) < 0:=by omega
  have e:k+(oF v.Mem:Nat)+(j7 v.aJ:Nat)+(mC v.aX:Nat)+(dJ v.jQ:Nat)=k+((oF v.Mem+j7 v.aJ+mC v.aX+dJ v.jQ:Nat):Int):=by omega
  rw [←e]
  refine⟨s0,s1,s2,s3,s4,s5,s6,?_,?_⟩
  · unfold D4;simp only [a0,a1,a2,a3,aI]
  · unfold D8;simp only [b0,bH z0,b1,bH z1,b2,bH z2,b3,bH z3,aI,a9,if_false]
def EH(l:List dP):Nat:=(l.map fun _=>4).sum
theorem aFM(l:List dP):EH l=4 * l.length:=by unfold EH;induction l with | nil=>rfl | cons a t ih=>simp only [List.map_cons,List.sum_cons,List.length_cons,ih];omega
theorem aU8{l:List dP}{k:Int}(h0:0≤k)(hB:k+EH l≤4611686018427387904)(hl:l.length≤maxLen):∃m,HB l k=some (k+EH l,m)∧vL m k=some (k+EH l):=by
  obtain⟨m,e1,e2,e3⟩:=CB l (fun _=>4) (fun _ a k=>∀(m:List dP) (i:Nat) (hi:i < m.length),m.length≤maxLen→m[i]=a→mX m (k,(i:Int))=some (.next (k+4,((i+1:Nat):Int)))) (f:=yO l) h0 hB (fun m k i hi hm he hk hb=>⟨_,by
    simp only [yO]
    rw [aP hm,if_pos (by simp;omega),aQ (by omega),aI,Int.toNat_natCast]
    refine nx3 ?_ (cX (eE hi hl))
    (try simp only [yZ,Int.add_assoc,Int.reduceAdd]);exact aU (by omega) (by omega),fun m i hi hx e=>by
    simp only [mX]
    rw [if_pos (by simp;omega)]
    simp only [aQ hi,e,aI,bne_self_eq_false,beq_self_eq_true,eD,a9,if_false]
    refine nx2 ?_ (cX (eE hi hx))
    (try simp only [yZ,Int.add_assoc,Int.reduceAdd]);exact aU (by omega) (by omega)⟩) (fun m k hm=>by
    simp only [yO]
    rw [aP hm,if_neg (by simp;omega)])
  refine⟨m,?_,?_⟩
  · unfold HB
    rw [e1];simp only [aI,PQ,PO];rw [aP e2];rfl
  · unfold vL
    rw [CC l m e2 (fun _=>4) (fun _ a k=>∀(m:List dP) (i:Nat) (hi:i < m.length),m.length≤maxLen→m[i]=a→mX m (k,(i:Int))=some (.next (k+4,((i+1:Nat):Int)))) e3 (g:=mX m) (fun i hi hi' k h _ _=>h m i hi' (by omega) rfl) (fun k=>by simp [mX]) h0 hB];rfl
def mD(l:List Queue):Nat:=(l.map fun x=>EH x.eZ).sum
theorem aMA{l:List Queue}{k:Int}(h0:0≤k)(hB:k+mD l≤4611686018427387904)(hl:l.length≤maxLen)(hi:∀x∈l,x.eZ.length≤maxLen):∃m,yP l k=some (k+mD l,m)∧yT m k=some (k+mD l):=by
  obtain⟨m,e1,e2,e3⟩:=CB l (fun x=>EH x.eZ) (fun x a k=>vL a.eZ k=some (k+EH x.eZ)) (f:=qL l) h0 hB (fun m k i hi' hm he hk hb=>by
    obtain⟨q,q1,q2⟩:=aU8 (l:=l[i].eZ) hk hb (hi _ (List.getElem_mem hi'))
    refine⟨⟨q⟩,?_,q2⟩
    simp only [qL]
    rw [aP hm,if_pos (by simp;omega),aQ (by omega),aI,he,q1,aI,Int.toNat_natCast,cX (eE hi' hl)]) (fun m k hm=>by
    simp only [qL]
    rw [aP hm,if_neg (by simp;omega)])
  refine⟨m,?_,?_⟩
  · unfold yP
    rw [e1];simp only [aI,IV,IU];rw [aP e2];rfl
  · unfold yT
    rw [CC l m e2 (fun x=>EH x.eZ) (fun x a k=>vL a.eZ k=some (k+EH x.eZ)) e3 (g:=qO m) (fun i hi' hi2 k h hk hb=>by
      simp only [qO]
      rw [if_pos (by simp;omega),aQ hi2,aI,h,aI,if_neg (by simp;omega),cX (eE hi2 (by omega))]) (fun k=>by simp [qO]) h0 hB];rfl
def pO(l:List bW):Nat:=(l.map fun _=>21).sum
theorem Y8(l:List bW):pO l=21 * l.length:=by unfold pO;induction l with | nil=>rfl | cons a t ih=>simp only [List.map_cons,List.sum_cons,List.length_cons,ih];omega
theorem aQV{l:List bW}{k:Int}(h0:0≤k)(hB:k+pO l≤4611686018427387904)(hl:l.length≤maxLen):∃m,D5 l k=some (k+pO l,m)∧D9 m k=some (k+pO l):=by
  obtain⟨m,e1,e2,e3⟩:=CB l (fun _=>21) (fun _ a k=>∀(m:List bW) (i:Nat) (hi:i < m.length),m.length≤maxLen→m[i]=a→lU m (k,(i:Int))=some (.next (k+21,((i+1:Nat):Int)))) (f:=vK l) h0 hB (fun m k i hi hm he hk hb=>⟨_,by
    simp only [vK]
    rw [aP hm,if_pos (by simp;omega),aQ (by omega),aI,Int.toNat_natCast]
    refine nx3 ?_ (cX (eE hi hl))
    (try simp only [yZ,Int.add_assoc,Int.reduceAdd]);exact aU (by omega) (by omega),fun m i hi hx e=>by
    simp only [lU]
    rw [if_pos (by simp;omega)]
    simp only [aQ hi,e,aI,bne_self_eq_false,beq_self_eq_true,eD,a9,if_false]
    refine nx2 ?_ (cX (eE hi hx))
    (try simp only [yZ,Int.add_assoc,Int.reduceAdd]);exact aU (by omega) (by omega)⟩) (fun m k hm=>by
    simp only [vK]
    rw [aP hm,if_neg (by simp;omega)])
  refine⟨m,?_,?_⟩
  · unfold D5
    rw [e1];simp only [aI,M8,M7];rw [aP e2];rfl
  · unfold D9
    rw [CC l m e2 (fun _=>21) (fun _ a k=>∀(m:List bW) (i:Nat) (hi:i < m.length),m.length≤maxLen→m[i]=a→lU m (k,(i:Int))=some (.next (k+21,((i+1:Nat):Int)))) e3 (g:=lU m) (fun i hi hi' k h _ _=>h m i hi' (by omega) rfl) (fun k=>by simp [lU]) h0 hB];rfl
def HJ(l:List Ev):Nat:=(l.map fun _=>7).sum
theorem aFN(l:List Ev):HJ l=7 * l.length:=by unfold HJ;induction l with | nil=>rfl | cons a t ih=>simp only [List.map_cons,List.sum_cons,List.length_cons,ih];omega
theorem aU9{l:List Ev}{k:Int}(h0:0≤k)(hB:k+HJ l≤4611686018427387904)(hl:l.length≤maxLen):∃m,HC l k=some (k+HJ l,m)∧HE m k=some (k+HJ l):=by
  obtain⟨m,e1,e2,e3⟩:=CB l (fun _=>7) (fun _ a k=>∀(m:List Ev) (i:Nat) (hi:i < m.length),m.length≤maxLen→m[i]=a→mY m (k,(i:Int))=some (.next (k+7,((i+1:Nat):Int)))) (f:=yQ l) h0 hB (fun m k i hi hm he hk hb=>⟨_,by
    simp only [yQ]
    rw [aP hm,if_pos (by simp;omega),aQ (by omega),aI,Int.toNat_natCast]
    refine nx3 ?_ (cX (eE hi hl))
    (try simp only [yZ,Int.add_assoc,Int.reduceAdd]);exact aU (by omega) (by omega),fun m i hi hx e=>by
    simp only [mY]
    rw [if_pos (by simp;omega)]
    simp only [aQ hi,e,aI,bne_self_eq_false,beq_self_eq_true,eD,a9,if_false]
    refine nx2 ?_ (cX (eE hi hx))
    (try simp only [yZ,Int.add_assoc,Int.reduceAdd]);exact aU (by omega) (by omega)⟩) (fun m k hm=>by
    simp only [yQ]
    rw [aP hm,if_neg (by simp;omega)])
  refine⟨m,?_,?_⟩
  · unfold HC
    rw [e1];simp only [aI,PT,PR];rw [aP e2];rfl
  · unfold HE
    rw [CC l m e2 (fun _=>7) (fun _ a k=>∀(m:List Ev) (i:Nat) (hi:i < m.length),m.length≤maxLen→m[i]=a→mY m (k,(i:Int))=some (.next (k+7,((i+1:Nat):Int)))) e3 (g:=mY m) (fun i hi hi' k h _ _=>h m i hi' (by omega) rfl) (fun k=>by simp [mY]) h0 hB];rfl
def zZ(v:aC):Nat:=iM v.aD+dJ v.Cells+pO v.aW+mD v.cG+HJ v.Log
def aFO(v:aC):Prop:=aKN v.aD∧v.Cells.length≤maxLen∧v.aW.length≤maxLen∧v.cG.length≤maxLen∧(∀x∈v.cG,x.eZ.length≤maxLen)∧v.Log.length≤maxLen
theorem aNZ{v:aC}{k:Int}(h0:0≤k)(hB:k+zZ v≤4611686018427387904)(hm:aFO v):∃s0 s1 s2 s3 s4 s5 s6 s7 s8 s9 s10,jO v k=some (k+zZ v,s0,s1,s2,s3,s4,s5,s6,s7,s8,s9,s10)∧jP (⟨(⟨(⟨(⟨s0,s1⟩:aG),(⟨s2,s3⟩:aA)⟩:Mem),(⟨v.aD.aJ.aM,s4⟩:aJ),s5,s6⟩:aD),s7,s8,s9,s10,v.aR⟩:aC) k=some (k+zZ v):=by
  unfold zZ at hB ⊢
  obtain⟨s0,s1,s2,s3,s4,s5,s6,a0,b0⟩:=aQU (v:=v.aD) (k:=k) (by omega) (by omega) (hm.1)
  have z0:¬k+(iM v.aD:Nat) < 0:=by omega
  obtain⟨s7,a1,b1⟩:=NP (l:=v.Cells) (k:=k+(iM v.aD:Nat)) (by omega) (by omega) (hm.2.1)
  have z1:¬k+(iM v.aD:Nat)+(dJ v.Cells:Nat) < 0:=by omega
  obtain⟨s8,a2,b2⟩:=aQV (l:=v.aW) (k:=k+(iM v.aD:Nat)+(dJ v.Cells:Nat)) (by omega) (by omega) (hm.2.2.1)
  have z2:¬k+(iM v.aD:Nat)+(dJ v.Cells:Nat)+(pO v.aW:Nat) < 0:=by omega
  obtain⟨s9,a3,b3⟩:=aMA (l:=v.cG) (k:=k+(iM v.aD:Nat)+(dJ v.Cells:Nat)+(pO v.aW:Nat)) (by omega) (by omega) (hm.2.2.2.1) (hm.2.2.2.2.1)
  have z3:¬k+(iM v.aD:Nat)+(dJ v.Cells:Nat)+(pO v.aW:Nat)+(mD v.cG:Nat) < 0:=by omega
  obtain⟨s10,a4,b4⟩:=aU9 (l:=v.Log) (k:=k+(iM v.aD:Nat)+(dJ v.Cells:Nat)+(pO v.aW:Nat)+(mD v.cG:Nat)) (by omega) (by omega) (hm.2.2.2.2.2)
  have z4:¬k+(iM v.aD:Nat)+(dJ v.Cells:Nat)+(pO v.aW:Nat)+(mD v.cG:Nat)+(HJ v.Log:Nat) < 0:=by omega
  have e:k+(iM v.aD:Nat)+(dJ v.Cells:Nat)+(pO v.aW:Nat)+(mD v.cG:Nat)+(HJ v.Log:Nat)=k+((iM v.aD+dJ v.Cells+pO v.aW+mD v.cG+HJ v.Log:Nat):Int):=by omega
  rw [←e]
  refine⟨s0,s1,s2,s3,s4,s5,s6,s7,s8,s9,s10,?_,?_⟩
  · unfold jO;simp only [a0,a1,a2,a3,a4,aI]
  · unfold jP;simp only [b0,bH z0,b1,bH z1,b2,bH z2,b3,bH z3,b4,bH z4,aI,a9,if_false]
end Go.Gv
end
noncomputable section
namespace Go.Gv
theorem aIJ{l:List Queue}(hl:l.length≤1048576)(hq:∀q∈l,q.eZ.length≤1048576):AH l=some l∧DN l=some l:=by
  constructor
  · unfold AH
    rw [R3 l]
    · rfl
    · intro k hk
      have:=hq _ (List.getElem_mem hk)
      simp only [AG]
      rw [if_pos (by simp;omega),aQ hk]
      simp only [aI]
      rw [aP (by simp;omega),aP (by simp;omega),aU (by omega) (by omega)];rfl
    · simp [AG]
  · unfold DN
    rw [R3 l]
    · rfl
    · intro k hk
      have:=hq _ (List.getElem_mem hk)
      simp only [C0]
      rw [if_pos (by simp;omega),aQ hk]
      simp only [aI,E5]
      rw [aP (by simp;omega),aI,aP (by simp;omega),aU (by omega) (by omega)];rfl
    · simp [C0]
theorem C6{α:Type}{f:α→Nat}{c:Nat}:∀{l:List α},(∀x∈l,f x≤c)→(l.map f).sum≤c * l.length
  | [],_=>by simp
  | a :: l, h => by
    have h1:=h a (by simp)
    have h2:=C6 (l:=l) (fun x hx=>h x (by simp [hx]))
    simp only [List.map_cons,List.sum_cons,List.length_cons,Nat.mul_add];omega
theorem aVA{b:aD}(hb:uA b):d7 b≤2000∧iM b≤2000∧aKN b:=by
  obtain⟨⟨hm,hc,hl,hz⟩,_⟩:=hb
  obtain⟨hcnt,h3,h9,h1,h2,hsm,hcp,hlo,hsG,hsO⟩:=yX.facts hm
  have hM:∀{n:Nat},n≤1000→n≤maxLen:=fun h=>by simp only [maxLen];omega
  have l24:=hl.small.2.2.2
  have a1:(b.Mem.aA.Global.map fK).sum≤24 * b.Mem.aA.Global.length:=C6 fun x hx=>by unfold fK cM;exact hsG x hx
  have a2:(b.Mem.aA.bQ.map fK).sum≤24 * b.Mem.aA.bQ.length:=C6 fun x hx=>by unfold fK cM;exact hsO x hx
  have a3:(b.aX.map gL).sum≤24 * b.aX.length:=C6 fun x hx=>by unfold gL kL;exact l24 x hx
  have b1:fX b.Mem.aA.Global≤24 * b.Mem.aA.Global.length:=C6 fun x hx=>by have:=hsG x hx;rw [iW];omega
  have b2:fX b.Mem.aA.bQ≤24 * b.Mem.aA.bQ.length:=C6 fun x hx=>by have:=hsO x hx;rw [iW];omega
  have b3:mC b.aX≤48 * b.aX.length:=C6 fun x hx=>by have:=l24 x hx;rw [W1];omega
  have e1:=hc.2.1;have e2:=hl.1;have e3:=hz.1
  refine⟨?_,?_,⟨⟨hM (by omega),hM (by omega)⟩,hM (by omega),fun x hx=>hM (by have:=hsG x hx;omega),hM (by omega),fun x hx=>hM (by have:=hsO x hx;omega)⟩,hM (by omega),hM (by omega),fun x hx=>hM (by have:=l24 x hx;omega),hM (by omega)⟩
  · unfold d7 i6 iP hO dV hQ lV fH cM;omega
  · unfold iM oF rP rX j7;rw [iW,iW,Y7,iW];omega
theorem aMB{s:aC}(hs:CG s)(hl:s.Log.length≤2000000):dF s≤3000+s.Log.length∧zZ s≤3000+7 * s.Log.length∧aFO s:=by
  obtain⟨hb,h2,h3,ht,_,_,_⟩:=hs
  obtain⟨z1,z2,z3⟩:=aVA hb
  have hM:∀{n:Nat},n≤2000000→n≤maxLen:=fun h=>by simp only [maxLen];omega
  have a1:(s.cG.map gN).sum≤12 * s.cG.length:=C6 fun x hx=>by unfold gN pM;exact(ht.2 x hx).1
  have b1:mD s.cG≤48 * s.cG.length:=C6 fun x hx=>by have:=(ht.2 x hx).1;rw [aFM];omega
  have e1:=ht.1
  refine⟨?_,?_,z3,hM (by omega),hM (by omega),hM (by omega),fun x hx=>hM (by have:=(ht.2 x hx).1;omega),hM hl⟩
  · unfold dF cM jA fW pN;omega
  · unfold zZ;rw [iW,Y8,aFN];omega
structure aVB (s:aC):Prop where
  eq:g8 s s=some true
  mks:∃c s0 s1 s2 s3 s4 s5 s6 s7 s8 s9 s10,0≤c∧jO s 1=some (c,s0,s1,s2,s3,s4,s5,s6,s7,s8,s9,s10)∧jP ⟨⟨⟨⟨s0,s1⟩,⟨s2,s3⟩⟩,⟨s.aD.aJ.aM,s4⟩,s5,s6⟩,s7,s8,s9,s10,s.aR⟩ 1=some c
theorem aPP{s:aC}(h1:dF s≤4194304)(h2:zZ s≤1000000000000000)(h3:aFO s):aVB s:=by
  obtain⟨s0,s1,s2,s3,s4,s5,s6,s7,s8,s9,s10,e1,e2⟩:=aNZ (v:=s) (k:=1) (by omega) (by omega) h3
  exact⟨aU5 h1,_,s0,s1,s2,s3,s4,s5,s6,s7,s8,s9,s10,by omega,e1,e2⟩
theorem a1Y{s:aC}(hs:CG s)(hl:s.Log.length≤2000000):aVB s:=by
  obtain⟨h1,h2,h3⟩:=aMB hs hl
  exact aPP (by omega) (by omega) h3
end Go.Gv
end
noncomputable section
namespace Go.Gv
theorem aIK(l:List aH):(cV l).length=(l.map fK).sum:=by
  unfold cV;rw [List.length_flatMap];rfl
theorem aQW(l:List aO):(bP l).length=(l.map gL).sum:=by
  unfold bP;rw [List.length_flatMap];rfl
theorem aQX{b:aD}(h:d7 b≤1048576):JA b:=by
  have e1:=aIK b.Mem.aA.Global
  have e2:=aIK b.Mem.aA.bQ
  have e3:=aQW b.aX
  have e4:=mA b.Mem.aA
  simp only [d7,i6,iP,hO,dV,hQ,lV,fH,cM] at h
  refine⟨⟨?_,?_,?_,?_,?_⟩,?_,?_,?_,?_⟩ <;> omega
def CE(s:aC):Prop:=JA s.aD∧s.Cells.length≤1048576∧s.aW.length≤1048576∧s.cG.length≤1048576∧(∀q∈s.cG,q.eZ.length≤1048576)∧s.Log.length≤1048576
theorem U1{s:aC}(h:dF s≤1048576):CE s:=by
  have h':=h
  simp only [dF,cM,jA,pN] at h'
  have hl:=FD s.cG
  exact⟨aQX (by omega),by omega,by omega,by omega,fun q hq=>by have:=FC hq;simp only [gN,pM] at this;omega,by omega⟩
theorem CE.fits{s:aC}(h:CE s):s.aD.Mem.aG.Bytes.length≤maxLen∧(eC s.aD.Mem.aA).length≤1073741824∧s.aD.aJ.bD.length≤maxLen∧s.aD.aX.length≤maxLen∧(bP s.aD.aX).length≤1073741824∧s.aD.jQ.length≤maxLen:=by
  obtain⟨⟨⟨a1,a2,a3,a4,a5⟩,b1,b2,b3,b4⟩,_⟩:=h
  simp only [maxLen];omega
theorem aPQ{s:aC}(h:CE s):uL s=some (decide (CG s)):=aBD h.fits (by have:=h.2.2.2.1;simp only [maxLen];omega)
theorem aPR{s:aC}(h:CE s):uX s=some (decide (CG s)):=
  have hM:∀{n:Nat},n≤1048576→n≤maxLen:=fun h=>by simp only [maxLen];omega
  aBE h.fits (hM h.2.2.2.1) (fun q hq=>hM (h.2.2.2.2.1 q hq)) (hM h.2.1) (hM h.2.2.1)
theorem aFP{s:aC}(h:dF s≤1048576):aVB s:=by
  have hs:=U1 h
  obtain⟨⟨⟨a1,a2,a3,a4,a5⟩,b1,b2,b3,b4⟩,c1,c2,c3,c4,c5⟩:=hs
  have hM:∀{n:Nat},n≤1048576→n≤maxLen:=fun h=>by simp only [maxLen];omega
  have hl:=mA s.aD.Mem.aA
  have r1:∀x∈s.aD.Mem.aA.Global,x.aL.length≤1048576:=fun x hx=>by have:=xK hx;omega
  have r2:∀x∈s.aD.Mem.aA.bQ,x.aL.length≤1048576:=fun x hx=>by have:=xK hx;omega
  have r3:∀x∈s.aD.aX,x.Rows.length≤1048576:=fun x hx=>by have:=NM hx;omega
  have d1:fX s.aD.Mem.aA.Global≤1048576 * s.aD.Mem.aA.Global.length:=C6 fun x hx=>by have:=r1 x hx;rw [iW];omega
  have d2:fX s.aD.Mem.aA.bQ≤1048576 * s.aD.Mem.aA.bQ.length:=C6 fun x hx=>by have:=r2 x hx;rw [iW];omega
  have d3:mC s.aD.aX≤2097152 * s.aD.aX.length:=C6 fun x hx=>by have:=r3 x hx;rw [W1];omega
  have d4:mD s.cG≤4194304 * s.cG.length:=C6 fun x hx=>by have:=c4 x hx;rw [aFM];omega
  refine aPP (by omega) ?_ ⟨⟨⟨⟨hM a1,hM a2⟩,hM a3,fun x hx=>hM (r1 x hx),hM a4,fun x hx=>hM (r2 x hx)⟩,hM b1,hM b2,fun x hx=>hM (r3 x hx),hM b4⟩,hM c1,hM c2,hM c3,fun x hx=>hM (c4 x hx),hM c5⟩
  unfold zZ iM oF rP rX j7
  rw [iW,iW,Y7,iW,iW,Y8,aFN]
  omega
theorem T6{s:aC}(h:CE s):AI s=some s:=by
  obtain⟨hb,c1,c2,c3,c4,c5⟩:=h
  have n1:∀{β:Type} (k:Option β),need (([]:List bW).length+s.aW.length≤1073741824) k=k:=fun k=>aP (by simp only [List.length_nil];omega) k
  have n2:∀{β:Type} (k:Option β),need (([]:List Ev).length+s.Log.length≤1073741824) k=k:=fun k=>aP (by simp only [List.length_nil];omega) k
  unfold AI E0
  simp only [aKB hb,C5 (show s.Cells.length≤1073741824 by omega),(aIJ c3 c4).1,aI,n1,n2,List.nil_append]
theorem T7{s:aC}(h:CE s):tA s=some s:=by
  obtain⟨hb,c1,c2,c3,c4,c5⟩:=h
  have n1:∀{β:Type} (k:Option β),need (([]:List bW).length+s.aW.length≤1073741824) k=k:=fun k=>aP (by simp only [List.length_nil];omega) k
  have n2:∀{β:Type} (k:Option β),need (([]:List Ev).length+s.Log.length≤1073741824) k=k:=fun k=>aP (by simp only [List.length_nil];omega) k
  unfold tA CZ E6
  simp only [aKC hb,nK (show s.Cells.length≤1073741824 by omega),(aIJ c3 c4).2,aI,n1,n2,List.nil_append]
end Go.Gv
end
noncomputable section
namespace Go.Gv
theorem aIL{σ τ ρ ρ':Type}{f:σ→Option (Step σ ρ)}{g:τ→Option (Step τ ρ')}(sf:Nat→aC→σ)(tg:Nat→aC→τ)(rf:aC→ρ)(rg:aC→ρ'){m L:Nat}
    (hstep:∀k s,k < m→CG s→s.Log.length≤L+k→(∃s',f (sf k s)=some (.next (sf (k+1) s'))∧g (tg k s)=some (.next (tg (k+1) s'))∧CG s'∧s'.Log.length≤L+k+1)∨(f (sf k s)=some (.stop (rf s))∧g (tg k s)=some (.stop (rg s))))
    (hend:∀s,CG s→f (sf m s)=some (.stop (rf s))∧g (tg m s)=some (.stop (rg s))) :
    ∀d k,k+d=m→∀s,CG s→s.Log.length≤L+k→∃s',loop f (sf k s)=some (rf s')∧loop g (tg k s)=some (rg s')∧CG s'∧s'.Log.length≤L+m
  | 0, k, hk, s, hs, hl => by
    obtain rfl:k=m:=by omega
    exact⟨s,bZ (hend s hs).1,bZ (hend s hs).2,hs,hl⟩
  | d + 1, k, hk, s, hs, hl => by
    rcases hstep k s (by omega) hs hl with ⟨s',e1,e2,h1,h2⟩ | ⟨e1,e2⟩
    · obtain⟨x,f1,f2,f3,f4⟩:=aIL sf tg rf rg hstep hend d (k+1) (by omega) s' h1 (by omega)
      exact⟨x,(cH e1).trans f1,(cH e2).trans f2,f3,f4⟩
    · exact⟨s,bZ e1,bZ e2,hs,by omega⟩
end Go.Gv
end
