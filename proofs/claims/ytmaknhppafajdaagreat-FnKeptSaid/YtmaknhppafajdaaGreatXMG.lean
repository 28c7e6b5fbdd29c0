import Derived.Test.YtmaknhppafajdaaGreatXMF
set_option linter.unusedVariables false
set_option linter.unusedSimpArgs false
set_option linter.unusedSectionVars false
set_option linter.constructorNameAsVariable false
set_option linter.unnecessarySimpa false
noncomputable section
namespace Go.Gv
def a9(l:List aP):List bC:=l.flatMap aP.Rows
theorem HD{l:List aP}{k:Nat}(h:k < l.length):a9 (l.take (k+1))=a9 (l.take k)++l[k].Rows:=by
  unfold a9
  rw [List.take_succ_eq_append_getElem h,List.flatMap_append];simp
theorem TZ(l:List aP)(k:Nat):(a9 (l.take k)).length≤(a9 l).length:=by
  have:a9 l=a9 (l.take k)++a9 (l.drop k):=by
    unfold a9;rw [←List.flatMap_append,List.take_append_drop]
  rw [this];simp
theorem VU(l:List aP){k:Nat}(h:k < l.length):l[k].Rows.length≤(a9 l).length:=by
  have h1:=TZ l (k+1)
  rw [HD h] at h1
  simp at h1;omega
theorem FY{l:List aP}{s:aP}(h:s∈l):s.Rows.length≤(a9 l).length:=by
  obtain⟨k,hk,rfl⟩:=List.mem_iff_getElem.1 h
  exact VU l hk
theorem HE{l:List aP}(h:(a9 l).length≤1073741824)(hl:l.length≤maxLen):yR l=some (a9 l):=by
  unfold yR
  have k1:loop (sJ l) ([],0)=some (a9 l):=by
    refine cM (f:=sJ l) l.length (fun k=>(a9 (l.take k),(k:Int))) _ (fun k hk=>?_) ?_
    · have h1:=TZ l (k+1)
      rw [HD hk] at h1
      simp only [sJ]
      rw [if_pos (by simp;omega),aU hk]
      simp only [aG]
      rw [aL (by simp at h1;omega),HD hk,jR (uY hk hl)]
    · simp [sJ]
  rw [k1];rfl
def pS(h:Int):Prop:=(32≤h∧h≤223)∧h % 32 < 24
instance (h:Int):Decidable (pS h):=by unfold pS;infer_instance
theorem iA(h:Int):iE h=some (decide (pS h)):=by
  unfold iE tV pS
  rw [bR]
  by_cases q:32≤h∧h≤223
  · simp [q,oW (show 0≤h by omega)]
  · simp [q]
theorem oY(h:Int):f8 h=some (decide (pS h)):=by
  unfold f8 kI pS
  rw [eC]
  by_cases q:32≤h∧h≤223
  · simp [q,oW (show 0≤h by omega)]
  · simp [q]
theorem pS.mod{h:Int}(q:pS h):Int.tmod h 32=h % 32∧0≤h % 32∧h % 32≤23:=by
  unfold pS at q
  exact⟨oW (by omega),by omega,by omega⟩
theorem dJ(h:Int):eH h=some (if pS h then h % 32 else -1):=by
  unfold eH
  rw [iA]
  by_cases q:pS h
  · simp [q,q.mod.1]
  · simp [q]
def wD(r:bC):Prop:=pS r.Handle∧0≤r.aK∧r.aK≤100000
instance (r:bC):Decidable (wD r):=by unfold wD;infer_instance
def lA(r:bC):Int:=r.Handle % 32
def mX(l:List aP):Prop:=l.length=3∧(a9 l).length≤24∧(∀r∈a9 l,wD r)∧((a9 l).map lA).Nodup
instance (l:List aP):Decidable (mX l):=by unfold mX;infer_instance
def rowAt(l:List bC)(k:Nat):bC:=l.getD k ⟨0,0⟩
theorem QE{l:List bC}{k:Nat}(h:k < l.length):rowAt l k=l[k]:=by
  unfold rowAt;rw [List.getD_eq_getElem?_getD,List.getElem?_eq_getElem h];rfl
theorem EP{l:List aP}(h:(a9 l).length≤1073741824)(hl:l.length≤maxLen):tZ l=some (decide (mX l)):=by
  unfold tZ wN
  rw [HE h hl]
  simp only [aG]
  by_cases h3:l.length=3
  · have n1:((l.length:Int) != 3)=false:=by simp;omega
    simp only [n1,bE,if_false]
    by_cases h24:(a9 l).length≤24
    · rw [if_neg (by simp;omega)]
      have hst:∀k,k < (a9 l).length→qD (a9 l) (((a9 l).take k).map lA,(k:Int))=if wD (rowAt (a9 l) k)∧lA (rowAt (a9 l) k)∉((a9 l).take k).map lA then some (.next (((a9 l).take (k+1)).map lA,((k+1:Nat):Int))) else some (.stop (Out.ret false)):=by
        intro k hk
        simp only [qD,qC]
        rw [if_pos (by simp;omega),aU hk,QE hk]
        simp only [aG,dJ,bR]
        by_cases q:pS (a9 l)[k].Handle
        · have hm:=q.mod
          rw [if_pos q,if_neg (by simp;omega)]
          by_cases q2:0≤(a9 l)[k].aK∧(a9 l)[k].aK≤100000
          · rw [bD q2]
            simp only [dU,bE,if_false]
            rw [DG (by simp [maxLen];omega)]
            simp only [aG]
            by_cases q3:(a9 l)[k].Handle % 32∈((a9 l).take k).map lA
            · rw [bD q3];simp only [if_true];rw [if_neg (show ¬(wD (a9 l)[k]∧lA (a9 l)[k]∉((a9 l).take k).map lA) from fun x=>x.2 q3)]
            · rw [bN q3]
              simp only [bE,if_false]
              rw [if_pos (show wD (a9 l)[k]∧lA (a9 l)[k]∉((a9 l).take k).map lA from ⟨⟨q,q2⟩,q3⟩),aL (by simp;omega),aM (by omega) (by omega),map_take _ hk];rfl
          · rw [bN q2]
            simp only [rX,if_true]
            rw [if_neg (fun x:wD _∧_=>q2 x.1.2)]
        · rw [if_neg q,if_pos (by simp),if_neg (fun x:wD _∧_=>q x.1.1)];rfl
      have key:=tI (f:=qD (a9 l)) (a9 l).length (fun k=>(((a9 l).take k).map lA,(k:Int))) (fun k=>wD (rowAt (a9 l) k)∧lA (rowAt (a9 l) k)∉((a9 l).take k).map lA) (Out.brk ()) (Out.ret false) (fun k hk hx=>by rw [hst k hk,if_pos hx]) (fun k hk hx=>by rw [hst k hk,if_neg hx]) (by simp [qD])
      rw [List.take_zero,List.map_nil,show((0:Nat):Int)=0 from rfl] at key
      rw [key]
      have hiff:mX l↔∀k,k < (a9 l).length→wD (rowAt (a9 l) k)∧lA (rowAt (a9 l) k)∉((a9 l).take k).map lA:=by
        constructor
        · rintro⟨_,_,q1,q2⟩ k hk
          rw [QE hk]
          refine⟨q1 _ (List.getElem_mem hk),?_⟩
          have:=(LU _).1 q2 k (by simpa using hk)
          rw [List.getElem_map,←List.map_take] at this
          exact this
        · intro q
          refine⟨h3,h24,fun x hx=>?_,(LU _).2 fun k hk=>?_⟩
          · obtain⟨k,hk,rfl⟩:=List.mem_iff_getElem.1 hx
            have:=(q k hk).1;rw [QE hk] at this;exact this
          · have hk':k < (a9 l).length:=by simpa using hk
            have:=(q k hk').2;rw [QE hk'] at this
            rw [List.getElem_map,←List.map_take];exact this
      by_cases q:mX l
      · rw [if_pos (hiff.1 q),bD q];rfl
      · rw [if_neg (fun x=>q (hiff.2 x)),bN q];rfl
    · rw [if_pos (by simp;omega),bN (fun q:mX l=>h24 q.2.1)]
  · have n1:((l.length:Int) != 3)=true:=by simp;omega
    simp only [n1,if_true]
    rw [bN (fun q:mX l=>h3 q.1)]
def goR:List Bool→List bC→Option (List Bool)
  | met,[]=>some met
  | met,r :: t=>if wD r∧met.getD (lA r).toNat true=false then goR (met.set (lA r).toNat true) t else none
theorem aL8:∀{xs:List bC} {met m:List Bool},goR met xs=some m→m.length=met.length
  | [],met,m,h=>by simp [goR] at h;rw [h]
  | x :: r, met, m, h => by
    simp only [goR] at h
    split at h
    · have:=aL8 h;simpa using this
    · cases h
theorem aBU:∀(a b:List bC) (met:List Bool),goR met (a++b)=(goR met a).bind fun m=>goR m b
  | [],b,met=>rfl
  | x :: r, b, met => by
    simp only [List.cons_append,goR]
    split
    · exact aBU r b _
    · rfl
theorem aH2:∀(xs:List bC) (met:List Bool),(goR met xs).isSome=true↔(∀r∈xs,wD r)∧(wC met (xs.map lA)).isSome=true
  | [],met=>by simp [goR,wC]
  | x :: r, met => by
    simp only [goR,List.map_cons,wC]
    by_cases h:wD x
    · have hm:=h.1.mod
      have hs:0≤lA x∧lA x≤23:=hm.2
      by_cases h2:met.getD (lA x).toNat true=false
      · rw [if_pos ⟨h,h2⟩,if_pos ⟨hs,h2⟩,aH2 r _]
        simp [h]
      · rw [if_neg (fun q=>h2 q.2),if_neg (fun q=>h2 q.2)];simp
    · rw [if_neg (fun q=>h q.1)]
      constructor
      · intro q;cases q
      · rintro⟨q,_⟩;exact(h (q x List.mem_cons_self)).elim
theorem aM4{s:aP}(hl:s.Rows.length≤maxLen):∀d k (met:List Bool),k+d=s.Rows.length→met.length=24→loop (jI s) ((k:Int),met)=some (aGB (goR met (s.Rows.drop k))):=by
  intro d
  induction d with
  | zero =>
    intro k met hk hm
    rw [bK (r:=Out.brk met) (by simp [jI];omega),List.drop_eq_nil_of_le (by omega)];rfl
  | succ d ih =>
    intro k met hk hm
    have hk':k < s.Rows.length:=by omega
    have hd:s.Rows.drop k=s.Rows[k] :: s.Rows.drop (k+1):=List.drop_eq_getElem_cons hk'
    have hst:jI s ((k:Int),met)=if wD s.Rows[k]∧met.getD (lA s.Rows[k]).toNat true=false then some (.next (((k+1:Nat):Int),met.set (lA s.Rows[k]).toNat true)) else some (.stop (Out.ret false)):=by
      simp only [jI]
      rw [if_pos (by simp;omega),aU hk']
      simp only [aG,oY,eC]
      generalize s.Rows[k]=x
      by_cases q:pS x.Handle
      · by_cases q2:0≤x.aK∧x.aK≤100000
        · have hm2:=q.mod
          obtain⟨j,hj0⟩:=Int.eq_ofNat_of_zero_le hm2.2.1
          have hj:j < met.length:=by omega
          have e:met.getD j true=met[j]:=by rw [List.getD_eq_getElem?_getD,List.getElem?_eq_getElem hj];rfl
          have hr:wD x:=⟨q,q2⟩
          simp only [q,q2,and_self,decide_true,dU,bE,if_false,gP,hm2.1,hj0,Int.toNat_natCast,hr,true_and,lA,e]
          rw [aL (by omega),aU hj]
          simp only [aG]
          cases met[j]
          · simp only [bE,if_false,if_true]
            rw [aL (by omega),jR (uY hk' hl)]
          · simp
        · rw [bD q,bN q2];simp only [dU,rX,bE,if_false,if_true,gP];rw [if_neg (fun y:wD x∧_=>q2 y.1.2)]
      · rw [bN q];simp only [rX,if_true,gP];rw [if_neg (fun y:wD x∧_=>q y.1.1)]
    rw [hd,goR]
    by_cases q:wD s.Rows[k]∧met.getD (lA s.Rows[k]).toNat true=false
    · rw [if_pos q] at hst ⊢
      rw [bT hst,ih (k+1) _ (by omega) (by simpa using hm)]
    · rw [if_neg q] at hst ⊢
      rw [bK hst];rfl
theorem aM5{l:List aP}(hn:l.length≤1000)(hs:∀s∈l,s.Rows.length≤maxLen):∀d k (met:List Bool),k+d=l.length→met.length=24 →
    loop (jJ l) ((k:Int),met)=some (if (goR met (a9 (l.drop k))).isSome=true then Out.brk () else Out.ret false):=by
  intro d
  induction d with
  | zero =>
    intro k met hk hm
    rw [List.drop_eq_nil_of_le (by omega),if_pos (show(goR met (a9 [])).isSome=true from rfl)]
    refine bK ?_
    simp only [jJ]
    rw [if_neg (by simp;omega)]
  | succ d ih =>
    intro k met hk hm
    have hk':k < l.length:=by omega
    have hd:l.drop k=l[k] :: l.drop (k+1):=List.drop_eq_getElem_cons hk'
    have hsk:=hs _ (List.getElem_mem hk')
    have hf:a9 (l.drop k)=l[k].Rows++a9 (l.drop (k+1)):=by unfold a9;rw [hd,List.flatMap_cons]
    have h4:=aM4 hsk _ 0 met (Nat.zero_add _) hm
    rw [show((0:Nat):Int)=0 from rfl,List.drop_zero] at h4
    have hst:jJ l ((k:Int),met)=(match goR met l[k].Rows with | some m=>some (.next (((k+1:Nat):Int),m)) | none=>some (.stop (Out.ret false))):=by
      simp only [jJ]
      rw [if_pos (by simp;omega),aU hk']
      simp only [aG]
      rw [h4]
      cases goR met l[k].Rows with
      | none=>rfl
      | some m=>simp only [aG,aGB,MP,wS];rw [aM (by omega) (by omega)];rfl
    rw [hf,aBU]
    cases hg:goR met l[k].Rows with
    | none =>
      rw [hg] at hst
      rw [bK hst,if_neg (by simp)]
    | some m =>
      rw [hg] at hst
      rw [bT hst,ih (k+1) m (by omega) (by rw [aL8 hg];exact hm)]
      simp only [aG]
theorem T0{l:List aP}(hn:l.length≤1000)(h:(a9 l).length≤1073741824):sV l=some ((a9 l).length:Int):=by
  unfold sV
  have key:loop (gJ l) (0,0)=some ((a9 l).length:Int):=by
    refine cM (f:=gJ l) l.length (fun k=>(((a9 (l.take k)).length:Int),(k:Int))) _ (fun k hk=>?_) ?_
    · have h1:=TZ l (k+1)
      rw [HD hk,List.length_append] at h1
      simp only [gJ]
      rw [if_pos (by simp;omega),aU hk]
      simp only [aG]
      rw [aM (by omega) (by omega),aM (by omega) (by omega),HD hk,List.length_append]
      simp
    · simp [gJ]
  rw [key];rfl
theorem xH{l:List aP}(h:(a9 l).length≤1073741824):jV l=some (decide (mX l)):=by
  unfold jV
  by_cases h3:l.length=3
  · have n1:((l.length:Int) != 3)=false:=by simp;omega
    have hb:(1073741824:Nat)≤maxLen:=by simp [maxLen]
    simp only [n1,bE,if_false]
    have key:=aM5 (l:=l) (by omega) (fun s hs=>by have:=FY hs;omega) l.length 0 [false,false,false,false,false,false,false,false,false,false,false,false,false,false,false,false,false,false,false,false,false,false,false,false] (by omega) rfl
    rw [show((0:Nat):Int)=0 from rfl,List.drop_zero] at key
    rw [key]
    have hm0:∀j:Nat,j < 24→[false,false,false,false,false,false,false,false,false,false,false,false,false,false,false,false,false,false,false,false,false,false,false,false].getD j true=false:=by decide
    have hiff:mX l↔(a9 l).length≤24∧(goR [false,false,false,false,false,false,false,false,false,false,false,false,false,false,false,false,false,false,false,false,false,false,false,false] (a9 l)).isSome=true:=by
      rw [aH2,SD _ _ rfl]
      have hr:(∀r∈a9 l,wD r)→∀x∈(a9 l).map lA,0≤x∧x≤23:=by
        intro q x hx
        obtain⟨r,hr,rfl⟩:=List.mem_map.1 hx
        exact(q r hr).1.mod.2
      constructor
      · rintro⟨_,q1,q2,q3⟩
        exact⟨q1,q2,hr q2,q3,fun x hx=>hm0 _ (by have:=hr q2 x hx;omega)⟩
      · rintro⟨q1,q2,_,q3,_⟩
        exact⟨h3,q1,q2,q3⟩
    by_cases q:(goR [false,false,false,false,false,false,false,false,false,false,false,false,false,false,false,false,false,false,false,false,false,false,false,false] (a9 l)).isSome=true
    · rw [if_pos q]
      simp only [aG,MQ,wR]
      rw [T0 (by omega) h]
      simp only [aG]
      congr 1
      rw [Bool.eq_iff_iff];simp only [decide_eq_true_eq]
      rw [hiff]
      exact⟨fun a=>⟨by omega,q⟩,fun a=>by omega⟩
    · rw [if_neg q,bN (fun x=>q (hiff.1 x).2)];rfl
  · have n1:((l.length:Int) != 3)=true:=by simp;omega
    simp only [n1,if_true]
    rw [bN (fun q:mX l=>h3 q.1)]
def lB(h:Int):Prop:=h=0∨pS h
instance (h:Int):Decidable (lB h):=by unfold lB;infer_instance
def HV(z:List Int):Prop:=z.length=3∧∀h∈z,lB h
instance (z:List Int):Decidable (HV z):=by unfold HV;infer_instance
theorem JL{z:List Int}(hl:z.length≤maxLen):BH z=some (decide (HV z)):=by
  unfold BH
  have hst:∀k (hk:k < z.length),vQ z (k:Int)=if lB z[k] then some (.next ((k+1:Nat):Int)) else some (.stop (Out.ret false)):=by
    intro k hk
    simp only [vQ,CM]
    rw [if_pos (by simp;omega),aU hk,jR (uY hk hl)]
    simp only [aG,iA]
    generalize z[k]=x
    by_cases q:x=0
    · have n:(x != 0)=false:=by simp only [bne_eq_false_iff_eq];exact q
      rw [n,if_pos (show lB x from .inl q)];rfl
    · have n:(x != 0)=true:=by simp only [bne_iff_ne];exact q
      by_cases q2:pS x
      · rw [n,bD q2,if_pos (show lB x from .inr q2)];rfl
      · rw [n,bN q2,if_neg (fun a:lB x=>a.elim q q2)];rfl
  have key:=oV (f:=vQ z) z (fun k=>(k:Int)) lB (Out.brk ()) (Out.ret false) (fun k hk hx=>by rw [hst k hk,if_pos hx]) (fun k hk hx=>by rw [hst k hk,if_neg hx]) (by simp [vQ])
  rw [show((0:Nat):Int)=0 from rfl] at key
  rw [key]
  by_cases q:∀x∈z,lB x
  · rw [if_pos q]
    have:HV z↔z.length=3:=⟨fun a=>a.1,fun a=>⟨a,q⟩⟩
    simp only [aG,Q1,Q0,this]
    congr 1;rw [Bool.eq_iff_iff];simp only [beq_iff_eq,decide_eq_true_eq];omega
  · rw [if_neg q,bN (fun a:HV z=>q a.2)];rfl
theorem JM{z:List Int}(hl:z.length≤maxLen):BP z=some (decide (HV z)):=by
  unfold BP CV
  have e:(fun y0=>FG y0)=fun y:Int=>some (!decide (lB y)):=by
    funext y
    unfold FG OM zX
    rw [oY]
    by_cases q:y=0
    · have n:(y == 0)=true:=by simp only [beq_iff_eq];exact q
      rw [n,bD (show lB y from .inl q)];rfl
    · have n:(y == 0)=false:=by simp only [beq_eq_false_iff_ne];exact q
      by_cases q2:pS y
      · rw [n,bD q2,bD (show lB y from .inr q2)];rfl
      · rw [n,bN q2,bN (fun a:lB y=>a.elim q q2)];rfl
  rw [e,FW hl,QC]
  by_cases h3:z.length=3
  · have n:((z.length:Int) == 3)=true:=by simp;omega
    have:HV z↔∀h∈z,lB h:=⟨fun a=>a.2,fun a=>⟨h3,a⟩⟩
    simp only [n,if_true,aG,Bool.not_not,this]
  · have n:((z.length:Int) == 3)=false:=by simp;omega
    simp only [n,bE,if_false]
    rw [bN (fun a:HV z=>h3 a.1)]
end Go.Gv
end
noncomputable section
namespace Go.Gv
theorem T1{α:Type}(l:List α)(f:α→Bool){body:Int→Option (Step Int (Out Unit Int))}(hb:∀k (hk:k < l.length),body (k:Int)=if f l[k] then some (.stop (.ret (k:Int))) else some (.next ((k+1:Nat):Int)))(he:body (l.length:Int)=some (.stop (.brk ()))) :
    ∃o,loop body 0=some o∧match o with | .brk _=>l.any f=false | .ret r=>0≤r∧l.any f=true:=by
  have key:=aM2 (f:=body) l.length (fun k=>(k:Int)) (fun k=>if (l.drop k).any f then Out.ret ((k+(l.drop k).findIdx f:Nat):Int) else Out.brk ()) (fun k hk=>by
    by_cases h:k < l.length
    · have hd:l.drop k=l[k] :: l.drop (k+1):=List.drop_eq_getElem_cons h
      rw [hb k h,hd]
      simp only [List.any_cons,List.findIdx_cons]
      by_cases h4:f l[k]=true
      · left;simp [h4]
      · right
        have h4:f l[k]=false:=by simpa using h4
        refine⟨h,by simp [h4],?_⟩
        simp only [h4,Bool.false_or,cond_false]
        congr 2;omega
    · left
      obtain rfl:k=l.length:=by omega
      rw [he];simp) 0 (Nat.zero_le _)
  rw [show((0:Nat):Int)=0 from rfl,List.drop_zero] at key
  refine⟨_,key,?_⟩
  by_cases h:l.any f=true
  · rw [if_pos h];exact⟨by omega,h⟩
  · rw [if_neg h];simpa using h
theorem RQ{l:List bC}(hl:l.length≤maxLen)(f:bC→Bool):fJ l (fun x=>some (f x))=some (l.any f):=by
  obtain⟨o,e,h⟩:=T1 l f (body:=iI l (fun x=>some (f x))) (fun k hk=>by
    simp only [iI]
    rw [if_pos (by simp;omega),aU hk,jR (uY hk hl)];rfl) (by simp [iI])
  unfold fJ rL
  rw [e]
  cases o with
  | brk u=>simp only at h;simp [mN,vY,h]
  | ret r=>simp only at h;simp [mN,h]
theorem PH{l:List aP}(hl:l.length≤maxLen)(f:aP→Bool)(g:aP→Option Bool)(hg:∀x∈l,g x=some (f x)):fC l g=some (l.any f):=by
  obtain⟨o,e,h⟩:=T1 l f (body:=g7 l g) (fun k hk=>by
    simp only [g7]
    rw [if_pos (by simp;omega),aU hk,jR (uY hk hl)]
    simp only [aG,hg _ (List.getElem_mem hk)]) (by simp [g7])
  unfold fC pI
  rw [e]
  cases o with
  | brk u=>simp only at h;simp [lF,uV,h]
  | ret r=>simp only at h;simp [lF,h]
theorem PI{l:List aC}(hl:l.length≤maxLen)(f:aC→Bool)(g:aC→Option Bool)(hg:∀x∈l,g x=some (f x)):fE l g=some (l.any f):=by
  obtain⟨o,e,h⟩:=T1 l f (body:=g8 l g) (fun k hk=>by
    simp only [g8]
    rw [if_pos (by simp;omega),aU hk,jR (uY hk hl)]
    simp only [aG,hg _ (List.getElem_mem hk)]) (by simp [g8])
  unfold fE pJ
  rw [e]
  cases o with
  | brk u=>simp only at h;simp [lG,uW,h]
  | ret r=>simp only at h;simp [lG,h]
theorem contains_eq{l:List Int}(hl:l.length≤maxLen)(v:Int):m7 l v=some (decide (v∈l)):=by
  obtain⟨o,e,h⟩:=T1 l (fun x=>v == x) (body:=dO l v) (fun k hk=>by
    simp only [dO]
    rw [if_pos (by simp;omega),aU hk,jR (uY hk hl)];rfl) (by simp [dO])
  have ha:l.any (fun x=>v == x)=decide (v∈l):=by
    rw [Bool.eq_iff_iff];simp
  rw [ha] at h
  unfold m7 kJ
  rw [e]
  cases o with
  | brk u=>simp only at h;simp [m6,EY,h]
  | ret r=>simp only at h;simp [m6,h]
theorem QF{l:List aC}{x:Int}:x∈bX l↔∃s∈l,x∈s.aJ:=List.mem_flatMap
noncomputable section
variable {m:Mem} (hsh:dW m.aB) (hl:(cK m.aA).length≤1073741824) (hg:m.aA.Global.length≤maxLen) (ho:m.aA.bB.length≤maxLen)
include hl hg ho
theorem aBV(s:Int):H5 m.aA s=some (decide (s∈cK m.aA)):=by
  have hb:(1073741824:Nat)≤maxLen:=by simp [maxLen]
  unfold H5
  rw [JJ hl hg ho]
  simp only [aG]
  rw [DG (by omega)];rfl
theorem PJ(s:Int):DT m.aA s=some (decide (s∈cK m.aA)):=by
  have hb:(1073741824:Nat)≤maxLen:=by simp [maxLen]
  have hal:=eS m.aA
  have e1:∀x∈m.aA.Global,mO x s=some (decide (s∈x.aJ)):=fun x hx=>by
    have:=oX hx
    unfold mO;rw [contains_eq (by omega)];rfl
  have e2:∀x∈m.aA.bB,mO x s=some (decide (s∈x.aJ)):=fun x hx=>by
    have:=oX hx
    unfold mO;rw [contains_eq (by omega)];rfl
  unfold DT zY
  rw [PI hg (fun x=>decide (s∈x.aJ)) _ e1,PI ho (fun x=>decide (s∈x.aJ)) _ e2]
  have a1:(m.aA.Global.any fun x=>decide (s∈x.aJ))=decide (s∈bX m.aA.Global):=by
    rw [Bool.eq_iff_iff];simp [QF]
  have a2:(m.aA.bB.any fun x=>decide (s∈x.aJ))=decide (s∈bX m.aA.bB):=by
    rw [Bool.eq_iff_iff];simp [QF]
  rw [a1,a2]
  simp only [aG,cK,List.mem_append]
  by_cases q:s∈bX m.aA.Global <;> simp [q]
def iW(m:Mem)(s:Int):Int:=if bJ m.aB s < 0 then 0 else if s∈cK m.aA then 1 else if 6 < j4 m.aB s then 2 else 3
include hsh
theorem YF(s:Int):E6 m s=some (iW m s):=by
  unfold E6 iW
  rw [gW hsh,aBV hl hg ho]
  simp only [aG]
  by_cases q:bJ m.aB s < 0
  · simp [q]
  · rw [mW hsh (by omega)]
    by_cases q2:s∈cK m.aA
    · simp [q,q2]
    · by_cases q3:6 < j4 m.aB s <;> simp [q,q2,q3]
theorem YG(s:Int):FH m s=some (iW m s):=by
  unfold FH iW
  rw [lW hsh,PJ hl hg ho]
  simp only [aG]
  by_cases q:bJ m.aB s < 0
  · simp [q]
  · rw [DF hsh (by omega)]
    by_cases q2:s∈cK m.aA
    · simp [q,q2]
    · by_cases q3:6 < j4 m.aB s <;> simp [q,q2,q3]
def mY(m:Mem)(h:Int):Prop:=pS h∧iW m (h % 32)=3∧j4 m.aB (h % 32)=h / 32
instance (m:Mem) (h:Int):Decidable (mY m h):=by unfold mY;infer_instance
omit hl hg ho hsh in
theorem yZ{m:Mem}{s:Int}(h:iW m s=3):0≤bJ m.aB s:=by
  unfold iW at h
  split at h
  · omega
  · omega
theorem lX(h:Int):o8 m h=some (decide (mY m h)):=by
  unfold o8 p8
  rw [iA,dJ]
  by_cases q:pS h
  · have hm:=q.mod
    rw [bD q,if_pos q]
    simp only [aG,if_true,YF hsh hl hg ho]
    by_cases q2:iW m (h % 32)=3
    · have n:(iW m (h % 32) == 3)=true:=by simpa using q2
      have eg:zF h=some (h / 32):=by
        unfold zF
        unfold pS at q
        rw [iA,bD (show pS h from q),A0 (by omega),aM (by omega) (by omega)];rfl
      rw [n,mW hsh (yZ q2),eg]
      simp only [if_true,aG]
      congr 1;rw [Bool.eq_iff_iff];simp only [beq_iff_eq,decide_eq_true_eq]
      exact⟨fun a=>⟨q,q2,a⟩,fun a=>a.2.2⟩
    · have n:(iW m (h % 32) == 3)=false:=by simpa using q2
      rw [n,bN (fun a:mY m h=>q2 a.2.1)];rfl
  · rw [bN q,bN (fun a:mY m h=>q a.1)];rfl
theorem HF(h:Int):yW m h=some (decide (mY m h)):=by
  unfold yW sW
  rw [oY]
  by_cases q:pS h
  · have hm:=q.mod
    rw [bD q,hm.1]
    simp only [aG,if_true,YG hsh hl hg ho]
    by_cases q2:iW m (h % 32)=3
    · have n:(iW m (h % 32) == 3)=true:=by simpa using q2
      have eg:aV (Int.tdiv h 32)=h / 32:=by
        unfold pS at q
        rw [A0 (by omega),aM (by omega) (by omega)]
      rw [n,DF hsh (yZ q2),eg]
      simp only [if_true,aG]
      congr 1;rw [Bool.eq_iff_iff];simp only [beq_iff_eq,decide_eq_true_eq]
      exact⟨fun a=>⟨q,q2,a⟩,fun a=>a.2.2⟩
    · have n:(iW m (h % 32) == 3)=false:=by simpa using q2
      rw [n,bN (fun a:mY m h=>q2 a.2.1)];rfl
  · rw [bN q,bN (fun a:mY m h=>q a.1)];rfl
end
def uS(b:aE)(r:bC):Prop:=mY b.Mem r.Handle∧r.aK≤b.aI.aK
instance (b:aE) (r:bC):Decidable (uS b r):=by unfold uS;infer_instance
def eN(b:aE):Prop:=(i3 b.Mem∧JK b.aI∧mX b.aR∧HV b.fW)∧∀r∈a9 b.aR,uS b r
instance (b:aE):Decidable (eN b):=by unfold eN;infer_instance
def tK(b:aE):Prop:=gZ b.Mem∧b.aI.aX.length≤1048576∧b.aR.length≤1048576∧(a9 b.aR).length≤1048576∧b.fW.length≤1048576
theorem tK.rows{b:aE}(h:tK b):∀s∈b.aR,s.Rows.length≤1048576:=fun s hs=>by
  have:=FY hs;have:=h.2.2.2.1;omega
noncomputable section
variable {b:aE} (hf:b.Mem.aB.Bytes.length≤maxLen∧(cK b.Mem.aA).length≤1073741824∧b.aI.aX.length≤maxLen∧b.aR.length≤maxLen∧(a9 b.aR).length≤1073741824∧b.fW.length≤maxLen)
include hf
theorem iX:sL b=some (decide (eN b)):=by
  obtain⟨f1,f2,f3,f4,f5,f6⟩:=hf
  unfold sL nJ
  rw [rH f1 f2,gX,EP f5 f4,JL f6]
  by_cases q1:i3 b.Mem
  · by_cases q2:JK b.aI
    · by_cases q3:mX b.aR
      · by_cases q4:HV b.fW
        · have hg:b.Mem.aA.Global.length≤maxLen:=by rw [q1.1.2.1];simp [maxLen]
          have ho:b.Mem.aA.bB.length≤maxLen:=by rw [q1.1.2.2.1];simp [maxLen]
          have hmx:(1073741824:Nat)≤maxLen:=by simp [maxLen]
          simp only [bD q1,bD q2,bD q3,bD q4,aG,dU,bE,if_false]
          rw [HE f5 f4]
          simp only [aG]
          have hst:∀k (hk:k < (a9 b.aR).length),sK b (a9 b.aR) (k:Int)=if uS b (a9 b.aR)[k] then some (.next ((k+1:Nat):Int)) else some (.stop (Out.ret false)):=by
            intro k hk
            simp only [sK,zO]
            rw [if_pos (by simp;omega),aU hk,jR (show k < maxLen by omega)]
            generalize (a9 b.aR)[k]=r
            simp only [aG,lX q1.1.1.1 f2 hg ho]
            by_cases a1:mY b.Mem r.Handle
            · rw [bD a1]
              simp only [dU,bE,if_false]
              by_cases a2:r.aK≤b.aI.aK
              · rw [if_neg (by simp;omega),if_pos ⟨a1,a2⟩]
              · rw [if_pos (by simp;omega),if_neg (fun x=>a2 x.2)]
            · rw [bN a1]
              simp only [rX,if_true]
              rw [if_neg (fun x=>a1 x.1)]
          have key:=oV (f:=sK b (a9 b.aR)) (a9 b.aR) (fun k=>(k:Int)) (uS b) (Out.brk ()) (Out.ret false) (fun k hk hx=>by rw [hst k hk,if_pos hx]) (fun k hk hx=>by rw [hst k hk,if_neg hx]) (by simp [sK])
          rw [show((0:Nat):Int)=0 from rfl] at key
          rw [key]
          by_cases q:∀r∈a9 b.aR,uS b r
          · rw [if_pos q,bD (show eN b from ⟨⟨q1,q2,q3,q4⟩,q⟩)];rfl
          · rw [if_neg q,bN (fun x:eN b=>q x.2)];rfl
        · rw [bN (fun x:eN b=>q4 x.1.2.2.2),bD q1,bD q2,bD q3,bN q4];rfl
      · rw [bN (fun x:eN b=>q3 x.1.2.2.1),bD q1,bD q2,bN q3];rfl
    · rw [bN (fun x:eN b=>q2 x.1.2.1),bD q1,bN q2];rfl
  · rw [bN (fun x:eN b=>q1 x.1.1),bN q1];rfl
theorem tL:yX b=some (decide (eN b)):=by
  obtain⟨f1,f2,f3,f4,f5,f6⟩:=hf
  unfold yX nU
  rw [rI f1 f2,qT f3,xH f5,JM f6]
  by_cases q1:i3 b.Mem
  · by_cases q2:JK b.aI
    · by_cases q3:mX b.aR
      · by_cases q4:HV b.fW
        · have hg:b.Mem.aA.Global.length≤maxLen:=by rw [q1.1.2.1];simp [maxLen]
          have ho:b.Mem.aA.bB.length≤maxLen:=by rw [q1.1.2.2.1];simp [maxLen]
          have hmx:(1073741824:Nat)≤maxLen:=by simp [maxLen]
          simp only [bD q1,bD q2,bD q3,bD q4,aG,dU,bE,if_false]
          have e1:(fun y0=>wT y0 b)=fun r:bC=>some (!decide (uS b r)):=by
            funext r
            unfold wT pK
            rw [HF q1.1.1.1 f2 hg ho]
            by_cases a1:mY b.Mem r.Handle
            · by_cases a2:r.aK≤b.aI.aK
              · rw [bD a1,bD (show uS b r from ⟨a1,a2⟩),bN (show ¬b.aI.aK < r.aK by omega)];rfl
              · rw [bD a1,bN (fun x:uS b r=>a2 x.2),bD (show b.aI.aK < r.aK by omega)];rfl
            · rw [bN a1,bN (fun x:uS b r=>a1 x.1)];rfl
          have e2:∀l∈b.aR,(fun y0=>CX y0 b) l=some (!decide (∀r∈l.Rows,uS b r)):=fun l hl=>by
            have:=FY hl
            simp only [CX]
            rw [e1,RQ (by omega),QC];rfl
          rw [PH f4 _ _ e2,QC]
          have hiff:eN b↔∀l∈b.aR,∀r∈l.Rows,uS b r:=by
            constructor
            · intro x l hl r hr
              exact x.2 r (List.mem_flatMap.2 ⟨l,hl,hr⟩)
            · intro x
              refine⟨⟨q1,q2,q3,q4⟩,fun r hr=>?_⟩
              obtain⟨l,hl,hr⟩:=List.mem_flatMap.1 hr
              exact x l hl r hr
          simp only [aG,Bool.not_not,hiff]
        · rw [bN (fun x:eN b=>q4 x.1.2.2.2),bD q1,bD q2,bD q3,bN q4];rfl
      · rw [bN (fun x:eN b=>q3 x.1.2.2.1),bD q1,bD q2,bN q3];rfl
    · rw [bN (fun x:eN b=>q2 x.1.2.1),bD q1,bN q2];rfl
  · rw [bN (fun x:eN b=>q1 x.1.1),bN q1];rfl
end
end Go.Gv
end
noncomputable section
namespace Go.Gv
theorem aBW{α:Type}{f:(List α×Int)→Option (Step (List α×Int) (List α))}(l:List α)
    (h:∀k (hk:k < l.length),f (l.take k,(k:Int))=some (.next (l.take k ++ [l[k]],((k+1:Nat):Int)))) (he:f (l,(l.length:Int))=some (.stop l)):loop f ([],0)=some l:=by
  have:=cM (f:=f) l.length (fun k=>(l.take k,(k:Int))) l (fun k hk=>by rw [h k hk,List.take_succ_eq_append_getElem hk]) (by rw [List.take_length];exact he)
  simpa using this
theorem aEO{α:Type}{f:(Int×List α)→Option (Step (Int×List α) (List α))}(l:List α)
    (h:∀k (hk:k < l.length),f ((k:Int),l.take k)=some (.next (((k+1:Nat):Int),l.take k ++ [l[k]]))) (he:f ((l.length:Int),l)=some (.stop l)):loop f (0,[])=some l:=by
  have:=cM (f:=f) l.length (fun k=>((k:Int),l.take k)) l (fun k hk=>by rw [h k hk,List.take_succ_eq_append_getElem hk]) (by rw [List.take_length];exact he)
  simpa using this
theorem FZ{l:List Int}(h:l.length≤1073741824):l5 l=some l:=by
  unfold l5;rw [aL (by simpa using h)];rfl
theorem pT{l:List Int}(h:l.length≤1073741824):eK l=some l:=by
  unfold eK;rw [aL (by simpa using h)];rfl
theorem aGE{l:List eX}(h:l.length≤1073741824):uH l=some l:=by
  unfold uH;rw [aL (by simpa using h)];rfl
theorem aDX{l:List bC}(h:l.length≤1073741824):rU l=some l:=by
  unfold rU;rw [aL (by simpa using h)];rfl
theorem aEP{l:List aC}(hl:l.length≤1048576)(hs:∀s∈l,s.aJ.length≤1048576):DL l=some l:=by
  unfold DL
  rw [aBW l]
  · rfl
  · intro k hk
    have:=hs _ (List.getElem_mem hk)
    simp only [GB]
    rw [if_pos (by simp;omega),aU hk]
    simp only [aG]
    rw [FZ (by omega),aG,aL (by simp;omega),aM (by omega) (by omega)];rfl
  · simp [GB]
theorem DH{l:aA}(h1:l.Global.length≤1048576)(h2:l.bB.length≤1048576)(h3:∀s∈l.Global,s.aJ.length≤1048576)(h4:∀s∈l.bB,s.aJ.length≤1048576):r6 l=some l:=by
  unfold r6;rw [aEP h1 h3,aEP h2 h4];rfl
theorem JN{l:aA}(h1:l.Global.length≤1048576)(h2:l.bB.length≤1048576)(h3:∀s∈l.Global,s.aJ.length≤1048576)(h4:∀s∈l.bB,s.aJ.length≤1048576):fK l=some l:=by
  unfold fK
  rw [aEO l.Global]
  · simp only [aG,IJ,II]
    rw [aEO l.bB]
    · rfl
    · intro k hk
      have:=h4 _ (List.getElem_mem hk)
      simp only [AD]
      rw [if_pos (by simp;omega),aU hk]
      simp only [aG]
      rw [pT (by omega),aG,aL (by simp;omega),AB,aM (by omega) (by omega)];rfl
    · simp [AD]
  · intro k hk
    have:=h3 _ (List.getElem_mem hk)
    simp only [AF]
    rw [if_pos (by simp;omega),aU hk]
    simp only [aG]
    rw [pT (by omega),aG,aL (by simp;omega),AE,aM (by omega) (by omega)];rfl
  · simp [AF]
theorem LV{h:aB}(h1:h.Bytes.length≤1048576)(h2:h.Class.length≤1048576):yN h=some h:=by
  unfold yN;rw [FZ (by omega),FZ (by omega)];rfl
theorem LW{h:aB}(h1:h.Bytes.length≤1048576)(h2:h.Class.length≤1048576):rD h=some h:=by
  unfold rD;rw [pT (by omega),pT (by omega)];rfl
theorem D0{m:Mem}(h:gZ m):r7 m=some m:=by
  have a:=LV h.1 h.2.1
  have b:=DH h.2.2.1 h.2.2.2.1 h.IP.1 h.IP.2
  unfold r7;rw [a,b];rfl
theorem WN{m:Mem}(h:gZ m):AG m=some m:=by
  have a:=LW h.1 h.2.1
  have b:=JN h.2.2.1 h.2.2.2.1 h.IP.1 h.IP.2
  unfold AG;rw [a,b];rfl
theorem kC{c:aI}(h:c.aX.length≤1048576):l7 c=some c:=by
  unfold l7;rw [aL (by simp;omega)];rfl
theorem wE{c:aI}(h:c.aX.length≤1048576):iN c=some c:=by
  unfold iN;rw [aGE (by omega)];rfl
theorem RR{l:List aP}(hl:l.length≤1048576)(hs:∀s∈l,s.Rows.length≤1048576):t7 l=some l:=by
  unfold t7
  rw [aBW l]
  · rfl
  · intro k hk
    have:=hs _ (List.getElem_mem hk)
    simp only [EA]
    rw [if_pos (by simp;omega),aU hk]
    simp only [aG]
    rw [aL (by simp;omega),aL (by simp;omega),aM (by omega) (by omega)];rfl
  · simp [EA]
theorem JO{l:List aP}(hl:l.length≤1048576)(hs:∀s∈l,s.Rows.length≤1048576):iO l=some l:=by
  unfold iO
  rw [aBW l]
  · rfl
  · intro k hk
    have:=hs _ (List.getElem_mem hk)
    simp only [AH]
    rw [if_pos (by simp;omega),aU hk]
    simp only [aG]
    rw [aDX (by omega),aG,aL (by simp;omega),aM (by omega) (by omega)];rfl
  · simp [AH]
theorem T2{b:aE}(h:tK b):FB b=some b:=by
  have m:=D0 h.1
  have c:=kC h.2.1
  have l:=RR h.2.2.1 h.rows
  have:=h.2.2.2.2
  unfold FB;rw [m,c,l,FZ (by omega)];rfl
theorem aGF{b:aE}(h:tK b):CZ b=some b:=by
  have m:=WN h.1
  have c:=wE h.2.1
  have l:=JO h.2.2.1 h.rows
  have:=h.2.2.2.2
  unfold CZ;rw [m,c,l,pT (by omega)];rfl
end Go.Gv
end
noncomputable section
namespace Go.Gv
theorem iY(w:Int):d9 w=some (decide (0≤w∧w≤2)):=by
  unfold d9;rw [eC];rfl
noncomputable section
variable {c:aI} (hc:JK c) {w:Int} (hw:0≤w∧w≤2)
include hc
theorem JK.small:c.aX.length≤1048576∧c.aX.length≤maxLen:=by
  have:=hc.2.1;simp only [maxLen];omega
theorem JK.aGG{k:Nat}{p:eX}(hp:POk c.aK p):JK ⟨c.aK,c.aX.set k p⟩:=⟨hc.1,by simpa using hc.2.1,fun q hq=>(List.mem_or_eq_of_mem_set hq).elim (hc.2.2 q) (fun e=>e ▸ hp)⟩
theorem JK.aYX(h:c.aK+1≤100000):JK ⟨c.aK+1,c.aX⟩:=by
  have h1:=hc.1
  exact⟨⟨by simp only;omega,h⟩,hc.2.1,fun q hq=>by
    obtain⟨a,b,d⟩:=hc.2.2 q hq
    exact⟨⟨a.1,by simp only;omega⟩,b,d⟩⟩
include hw
theorem aJV:∃p,idx c.aX w=some p∧POk c.aK p:=by
  have h3:=hc.2.1
  rw [fY hw.1 (by omega)]
  exact⟨_,rfl,hc.2.2 _ (List.getElem_mem _)⟩
theorem aEQ(e:Int):∃r,sN c w e=some r∧IL c w e=some r∧JK r.1∧r.1.aK=c.aK:=by
  obtain⟨p,hp,h1,⟨hs0,hs1⟩,h2⟩:=aJV hc hw
  have h3:=hc.2.1
  unfold sN IL
  rw [kC hc.small.1,wE hc.small.1,gX,qT hc.small.2,iY,bR,bD hc,bD hw]
  simp only [aG,dU,bE,if_false,sM,AL,hp]
  cases h4:p.On
  · exact⟨_,rfl,rfl,hc,rfl⟩
  · cases h5:p.dT
    · by_cases h6:p.aK=e
      · simp only [kP,oO,h6,beq_self_eq_true,if_true,dU,bE,if_false]
        exact⟨_,rfl,rfl,hc,rfl⟩
      · have h6':(p.aK == e)=false:=by simpa using h6
        simp only [kP,oO,h6',dU,bE,if_false,hp,aG]
        by_cases h7:p.Seen=2
        · simp only [h7,beq_self_eq_true,if_true,show ¬((2:Int) < 2) by omega,decide_false,bE,if_false]
          exact⟨_,rfl,rfl,hc.aGG ⟨h1,by simp,fun q=>by simp [h4] at q⟩,rfl⟩
        · have h7':(p.Seen == 2)=false:=by simpa using h7
          simp only [h7',show p.Seen < 2 by omega,decide_true,if_true,bE,if_false]
          have hw7:aV (p.Seen+1)=p.Seen+1:=aM (by omega) (by omega)
          exact⟨_,rfl,rfl,hc.aGG ⟨h1,by simp only [hw7];omega,fun q=>by simp [h4] at q⟩,rfl⟩
    · exact⟨_,rfl,rfl,hc,rfl⟩
theorem aH3(e:Int):∃r,xM c w e=some r∧LH c w e=some r∧(JK r.1∧r.1.aK=c.aK)∧(r.2=false→r.1=c):=by
  obtain⟨p,hp,hpk⟩:=aJV hc hw
  have h3:=hc.2.1
  unfold xM LH
  rw [kC hc.small.1,wE hc.small.1,gX,qT hc.small.2,iY,bR,bR,eC,bD hc,bD hw]
  simp only [aG,dU,bE,if_false,q8,v9,hp]
  by_cases h:0≤e∧e≤c.aK
  · simp only [bD h,dU,bE,if_false]
    exact⟨_,rfl,rfl,⟨hc.aGG ⟨h,by simp,fun q=>by cases q⟩,rfl⟩,fun q=>by cases q⟩
  · simp only [bN h,rX,if_true]
    exact⟨_,rfl,rfl,⟨hc,rfl⟩,fun _=>rfl⟩
omit hw in
theorem aL9(e:Int):∃r,BI c e=some r∧QA c e=some r∧JK r.1∧c.aK≤r.1.aK:=by
  have h3:=hc.2.1
  unfold BI QA
  rw [kC hc.small.1,wE hc.small.1,gX,qT hc.small.2,bD hc]
  simp only [aG,dU,bE,if_false,t9,AM]
  by_cases h:c.aK=e
  · subst h
    simp only [bne_self_eq_false,bE,if_false]
    by_cases h:c.aK=100000
    · simp only [h,beq_self_eq_true,if_true];exact⟨_,rfl,rfl,hc,by simp [h]⟩
    · have h':(c.aK == 100000)=false:=by simpa using h
      have hE:=hc.1
      have hw7:aV (c.aK+1)=c.aK+1:=aM (by omega) (by omega)
      simp only [h',bE,if_false,hw7];exact⟨_,rfl,rfl,hc.aYX (by omega),by simp only;omega⟩
  · have h':(c.aK != e)=true:=by simpa using h
    simp only [h',if_true];exact⟨_,rfl,rfl,hc,Int.le_refl _⟩
end
theorem aWV{b:aE}(hc:JK b.aI){w:Int}(hw:0≤w∧w≤2)(s:Sub) :
    ∃x y,yS b w s=some (x,y)∧uL s b w=some (y,x)∧∃cl,x=⟨b.Mem,cl,b.aR,b.fW⟩∧JK cl∧b.aI.aK≤cl.aK:=by
  obtain⟨r,e1,e2,h3,h4⟩:=aH3 hc hw s.E
  unfold yS uL
  rw [e1,e2]
  simp only [bH,bA,vD,aG]
  by_cases p0:s.Pc=0
  · simp only [p0,beq_self_eq_true,if_true];exact⟨_,_,rfl,rfl,_,rfl,hc,by omega⟩
  · have p0':(s.Pc == 0)=false:=by simpa using p0
    simp only [p0',bE,if_false]
    by_cases p1:s.Pc=1
    · simp only [p1,beq_self_eq_true,if_true]
      cases h:r.2
      · rw [h4 h];exact⟨_,_,rfl,rfl,_,rfl,hc,by omega⟩
      · exact⟨_,_,rfl,rfl,_,rfl,h3.1,by rw [h3.2];exact Int.le_refl _⟩
    · have p1':(s.Pc == 1)=false:=by simpa using p1
      simp only [p1',bE,if_false]
      by_cases p2:s.Pc=2
      · simp only [p2,beq_self_eq_true,if_true]
        by_cases q:b.aI.aK=s.E
        · simp only [q,beq_self_eq_true,if_true];exact⟨_,_,rfl,rfl,_,rfl,hc,by omega⟩
        · have q':(b.aI.aK == s.E)=false:=by simpa using q
          simp only [q',bE,if_false];exact⟨_,_,rfl,rfl,_,rfl,hc,by omega⟩
      · have p2':(s.Pc == 2)=false:=by simpa using p2
        simp only [p2',bE,if_false];exact⟨_,_,rfl,rfl,_,rfl,hc,by omega⟩
theorem aJW{b:aE}(hc:JK b.aI)(s:Sub) :
    ∃x y,lP b s=some (x,y)∧mG s b=some (y,x)∧∃cl,x=⟨b.Mem,cl,b.aR,b.fW⟩∧JK cl∧b.aI.aK≤cl.aK:=by
  obtain⟨r2,e3,e4,h4⟩:=aL9 hc s.E
  unfold lP mG i9
  rw [e3,e4,bR,iY]
  simp only [bH,bA,kQ,kR,i7,aG]
  by_cases p0:s.Pc=0
  · simp only [p0,beq_self_eq_true,if_true];exact⟨_,_,rfl,rfl,_,rfl,hc,by omega⟩
  · have p0':(s.Pc == 0)=false:=by simpa using p0
    simp only [p0',bE,if_false]
    by_cases p1:s.Pc=1
    · simp only [p1,beq_self_eq_true,if_true,show((1:Int) == 2)=false from rfl,bE,if_false]
      by_cases hB:0≤s.B∧s.B≤2
      · obtain⟨r,e1,e2,h3,h3'⟩:=aEQ hc hB s.E
        simp only [bD hB,dU,bE,if_false,if_true,e1,e2,aG]
        cases h:r.2
        · exact⟨_,_,rfl,rfl,_,rfl,h3,by rw [h3'];exact Int.le_refl _⟩
        · by_cases q:aV (s.B+1)=3
          · simp only [q,beq_self_eq_true,if_true,dU,bE,if_false];exact⟨_,_,rfl,rfl,_,rfl,h3,by rw [h3'];exact Int.le_refl _⟩
          · have q':(aV (s.B+1) == 3)=false:=by simpa using q
            simp only [q',dU,bE,if_false];exact⟨_,_,rfl,rfl,_,rfl,h3,by rw [h3'];exact Int.le_refl _⟩
      · simp only [bN hB,rX,bE,if_false,if_true]
        exact⟨_,_,rfl,rfl,_,rfl,hc,by omega⟩
    · have p1':(s.Pc == 1)=false:=by simpa using p1
      simp only [p1',bE,if_false]
      by_cases p2:s.Pc=2
      · simp only [p2,beq_self_eq_true,if_true]
        cases h:r2.2
        · simp only [bE,if_false];exact⟨_,_,rfl,rfl,_,rfl,h4⟩
        · simp only [if_true];exact⟨_,_,rfl,rfl,_,rfl,h4⟩
      · have p2':(s.Pc == 2)=false:=by simpa using p2
        simp only [p2',bE,if_false];exact⟨_,_,rfl,rfl,_,rfl,hc,by omega⟩
end Go.Gv
end
noncomputable section
namespace Go.Gv
theorem aJX:∀(n:Nat) (l:List Int),l.Nodup→(∀x∈l,0≤x∧x < (n:Int))→l.length≤n
  | 0, l, _, h => by
    cases l with
    | nil=>simp
    | cons a t=>have:=h a (by simp);omega
  | n + 1, l, hn, h => by
    have ih:=aJX n (l.erase (n:Int)) (hn.erase _) (fun x hx=>by
      have h1:=(hn.mem_erase_iff).1 hx
      have h2:=h x h1.2
      have:=h1.1
      omega)
    have:=List.length_erase (a:=(n:Int)) (l:=l)
    split at this <;> omega
theorem aGH(a b:List aP):a9 (a++b)=a9 a++a9 b:=by simp [a9]
theorem T3(a b:List aC):bX (a++b)=bX a++bX b:=by simp [bX]
theorem CB{l:List aP}{k:Nat}(hk:k < l.length)(x:aP):a9 (l.set k x)=a9 (l.take k)++(x.Rows++a9 (l.drop (k+1))):=by
  rw [List.set_eq_take_append_cons_drop,if_pos hk,aGH];simp [a9]
theorem y5{l:List aP}{k:Nat}(hk:k < l.length):a9 l=a9 (l.take k)++(l[k].Rows++a9 (l.drop (k+1))):=by
  conv=>lhs;rw [←List.set_getElem_self hk,CB hk]
theorem CC{l:List aC}{k:Nat}(hk:k < l.length)(x:aC):bX (l.set k x)=bX (l.take k)++(x.aJ++bX (l.drop (k+1))):=by
  rw [List.set_eq_take_append_cons_drop,if_pos hk,T3];simp [bX]
theorem y6{l:List aC}{k:Nat}(hk:k < l.length):bX l=bX (l.take k)++(l[k].aJ++bX (l.drop (k+1))):=by
  conv=>lhs;rw [←List.set_getElem_self hk,CC hk]
def T4(l:List aP)(s:Int):Prop:=∃r∈a9 l,pS r.Handle∧r.Handle % 32=s
instance (l:List aP) (s:Int):Decidable (T4 l s):=by unfold T4;infer_instance
noncomputable section
variable {l:List aP} (hl:mX l)
include hl
theorem mX.small:(a9 l).length≤1073741824∧l.length≤maxLen∧l.length≤1048576∧∀s∈l,s.Rows.length≤24:=by
  have:=hl.1;have h2:=hl.2.1
  refine⟨by omega,by simp only [maxLen];omega,by omega,fun s hs=>?_⟩
  have:=FY hs;omega
theorem NJ(s:Int):FD l s=some (decide (T4 l s)):=by
  have hm:=hl.small
  unfold FD
  rw [HE hm.1 hm.2.1,aG]
  have key:=oV (f:=lO s (a9 l)) (a9 l) (fun k=>(k:Int)) (fun r=>¬(pS r.Handle∧r.Handle % 32=s)) (Out.brk ()) (Out.ret true)
    (fun k hk hp=>by
      have hk':=hl.2.1
      simp only [lO,qE]
      rw [if_pos (by simp;omega),aU hk,jR (show k < maxLen by simp only [maxLen];omega)]
      simp only [aG,iA,dJ]
      by_cases q:pS (a9 l)[k].Handle
      · have:((a9 l)[k].Handle % 32 == s)=false:=by simpa using fun a=>hp ⟨q,a⟩
        simp [q,this]
      · simp [q])
    (fun k hk hp=>by
      have hp:=Classical.not_not.1 hp
      simp only [lO,qE]
      rw [if_pos (by simp;omega),aU hk]
      simp [iA,dJ,hp.1,hp.2])
    (by simp [lO])
  have key':loop (lO s (a9 l)) 0=_:=key
  rw [key']
  by_cases q:T4 l s
  · rw [if_neg (fun a=>by obtain⟨r,hr,e⟩:=q;exact a r hr e),bD q];rfl
  · rw [if_pos (fun r hr e=>q ⟨r,hr,e⟩),bN q];rfl
theorem YH(s:Int):FO l s=some (decide (T4 l s)):=by
  have hm:=hl.small
  unfold FO
  have e1:∀(r:bC),oN r s=some (decide (pS r.Handle∧r.Handle % 32=s)):=by
    intro r
    unfold oN m9
    rw [oY]
    by_cases q:pS r.Handle
    · rw [q.mod.1];simp [q];rfl
    · simp [q]
  have e2:∀x∈l,AK x s=some (x.Rows.any fun r=>decide (pS r.Handle∧r.Handle % 32=s)):=by
    intro x hx
    unfold AK
    have:x.Rows.length≤maxLen:=by have:=hm.2.2.2 x hx;simp only [maxLen];omega
    rw [show(fun y0=>oN y0 s)=fun r=>some (decide (pS r.Handle∧r.Handle % 32=s)) from funext e1,RQ this];rfl
  rw [PH hm.2.1 (fun x=>x.Rows.any fun r=>decide (pS r.Handle∧r.Handle % 32=s)) _ e2]
  simp only [aG]
  congr 1
  rw [Bool.eq_iff_iff,decide_eq_true_iff]
  simp only [List.any_eq_true,decide_eq_true_eq,T4,a9,List.mem_flatMap]
  constructor
  · rintro⟨x,hx,r,hr,h⟩;exact⟨r,⟨x,hx,hr⟩,h⟩
  · rintro⟨r,⟨x,hx,hr⟩,h⟩;exact⟨x,hx,r,hr,h⟩
theorem mX.more{k:Nat}(hk:k < l.length){r:bC}(hr:wD r)(hn:¬T4 l (r.Handle % 32)):mX (l.set k ⟨l[k].Rows ++ [r]⟩):=by
  have e:=CB hk (⟨l[k].Rows ++ [r]⟩:aP)
  have p:(a9 (l.set k ⟨l[k].Rows ++ [r]⟩)).Perm (r :: a9 l):=by
    rw [e,y5 hk]
    refine List.Perm.trans ?_ List.perm_middle
    simp only [List.append_assoc]
    exact List.Perm.append_left _ (by simp only [List.singleton_append];exact(List.perm_middle (l₁:=l[k].Rows) (l₂:=a9 (l.drop (k+1))) (a:=r)))
  have h1:∀x∈a9 (l.set k ⟨l[k].Rows ++ [r]⟩),wD x:=fun x hx=>by
    rcases List.mem_cons.1 (p.mem_iff.1 hx) with rfl | h
    · exact hr
    · exact hl.2.2.1 x h
  have h2:((a9 (l.set k ⟨l[k].Rows ++ [r]⟩)).map lA).Nodup:=by
    refine(List.Perm.nodup_iff (p.map lA)).2 ?_
    rw [List.map_cons,List.nodup_cons]
    refine⟨fun h=>hn ?_,hl.2.2.2⟩
    obtain⟨x,hx,e⟩:=List.mem_map.1 h
    exact⟨x,hx,(hl.2.2.1 x hx).1,e⟩
  refine⟨by simpa using hl.1,?_,h1,h2⟩
  have:=aJX 24 _ h2 (fun x hx=>by
    obtain⟨y,hy,rfl⟩:=List.mem_map.1 hx
    have:=(h1 y hy).1.mod
    unfold lA;omega)
  simpa using this
end
theorem aM6{b:aE}(hb:eN b)(hs:tK b){w:Int}(hw:0≤w∧w≤2)(s:Sub) :
    ∃x y,nM b w s=some (x,y)∧nA s b w=some (y,x)∧∃L,x=⟨b.Mem,b.aI,L,b.fW⟩∧mX L∧∀r∈a9 L,uS b r:=by
  have hL:=hb.1.2.2.1
  have hm:=hb.1.1
  have hlen:w.toNat < b.aR.length:=by have:=hL.1;omega
  have hx:idx b.aR w=some b.aR[w.toNat]:=fY hw.1 (by omega)
  have hg:b.Mem.aA.Global.length≤maxLen:=by rw [hm.1.2.1];simp [maxLen]
  have ho:b.Mem.aA.bB.length≤maxLen:=by rw [hm.1.2.2.1];simp [maxLen]
  have hall:(cK b.Mem.aA).length≤1073741824:=by have:=hs.1.2.2.2.2;omega
  have hrow:=hL.small.2.2.2 _ (List.getElem_mem hlen)
  have he:=hb.1.2.1.1
  unfold nM nA jY
  rw [bR,eC,lX hm.1.1.1 hall hg ho,HF hm.1.1.1 hall hg ho,dJ]
  simp only [bH,bA,aG,l8,rP,jX]
  by_cases p0:s.Pc=0
  · simp only [p0,beq_self_eq_true,if_true];exact⟨_,_,rfl,rfl,_,rfl,hL,hb.2⟩
  · have p0' : (s.Pc == 0) = false := by simpa using p0
    simp only [p0',bE,if_false]
    by_cases p1:s.Pc=1
    · simp only [p1,beq_self_eq_true,bne_self_eq_false,bE,if_false,if_true]
      by_cases q1:0≤s.E∧s.E≤b.aI.aK
      · simp only [bD q1,dU,bE,if_false]
        by_cases q2:mY b.Mem s.A
        · have hh:=q2.1
          simp only [bD q2,dU,bE,if_false,if_pos hh,hh.mod.1,NJ hL,YH hL,aG]
          by_cases q3:T4 b.aR (s.A % 32)
          · simp only [bD q3,if_true];exact⟨_,_,rfl,rfl,_,rfl,hL,hb.2⟩
          · have hmore:=hL.more hlen (r:=⟨s.A,s.E⟩) ⟨hh,q1.1,by simp only;omega⟩ q3
            have e:C5 b.aR w s.A s.E=some (b.aR.set w.toNat ⟨b.aR[w.toNat].Rows ++ [⟨s.A,s.E⟩]⟩,true):=by
              unfold C5 uJ
              rw [xH hL.small.1,iY,JO hL.small.2.2.1 (fun s h=>by have:=hL.small.2.2.2 s h;omega)]
              simp only [bD hL,bD hw,aG,dU,bE,if_false,hx]
              rw [aL (by simp;omega),xH hmore.small.1,bD hmore];rfl
            simp only [bN q3,bE,if_false,hx,e,aG]
            rw [aL (by simp;omega)]
            refine⟨_,_,rfl,rfl,_,rfl,hmore,fun r hr=>?_⟩
            rw [CB hlen] at hr
            have hsp:=y5 hlen
            rcases List.mem_append.1 hr with h | h
            · exact hb.2 r (by rw [hsp];exact List.mem_append_left _ h)
            · rcases List.mem_append.1 h with h | h
              · rcases List.mem_append.1 h with h | h
                · exact hb.2 r (by rw [hsp];exact List.mem_append_right _ (List.mem_append_left _ h))
                · simp at h;subst h;exact⟨q2,q1.2⟩
              · exact hb.2 r (by rw [hsp];exact List.mem_append_right _ (List.mem_append_right _ h))
        · simp only [bN q2,rX,if_true];exact⟨_,_,rfl,rfl,_,rfl,hL,hb.2⟩
      · simp only [bN q1,rX,if_true];exact⟨_,_,rfl,rfl,_,rfl,hL,hb.2⟩
    · have p1':(s.Pc == 1)=false:=by simpa using p1
      have p1'':(s.Pc != 1)=true:=by simpa using p1
      simp only [p1',p1'',bE,if_false,if_true];exact⟨_,_,rfl,rfl,_,rfl,hL,hb.2⟩
end Go.Gv
end
noncomputable section
namespace Go.Gv
def st4(b:List Int)(a:Nat)(n:Int):List Int:=(((b.set a 0).set (a+1) 0).set (a+2) 0).set (a+3) n
theorem DI(b:List Int)(a:Nat)(n:Int):(st4 b a n).length=b.length:=by simp [st4]
theorem aH4{b:List Int}(h:qS b)(a:Nat){n:Int}(hn:0≤n∧n≤255):qS (st4 b a n):=by
  have key:∀{l:List Int} (i:Nat) (v:Int),qS l→0≤v∧v≤255→qS (l.set i v):=fun i v hl hv x hx=>by
    rcases List.mem_or_eq_of_mem_set hx with h | rfl
    · exact hl x h
    · exact hv
  exact key _ _ (key _ _ (key _ _ (key _ _ h (by omega)) (by omega)) (by omega)) hn
theorem aQ9{n:Int}(hn:0≤n∧n≤255):((u8 n).toNat:Int)=n:=by
  obtain⟨m,rfl⟩:=Int.eq_ofNat_of_zero_le hn.1
  unfold u8
  rw [UInt8.toNat_ofNat'];omega
theorem T5{l:List Int}(i:Nat){v:Int}(hl:qS l)(hv:0≤v∧v≤255):qS (l.set i v):=fun x hx=>by
  rcases List.mem_or_eq_of_mem_set hx with h | rfl
  · exact hl x h
  · exact hv
def JQ(b:List Int)(a:Nat)(n:Int):List Int:=(((b.set a (n / 16777216)).set (a+1) (n / 65536 % 256)).set (a+2) (n / 256 % 256)).set (a+3) (n % 256)
theorem T6(b:List Int)(a:Nat)(n:Int):(JQ b a n).length=b.length:=by simp [JQ]
theorem aM7{b:List Int}(h:qS b)(a:Nat){n:Int}(hn:0≤n∧n≤4294967295):qS (JQ b a n):=by
  unfold JQ
  exact T5 _ (T5 _ (T5 _ (T5 _ h (by omega)) (by omega)) (by omega)) (by omega)
theorem aM8(b:List Int)(a:Nat)(x y z u:Int):(((b.set (a+3) u).set (a+2) z).set (a+1) y).set a x=(((b.set a x).set (a+1) y).set (a+2) z).set (a+3) u:=by
  refine List.ext_getElem (by simp) fun j h1 h2=>?_
  simp only [List.getElem_set]
  by_cases j0:a=j
  · subst j0;simp
  · by_cases j1:a+1=j
    · subst j1;simp
    · by_cases j2:a+2=j
      · subst j2;simp
      · by_cases j3:a+3=j
        · subst j3;simp
        · simp [j0,j1,j2,j3]
theorem aER{b:List Int}{a:Nat}(h:a+4≤b.length)(hl:b.length≤100000){n:Int}(hn:0≤n∧n≤4294967295):iF b (a:Int) 4 n=some (JQ b a n):=by
  have st:∀(c:List Int) (m:Int) (i:Nat),c.length=b.length→0≤m→m≤4294967295→i < 4→p9 (a:Int) (c,m,(i:Int))=some (.next (c.set (a+i) (m % 256),m / 256,(i:Int) - 1)):=fun c m i hc h0 h1 hi=>by
    simp only [p9]
    rw [if_pos (by simp),aM (x:=(a:Int)+i) (by omega) (by omega),show(a:Int)+i=((a+i:Nat):Int) by omega,aU (by omega),aG,oW h0,A0 h0,aM (x:=m / 256) (by omega) (by omega),aM (x:=(i:Int) - 1) (by omega) (by omega),Int.toNat_natCast]
  unfold iF
  rw [show aV (4 - 1)=((3:Nat):Int) from by rw [aM (by omega) (by omega)];rfl]
  rw [bT (st b n 3 rfl hn.1 hn.2 (by omega)),show((3:Nat):Int) - 1=((2:Nat):Int) by rfl,
    bT (st _ _ 2 (by simp) (by omega) (by omega) (by omega)),show((2:Nat):Int) - 1=((1:Nat):Int) by rfl,
    bT (st _ _ 1 (by simp) (by omega) (by omega) (by omega)),show((1:Nat):Int) - 1=((0:Nat):Int) by rfl,
    bT (st _ _ 0 (by simp) (by omega) (by omega) (by omega)),bK (r:=JQ b a n)]
  · rfl
  · simp only [p9]
    rw [if_neg (by simp)]
    have e1:n / 256 / 256=n / 65536:=by omega
    have e2:n / 256 / 256 / 256=n / 16777216:=by omega
    have e3:n / 16777216 % 256=n / 16777216:=by omega
    rw [e1,show n / 65536 / 256=n / 16777216 by omega,e3]
    unfold JQ
    simp only [Nat.add_zero]
    rw [aM8]
def RS(n:Int):List UInt8:=[u8 (n / 16777216),u8 (n / 65536),u8 (n / 256),u8 n]
theorem aBY{n:Int}(hn:0≤n∧n≤4294967295):yF n 4=some (RS n):=by
  have hw:pN 4=some true:=by unfold pN;rw [eC];rfl
  unfold yF
  rw [hw]
  have e1:IntKind.u64.wrap (aV (8 * 4))=32:=by decide
  have e2:QU .i64 1 32=4294967296:=by decide
  simp only [aG,dU,bE,if_false,e1,e2]
  rw [if_neg (by simp;omega),aL (by omega),bN (by omega)]
  simp only [v7,bE,if_false]
  rw [aL (by omega),show aV (4 - 1)=((3:Nat):Int) from by rw [aM (by omega) (by omega)];rfl]
  have st:∀(m:Int) (c:List UInt8) (i:Nat),i < c.length→i < 4→0≤m→C1 (m,c,(i:Int))=some (.next (m / 256,c.set i (u8 m),(i:Int) - 1)):=fun m c i hc hi h0=>by
    simp only [C1]
    rw [if_pos (by simp),aU hc,aG,show(8:Int)=((8:Nat):Int) from rfl,aL3 h0 (by omega),aM (by omega) (by omega),Int.toNat_natCast];rfl
  rw [bT (st n _ 3 (by simp) (by omega) hn.1),show((3:Nat):Int) - 1=((2:Nat):Int) by rfl,
    bT (st _ _ 2 (by simp) (by omega) (by omega)),show((2:Nat):Int) - 1=((1:Nat):Int) by rfl,
    bT (st _ _ 1 (by simp) (by omega) (by omega)),show((1:Nat):Int) - 1=((0:Nat):Int) by rfl,
    bT (st _ _ 0 (by simp) (by omega) (by omega)),bK (r:=RS n)]
  · rfl
  · simp only [C1]
    rw [if_neg (by simp)]
    have e1:n / 256 / 256=n / 65536:=by omega
    rw [e1,show n / 65536 / 256=n / 16777216 by omega]
    rfl
theorem aGI{n:Int}(hn:0≤n):((u8 n).toNat:Int)=n % 256:=by
  have:u8 n=u8 (n % 256):=by
    unfold u8
    congr 1
    omega
  rw [this,aQ9 (by omega)]
theorem aBZ{b:List Int}{a:Nat}(h:a+4≤b.length)(hl:b.length≤100000){n:Int}(hn:0≤n∧n≤4294967295):tC b (a:Int) (RS n)=some (JQ b a n):=by
  have st:∀(c:List Int) (i:Nat) (v:UInt8),c.length=b.length→i < 4→idx (RS n) (i:Int)=some v→AI b (a:Int) (RS n) (c,(i:Int))=some (.next (c.set (a+i) (v.toNat:Int),((i+1:Nat):Int))):=fun c i v hc hi hv=>by
    simp only [AI]
    rw [aL hc,if_pos (by simp [RS];omega),hv,aG,aM (x:=(a:Int)+i) (by omega) (by omega),show(a:Int)+i=((a+i:Nat):Int) by omega,aU (by omega),aG,aM (by omega) (by omega),Int.toNat_natCast];rfl
  unfold tC
  rw [show(0:Int)=((0:Nat):Int) from rfl,bT (st b 0 _ rfl (by omega) rfl),bT (st _ 1 _ (by simp) (by omega) rfl),bT (st _ 2 _ (by simp) (by omega) rfl),bT (st _ 3 _ (by simp) (by omega) rfl),bK (r:=JQ b a n)]
  · simp only [aG,OQ,OO]
    rw [aL (T6 b a n)]
  · simp only [AI]
    rw [aL (by simp),if_neg (by simp [RS])]
    simp only [aGI hn.1,aGI (show 0≤n / 16777216 by omega),aGI (show 0≤n / 65536 by omega),aGI (show 0≤n / 256 by omega)]
    rw [show n / 16777216 % 256=n / 16777216 by omega]
    rfl
theorem aRA{b:List Int}{a:Nat}{n:Int}(hn:0≤n∧n≤255):JQ b a n=st4 b a n:=by
  unfold JQ st4
  rw [show n / 16777216=0 by omega,show n / 65536 % 256=0 by omega,show n / 256 % 256=0 by omega,show n % 256=n by omega]
theorem ER{b:List Int}{a:Nat}(h:a+4≤b.length)(hl:b.length≤100000){n:Int}(hn:0≤n∧n≤255):iF b (a:Int) 4 n=some (st4 b a n):=by
  rw [aER h hl ⟨hn.1,by omega⟩,aRA hn]
theorem aYY{n:Int}(hn:0≤n∧n≤255):RS n=[0,0,0,u8 n]:=by
  unfold RS
  rw [show n / 16777216=0 by omega,show n / 65536=0 by omega,show n / 256=0 by omega];rfl
theorem RT{n:Int}(hn:0≤n∧n≤255):yF n 4=some [0,0,0,u8 n]:=by
  rw [aBY ⟨hn.1,by omega⟩,aYY hn]
theorem PK{b:List Int}{a:Nat}(h:a+4≤b.length)(hl:b.length≤100000){n:Int}(hn:0≤n∧n≤255):tC b (a:Int) [0,0,0,u8 n]=some (st4 b a n):=by
  rw [←aYY hn,aBZ h hl ⟨hn.1,by omega⟩,aRA hn]
end Go.Gv
end
noncomputable section
namespace Go.Gv
theorem aUT{x y z:Int}:∀(a:Nat) (l:List Int),a+3≤l.length→c9 l a [x,y,z]=((l.set a x).set (a+1) y).set (a+2) z
  | 0, l, h => by
    match l,h with
    | _ :: _ :: _ :: t,_=>simp [c9]
  | a + 1, l, h => by
    match l,h with
    | u :: t, h =>
      have ih:=aUT (x:=x) (y:=y) (z:=z) a t (by simp at h;omega)
      simp only [List.set_cons_succ,←ih]
      simp [c9,Nat.add_right_comm]
def aRB(p k:Nat)(c:Int):Nat:=(e9 ((p:Int) * 4+k) c).toNat
def gB(b:List Int)(p:Nat)(c:Int):Nat→List Int
  | 0=>((b.set (p * 64) 171).set (p * 64+1) c).set (p * 64+2) (b7 c)
  | k+1=>st4 (gB b p c k) (aRB p k c) 1
theorem HH(b:List Int)(p:Nat)(c:Int):∀k,(gB b p c k).length=b.length
  | 0=>by simp [gB]
  | k+1=>by rw [gB,DI,HH b p c k]
theorem aB0{l:List Int}(i:Nat){v:Int}(hl:qS l)(hv:0≤v∧v≤255):qS (l.set i v):=fun x hx=>by
  rcases List.mem_or_eq_of_mem_set hx with h | rfl
  · exact hl x h
  · exact hv
theorem aGJ{b:List Int}(hb:qS b)(p:Nat){c:Int}(hc:0≤c∧c≤2):∀k,qS (gB b p c k)
  | 0 => by
    have:=jZ c
    exact aB0 _ (aB0 _ (aB0 _ hb (by omega)) (by omega)) (by omega)
  | k+1=>aH4 (aGJ hb p hc k) _ (by omega)
def gS(p:Nat)(n:Nat):List Int:=(List.range n).map fun(i:Nat)=>(p:Int) * 4+(i:Int)
theorem HI(p n:Nat):(gS p n).length=n:=by simp [gS]
theorem aMA(p n:Nat):gS p (n+1)=gS p n ++ [(p:Int) * 4+(n:Int)]:=by simp [gS,List.range_succ]
theorem aGK{p k:Nat}{c:Int}(hp:p < 6)(hk:(k:Int) < b7 c):e9 ((p:Int) * 4+k) c=(aRB p k c:Int)∧aRB p k c+4≤384:=by
  have h4:=jZ c
  have hm:=G9 (c:=c) (i:=(k:Int)) (by omega) hk
  have hst:4≤aW c:=by
    have:0≤c∧c≤2:=iV.1 (by omega)
    rcases e7 this with e | e | e <;> rw [e] <;> decide
  have e:e9 ((p:Int) * 4+k) c=(p:Int) * 64+8+(k:Int) * aW c:=by
    unfold e9
    rw [if_pos ⟨by omega,by omega⟩,show((p:Int) * 4+k) / 4=p by omega,show((p:Int) * 4+k) % 4=k by omega]
  unfold aRB
  rw [e];omega
theorem aES{p k:Nat}(hp:p < 6)(hk:k < 4):oZ (p:Int) (k:Int)=some ((p:Int) * 4+k)∧IK (p:Int) (k:Int)=some ((p:Int) * 4+k):=by
  have a:0≤(p:Int)∧(p:Int)≤5:=by omega
  have b:0≤(k:Int)∧(k:Int)≤3:=by omega
  have e1:aV ((p:Int) * 4)=(p:Int) * 4:=aM (by omega) (by omega)
  have e2:aV ((p:Int) * 4+k)=(p:Int) * 4+k:=aM (by omega) (by omega)
  constructor
  · unfold oZ sA;rw [bR,bR,bD a,bD b,e1,e2];rfl
  · unfold IK AJ;rw [eC,eC,bD a,bD b,e1,e2];rfl
noncomputable section
variable {b:List Int} (hb:b.length=384) {p:Nat} (hp:p < 6) {c:Int} (hc:0≤c∧c≤2)
include hb hp hc
theorem aB1:loop (wJ c (p:Int)) ([],0,gB b p c 0)=some (gS p (b7 c).toNat,gB b p c (b7 c).toNat):=by
  have h4:=jZ c
  refine cM (b7 c).toNat (fun k=>(gS p k,(k:Int),gB b p c k)) _ (fun k hk=>?_) ?_
  · have ho:=aGK (c:=c) hp (k:=k) (by omega)
    simp only [wJ,D7,eW,aG]
    rw [if_pos (by simp;omega),(aES hp (by omega)).1]
    simp only [aG,mV,ho.1]
    rw [ER (by rw [HH];omega) (by rw [HH];omega) (by omega)]
    simp only [aG]
    rw [aL (by rw [HI];simp;omega),aM (by omega) (by omega),aMA];rfl
  · simp only [wJ,eW,aG]
    rw [if_neg (by simp;omega)]
theorem aJY:loop (C3 c (p:Int) (b7 c)) ([],0,gB b p c 0)=some (gS p (b7 c).toNat,gB b p c (b7 c).toNat):=by
  have h4:=jZ c
  refine cM (b7 c).toNat (fun k=>(gS p k,(k:Int),gB b p c k)) _ (fun k hk=>?_) ?_
  · have ho:=aGK (c:=c) hp (k:=k) (by omega)
    simp only [C3,I5]
    rw [if_pos (by simp;omega),(aES hp (by omega)).2]
    simp only [aG,wB,ho.1]
    rw [RT (by omega),aG,PK (by rw [HH];omega) (by rw [HH];omega) (by omega)]
    simp only [aG]
    rw [aL (by rw [HI];simp;omega),aM (by omega) (by omega),aMA];rfl
  · simp only [C3]
    rw [if_neg (by simp;omega)]
end
theorem aH5{h:aB}(hh:SM h){c:Int}(hc:0≤c∧c≤2) :
    (jT h c=some (h,[])∧B9 h c=some (h,[])) ∨
    ∃p,p < 6∧bV h p < 0∧jT h c=some (⟨gB h.Bytes p c (b7 c).toNat,h.Class.set p c⟩,gS p (b7 c).toNat)∧B9 h c=some (⟨gB h.Bytes p c (b7 c).toNat,h.Class.set p c⟩,gS p (b7 c).toNat):=by
  have hs:=hh.1
  have h6:=hs.2.1
  have h384:=hs.1
  have hp4:=jZ c
  have hcp:=LW (h:=h) (by omega) (by omega)
  have hne:∀j (hj:j < 6),j < h.Class.findIdx (fun x=>decide (x = -1))→h.Class[j]≠-1:=fun j hj hlt=>by
    have:=List.not_of_lt_findIdx hlt
    simpa using this
  generalize hq:h.Class.findIdx (fun x=>decide (x = -1))=q at hne
  have hq6:q≤6:=by rw [←hq,←h6];exact List.findIdx_le_length
  have s1:∀k (hk:k < q),dP h c (k:Int)=some (.next ((k+1:Nat):Int)):=fun k hk=>by
    have:=hne k (by omega) hk
    have n:(h.Class[k] != -1)=true:=by simpa using this
    simp only [dP,wI]
    rw [if_pos (by simp;omega),aU (by omega),aG,n,if_pos rfl,aM (by omega) (by omega)];rfl
  have s2:∀k (hk:k < q),dO h.Class (-1) (k:Int)=some (.next ((k+1:Nat):Int)):=fun k hk=>by
    have:=hne k (by omega) hk
    have n:((-1:Int) == h.Class[k])=false:=by simpa using fun a=>this a.symm
    simp only [dO]
    rw [if_pos (by simp;omega),aU (by omega),aG,n,aM (by omega) (by omega)];rfl
  have hm:h.Bytes.length≤maxLen:=by rw [h384];simp [maxLen]
  by_cases h5:q=6
  · left
    have a1:loop (dP h c) 0=some (Out.brk ()):=cM q (fun k=>(k:Int)) _ s1 (by simp only [dP];rw [if_neg (by simp;omega)])
    have a2:loop (dO h.Class (-1)) 0=some (Out.brk ()):=cM q (fun k=>(k:Int)) _ s2 (by simp only [dO];rw [if_neg (by simp;omega)])
    constructor
    · unfold jT;rw [a1];rfl
    · unfold B9 kJ
      rw [a2,hcp,HC hm,gU,bD hh,bD hc];rfl
  · right
    have hq5:q < 6:=by omega
    have he:h.Class[q] = -1:=by
      have:=List.findIdx_getElem (xs:=h.Class) (p:=fun x=>decide (x = -1)) (w:=by rw [hq];omega)
      simp only [hq,decide_eq_true_eq] at this
      exact this
    refine⟨q,hq5,by rw [←QD hs hq5,he];omega,?_,?_⟩
    · have a1:loop (dP h c) 0=some (Out.ret (⟨gB h.Bytes q c (b7 c).toNat,h.Class.set q c⟩,gS q (b7 c).toNat)):=cM q (fun k=>(k:Int)) _ s1 (by
        have e0:aV ((q:Int) * 64)=((q * 64:Nat):Int):=by rw [aM (by omega) (by omega)];omega
        have e1:aV (((q * 64:Nat):Int)+1)=((q * 64+1:Nat):Int):=by rw [aM (by omega) (by omega)];omega
        have e2:aV (((q * 64:Nat):Int)+2)=((q * 64+2:Nat):Int):=by rw [aM (by omega) (by omega)];omega
        have n:(h.Class[q] != -1)=false:=by simpa using he
        simp only [dP,e0,e1,e2,Int.toNat_natCast]
        rw [if_pos (by simp;omega),aU (by omega),aG,n,if_neg (by simp),aU (by omega),aG,aU (by simp;omega),aG,eW,aG,aU (by simp;omega),aG]
        have:=aB1 h384 hq5 hc
        simp only [gB] at this
        rw [this];rfl)
      unfold jT;rw [a1];rfl
    · have a2:loop (dO h.Class (-1)) 0=some (Out.ret (q:Int)):=cM q (fun k=>(k:Int)) _ s2 (by
        have n:((-1:Int) == h.Class[q])=true:=by rw [he];rfl
        simp only [dO]
        rw [if_pos (by simp;omega),aU (by omega),aG,n];rfl)
      unfold B9 kJ
      rw [a2,hcp,HC hm,gU,bD hh,bD hc]
      have e0:aV ((q:Int) * 64)=((q * 64:Nat):Int):=by rw [aM (by omega) (by omega)];omega
      simp only [aG,m6,dU,bE,if_false,v8,e0,xE,I6,Int.toNat_natCast]
      rw [bN (by omega),if_neg (by simp),aU (by omega),aG,aL (by omega),aUT _ _ (by omega)]
      have:=aJY h384 hq5 hc
      simp only [gB] at this
      rw [this];rfl
theorem LOk.count{l:aA}(h:LOk l):(cK l).length≤24:=aJX 24 _ h.2.2.2.2 (fun x hx=>by have:=h.2.2.2.1 x hx;omega)
theorem aET{m:Mem}(hs:dW m.aB){s:Int}(hc:0≤bJ m.aB s):∃h,mL m s=some h∧C4 m s=some h:=by
  unfold mL C4 j7 I7 hU uI
  rw [mW hs hc,DF hs hc,aG,aG,bR,bR,tJ,eC]
  have h1:=(xF hc).1
  simp only [bD h1,aG,dU,bE,if_false]
  by_cases q:1≤j4 m.aB s∧j4 m.aB s≤6
  · simp only [bD q,dU,bE,if_false];exact⟨_,rfl,rfl⟩
  · simp only [bN q,rX,if_true];exact⟨_,rfl,rfl⟩
theorem CD{l:List aC}{k:Nat}(hk:k < l.length)(t:List Int):(bX (l.set k ⟨l[k].aJ++t⟩)).length=(bX l).length+t.length:=by
  rw [CC hk,y6 hk];simp;omega
end Go.Gv
end
noncomputable section
namespace Go.Gv
def bt(b:List Int)(i:Nat):Int:=b.getD i 0
theorem aB2{b:List Int}{i:Nat}(h:i < b.length):b[i]=bt b i:=by
  unfold bt;rw [List.getD_eq_getElem?_getD,List.getElem?_eq_getElem h];rfl
theorem ld4{b:List Int}{a:Nat}(h:a+4≤b.length):ld b a 4=((bt b a * 256+bt b (a+1)) * 256+bt b (a+2)) * 256+bt b (a+3):=by
  unfold ld
  rw [List.drop_eq_getElem_cons (by omega),List.drop_eq_getElem_cons (by omega),List.drop_eq_getElem_cons (by omega),List.drop_eq_getElem_cons (by omega)]
  simp only [List.take_succ_cons,List.take_zero,ldF,List.foldl_cons,List.foldl_nil,aB2 (b:=b) (i:=a) (by omega),aB2 (b:=b) (i:=a+1) (by omega),aB2 (b:=b) (i:=a+1+1) (by omega),aB2 (b:=b) (i:=a+1+1+1) (by omega)]
  simp only [Nat.add_assoc,Nat.reduceAdd];omega
theorem HJ{b:List Int}{i j:Nat}{v:Int}(hi:i < b.length):bt (b.set i v) j=if j=i then v else bt b j:=by
  unfold bt
  rw [List.getD_eq_getElem?_getD,List.getD_eq_getElem?_getD,List.getElem?_set]
  by_cases h:i=j
  · subst h;simp [hi]
  · have h':¬j=i:=fun q=>h q.symm
    simp [h,h']
theorem yH{b:List Int}{a:Nat}{n:Int}(h:a+4≤b.length)(j:Nat):bt (st4 b a n) j=if j=a+3 then n else if a≤j∧j < a+3 then 0 else bt b j:=by
  unfold st4
  rw [HJ (by simp;omega),HJ (by simp;omega),HJ (by simp;omega),HJ (by omega)]
  by_cases h1:j=a+3
  · simp [h1]
  · rw [if_neg h1,if_neg h1]
    by_cases h2:a≤j∧j < a+3
    · rw [if_pos h2]
      by_cases h3:j=a+2
      · simp [h3]
      · rw [if_neg h3]
        by_cases h4:j=a+1
        · simp [h4]
        · rw [if_neg h4,if_pos (by omega)]
    · rw [if_neg h2,if_neg (by omega),if_neg (by omega),if_neg (by omega)]
theorem aJZ{b:List Int}{a:Nat}{n:Int}(h:a+4≤b.length):ld (st4 b a n) a 4=n:=by
  rw [ld4 (by rw [DI];exact h),yH h,yH h,yH h,yH h,if_neg (by omega),if_pos (by omega),if_neg (by omega),if_pos (by omega),if_neg (by omega),if_pos (by omega),if_pos rfl]
  omega
theorem QG{b b':List Int}{a:Nat}(h:a+4≤b.length)(hl:b'.length=b.length)(hs:∀j,a≤j→j < a+4→bt b' j=bt b j):ld b' a 4=ld b a 4:=by
  rw [ld4 (by omega),ld4 h,hs a (by omega) (by omega),hs (a+1) (by omega) (by omega),hs (a+2) (by omega) (by omega),hs (a+3) (by omega) (by omega)]
def YI(h:aB)(p:Nat):Prop:=
  if bV h p < 0 then ∀k,k < 64→bt h.Bytes (p * 64+k)=0
  else ((bt h.Bytes (p * 64)=171∧bt h.Bytes (p * 64+1)=bV h p∧bt h.Bytes (p * 64+2)=b7 (bV h p))∧(∀k,3≤k→k < 8→bt h.Bytes (p * 64+k)=0)∧∀i,i < (b7 (bV h p)).toNat→1≤ld h.Bytes (p * 64+8+i * (aW (bV h p)).toNat) 4∧ld h.Bytes (p * 64+8+i * (aW (bV h p)).toNat) 4≤7)
theorem aEU{h:aB}(hs:dW h){p:Nat}(hp:p < 6){k:Nat}(hk:k < 64):(c8 h p).getD k 0=bt h.Bytes (p * 64+k):=by
  rw [←aEL hs hp hk,aB2 (by have:=hs.1;omega)]
theorem T7{l:List Int}{x:Int}:x∈l↔∃k,k < l.length∧l.getD k 0=x:=by
  rw [List.mem_iff_getElem]
  constructor
  · rintro⟨k,hk,e⟩
    exact⟨k,hk,by rw [List.getD_eq_getElem?_getD,List.getElem?_eq_getElem hk];exact e⟩
  · rintro⟨k,hk,e⟩
    exact⟨k,hk,by rw [List.getD_eq_getElem?_getD,List.getElem?_eq_getElem hk] at e;exact e⟩
theorem KW{h:aB}(hs:dW h){p:Nat}(hp:p < 6):k9 h p↔YI h p:=by
  unfold k9 YI
  have hl:=HB hs hp
  split
  · constructor
    · intro q k hk
      rw [←aEU hs hp hk]
      exact q _ (T7.2 ⟨k,by omega,rfl⟩)
    · intro q x hx
      obtain⟨k,hk,rfl⟩:=T7.1 hx
      rw [aEU hs hp (by omega)];exact q k (by omega)
  · rw [aEU hs hp (by omega),aEU hs hp (by omega),aEU hs hp (by omega)]
    have e:(∀x∈((c8 h p).drop 3).take 5,x=0)↔∀k,3≤k→k < 8→bt h.Bytes (p * 64+k)=0:=by
      have g:∀j,j < 5→(((c8 h p).drop 3).take 5).getD j 0=bt h.Bytes (p * 64+(3+j)):=fun j hj=>by
        rw [←aEU hs hp (by omega),List.getD_eq_getElem?_getD,List.getD_eq_getElem?_getD,List.getElem?_take,if_pos hj,List.getElem?_drop]
      constructor
      · intro q k h3 h8
        have:=q _ (T7.2 ⟨k - 3,by simp [hl];omega,rfl⟩)
        rw [g _ (by omega)] at this
        rw [show 3+(k - 3)=k by omega] at this;exact this
      · intro q x hx
        obtain⟨k,hk,rfl⟩:=T7.1 hx
        simp [hl] at hk
        rw [g _ hk];exact q _ (by omega) (by omega)
    rw [e];rfl
theorem YI.same{h h':aB}{p:Nat}(hp:p < 6)(hs:dW h)(hl:h'.Bytes.length=h.Bytes.length)(hc:bV h' p=bV h p)(hb:∀k,k < 64→bt h'.Bytes (p * 64+k)=bt h.Bytes (p * 64+k))(q:YI h p):YI h' p:=by
  have h1:=hs.1
  unfold YI at q ⊢
  rw [hc]
  split
  · rename_i q0;rw [if_pos q0] at q
    exact fun k hk=>by rw [hb k hk];exact q k hk
  · rename_i q0;rw [if_neg q0] at q
    obtain⟨⟨a1,a2,a3⟩,a4,a5⟩:=q
    have b0:=hb 0 (by omega);have b1:=hb 1 (by omega);have b2:=hb 2 (by omega)
    simp only [Nat.add_zero] at b0
    refine⟨⟨by rw [b0];exact a1,by rw [b1];exact a2,by rw [b2];exact a3⟩,fun k k3 k8=>by rw [hb k (by omega)];exact a4 k k3 k8,fun i hi=>?_⟩
    have hz:=uR hs hp (c:=bV h p) rfl hi
    rw [QG (b:=h.Bytes) (by omega) hl fun j j1 j2=>by
      have:=hb (j - p * 64) (by omega)
      rw [show p * 64+(j - p * 64)=j by omega] at this;exact this]
    exact a5 i hi
theorem D1{h:aB}{s:Int}(hc:0≤bJ h s):∃p i,p < 6∧i < (b7 (bV h p)).toNat∧s=(p:Int) * 4+i∧bJ h s=bV h p∧(e9 s (bJ h s)).toNat=p * 64+8+i * (aW (bV h p)).toNat∧(s / 4).toNat=p:=by
  obtain⟨h1,h2,h3⟩:=xF hc
  have hle:=jZ (bV h (s / 4).toNat)
  refine⟨(s / 4).toNat,(s % 4).toNat,by omega,by omega,by omega,h3,?_,rfl⟩
  rw [h3]
  unfold e9
  rw [if_pos ⟨h1,by omega⟩]
  have hst:=(SC (bV h (s / 4).toNat)).1
  have e:s % 4 * aW (bV h (s / 4).toNat)=(((s % 4).toNat * (aW (bV h (s / 4).toNat)).toNat:Nat):Int):=by
    rw [Int.natCast_mul,Int.toNat_of_nonneg (by omega),Int.toNat_of_nonneg hst]
  omega
theorem LX{c:Int}{i j:Nat}(hi:i < (b7 c).toNat)(hj:j < (b7 c).toNat)(hn:i≠j):i * (aW c).toNat+4≤j * (aW c).toNat∨j * (aW c).toNat+4≤i * (aW c).toNat:=by
  have hc:0≤c∧c≤2:=iV.1 (by omega)
  have h12:12≤(aW c).toNat:=by rcases e7 hc with rfl | rfl | rfl <;> decide
  rcases Nat.lt_or_gt_of_ne hn with q | q
  · left
    have:(i+1) * (aW c).toNat≤j * (aW c).toNat:=Nat.mul_le_mul_right _ q
    rw [Nat.add_mul] at this;omega
  · right
    have:(j+1) * (aW c).toNat≤i * (aW c).toNat:=Nat.mul_le_mul_right _ q
    rw [Nat.add_mul] at this;omega
theorem SM.aWW{h:aB}(hh:SM h){s g:Int}(hc:0≤bJ h s)(hg:1≤g∧g≤7) :
    SM ⟨st4 h.Bytes (e9 s (bJ h s)).toNat g,h.Class⟩∧∀t,0≤bJ h t→j4 ⟨st4 h.Bytes (e9 s (bJ h s)).toNat g,h.Class⟩ t=if t=s then g else j4 h t:=by
  obtain⟨hs,hp⟩:=hh
  have h384:=hs.1
  have hs':dW ⟨st4 h.Bytes (e9 s (bJ h s)).toNat g,h.Class⟩:=⟨by rw [DI];exact hs.1,hs.2.1,aH4 hs.2.2.1 _ (by omega),hs.2.2.2⟩
  obtain⟨p,i,p6,hi,es,ec,eo,ep⟩:=D1 hc
  have hz:=uR hs p6 rfl hi
  have h4:=jZ (bV h p)
  refine⟨⟨hs',fun q hq=>?_⟩,fun t ht=>?_⟩
  · rw [KW hs' hq]
    have hold:=(KW hs hq).1 (hp q hq)
    by_cases e:q=p
    · subst e
      have hpos:0 < b7 (bV h q):=by omega
      have hcl:¬bV h q < 0:=by have:=iV.1 hpos;omega
      unfold YI at hold ⊢
      have hcl':bV ⟨st4 h.Bytes (e9 s (bJ h s)).toNat g,h.Class⟩ q=bV h q:=rfl
      rw [hcl']
      rw [if_neg hcl] at hold ⊢
      obtain⟨⟨a1,a2,a3⟩,a4,a5⟩:=hold
      have bs:∀k,k < 8→bt (st4 h.Bytes (e9 s (bJ h s)).toNat g) (q * 64+k)=bt h.Bytes (q * 64+k):=fun k hk=>by
        rw [yH (by omega),if_neg (by omega),if_neg (by omega)]
      have b0:=bs 0 (by omega);have b1:=bs 1 (by omega);have b2:=bs 2 (by omega)
      simp only [Nat.add_zero] at b0
      refine⟨⟨by rw [b0];exact a1,by rw [b1];exact a2,by rw [b2];exact a3⟩,fun k k3 k8=>by rw [bs k k8];exact a4 k k3 k8,fun j hj=>?_⟩
      have hzj:=uR hs p6 rfl hj
      by_cases ej:j=i
      · subst ej
        simp only [eo]
        rw [aJZ (by omega)];exact hg
      · rw [QG (b:=h.Bytes) (by omega) (by simp only [DI]) fun k k1 k2=>?_]
        · exact a5 j hj
        · simp only [eo]
          have:=LX hi hj (fun q=>ej q.symm)
          rw [yH (by omega),if_neg (by omega),if_neg (by omega)]
    · refine YI.same hq hs (by simp only [DI]) rfl (fun k hk=>?_) hold
      rw [yH (by omega),if_neg (by omega),if_neg (by omega)]
  · have e2:bJ ⟨st4 h.Bytes (e9 s (bJ h s)).toNat g,h.Class⟩ t=bJ h t:=rfl
    unfold j4
    rw [e2]
    by_cases e:t=s
    · subst e;rw [if_pos rfl];simp only;rw [aJZ (by omega)]
    · rw [if_neg e]
      obtain⟨p',i',p6',hi',es',ec',eo',ep'⟩:=D1 ht
      have hz':=uR hs p6' rfl hi'
      rw [QG (b:=h.Bytes) (by omega) (by simp only [DI]) fun k k1 k2=>?_]
      simp only
      by_cases ee:p'=p
      · subst ee
        have:=LX hi hi' (fun q=>e (by rw [es,es',q]))
        rw [yH (by omega),if_neg (by omega),if_neg (by omega)]
      · have h4':=jZ (bV h p')
        rw [yH (by omega),if_neg (by omega),if_neg (by omega)]
theorem Y5{p k:Nat}{c:Int}(hp:p < 6)(hk:(k:Int) < b7 c):aRB p k c=p * 64+8+k * (aW c).toNat∧8+k * (aW c).toNat+4≤64:=by
  have hc:0≤c∧c≤2:=iV.1 (by omega)
  have h1:=aGK (c:=c) hp hk
  have hle:=jZ c
  have e:=h1.1
  unfold e9 at e
  rw [if_pos (by omega)] at e
  have e1:((p:Int) * 4+k) / 4=p:=by omega
  have e2:((p:Int) * 4+k) % 4=k:=by omega
  rw [e1,e2] at e
  rcases e7 hc with rfl | rfl | rfl
  · rw [show aW 0=12 from rfl] at e ⊢
    rw [show b7 0=4 from rfl] at hk
    rw [show(12:Int).toNat=12 from rfl]
    omega
  · rw [show aW 1=20 from rfl] at e ⊢
    rw [show b7 1=2 from rfl] at hk
    rw [show(20:Int).toNat=20 from rfl]
    omega
  · rw [show aW 2=44 from rfl] at e ⊢
    rw [show b7 2=1 from rfl] at hk
    rw [show(44:Int).toNat=44 from rfl]
    omega
theorem aUU{b:List Int}{p:Nat}{c:Int}(hl:b.length=384)(hp:p < 6)(hc:0≤c∧c≤2):∀k:Nat,(k:Int)≤b7 c→∀j,(j < p * 64∨p * 64+64≤j→bt (gB b p c k) j=bt b j)∧(3≤j→j < 8→bt (gB b p c k) (p * 64+j)=bt b (p * 64+j))∧bt (gB b p c k) (p * 64)=171∧bt (gB b p c k) (p * 64+1)=c∧bt (gB b p c k) (p * 64+2)=b7 c
  | 0, hk, j => by
    have key:∀i,bt (gB b p c 0) i=if i=p * 64+2 then b7 c else if i=p * 64+1 then c else if i=p * 64 then 171 else bt b i:=fun i=>by
      unfold gB
      rw [HJ (by simp;omega),HJ (by simp;omega),HJ (by omega)]
    refine⟨fun h=>?_,fun h1 h2=>?_,?_,?_,?_⟩
    · rw [key,if_neg (by omega),if_neg (by omega),if_neg (by omega)]
    · rw [key,if_neg (by omega),if_neg (by omega),if_neg (by omega)]
    · rw [key,if_neg (by omega),if_neg (by omega),if_pos rfl]
    · rw [key,if_neg (by omega),if_pos rfl]
    · rw [key,if_pos rfl]
  | k + 1, hk, j => by
    have ih:=aUU hl hp hc k (by omega)
    have hoff:=Y5 (c:=c) hp (by omega:(k:Int) < b7 c)
    have hbl:=HH b p c k
    unfold gB
    refine⟨fun h=>?_,fun h1 h2=>?_,?_,?_,?_⟩
    · rw [yH (by omega),if_neg (by omega),if_neg (by omega)];exact(ih j).1 h
    · rw [yH (by omega),if_neg (by omega),if_neg (by omega)];exact(ih j).2.1 h1 h2
    · rw [yH (by omega),if_neg (by omega),if_neg (by omega)];exact(ih j).2.2.1
    · rw [yH (by omega),if_neg (by omega),if_neg (by omega)];exact(ih j).2.2.2.1
    · rw [yH (by omega),if_neg (by omega),if_neg (by omega)];exact(ih j).2.2.2.2
theorem aRC{b:List Int}{p:Nat}{c:Int}(hl:b.length=384)(hp:p < 6):∀k:Nat,(k:Int)≤b7 c→∀i,i < k→ld (gB b p c k) (p * 64+8+i * (aW c).toNat) 4=1
  | 0,_,i,h=>absurd h (by omega)
  | k + 1, hk, i, h => by
    have hbl:=HH b p c k
    have ho:=Y5 (c:=c) hp (by omega:(k:Int) < b7 c)
    unfold gB
    by_cases e:i=k
    · subst e;rw [←ho.1];exact aJZ (by omega)
    · have hoi:=Y5 (c:=c) hp (by omega:(i:Int) < b7 c)
      have ha:=LX (c:=c) (i:=i) (j:=k) (by omega) (by omega) e
      rw [QG (b:=gB b p c k) (by omega) (by rw [DI]) fun j j1 j2=>by rw [yH (by omega),if_neg (by omega),if_neg (by omega)]]
      exact aRC hl hp k (by omega) i (by omega)
theorem T8{h:aB}(hs:dW h){B:List Int}{p q:Nat}(hq:q < 6){c:Int}:bV ⟨B,h.Class.set p c⟩ q=if q=p then c else bV h q:=by
  have h6:=hs.2.1
  unfold bV
  rw [List.getD_eq_getElem?_getD,List.getD_eq_getElem?_getD,List.getElem?_set]
  by_cases e:p=q
  · subst e;simp [h6,hq]
  · have e':¬q=p:=fun z=>e z.symm
    simp [e,e']
theorem SM.aYZ{h:aB}(hh:SM h){p:Nat}(hp:p < 6)(hun:bV h p < 0){c:Int}(hc:0≤c∧c≤2) :
    SM ⟨gB h.Bytes p c (b7 c).toNat,h.Class.set p c⟩∧(∀t,(t / 4).toNat≠p→bJ ⟨gB h.Bytes p c (b7 c).toNat,h.Class.set p c⟩ t=bJ h t)∧(∀t,0≤bJ h t→(t / 4).toNat≠p∧j4 ⟨gB h.Bytes p c (b7 c).toNat,h.Class.set p c⟩ t=j4 h t) ∧
      ∀i,i < (b7 c).toNat→bJ ⟨gB h.Bytes p c (b7 c).toNat,h.Class.set p c⟩ ((p:Int) * 4+i)=c∧j4 ⟨gB h.Bytes p c (b7 c).toNat,h.Class.set p c⟩ ((p:Int) * 4+i)=1:=by
  obtain⟨hs,hpg⟩:=hh
  have h384:=hs.1
  have hle:=jZ c
  have hpn:((b7 c).toNat:Int)≤b7 c:=by omega
  have hb:=aUU h384 hp hc (b7 c).toNat hpn
  have hbl:=HH h.Bytes p c (b7 c).toNat
  have hs':dW ⟨gB h.Bytes p c (b7 c).toNat,h.Class.set p c⟩:=⟨by simp only [hbl];exact h384,by simp only [List.length_set];exact hs.2.1,aGJ hs.2.2.1 p hc _,fun x hx=>by
    rcases List.mem_or_eq_of_mem_set hx with q | rfl
    · exact hs.2.2.2 x q
    · omega⟩
  have hcls:∀t:Int,(t / 4).toNat≠p→bJ ⟨gB h.Bytes p c (b7 c).toNat,h.Class.set p c⟩ t=bJ h t:=fun t ht=>by
    unfold bJ
    by_cases q:0≤t∧t≤23
    · rw [T8 hs (by omega),if_neg ht]
    · rw [if_neg (fun z=>q z.1),if_neg (fun z=>q z.1)]
  refine⟨⟨hs',fun q hq=>?_⟩,hcls,fun t ht=>?_,fun i hi=>?_⟩
  · rw [KW hs' hq]
    have hold:=(KW hs hq).1 (hpg q hq)
    by_cases e:q=p
    · subst e
      unfold YI at hold ⊢
      rw [if_pos hun] at hold
      rw [T8 hs hq,if_pos rfl,if_neg (by omega)]
      refine⟨(hb 0).2.2,fun k k3 k8=>?_,fun i hi=>?_⟩
      · simp only;rw [(hb k).2.1 k3 k8];exact hold k (by omega)
      · simp only;rw [aRC h384 hp _ hpn i hi];omega
    · refine YI.same hq hs (by simp only [hbl]) (by rw [T8 hs hq,if_neg e]) (fun k hk=>?_) hold
      exact(hb _).1 (by omega)
  · obtain⟨p',i',p6',hi',es',ec',eo',ep'⟩:=D1 ht
    have hne:(t / 4).toNat≠p:=fun z=>by rw [ec',←ep',z] at ht;omega
    refine⟨hne,?_⟩
    have hz':=uR hs p6' rfl hi'
    unfold j4
    rw [hcls t hne,QG (b:=h.Bytes) (by omega) (by simp only [hbl]) fun k k1 k2=>(hb k).1 (by omega)]
  · have e1:((p:Int) * 4+i) / 4=p:=by omega
    have e2:((p:Int) * 4+i) % 4=i:=by omega
    have ec:bJ ⟨gB h.Bytes p c (b7 c).toNat,h.Class.set p c⟩ ((p:Int) * 4+i)=c:=by
      unfold bJ
      rw [e1,e2,Int.toNat_natCast,T8 hs hp,if_pos rfl,if_pos (by omega)]
    refine⟨ec,?_⟩
    unfold j4
    rw [ec]
    have ho:=Y5 (c:=c) hp (by omega:(i:Int) < b7 c)
    have:(e9 ((p:Int) * 4+i) c).toNat=p * 64+8+i * (aW c).toNat:=ho.1
    rw [this]
    exact aRC h384 hp _ hpn i hi
def uX(m m':Mem)(k:Int):Prop:=i3 m'∧∀s,iW m s=3→s≠k→iW m' s=3∧j4 m'.aB s=j4 m.aB s∧bJ m'.aB s=bJ m.aB s
theorem uX.refl{m:Mem}(h:i3 m)(k:Int):uX m m k:=⟨h,fun _ h _=>⟨h,rfl,rfl⟩⟩
theorem uX.live{m m':Mem}{k h:Int}(q:uX m m' k)(hl:mY m h)(hn:h % 32≠k):mY m' h:=by
  obtain⟨h1,h2,h3⟩:=hl
  obtain⟨a,b,_⟩:=q.2 _ h2 hn
  exact⟨h1,a,by rw [b];exact h3⟩
theorem IQ{l:List aC}{k j:Nat}(hk:k < l.length){t:aC}:eU (l.set k t) j=if j=k then t.aJ else eU l j:=by
  unfold eU
  rw [List.getD_eq_getElem?_getD,List.getD_eq_getElem?_getD,List.getElem?_set]
  by_cases e:k=j
  · subst e;simp [hk]
  · have e':¬j=k:=fun z=>e z.symm
    simp [e,e']
theorem aEV{l:List aC}{k:Nat}(hk:k < l.length){t:aC}(ht:t.aJ.Sublist l[k].aJ):(bX (l.set k t)).Sublist (bX l):=by
  rw [CC hk,y6 hk]
  exact(List.Sublist.refl _).append (ht.append (List.Sublist.refl _))
theorem T9{l:List aC}{k:Nat}(hk:k < l.length){xs:List Int}{s:Int}:s∈bX (l.set k ⟨l[k].aJ++xs⟩)↔s∈bX l∨s∈xs:=by
  rw [CC hk,y6 hk]
  simp only [List.mem_append]
  constructor
  · rintro(h | (h | h) | h)
    · exact .inl (.inl h)
    · exact .inl (.inr (.inl h))
    · exact .inr h
    · exact .inl (.inr (.inr h))
  · rintro((h | h | h) | h)
    · exact .inl h
    · exact .inr (.inl (.inl h))
    · exact .inr (.inr h)
    · exact .inr (.inl (.inr h))
theorem PL{l:List aC}{k:Nat}(hk:k < l.length){xs r q:List Int}(h:(q++(bX l++r)).Nodup)(hx:xs.Nodup)(hd:∀x∈xs,x∉q++(bX l++r)):(q++(bX (l.set k ⟨l[k].aJ++xs⟩)++r)).Nodup:=by
  have hp:(q++(bX (l.set k ⟨l[k].aJ++xs⟩)++r)).Perm (xs++(q++(bX l++r))):=by
    rw [CC hk,y6 hk]
    have e1:q++(bX (l.take k)++(l[k].aJ++xs++bX (l.drop (k+1)))++r)=(q++bX (l.take k)++l[k].aJ)++(xs++(bX (l.drop (k+1))++r)):=by simp
    have e2:xs++(q++(bX (l.take k)++(l[k].aJ++bX (l.drop (k+1)))++r))=xs++((q++bX (l.take k)++l[k].aJ)++(bX (l.drop (k+1))++r)):=by simp
    rw [e1,e2]
    exact List.perm_append_comm_assoc _ _ _
  rw [hp.nodup_iff,List.nodup_append]
  exact⟨hx,h,fun a ha b hb e=>hd a ha (e ▸ hb)⟩
theorem qU{m:Mem}{s:Int}:iW m s=3↔0≤bJ m.aB s∧s∉cK m.aA∧j4 m.aB s≤6:=by
  unfold iW
  constructor
  · intro h
    split at h
    · omega
    · split at h
      · omega
      · split at h
        · omega
        · exact⟨by omega,by assumption,by omega⟩
  · rintro⟨a,b,c⟩
    rw [if_neg (by omega),if_neg b,if_neg (by omega)]
noncomputable section
variable {m:Mem} (hm:i3 m)
include hm
theorem i3.aWX{k:Nat}(hk:k < 9){t:aC}(ht:t.aJ.Sublist (eU m.aA.bB k)):uX m ⟨m.aB,⟨m.aA.Global,m.aA.bB.set k t⟩⟩ (-1):=by
  obtain⟨⟨hh,h3,h9,h2,hr,hn⟩,hg,ho⟩:=hm
  have hk':k < m.aA.bB.length:=by omega
  have ht':t.aJ.Sublist m.aA.bB[k].aJ:=by rw [dM hk'];exact ht
  have hsub:(cK ⟨m.aA.Global,m.aA.bB.set k t⟩).Sublist (cK m.aA):=(List.Sublist.refl _).append (aEV hk' ht')
  refine⟨⟨⟨hh,h3,by simpa using h9,fun s hs=>?_,fun x hx=>hr x (hsub.subset hx),hsub.nodup hn⟩,hg,fun j hj=>?_⟩,fun s hs _=>⟨?_,rfl,rfl⟩⟩
  · rcases List.mem_or_eq_of_mem_set hs with q | rfl
    · exact h2 s q
    · have:=ht'.length_le;have:=h2 _ (List.getElem_mem hk');omega
  · unfold A3
    simp only [IQ hk']
    split
    · rename_i e;subst e
      exact fun x hx=>ho j hj x (ht.subset hx)
    · exact ho j hj
  · rw [qU] at hs ⊢
    exact⟨hs.1,fun q=>hs.2.1 (hsub.subset q),hs.2.2⟩
theorem i3.aM9{k:Nat}(hk:k < 3){t:aC}(ht:t.aJ.Sublist (eU m.aA.Global k)):uX m ⟨m.aB,⟨m.aA.Global.set k t,m.aA.bB⟩⟩ (-1):=by
  obtain⟨⟨hh,h3,h9,h2,hr,hn⟩,hg,ho⟩:=hm
  have hk':k < m.aA.Global.length:=by omega
  have ht':t.aJ.Sublist m.aA.Global[k].aJ:=by rw [dM hk'];exact ht
  have hsub:(cK ⟨m.aA.Global.set k t,m.aA.bB⟩).Sublist (cK m.aA):=(aEV hk' ht').append (List.Sublist.refl _)
  refine⟨⟨⟨hh,by simpa using h3,h9,h2,fun x hx=>hr x (hsub.subset hx),hsub.nodup hn⟩,fun j hj=>?_,ho⟩,fun s hs _=>⟨?_,rfl,rfl⟩⟩
  · unfold HU
    simp only [IQ hk']
    split
    · rename_i e;subst e
      exact fun x hx=>hg j hj x (ht.subset hx)
    · exact hg j hj
  · rw [qU] at hs ⊢
    exact⟨hs.1,fun q=>hs.2.1 (hsub.subset q),hs.2.2⟩
theorem i3.aTX{k:Nat}(hk:k < 9){xs:List Int}(hl:(eU m.aA.bB k).length+xs.length≤2)(hx:xs.Nodup)(hf:A2 m.aB xs ((k % 3:Nat):Int))(hd:∀x∈xs,x∉cK m.aA)(hk':k < m.aA.bB.length) :
    i3 ⟨m.aB,⟨m.aA.Global,m.aA.bB.set k ⟨m.aA.bB[k].aJ++xs⟩⟩⟩∧∀s,s∉xs→iW m s=3→iW ⟨m.aB,⟨m.aA.Global,m.aA.bB.set k ⟨m.aA.bB[k].aJ++xs⟩⟩⟩ s=3:=by
  obtain⟨⟨hh,h3,h9,h2,hr,hn⟩,hg,ho⟩:=hm
  have hmem:∀s,s∈cK ⟨m.aA.Global,m.aA.bB.set k ⟨m.aA.bB[k].aJ++xs⟩⟩↔s∈cK m.aA∨s∈xs:=fun s=>by
    unfold cK;simp only [List.mem_append,T9 hk'];rw [or_assoc]
  have hcl:∀x∈xs,0≤x∧x≤23:=fun x h=>by
    have:=(hf x h).1
    exact(xF (h:=m.aB) (s:=x) (by omega)).1
  refine⟨⟨⟨hh,h3,by simpa using h9,fun s hs=>?_,fun x hx=>?_,?_⟩,hg,fun j hj=>?_⟩,fun s hs h3=>?_⟩
  · rcases List.mem_or_eq_of_mem_set hs with q | rfl
    · exact h2 s q
    · rw [←dM hk'] at hl;simpa using hl
  · rcases(hmem x).1 hx with q | q
    · exact hr x q
    · exact hcl x q
  · have:=PL (q:=bX m.aA.Global) (r:=[]) hk' (by simpa [cK] using hn) hx (by simpa [cK] using hd)
    simpa [cK] using this
  · unfold A3
    simp only [IQ hk']
    split
    · rename_i e;subst e
      intro x hx
      rcases List.mem_append.1 hx with q | q
      · rw [dM hk'] at q;exact ho j hj x q
      · exact hf x q
    · exact ho j hj
  · rw [qU] at h3 ⊢
    exact⟨h3.1,fun q=>(((hmem s).1 q).elim h3.2.1 hs),h3.2.2⟩
theorem i3.aB3{k:Nat}(hk:k < 3){xs:List Int}(hx:xs.Nodup)(hf:A2 m.aB xs (k:Int))(hd:∀x∈xs,x∉cK m.aA)(hk':k < m.aA.Global.length) :
    i3 ⟨m.aB,⟨m.aA.Global.set k ⟨m.aA.Global[k].aJ++xs⟩,m.aA.bB⟩⟩∧∀s,s∉xs→iW m s=3→iW ⟨m.aB,⟨m.aA.Global.set k ⟨m.aA.Global[k].aJ++xs⟩,m.aA.bB⟩⟩ s=3:=by
  obtain⟨⟨hh,h3,h9,h2,hr,hn⟩,hg,ho⟩:=hm
  have hmem:∀s,s∈cK ⟨m.aA.Global.set k ⟨m.aA.Global[k].aJ++xs⟩,m.aA.bB⟩↔s∈cK m.aA∨s∈xs:=fun s=>by
    unfold cK;simp only [List.mem_append,T9 hk'];rw [or_right_comm]
  have hcl:∀x∈xs,0≤x∧x≤23:=fun x h=>by
    have:=(hf x h).1
    exact(xF (h:=m.aB) (s:=x) (by omega)).1
  refine⟨⟨⟨hh,by simpa using h3,h9,h2,fun x hx=>?_,?_⟩,fun j hj=>?_,ho⟩,fun s hs h3=>?_⟩
  · rcases(hmem x).1 hx with q | q
    · exact hr x q
    · exact hcl x q
  · have:=PL (q:=[]) (r:=bX m.aA.bB) hk' (by simpa [cK] using hn) hx (by simpa [cK] using hd)
    simpa [cK] using this
  · unfold HU
    simp only [IQ hk']
    split
    · rename_i e;subst e
      intro x hx
      rcases List.mem_append.1 hx with q | q
      · rw [dM hk'] at q;exact hg j hj x q
      · exact hf x q
    · exact hg j hj
  · rw [qU] at h3 ⊢
    exact⟨h3.1,fun q=>(((hmem s).1 q).elim h3.2.1 hs),h3.2.2⟩
theorem i3.PM{x:Int}(hx:x∈cK m.aA):0≤bJ m.aB x∧j4 m.aB x≤6:=by
  obtain⟨⟨hh,h3,h9,h2,hr,hn⟩,hg,ho⟩:=hm
  have key:∀(l:List aC),x∈bX l→∃k,k < l.length∧x∈eU l k:=fun l h=>by
    obtain⟨s,h1,h2⟩:=QF.1 h
    obtain⟨k,hk,rfl⟩:=List.mem_iff_getElem.1 h1
    exact⟨k,hk,by rw [←dM hk];exact h2⟩
  rcases List.mem_append.1 hx with q | q
  · obtain⟨k,hk,h⟩:=key _ q
    have:=hg k (by omega) x h
    exact⟨by omega,this.2⟩
  · obtain⟨k,hk,h⟩:=key _ q
    have:=ho k (by omega) x h
    exact⟨by omega,this.2⟩
theorem i3.heap{h':aB}(hh:SM h')(hs:∀x∈cK m.aA,bJ h' x=bJ m.aB x∧j4 h' x=j4 m.aB x):i3 ⟨h',m.aA⟩:=by
  obtain⟨⟨_,hl⟩,hg,ho⟩:=hm
  have key:∀(l:List aC) k x,x∈eU l k→x∈bX l:=fun l k x h=>by
    unfold eU at h
    rw [List.getD_eq_getElem?_getD] at h
    cases hk:l[k]? with
    | none=>rw [hk] at h;simp at h
    | some s=>rw [hk] at h;exact QF.2 ⟨s,List.mem_of_getElem? hk,h⟩
  refine⟨⟨hh,hl⟩,fun k hk x hx=>?_,fun k hk x hx=>?_⟩
  · obtain⟨a,b⟩:=hs x (List.mem_append_left _ (key _ k x hx))
    show bJ h' x=_∧j4 h' x≤6
    rw [a,b];exact hg k hk x hx
  · obtain⟨a,b⟩:=hs x (List.mem_append_right _ (key _ k x hx))
    show bJ h' x=_∧j4 h' x≤6
    rw [a,b];exact ho k hk x hx
theorem i3.a0J{s g:Int}(hu:iW m s=3)(hg:1≤g∧g≤7):uX m ⟨⟨st4 m.aB.Bytes (e9 s (bJ m.aB s)).toNat g,m.aB.Class⟩,m.aA⟩ s∧j4 ⟨st4 m.aB.Bytes (e9 s (bJ m.aB s)).toNat g,m.aB.Class⟩ s=g:=by
  have hu':=qU.1 hu
  obtain⟨a,b⟩:=SM.aWW hm.1.1 hu'.1 hg
  refine⟨⟨i3.heap hm a fun x hx=>⟨rfl,?_⟩,fun t ht hn=>?_⟩,by rw [b s hu'.1,if_pos rfl]⟩
  · rw [b x (i3.PM hm hx).1,if_neg (show ¬x=s from fun e=>hu'.2.1 (e ▸ hx))]
  · have ht':=qU.1 ht
    have e:j4 ⟨st4 m.aB.Bytes (e9 s (bJ m.aB s)).toNat g,m.aB.Class⟩ t=j4 m.aB t:=by rw [b t ht'.1,if_neg hn]
    exact⟨qU.2 ⟨ht'.1,ht'.2.1,by simp only [e];exact ht'.2.2⟩,e,rfl⟩
theorem i3.aMB{p:Nat}(hp:p < 6)(hun:bV m.aB p < 0){c:Int}(hc:0≤c∧c≤2){xs:List Int}(hxs:∀x∈xs,∃i,i < (b7 c).toNat∧x=(p:Int) * 4+(i:Nat))(hx:xs.Nodup)(hk':c.toNat < m.aA.Global.length) :
    uX m ⟨⟨gB m.aB.Bytes p c (b7 c).toNat,m.aB.Class.set p c⟩,⟨m.aA.Global.set c.toNat ⟨m.aA.Global[c.toNat].aJ++xs⟩,m.aA.bB⟩⟩ (-1):=by
  obtain⟨a,b,d,e⟩:=SM.aYZ hm.1.1 hp hun hc
  have h1:i3 ⟨⟨gB m.aB.Bytes p c (b7 c).toNat,m.aB.Class.set p c⟩,m.aA⟩:=i3.heap hm a fun x hx=>by
    obtain⟨q,r⟩:=d x (i3.PM hm hx).1
    exact⟨b x q,r⟩
  have hno:∀x∈xs,¬0≤bJ m.aB x:=fun x h q=>by
    obtain⟨i,hi,rfl⟩:=hxs x h
    have h4:=jZ c
    exact(d _ q).1 (by omega)
  obtain⟨f,g⟩:=i3.aB3 h1 (k:=c.toNat) (by omega) hx (fun x h=>by
    obtain⟨i,hi,rfl⟩:=hxs x h
    have:=e i hi
    exact⟨by simp only [this.1];omega,by simp only [this.2];omega⟩) (fun x h q=>hno x h (i3.PM hm q).1) hk'
  refine⟨f,fun s hs _=>?_⟩
  have hs':=qU.1 hs
  obtain⟨q,r⟩:=d s hs'.1
  have h2:iW ⟨⟨gB m.aB.Bytes p c (b7 c).toNat,m.aB.Class.set p c⟩,m.aA⟩ s=3:=qU.2 ⟨by simp only [b s q];exact hs'.1,hs'.2.1,by simp only [r];exact hs'.2.2⟩
  exact⟨g s (fun h=>hno s h hs'.1) h2,r,b s q⟩
end
end Go.Gv
end
noncomputable section
namespace Go.Gv
theorem aWY{p n:Nat}{x:Int}(h:x∈gS p n):∃i,i < n∧x=(p:Int) * 4+(i:Nat):=by
  simp only [gS,List.mem_map,List.mem_range] at h
  obtain⟨i,h1,h2⟩:=h
  exact⟨i,h1,h2.symm⟩
theorem aRD(p n:Nat):(gS p n).Nodup:=by
  unfold gS
  rw [List.Nodup,List.pairwise_map]
  exact List.Pairwise.imp (fun h e=>h (by omega)) (List.nodup_range (n:=n))
theorem aB4{m:Mem}(hm:i3 m){c:Int}(hc:0≤c∧c≤2) :
    ∃m' s,pB m c=some (m',s)∧FN m c=some (m',s)∧gZ m'∧(0≤s→dW m'.aB∧0≤bJ m'.aB s)∧uX m m' (-1):=by
  have hl:=hm.1.2
  have hcnt:=hl.count
  have hs:=hm.1.1.1
  have hsl:=hl.IP (by omega)
  have hp4:=jZ c
  have hpp:0 < b7 c:=iV.2 hc
  have hall:=eS m.aA
  have hsG:∀s∈m.aA.Global,s.aJ.length≤24:=fun s h=>by have:=oX h;omega
  have hsO:∀s∈m.aA.bB,s.aJ.length≤24:=fun s h=>by have:=oX h;omega
  have h3:=hl.1
  have h9:=hl.2.1
  have hcpl:=JN (l:=m.aA) (by omega) (by omega) (fun s h=>by have:=hsG s h;omega) (fun s h=>by have:=hsO s h;omega)
  unfold pB FN
  rcases aH5 hm.1.1 hc with ⟨e1,e2⟩ | ⟨p,hp,hun,e1,e2⟩
  · rw [e1,e2,hcpl]
    have h1:=hs.1;have h2:=hs.2.1
    exact⟨_,_,rfl,rfl,⟨by simp only;omega,by simp only;omega,by simp only;omega,by simp only;omega,by simp only;omega⟩,fun h=>absurd h (by omega),uX.refl hm _⟩
  · rw [e1,e2,hcpl]
    simp only [aG,EI,EH,wK,HI]
    have hn:(((b7 c).toNat:Int) == 0)=false:=by simpa using (by omega:¬((b7 c).toNat:Int)=0)
    have hk:c.toNat < m.aA.Global.length:=by omega
    have hg0:=hsG _ (List.getElem_mem hk)
    have hx:idx m.aA.Global c=some m.aA.Global[c.toNat]:=fY hc.1 (by omega)
    have hz:idx (gS p (b7 c).toNat) 0=some ((p:Int) * 4):=by
      have:=aU (l:=gS p (b7 c).toNat) (k:=0) (by rw [HI];omega)
      rw [show((0:Nat):Int)=0 from rfl] at this
      rw [this];simp [gS]
    have hlen:(List.drop (1:Int).toNat (List.take (b7 c).toNat (gS p (b7 c).toNat))).length≤4:=by simp [HI];omega
    simp only [hn,bE,if_false,hx,aG,hz]
    rw [aL (by omega),aL (by omega)]
    have hcl:bV ⟨gB m.aB.Bytes p c (b7 c).toNat,m.aB.Class.set p c⟩ p=c:=by
      have h6:=hs.2.1
      unfold bV;simp [List.getD_eq_getElem?_getD,List.getElem?_set,h6,hp]
    refine⟨_,_,rfl,rfl,⟨by simp only [HH];have:=hs.1;omega,by simp only [List.length_set];have:=hs.2.1;omega,by simp only [List.length_set];omega,by simp only;omega,?_⟩,fun _=>⟨⟨by simp only [HH];exact hs.1,by simp only [List.length_set];exact hs.2.1,aGJ hs.2.2.1 p hc _,fun x hx=>?_⟩,?_⟩,?_⟩
    · rw [eS];simp only [CD hk];omega
    · rcases List.mem_or_eq_of_mem_set hx with h | rfl
      · exact hs.2.2.2 x h
      · omega
    · unfold bJ
      have e4:((p:Int) * 4 / 4).toNat=p:=by omega
      rw [e4]
      simp only [hcl]
      rw [if_pos ⟨by omega,by omega⟩];exact hc.1
    · exact i3.aMB hm hp hun hc (fun x hx=>aWY (List.mem_of_mem_take (List.mem_of_mem_drop hx))) ((aRD p _).sublist ((List.drop_sublist _ _).trans (List.take_sublist _ _))) hk
theorem aB5(n:Int):∃c,pA n=some c∧FL n=some c∧(c = -1∨(0≤c∧c≤2)):=by
  have s1:∀k,0≤k∧k≤2→dX n k=some (if 1≤n∧n≤fN k then .stop (Out.ret k) else .next (k+1)):=fun k hk=>by
    simp only [dX]
    rw [if_pos (by simp;omega),A1,aG,bR,aG,aM (by omega) (by omega)]
    by_cases q:1≤n∧n≤fN k
    · rw [bD q,if_pos rfl,if_pos q]
    · rw [bN q,if_neg (by simp),if_neg q]
  have s2:∀k,0≤k∧k≤2→gR n k=some (if 1≤n∧n≤fN k then .stop (Out.ret k) else .next (k+1)):=fun k hk=>by
    simp only [gR,wW]
    rw [if_pos (by simp;omega),O9,aG,aM (by omega) (by omega)]
    by_cases q1:1≤n
    · by_cases q2:n≤fN k <;> simp [q1,q2]
    · simp [q1]
  have st:∀k,0≤k∧k≤2→1≤n∧n≤fN k→loop (dX n) k=some (Out.ret k)∧loop (gR n) k=some (Out.ret k):=fun k hk h=>
    ⟨bK (by rw [s1 k hk,if_pos h]),bK (by rw [s2 k hk,if_pos h])⟩
  have nx:∀k,0≤k∧k≤2→¬(1≤n∧n≤fN k)→loop (dX n) k=loop (dX n) (k+1)∧loop (gR n) k=loop (gR n) (k+1):=fun k hk h=>
    ⟨bT (by rw [s1 k hk,if_neg h]),bT (by rw [s2 k hk,if_neg h])⟩
  unfold pA FL
  by_cases q0:1≤n∧n≤fN 0
  · have:=st 0 (by omega) q0
    rw [this.1,this.2];exact⟨_,rfl,rfl,.inr (by omega)⟩
  · have h0:=nx 0 (by omega) q0
    rw [h0.1,h0.2,show(0:Int)+1=1 from rfl]
    by_cases q1:1≤n∧n≤fN 1
    · have:=st 1 (by omega) q1
      rw [this.1,this.2];exact⟨_,rfl,rfl,.inr (by omega)⟩
    · have h1:=nx 1 (by omega) q1
      rw [h1.1,h1.2,show(1:Int)+1=2 from rfl]
      by_cases q2:1≤n∧n≤fN 2
      · have:=st 2 (by omega) q2
        rw [this.1,this.2];exact⟨_,rfl,rfl,.inr (by omega)⟩
      · have h2:=nx 2 (by omega) q2
        rw [h2.1,h2.2,show(2:Int)+1=3 from rfl,bK (body:=dX n) (r:=Out.brk ()) (by simp [dX]),bK (body:=gR n) (r:=Out.brk ()) (by simp [gR])]
        exact⟨_,rfl,rfl,.inl rfl⟩
theorem aRE{s:aC}(hl:s.aJ.length≤1048576):∃t x,jC s=some (t,x)∧tB s=some (x,t)∧t.aJ.length≤s.aJ.length∧(0≤x→x∈s.aJ)∧t.aJ.Sublist s.aJ:=by
  unfold jC tB CJ
  rw [aM (by omega) (by omega)]
  by_cases q:s.aJ.length=0
  · rw [if_pos (by simpa using q),if_pos (by simp;omega)]
    exact⟨_,_,rfl,rfl,Nat.le_refl _,fun h=>absurd h (by omega),List.Sublist.refl _⟩
  · have hx:idx s.aJ ((s.aJ.length:Int) - 1)=some (s.aJ[s.aJ.length - 1]'(by omega)):=by
      rw [show((s.aJ.length:Int) - 1)=((s.aJ.length - 1:Nat):Int) by omega,aU (by omega)]
    rw [if_neg (by simpa using q),if_neg (by simp;omega),aL (by omega),hx]
    simp only [aG]
    rw [aL (by omega)]
    exact⟨_,_,rfl,rfl,by simp,fun _=>List.getElem_mem _,(List.drop_sublist _ _).trans (List.take_sublist _ _)⟩
theorem D2{w c:Int}(hw:0≤w∧w≤2)(hc:0≤c∧c≤2):kO w c=some (w * 3+c)∧GV w c=some (w * 3+c):=by
  have e:aV (aV (w * 3)+c)=w * 3+c:=by rw [aM (x:=w * 3) (by omega) (by omega),aM (by omega) (by omega)]
  constructor
  · unfold kO qZ;rw [bR,bR,bD hw,bD hc,e];rfl
  · unfold GV C0;rw [iY,gU,bD hw,bD hc,e];rfl
theorem aB6{l:List aC}{k:Nat}(hk:k < l.length){t:aC}(ht:t.aJ.length≤l[k].aJ.length):(bX (l.set k t)).length≤(bX l).length:=by
  rw [CC hk,y6 hk];simp;omega
noncomputable section
variable {m:Mem} (hm:i3 m)
include hm
theorem i3.facts:(cK m.aA).length≤24∧m.aA.Global.length=3∧m.aA.bB.length=9∧m.aB.Bytes.length=384∧m.aB.Class.length=6∧gZ m∧fK m.aA=some m.aA∧iH m.aA=some true ∧
    (∀s∈m.aA.Global,s.aJ.length≤24)∧(∀s∈m.aA.bB,s.aJ.length≤24):=by
  have hl:=hm.1.2
  have hcnt:=hl.count
  have hall:=eS m.aA
  have hsG:∀s∈m.aA.Global,s.aJ.length≤24:=fun s h=>by have:=oX h;omega
  have hsO:∀s∈m.aA.bB,s.aJ.length≤24:=fun s h=>by have:=oX h;omega
  have h3:=hl.1;have h9:=hl.2.1
  have h1:=hm.1.1.1.1;have h2:=hm.1.1.1.2.1
  refine⟨hcnt,h3,h9,h1,h2,⟨by omega,by omega,by omega,by omega,by omega⟩,JN (by omega) (by omega) (fun s h=>by have:=hsG s h;omega) (fun s h=>by have:=hsO s h;omega),by rw [NI (by omega),bD hl],hsG,hsO⟩
theorem SF{w c:Int}(hw:0≤w∧w≤2)(hc:0≤c∧c≤2) :
    ∃l t x,idx m.aA.bB (w * 3+c)=some l∧jC l=some (t,x)∧FM m.aA w c=some (⟨m.aA.Global,m.aA.bB.set (w * 3+c).toNat t⟩,x) ∧
      gZ ⟨m.aB,⟨m.aA.Global,m.aA.bB.set (w * 3+c).toNat t⟩⟩∧(0≤x→0≤bJ m.aB x)∧uX m ⟨m.aB,⟨m.aA.Global,m.aA.bB.set (w * 3+c).toNat t⟩⟩ (-1):=by
  obtain⟨hcnt,h3,h9,h1,h2,hsm,hcp,hlo,hsG,hsO⟩:=i3.facts hm
  have hk:(w * 3+c).toNat < m.aA.bB.length:=by omega
  have hx:idx m.aA.bB (w * 3+c)=some m.aA.bB[(w * 3+c).toNat]:=fY (by omega) (by omega)
  have h24:=hsO _ (List.getElem_mem hk)
  obtain⟨t,x,e1,e2,ht,hmem,hsub⟩:=aRE (s:=m.aA.bB[(w * 3+c).toNat]) (by omega)
  have hall:=eS m.aA
  refine⟨_,t,x,hx,e1,?_,⟨by simp only;omega,by simp only;omega,by simp only;omega,by simp only [List.length_set];omega,?_⟩,fun h0=>?_,i3.aWX hm (by omega) (by rw [←dM hk];exact hsub)⟩
  · unfold FM wX
    rw [hcp,(D2 hw hc).2,hlo]
    simp only [aG,dU,bE,if_false]
    rw [bN (by omega),if_neg (by simp),hx,aG,e2];rfl
  · have:=aB6 hk ht
    rw [eS];simp only;omega
  · have:=hm.2.2 (w * 3+c).toNat (by omega) x (by rw [←dM hk];exact hmem h0)
    omega
theorem JS{c:Int}(hc:0≤c∧c≤2) :
    ∃l t x,idx m.aA.Global c=some l∧jC l=some (t,x)∧wY m.aA c=some (⟨m.aA.Global.set c.toNat t,m.aA.bB⟩,x) ∧
      gZ ⟨m.aB,⟨m.aA.Global.set c.toNat t,m.aA.bB⟩⟩∧(0≤x→0≤bJ m.aB x)∧uX m ⟨m.aB,⟨m.aA.Global.set c.toNat t,m.aA.bB⟩⟩ (-1):=by
  obtain⟨hcnt,h3,h9,h1,h2,hsm,hcp,hlo,hsG,hsO⟩:=i3.facts hm
  have hk:c.toNat < m.aA.Global.length:=by omega
  have hx:idx m.aA.Global c=some m.aA.Global[c.toNat]:=fY (by omega) (by omega)
  have h24:=hsG _ (List.getElem_mem hk)
  obtain⟨t,x,e1,e2,ht,hmem,hsub⟩:=aRE (s:=m.aA.Global[c.toNat]) (by omega)
  have hall:=eS m.aA
  refine⟨_,t,x,hx,e1,?_,⟨by simp only;omega,by simp only;omega,by simp only [List.length_set];omega,by simp only;omega,?_⟩,fun h0=>?_,i3.aM9 hm (by omega) (by rw [←dM hk];exact hsub)⟩
  · unfold wY pM
    rw [hcp,hlo,gU,bD hc]
    simp only [aG,dU,bE,if_false]
    rw [hx,aG,e2];rfl
  · have:=aB6 hk ht
    rw [eS];simp only;omega
  · have:=hm.2.1 c.toNat (by omega) x (by rw [←dM hk];exact hmem h0)
    omega
theorem aMC{w h:Int}(hw:0≤w∧w≤2)(hv:mY m h):∃m',sH m w (h % 32)=some m'∧LG m w h=some m'∧gZ m'∧uX m m' (h % 32):=by
  obtain⟨hcnt,h3,h9,h1,h2,hsm,hcp,hlo,hsG,hsO⟩:=i3.facts hm
  have hs:=hm.1.1.1
  have hh:=hv.1
  have hhm:=hh.mod
  have hcl:=yZ hv.2.1
  have hgo:=DE hcl
  have hc2:0≤bJ m.aB (h % 32)∧bJ m.aB (h % 32)≤2:=by
    obtain⟨_,q,e⟩:=xF hcl
    rw [e];exact iV.1 (by omega)
  have hg6:1≤h / 32∧h / 32≤6:=by unfold pS at hh;omega
  have hbl:m.aB.Bytes.length≤maxLen:=by rw [h1];simp [maxLen]
  have hnot:h % 32∉cK m.aA:=fun q=>by
    have:=hv.2.1;unfold iW at this;rw [if_neg (by omega),if_pos q] at this;omega
  have hcpH:=LW (h:=m.aB) (by omega) (by omega)
  have eo:e9 (h % 32) (bJ m.aB (h % 32))=(((e9 (h % 32) (bJ m.aB (h % 32))).toNat:Nat):Int):=by omega
  have ew:aV (h / 32+1)=h / 32+1:=aM (by omega) (by omega)
  have ed:aV (Int.tdiv h 32)=h / 32:=by rw [A0 (by unfold pS at hh;omega),aM (by omega) (by omega)]
  have hall:=eS m.aA
  obtain⟨hr1,hr2⟩:=i3.a0J hm hv.2.1 (g:=h / 32+1) (by omega)
  have hu:=qU.1 hv.2.1
  unfold sH LG OS zV
  rw [hhm.1,gW hs,hcpH,HA hbl,bD hs,lW hs,ed,ew,hcp]
  simp only [aG,dU,bE,if_false,GX,AO,GW]
  rw [mW hs hcl,hv.2.2,eC,bN (show ¬bJ m.aB (h % 32) < 0 by omega),bD (show 1≤h / 32+1∧h / 32+1≤7 by omega)]
  simp only [aG,dU,bE,if_false,mV,wB,ew]
  generalize hgn:(e9 (h % 32) (bJ m.aB (h % 32))).toNat=a at eo
  rw [hgn] at hr1 hr2
  rw [eo,ER (by omega) (by omega) (by omega),RT (by omega)]
  simp only [aG]
  rw [PK (by omega) (by omega) (by omega)]
  simp only [aG,zK,I9,ed,ew,hhm.1]
  by_cases q:h / 32+1≤6
  · have hk:(w * 3+bJ m.aB (h % 32)).toNat < m.aA.bB.length:=by omega
    have hx:idx m.aA.bB (w * 3+bJ m.aB (h % 32))=some m.aA.bB[(w * 3+bJ m.aB (h % 32)).toNat]:=fY (by omega) (by omega)
    have hk2:(bJ m.aB (h % 32)).toNat < m.aA.Global.length:=by omega
    have hx2:idx m.aA.Global (bJ m.aB (h % 32))=some m.aA.Global[(bJ m.aB (h % 32)).toNat]:=fY (by omega) (by omega)
    have b1:=hsO _ (List.getElem_mem hk)
    have b2:=hsG _ (List.getElem_mem hk2)
    rw [bD q,if_pos rfl,if_pos rfl]
    unfold yQ VE uK
    rw [lW hs,aG,hcp,(D2 hw hc2).1,(D2 hw hc2).2,hlo,tJ,bD (show 0≤h % 32∧h % 32≤23 by omega),PJ (by omega) (by simp only [maxLen];omega) (by simp only [maxLen];omega),bN hnot]
    simp only [aG,dU,bE,if_false,hx,hx2]
    have nz:¬w * 3+bJ m.aB (h % 32) < 0:=by omega
    simp only [bN nz,bE,if_false]
    by_cases q2:m.aA.bB[(w * 3+bJ m.aB (h % 32)).toNat].aJ.length < 2
    · have y1:(m.aA.bB[(w * 3+bJ m.aB (h % 32)).toNat].aJ.length:Int) < 2:=by omega
      have y2:¬(2:Int)≤m.aA.bB[(w * 3+bJ m.aB (h % 32)).toNat].aJ.length:=by omega
      simp only [bD y1,bN y2,bE,if_false,if_true]
      rw [aL (by simp;omega),aL (by simp;omega)]
      refine⟨_,rfl,rfl,⟨by simp only [DI];omega,by simp only;omega,by simp only;omega,by simp only [List.length_set];omega,?_⟩,?_⟩
      · rw [eS];simp only [CD hk];simp;omega
      · have hmod:((w * 3+bJ m.aB (h % 32)).toNat % 3:Nat)=(bJ m.aB (h % 32)).toNat:=by omega
        obtain⟨z1,z2⟩:=i3.aTX hr1.1 (k:=(w * 3+bJ m.aB (h % 32)).toNat) (by omega) (xs:=[h % 32]) (by simp only [←dM hk,List.length_cons,List.length_nil];omega) (by simp) (fun x hx=>by
          simp at hx;subst hx
          exact⟨by rw [hmod];show bJ m.aB (h % 32)=_;omega,by rw [hr2];omega⟩) (fun x hx=>by simp at hx;subst hx;exact hnot) hk
        refine⟨z1,fun s h1 h2=>?_⟩
        obtain⟨y1,y2,y3⟩:=hr1.2 s h1 h2
        exact⟨z2 s (by simpa using h2) y1,y2,y3⟩
    · have y1:¬(m.aA.bB[(w * 3+bJ m.aB (h % 32)).toNat].aJ.length:Int) < 2:=by omega
      have y2:(2:Int)≤m.aA.bB[(w * 3+bJ m.aB (h % 32)).toNat].aJ.length:=by omega
      simp only [bD y2,bN y1,bE,if_false,if_true]
      rw [aL (by simp;omega),aL (by simp;omega)]
      refine⟨_,rfl,rfl,⟨by simp only [DI];omega,by simp only;omega,by simp only [List.length_set];omega,by simp only;omega,?_⟩,?_⟩
      · rw [eS];simp only [CD hk2];simp;omega
      · obtain⟨z1,z2⟩:=i3.aB3 hr1.1 (k:=(bJ m.aB (h % 32)).toNat) (by omega) (xs:=[h % 32]) (by simp) (fun x hx=>by
          simp at hx;subst hx
          exact⟨by show bJ m.aB (h % 32)=_;omega,by rw [hr2];omega⟩) (fun x hx=>by simp at hx;subst hx;exact hnot) hk2
        refine⟨z1,fun s h1 h2=>?_⟩
        obtain⟨y1,y2,y3⟩:=hr1.2 s h1 h2
        exact⟨z2 s (by simpa using h2) y1,y2,y3⟩
  · rw [bN q,if_neg (by simp),if_neg (by simp)]
    refine⟨_,rfl,rfl,⟨by simp only [DI];omega,by simp only;omega,by simp only;omega,by simp only;omega,by rw [eS];simp only;omega⟩,hr1⟩
end
theorem alloc_eq{b:aE}(hm:i3 b.Mem){w:Int}(hw:0≤w∧w≤2)(s:Sub) :
    ∃x y,q7 b w s=some (x,y)∧pO s b w=some (y,x)∧∃m',x=⟨m',b.aI,b.aR,b.fW⟩∧gZ m'∧uX b.Mem m' (-1):=by
  have hsm:=(i3.facts hm).2.2.2.2.2.1
  have hs:=hm.1.1.1
  obtain⟨c,ec,ei,hcc⟩:=aB5 s.A
  unfold q7 pO
  rw [ec,ei]
  simp only [aG]
  by_cases c0:c < 0
  · simp only [bD c0,if_true,bH,bA];exact⟨_,_,rfl,rfl,_,rfl,hsm,uX.refl hm _⟩
  have hc:0≤c∧c≤2:=by omega
  simp only [bN c0,bE,if_false]
  have fin:∀(m':Mem) (x:Int),gZ m'→uX b.Mem m' (-1)→(0≤x→dW m'.aB∧0≤bJ m'.aB x) →
      ∃X Y,eZ s x ⟨m',b.aI,b.aR,b.fW⟩=some (X,Y)∧fH s x ⟨m',b.aI,b.aR,b.fW⟩=some (Y,X)∧∃m',X=⟨m',b.aI,b.aR,b.fW⟩∧gZ m'∧uX b.Mem m' (-1):=by
    intro m' x hs' hst hx
    unfold eZ fH
    simp only [nK,FC,bH,bA]
    by_cases x0:0≤x
    · obtain⟨h,e1,e2⟩:=aET (m:=m') (hx x0).1 (hx x0).2
      rw [bN (show ¬x < 0 by omega),bD x0]
      simp only [bE,if_false,if_true,e1,e2,aG]
      exact⟨_,_,rfl,rfl,m',rfl,hs',hst⟩
    · rw [bD (show x < 0 by omega),bN x0]
      by_cases p3:s.Pc=3
      · simp only [p3,beq_self_eq_true,if_true,bE,if_false,aG];exact⟨_,_,rfl,rfl,m',rfl,hs',hst⟩
      · have p3':(s.Pc == 3)=false:=by simpa using p3
        simp only [p3',if_true,bE,if_false,aG];exact⟨_,_,rfl,rfl,m',rfl,hs',hst⟩
  by_cases p0:s.Pc=0
  · obtain⟨l,t,x,e1,e2,e3,h1,h2,h3⟩:=SF hm hw hc
    simp only [p0,beq_self_eq_true,if_true,(D2 hw hc).1,aG,e1,e2,e3]
    exact fin _ x h1 h3 (fun h=>⟨hs,h2 h⟩)
  · have p0':(s.Pc == 0)=false:=by simpa using p0
    simp only [p0',bE,if_false,nL,lC]
    obtain⟨l,t,x,e1,e2,e3,h1,h2,h3⟩:=JS hm hc
    by_cases p1:s.Pc=1
    · simp only [p1,beq_self_eq_true,if_true,aG,e1,e2,e3]
      exact fin _ x h1 h3 (fun h=>⟨hs,h2 h⟩)
    · have p1':(s.Pc == 1)=false:=by simpa using p1
      simp only [p1',bE,if_false]
      by_cases p3:s.Pc=3
      · simp only [p3,beq_self_eq_true,if_true,aG,e1,e2,e3]
        exact fin _ x h1 h3 (fun h=>⟨hs,h2 h⟩)
      · have p3':(s.Pc == 3)=false:=by simpa using p3
        simp only [p3',bE,if_false]
        by_cases p2:s.Pc=2
        · obtain⟨m',x,e1,e2,h1,h2,h3⟩:=aB4 hm hc
          simp only [p2,beq_self_eq_true,if_true,aG,e1,e2]
          exact fin m' x h1 h3 h2
        · have p2':(s.Pc == 2)=false:=by simpa using p2
          simp only [p2',bE,if_false,bH,bA];exact⟨_,_,rfl,rfl,_,rfl,hsm,uX.refl hm _⟩
end Go.Gv
end
noncomputable section
namespace Go.Gv
theorem aMD(r:bC)(e:Int):∃v,BJ r e=some v∧KO r e=some v:=by
  unfold BJ KO zP FP
  by_cases h:2≤e
  · simp only [bD h,if_true];exact⟨_,rfl,rfl⟩
  · simp only [bN h,bE,if_false];exact⟨_,rfl,rfl⟩
theorem aTY{b:aE}{w:Int}{l:aP}(hx:idx b.aR w=some l)(hl:l.Rows.length≤1000)(s:Sub) :
    (pD l.Rows s.Row s.E=some (-1)∧mH s b w=(bA s 0).bind fun x=>some (x,b)) ∨
    ∃k,∃h:k < l.Rows.length,pD l.Rows s.Row s.E=some (k:Int)∧mH s b w=some (⟨s.Kind,s.A,2,s.E,(k:Int),0,l.Rows[k].Handle,s.Out,s.Code,s.eI⟩,b):=by
  have key:∀d k,k+d=l.Rows.length →
      (loop (dD l.Rows s.E) (k:Int)=some (Out.brk ())∧loop (dS s b w) (k:Int)=some (Out.brk ())) ∨
      ∃j,∃h:j < l.Rows.length,loop (dD l.Rows s.E) (k:Int)=some (Out.ret (j:Int))∧loop (dS s b w) (k:Int)=some (Out.ret (⟨s.Kind,s.A,2,s.E,(j:Int),0,l.Rows[j].Handle,s.Out,s.Code,s.eI⟩,b)):=by
    intro d
    induction d with
    | zero =>
      intro k hk
      left
      exact⟨bK (by simp only [dD];rw [if_neg (by simp;omega)]),bK (by simp only [dS,hx,aG];rw [if_neg (by simp;omega)])⟩
    | succ d ih =>
      intro k hk
      have hk':k < l.Rows.length:=by omega
      obtain⟨v,e1,e2⟩:=aMD l.Rows[k] s.E
      cases v with
      | true =>
        right
        refine⟨k,hk',bK ?_,bK ?_⟩
        · simp only [dD]
          rw [if_pos (by simp;omega),aU hk',aG,e1];rfl
        · simp only [dS,hx,aG]
          rw [if_pos (by simp;omega),aU hk',aG,e2];rfl
      | false =>
        have n1:dD l.Rows s.E (k:Int)=some (.next ((k+1:Nat):Int)):=by
          simp only [dD]
          rw [if_pos (by simp;omega),aU hk',aG,e1,aG,aM (by omega) (by omega)];rfl
        have n2:dS s b w (k:Int)=some (.next ((k+1:Nat):Int)):=by
          simp only [dS,hx,aG]
          rw [if_pos (by simp;omega),aU hk',aG,e2,aG,aM (by omega) (by omega)];rfl
        rw [bT n1,bT n2]
        exact ih (k+1) (by omega)
  unfold pD mH
  have hst:∃i:Nat,(if 0 < s.Row then s.Row else 0)=(i:Int)∧(if s.Row < 0 then 0 else s.Row)=(i:Int):=by
    refine⟨s.Row.toNat,?_,?_⟩ <;> split <;> omega
  obtain⟨i,i1,i2⟩:=hst
  rw [i1,i2]
  by_cases hi:i≤l.Rows.length
  · rcases key (l.Rows.length - i) i (by omega) with ⟨a,c⟩ | ⟨j,hj,a,c⟩
    · left;rw [a,c];exact⟨rfl,rfl⟩
    · right;rw [a,c];exact⟨j,hj,rfl,rfl⟩
  · left
    rw [bK (body:=dD l.Rows s.E) (r:=Out.brk ()) (by simp only [dD];rw [if_neg (by simp;omega)]),
      bK (body:=dS s b w) (r:=Out.brk ()) (by simp only [dS,hx,aG];rw [if_neg (by simp;omega)])]
    exact⟨rfl,rfl⟩
theorem del_eq{α:Type}{l:List α}{k:Nat}(h:k < l.length):((c9 l k (l.drop (k+1))).take (k+(l.length - (k+1)))).drop 0=l.eraseIdx k:=by
  have h1:(l.take k).length=k:=by rw [List.length_take];omega
  have h2:(l.drop (k+1)).length=l.length - (k+1):=by simp
  unfold c9
  rw [List.drop_zero,List.eraseIdx_eq_take_drop_succ,List.take_of_length_le (l:=l.drop (k+1)) (by rw [h2];omega),←List.append_assoc]
  rw [show k+(l.length - (k+1))=(l.take k++l.drop (k+1)).length by rw [List.length_append,h1,h2]]
  exact List.take_left
theorem aJ0{α:Type}{l:List α}{k:Nat}(h:k < l.length):l.Perm (l[k] :: l.eraseIdx k):=by
  have e:l=l.take k++l[k] :: l.drop (k+1):=by rw [←List.drop_eq_getElem_cons h,List.take_append_drop]
  rw [List.eraseIdx_eq_take_drop_succ]
  refine(List.Perm.of_eq e).trans ?_
  exact List.perm_middle
theorem mX.drop{b:List aP}(hL:mX b){w:Nat}(hw:w < b.length):∀k (hk:k < b[w].Rows.length),mX (b.set w ⟨b[w].Rows.eraseIdx k⟩)∧∀r∈a9 (b.set w ⟨b[w].Rows.eraseIdx k⟩),r∈a9 b∧r.Handle % 32≠b[w].Rows[k].Handle % 32:=by
  intro k hk
  have hsub:(a9 (b.set w ⟨b[w].Rows.eraseIdx k⟩)).Sublist (a9 b):=by
    rw [CB hw,y5 hw]
    exact(List.Sublist.refl _).append ((List.eraseIdx_sublist _ _).append (List.Sublist.refl _))
  have hnd:=hL.2.2.2
  refine⟨⟨by simpa using hL.1,Nat.le_trans hsub.length_le hL.2.1,fun r hr=>hL.2.2.1 r (hsub.subset hr),(hsub.map lA).nodup hnd⟩,fun r hr=>⟨hsub.subset hr,?_⟩⟩
  have hp:(a9 b).Perm (b[w].Rows[k] :: a9 (b.set w ⟨b[w].Rows.eraseIdx k⟩)):=by
    rw [CB hw,y5 hw]
    refine List.Perm.trans (List.Perm.append_left _ (List.Perm.append_right _ (aJ0 hk))) ?_
    exact List.perm_middle
  have:=(hp.map lA).nodup_iff.1 hnd
  rw [List.map_cons,List.nodup_cons] at this
  exact fun e=>this.1 (List.mem_map.2 ⟨r,hr,e⟩)
theorem aJ1{b:aE}(hb:eN b){w:Int}(hw:0≤w∧w≤2)(s:Sub) :
    ∃x y,lQ b w s=some (x,y)∧mI s b w=some (y,x)∧∃m' L,x=⟨m',b.aI,L,b.fW⟩∧gZ m'∧i3 m'∧mX L∧∀r∈a9 L,mY m' r.Handle∧r.aK≤b.aI.aK:=by
  have hm:=hb.1.1
  have hL:=hb.1.2.2.1
  have hZ:=hb.1.2.2.2
  have hsm:=(i3.facts hm).2.2.2.2.2.1
  have hlen:w.toNat < b.aR.length:=by have:=hL.1;omega
  have hx:idx b.aR w=some b.aR[w.toNat]:=fY hw.1 (by omega)
  have hrow:=hL.small.2.2.2 _ (List.getElem_mem hlen)
  have hmemL:b.aR[w.toNat]∈b.aR:=List.getElem_mem hlen
  have hset:=mX.drop hL hlen
  generalize b.aR[w.toNat]=l at hx hrow hset hmemL
  have done:∀y:Sub,∃x z,(some (b,y):Option (aE×Sub))=some (x,z)∧(some (y,b):Option (Sub×aE))=some (z,x)∧∃m' L,x=⟨m',b.aI,L,b.fW⟩∧gZ m'∧i3 m'∧mX L∧∀r∈a9 L,mY m' r.Handle∧r.aK≤b.aI.aK:=
    fun y=>⟨_,_,rfl,rfl,b.Mem,b.aR,rfl,hsm,hm,hL,hb.2⟩
  have hw1:aV ((l.Rows.length:Int) - 1)=(l.Rows.length:Int) - 1:=aM (by omega) (by omega)
  have hhas:DW b.aR w s.Row=some (decide (0≤s.Row∧s.Row≤(l.Rows.length:Int) - 1)):=by
    unfold DW AN
    rw [iY,bD hw,aG,if_pos rfl,hx,aG,eC,hw1];rfl
  unfold lQ mI
  rw [hhas,hx]
  simp only [aG,bH,bR,hw1]
  have hat:∃a:Bool,(if decide (0≤s.Row∧s.Row≤(l.Rows.length:Int) - 1)=true then (idx l.Rows s.Row).bind fun x15=>d6 s b w (x15.Handle == s.H) else d6 s b w false)=d6 s b w a ∧
      (if (!decide (0≤s.Row∧s.Row≤(l.Rows.length:Int) - 1))=true then dF b s true else (idx l.Rows s.Row).bind fun x11=>dF b s (x11.Handle != s.H))=dF b s (!a) ∧
      (a=true→∃r,r∈l.Rows∧idx l.Rows s.Row=some r∧r.Handle=s.H∧0≤s.Row∧s.Row < l.Rows.length) ∧
      (a=false→∀f:bC→Option (aE×Sub),(if (!decide (0≤s.Row∧s.Row≤(l.Rows.length:Int) - 1))=true then dI b w s l true else (idx l.Rows s.Row).bind fun x=>if (x.Handle != s.H)=true then dI b w s l true else f x)=dI b w s l true):=by
    by_cases q:0≤s.Row∧s.Row≤(l.Rows.length:Int) - 1
    · have hr:idx l.Rows s.Row=some (l.Rows[s.Row.toNat]'(by omega)):=fY q.1 (by omega)
      by_cases q2:(l.Rows[s.Row.toNat]'(by omega)).Handle=s.H
      · refine⟨true,?_,?_,fun _=>⟨_,List.getElem_mem _,hr,q2,q.1,by omega⟩,fun h=>by cases h⟩
        · rw [bD q,if_pos rfl,hr,aG,q2,beq_self_eq_true]
        · rw [bD q,if_neg (by simp),hr,aG,q2,bne_self_eq_false];rfl
      · have n1:((l.Rows[s.Row.toNat]'(by omega)).Handle == s.H)=false:=by simpa using q2
        have n2:((l.Rows[s.Row.toNat]'(by omega)).Handle != s.H)=true:=by simpa using q2
        refine⟨false,?_,?_,(fun h=>by cases h),fun _ f=>?_⟩
        · rw [bD q,if_pos rfl,hr,aG,n1]
        · rw [bD q,if_neg (by simp),hr,aG,n2];rfl
        · rw [bD q,if_neg (by simp),hr,aG,n2,if_pos rfl]
    · refine⟨false,?_,?_,(fun h=>by cases h),fun _ f=>?_⟩
      · rw [bN q,if_neg (by simp)]
      · rw [bN q,if_pos (by simp)];rfl
      · rw [bN q,if_pos (by simp)]
  obtain⟨a,ha1,ha2,ha3,ha4⟩:=hat
  rw [ha1,ha2]
  unfold d6
  by_cases p0:s.Pc=0
  · simp only [p0,beq_self_eq_true,if_true];exact done _
  have p0':(s.Pc == 0)=false:=by simpa using p0
  simp only [p0',bE,if_false]
  by_cases p1:s.Pc=1
  · simp only [p1,beq_self_eq_true,if_true]
    rcases aTY hx (by omega) s with ⟨e1,e2⟩ | ⟨k,hk,e1,e2⟩
    · rw [e1,e2,aG,if_pos (by simp)];simp only [bA,p1,aG];exact done _
    · rw [e1,e2,aG,if_neg (by simp),aU hk];simp only [aG];exact done _
  have p1':(s.Pc == 1)=false:=by simpa using p1
  simp only [p1',bE,if_false]
  by_cases p2:s.Pc=2
  · simp only [p2,beq_self_eq_true,if_true,iY,aG]
    by_cases hB:0≤s.B∧s.B≤2
    · rw [bD hB]
      simp only [dU,bE,if_false,if_true]
      cases a with
      | true =>
        have hz:idx b.fW s.B=some (b.fW[s.B.toNat]'(by have:=hZ.1;omega)):=fY hB.1 (by have:=hZ.1;omega)
        simp only [dF,dL,dU,bE,if_false,if_true,hz,aG,kS]
        by_cases q:(b.fW[s.B.toNat]'(by have:=hZ.1;omega))=s.H
        · simp only [q,beq_self_eq_true,if_true];exact done _
        · have q':((b.fW[s.B.toNat]'(by have:=hZ.1;omega)) == s.H)=false:=by simpa using q
          simp only [q',bE,if_false]
          by_cases q3:aV (s.B+1)=3
          · simp only [q3,beq_self_eq_true,if_true];exact done _
          · have q3':(aV (s.B+1) == 3)=false:=by simpa using q3
            simp only [q3',bE,if_false];exact done _
      | false =>
        simp only [dF,dL,cR,bH,bA,rX,if_true,bE,if_false,p2,show((2:Int) == 3)=false from rfl,aG]
        exact done _
    · rw [bN hB]
      simp only [dF,dL,cR,bH,bA,rX,if_true,bE,if_false,p2,show((2:Int) == 3)=false from rfl,aG]
      exact done _
  have p2':(s.Pc == 2)=false:=by simpa using p2
  simp only [p2',bE,if_false,dL]
  by_cases p3:s.Pc=3
  · simp only [p3,beq_self_eq_true,if_true]
    cases a with
    | false =>
      rw [ha4 rfl]
      simp only [dI,cR,bH,bA,if_true,bE,if_false,aG]
      exact done _
    | true =>
      obtain⟨r,hrm,hr,hrH,r0,r1⟩:=ha3 rfl
      obtain⟨v,e1,e2⟩:=aMD r s.E
      rw [bD (show 0≤s.Row∧s.Row≤(l.Rows.length:Int) - 1 by omega)]
      simp only [dU,bE,if_false,if_true,hr,aG,hrH,bne_self_eq_false,hx,e1,e2]
      cases v with
      | false =>
        simp only [dI,cR,bH,bA,rX,if_true,bE,if_false,aG]
        exact done _
      | true =>
        have hlive:mY b.Mem s.H:=by
          have:r∈a9 b.aR:=List.mem_flatMap.2 ⟨l,hmemL,hrm⟩
          have:=(hb.2 r this).1
          rwa [hrH] at this
        obtain⟨m',f1,f2,f3,f4⟩:=aMC hm hw hlive
        have ew:aV (s.Row+1)=s.Row+1:=aM (by omega) (by omega)
        have hdrop:FQ b.aR w s.Row=some (b.aR.set w.toNat ⟨((c9 l.Rows s.Row.toNat (l.Rows.drop (s.Row+1).toNat)).take (s.Row.toNat+(l.Rows.length - (s.Row+1).toNat))).drop 0⟩,true):=by
          unfold FQ wZ
          rw [JO hL.small.2.2.1 (fun s h=>by have:=hL.small.2.2.2 s h;omega),xH hL.small.1,bD hL,hhas,bD (show 0≤s.Row∧s.Row≤(l.Rows.length:Int) - 1 by omega)]
          simp only [aG,dU,bE,if_false,hx,ew]
          unfold yG
          rw [aL (by omega),if_neg (by simp;omega),aL (by omega),aL (by omega),aL (by omega),aL]
          · rfl
          · rw [fG (by omega)]
            simp only [List.drop_zero,List.length_take,fG (show s.Row.toNat≤l.Rows.length by omega)]
            omega
        simp only [dI,cR,pE,ew,dU,bE,if_false,if_true]
        rw [aL (by omega),aL (by omega),aL (by omega),dJ,if_pos hlive.1,aG,f1,f2,hdrop]
        have hk:s.Row.toNat < l.Rows.length:=by omega
        have eL:((c9 l.Rows s.Row.toNat (l.Rows.drop (s.Row+1).toNat)).take (s.Row.toNat+(l.Rows.length - (s.Row+1).toNat))).drop 0=l.Rows.eraseIdx s.Row.toNat:=by
          rw [show(s.Row+1).toNat=s.Row.toNat+1 by omega];exact del_eq hk
        have er:l.Rows[s.Row.toNat]=r:=by
          have:=aU hk
          rw [show((s.Row.toNat:Nat):Int)=s.Row by omega,hr] at this
          exact(Option.some.inj this).symm
        rw [eL] at hdrop ⊢
        obtain⟨g1,g2⟩:=hset s.Row.toNat hk
        refine⟨_,_,rfl,rfl,m',_,rfl,f3,f4.1,g1,fun q hq=>?_⟩
        obtain⟨g3,g4⟩:=g2 q hq
        obtain⟨g5,g6⟩:=hb.2 q g3
        refine⟨f4.live g5 fun e=>?_,g6⟩
        rw [er,hrH] at g4
        exact g4 e
  · have p3':(s.Pc == 3)=false:=by simpa using p3
    simp only [p3',bE,if_false,cR,bA,aG]
    exact done _
end Go.Gv
end
noncomputable section
namespace Go.Gv
theorem tK.fits{b:aE}(h:tK b):b.Mem.aB.Bytes.length≤maxLen∧(cK b.Mem.aA).length≤1073741824∧b.aI.aX.length≤maxLen∧b.aR.length≤maxLen∧(a9 b.aR).length≤1073741824∧b.fW.length≤maxLen:=by
  have hb:(1048576:Nat)≤maxLen:=by simp [maxLen]
  have g1:=h.1.1;have g2:=h.1.2.2.2.2;have g3:=h.2.1;have g4:=h.2.2.1;have g5:=h.2.2.2.1;have g6:=h.2.2.2.2
  exact⟨by omega,by omega,by omega,by omega,by omega,by omega⟩
theorem step_eq{b:aE}(hb:eN b)(hs:tK b){w:Int}(hw:0≤w∧w≤2)(s:Sub) :
    ∃x y,BK b w s=some (x,y)∧mS s b w=some (y,x)∧eN x:=by
  have hz:=hb.1.2.2.2.1
  have hl:=hb.1.2.2.1
  unfold BK mS
  cases hd:s.eI with
  | true=>exact⟨_,_,rfl,rfl,hb⟩
  | false =>
    simp only [bE,if_false]
    by_cases k1:s.Kind=1
    · obtain⟨x,y,e1,e2,m,rfl,h1,h2⟩:=alloc_eq hb.1.1 hw s
      simp only [k1,beq_self_eq_true,if_true,e1,e2,aG]
      exact⟨_,_,rfl,rfl,⟨h2.1,hb.1.2⟩,fun r hr=>⟨h2.live (hb.2 r hr).1 (by have:=(hb.2 r hr).1.1;unfold pS at this;omega),(hb.2 r hr).2⟩⟩
    have k1':(s.Kind == 1)=false:=by simpa using k1
    simp only [k1',bE,if_false]
    by_cases k2:s.Kind=2
    · obtain⟨x,y,e1,e2,L,rfl,h1,h2⟩:=aM6 hb hs hw s
      simp only [k2,beq_self_eq_true,if_true,e1,e2,aG]
      exact⟨_,_,rfl,rfl,⟨hb.1.1,hb.1.2.1,h1,hb.1.2.2.2⟩,h2⟩
    have k2':(s.Kind == 2)=false:=by simpa using k2
    simp only [k2',bE,if_false]
    by_cases k3:s.Kind=3
    · obtain⟨x,y,e1,e2,c,rfl,h1,h2⟩:=aJW hb.1.2.1 s
      simp only [k3,beq_self_eq_true,if_true,e1,e2,aG]
      exact⟨_,_,rfl,rfl,⟨hb.1.1,h1,hb.1.2.2⟩,fun r hr=>⟨(hb.2 r hr).1,Int.le_trans (hb.2 r hr).2 h2⟩⟩
    have k3':(s.Kind == 3)=false:=by simpa using k3
    simp only [k3',bE,if_false]
    by_cases k4:s.Kind=4
    · obtain⟨x,y,e1,e2,m,L,rfl,h1,h2,h3,h4⟩:=aJ1 hb hw s
      simp only [k4,beq_self_eq_true,if_true,e1,e2,aG]
      exact⟨_,_,rfl,rfl,⟨h2,hb.1.2.1,h3,hb.1.2.2.2⟩,h4⟩
    have k4':(s.Kind == 4)=false:=by simpa using k4
    simp only [k4',bE,if_false]
    by_cases k5:s.Kind=5
    · obtain⟨x,y,e1,e2,c,rfl,h1,h2⟩:=aWV hb.1.2.1 hw s
      simp only [k5,beq_self_eq_true,if_true,e1,e2,aG]
      exact⟨_,_,rfl,rfl,⟨hb.1.1,h1,hb.1.2.2⟩,fun r hr=>⟨(hb.2 r hr).1,Int.le_trans (hb.2 r hr).2 h2⟩⟩
    have k5':(s.Kind == 5)=false:=by simpa using k5
    simp only [k5',bE,if_false,bH,bA,aG]
    exact⟨_,_,rfl,rfl,hb⟩
theorem eN.small{b:aE}(hb:eN b):tK b:=by
  have h1:=hb.1.2.1.2.1;have h2:=hb.1.2.2.1.1;have h3:=hb.1.2.2.1.2.1;have h4:=hb.1.2.2.2.1
  exact⟨(i3.facts hb.1.1).2.2.2.2.2.1,by omega,by omega,by omega,by omega⟩
end Go.Gv
end
noncomputable section
namespace Go.Gv
theorem Y6{b:List Int}{a:Nat}{n:Int}(h:a+4≤b.length){j:Nat}(hj:j < a∨a+4≤j):bt (JQ b a n) j=bt b j:=by
  unfold JQ
  rw [HJ (by simp;omega),HJ (by simp;omega),HJ (by simp;omega),HJ (by omega),if_neg (by omega),if_neg (by omega),if_neg (by omega),if_neg (by omega)]
theorem SM.put{h:aB}(hh:SM h){s:Int}(hc:0≤bJ h s){n:Int}(hn:0≤n∧n≤4294967295) :
    SM ⟨JQ h.Bytes ((e9 s (bJ h s)).toNat+4) n,h.Class⟩∧∀t,0≤bJ h t→j4 ⟨JQ h.Bytes ((e9 s (bJ h s)).toNat+4) n,h.Class⟩ t=j4 h t:=by
  obtain⟨hs,hp⟩:=hh
  have h384:=hs.1
  have hs':dW ⟨JQ h.Bytes ((e9 s (bJ h s)).toNat+4) n,h.Class⟩:=⟨by rw [T6];exact hs.1,hs.2.1,aM7 hs.2.2.1 _ hn,hs.2.2.2⟩
  obtain⟨p,i,p6,hi,es,ec,eo,ep⟩:=D1 hc
  have hcl:0≤bV h p∧bV h p≤2:=iV.1 (by omega)
  have hroom:8+i * (aW (bV h p)).toNat+8≤64∧∀j,j < (b7 (bV h p)).toNat→j * (aW (bV h p)).toNat+4≤i * (aW (bV h p)).toNat+4∨i * (aW (bV h p)).toNat+12≤j * (aW (bV h p)).toNat:=by
    generalize bV h p=c at hi hcl
    rcases e7 hcl with rfl | rfl | rfl
    · rw [show(b7 0).toNat=4 from rfl] at *;rw [show(aW 0).toNat=12 from rfl]
      exact⟨by omega,fun j hj=>by omega⟩
    · rw [show(b7 1).toNat=2 from rfl] at *;rw [show(aW 1).toNat=20 from rfl]
      exact⟨by omega,fun j hj=>by omega⟩
    · rw [show(b7 2).toNat=1 from rfl] at *;rw [show(aW 2).toNat=44 from rfl]
      exact⟨by omega,fun j hj=>by omega⟩
  have hgen:∀q j,q < 6→j < (b7 (bV h q)).toNat→ld (JQ h.Bytes ((e9 s (bJ h s)).toNat+4) n) (q * 64+8+j * (aW (bV h q)).toNat) 4=ld h.Bytes (q * 64+8+j * (aW (bV h q)).toNat) 4:=fun q j hq hj=>by
    have hz:=uR hs hq rfl hj
    refine QG (by omega) (by simp only [T6]) fun k k1 k2=>?_
    by_cases e:q=p
    · subst e
      have:=hroom.2 j hj
      exact Y6 (by omega) (by omega)
    · exact Y6 (by omega) (by omega)
  refine⟨⟨hs',fun q hq=>?_⟩,fun t ht=>?_⟩
  · rw [KW hs' hq]
    have hold:=(KW hs hq).1 (hp q hq)
    by_cases e:q=p
    · subst e
      have hcl':¬bV h q < 0:=by omega
      unfold YI at hold ⊢
      have hcc:bV ⟨JQ h.Bytes ((e9 s (bJ h s)).toNat+4) n,h.Class⟩ q=bV h q:=rfl
      rw [hcc]
      rw [if_neg hcl'] at hold ⊢
      obtain⟨⟨a1,a2,a3⟩,a4,a5⟩:=hold
      have bs:∀k,k < 8→bt (JQ h.Bytes ((e9 s (bJ h s)).toNat+4) n) (q * 64+k)=bt h.Bytes (q * 64+k):=fun k hk=>Y6 (by omega) (by omega)
      have b0:=bs 0 (by omega);have b1:=bs 1 (by omega);have b2:=bs 2 (by omega)
      simp only [Nat.add_zero] at b0
      refine⟨⟨by rw [b0];exact a1,by rw [b1];exact a2,by rw [b2];exact a3⟩,fun k k3 k8=>by rw [bs k k8];exact a4 k k3 k8,fun j hj=>?_⟩
      rw [hgen q j hq hj];exact a5 j hj
    · refine YI.same hq hs (by simp only [T6]) rfl (fun k hk=>Y6 (by omega) (by omega)) hold
  · obtain⟨p',i',p6',hi',es',ec',eo',ep'⟩:=D1 ht
    have e2:bJ ⟨JQ h.Bytes ((e9 s (bJ h s)).toNat+4) n,h.Class⟩ t=bJ h t:=rfl
    unfold j4
    rw [e2,eo']
    exact hgen p' i' p6' hi'
theorem i3.put{m:Mem}(hm:i3 m){s:Int}(hc:0≤bJ m.aB s){n:Int}(hn:0≤n∧n≤4294967295):uX m ⟨⟨JQ m.aB.Bytes ((e9 s (bJ m.aB s)).toNat+4) n,m.aB.Class⟩,m.aA⟩ (-1):=by
  obtain⟨a,b⟩:=SM.put hm.1.1 hc hn
  refine⟨i3.heap hm a fun x hx=>⟨rfl,b x (i3.PM hm hx).1⟩,fun t ht _=>?_⟩
  have ht':=qU.1 ht
  have e:=b t ht'.1
  exact⟨qU.2 ⟨ht'.1,ht'.2.1,by simp only [e];exact ht'.2.2⟩,e,rfl⟩
theorem start_eq{h:aB}(hs:dW h){s:Int}(hc:0≤bJ h s):E7 s (bJ h s)=some (e9 s (bJ h s)+4)∧LI s (bJ h s)=some (e9 s (bJ h s)+4):=by
  have hg:=DE hc
  unfold E7 LI
  rw [mV,wB,aG,if_neg (by simp;omega),aM (by omega) (by omega)]
  exact⟨rfl,rfl⟩
theorem aJ2{h:aB}(hs:dW h){s:Int}(hc:0≤bJ h s):FR h s 0 4=some (e9 s (bJ h s)+4):=by
  have hg:=DE hc
  have hc2:0≤bJ h s∧bJ h s≤2:=by
    obtain⟨_,q,e⟩:=xF hc
    rw [e];exact iV.1 (by omega)
  have hz:8≤fN (bJ h s)∧fN (bJ h s)≤40:=by rcases e7 hc2 with e | e | e <;> rw [e] <;> decide
  unfold FR TH
  rw [lW hs,aG,(start_eq hs hc).2,aG,if_neg (by simp;omega),O9]
  simp only [aG,eC]
  rw [aM (x:=e9 s (bJ h s)+4+fN (bJ h s)) (by omega) (by omega),aM (x:=e9 s (bJ h s)+4+fN (bJ h s) - (e9 s (bJ h s)+4)) (by omega) (by omega),aM (x:=e9 s (bJ h s)+4+fN (bJ h s) - (e9 s (bJ h s)+4) - 4) (by omega) (by omega),bD (by omega),aM (by omega) (by omega)]
  simp
theorem aH6{n:Int}(hn:0≤n∧n≤65535):∃t:List UInt8,xL n 4=some t∧(t == [])=false:=by
  have st:∀(m:Int) (c:List UInt8) (i:Nat),c.length≤4→i < 4→0≤m→m≤4294967295→vM 4 (m,c,(i:Int))=some (.next (m / 256,[u8 (m % 256)]++c,((i+1:Nat):Int))):=fun m c i hc hi h0 h1=>by
    simp only [vM]
    rw [if_pos (by simp;omega),aL (by simp;omega),oW h0,A0 h0,aM (x:=m / 256) (by omega) (by omega),aM (by omega) (by omega)];rfl
  unfold xL
  rw [bR]
  simp only [aG,show(decide ((1:Int)≤4∧(4:Int)≤7))=true from rfl,dU,bE,if_false,vN,bN (show ¬n < 0 by omega)]
  rw [show(0:Int)=((0:Nat):Int) from rfl,bT (st n [] 0 (by simp) (by omega) hn.1 (by omega)),bT (st _ _ 1 (by simp) (by omega) (by omega) (by omega)),bT (st _ _ 2 (by simp) (by omega) (by omega) (by omega)),bT (st _ _ 3 (by simp) (by omega) (by omega) (by omega)),bK (by simp only [vM];rw [if_neg (by simp)])]
  simp only [aG,IY,IX]
  rw [if_neg (by simp;omega)]
  exact⟨_,rfl,rfl⟩
theorem aJ3{m:Mem}(hm:i3 m){h n:Int}(hn:0≤n∧n≤65535):∃x c,o9 m h 0 4 n=some (x,c)∧TJ m h 0 4 n=some (x,c)∧uX m x (-1)∧(c≠0→x=m):=by
  obtain⟨hcnt,h3,h9,h1,h2,hsm,hcp,hlo,hsG,hsO⟩:=i3.facts hm
  have hs:=hm.1.1.1
  have hbl:m.aB.Bytes.length≤maxLen:=by rw [h1];simp [maxLen]
  have hall:(cK m.aA).length≤1073741824:=by omega
  have hg:m.aA.Global.length≤maxLen:=by rw [h3];simp [maxLen]
  have ho:m.aA.bB.length≤maxLen:=by rw [h9];simp [maxLen]
  have hw4:pN 4=some true:=by unfold pN;rw [eC];rfl
  unfold o9 TJ H6 WE
  rw [D0 hsm,WN hsm,rH hbl hall,rI hbl hall,bD hm,bR,hw4,aBY ⟨hn.1,by omega⟩]
  simp only [aG,dU,bE,if_false,sE,G3,show(decide ((1:Int)≤4∧(4:Int)≤7))=true from rfl,lX hs hall hg ho,HF hs hall hg ho]
  by_cases hv:mY m h
  · have hh:=hv.1
    have hcl:=yZ hv.2.1
    have hgo:=DE hcl
    have hc2:0≤bJ m.aB (h % 32)∧bJ m.aB (h % 32)≤2:=by
      obtain⟨_,q,e⟩:=xF hcl
      rw [e];exact iV.1 (by omega)
    have hz:8≤fN (bJ m.aB (h % 32))∧fN (bJ m.aB (h % 32))≤40:=by rcases e7 hc2 with e | e | e <;> rw [e] <;> decide
    obtain⟨p,i,p6,hi,es,ec,eo,ep⟩:=D1 hcl
    have hroom:(e9 (h % 32) (bJ m.aB (h % 32))).toNat+8≤384:=by
      rw [eo]
      have hcl':0≤bV m.aB p∧bV m.aB p≤2:=by rw [←ec];exact hc2
      generalize bV m.aB p=c at hi hcl'
      rcases e7 hcl' with rfl | rfl | rfl
      · rw [show(b7 0).toNat=4 from rfl] at hi;rw [show(aW 0).toNat=12 from rfl];omega
      · rw [show(b7 1).toNat=2 from rfl] at hi;rw [show(aW 1).toNat=20 from rfl];omega
      · rw [show(b7 2).toNat=1 from rfl] at hi;rw [show(aW 2).toNat=44 from rfl];omega
    simp only [bD hv,dU,bE,if_false,dJ,if_pos hh,aG,gW hs,A1,bR,hh.mod.1,aJ2 hs hcl]
    rw [aM (x:=fN (bJ m.aB (h % 32)) - 1) (by omega) (by omega),bD (show(0:Int)≤0∧(0:Int)≤fN (bJ m.aB (h % 32)) - 1 by omega),aM (x:=fN (bJ m.aB (h % 32)) - 0) (by omega) (by omega),bN (show ¬fN (bJ m.aB (h % 32)) - 0 < 4 by omega)]
    simp only [dU,bE,if_false,sD,(start_eq hs hcl).1,aG]
    rw [aM (x:=e9 (h % 32) (bJ m.aB (h % 32))+4+0) (by omega) (by omega),Int.add_zero,bN (show ¬e9 (h % 32) (bJ m.aB (h % 32))+4 < 0 by omega)]
    have eo':e9 (h % 32) (bJ m.aB (h % 32))+4=(((e9 (h % 32) (bJ m.aB (h % 32))).toNat+4:Nat):Int):=by omega
    have hput:=i3.put hm hcl (n:=n) ⟨hn.1,by omega⟩
    have hspf:∃t:List UInt8,xL n 4=some t∧(t == [])=false:=aH6 hn
    obtain⟨t,ht1,ht2⟩:=hspf
    have hld:pG m.aB.Bytes (((e9 (h % 32) (bJ m.aB (h % 32))).toNat+4:Nat):Int) 4=some (ld m.aB.Bytes ((e9 (h % 32) (bJ m.aB (h % 32))).toNat+4) 4):=EO hs.2.2.1 (w:=4) (by omega) (by omega) (by omega)
    rw [eo',hld]
    simp only [aG,bE,if_false,bne_self_eq_false,ht1,ht2,show(RS n == [])=false from rfl]
    rw [aER (by omega) (by omega) ⟨hn.1,by omega⟩,aBZ (by omega) (by omega) ⟨hn.1,by omega⟩]
    exact⟨_,_,rfl,rfl,hput,fun q=>absurd rfl q⟩
  · simp only [bN hv,rX,if_true,aG,show((4:Int) != 0)=true from rfl]
    exact⟨_,_,rfl,rfl,uX.refl hm _,fun _=>rfl⟩
end Go.Gv
end
noncomputable section
namespace Go.Gv
def aGL(k:Int):Prop:=k=1∨k=2∨k=3∨k=7
instance (k:Int):Decidable (aGL k):=by unfold aGL;infer_instance
def aEW(o:GOp):Prop:=(1≤o.Kind∧o.Kind≤7)∧(aGL o.Kind∨o.Cell=0)∧(0≤o.Cell∧o.Cell≤1)∧if o.Kind=1 then (0≤o.aQ4∧o.aQ4≤100)∧0≤o.Val∧o.Val≤65535 else o.aQ4=0∧o.Val=0
instance (o:GOp):Decidable (aEW o):=by unfold aEW;infer_instance
theorem hb0(x:Int):(x == 0)=decide (x=0):=by rw [Bool.eq_iff_iff];simp
def aRF(l:List GOp):Prop:=∀o∈l,aEW o
instance (l:List GOp):Decidable (aRF l):=by unfold aRF;infer_instance
def QOk(q:Queue):Prop:=q.SN.length≤12∧aRF q.SN
instance (q:Queue):Decidable (QOk q):=by unfold QOk;infer_instance
def aWZ(l:List Queue):Prop:=l.length=3∧∀q∈l,QOk q
instance (l:List Queue):Decidable (aWZ l):=by unfold aWZ;infer_instance
def aUV:S4:=⟨false,⟨0,0,0,0⟩,0,0,⟨0,0,0,0,0,0,0,0,0,false⟩,0,0,0,0⟩
def JOk(j:S4):Prop:=if j.aF0 then aEW j.Op∧lB j.H∧lB j.Old else j=aUV
instance (j:S4):Decidable (JOk j):=by unfold JOk;infer_instance
def SOk(s:yL):Prop:=eN s.aE∧s.Cells.length=2∧s.aAV.length=3∧aWZ s.VG∧(0≤s.EJ∧s.EJ≤1000000)∧(∀h∈s.Cells,lB h)∧∀j∈s.aAV,JOk j
instance (s:yL):Decidable (SOk s):=by unfold SOk;infer_instance
noncomputable section
variable {s:yL} (hf:s.aE.Mem.aB.Bytes.length≤maxLen∧(cK s.aE.Mem.aA).length≤1073741824∧s.aE.aI.aX.length≤maxLen∧s.aE.aR.length≤maxLen∧(a9 s.aE.aR).length≤1073741824∧s.aE.fW.length≤maxLen) (ht:s.VG.length≤maxLen) (hq:∀q∈s.VG,q.SN.length≤maxLen) (hcl:s.Cells.length≤maxLen) (hjl:s.aAV.length≤maxLen)
include hf ht
include hq hcl hjl
end
end Go.Gv
end
noncomputable section
namespace Go.Gv
theorem aW0{a b:Int}(h:¬a=b):(a == b)=false:=by simpa using h
theorem aH7{c:aI}(hc:JK c){w:Int}(hw:0≤w∧w≤2):∃r,GK c w=some r∧aAT c w=some r∧JK r.1∧r.1.aK=c.aK:=by
  obtain⟨p,hp,hpk⟩:=aJV hc hw
  unfold GK aAT
  rw [kC hc.small.1,wE hc.small.1,gX,qT hc.small.2,iY,bR,bD hc,bD hw]
  simp only [aG,dU,bE,if_false,hp,vT,C6]
  cases p.On with
  | true =>
    simp only [dU,bE,if_false]
    have h0:=hc.1
    exact⟨_,rfl,rfl,hc.aGG ⟨by simp only;omega,by simp,fun _=>rfl⟩,rfl⟩
  | false=>simp only [rX,if_true];exact⟨_,rfl,rfl,hc,rfl⟩
theorem HV.set{z:List Int}(hz:HV z)(k:Nat){h:Int}(hh:lB h):HV (z.set k h):=⟨by simpa using hz.1,fun q hq=>(List.mem_or_eq_of_mem_set hq).elim (hz.2 q) (fun e=>e ▸ hh)⟩
theorem aB7{z:List Int}(hz:HV z){w:Int}(hw:0≤w∧w≤2)(h:Int):∃r,zQ z w h=some r∧TL z w h=some r∧HV r.1:=by
  have h3:=hz.1
  have hx:idx z w=some (z[w.toNat]'(by omega)):=fY hw.1 (by omega)
  unfold zQ TL
  rw [FZ (by omega),pT (by omega),JL (by simp only [maxLen];omega),JM (by simp only [maxLen];omega),bD hz,bR,iY,bD hw,iA,oY]
  simp only [aG,dU,bE,if_false,qF,xA,hx]
  by_cases q:pS h
  · simp only [bD q,dU,bE,if_false];exact⟨_,rfl,rfl,hz.set _ (.inr q)⟩
  · simp only [bN q,rX,if_true];exact⟨_,rfl,rfl,hz⟩
theorem aRG{z:List Int}(hz:HV z){w:Int}(hw:0≤w∧w≤2):∃r,LD z w=some r∧aAU z w=some r∧HV r.1:=by
  have h3:=hz.1
  have hx:idx z w=some (z[w.toNat]'(by omega)):=fY hw.1 (by omega)
  unfold LD aAU
  rw [FZ (by omega),pT (by omega),JL (by simp only [maxLen];omega),JM (by simp only [maxLen];omega),bD hz,bR,iY,bD hw]
  simp only [aG,dU,bE,if_false,vU,C7,hx]
  by_cases q:(z[w.toNat]'(by omega))=0
  · simp only [q,beq_self_eq_true,if_true];exact⟨_,rfl,rfl,hz⟩
  · simp only [aW0 q,bE,if_false];exact⟨_,rfl,rfl,hz.set _ (.inl rfl)⟩
theorem eN.clock{b:aE}(hb:eN b){cl:aI}(h:JK cl)(e:b.aI.aK≤cl.aK):eN ⟨b.Mem,cl,b.aR,b.fW⟩:=⟨⟨hb.1.1,h,hb.1.2.2⟩,fun r hr=>⟨(hb.2 r hr).1,Int.le_trans (hb.2 r hr).2 e⟩⟩
theorem eN.haz{b:aE}(hb:eN b){z:List Int}(h:HV z):eN ⟨b.Mem,b.aI,b.aR,z⟩:=⟨⟨hb.1.1,hb.1.2.1,hb.1.2.2.1,h⟩,hb.2⟩
theorem eN.mem{b:aE}(hb:eN b){m:Mem}(h:uX b.Mem m (-1)):eN ⟨m,b.aI,b.aR,b.fW⟩:=⟨⟨h.1,hb.1.2⟩,fun r hr=>⟨h.live (hb.2 r hr).1 (by have:=(hb.2 r hr).1.1;unfold pS at this;omega),(hb.2 r hr).2⟩⟩
theorem SOk.put{s:yL}(hs:SOk s){w:Int}{b:aE}(hb:eN b){c:List Int}(hc:c.length=2∧∀h∈c,lB h){j:S4}(hj:JOk j)(l:List Ev):SOk ⟨b,c,s.aAV.set w.toNat j,s.VG,l,s.EJ⟩:=
  ⟨hb,hc.1,by simpa using hs.2.2.1,hs.2.2.2.1,hs.2.2.2.2.1,hc.2,fun q hq=>(List.mem_or_eq_of_mem_set hq).elim (hs.2.2.2.2.2.2 q) (fun e=>e ▸ hj)⟩
noncomputable section
variable {s:yL} (hs:SOk s) (hl:s.Log.length≤1000000000) {w:Int} (hw:0≤w∧w≤2) {j:S4} (hj:idx s.aAV w=some j) (hb:j.aF0=true) (hjo:aEW j.Op∧lB j.H∧lB j.Old)
include hs hl hw hj hb hjo
end
end Go.Gv
end
noncomputable section
namespace Go.Gv
def JT(s:Sub)(code:Int):Sub:={s with Code:=code,eI:=true}
def HK(n:Int):Int:=if 1≤n∧n≤8 then 0 else if 1≤n∧n≤16 then 1 else if 1≤n∧n≤40 then 2 else -1
theorem aJ4(n:Int):-1≤HK n∧HK n≤2:=by unfold HK;split <;> (try split) <;> (try split) <;> omega
theorem aNA(n:Int):pA n=some (HK n):=by
  have s1:∀k,0≤k∧k≤2→dX n k=some (if 1≤n∧n≤fN k then .stop (Out.ret k) else .next (k+1)):=fun k hk=>by
    simp only [dX]
    rw [if_pos (by simp;omega),A1,aG,bR,aG,aM (by omega) (by omega)]
    by_cases q:1≤n∧n≤fN k
    · rw [bD q,if_pos rfl,if_pos q]
    · rw [bN q,if_neg (by simp),if_neg q]
  have z0:fN 0=8:=rfl
  have z1:fN 1=16:=rfl
  have z2:fN 2=40:=rfl
  unfold pA HK
  by_cases q0:1≤n∧n≤8
  · rw [bK (by rw [s1 0 (by omega),if_pos (by omega)]),if_pos q0];rfl
  · rw [bT (by rw [s1 0 (by omega),if_neg (by omega)]),if_neg q0,show(0:Int)+1=1 from rfl]
    by_cases q1:1≤n∧n≤16
    · rw [bK (by rw [s1 1 (by omega),if_pos (by omega)]),if_pos q1];rfl
    · rw [bT (by rw [s1 1 (by omega),if_neg (by omega)]),if_neg q1,show(1:Int)+1=2 from rfl]
      by_cases q2:1≤n∧n≤40
      · rw [bK (by rw [s1 2 (by omega),if_pos (by omega)]),if_pos q2];rfl
      · rw [bT (by rw [s1 2 (by omega),if_neg (by omega)]),if_neg q2,show(2:Int)+1=3 from rfl,bK (body:=dX n) (r:=Out.brk ()) (by simp [dX])];rfl
def aDY(l:List Int):List Int×Int:=(l.dropLast,l.getLastD (-1))
theorem Y7{s:aC}(h:s.aJ.length≤1048576):jC s=some (⟨(aDY s.aJ).1⟩,(aDY s.aJ).2):=by
  unfold jC CJ aDY
  obtain⟨l⟩:=s
  rcases List.eq_nil_or_concat l with rfl | ⟨L,b,rfl⟩
  · rfl
  · simp only [List.concat_eq_append] at h ⊢
    have hl:(L ++ [b]).length=L.length+1:=by simp
    rw [hl,aM (by omega) (by omega),show((L.length+1:Nat):Int) - 1=(L.length:Int) by omega,if_neg (by simp;omega),aL (by omega),aU (by rw [hl];omega)]
    simp
def UA(m:Mem)(w c:Int):Mem×Int:=(⟨m.aB,⟨m.aA.Global,m.aA.bB.set (w * 3+c).toNat ⟨(aDY (eU m.aA.bB (w * 3+c).toNat)).1⟩⟩⟩,(aDY (eU m.aA.bB (w * 3+c).toNat)).2)
def KX(m:Mem)(c:Int):Mem×Int:=(⟨m.aB,⟨m.aA.Global.set c.toNat ⟨(aDY (eU m.aA.Global c.toNat)).1⟩,m.aA.bB⟩⟩,(aDY (eU m.aA.Global c.toNat)).2)
def VV(h:aB):Nat:=h.Class.findIdx (fun x=>decide (x = -1))
def SG(m:Mem)(c:Int):Mem×Int:=if VV m.aB=6 then (m,-1) else
  (⟨⟨gB m.aB.Bytes (VV m.aB) c (b7 c).toNat,m.aB.Class.set (VV m.aB) c⟩,⟨m.aA.Global.set c.toNat ⟨eU m.aA.Global c.toNat++(gS (VV m.aB) (b7 c).toNat).drop 1⟩,m.aA.bB⟩⟩,(VV m.aB:Int) * 4)
theorem aRH{h:aB}(hs:dW h):VV h≤6:=by rw [←hs.2.1];exact List.findIdx_le_length
theorem aW1{h:aB}(hs:dW h)(hq:VV h≠6):VV h < 6∧bV h (VV h) = -1:=by
  have h6:=hs.2.1
  have hlt:VV h < 6:=by have:=aRH hs;omega
  refine⟨hlt,?_⟩
  rw [←QD hs hlt]
  have:=List.findIdx_getElem (xs:=h.Class) (p:=fun x=>decide (x = -1)) (w:=by show VV h < _;omega)
  exact of_decide_eq_true this
theorem aTZ{h:aB}(hs:dW h):∀j (hj:j < 6),j < VV h→bV h j≠-1:=fun j hj hlt=>by
  have:=List.not_of_lt_findIdx hlt
  rw [←QD hs hj]
  simpa using this
theorem aW2{h:aB}(hh:SM h){c:Int}(hc:0≤c∧c≤2):jT h c=some (if VV h=6 then (h,[]) else (⟨gB h.Bytes (VV h) c (b7 c).toNat,h.Class.set (VV h) c⟩,gS (VV h) (b7 c).toNat)):=by
  have hs:=hh.1
  have h6:=hs.2.1
  have h384:=hs.1
  have hle:=aRH hs
  have s1:∀k (hk:k < VV h),dP h c (k:Int)=some (.next ((k+1:Nat):Int)):=fun k hk=>by
    have n:(h.Class[k] != -1)=true:=by
      have:=aTZ hs k (by omega) hk
      rw [←QD hs (by omega)] at this
      simpa using this
    simp only [dP,wI]
    rw [if_pos (by simp;omega),aU (by omega),aG,n,if_pos rfl,aM (by omega) (by omega)];rfl
  unfold jT
  by_cases hq:VV h=6
  · have a1:loop (dP h c) 0=some (Out.brk ()):=cM (VV h) (fun k=>(k:Int)) _ s1 (by simp only [dP];rw [if_neg (by simp;omega)])
    rw [a1,if_pos hq];rfl
  · obtain⟨hlt,he⟩:=aW1 hs hq
    rw [←QD hs hlt] at he
    generalize hqq:VV h=q at *
    have a1:loop (dP h c) 0=some (Out.ret (⟨gB h.Bytes q c (b7 c).toNat,h.Class.set q c⟩,gS q (b7 c).toNat)):=cM q (fun k=>(k:Int)) _ s1 (by
      have e0:aV ((q:Int) * 64)=((q * 64:Nat):Int):=by rw [aM (by omega) (by omega)];omega
      have e1:aV (((q * 64:Nat):Int)+1)=((q * 64+1:Nat):Int):=by rw [aM (by omega) (by omega)];omega
      have e2:aV (((q * 64:Nat):Int)+2)=((q * 64+2:Nat):Int):=by rw [aM (by omega) (by omega)];omega
      have n:(h.Class[q] != -1)=false:=by simpa using he
      simp only [dP,e0,e1,e2,Int.toNat_natCast]
      rw [if_pos (by simp;omega),aU (by omega),aG,n,if_neg (by simp),aU (by omega),aG,aU (by simp;omega),aG,eW,aG,aU (by simp;omega),aG]
      have:=aB1 h384 hlt hc
      simp only [gB] at this
      rw [this];rfl)
    rw [a1,if_neg hq];rfl
theorem aNB{m:Mem}(hm:i3 m){c:Int}(hc:0≤c∧c≤2):pB m c=some (SG m c):=by
  have h3:=hm.1.2.1
  have hpp:0 < b7 c:=iV.2 hc
  have hp4:=jZ c
  obtain⟨_,_,_,_,_,_,_,_,hsG,_⟩:=i3.facts hm
  unfold pB SG
  rw [aW2 hm.1.1 hc]
  by_cases hq:VV m.aB=6
  · simp only [if_pos hq,aG];rfl
  · have hk:c.toNat < m.aA.Global.length:=by omega
    have hg0:=hsG _ (List.getElem_mem hk)
    have hx:idx m.aA.Global c=some m.aA.Global[c.toNat]:=fY hc.1 (by omega)
    have hz:idx (gS (VV m.aB) (b7 c).toNat) 0=some ((VV m.aB:Int) * 4):=by
      have:=aU (l:=gS (VV m.aB) (b7 c).toNat) (k:=0) (by rw [HI];omega)
      rw [show((0:Nat):Int)=0 from rfl] at this
      rw [this];simp [gS]
    have hn:(((b7 c).toNat:Int) == 0)=false:=by simpa using (by omega:¬((b7 c).toNat:Int)=0)
    have ht:(gS (VV m.aB) (b7 c).toNat).take (b7 c).toNat=gS (VV m.aB) (b7 c).toNat:=List.take_of_length_le (by rw [HI];omega)
    have hd:((gS (VV m.aB) (b7 c).toNat).drop 1).length≤4:=by rw [List.length_drop,HI];omega
    simp only [if_neg hq,aG,HI,hn,bE,if_false,hx,hz,wK,ht]
    rw [aL (by omega),aL (by simp only [List.length_drop,HI,Int.toNat_one];omega),dM hk];rfl
def aW3(m:Mem)(s:Int):Int:=if 1≤j4 m.aB s∧j4 m.aB s≤6 then j4 m.aB s * 32+s else 0
theorem aT0{m:Mem}(hs:dW m.aB){s:Int}(hc:0≤bJ m.aB s):mL m s=some (aW3 m s):=by
  unfold mL j7 hU aW3
  rw [mW hs hc,aG,bR,bR]
  have h1:=(xF hc).1
  simp only [bD h1,aG,dU,bE,if_false]
  by_cases q:1≤j4 m.aB s∧j4 m.aB s≤6
  · simp only [bD q,dU,bE,if_false,if_pos q]
    rw [aM (x:=j4 m.aB s * 32) (by omega) (by omega),aM (by omega) (by omega)];rfl
  · simp only [bN q,rX,if_true,if_neg q];rfl
def VW(b:aE)(s:Sub)(p:Mem×Int):aE×Sub:=
  if 0≤p.2 then ({b with Mem:=p.1},JT {s with Out:=aW3 p.1 p.2} 0) else if s.Pc=3 then ({b with Mem:=p.1},JT s 3) else ({b with Mem:=p.1},{s with Pc:=s.Pc+1})
def aJ5(b:aE)(w:Int)(s:Sub):aE×Sub:=
  if HK s.A < 0 then (b,JT s 2)
  else if s.Pc=0 then VW b s (UA b.Mem w (HK s.A))
  else if s.Pc=1∨s.Pc=3 then VW b s (KX b.Mem (HK s.A))
  else if s.Pc=2 then VW b s (SG b.Mem (HK s.A))
  else (b,JT s 1)
theorem aNC{b:aE}(hm:i3 b.Mem){w:Int}(hw:0≤w∧w≤2)(s:Sub):q7 b w s=some (aJ5 b w s):=by
  obtain⟨hcnt,h3,h9,h1,h2,hsm,hcp,hlo,hsG,hsO⟩:=i3.facts hm
  have hs:=hm.1.1.1
  have hr:=aJ4 s.A
  unfold q7 aJ5
  rw [aNA]
  simp only [aG]
  by_cases c0:HK s.A < 0
  · simp only [bD c0,if_true,bH,if_pos c0];rfl
  generalize HK s.A=c at *
  have hc:0≤c∧c≤2:=by omega
  simp only [bN c0,bE,if_false,if_neg c0]
  have fin:∀(p:Mem×Int),-1≤p.2→(0≤p.2→dW p.1.aB∧0≤bJ p.1.aB p.2)→s.Pc≤3∧0≤s.Pc→eZ s p.2 ⟨p.1,b.aI,b.aR,b.fW⟩=some (VW b s p):=by
    intro p hp hx hpc
    unfold eZ VW
    simp only [nK,FC,bH]
    by_cases x0:0≤p.2
    · rw [bN (show ¬p.2 < 0 by omega),bD x0]
      simp only [bE,if_false,if_true,if_pos x0,aT0 (hx x0).1 (hx x0).2,aG];rfl
    · rw [bD (show p.2 < 0 by omega),bN x0]
      by_cases p3:s.Pc=3
      · have p3':(s.Pc == 3)=true:=by simpa using p3
        simp only [p3',if_true,if_neg x0,if_pos p3,aG];rfl
      · have p3':(s.Pc == 3)=false:=by simpa using p3
        have e:aV (s.Pc+1)=s.Pc+1:=aM (by omega) (by omega)
        simp only [p3',if_true,bE,if_false,if_neg x0,if_neg p3,aG,e]
  have popL:∀l:List Int,-1≤(aDY l).2∨(aDY l).2∈l:=fun l=>by
    unfold aDY
    rcases List.eq_nil_or_concat l with rfl | ⟨L,b,rfl⟩
    · left;simp
    · right;simp
  by_cases p0:s.Pc=0
  · have hk:(w * 3+c).toNat < b.Mem.aA.bB.length:=by omega
    have hx:idx b.Mem.aA.bB (w * 3+c)=some b.Mem.aA.bB[(w * 3+c).toNat]:=fY (by omega) (by omega)
    obtain⟨l,t,x,e1,e2,e3,g1,g2,g3⟩:=SF hm hw hc
    have hl:=hsO _ (List.getElem_mem hk)
    rw [hx] at e1;cases e1
    rw [Y7 (by omega)] at e2
    have ep:UA b.Mem w c=(⟨b.Mem.aB,⟨b.Mem.aA.Global,b.Mem.aA.bB.set (w * 3+c).toNat t⟩⟩,x):=by
      unfold UA
      rw [←dM hk]
      injection e2 with e2;injection e2 with e4 e5
      rw [←e4,←e5]
    have hx0:-1≤x:=by
      injection e2 with e2;injection e2 with e4 e5
      rcases popL b.Mem.aA.bB[(w * 3+c).toNat].aJ with h | h
      · rw [←e5];exact h
      · rw [←e5];have:=hm.1.2.2.2.2.1 _ (List.mem_append_right _ (List.mem_flatMap.2 ⟨_,List.getElem_mem hk,h⟩));omega
    have p0':(s.Pc == 0)=true:=by simpa using p0
    have:=fin (UA b.Mem w c) (by rw [ep];exact hx0) (by rw [ep];exact fun h=>⟨hs,g2 h⟩) (by omega)
    rw [ep] at this
    simp only [p0',if_true,if_pos p0,(D2 hw hc).1,aG,hx]
    rw [Y7 (show b.Mem.aA.bB[(w * 3+c).toNat].aJ.length≤1048576 by omega),e2,aG,ep]
    exact this
  · have p0':(s.Pc == 0)=false:=by simpa using p0
    simp only [p0',bE,if_false,nL,if_neg p0]
    have hk:c.toNat < b.Mem.aA.Global.length:=by omega
    have hx:idx b.Mem.aA.Global c=some b.Mem.aA.Global[c.toNat]:=fY (by omega) (by omega)
    obtain⟨l,t,x,e1,e2,e3,g1,g2,g3⟩:=JS hm hc
    have hl:=hsG _ (List.getElem_mem hk)
    rw [hx] at e1;cases e1
    rw [Y7 (by omega)] at e2
    have ep:KX b.Mem c=(⟨b.Mem.aB,⟨b.Mem.aA.Global.set c.toNat t,b.Mem.aA.bB⟩⟩,x):=by
      unfold KX
      rw [←dM hk]
      injection e2 with e2;injection e2 with e4 e5
      rw [←e4,←e5]
    have hx0:-1≤x:=by
      injection e2 with e2;injection e2 with e4 e5
      rcases popL b.Mem.aA.Global[c.toNat].aJ with h | h
      · rw [←e5];exact h
      · rw [←e5];have:=hm.1.2.2.2.2.1 _ (List.mem_append_left _ (List.mem_flatMap.2 ⟨_,List.getElem_mem hk,h⟩));omega
    have tg:0≤s.Pc∧s.Pc≤3→(idx b.Mem.aA.Global c).bind (fun x13=>(jC x13).bind fun x14=>eZ s x14.2 ({b with Mem:=(⟨b.Mem.aB,(⟨b.Mem.aA.Global.set c.toNat x14.1,b.Mem.aA.bB⟩:aA)⟩:Mem)}:aE))=some (VW b s (KX b.Mem c)):=fun hpc=>by
      have:=fin (KX b.Mem c) (by rw [ep];exact hx0) (by rw [ep];exact fun h=>⟨hs,g2 h⟩) (by omega)
      rw [hx,aG,Y7 (by omega),e2,aG,←this,ep]
    by_cases p1:s.Pc=1
    · have p1':(s.Pc == 1)=true:=by simpa using p1
      simp only [p1',if_true]
      rw [tg (by omega),if_pos (.inl p1)]
    · have p1':(s.Pc == 1)=false:=by simpa using p1
      simp only [p1',bE,if_false]
      by_cases p3:s.Pc=3
      · have p3':(s.Pc == 3)=true:=by simpa using p3
        simp only [p3',if_true]
        rw [tg (by omega),if_pos (.inr p3)]
      · have p3':(s.Pc == 3)=false:=by simpa using p3
        have n13:¬(s.Pc=1∨s.Pc=3):=by omega
        simp only [p3',bE,if_false,if_neg n13]
        by_cases p2:s.Pc=2
        · obtain⟨m',y,f1,f2,k1,k2,k3⟩:=aB4 hm hc
          have hg:=aNB hm hc
          rw [f1] at hg
          have hg':SG b.Mem c=(m',y):=by injection hg with hg;exact hg.symm
          have hy:-1≤(SG b.Mem c).2:=by unfold SG;split <;> simp only <;> omega
          have p2':(s.Pc == 2)=true:=by simpa using p2
          simp only [p2',if_true,if_pos p2,f1,aG]
          have:=fin (SG b.Mem c) hy (by rw [hg'];exact k2) (by omega)
          rw [hg'] at this ⊢
          exact this
        · have p2':(s.Pc == 2)=false:=by simpa using p2
          simp only [p2',bE,if_false,bH,if_neg p2,aG];rfl
end Go.Gv
end
noncomputable section
namespace Go.Gv
def mJ(c:aI)(w:Int):eX:=c.aX.getD w.toNat ⟨false,0,false,0⟩
theorem VX{c:aI}(hc:JK c){w:Int}(hw:0≤w∧w≤2):idx c.aX w=some (mJ c w):=by
  have:=hc.2.1
  rw [fY hw.1 (by omega)]
  simp [mJ,List.getD_eq_getElem?_getD,List.getElem?_eq_getElem (show w.toNat < c.aX.length by omega)]
def aEX(c:aI)(w e:Int):aI×Bool:=
  if (mJ c w).On=false∨(mJ c w).dT=true∨(mJ c w).aK=e then (c,true)
  else if (mJ c w).Seen=2 then (⟨c.aK,c.aX.set w.toNat {mJ c w with dT:=true,Seen:=0}⟩,true)
  else (⟨c.aK,c.aX.set w.toNat {mJ c w with Seen:=(mJ c w).Seen+1}⟩,false)
theorem aRI{c:aI}(hc:JK c){w:Int}(hw:0≤w∧w≤2):POk c.aK (mJ c w):=by
  have:=VX hc hw
  have h2:=hc.2.1
  rw [fY hw.1 (by omega)] at this
  injection this with this
  rw [←this]
  exact hc.2.2 _ (List.getElem_mem _)
theorem aRJ{c:aI}(hc:JK c){w:Int}(hw:0≤w∧w≤2)(e:Int):sN c w e=some (aEX c w e):=by
  have hp:=aRI hc hw
  have hx:=VX hc hw
  have hsm:=hc.small
  unfold sN sM aEX
  rw [kC hsm.1,gX,bD hc,bR,bD hw,hx]
  simp only [aG,dU,bE,if_false,kP,hx]
  generalize mJ c w=p at *
  have ew:aV (p.Seen+1)=p.Seen+1:=aM (by have:=hp.2.1;omega) (by have:=hp.2.1;omega)
  cases h1:p.On
  · simp
  · cases h2:p.dT
    · by_cases h3:p.aK=e
      · simp [h3]
      · have h3':(p.aK == e)=false:=by simpa using h3
        by_cases h4:p.Seen=2
        · simp [h3,h3',h4]
        · have h4':(p.Seen == 2)=false:=by simpa using h4
          simp [h3,h3',h4,h4',ew]
    · simp
def aH8(c:aI)(e:Int):aI×Bool:=if c.aK=e∧e≠100000 then (⟨e+1,c.aX⟩,true) else (c,false)
theorem aRK{c:aI}(hc:JK c)(e:Int):BI c e=some (aH8 c e):=by
  have hsm:=hc.small
  unfold BI t9 aH8
  rw [kC hsm.1,gX,bD hc]
  simp only [aG,dU,bE,if_false]
  by_cases h1:c.aK=e
  · have he:=hc.1
    have ew:aV (e+1)=e+1:=aM (by omega) (by omega)
    by_cases h2:e=100000
    · simp [h1,h2]
    · have h2':(e == 100000)=false:=by simpa using h2
      simp [h1,h2,h2',ew]
  · simp [h1]
def VY(c:aI)(w e:Int):aI×Bool:=if 0≤e∧e≤c.aK then (⟨c.aK,c.aX.set w.toNat ⟨true,e,false,0⟩⟩,true) else (c,false)
theorem aND{c:aI}(hc:JK c){w:Int}(hw:0≤w∧w≤2)(e:Int):xM c w e=some (VY c w e):=by
  have hsm:=hc.small
  unfold xM q8 VY
  rw [kC hsm.1,gX,bD hc,bR,bD hw,bR]
  simp only [aG,dU,bE,if_false]
  by_cases h1:0≤e∧e≤c.aK
  · simp [h1,VX hc hw]
  · simp [h1]
def aB8(b:aE)(s:Sub):aE×Sub:=
  if s.Pc=0 then (b,{s with Pc:=1,E:=b.aI.aK,B:=0})
  else if s.Pc=1 then
    if 0≤s.B∧s.B≤2 then
      if (aEX b.aI s.B s.E).2 then ({b with aI:=(aEX b.aI s.B s.E).1},{s with Pc:=if s.B=2 then 2 else 1,B:=s.B+1})
      else ({b with aI:=(aEX b.aI s.B s.E).1},JT s 8)
    else (b,JT s 1)
  else if s.Pc=2 then ({b with aI:=(aH8 b.aI s.E).1},JT {s with Out:=if (aH8 b.aI s.E).2 then 1 else s.Out} 0)
  else (b,JT s 1)
theorem aH9{b:aE}(hc:JK b.aI)(s:Sub):lP b s=some (aB8 b s):=by
  unfold lP aB8
  rw [aRK hc,bR]
  simp only [bH,kQ,kR,aG]
  by_cases p0:s.Pc=0
  · have p0':(s.Pc == 0)=true:=by simpa using p0
    simp only [p0',if_true,if_pos p0]
  · have p0':(s.Pc == 0)=false:=by simpa using p0
    simp only [p0',bE,if_false,if_neg p0]
    by_cases p1:s.Pc=1
    · have p1':(s.Pc == 1)=true:=by simpa using p1
      simp only [p1',if_true,if_pos p1]
      by_cases hB:0≤s.B∧s.B≤2
      · have ew:aV (s.B+1)=s.B+1:=aM (by omega) (by omega)
        simp only [bD hB,dU,bE,if_false,if_pos hB,aRJ hc hB,aG,ew]
        cases h:(aEX b.aI s.B s.E).2
        · simp [JT]
        · by_cases q:s.B=2
          · have q':(s.B+1 == 3)=true:=by simp [q]
            simp [q',q]
          · have q':(s.B+1 == 3)=false:=by simp;omega
            simp [q',q,p1]
      · simp only [bN hB,rX,if_true,if_neg hB];rfl
    · have p1':(s.Pc == 1)=false:=by simpa using p1
      simp only [p1',bE,if_false,if_neg p1]
      by_cases p2:s.Pc=2
      · have p2':(s.Pc == 2)=true:=by simpa using p2
        simp only [p2',if_true,if_pos p2]
        cases h:(aH8 b.aI s.E).2 <;> rfl
      · have p2':(s.Pc == 2)=false:=by simpa using p2
        simp only [p2',bE,if_false,if_neg p2];rfl
def aW4(b:aE)(w:Int)(s:Sub):aE×Sub:=
  if s.Pc=0 then (b,{s with Pc:=1,E:=b.aI.aK})
  else if s.Pc=1 then
    if (VY b.aI w s.E).2 then ({b with aI:=(VY b.aI w s.E).1},{s with Pc:=2}) else ({b with aI:=(VY b.aI w s.E).1},JT s 1)
  else if s.Pc=2 then if b.aI.aK=s.E then (b,JT s 0) else (b,{s with Pc:=0})
  else (b,JT s 1)
theorem aT1{b:aE}(hc:JK b.aI){w:Int}(hw:0≤w∧w≤2)(s:Sub):yS b w s=some (aW4 b w s):=by
  unfold yS aW4
  rw [aND hc hw]
  simp only [bH,aG]
  by_cases p0:s.Pc=0
  · have p0':(s.Pc == 0)=true:=by simpa using p0
    simp only [p0',if_true,if_pos p0]
  · have p0':(s.Pc == 0)=false:=by simpa using p0
    simp only [p0',bE,if_false,if_neg p0]
    by_cases p1:s.Pc=1
    · have p1':(s.Pc == 1)=true:=by simpa using p1
      simp only [p1',if_true,if_pos p1]
      cases h:(VY b.aI w s.E).2 <;> rfl
    · have p1':(s.Pc == 1)=false:=by simpa using p1
      simp only [p1',bE,if_false,if_neg p1]
      by_cases p2:s.Pc=2
      · have p2':(s.Pc == 2)=true:=by simpa using p2
        simp only [p2',if_true,if_pos p2]
        by_cases q:b.aI.aK=s.E
        · have q':(b.aI.aK == s.E)=true:=by simpa using q
          simp only [q',if_true,if_pos q];rfl
        · have q':(b.aI.aK == s.E)=false:=by simpa using q
          simp only [q',bE,if_false,if_neg q]
      · have p2':(s.Pc == 2)=false:=by simpa using p2
        simp only [p2',bE,if_false,if_neg p2];rfl
def lH(l:List aP)(w:Int):List bC:=(l.getD w.toNat ⟨[]⟩).Rows
theorem LY{l:List aP}(hl:mX l){w:Int}(hw:0≤w∧w≤2):idx l w=some ⟨lH l w⟩:=by
  have:=hl.1
  rw [fY hw.1 (by omega)]
  simp [lH,List.getD_eq_getElem?_getD,List.getElem?_eq_getElem (show w.toNat < l.length by omega)]
theorem aEY{l:List aP}(hl:mX l){w:Int}(hw:0≤w∧w≤2):(lH l w).length≤24:=by
  have h:=LY hl hw
  have h3:=hl.1
  rw [fY hw.1 (by omega)] at h
  injection h with h
  have:=hl.small.2.2.2 _ (List.getElem_mem (show w.toNat < l.length by omega))
  rw [h] at this;exact this
def aGM(b:aE)(w:Int)(s:Sub):aE×Sub:=
  if s.Pc=0 then (b,{s with Pc:=1,E:=b.aI.aK})
  else if s.Pc=1 then
    if 0≤s.E∧s.E≤b.aI.aK then
      if mY b.Mem s.A∧¬T4 b.aR (s.A % 32) then ({b with aR:=b.aR.set w.toNat ⟨lH b.aR w ++ [⟨s.A,s.E⟩]⟩},JT s 0) else (b,JT s 4)
    else (b,JT s 1)
  else (b,JT s 1)
theorem aJ6{b:aE}(hb:eN b){w:Int}(hw:0≤w∧w≤2)(s:Sub):nM b w s=some (aGM b w s):=by
  have hL:=hb.1.2.2.1
  have hm:=hb.1.1
  obtain⟨h1,h2,h3,_⟩:=i3.facts hm
  have hx:=LY hL hw
  have hrow:=aEY hL hw
  unfold nM aGM
  rw [bR,lX hm.1.1.1 (by omega) (by simp only [maxLen];omega) (by simp only [maxLen];omega),dJ]
  simp only [bH,aG,l8,rP]
  by_cases p0:s.Pc=0
  · have p0':(s.Pc == 0)=true:=by simpa using p0
    simp only [p0',if_true,if_pos p0]
  · have p0':(s.Pc == 0)=false:=by simpa using p0
    simp only [p0',bE,if_false,if_neg p0]
    by_cases p1:s.Pc=1
    · have p1':(s.Pc == 1)=true:=by simpa using p1
      simp only [p1',if_true,if_pos p1]
      by_cases q1:0≤s.E∧s.E≤b.aI.aK
      · simp only [bD q1,dU,bE,if_false,if_pos q1]
        by_cases q2:mY b.Mem s.A
        · have hh:=q2.1
          simp only [bD q2,dU,bE,if_false,if_pos hh,NJ hL,aG]
          by_cases q3:T4 b.aR (s.A % 32)
          · simp only [bD q3,if_true,if_neg (show ¬(mY b.Mem s.A∧¬T4 b.aR (s.A % 32)) from fun h=>h.2 q3)];rfl
          · simp only [bN q3,bE,if_false,hx,aG,if_pos (show mY b.Mem s.A∧¬T4 b.aR (s.A % 32) from ⟨q2,q3⟩)]
            rw [aL (by simp;omega)];rfl
        · simp only [bN q2,rX,if_true,if_neg (show ¬(mY b.Mem s.A∧¬T4 b.aR (s.A % 32)) from fun h=>q2 h.1)];rfl
      · simp only [bN q1,rX,if_true,if_neg q1];rfl
    · have p1':(s.Pc == 1)=false:=by simpa using p1
      simp only [p1',bE,if_false,if_neg p1];rfl
def KY(r:bC)(e:Int):Prop:=2≤e∧r.aK≤aV (e - 2)
instance (r:bC) (e:Int):Decidable (KY r e):=by unfold KY;infer_instance
theorem aB9(r:bC)(e:Int):BJ r e=some (decide (KY r e)):=by
  unfold BJ zP KY
  by_cases h:2≤e
  · rw [bD h,if_pos rfl]
    simp [h]
  · simp [h]
def D3(l:List bC)(e:Int)(k:Nat):Nat:=k+(l.drop k).findIdx (fun r=>decide (KY r e))
theorem aRL{l:List bC}(hl:l.length≤1000){from_ e:Int}:pD l from_ e=some (if D3 l e from_.toNat < l.length then (D3 l e from_.toNat:Int) else -1):=by
  have hst:(if 0 < from_ then from_ else 0)=(from_.toNat:Int):=by split <;> omega
  unfold pD
  rw [hst]
  have key:∀d k:Nat,l.length≤k+d→loop (dD l e) (k:Int)=some (if D3 l e k < l.length then Out.ret (D3 l e k:Int) else Out.brk ()):=by
    intro d
    induction d with
    | zero =>
      intro k hk
      rw [bK (r:=Out.brk ()) (by simp only [dD];rw [if_neg (by simp;omega)]),if_neg (by unfold D3;omega)]
    | succ d ih =>
      intro k hk
      by_cases hkl:k < l.length
      · have hd:l.drop k=l[k] :: l.drop (k+1):=List.drop_eq_getElem_cons hkl
        by_cases hr:KY l[k] e
        · have hs:D3 l e k=k:=by unfold D3;rw [hd,List.findIdx_cons,bD hr];rfl
          rw [bK (r:=Out.ret (k:Int)) (by simp only [dD];rw [if_pos (by simp;omega),aU hkl,aG,aB9 _ e,aG,bD hr,if_pos rfl]),hs,if_pos hkl]
        · have hs:D3 l e k=D3 l e (k+1):=by unfold D3;rw [hd,List.findIdx_cons,bN hr];simp only [cond_false];omega
          rw [bT (s':=((k+1:Nat):Int)) (by simp only [dD];rw [if_pos (by simp;omega),aU hkl,aG,aB9 _ e,aG,bN hr,if_neg (by simp),aM (by omega) (by omega)];rfl),ih (k+1) (by omega),hs]
      · rw [bK (r:=Out.brk ()) (by simp only [dD];rw [if_neg (by simp;omega)]),if_neg (by unfold D3;omega)]
  rw [key l.length from_.toNat (by omega)]
  split <;> rfl
def aRM(m:Mem)(w h:Int):Mem:=
  if h / 32+1≤6 then
    if (eU m.aA.bB (w * 3+bJ m.aB (h % 32)).toNat).length < 2 then ⟨⟨st4 m.aB.Bytes (e9 (h % 32) (bJ m.aB (h % 32))).toNat (h / 32+1),m.aB.Class⟩,⟨m.aA.Global,m.aA.bB.set (w * 3+bJ m.aB (h % 32)).toNat ⟨eU m.aA.bB (w * 3+bJ m.aB (h % 32)).toNat ++ [h % 32]⟩⟩⟩
    else ⟨⟨st4 m.aB.Bytes (e9 (h % 32) (bJ m.aB (h % 32))).toNat (h / 32+1),m.aB.Class⟩,⟨m.aA.Global.set (bJ m.aB (h % 32)).toNat ⟨eU m.aA.Global (bJ m.aB (h % 32)).toNat ++ [h % 32]⟩,m.aA.bB⟩⟩
  else ⟨⟨st4 m.aB.Bytes (e9 (h % 32) (bJ m.aB (h % 32))).toNat (h / 32+1),m.aB.Class⟩,m.aA⟩
theorem aRN{m:Mem}(hm:i3 m){w h:Int}(hw:0≤w∧w≤2)(hv:mY m h):sH m w (h % 32)=some (aRM m w h):=by
  obtain⟨hcnt,h3,h9,h1,h2,hsm,hcp,hlo,hsG,hsO⟩:=i3.facts hm
  have hs:=hm.1.1.1
  have hh:=hv.1
  have hcl:=yZ hv.2.1
  have hgo:=DE hcl
  have hc2:0≤bJ m.aB (h % 32)∧bJ m.aB (h % 32)≤2:=by
    obtain⟨_,q,e⟩:=xF hcl
    rw [e];exact iV.1 (by omega)
  have hg6:1≤h / 32∧h / 32≤6:=by unfold pS at hh;omega
  have eo:e9 (h % 32) (bJ m.aB (h % 32))=(((e9 (h % 32) (bJ m.aB (h % 32))).toNat:Nat):Int):=by omega
  have ew:aV (h / 32+1)=h / 32+1:=aM (by omega) (by omega)
  unfold sH aRM
  rw [gW hs,aG,mW hs hcl,hv.2.2,aG,mV,aG,ew]
  generalize hgn:(e9 (h % 32) (bJ m.aB (h % 32))).toNat=a at eo
  rw [eo,ER (by omega) (by omega) (by omega)]
  simp only [aG,zK,zJ,ew]
  generalize bJ m.aB (h % 32)=c at *
  by_cases q:h / 32+1≤6
  · have hk:(w * 3+c).toNat < m.aA.bB.length:=by omega
    have hx:idx m.aA.bB (w * 3+c)=some m.aA.bB[(w * 3+c).toNat]:=fY (by omega) (by omega)
    have hk2:c.toNat < m.aA.Global.length:=by omega
    have hx2:idx m.aA.Global c=some m.aA.Global[c.toNat]:=fY (by omega) (by omega)
    have b1:=hsO _ (List.getElem_mem hk)
    have b2:=hsG _ (List.getElem_mem hk2)
    rw [bD q,if_pos rfl,if_pos q]
    unfold yQ
    rw [(D2 hw hc2).1]
    simp only [aG,hx,hx2,sG,zH,zI,←dM hk,←dM hk2]
    by_cases q2:m.aA.bB[(w * 3+c).toNat].aJ.length < 2
    · have y1:(m.aA.bB[(w * 3+c).toNat].aJ.length:Int) < 2:=by omega
      simp only [bD y1,if_true,if_pos q2]
      rw [aL (by simp;omega)];rfl
    · have y1:¬(m.aA.bB[(w * 3+c).toNat].aJ.length:Int) < 2:=by omega
      simp only [bN y1,bE,if_false,if_neg q2]
      rw [aL (by simp;omega)];rfl
  · rw [bN q,if_neg (by simp),if_neg q]
def aCA(z:List Int)(w:Int):Int:=z.getD w.toNat 0
theorem aNE{z:List Int}(hz:HV z){w:Int}(hw:0≤w∧w≤2):idx z w=some (aCA z w):=by
  have:=hz.1
  rw [fY hw.1 (by omega)]
  simp [aCA,List.getD_eq_getElem?_getD,List.getElem?_eq_getElem (show w.toNat < z.length by omega)]
def PN(l:List bC)(k:Int):bC:=l.getD k.toNat ⟨0,0⟩
theorem UB{l:List bC}{k:Int}(h:0≤k∧k < l.length):idx l k=some (PN l k):=by
  rw [fY h.1 h.2]
  simp [PN,List.getD_eq_getElem?_getD,List.getElem?_eq_getElem (show k.toNat < l.length by omega)]
def NL(l:List bC)(s:Sub):Prop:=0≤s.Row∧s.Row < l.length∧(PN l s.Row).Handle=s.H
instance (l:List bC) (s:Sub):Decidable (NL l s):=by unfold NL;infer_instance
def aCB(b:aE)(w:Int)(s:Sub):aE×Sub:=
  if s.Pc=0 then (b,{s with Pc:=1,E:=b.aI.aK,Row:=0})
  else if s.Pc=1 then
    if D3 (lH b.aR w) s.E s.Row.toNat < (lH b.aR w).length then (b,{s with Pc:=2,Row:=(D3 (lH b.aR w) s.E s.Row.toNat:Int),B:=0,H:=(PN (lH b.aR w) (D3 (lH b.aR w) s.E s.Row.toNat:Int)).Handle})
    else (b,JT s 0)
  else if s.Pc=2 then
    if (0≤s.B∧s.B≤2)∧NL (lH b.aR w) s then
      if aCA b.fW s.B=s.H then (b,{s with Pc:=1,Row:=s.Row+1}) else (b,{s with Pc:=if s.B=2 then 3 else 2,B:=s.B+1})
    else (b,JT s 1)
  else if s.Pc=3 then
    if NL (lH b.aR w) s∧KY (PN (lH b.aR w) s.Row) s.E then ({b with Mem:=aRM b.Mem w s.H,aR:=b.aR.set w.toNat ⟨(lH b.aR w).eraseIdx s.Row.toNat⟩},{s with Pc:=1,Out:=aV (s.Out+1)})
    else (b,JT s 1)
  else (b,JT s 1)
theorem aIA{l:List aP}(hl:mX l){w:Int}(hw:0≤w∧w≤2){r:bC}(hr:r∈lH l w):r∈a9 l:=by
  have h:=LY hl hw
  have h3:=hl.1
  rw [fY hw.1 (by omega)] at h
  injection h with h
  exact List.mem_flatMap.2 ⟨l[w.toNat],List.getElem_mem _,by rw [h];exact hr⟩
theorem aRO{l:List bC}{k:Int}(h:0≤k∧k < l.length):PN l k∈l:=by
  have:=UB h
  rw [fY h.1 h.2] at this
  injection this with this
  rw [←this];exact List.getElem_mem _
theorem aIB{b:aE}(hb:eN b){w:Int}(hw:0≤w∧w≤2)(s:Sub):lQ b w s=some (aCB b w s):=by
  have hL:=hb.1.2.2.1
  have hm:=hb.1.1
  have hx:=LY hL hw
  have hrow:=aEY hL hw
  have hfl:=fun r hr=>aIA hL hw (r:=r) hr
  unfold lQ aCB
  rw [hx]
  simp only [aG,bH]
  generalize lH b.aR w=l at *
  by_cases p0:s.Pc=0
  · have p0':(s.Pc == 0)=true:=by simpa using p0
    simp only [p0',if_true,if_pos p0]
  have p0':(s.Pc == 0)=false:=by simpa using p0
  simp only [p0',bE,if_false,if_neg p0]
  by_cases p1:s.Pc=1
  · have p1':(s.Pc == 1)=true:=by simpa using p1
    simp only [p1',if_true,if_pos p1,aRL (show l.length≤1000 by omega),aG]
    by_cases q:D3 l s.E s.Row.toNat < l.length
    · have n:¬(D3 l s.E s.Row.toNat:Int) < 0:=by omega
      simp only [if_pos q,bN n,bE,if_false,UB (l:=l) (k:=(D3 l s.E s.Row.toNat:Int)) (by omega),aG]
    · simp only [if_neg q,bD (show(-1:Int) < 0 by omega),if_true];rfl
  have p1':(s.Pc == 1)=false:=by simpa using p1
  simp only [p1',bE,if_false,if_neg p1]
  have el:aV ((l.length:Int) - 1)=(l.length:Int) - 1:=aM (by omega) (by omega)
  by_cases p2:s.Pc=2
  · have p2':(s.Pc == 2)=true:=by simpa using p2
    simp only [p2',if_true,if_pos p2,bR,el,aG,dF,kS,bH]
    by_cases hB:0≤s.B∧s.B≤2
    · simp only [bD hB,dU,bE,if_false]
      by_cases hR:0≤s.Row∧s.Row≤(l.length:Int) - 1
      · simp only [bD hR,dU,bE,if_false,UB (l:=l) (k:=s.Row) (by omega),aG]
        by_cases hH:(PN l s.Row).Handle=s.H
        · have hH':((PN l s.Row).Handle != s.H)=false:=by simpa using hH
          have ha:(0≤s.B∧s.B≤2)∧NL l s:=⟨hB,hR.1,by omega,hH⟩
          have e1:aV (s.B+1)=s.B+1:=aM (by omega) (by omega)
          have e2:aV (s.Row+1)=s.Row+1:=aM (by omega) (by omega)
          simp only [hH',bE,if_false,if_pos ha,aNE hb.1.2.2.2 hB,aG,e1,e2]
          by_cases hz:aCA b.fW s.B=s.H
          · have hz':(aCA b.fW s.B == s.H)=true:=by simpa using hz
            simp only [hz',if_true,if_pos hz]
          · have hz':(aCA b.fW s.B == s.H)=false:=by simpa using hz
            simp only [hz',bE,if_false,if_neg hz]
            by_cases q:s.B=2
            · have q':(s.B+1 == 3)=true:=by simp [q]
              simp only [q',if_true,if_pos q]
            · have q':(s.B+1 == 3)=false:=by simp;omega
              simp only [q',bE,if_false,if_neg q,p2]
        · have hH':((PN l s.Row).Handle != s.H)=true:=by simpa using hH
          have ha:¬((0≤s.B∧s.B≤2)∧NL l s):=fun h=>hH h.2.2.2
          simp only [hH',if_true,if_neg ha,aG];rfl
      · have ha:¬((0≤s.B∧s.B≤2)∧NL l s):=fun h=>hR ⟨h.2.1,by have:=h.2.2.1;omega⟩
        simp only [bN hR,rX,if_true,if_neg ha,aG];rfl
    · have ha:¬((0≤s.B∧s.B≤2)∧NL l s):=fun h=>hB h.1
      simp only [bN hB,rX,if_true,if_neg ha,aG];rfl
  have p2':(s.Pc == 2)=false:=by simpa using p2
  simp only [p2',bE,if_false,if_neg p2]
  by_cases p3:s.Pc=3
  · have p3':(s.Pc == 3)=true:=by simpa using p3
    simp only [p3',if_true,if_pos p3,bR,el,aG,dI,pE,bH]
    by_cases hR:0≤s.Row∧s.Row≤(l.length:Int) - 1
    · simp only [bD hR,dU,bE,if_false,UB (l:=l) (k:=s.Row) (by omega),aG]
      by_cases hH:(PN l s.Row).Handle=s.H
      · have hH':((PN l s.Row).Handle != s.H)=false:=by simpa using hH
        simp only [hH',bE,if_false,aB9,aG]
        by_cases hr:KY (PN l s.Row) s.E
        · have ha:NL l s∧KY (PN l s.Row) s.E:=⟨⟨hR.1,by omega,hH⟩,hr⟩
          have e2:aV (s.Row+1)=s.Row+1:=aM (by omega) (by omega)
          have hlive:=(hb.2 _ (hfl _ (aRO (l:=l) (k:=s.Row) (by omega)))).1
          rw [hH] at hlive
          have et:(s.Row+1).toNat=s.Row.toNat+1:=by omega
          simp only [bD hr,dU,bE,if_false,if_pos ha,e2,dJ,if_pos hlive.1,aG,aRN hm hw hlive,et]
          rw [aL (by omega),aL (by omega),aL (by omega),del_eq (by omega)]
        · have ha:¬(NL l s∧KY (PN l s.Row) s.E):=fun h=>hr h.2
          simp only [bN hr,rX,if_true,if_neg ha,aG];rfl
      · have hH':((PN l s.Row).Handle != s.H)=true:=by simpa using hH
        have ha:¬(NL l s∧KY (PN l s.Row) s.E):=fun h=>hH h.1.2.2
        simp only [hH',if_true,if_neg ha,aG];rfl
    · have ha:¬(NL l s∧KY (PN l s.Row) s.E):=fun h=>hR ⟨h.1.1,by have:=h.1.2.1;omega⟩
      simp only [bN hR,rX,if_true,if_neg ha,aG];rfl
  · have p3':(s.Pc == 3)=false:=by simpa using p3
    simp only [p3',bE,if_false,if_neg p3];rfl
def QK(b:aE)(w:Int)(s:Sub):aE×Sub:=
  if s.eI then (b,s) else if s.Kind=1 then aJ5 b w s else if s.Kind=2 then aGM b w s else if s.Kind=3 then aB8 b s else if s.Kind=4 then aCB b w s else if s.Kind=5 then aW4 b w s else (b,JT s 1)
theorem aGN{b:aE}(hb:eN b){w:Int}(hw:0≤w∧w≤2)(s:Sub):BK b w s=some (QK b w s):=by
  unfold BK QK
  rw [aNC hb.1.1 hw,aJ6 hb hw,aH9 hb.1.2.1,aIB hb hw,aT1 hb.1.2.1 hw]
  simp only [aG,bH]
  cases s.eI
  · simp only [bE,if_false,beq_iff_eq]
    split <;> (try rfl)
    split <;> (try rfl)
    split <;> (try rfl)
    split <;> (try rfl)
    split <;> rfl
  · rfl
theorem aGO{b:aE}(hb:eN b){w:Int}(hw:0≤w∧w≤2)(s:Sub):eN (QK b w s).1:=by
  obtain⟨x,y,e1,_,h⟩:=step_eq hb hb.small hw s
  rw [aGN hb hw] at e1
  injection e1 with e1
  rw [e1];exact h
end Go.Gv
end
noncomputable section
namespace Go.Gv
def aME:aB:=⟨List.replicate 384 0,[-1,-1,-1,-1,-1,-1]⟩
def aW5:aA:=⟨List.replicate 3 ⟨[]⟩,List.replicate 9 ⟨[]⟩⟩
def aRP:aE:=⟨⟨aME,aW5⟩,⟨0,List.replicate 3 ⟨false,0,false,0⟩⟩,List.replicate 3 ⟨[]⟩,List.replicate 3 0⟩
theorem ES:zG=some aME:=by
  unfold zG
  have key:loop qA (0,[])=some (List.replicate 6 (-1)):=cM (f:=qA) 6 (fun k=>((k:Int),List.replicate k (-1))) _ (fun k hk=>by
    simp only [qA]
    rw [if_pos (by simp;omega),aL (by simp;omega),aM (by omega) (by omega),List.replicate_succ'];rfl) (by simp [qA])
  rw [aL (by omega),key];rfl
theorem aW6:AQ [-1] 6=some [-1,-1,-1,-1,-1,-1]:=by
  unfold AQ
  rw [if_neg (by simp),show Q5 (IntKind.u64.wrap (([-1]:List Int).length:Int)) (IntKind.u64.wrap 6)=some (0,6) by kernel_rfl]
  simp only [aG]
  rw [if_neg (by simp),bN (by omega)]
  simp only [tD,bE,if_false]
  rw [show IntKind.i64.wrap 6=6 from wrap_i64 (by omega) (by omega),aL (by omega),
    show(c9 (List.replicate (Int.toNat 6) 0) 0 [-1],((min ([-1]:List Int).length ((List.replicate (Int.toNat 6) (0:Int)).length - 0):Nat):Int))=([-1,0,0,0,0,0],1) by kernel_rfl,
    bT (body:=iP) (s':=([-1,-1,0,0,0,0],2)) (by kernel_rfl),bT (body:=iP) (s':=([-1,-1,-1,-1,0,0],4)) (by kernel_rfl),
    bT (body:=iP) (s':=([-1,-1,-1,-1,-1,-1],6)) (by kernel_rfl),bK (body:=iP) (r:=[-1,-1,-1,-1,-1,-1]) (by kernel_rfl)]
  rfl
theorem YJ:LJ=some aME:=by
  unfold LJ
  rw [aL (by omega),aW6];rfl
theorem aJ7:FE=some aRP∧TM=some aRP:=by
  unfold FE TM DN WG q5 Q6 vR Q7 vS Q8 DO WH
  rw [ES,YJ,aL (by omega),aL (by omega),aL (by omega),aL (by omega),aL (by omega)]
  exact⟨rfl,rfl⟩
theorem aRQ:eN aRP:=of_decide_eq_true (by kernel_rfl)
end Go.Gv
end
noncomputable section
namespace Go.Gv
def aMF(s:yL):Prop:=tK s.aE∧s.Cells.length≤1048576∧s.aAV.length≤1048576∧s.VG.length≤1048576∧(∀q∈s.VG,q.SN.length≤1048576)∧s.Log.length≤1048576
theorem aMF.fits{s:yL}(h:aMF s):s.aE.Mem.aB.Bytes.length≤maxLen∧(cK s.aE.Mem.aA).length≤1073741824∧s.aE.aI.aX.length≤maxLen∧s.aE.aR.length≤maxLen∧(a9 s.aE.aR).length≤1073741824∧s.aE.fW.length≤maxLen:=by
  obtain⟨⟨⟨a1,a2,a3,a4,a5⟩,b1,b2,b3,b4⟩,_⟩:=h
  simp only [maxLen];omega
end Go.Gv
end
noncomputable section
namespace Go.Gv
theorem aUX{h:aB}{s:Int}(hcl:0≤bJ h s):(e9 s (bJ h s)).toNat+8≤384∧8≤fN (bJ h s)∧fN (bJ h s)≤40:=by
  have hc2:0≤bJ h s∧bJ h s≤2:=by
    obtain⟨_,q,e⟩:=xF hcl
    rw [e];exact iV.1 (by omega)
  have hz:8≤fN (bJ h s)∧fN (bJ h s)≤40:=by rcases e7 hc2 with e | e | e <;> rw [e] <;> decide
  obtain⟨p,i,p6,hi,es,ec,eo,ep⟩:=D1 hcl
  refine⟨?_,hz⟩
  rw [eo]
  have hcl':0≤bV h p∧bV h p≤2:=by rw [←ec];exact hc2
  generalize bV h p=c at hi hcl'
  rcases e7 hcl' with rfl | rfl | rfl
  · rw [show(b7 0).toNat=4 from rfl] at hi;rw [show(aW 0).toNat=12 from rfl];omega
  · rw [show(b7 1).toNat=2 from rfl] at hi;rw [show(aW 1).toNat=20 from rfl];omega
  · rw [show(b7 2).toNat=1 from rfl] at hi;rw [show(aW 2).toNat=44 from rfl];omega
structure JR where
  b:aE
  c:List Int
  j:S4
  l:List Ev
noncomputable section
variable (s:yL) (w:Int) (j:S4)
end
def aUY(s:yL)(w:Int):S4:=s.aAV.getD w.toNat aUV
noncomputable section
variable {s:yL} (hs:SOk s) (hl:s.Log.length≤1000000000) {w:Int} (hw:0≤w∧w≤2) {j:S4} (hjo:aEW j.Op∧lB j.H∧lB j.Old)
include hs
include hw
include hl hjo
omit hjo
end
end Go.Gv
end
noncomputable section
namespace Go.Gv
def aRR(b:aE)(s:Int):Int:=if iW b.Mem s=3 then (if T4 b.aR s then 3 else 4) else iW b.Mem s
noncomputable section
variable {b:aE} (hb:eN b)
include hb
theorem eN.fits:b.Mem.aB.Bytes.length≤maxLen∧(cK b.Mem.aA).length≤1073741824∧b.aI.aX.length≤maxLen∧b.aR.length≤maxLen∧(a9 b.aR).length≤1073741824∧b.fW.length≤maxLen:=by
  obtain⟨h1,h2,h3,h4,_⟩:=i3.facts hb.1.1
  have a:=hb.1.2.1.2.1;have c:=hb.1.2.2.1.1;have d:=hb.1.2.2.1.2.1;have e:=hb.1.2.2.2.1
  simp only [maxLen];omega
end
end Go.Gv
end
noncomputable section
namespace Go.Gv
def fA{α:Type}(o:Option α)(Q:α→Prop):Prop:=∃x,o=some x∧Q x
abbrev aCC{σ ρ:Type}(I:σ→Prop)(Q:ρ→Prop):Step σ ρ→Prop
  | .next s=>I s
  | .stop r=>Q r
namespace fA
variable {α β σ ρ:Type} {Q:α→Prop}
theorem ret{x:α}(h:Q x):fA (some x) Q:=⟨x,rfl,h⟩
theorem bind{P:β→Prop}{o:Option β}{f:β→Option α}(h:fA o P)(hf:∀x,P x→fA (f x) Q):fA (o.bind f) Q:=by
  obtain⟨x,e,hx⟩:=h
  rw [e];exact hf x hx
theorem need{p:Prop}[Decidable p]{k:Option α}(h:p)(hk:fA k Q):fA (Gv.need p k) Q:=by rw [aL h];exact hk
theorem ite{c:Prop}[Decidable c]{a b:Option α}(h1:c→fA a Q)(h2:¬c→fA b Q):fA (if c then a else b) Q:=by
  by_cases h:c
  · rw [if_pos h];exact h1 h
  · rw [if_neg h];exact h2 h
theorem mono{P:α→Prop}{o:Option α}(h:fA o P)(hf:∀x,P x→Q x):fA o Q:=by obtain⟨x,e,hx⟩:=h;exact⟨x,e,hf x hx⟩
theorem idx{l:List β}{i:Int}(h:0≤i∧i < l.length):fA (Gv.idx l i) (fun x=>x∈l):=⟨_,fY h.1 h.2,List.getElem_mem _⟩
theorem loop{Q:ρ→Prop}{f:σ→Option (Step σ ρ)}{s:σ}(μ:σ→Nat)(Inv:σ→Prop)(h0:Inv s)(hb:∀s,Inv s→fA (f s) (aCC (fun s'=>Inv s'∧μ s' < μ s) (fun r=>Q r))):fA (Gv.loop f s) Q:=by
  have key:∀n s,μ s < n→Inv s→fA (Gv.loop f s) Q:=by
    intro n
    induction n with
    | zero=>intro s h;omega
    | succ n ih =>
      intro s h hs
      obtain⟨q,e,hq⟩:=hb s hs
      cases q with
      | next s'=>rw [bT e];exact ih s' (by have:=hq.2;omega) hq.1
      | stop r=>rw [bK e];exact⟨r,rfl,hq⟩
  exact key _ s (Nat.lt_succ_self _) h0
theorem of{o:Option α}{x:α}(h:o=some x):fA o (fun y=>y=x):=⟨x,h,rfl⟩
end fA
def Cu(b:List UInt8)(i:Int):Prop:=(0≤i∧i≤b.length)∧b.length≤1048576
theorem aRS(x:Int):0≤cN .and .i64 x 255∧cN .and .i64 x 255≤255:=by
  have e:cN .and .i64 x 255=IntKind.i64.wrap ((BitVec.ofInt 64 x &&& BitVec.ofInt 64 255).toNat:Int):=rfl
  have h:(BitVec.ofInt 64 x &&& BitVec.ofInt 64 255).toNat≤255:=by
    rw [BitVec.toNat_and];exact Nat.le_trans Nat.and_le_right (by decide)
  rw [e,wrap_i64 (by omega) (by omega)];omega
noncomputable section
variable {b:List UInt8} {i h:Int} (hc:Cu b i)
include hc
theorem aCD:fA (j6 ⟨b,i,h⟩) (fun x=>(0≤x.1∧x.1≤255)∧Cu b x.2.1):=by
  unfold j6 zD
  obtain⟨⟨a1,a2⟩,a3⟩:=hc
  refine .ite (fun q=>?_) (fun q=>?_)
  · have q':=of_decide_eq_true q
    simp only at q'
    refine .bind (.idx ⟨a1,q'⟩) fun x _=>.ret ⟨aRS _,?_⟩
    show Cu b (aV (i+1))
    rw [aM (by omega) (by omega)]
    exact⟨by omega,a3⟩
  · exact .ret ⟨aRS _,⟨a1,a2⟩,a3⟩
theorem below{n:Int}(hn:n≤1000000):fA (aS ⟨b,i,h⟩ n) (fun x=>(0≤x.1∧(x.1 < n∨n≤0∧x.1=0))∧Cu b x.2.1):=by
  unfold aS
  refine .ite (fun q=>?_) (fun q=>?_)
  · have q':=of_decide_eq_true q
    exact .ret ⟨by simp;omega,hc⟩
  · have q0:0 < n:=by simpa using q
    refine .ite (fun q=>?_) (fun q=>?_)
    · refine .bind (aCD hc) fun x ⟨hx,h1⟩=>.need (by omega) (.ret ⟨?_,h1⟩)
      simp only [oW hx.1]
      exact⟨Int.emod_nonneg _ (by omega),.inl (Int.emod_lt_of_pos _ q0)⟩
    · refine .bind (aCD hc) fun x ⟨hx,h1⟩=>.bind (aCD h1) fun y ⟨hy,h2⟩=>.bind (aCD h2) fun z ⟨hz,h3⟩=>.bind (aCD h3) fun w ⟨hw,h4⟩=>.need (by omega) (.ret ⟨?_,h4⟩)
      have e:aV (aV (aV (aV (x.1 * 16777216)+aV (y.1 * 65536))+aV (z.1 * 256))+w.1)=x.1 * 16777216+y.1 * 65536+z.1 * 256+w.1:=by
        rw [aM (x:=x.1 * 16777216) (by omega) (by omega),aM (x:=y.1 * 65536) (by omega) (by omega),aM (x:=z.1 * 256) (by omega) (by omega),aM (x:=x.1 * 16777216+y.1 * 65536) (by omega) (by omega),aM (x:=x.1 * 16777216+y.1 * 65536+z.1 * 256) (by omega) (by omega),aM (by omega) (by omega)]
      simp only [e]
      rw [oW (by omega)]
      exact⟨Int.emod_nonneg _ (by omega),.inl (Int.emod_lt_of_pos _ q0)⟩
theorem aIC{n:Int}(hn:n≤1000000):fA (r5 ⟨b,i,h⟩ n) (fun x=>Cu b x.2.1):=
  .bind (below hc hn) fun _ ⟨_,h1⟩=>.ret h1
theorem aEZ{l:List Int}(hl:0 < l.length)(hl2:l.length≤1000):fA (iM ⟨b,i,h⟩ l) (fun x=>x.1∈l∧Cu b x.2.1):=
  .bind (below hc (by omega)) fun x ⟨hx,h1⟩=>.bind (.idx (by omega)) fun y hy=>.ret ⟨hy,h1⟩
end
theorem aW7{code:List UInt8}(hl:code.length≤1048576):fA (BO code) (fun x=>Cu code x.1):=by
  unfold BO
  refine .bind (P:=fun _=>True) (.loop (fun s=>code.length - s.2.toNat) (fun s=>0≤s.2∧s.2≤code.length) ⟨by simp,by simp⟩ ?_) fun x _=>.ret ⟨⟨by simp,by simp⟩,hl⟩
  rintro⟨a,k⟩ ⟨h1,h2⟩
  simp only [Q2,CR]
  simp only at h1 h2
  have nx:k < code.length→fA ((idx code k).bind fun x7=>some (Step.next (cN .and .i64 (aV ((aV ((aV (a * 131))+(x7.toNat:Int)))+7)) 1073741823,aV (k+1)))) (aCC (ρ:=Int) (fun s'=>(0≤s'.2∧s'.2≤code.length)∧code.length - s'.2.toNat < code.length - k.toNat) (fun r=>True)):=fun hk=>by
    refine .bind (.idx ⟨h1,hk⟩) fun x _=>.ret ?_
    rw [aM (x:=k+1) (by omega) (by omega)]
    refine⟨⟨?_,?_⟩,?_⟩ <;> (try simp only) <;> omega
  refine .ite (fun q=>?_) (fun q=>?_)
  · have q':=of_decide_eq_true q
    exact .ite (fun _=>nx q') (fun _=>.ret trivial)
  · rw [if_neg (by simp)];exact .ret trivial
end Go.Gv
end
noncomputable section
namespace Go.Gv
def aGP(j:S4):Prop:=j.aF0=true∧(j.Op.Kind=2∨j.Op.Kind=5)∧j.Pc=0
def Adv(j:S4):Prop:=j.aF0=true∧j.Op.Kind=4∧j.Pc=0
def JI(e:Int)(p:eX)(j:S4):Prop:=j.aF0=true →
  (j.Op.Kind=1→j.Sub.Kind=1∨j.Sub.Kind=2)∧(j.Op.Kind=4→j.Pc=1→j.Sub.Kind=4) ∧
  (Adv j→j.Sub.Kind=3∧j.Sub.eI=false∧(j.Sub.Pc=0∨j.Sub.E≤e∧(j.Sub.Pc=1∧(0≤j.Sub.B∧j.Sub.B≤2)∨j.Sub.Pc=2∧j.Sub.B=3))) ∧
  (aGP j→j.Sub.Kind=5∧j.Sub.eI=false∧(j.Sub.Pc=0∨j.Sub.Pc=1∧(0≤j.Sub.E∧j.Sub.E≤e)∨j.Sub.Pc=2∧p.aK=j.Sub.E))
def Ep(c:aI)(J:Int→S4):Prop:=(∀w,0≤w∧w≤2→JI c.aK (mJ c w) (J w))∧∀p,0≤p∧p≤2→¬aGP (J p)→(mJ c p).On=true→(mJ c p).dT=false→c.aK≤(mJ c p).aK+1∧(c.aK=(mJ c p).aK+1→∀a,0≤a∧a≤2→Adv (J a)→(J a).Sub.Pc≠0→(J a).Sub.E=c.aK→(J a).Sub.B≤p)
def upJ(J:Int→S4)(w:Int)(j:S4):Int→S4:=fun v=>if v=w then j else J v
theorem aCE(J:Int→S4)(w:Int)(j:S4):upJ J w j w=j:=if_pos rfl
theorem VZ(J:Int→S4){w v:Int}(j:S4)(h:v≠w):upJ J w j v=J v:=if_neg h
noncomputable section
variable {c:aI} {J:Int→S4} (h:Ep c J)
include h
theorem Ep.congr{J':Int→S4}(e:∀v,0≤v∧v≤2→J' v=J v):Ep c J':=by
  refine⟨fun w hw=>by rw [e w hw];exact h.1 w hw,fun p hp hn h1 h2=>?_⟩
  rw [e p hp] at hn
  obtain⟨a1,a2⟩:=h.2 p hp hn h1 h2
  exact⟨a1,fun q a ha=>by rw [e a ha];exact a2 q a ha⟩
variable {w:Int} (hw:0≤w∧w≤2) {j:S4}
include hw
theorem Ep.step{c':aI}(he:c'.aK=c.aK)(hp:∀v,0≤v∧v≤2→v≠w→mJ c' v=mJ c v)(hj:JI c.aK (mJ c' w) j)
    (h2:¬aGP j→(mJ c' w).On=true→(mJ c' w).dT=false→c.aK≤(mJ c' w).aK+1∧(c.aK=(mJ c' w).aK+1→∀a,0≤a∧a≤2→a≠w→Adv (J a)→(J a).Sub.Pc≠0→(J a).Sub.E=c.aK→(J a).Sub.B≤w))
    (ha:Adv j→j.Sub.Pc=0∨j.Sub.B=0):Ep c' (upJ J w j):=by
  constructor
  · intro v hv
    rw [he]
    by_cases q:v=w
    · subst q;rw [aCE];exact hj
    · rw [VZ _ _ q,hp v hv q];exact h.1 v hv
  · intro p hpr hn o1 o2
    rw [he]
    have hadv:∀a,0≤a∧a≤2→(∀q:a≠w,Adv (J a)→(J a).Sub.Pc≠0→(J a).Sub.E=c.aK→(J a).Sub.B≤p)→Adv (upJ J w j a)→(upJ J w j a).Sub.Pc≠0→(upJ J w j a).Sub.E=c.aK→(upJ J w j a).Sub.B≤p:=by
      intro a har hk
      by_cases q:a=w
      · subst q
        rw [aCE]
        intro x1 x2 _
        rcases ha x1 with y | y
        · exact absurd y x2
        · omega
      · rw [VZ _ _ q];exact hk q
    by_cases q:p=w
    · subst q
      rw [aCE] at hn
      obtain⟨a1,a2⟩:=h2 hn o1 o2
      exact⟨a1,fun e a har=>hadv a har (fun q=>a2 e a har q)⟩
    · rw [VZ _ _ q] at hn
      rw [hp p hpr q] at o1 o2 ⊢
      obtain⟨a1,a2⟩:=h.2 p hpr hn o1 o2
      exact⟨a1,fun e a har=>hadv a har (fun _=>a2 e a har)⟩
end
end Go.Gv
end
noncomputable section
namespace Go.Gv
noncomputable section
variable (s:yL) (w:Int) (j:S4)
end
noncomputable section
variable {s:yL} (hs:SOk s) {w:Int} (hw:0≤w∧w≤2) (h:Ep s.aE.aI (aUY s))
include hs hw h
end
def aRT(s:yL)(k:Nat):Prop:=(mJ s.aE.aI k).On=true∧(aUY s k).aF0=false
instance (s:yL) (k:Nat):Decidable (aRT s k):=by unfold aRT;infer_instance
end Go.Gv
end
noncomputable section
namespace Go.Gv
def Hk(h:aB):Prop:=h.Bytes.length=384∧h.Class.length=6
def Wk(m:Mem):Prop:=Hk m.aB∧m.aA.Global.length=3∧m.aA.bB.length=9∧(cK m.aA).length≤24
theorem i3.wk{m:Mem}(hm:i3 m):Wk m:=by obtain⟨a,b,c,d,e,_⟩:=i3.facts hm;exact⟨⟨d,e⟩,b,c,a⟩
theorem Wk.small{m:Mem}(h:Wk m):gZ m:=by obtain⟨⟨a,b⟩,c,d,e⟩:=h;exact⟨by omega,by omega,by omega,by omega,by omega⟩
theorem Wk.aID{m:Mem}(h:Wk m):mK m=some (decide (i3 m)):=by
  obtain⟨⟨a,b⟩,c,d,e⟩:=h
  exact rH (by rw [a];simp [maxLen]) (by omega)
theorem aW9{m:Mem}(h:Wk m){w n:Int}:fA (CK m w n) (fun x=>Wk x.1):=by
  unfold CK
  obtain⟨c,ec,_,hr⟩:=aB5 n
  rw [D0 h.small,aG,ec,aG,h.aID,aG]
  by_cases hm:i3 m
  rotate_left
  · rw [bN hm,if_pos (by simp)];exact .ret h
  rw [bD hm,if_neg (by simp),bR,aG]
  by_cases hw:0≤w∧w≤2
  rotate_left
  · rw [bN hw];exact .ret h
  rw [bD hw]
  unfold tX
  rw [if_neg (by simp)]
  refine .ite (fun _=>.ret h) fun q=>?_
  have hc0:¬c < 0:=by simpa using q
  have hc:0≤c∧c≤2:=by omega
  have take:∀m:Mem,i3 m→∃t x,E9 m.aA w c=some (⟨m.aA.Global,m.aA.bB.set (w * 3+c).toNat t⟩,x)∧(0≤x→0≤bJ m.aB x)∧i3 ⟨m.aB,⟨m.aA.Global,m.aA.bB.set (w * 3+c).toNat t⟩⟩:=fun m hm=>by
    obtain⟨l,t,x,e1,e2,_,_,e3,e4⟩:=SF hm hw hc
    obtain⟨hcnt,h3,h9,h1,h2,hsm,hcp,hlo,hsG,hsO⟩:=i3.facts hm
    refine⟨t,x,?_,e3,e4.1⟩
    unfold E9 wL
    rw [DH (by omega) (by omega) (fun s h=>by have:=hsG s h;omega) (fun s h=>by have:=hsO s h;omega),aG,(D2 hw hc).1,aG,xG (by omega),bD hm.1.2,aG,if_neg (by simp),bN (by omega),if_neg (by simp),e1,aG,e2,aG]
  have takeG:∀m:Mem,i3 m→∃t x,wM m.aA c=some (⟨m.aA.Global.set c.toNat t,m.aA.bB⟩,x)∧(0≤x→0≤bJ m.aB x)∧i3 ⟨m.aB,⟨m.aA.Global.set c.toNat t,m.aA.bB⟩⟩:=fun m hm=>by
    obtain⟨l,t,x,e1,e2,_,_,e3,e4⟩:=JS hm hc
    obtain⟨hcnt,h3,h9,h1,h2,hsm,hcp,hlo,hsG,hsO⟩:=i3.facts hm
    refine⟨t,x,?_,e3,e4.1⟩
    unfold wM pC
    rw [DH (by omega) (by omega) (fun s h=>by have:=hsG s h;omega) (fun s h=>by have:=hsO s h;omega),aG,xG (by omega),bD hm.1.2,aG,if_neg (by simp),bR,bD hc,aG,if_neg (by simp),e1,aG,e2,aG]
  have fin:∀(x:Int) (m:Mem),i3 m→(0≤x→0≤bJ m.aB x)→fA (nG x m) (fun x=>Wk x.1):=fun x m hm hx=>by
    unfold nG
    refine .ite (fun _=>.ret hm.wk) fun q=>?_
    obtain⟨v,e,_⟩:=aET hm.1.1.1 (hx (by simpa using q))
    rw [e,aG]
    exact .ret hm.wk
  have aMB:∀(x:Int) (M:Mem) (g o:List aC),i3 ⟨M.aB,⟨g,o⟩⟩→(0≤x→0≤bJ M.aB x)→fA (nH c x M g o) (fun x=>Wk x.1):=fun x M g o hm hx=>by
    unfold nH
    refine .ite (fun _=>?_) fun _=>fin x _ hm hx
    obtain⟨m',s,e1,_,_,e2,e3⟩:=aB4 hm hc
    rw [e1,aG]
    exact fin s m' e3.1 (fun q=>(e2 q).2)
  obtain⟨t,x,e1,e2,e3⟩:=take m hm
  rw [e1,aG]
  refine .ite (fun q=>?_) fun q=>aMB x _ _ _ e3 e2
  obtain⟨t',x',f1,f2,f3⟩:=takeG _ e3
  simp only at f1
  rw [f1,aG]
  exact aMB x' _ _ _ f3 f2
theorem aY0{m:Mem}(h:Wk m){w x:Int}:fA (E8 m w x) (fun x=>Wk x.1):=by
  unfold E8
  rw [D0 h.small,aG,h.aID,aG]
  by_cases hm:i3 m
  rotate_left
  · rw [bN hm,if_pos (by simp)];exact .ret h
  rw [bD hm,if_neg (by simp),bR,aG]
  by_cases hw:0≤w∧w≤2
  rotate_left
  · rw [bN hw];exact .ret h
  rw [bD hw]
  unfold wH
  obtain⟨hcnt,h3,h9,h1,h2,hsm,hcp,hlo,hsG,hsO⟩:=i3.facts hm
  rw [if_neg (by simp),lX hm.1.1.1 (by omega) (by simp only [maxLen];omega) (by simp only [maxLen];omega),aG]
  by_cases hv:mY m x
  rotate_left
  · rw [bN hv];exact .ret h
  obtain⟨m',e1,_,_,e2⟩:=aMC hm hw hv
  rw [bD hv,if_neg (by simp),dJ,if_pos hv.1,aG,e1,aG]
  exact .ret e2.1.wk
theorem aIE{b:List Int}{a w n:Int}(ha:0≤a)(hw:1≤w∧w≤7)(h:a+w≤b.length)(hl:b.length≤1000):fA (iF b a w n) (fun x=>x.length=b.length):=by
  unfold iF
  rw [aM (x:=w - 1) (by omega) (by omega)]
  refine .bind (P:=fun x=>x.length=b.length) (.loop (fun s=>(s.2.2+1).toNat) (fun s=>s.1.length=b.length∧-1≤s.2.2∧s.2.2≤w - 1) ⟨rfl,by (try simp only);omega⟩ ?_) fun x hx=>.ret hx
  rintro⟨l,v,k⟩ ⟨h1,h2,h3⟩
  simp only at h1 h2 h3
  simp only [p9]
  refine .ite (fun q=>?_) (fun q=>.ret h1)
  have q':=of_decide_eq_true q
  rw [aM (x:=a+k) (by omega) (by omega),aM (x:=k - 1) (by omega) (by omega)]
  refine .bind (.idx (by omega)) fun x _=>.ret ⟨⟨by simpa using h1,by (try simp only);omega⟩,by (try simp only);omega⟩
theorem aXA{n w:Int}(hw:1≤w∧w≤7):fA (xL n w) (fun _=>True):=by
  unfold xL
  rw [bR,bD hw,aG,if_neg (by simp)]
  unfold vN
  refine .ite (fun _=>.ret trivial) fun _=>?_
  refine .bind (P:=fun _=>True) (.loop (fun s=>100 - (s.2.2).toNat) (fun s=>(s.2.1.length:Int)=s.2.2∧s.2.2≤w) ⟨rfl,by (try simp only);omega⟩ ?_) ?_
  · rintro⟨x,l,k⟩ ⟨h1,h2⟩
    simp only at h1 h2
    simp only [vM]
    refine .ite (fun q=>?_) (fun q=>.ret trivial)
    have q':=of_decide_eq_true q
    refine .need (by simp;omega) (.ret ?_)
    rw [aM (x:=k+1) (by omega) (by omega)]
    exact⟨⟨by simp;omega,by (try simp only);omega⟩,by (try simp only);omega⟩
  · rintro⟨x,l⟩ _
    simp only [IY,IX]
    exact .ite (fun _=>.ret trivial) fun _=>.ret trivial
theorem aY1{h:aB}{s:Int}(hcl:0≤bJ h s):e9 s (bJ h s)+4+fN (bJ h s)≤384:=by
  have hc2:0≤bJ h s∧bJ h s≤2:=by
    obtain⟨_,q,e⟩:=xF hcl
    rw [e];exact iV.1 (by omega)
  obtain⟨p,i,p6,hi,es,ec,eo,ep⟩:=D1 hcl
  have hgo:=DE hcl
  have hcl':0≤bV h p∧bV h p≤2:=by rw [←ec];exact hc2
  rw [ec] at eo hgo ⊢
  generalize bV h p=c at hi hcl' eo hgo
  rcases e7 hcl' with rfl | rfl | rfl
  · rw [show(b7 0).toNat=4 from rfl] at hi;rw [show(aW 0).toNat=12 from rfl] at eo;rw [show fN 0=8 from rfl];omega
  · rw [show(b7 1).toNat=2 from rfl] at hi;rw [show(aW 1).toNat=20 from rfl] at eo;rw [show fN 1=16 from rfl];omega
  · rw [show(b7 2).toNat=1 from rfl] at hi;rw [show(aW 2).toNat=44 from rfl] at eo;rw [show fN 2=40 from rfl];omega
theorem aXB{m:Mem}(h:Wk m){x a w n:Int}(hw:1≤w∧w≤7):fA (o9 m x a w n) (fun x=>Wk x.1):=by
  unfold o9 H6
  rw [D0 h.small,aG,h.aID,aG,bR]
  by_cases hm:i3 m
  rotate_left
  · rw [bN hm,if_pos (by simp)];exact .ret h
  rw [bD hm,if_neg (by simp),bD hw,aG]
  obtain⟨hcnt,h3,h9,h1,h2,hsm,hcp,hlo,hsG,hsO⟩:=i3.facts hm
  have hs:=hm.1.1.1
  unfold sE
  rw [if_neg (by simp),lX hs (by omega) (by simp only [maxLen];omega) (by simp only [maxLen];omega),aG]
  by_cases hv:mY m x
  rotate_left
  · rw [bN hv];exact .ret h
  have hcl:=yZ hv.2.1
  obtain⟨hroom,hz⟩:=aUX hcl
  have hgo:=DE hcl
  rw [bD hv,if_neg (by simp),dJ,if_pos hv.1,aG,gW hs,aG,A1,aG,bR,aG,aM (x:=fN (bJ m.aB (x % 32)) - 1) (by omega) (by omega)]
  by_cases ha:0≤a∧a≤fN (bJ m.aB (x % 32)) - 1
  rotate_left
  · rw [bN ha,if_pos (by simp)];exact .ret h
  rw [bD ha,if_neg (by simp),aG,aM (x:=fN (bJ m.aB (x % 32)) - a) (by omega) (by omega)]
  by_cases hb:fN (bJ m.aB (x % 32)) - a < w
  · rw [bD hb];exact .ret h
  rw [bN hb]
  unfold sD
  rw [if_neg (by simp),(start_eq hs hcl).1,aG,aG,if_neg (by simp)]
  refine .bind (aXA hw) fun t _=>.ite (fun _=>.ret h) fun _=>?_
  have room:e9 (x % 32) (bJ m.aB (x % 32))+4+fN (bJ m.aB (x % 32))≤384:=aY1 hcl
  refine .bind (aIE (a:=aV (e9 (x % 32) (bJ m.aB (x % 32))+4+a)) (by rw [aM (by omega) (by omega)];omega) hw (by rw [aM (by omega) (by omega)];omega) (by omega)) fun y hy=>.ret ⟨⟨by (try simp only);omega,h.1.2⟩,h.2⟩
noncomputable section
variable {b:List UInt8} {i h:Int} (hc:Cu b i)
include hc
theorem aGQ:fA (q6 ⟨b,i,h⟩) (fun x=>Cu b x.2.1):=by
  unfold q6
  refine .bind (aIC hc (by omega)) fun x1 h1=>.ite (fun _=>.bind (aEZ h1 (by decide) (by decide)) fun x ⟨_,h2⟩=>.ret h2) fun _=>.bind (below h1 (by omega)) fun x3 ⟨_,h3⟩=>.bind (below h3 (by omega)) fun x4 ⟨_,h4⟩=>?_
  unfold j7 hU
  rw [bR,aG,bR,aG]
  refine .bind (P:=fun _=>True) (.ite (fun _=>.ite (fun _=>.ret trivial) fun _=>.ret trivial) fun _=>.ite (fun _=>.ret trivial) fun _=>.ret trivial) fun x _=>.ret h4
theorem aY2{m:Int}(hm:m≤1000):fA (H7 ⟨b,i,h⟩ m) (fun x=>Wk x.1∧Cu b x.2.2.1):=by
  unfold H7 DN
  rw [ES,aG]
  unfold q5 tW
  rw [aL (by omega),aL (by omega),aG,aG]
  have h0:Wk ⟨aME,⟨List.replicate (3:Int).toNat ⟨[]⟩,List.replicate (9:Int).toNat ⟨[]⟩⟩⟩:=⟨⟨List.length_replicate,rfl⟩,rfl,rfl,by decide⟩
  refine .bind (below hc (by omega)) fun x2 ⟨hx2,h2⟩=>?_
  refine .bind (P:=fun x=>(1≤x.1.length∧x.1.length≤2000)∧Cu b x.2.1∧Wk x.2.2.2) (.loop (fun s=>s.2.1.toNat) (fun s=>(0≤s.2.1∧1≤s.1.length∧(s.1.length:Int)+s.2.1≤1500)∧Cu b s.2.2.1∧Wk s.2.2.2.2) ⟨⟨hx2.1,by simp,by simp;omega⟩,h2,h0⟩ ?_) ?_
  · rintro⟨l,n,i1,h1,m1⟩ ⟨⟨n0,l1,l2⟩,c1,w1⟩
    simp only at n0 l1 l2 c1 w1
    simp only [OB]
    refine .ite (fun q=>?_) (fun q=>.ret ⟨by (try simp only);omega,c1,w1⟩)
    have q':=of_decide_eq_true q
    have nx:∀(l':List Int) (i' h':Int) (m':Mem),l'.length≤l.length+1→1≤l'.length→Cu b i'→Wk m'→fA (nI n l' i' h' m') (aCC (fun s'=>((0≤s'.2.1∧1≤s'.1.length∧(s'.1.length:Int)+s'.2.1≤1500)∧Cu b s'.2.2.1∧Wk s'.2.2.2.2)∧s'.2.1.toNat < n.toNat) (fun x=>(1≤x.1.length∧x.1.length≤2000)∧Cu b x.2.1∧Wk x.2.2.2)):=fun l' i' h' m' a1 a2 a3 a4=>by
      unfold nI
      rw [aM (by omega) (by omega)]
      exact .ret ⟨⟨⟨by (try simp only);omega,a2,by (try simp only);omega⟩,a3,a4⟩,by (try simp only);omega⟩
    have body:∀(z:Bool) (i' h':Int),Cu b i'→fA (sI ⟨b,i,h⟩ l n z i' h' m1) (aCC (fun s'=>((0≤s'.2.1∧1≤s'.1.length∧(s'.1.length:Int)+s'.2.1≤1500)∧Cu b s'.2.2.1∧Wk s'.2.2.2.2)∧s'.2.1.toNat < n.toNat) (fun x=>(1≤x.1.length∧x.1.length≤2000)∧Cu b x.2.1∧Wk x.2.2.2)):=fun z i' h' c2=>by
      unfold sI GD
      refine .ite (fun _=>?_) (fun _=>?_)
      · exact .bind (below c2 (by omega)) fun x35 ⟨_,c3⟩=>.bind (below c3 (by omega)) fun x36 ⟨hx,c4⟩=>.bind (.idx (by omega)) fun x37 _=>.bind (aY0 w1) fun x38 w2=>nx _ _ _ _ (by omega) l1 c4 w2
      · refine .bind (below c2 (by omega)) fun x53 ⟨_,c3⟩=>.bind (below c3 (by omega)) fun x54 ⟨_,c4⟩=>.bind (aW9 w1) fun x55 w2=>?_
        unfold GG GF
        refine .ite (fun _=>.need (by simp;omega) ?_) (fun _=>nx _ _ _ _ (by omega) l1 c4 w2)
        exact .bind (below c4 (by omega)) fun x49 ⟨_,c5⟩=>.bind (below c5 (by omega)) fun x50 ⟨hx,c6⟩=>.bind (below c6 (by omega)) fun x51 ⟨_,c7⟩=>.bind (aXB w2 (by rw [aM (by omega) (by omega)];omega)) fun x52 w3=>nx _ _ _ _ (by simp) (by simp) c7 w3
    exact .bind (aIC c1 (by omega)) fun x56 c2=>.ite (fun _=>body _ _ _ c2) fun _=>body _ _ _ c2
  · rintro⟨l,i1,h1,m1⟩ ⟨⟨l1,l2⟩,c1,w1⟩
    simp only at l1 l2 c1 w1
    simp only [OC,OA,GC]
    exact .bind (below c1 (by omega)) fun x21 ⟨hx,c2⟩=>.bind (.idx (by omega)) fun x22 _=>.ret ⟨w1,c2⟩
omit hc in
theorem Hk.aID{h:aB}(hh:Hk h):yP h=some (decide (SM h)):=PG (by rw [hh.1];simp [maxLen])
omit hc in
theorem aXC{h:aB}(hh:Hk h){c:Int}:fA (K9 h c) (fun x=>Hk x.1∧x.2.length≤4):=by
  unfold K9 CL
  rw [LV (by have:=hh.1;omega) (by have:=hh.2;omega),aG,hh.aID,aG]
  by_cases ho:SM h
  rotate_left
  · rw [bN ho,if_pos (by simp)];exact .ret ⟨hh,by simp⟩
  rw [bD ho,if_neg (by simp),bR,aG]
  by_cases hcl:0≤c∧c≤2
  rotate_left
  · rw [bN hcl];exact .ret ⟨hh,by simp⟩
  rw [bD hcl,if_neg (by simp)]
  have:=jZ c
  rcases aH5 ho hcl with ⟨e,_⟩ | ⟨p,_,_,e,_⟩
  · rw [e,aG];exact .ret ⟨hh,by simp⟩
  · rw [e,aG];exact .ret ⟨⟨by simp only [HH];exact hh.1,by simpa using hh.2⟩,by simp only [HI];omega⟩
omit hc in
theorem aT2{h:aB}(hh:Hk h){s g:Int}:fA (H8 h s g) (fun x=>Hk x.1):=by
  unfold H8 zL LA
  rw [LV (by have:=hh.1;omega) (by have:=hh.2;omega),aG,NH (by rw [hh.1];simp [maxLen]),aG]
  by_cases ho:dW h
  rotate_left
  · rw [bN ho,if_pos (by simp),aG,if_pos (by decide)];exact .ret hh
  rw [bD ho,if_neg (by simp),gW ho,aG,aG,aG]
  refine .ite (fun _=>.ret hh) fun q=>?_
  have hcl:0≤bJ h s:=by simpa using q
  have hgo:=DE hcl
  obtain⟨hroom,_⟩:=aUX hcl
  rw [bR,aG]
  refine .ite (fun _=>.ret hh) fun _=>?_
  rw [mV,aG]
  exact .bind (aIE (by omega) (by omega) (by have:=hh.1;omega) (by have:=hh.1;omega)) fun y hy=>.ret ⟨by have:=hh.1;simp only;omega,hh.2⟩
theorem aY3:fA (H9 ⟨b,i,h⟩) (fun x=>Hk x.1∧Cu b x.2.1):=by
  unfold H9
  rw [ES,aG]
  refine .bind (below hc (by omega)) fun x2 ⟨hx2,h2⟩=>?_
  refine .bind (P:=fun x=>Cu b x.1∧Hk ⟨x.2.2.1,x.2.2.2⟩) (.loop (fun s=>s.1.toNat) (fun s=>(0≤s.1∧s.1≤10)∧Cu b s.2.1∧Hk ⟨s.2.2.2.1,s.2.2.2.2⟩) ⟨⟨hx2.1,by (try simp only);omega⟩,h2,List.length_replicate,rfl⟩ ?_) fun x hx=>.ret ⟨hx.2,hx.1⟩
  rintro⟨n,i1,h1,B,C⟩ ⟨⟨n0,n1⟩,c1,k1⟩
  simp only at n0 n1 c1 k1
  simp only [OH]
  refine .ite (fun q=>?_) (fun q=>.ret ⟨c1,k1⟩)
  have q':=of_decide_eq_true q
  refine .bind (below c1 (by omega)) fun x48 ⟨_,c2⟩=>.bind (aXC k1) fun x49 ⟨k2,l4⟩=>?_
  unfold GI
  refine .bind (P:=fun x=>Cu b x.1∧Hk ⟨x.2.2.1,x.2.2.2⟩) (.loop (fun s=>100 - s.1.toNat) (fun s=>(0≤s.1∧s.1≤4)∧Cu b s.2.1∧Hk ⟨s.2.2.2.1,s.2.2.2.2⟩) ⟨by simp,c2,k2⟩ ?_) ?_
  · rintro⟨k,i2,h2,B2,C2⟩ ⟨⟨m0,m1⟩,c3,k3⟩
    simp only at m0 m1 c3 k3
    simp only [OF,zN,GH]
    refine .ite (fun q=>?_) (fun q=>.ret ⟨c3,k3⟩)
    have q':=of_decide_eq_true q
    rw [aM (x:=k+1) (by omega) (by omega)]
    refine .bind (aIC c3 (by omega)) fun x40 c4=>.ite (fun _=>?_) fun _=>.ret ⟨⟨by (try simp only);omega,c4,k3⟩,by (try simp only);omega⟩
    exact .bind (.idx (by omega)) fun x45 _=>.bind (below c4 (by omega)) fun x46 ⟨_,c5⟩=>.bind (aT2 k3) fun x47 k4=>.ret ⟨⟨by (try simp only);omega,c5,k4⟩,by (try simp only);omega⟩
  · rintro⟨i2,h2,B2,C2⟩ ⟨c3,k3⟩
    simp only [OG,OE]
    rw [aM (by omega) (by omega)]
    exact .ret ⟨⟨by (try simp only);omega,c3,k3⟩,by (try simp only);omega⟩
theorem aRU:fA (LB ⟨b,i,h⟩) (fun x=>(x.1.Bytes.length≤384∧x.1.Class.length≤7)∧Cu b x.2.1):=by
  unfold LB IZ I0 I1 j8
  refine .bind (aY3 hc) fun x1 ⟨⟨a1,a2⟩,h1⟩=>.bind (below h1 (by omega)) fun x6 ⟨_,h6⟩=>?_
  refine .ite (fun _=>?_) fun _=>.ite (fun _=>?_) fun _=>.ite (fun _=>?_) fun _=>.ite (fun _=>?_) fun _=>.ite (fun _=>?_) fun _=>?_
  · exact .bind (below h6 (by omega)) fun x10 ⟨hx,c⟩=>.need (by omega) (.ret ⟨⟨by simp;omega,by (try simp only);omega⟩,c⟩)
  · exact .need (by simp;omega) (.ret ⟨⟨by (try simp only);omega,by simp;omega⟩,h6⟩)
  · exact .bind (below h6 (by omega)) fun x14 ⟨hx,c⟩=>.bind (aEZ c (by decide) (by decide)) fun x15 ⟨_,c2⟩=>.bind (.idx (by omega)) fun _ _=>.ret ⟨⟨by (try simp only);omega,by simp;omega⟩,c2⟩
  · exact .bind (below h6 (by omega)) fun x14 ⟨hx,c⟩=>.bind (aEZ c (by decide) (by decide)) fun x15 ⟨_,c2⟩=>.bind (.idx (by omega)) fun _ _=>.ret ⟨⟨by simp;omega,by (try simp only);omega⟩,c2⟩
  · exact .bind (below h6 (by omega)) fun x23 ⟨hx,c⟩=>.bind (below c (by omega)) fun x24 ⟨hx2,c2⟩=>.bind (below c2 (by omega)) fun x25 ⟨_,c3⟩=>.bind (.idx (by rw [aM (x:=x23.1 * 64) (by omega) (by omega),aM (by omega) (by omega)];omega)) fun _ _=>.ret ⟨⟨by simp;omega,by (try simp only);omega⟩,c3⟩
  · exact .ret ⟨⟨by (try simp only);omega,by (try simp only);omega⟩,h6⟩
def Lk(n:Nat)(l:aA):Prop:=l.Global.length=3∧l.bB.length=9∧(cK l).length≤n
omit hc in
theorem aY4{n:Nat}(hn:n≤1000){l:aA}(hl:Lk n l){w c s:Int}:fA (P8 l w c s) (fun x=>Lk (n+1) x.1):=by
  obtain⟨a1,a2,a3⟩:=hl
  have hal:=eS l
  have hl':Lk (n+1) l:=⟨a1,a2,by omega⟩
  have hg:∀s∈l.Global,s.aJ.length≤1000:=fun s h=>by have:=oX h;omega
  have ho:∀s∈l.bB,s.aJ.length≤1000:=fun s h=>by have:=oX h;omega
  unfold P8
  rw [DH (by omega) (by omega) (fun s h=>by have:=hg s h;omega) (fun s h=>by have:=ho s h;omega),aG,xG (by omega),aG]
  refine .ite (fun _=>.ret hl') fun _=>?_
  unfold kO qZ
  rw [bR,aG,bR,aG]
  by_cases hw:0≤w∧w≤2
  rotate_left
  · rw [bN hw,if_pos (by simp),if_pos rfl,aG,if_pos (by decide)];exact .ret hl'
  by_cases hcl:0≤c∧c≤2
  rotate_left
  · rw [bD hw,bN hcl,if_neg (by simp),if_pos (by simp),aG,if_pos (by decide)];exact .ret hl'
  rw [bD hw,bD hcl,if_neg (by simp),if_neg (by simp),aG,aM (x:=w * 3) (by omega) (by omega),aM (by omega) (by omega),if_neg (by simp;omega),bR,aG]
  refine .ite (fun _=>.ret hl') fun _=>?_
  rw [JJ (by omega) (by simp only [maxLen];omega) (by simp only [maxLen];omega),aG,DG (by simp only [maxLen];omega),aG]
  unfold tY
  refine .ite (fun _=>.ret hl') fun _=>?_
  refine .bind (P:=fun x=>Lk (n+1) x) ?_ fun x hx=>.ret hx
  unfold yQ zH zI sG
  rw [(D2 hw hcl).1,aG]
  have kx:(w * 3+c).toNat < l.bB.length:=by omega
  have ky:c.toNat < l.Global.length:=by omega
  have m1:=ho _ (List.getElem_mem kx)
  have m2:=hg _ (List.getElem_mem ky)
  rw [fY (by omega) (by omega),aG,fY hcl.1 (by omega),aG]
  refine .ite (fun _=>.need (by simp;omega) (.ret ⟨a1,by simpa using a2,?_⟩)) fun _=>.need (by simp;omega) (.ret ⟨by simpa using a1,a2,?_⟩)
  · rw [eS];simp only;rw [CD kx];simp;omega
  · rw [eS];simp only;rw [CD ky];simp;omega
theorem aXD:fA (FA ⟨b,i,h⟩) (fun x=>Lk 40 x.1∧Cu b x.2.1):=by
  unfold FA q5 tW
  rw [aL (by omega),aL (by omega),aG]
  refine .bind (below hc (by omega)) fun x2 ⟨hx2,h2⟩=>?_
  refine .bind (P:=fun x=>Cu b x.1∧Lk 40 ⟨x.2.2.1,x.2.2.2⟩) (.loop (fun s=>s.1.toNat) (fun s=>(0≤s.1∧s.1≤30)∧Cu b s.2.1∧Lk (40 - s.1.toNat) ⟨s.2.2.2.1,s.2.2.2.2⟩) ⟨⟨hx2.1,by (try simp only);omega⟩,h2,rfl,rfl,by simp [cK,bX]⟩ ?_) fun x hx=>.ret ⟨hx.2,hx.1⟩
  rintro⟨n,i1,h1,G,O⟩ ⟨⟨n0,n1⟩,c1,k1⟩
  simp only at n0 n1 c1 k1
  simp only [MD,D8]
  refine .ite (fun q=>?_) (fun q=>.ret ⟨c1,k1.1,k1.2.1,by have:=k1.2.2;simp only;omega⟩)
  have q':=of_decide_eq_true q
  refine .bind (below c1 (by omega)) fun x21 ⟨_,c2⟩=>.bind (below c2 (by omega)) fun x22 ⟨_,c3⟩=>.bind (below c3 (by omega)) fun x23 ⟨_,c4⟩=>.bind (aY4 (by omega) k1) fun x24 k2=>?_
  rw [aM (by omega) (by omega)]
  exact .ret ⟨⟨by (try simp only);omega,c4,k2.1,k2.2.1,Nat.le_trans k2.2.2 (by (try simp only);omega)⟩,by (try simp only);omega⟩
theorem aNF:fA (LC ⟨b,i,h⟩) (fun x=>(x.1.Global.length≤10∧x.1.bB.length≤10∧(cK x.1).length≤100)∧Cu b x.2.1):=by
  unfold LC I2 I3 mM
  refine .bind (aXD hc) fun x1 ⟨⟨a1,a2,a3⟩,h1⟩=>.bind (below h1 (by omega)) fun x6 ⟨_,h6⟩=>?_
  have hal:=eS x1.1
  have hg:∀s∈x1.1.Global,s.aJ.length≤1000:=fun s h=>by have:=oX h;omega
  refine .ite (fun _=>?_) fun _=>.ite (fun _=>?_) fun _=>.ite (fun _=>?_) fun _=>.ite (fun _=>?_) fun _=>?_
  · refine .need (by omega) (.ret ⟨⟨by simp;omega,by (try simp only);omega,?_⟩,h6⟩)
    have:=Y4 x1.1.Global (2:Int).toNat
    rw [eS];simp only [List.drop_zero];omega
  · refine .need (by simp;omega) (.ret ⟨⟨by (try simp only);omega,by simp;omega,?_⟩,h6⟩)
    rw [eS];simp only [T3,List.length_append];simp [bX] at hal ⊢;omega
  · refine .bind (below h6 (by omega)) fun x10 ⟨hx,c⟩=>.bind (.idx (by omega)) fun _ _=>.ret ⟨⟨by (try simp only);omega,by simp;omega,?_⟩,c⟩
    have kx:x10.1.toNat < x1.1.bB.length:=by omega
    have e1:=CC kx ⟨[1,2,3]⟩
    have e2:=y6 kx
    rw [eS]
    simp only [e1,List.length_append,List.length_cons,List.length_nil]
    rw [e2] at hal
    simp only [List.length_append] at hal
    omega
  · refine .bind (below h6 (by omega)) fun x12 ⟨hx,c⟩=>?_
    have kx:x12.1.toNat < x1.1.Global.length:=by omega
    have m1:=hg _ (List.getElem_mem kx)
    rw [fY hx.1 (by omega),aG]
    refine .bind (aEZ c (by decide) (by decide)) fun x17 ⟨_,c2⟩=>.need (by simp;omega) (.ret ⟨⟨by simp;omega,by (try simp only);omega,?_⟩,c2⟩)
    rw [eS];simp only;rw [CD kx];simp;omega
  · exact .ret ⟨⟨by (try simp only);omega,by (try simp only);omega,Nat.le_trans a3 (by omega)⟩,h6⟩
theorem aMG:fA (GJ ⟨b,i,h⟩) (fun x=>gZ x.1∧Cu b x.2.2.1):=by
  unfold GJ
  refine .bind (aY2 hc (by omega)) fun x1 ⟨w1,h1⟩=>.bind (aIC h1 (by omega)) fun x12 h2=>?_
  have key:∀(v i' h':Int),Cu b i'→fA (vP ⟨b,i,h⟩ v i' h' x1.1) (fun x=>gZ x.1∧Cu b x.2.2.1):=fun v i' h' c=>by
    unfold vP vO
    obtain⟨⟨p1,p2⟩,p3,p4,p5⟩:=w1
    refine .bind (below c (by omega)) fun x9 ⟨_,c2⟩=>.ite (fun _=>?_) fun _=>.ite (fun _=>?_) fun _=>.ret ⟨show gZ x1.1 from ⟨by omega,by omega,by omega,by omega,by omega⟩,c2⟩
    · exact .bind (aRU c2) fun x10 ⟨⟨a1,a2⟩,c3⟩=>.ret ⟨⟨by (try simp only);omega,by (try simp only);omega,by (try simp only);omega,by (try simp only);omega,by (try simp only);omega⟩,c3⟩
    · exact .bind (aNF c2) fun x10 ⟨⟨a1,a2,a3⟩,c3⟩=>.ret ⟨show gZ ⟨x1.1.aB,x10.1⟩ from ⟨by (try simp only);omega,by (try simp only);omega,by (try simp only);omega,by (try simp only);omega,by (try simp only);omega⟩,c3⟩
  exact .ite (fun _=>.bind (aGQ h2) fun x13 h3=>key _ _ _ h3) fun _=>key _ _ _ h2
end
end Go.Gv
end
noncomputable section
namespace Go.Gv
def NT(w:Int):Nat→aE→Sub→aE×Sub
  | 0,b,s=>(b,s)
  | n+1,b,s=>if s.eI then (b,s) else NT w n (QK b w s).1 (QK b w s).2
theorem aMH{w:Int}(hw:0≤w∧w≤2):∀n b s,eN b→eN (NT w n b s).1
  | 0,b,s,hb=>hb
  | n + 1, b, s, hb => by
    unfold NT
    split
    · exact hb
    · exact aMH hw n _ _ (aGO hb hw s)
theorem aCF{w:Int}(hw:0≤w∧w≤2):∀d k:Nat,k+d=200→∀(s:Sub) (b:aE),eN b→loop (gG w) ((k:Int),s,b)=some ((NT w d b s).2,(NT w d b s).1)
  | 0, k, hk, s, b, hb => by
    apply bK
    simp only [gG,gE]
    rw [if_neg (by simp;omega)];rfl
  | d + 1, k, hk, s, b, hb => by
    cases hd:s.eI with
    | true =>
      have e:NT w (d+1) b s=(b,s):=by unfold NT;rw [if_pos hd]
      rw [e]
      apply bK
      simp only [gG,gE,hd]
      rw [if_pos (by simp;omega)];rfl
    | false =>
      have e:NT w (d+1) b s=NT w d (QK b w s).1 (QK b w s).2:=by rw [NT,if_neg (by simp [hd])]
      rw [e,bT (s':=(((k+1:Nat):Int),(QK b w s).2,(QK b w s).1))]
      · exact aCF hw d (k+1) (by omega) _ _ (aGO hb hw s)
      · simp only [gG,gE,hd]
        rw [if_pos (by simp;omega),rX,if_pos rfl,aGN hb hw,aG,aM (by omega) (by omega)];rfl
def QH(b:aE)(w:Int)(s:Sub):aE×Sub:=if eN b∧0≤w∧w≤2 then NT w 200 b s else (b,s)
theorem aJ8{b:aE}(hs:tK b)(w:Int)(s:Sub):gO b w s=some (QH b w s):=by
  unfold gO QH sO
  rw [T2 hs,aG,iX hs.fits,aG,bR,aG]
  by_cases hb:eN b
  · by_cases hw:0≤w∧w≤2
    · rw [bD hb,bD hw,if_neg (by simp),if_neg (by simp),if_pos ⟨hb,hw⟩]
      have:=aCF hw 200 0 rfl s b hb
      rw [show((0:Nat):Int)=0 from rfl] at this
      rw [this];rfl
    · rw [bD hb,bN hw,if_neg (by simp),if_pos (by simp),if_neg (fun q=>hw q.2)]
  · rw [bN hb,if_pos (by simp),if_pos rfl,if_neg (fun q=>hb q.1)]
theorem aJ9{b:aE}(hb:eN b)(w:Int)(s:Sub):eN (QH b w s).1:=by
  unfold QH
  split
  · rename_i q;exact aMH q.2 _ _ _ hb
  · exact hb
theorem aY5{w:Int}(hw:0≤w∧w≤2):∀d k:Nat,k+d=200→∀(s:Sub) (b:aE),eN b→∃s' b',loop (gG w) ((k:Int),s,b)=some (s',b')∧eN b'
  | 0,k,hk,s,b,hb=>⟨s,b,bK (by simp only [gG,gE];rw [if_neg (by simp;omega)];rfl),hb⟩
  | d + 1, k, hk, s, b, hb => by
    cases hd:s.eI with
    | true=>exact⟨s,b,bK (by simp only [gG,gE,hd];rw [if_pos (by simp;omega)];rfl),hb⟩
    | false =>
      obtain⟨x,y,e1,_,hx⟩:=step_eq hb hb.small hw s
      obtain⟨s',b',e3,h⟩:=aY5 hw d (k+1) (by omega) y x hx
      refine⟨s',b',?_,h⟩
      rw [bT (s':=(((k+1:Nat):Int),y,x)) (by
        simp only [gG,gE,hd]
        rw [if_pos (by simp;omega),rX,if_pos rfl,e1,aM (by omega) (by omega)];rfl)]
      exact e3
theorem aMI{b:aE}(hb:eN b){w:Int}(hw:0≤w∧w≤2)(s:Sub):∃r,gO b w s=some r∧eN r.1:=by
  obtain⟨s',b',e,h⟩:=aY5 hw 200 0 rfl s b hb
  rw [show((0:Nat):Int)=0 from rfl] at e
  refine⟨(b',s'),?_,h⟩
  unfold gO sO
  rw [T2 hb.small,aG,iX hb.small.fits,aG,bR,aG,bD hb,bD hw,if_neg (by simp),if_neg (by simp),e];rfl
noncomputable section
variable {b:List UInt8} {i h:Int} (hc:Cu b i)
include hc
theorem aUZ{m:Int}(hm:m≤1000):fA (zR ⟨b,i,h⟩ m) (fun x=>eN x.1∧Cu b x.2.2.1):=by
  unfold zR
  rw [aJ7.1,aG]
  refine .bind (below hc (by omega)) fun x2 ⟨hx2,h2⟩=>?_
  refine .bind (P:=fun x=>(1≤x.1.length∧x.1.length≤2000)∧Cu b x.2.1∧eN x.2.2.2) (.loop (fun s=>s.2.1.toNat) (fun s=>(0≤s.2.1∧1≤s.1.length∧(s.1.length:Int)+s.2.1≤1500)∧Cu b s.2.2.1∧eN s.2.2.2.2) ⟨⟨hx2.1,by simp,by simp;omega⟩,h2,aRQ⟩ ?_) ?_
  · rintro⟨l,n,i1,h1,B⟩ ⟨⟨n0,l1,l2⟩,c1,b1⟩
    simp only at n0 l1 l2 c1 b1
    simp only [MG]
    refine .ite (fun q=>?_) (fun q=>.ret ⟨by (try simp only);omega,c1,b1⟩)
    have q':=of_decide_eq_true q
    have nx:∀(l':List Int) (i' h':Int) (B':aE),l'.length≤l.length+1→1≤l'.length→Cu b i'→eN B'→fA (dQ n l' i' h' B') (aCC (fun s'=>((0≤s'.2.1∧1≤s'.1.length∧(s'.1.length:Int)+s'.2.1≤1500)∧Cu b s'.2.2.1∧eN s'.2.2.2.2)∧s'.2.1.toNat < n.toNat) (fun x=>(1≤x.1.length∧x.1.length≤2000)∧Cu b x.2.1∧eN x.2.2.2)):=fun l' i' h' B' a1 a2 a3 a4=>by
      unfold dQ
      rw [aM (by omega) (by omega)]
      exact .ret ⟨⟨⟨by (try simp only);omega,a2,by (try simp only);omega⟩,a3,a4⟩,by (try simp only);omega⟩
    refine .bind (below c1 (by omega)) fun w ⟨hw,c2⟩=>.bind (below c2 (by omega)) fun x28 ⟨hx,c3⟩=>.bind (.idx (by omega)) fun x29 _=>.bind (below c3 (by omega)) fun x30 ⟨_,c4⟩=>?_
    have hwr:0≤w.1∧w.1≤2:=by omega
    have y9:∀(s:Sub) (f:aE×Sub→Option (Step ((List Int)×Int×Int×Int×aE) ((List Int)×Int×Int×aE))),(∀r,f r=dQ n l x30.2.1 x30.2.2 r.1)→fA ((gO B w.1 s).bind f) _:=fun s f hf=>by
      obtain⟨r,e,hb⟩:=aMI b1 hwr s
      rw [e,aG,hf]
      exact nx l _ _ _ (by omega) l1 c4 hb
    have f9:∀z,fA (qG ⟨b,i,h⟩ l n w x29 x30 z B) _:=fun z=>by
      unfold qG BL BM BN
      simp only [l9,aG]
      refine .ite (fun _=>y9 _ _ fun _=>rfl) fun _=>.ite (fun _=>y9 _ _ fun _=>rfl) fun _=>.ite (fun _=>y9 _ _ fun _=>rfl) fun _=>.ite (fun _=>?_) fun _=>?_
      · obtain⟨r,e1,_,e2,e3⟩:=aH7 b1.1.2.1 hwr
        rw [e1,aG]
        exact nx l _ _ _ (by omega) l1 c4 (b1.clock e2 (by omega))
      · obtain⟨r,e1,_,e2⟩:=aB7 b1.1.2.2.2 hwr x29
        rw [e1,aG]
        refine .bind (aIC c4 (by omega)) fun x65 c5=>.ite (fun _=>?_) fun _=>nx l _ _ _ (by omega) l1 c5 (b1.haz e2)
        obtain⟨r',f1,_,f2⟩:=aRG e2 hwr
        rw [f1,aG]
        exact nx l _ _ _ (by omega) l1 c5 (b1.haz f2)
    have f7:∀z,fA (qH ⟨b,i,h⟩ l n w x29 x30 z B) _:=fun z=>by
      unfold qH EE
      simp only [l9,aG]
      exact .ite (fun _=>y9 _ _ fun _=>rfl) fun _=>.ite (fun _=>f9 _) fun _=>f9 _
    have f4:∀z,fA (jE ⟨b,i,h⟩ l n w x29 x30 z B) _:=fun z=>by
      unfold jE
      refine .ite (fun _=>?_) fun _=>.ite (fun _=>f7 _) fun _=>f7 _
      refine .bind (below c4 (by omega)) fun x44 ⟨_,c5⟩=>?_
      simp only [l9,aG]
      obtain⟨r,er,b2⟩:=aMI b1 hwr ⟨1,aV (1+x44.1),0,0,0,0,0,0,0,false⟩
      rw [er,aG]
      unfold ED EC
      refine .ite (fun _=>.need (by simp;omega) (.bind (below c5 (by omega)) fun x42 ⟨hv,c6⟩=>?_)) fun _=>nx l _ _ _ (by omega) l1 c5 b2
      obtain⟨y,c,e1,_,e2,_⟩:=aJ3 b2.1.1 (h:=r.2.Out) (n:=x42.1) (by omega)
      rw [e1,aG]
      exact nx _ _ _ _ (by simp) (by simp) c6 (b2.mem e2)
    exact .ite (fun _=>f4 _) fun _=>.ite (fun _=>f4 _) fun _=>.ite (fun _=>f4 _) fun _=>f4 _
  · rintro⟨l,i1,h1,B⟩ ⟨⟨l1,l2⟩,c1,b1⟩
    simp only at l1 l2 c1 b1
    simp only [MH,MF,EB]
    exact .bind (below c1 (by omega)) fun x21 ⟨hx,c2⟩=>.bind (.idx (by omega)) fun x22 _=>.ret ⟨b1,c2⟩
theorem aXE:fA (CN ⟨b,i,h⟩) (fun x=>JK x.1∧Cu b x.2.1):=by
  unfold CN vR
  rw [aL (by omega),aG]
  refine .bind (below hc (by omega)) fun x2 ⟨hx2,h2⟩=>?_
  refine .bind (P:=fun x=>Cu b x.1∧JK ⟨x.2.2.1,x.2.2.2⟩) (.loop (fun s=>s.1.toNat) (fun s=>0≤s.1∧s.1≤100∧Cu b s.2.1∧JK ⟨s.2.2.2.1,s.2.2.2.2⟩) ⟨hx2.1,by (try simp only);omega,h2,of_decide_eq_true (by kernel_rfl)⟩ ?_) fun x hx=>.ret ⟨hx.2,hx.1⟩
  rintro⟨n,i1,h1,E,P⟩ ⟨n0,n1,c1,k1⟩
  simp only at n0 n1 c1 k1
  simp only [J5,uA,kG]
  refine .ite (fun q=>?_) (fun q=>.ret ⟨c1,k1⟩)
  have q':=of_decide_eq_true q
  rw [aM (by omega) (by omega)]
  refine .bind (below c1 (by omega)) fun w ⟨hw,c2⟩=>.bind (below c2 (by omega)) fun x22 ⟨_,c3⟩=>?_
  have hwr:0≤w.1∧w.1≤2:=by omega
  obtain⟨r1,e1,_,⟨d1,_⟩,_⟩:=aH3 k1 hwr E
  obtain⟨r2,e2,_,d2,_⟩:=aH7 k1 hwr
  obtain⟨r3,e3,_,d3,_⟩:=aEQ k1 hwr E
  obtain⟨r4,e4,_,d4,_⟩:=aL9 k1 E
  rw [e1,e2,e3,e4]
  simp only [aG]
  have fin:∀r:aI,JK r→fA (some (Step.next (n - 1,x22.2.1,x22.2.2,r.aK,r.aX):Step (Int×Int×Int×Int×(List eX)) (Int×Int×Int×(List eX)))) (aCC (fun s'=>(0≤s'.1∧s'.1≤100∧Cu b s'.2.1∧JK ⟨s'.2.2.2.1,s'.2.2.2.2⟩)∧s'.1.toNat < n.toNat) (fun x=>Cu b x.1∧JK ⟨x.2.2.1,x.2.2.2⟩)):=fun r hr=>.ret ⟨⟨by (try simp only);omega,by (try simp only);omega,c3,hr⟩,by (try simp only);omega⟩
  exact .ite (fun _=>fin _ d1) fun _=>.ite (fun _=>fin _ d2) fun _=>.ite (fun _=>.ite (fun _=>fin _ d3) fun _=>fin _ d4) fun _=>.ite (fun _=>fin _ d3) fun _=>fin _ d4
theorem aNG:fA (IA ⟨b,i,h⟩) (fun x=>x.1.aX.length≤3∧Cu b x.2.1):=by
  unfold IA gH
  refine .bind (aXE hc) fun x1 ⟨k1,h1⟩=>.bind (below h1 (by omega)) fun x2 ⟨hx,h2⟩=>.bind (below h2 (by omega)) fun x7 ⟨_,h7⟩=>?_
  have h3:=k1.2.1
  refine .ite (fun _=>?_) fun _=>.ite (fun _=>?_) fun _=>.ite (fun _=>?_) fun _=>.ite (fun _=>?_) fun _=>.ite (fun _=>?_) fun _=>.ite (fun _=>?_) fun _=>?_
  · exact .bind (aEZ h7 (by decide) (by decide)) fun x8 ⟨_,c⟩=>.ret ⟨by (try simp only);omega,c⟩
  · exact .need (by omega) (.ret ⟨by simp;omega,h7⟩)
  · exact .bind (.idx (by omega)) fun _ _=>.ret ⟨by simp;omega,h7⟩
  · exact .bind (.idx (by omega)) fun _ _=>.ret ⟨by simp;omega,h7⟩
  · exact .bind (.idx (by omega)) fun _ _=>.ret ⟨by simp;omega,h7⟩
  · exact .bind (.idx (by omega)) fun _ _=>.ret ⟨by simp;omega,h7⟩
  · exact .ret ⟨by (try simp only);omega,h7⟩
def Rk(l:List aP):Prop:=l.length=3∧(a9 l).length≤24
omit hc in
theorem Rk.rows{l:List aP}(hl:Rk l):∀s∈l,s.Rows.length≤24:=fun s hs=>by have:=FY hs;have:=hl.2;omega
omit hc in
theorem aT3{l:List aP}(hl:Rk l){w x e:Int}:fA (CP l w x e) (fun x=>Rk x.1):=by
  have hr:=hl.rows
  obtain⟨a1,a2⟩:=hl
  have hcp:=RR (l:=l) (by omega) (fun s h=>by have:=hr s h;omega)
  unfold CP
  rw [hcp,aG,EP (by omega) (by simp only [maxLen];omega),aG]
  unfold uB
  refine .ite (fun _=>.ret ⟨a1,a2⟩) fun _=>?_
  rw [bR,aG]
  by_cases hw:0≤w∧w≤2
  rotate_left
  · rw [bN hw];exact .ret ⟨a1,a2⟩
  have kx:w.toNat < l.length:=by omega
  have hm:=hr _ (List.getElem_mem kx)
  have hlen:(a9 (l.set w.toNat ⟨l[w.toNat].Rows ++ [⟨x,e⟩]⟩)).length≤1000:=by
    rw [CB kx]
    rw [y5 kx] at a2
    simp only [List.length_append,List.length_cons,List.length_nil] at a2 ⊢
    omega
  rw [bD hw,if_neg (by simp),fY hw.1 (by omega),aG,aL (by simp;omega),EP (by omega) (by simp only [List.length_set,maxLen];omega),aG]
  by_cases ho:mX (l.set w.toNat ⟨l[w.toNat].Rows ++ [⟨x,e⟩]⟩)
  · rw [bD ho,if_neg (by simp)];exact .ret ⟨ho.1,ho.2.1⟩
  · rw [bN ho,if_pos (by simp),hcp,aG];exact .ret ⟨a1,a2⟩
theorem aXF:fA (CQ ⟨b,i,h⟩) (fun x=>Rk x.1∧Cu b x.2.1):=by
  unfold CQ vS
  rw [aL (by omega),aG]
  refine .bind (below hc (by omega)) fun x2 ⟨hx2,h2⟩=>?_
  refine .bind (P:=fun x=>Rk x.1∧Cu b x.2.1) (.loop (fun s=>s.2.1.toNat) (fun s=>(0≤s.2.1∧s.2.1≤100)∧Cu b s.2.2.1∧Rk s.1) ⟨⟨hx2.1,by (try simp only);omega⟩,h2,rfl,by simp [a9]⟩ ?_) fun x hx=>.ret hx
  rintro⟨l,n,i1,h1⟩ ⟨⟨n0,n1⟩,c1,k1⟩
  simp only at n0 n1 c1 k1
  simp only [J6]
  refine .ite (fun q=>?_) (fun q=>.ret ⟨k1,c1⟩)
  have q':=of_decide_eq_true q
  rw [aM (by omega) (by omega)]
  exact .bind (below c1 (by omega)) fun x14 ⟨_,c2⟩=>.bind (aGQ c2) fun x15 c3=>.bind (below c3 (by omega)) fun x16 ⟨_,c4⟩=>.bind (aT3 k1) fun x17 k2=>.ret ⟨⟨by (try simp only);omega,c4,k2⟩,by (try simp only);omega⟩
theorem aNH:fA (IB ⟨b,i,h⟩) (fun x=>(x.1.length≤3∧(a9 x.1).length≤100)∧Cu b x.2.1):=by
  unfold IB GL nN
  refine .bind (aXF hc) fun x1 ⟨k1,h1⟩=>.bind (below h1 (by omega)) fun x5 ⟨_,h5⟩=>?_
  have hrow:=Rk.rows k1
  obtain⟨a1,a2⟩:=k1
  have more:∀(k:Nat) (hk:k < x1.1.length) (r:List bC),r.length≤4→(a9 (x1.1.set k ⟨x1.1[k].Rows++r⟩)).length≤100:=fun k hk r hr=>by
    rw [CB hk]
    rw [y5 hk] at a2
    simp only [List.length_append] at a2 ⊢
    omega
  refine .ite (fun _=>?_) fun _=>.ite (fun _=>?_) fun _=>.ite (fun _=>?_) fun _=>.ite (fun _=>?_) fun _=>?_
  · refine .need (by omega) (.ret ⟨⟨by simp;omega,?_⟩,h5⟩)
    have:=TZ x1.1 (1:Int).toNat
    simp only [List.drop_zero];omega
  · have hm:=hrow _ (List.getElem_mem (show 0 < x1.1.length by omega))
    rw [show idx x1.1 0=some x1.1[0] from aU (k:=0) (by omega),aG]
    exact .need (by simp;omega) (.ret ⟨⟨by simp;omega,more 0 (by omega) _ (by simp)⟩,h5⟩)
  · have hm:=hrow _ (List.getElem_mem (show 1 < x1.1.length by omega))
    rw [show idx x1.1 1=some x1.1[1] from aU (k:=1) (by omega),aG]
    exact .bind (aGQ h5) fun x11 c=>.need (by simp;omega) (.ret ⟨⟨by simp;omega,more 1 (by omega) _ (by simp)⟩,c⟩)
  · have hm:=hrow _ (List.getElem_mem (show 2 < x1.1.length by omega))
    rw [show idx x1.1 2=some x1.1[2] from aU (k:=2) (by omega),aG]
    exact .need (by simp;omega) (.ret ⟨⟨by simp;omega,more 2 (by omega) _ (by simp)⟩,h5⟩)
  · exact .ret ⟨⟨by (try simp only);omega,by (try simp only);omega⟩,h5⟩
theorem a0L:fA (IC ⟨b,i,h⟩) (fun x=>x.1.length≤3∧Cu b x.2.1):=by
  unfold IC DO
  rw [aL (by omega),aG]
  refine .bind (below hc (by omega)) fun x2 ⟨hx2,h2⟩=>?_
  refine .bind (P:=fun x=>HV x.1∧Cu b x.2.1) (.loop (fun s=>s.2.1.toNat) (fun s=>(0≤s.2.1∧s.2.1≤100)∧Cu b s.2.2.1∧HV s.1) ⟨⟨hx2.1,by (try simp only);omega⟩,h2,of_decide_eq_true (by kernel_rfl)⟩ ?_) ?_
  · rintro⟨l,n,i1,h1⟩ ⟨⟨n0,n1⟩,c1,k1⟩
    simp only at n0 n1 c1 k1
    simp only [OJ]
    refine .ite (fun q=>?_) (fun q=>.ret ⟨k1,c1⟩)
    have q':=of_decide_eq_true q
    rw [aM (x:=n - 1) (by omega) (by omega)]
    refine .bind (below c1 (by omega)) fun w ⟨hw,c2⟩=>.bind (below c2 (by omega)) fun x22 ⟨_,c3⟩=>.bind (below c3 (by omega)) fun x23 ⟨_,c4⟩=>?_
    unfold j7 hU
    rw [bR,aG,bR,aG]
    refine .bind (P:=fun _=>True) (.ite (fun _=>.ite (fun _=>.ret trivial) fun _=>.ret trivial) fun _=>.ite (fun _=>.ret trivial) fun _=>.ret trivial) fun x _=>?_
    obtain⟨r,e1,_,e2⟩:=aB7 k1 (w:=w.1) (by omega) x
    rw [e1,aG]
    exact .ret ⟨⟨by (try simp only);omega,c4,e2⟩,by (try simp only);omega⟩
  · rintro⟨l,i1,h1⟩ ⟨k1,c1⟩
    simp only at k1 c1
    have h3:=k1.1
    simp only [OK,OI,zS]
    refine .bind (below c1 (by omega)) fun x17 ⟨_,c2⟩=>.ite (fun _=>.need (by omega) (.ret ⟨by simp;omega,c2⟩)) fun _=>.ite (fun _=>?_) fun _=>.ret ⟨by (try simp only);omega,c2⟩
    exact .bind (below c2 (by omega)) fun x18 ⟨hx,c3⟩=>.bind (aEZ c3 (by decide) (by decide)) fun x19 ⟨_,c4⟩=>.bind (.idx (by omega)) fun _ _=>.ret ⟨by simp;omega,c4⟩
theorem aRV:fA (ID ⟨b,i,h⟩) (fun x=>tK x.1∧Cu b x.2.2.1):=by
  unfold ID kT
  refine .bind (aUZ hc (by omega)) fun x1 ⟨b1,h1⟩=>.bind (below h1 (by omega)) fun x5 ⟨_,h5⟩=>?_
  have hs:=b1.small
  obtain⟨s1,s2,s3,s4,s5⟩:=hs
  refine .ite (fun _=>?_) fun _=>.ite (fun _=>?_) fun _=>.ite (fun _=>?_) fun _=>.ite (fun _=>?_) fun _=>.ret ⟨⟨s1,s2,s3,s4,s5⟩,h5⟩
  · exact .bind (aMG h5) fun x6 ⟨m,c⟩=>.ret ⟨⟨m,s2,s3,s4,s5⟩,c⟩
  · exact .bind (aNG h5) fun x6 ⟨m,c⟩=>.ret ⟨⟨s1,by (try simp only);omega,s3,s4,s5⟩,c⟩
  · exact .bind (aNH h5) fun x6 ⟨⟨m1,m2⟩,c⟩=>.ret ⟨⟨s1,s2,by (try simp only);omega,by (try simp only);omega,s5⟩,c⟩
  · exact .bind (a0L h5) fun x6 ⟨m,c⟩=>.ret ⟨⟨s1,s2,s3,s4,by (try simp only);omega⟩,c⟩
end
end Go.Gv
end
noncomputable section
namespace Go.Gv
theorem aIF{ρ:Type}{f:Int→Option (Step Int ρ)}{n:Nat}{r:ρ}(hn:n≤1073741824)(hs:∀k:Nat,k < n→f (k:Int)=some (.next (aV ((k:Int)+1))))(he:f (n:Int)=some (.stop r)):loop f 0=some r:=
  cM (f:=f) n (fun k=>(k:Int)) r (fun k hk=>by rw [hs k hk,aM (by omega) (by omega)];rfl) he
theorem A4{l:List Int}(hl:l.length≤1073741824):kU l l=some true:=by
  unfold kU
  rw [if_neg (by simp),aIF (r:=Out.brk ()) hl (fun k hk=>by
    simp only [zZ]
    rw [if_pos (by simp;omega),aU hk]
    simp only [aG,bne_self_eq_false,bE,if_false]) (by simp [zZ])];rfl
theorem WO{l:List aC}(hl:l.length≤1073741824)(hs:∀s∈l,s.aJ.length≤1073741824):DU l l=some true:=by
  unfold DU
  rw [if_neg (by simp),aIF (r:=Out.brk ()) hl (fun k hk=>by
    simp only [GM]
    rw [if_pos (by simp;omega),aU hk]
    simp only [aG,A4 (hs _ (List.getElem_mem hk)),dU,bE,if_false]) (by simp [GM])];rfl
theorem UC{m:Mem}(h:gZ m):z5 m m=some true:=by
  obtain⟨s1,s2⟩:=h.IP
  obtain⟨h1,h2,h3,h4,h5⟩:=h
  unfold z5 I4 GN
  rw [A4 (by omega),A4 (by omega),WO (by omega) (fun s h=>by have:=s1 s h;omega),WO (by omega) (fun s h=>by have:=s2 s h;omega)];rfl
theorem aCG{c:aI}(h:c.aX.length≤1048576):z7 c c=some true:=by
  unfold z7
  simp only [bne_self_eq_false,bE,if_false,rR]
  rw [aIF (r:=Out.brk ()) (n:=c.aX.length) (by omega) (fun k hk=>by
    simp only [z6]
    rw [if_pos (by simp;omega),aU hk]
    simp only [aG,decide_true,dU,bE,if_false]) (by simp [z6])];rfl
theorem aCH{l:List aP}(hl:l.length≤1048576)(hs:∀s∈l,s.Rows.length≤1048576):z9 l l=some true:=by
  unfold z9
  rw [if_neg (by simp),aIF (r:=Out.brk ()) (n:=l.length) (by omega) (fun k hk=>by
    have hr:=hs _ (List.getElem_mem hk)
    have hi:loop (rS l l (k:Int)) 0=some (Out.brk ()):=aIF (n:=l[k].Rows.length) (by omega) (fun j hj=>by
      simp only [rS,aU hk,aG]
      rw [if_pos (by simp;omega),aU hj]
      simp only [aG,decide_true,dU,bE,if_false]) (by simp [rS,aU hk])
    simp only [z8]
    rw [if_pos (by simp;omega),aU hk]
    simp only [aG,bne_self_eq_false,bE,if_false,hi,IG,IF]) (by simp [z8])];rfl
theorem RU{b:aE}(h:tK b):vZ b b=some true:=by
  have hr:=h.rows
  obtain⟨h1,h2,h3,h4,h5⟩:=h
  unfold vZ
  rw [UC h1,aCG h2,aCH h3 hr,A4 (by omega)];rfl
end Go.Gv
end
noncomputable section
namespace Go.Gv
theorem aNI{b:aE}(hb:eN b){w:Int}(hw:0≤w∧w≤2)(s:Sub):mS s b w=some ((QK b w s).2,(QK b w s).1):=by
  obtain⟨x,y,e1,e2,h⟩:=step_eq hb hb.small hw s
  rw [aGN hb hw] at e1
  injection e1 with e1
  rw [e2,e1]
theorem UD{w:Int}{s:Sub}(h:s.eI=true):∀d k:Nat,k+d=200→∀b,loop (kW w) ((k:Int),s,b)=some (s,b)
  | 0,k,hk,b=>bK (by simp only [kW];rw [if_neg (by simp;omega)])
  | d + 1, k, hk, b => by
    rw [bT (s':=(((k+1:Nat):Int),s,b)) (by
      simp only [kW]
      rw [if_pos (by simp;omega),show mS s b w=some (s,b) by unfold mS;rw [if_pos h],aM (by omega) (by omega)];rfl)]
    exact UD h d (k+1) (by omega) b
theorem aNJ{w:Int}{s:Sub}(h:s.eI=true)(n:Nat)(b:aE):NT w n b s=(b,s):=by
  cases n with
  | zero=>rfl
  | succ n=>rw [NT,if_pos h]
theorem aNK{w:Int}{s:Sub}(h:s.eI=false)(n:Nat)(b:aE):NT w (n+1) b s=NT w n (QK b w s).1 (QK b w s).2:=by rw [NT,if_neg (by simp [h])]
theorem aCI{w:Int}(hw:0≤w∧w≤2):∀d k:Nat,k+d=200→∀(s:Sub) (b:aE),eN b→loop (kW w) ((k:Int),s,b)=some ((NT w d b s).2,(NT w d b s).1)
  | 0, k, hk, s, b, hb => by
    apply bK
    simp only [kW]
    rw [if_neg (by simp;omega)];rfl
  | d + 1, k, hk, s, b, hb => by
    cases hd:s.eI with
    | true=>rw [aNJ hd,UD hd (d+1) k hk]
    | false =>
      rw [aNK hd,bT (s':=(((k+1:Nat):Int),(QK b w s).2,(QK b w s).1))]
      · exact aCI hw d (k+1) (by omega) _ _ (aGO hb hw s)
      · simp only [kW]
        rw [if_pos (by simp;omega),aNI hb hw,aG,aM (by omega) (by omega)];rfl
theorem aKA{b:aE}(hs:tK b)(w:Int)(s:Sub):IM b w s=some (QH b w s):=by
  unfold IM QH AP
  rw [aGF hs,aG,tL hs.fits,aG,iY,aG]
  by_cases hb:eN b
  · by_cases hw:0≤w∧w≤2
    · rw [bD hb,bD hw,if_neg (by simp),if_neg (by simp),if_pos ⟨hb,hw⟩]
      have:=aCI hw 200 0 rfl s b hb
      rw [show((0:Nat):Int)=0 from rfl] at this
      rw [this];rfl
    · rw [bD hb,bN hw,if_neg (by simp),if_pos (by simp),if_neg (fun q=>hw q.2)]
  · rw [bN hb,if_pos (by simp),if_pos rfl,if_neg (fun q=>hb q.1)]
theorem aY6{code:List UInt8}(hl:code.length≤1048576){i:Int}(hi:0≤i∧i≤1000):fA (S5 code i) (fun x=>0≤x∧x≤255):=by
  unfold S5
  refine .ite (fun q=>?_) fun q=>?_
  · have q':=of_decide_eq_true q
    exact .bind (.idx ⟨hi.1,q'⟩) fun x _=>.ret (by have:=x.toNat_lt;omega)
  · rw [aM (x:=i * 37) (by omega) (by omega),aM (x:=(code.length:Int) * 11) (by omega) (by omega),aM (by omega) (by omega)]
    refine .ret ?_
    rw [oW (by omega)];omega
end Go.Gv
end
noncomputable section
namespace Go.Gv
def aY7(c:aI)(k:Nat):Prop:=((mJ c k).On=true∧(mJ c k).dT=false)∧(mJ c k).aK < c.aK
instance (c:aI) (k:Nat):Decidable (aY7 c k):=by unfold aY7;infer_instance
def aY8(c:aI)(k:Nat):Prop:=(mJ c k).On=true∧(mJ c k).dT=false
instance (c:aI) (k:Nat):Decidable (aY8 c k):=by unfold aY8;infer_instance
end Go.Gv
end
noncomputable section
namespace Go.Gv
def Aft{α:Type}(o:Option α)(Q:α→Prop):Prop:=∀x,o=some x→Q x
namespace Aft
variable {α β:Type} {Q:α→Prop}
theorem ret{x:α}(h:Q x):Aft (some x) Q:=fun _ e=>by injection e with e;rw [←e];exact h
theorem bind{o:Option β}{f:β→Option α}(h:∀x,o=some x→Aft (f x) Q):Aft (o.bind f) Q:=fun y e=>by
  cases ho:o with
  | none=>rw [ho] at e;cases e
  | some x=>rw [ho] at e;exact h x ho y e
theorem ite{c:Prop}[Decidable c]{a b:Option α}(h1:Aft a Q)(h2:Aft b Q):Aft (if c then a else b) Q:=by
  split
  · exact h1
  · exact h2
theorem need{p:Prop}[Decidable p]{k:Option α}(h:p→Aft k Q):Aft (Gv.need p k) Q:=fun y e=>by
  unfold Gv.need at e
  split at e
  · rename_i q;exact h q y e
  · cases e
end Aft
noncomputable section
variable (s:yL) (w:Int) (j:S4)
end
end Go.Gv
end
noncomputable section
set_option maxRecDepth 20000
namespace Go.Gv
def aU0(s:yL):Prop:=(∀j∈s.aAV,j.aF0=false)∧∀q∈s.VG,q.SN=[]
instance (s:yL):Decidable (aU0 s):=by unfold aU0;infer_instance
end Go.Gv
end
noncomputable section
namespace Go.Gv
def aXG(z:List Int)(h:Int):Prop:=∀v:Int,0≤v∧v≤2→aCA z v≠h
def aY9(e:Int)(z:List Int)(r:bC):Prop:=KY r e∧aXG z r.Handle
def aRW(m:Mem)(r:bC):Prop:=0≤bJ m.aB (r.Handle % 32)∧r.Handle / 32 < j4 m.aB (r.Handle % 32)
theorem aRW.not{m:Mem}{r:bC}(h:aRW m r):¬mY m r.Handle:=fun l=>by have:=l.2.2;have:=h.2;omega
structure Gc (w:Int) (b b':aE) (row out:Int):Prop where
  kept:∀j:Nat,(j:Int) < row→∀hj:j < (lH b'.aR w).length,¬aY9 b.aI.aK b.fW (lH b'.aR w)[j]
  len:((lH b'.aR w).length:Int)+out=(lH b.aR w).length
  flat:((a9 b'.aR).length:Int)+out=(a9 b.aR).length
  gone:∀r∈lH b.aR w,r∈lH b'.aR w∨aRW b'.Mem r
  used:∀i:Nat,i < 24→(aRR b' i=4↔aRR b i=4)
  cls:∀t,bJ b'.Mem.aB t=bJ b.Mem.aB t
  pos:0≤out
noncomputable section
variable {w:Int} (hw:0≤w∧w≤2) {b b':aE} (hL0:(lH b.aR w).length≤24) {s:Sub} (hd:s.eI=false)
include hw hL0 hd
end
end Go.Gv
end
noncomputable section
namespace Go.Gv
def fZ(n:Nat):List UInt8:=if n < 128 then [UInt8.ofNat n] else UInt8.ofNat (n % 128+128) :: fZ (n / 128)
termination_by n
decreasing_by omega
def bZ(n:Int):List UInt8:=if 0≤n∧n≤562949953421311 then fZ n.toNat else []
theorem HL(n:Nat):u8 (n:Int)=UInt8.ofNat n:=by
  unfold u8
  have:((n:Int) % 256).toNat=n % 256:=by omega
  rw [this]
  apply UInt8.toNat_inj.1
  simp
theorem aDZ:∀(k n:Nat) (acc:List UInt8),n < 128 ^ (k+1)→n≤9223372036854775807→acc.length+k≤1000→∃m pre,loop DV ((n:Int),acc)=some (m,acc++pre)∧pre ++ [u8 m]=fZ n∧pre.length≤k:=by
  intro k
  induction k with
  | zero =>
    intro n acc hn hb ha
    refine⟨n,[],bK ?_,?_,Nat.le_refl _⟩
    · have:¬(128:Int)≤n:=by omega
      simp [DV,this]
    · rw [fZ,if_pos (by omega),HL];rfl
  | succ k ih =>
    intro n acc hn hb ha
    by_cases h:n < 128
    · refine⟨n,[],bK ?_,?_,Nat.zero_le _⟩
      · have:¬(128:Int)≤n:=by omega
        simp [DV,this]
      · rw [fZ,if_pos h,HL];rfl
    · have hp:n / 128 < 128 ^ (k+1):=by rw [Nat.pow_succ] at hn;exact Nat.div_lt_of_lt_mul (by omega)
      obtain⟨m,pre,h1,h2,h3⟩:=ih (n / 128) (acc ++ [UInt8.ofNat (n % 128+128)]) hp (by omega) (by simp;omega)
      refine⟨m,UInt8.ofNat (n % 128+128) :: pre,?_,?_,by simp;omega⟩
      · have e1:aV (128+Int.tmod (n:Int) 128)=((n % 128+128:Nat):Int):=by rw [oW (by omega),aM (by omega) (by omega)];omega
        have e2:Int.tdiv (n:Int) 128=((n / 128:Nat):Int):=by rw [A0 (by omega)];omega
        have e3:aV ((n / 128:Nat):Int)=((n / 128:Nat):Int):=aM (by omega) (by omega)
        rw [bT (s':=(((n / 128:Nat):Int),acc ++ [UInt8.ofNat (n % 128+128)])) ?_,h1]
        · simp
        · have hge:(128:Int)≤n:=by omega
          simp only [DV,hge,decide_true,if_true,e1,e2,e3,HL]
          rw [aL (by simp;omega)]
      · rw [fZ,if_neg h];simp [h2]
theorem aD0:∀(k n:Nat) (acc:List UInt8),n < 128 ^ (k+1)→n≤9223372036854775807→acc.length+k≤1000→∃m pre,loop DS ((n:Int),acc)=some (m,acc++pre)∧pre ++ [u8 m]=fZ n∧pre.length≤k:=by
  intro k
  induction k with
  | zero =>
    intro n acc hn hb ha
    refine⟨n,[],bK ?_,?_,Nat.le_refl _⟩
    · have:¬(127:Int) < n:=by omega
      simp [DS,this]
    · rw [fZ,if_pos (by omega),HL];rfl
  | succ k ih =>
    intro n acc hn hb ha
    by_cases h:n < 128
    · refine⟨n,[],bK ?_,?_,Nat.zero_le _⟩
      · have:¬(127:Int) < n:=by omega
        simp [DS,this]
      · rw [fZ,if_pos h,HL];rfl
    · have hp:n / 128 < 128 ^ (k+1):=by rw [Nat.pow_succ] at hn;exact Nat.div_lt_of_lt_mul (by omega)
      obtain⟨m,pre,h1,h2,h3⟩:=ih (n / 128) (acc ++ [UInt8.ofNat (n % 128+128)]) hp (by omega) (by simp;omega)
      refine⟨m,UInt8.ofNat (n % 128+128) :: pre,?_,?_,by simp;omega⟩
      · have e1:cN .or .i64 (cN .and .i64 (n:Int) 127) 128=((n % 128+128:Nat):Int):=by rw [aWT (by omega) (by omega),aYU (by omega) (by omega)];omega
        have e2:pW .i64 (n:Int) 7=((n / 128:Nat):Int):=by
          have:=aL3 (x:=(n:Int)) (k:=7) (by omega) (by omega)
          rw [show((7:Nat):Int)=7 from rfl] at this
          rw [this];omega
        rw [bT (s':=(((n / 128:Nat):Int),acc ++ [UInt8.ofNat (n % 128+128)])) ?_,h1]
        · simp
        · have hge:(127:Int) < n:=by omega
          simp only [DS,hge,decide_true,if_true,e1,e2,HL]
          rw [aL (by simp;omega)]
      · rw [fZ,if_neg h];simp [h2]
theorem o4(n:Int):kV n=some (bZ n):=by
  unfold kV bZ
  rw [bR]
  by_cases h:0≤n∧n≤562949953421311
  · obtain⟨k,rfl⟩:=Int.eq_ofNat_of_zero_le h.1
    obtain⟨m,pre,h1,h2,h3⟩:=aDZ 6 k [] (by omega) (by omega) (by simp)
    have hl:pre.length + [u8 m].length≤1073741824:=by simp;omega
    simp only [aG,h,and_self,decide_true,dU,bE,if_false,if_true,h1,List.nil_append,WD,WC]
    rw [aL hl,h2];rfl
  · simp [h]
theorem tM(n:Int):mC n=some (bZ n):=by
  unfold mC bZ
  rw [eC]
  by_cases h:0≤n∧n≤562949953421311
  · obtain⟨k,rfl⟩:=Int.eq_ofNat_of_zero_le h.1
    obtain⟨m,pre,h1,h2,h3⟩:=aD0 6 k [] (by omega) (by omega) (by simp)
    have hl:pre.length + [u8 m].length≤1073741824:=by simp;omega
    simp only [aG,h,and_self,decide_true,dU,bE,if_false,if_true,h1,List.nil_append,WB,WA]
    rw [aL hl,h2];rfl
  · simp [h]
theorem aIG:∀(k n:Nat),n < 128 ^ (k+1)→(fZ n).length≤k+1:=by
  intro k
  induction k with
  | zero=>intro n h;rw [fZ,if_pos (by omega)];simp
  | succ k ih =>
    intro n h
    rw [fZ]
    split
    · simp
    · have:=ih (n / 128) (by rw [Nat.pow_succ] at h;exact Nat.div_lt_of_lt_mul (by omega))
      simp;omega
theorem hQ(n:Int):(bZ n).length≤7:=by
  unfold bZ
  split
  · exact aIG 6 _ (by omega)
  · simp
end Go.Gv
end
noncomputable section
namespace Go.Gv
theorem lD{α β:Type}(f:α→List β){l:List α}{k:Nat}(h:k < l.length):(l.take (k+1)).flatMap f=(l.take k).flatMap f++f l[k]:=by
  rw [List.take_succ_eq_append_getElem h,List.flatMap_append];simp
theorem aZA{α β:Type}(f:α→List β)(l:List α)(k:Nat):((l.take k).flatMap f).length≤(l.flatMap f).length:=by
  have:l.flatMap f=(l.take k).flatMap f++(l.drop k).flatMap f:=by rw [←List.flatMap_append,List.take_append_drop]
  rw [this];simp
theorem uT{α β:Type}(f:α→List β){l:List α}{k:Nat}(h:k < l.length):((l.take k).flatMap f).length+(f l[k]).length≤(l.flatMap f).length:=by
  have h1:=aZA f l (k+1)
  rw [lD f h] at h1
  simpa using h1
def cY(s:aC):List UInt8:=bZ s.aJ.length++s.aJ.flatMap bZ
def gY(m:Mem):List UInt8:=m.aB.Bytes.map u8++m.aB.Class.map (fun c=>u8 (c+1))++m.aA.Global.flatMap cY++m.aA.bB.flatMap cY
theorem UE:∀l:List Int,(l.flatMap bZ).length≤7 * l.length
  | []=>by simp
  | x :: r=>by have:=hQ x;have:=UE r;simp [-List.length_flatMap];omega
theorem aNL(s:aC):(cY s).length≤7+7 * s.aJ.length:=by
  have:=hQ (s.aJ.length:Int);have:=UE s.aJ;simp [cY,-List.length_flatMap];omega
theorem rJ:∀l:List aC,(l.flatMap cY).length≤7 * l.length+7 * (bX l).length
  | []=>by simp
  | x :: r=>by have:=aNL x;have:=rJ r;simp [bX,-List.length_flatMap] at *;omega
theorem KZ{s:aC}(hl:s.aJ.length≤1073741824):vX s=some (cY s):=by
  unfold vX
  rw [tM]
  simp only [aG]
  have hv:=UE s.aJ
  have hv0:=hQ (s.aJ.length:Int)
  have key:loop (nS s) (bZ s.aJ.length,0)=some (cY s):=by
    have:=cM (f:=nS s) s.aJ.length (fun k=>(bZ s.aJ.length++(s.aJ.take k).flatMap bZ,(k:Int))) (cY s) (fun k hk=>?_) ?_
    · simpa using this
    · have h1:=uT bZ hk
      simp only [nS]
      rw [if_pos (by simp [-List.length_flatMap];omega),aU hk]
      simp only [aG,tM]
      rw [aL (by simp [-List.length_flatMap];omega),lD bZ hk,aM (by omega) (by omega),List.append_assoc];rfl
    · simp [nS,cY]
  rw [key];rfl
theorem K0{l:List aC}(hl:l.length≤1000)(hf:(bX l).length≤1073741824):v5 l=some (l.flatMap cY):=by
  unfold v5
  have hsl:=rJ l
  have key:loop (oD l) ([],0)=some (l.flatMap cY):=by
    refine cM (f:=oD l) l.length (fun k=>((l.take k).flatMap cY,(k:Int))) _ (fun k hk=>?_) ?_
    · have h1:=uT cY hk
      have hv0:=hQ (l[k].aJ.length:Int)
      have hlk:=DZ l hk
      have hss:(cY l[k]).length=(bZ l[k].aJ.length).length+(l[k].aJ.flatMap bZ).length:=by simp [cY,-List.length_flatMap]
      simp only [oD]
      rw [if_pos (by simp [-List.length_flatMap];omega),aU hk]
      simp only [aG,o4]
      rw [aL (by omega)]
      have inner:loop (oC l (k:Int)) ((l.take k).flatMap cY++bZ l[k].aJ.length,0)=some ((l.take (k+1)).flatMap cY):=by
        have:=cM (f:=oC l (k:Int)) l[k].aJ.length (fun j=>((l.take k).flatMap cY++bZ l[k].aJ.length++(l[k].aJ.take j).flatMap bZ,(j:Int))) ((l.take (k+1)).flatMap cY) (fun j hj=>?_) ?_
        · simpa using this
        · have h2:=uT bZ hj
          simp only [oC]
          rw [aU hk]
          simp only [aG]
          rw [if_pos (by simp [-List.length_flatMap];omega),aU hj]
          simp only [aG,o4]
          rw [aL (by simp [-List.length_flatMap];omega),lD bZ hj,aM (by omega) (by omega),List.append_assoc,List.append_assoc];rfl
        · simp only [oC]
          rw [aU hk]
          simp only [aG]
          rw [if_neg (by simp),lD cY hk]
          simp [cY]
      rw [inner]
      simp only [aG,KH,KG]
      rw [aM (by omega) (by omega)];rfl
    · simp [oD]
  rw [key];rfl
noncomputable section
variable {m:Mem} (h:i3 m) (hl:(cK m.aA).length≤1073741824)
include h hl
theorem YK:FJ m=some (gY m):=by
  have hb:m.aB.Bytes.length=384:=h.1.1.1.1
  have hc:m.aB.Class.length=6:=h.1.1.1.2.1
  have hg:m.aA.Global.length=3:=h.1.2.1
  have ho:m.aA.bB.length=9:=h.1.2.2.1
  have hsum:(bX m.aA.Global).length+(bX m.aA.bB).length≤1073741824:=by simpa [cK] using hl
  have s1:=rJ m.aA.Global
  have s2:=rJ m.aA.bB
  unfold FJ
  rw [rH (by rw [hb];simp [maxLen]) hl,bD h]
  simp only [aG,dU,bE,if_false]
  have k1:loop (qQ m) ([],0)=some (m.aB.Bytes.map u8):=by
    refine cM (f:=qQ m) m.aB.Bytes.length (fun k=>((m.aB.Bytes.take k).map u8,(k:Int))) _ (fun k hk=>?_) ?_
    · simp only [qQ]
      rw [if_pos (by simp [-List.length_flatMap];omega),aU hk]
      simp only [aG]
      rw [aL (by simp [-List.length_flatMap];omega),map_take u8 hk,aM (by omega) (by omega)];rfl
    · simp [qQ]
  have k2:loop (qP m) (m.aB.Bytes.map u8,0)=some (m.aB.Bytes.map u8++m.aB.Class.map (fun c=>u8 (c+1))):=by
    have:=cM (f:=qP m) m.aB.Class.length (fun k=>(m.aB.Bytes.map u8++(m.aB.Class.take k).map (fun c=>u8 (c+1)),(k:Int))) (m.aB.Bytes.map u8++m.aB.Class.map (fun c=>u8 (c+1))) (fun k hk=>?_) ?_
    · simpa using this
    · have hr:=h.1.1.1.2.2.2 _ (List.getElem_mem hk)
      simp only [qP]
      rw [if_pos (by simp [-List.length_flatMap];omega),aU hk]
      simp only [aG]
      rw [aL (by simp [-List.length_flatMap];omega),map_take _ hk,aM (x:=m.aB.Class[k]+1) (by omega) (by omega),aM (by omega) (by omega),List.append_assoc];rfl
    · have e:m.aB.Class.take 6=m.aB.Class:=List.take_of_length_le (by omega)
      simp [qP,hc,e]
  rw [k1]
  simp only [aG,MV,MU]
  rw [k2]
  simp only [aG,MT,MS]
  rw [K0 (by omega) (by omega),K0 (by omega) (by omega)]
  simp only [aG]
  rw [aL (by simp [-List.length_flatMap];omega),aL (by simp [-List.length_flatMap];omega)]
  rfl
theorem NM:mD m=some (gY m):=by
  have hb:m.aB.Bytes.length=384:=h.1.1.1.1
  have hc:m.aB.Class.length=6:=h.1.1.1.2.1
  have hg:m.aA.Global.length=3:=h.1.2.1
  have ho:m.aA.bB.length=9:=h.1.2.2.1
  have hsum:(bX m.aA.Global).length+(bX m.aA.bB).length≤1073741824:=by simpa [cK] using hl
  have s1:=rJ m.aA.Global
  have s2:=rJ m.aA.bB
  unfold mD
  rw [rI (by rw [hb];simp [maxLen]) hl,bD h]
  simp only [aG,dU,bE,if_false]
  have k1:loop (qN m) ([],0)=some (m.aB.Bytes.map u8):=by
    refine cM (f:=qN m) m.aB.Bytes.length (fun k=>((m.aB.Bytes.take k).map u8,(k:Int))) _ (fun k hk=>?_) ?_
    · simp only [qN]
      rw [if_pos (by simp [-List.length_flatMap];omega),aU hk]
      simp only [aG]
      rw [aL (by simp [-List.length_flatMap];omega),map_take u8 hk,aM (by omega) (by omega)];rfl
    · simp [qN]
  have k2:loop (qM m) (m.aB.Bytes.map u8,0)=some (m.aB.Bytes.map u8++m.aB.Class.map (fun c=>u8 (c+1))):=by
    have:=cM (f:=qM m) m.aB.Class.length (fun k=>(m.aB.Bytes.map u8++(m.aB.Class.take k).map (fun c=>u8 (c+1)),(k:Int))) (m.aB.Bytes.map u8++m.aB.Class.map (fun c=>u8 (c+1))) (fun k hk=>?_) ?_
    · simpa using this
    · have hr:=h.1.1.1.2.2.2 _ (List.getElem_mem hk)
      simp only [qM]
      rw [if_pos (by simp [-List.length_flatMap];omega),aU hk]
      simp only [aG]
      rw [aL (by simp [-List.length_flatMap];omega),map_take _ hk,aM (x:=m.aB.Class[k]+1) (by omega) (by omega),aM (by omega) (by omega),List.append_assoc];rfl
    · have e:m.aB.Class.take m.aB.Class.length=m.aB.Class:=List.take_of_length_le (Nat.le_refl _)
      simp only [qM,e]
      rw [if_neg (by simp)]
  have k3:loop (qL m) (m.aB.Bytes.map u8++m.aB.Class.map (fun c=>u8 (c+1)),0)=some (m.aB.Bytes.map u8++m.aB.Class.map (fun c=>u8 (c+1))++m.aA.Global.flatMap cY):=by
    have:=cM (f:=qL m) m.aA.Global.length (fun k=>(m.aB.Bytes.map u8++m.aB.Class.map (fun c=>u8 (c+1))++(m.aA.Global.take k).flatMap cY,(k:Int))) (m.aB.Bytes.map u8++m.aB.Class.map (fun c=>u8 (c+1))++m.aA.Global.flatMap cY) (fun k hk=>?_) ?_
    · simpa using this
    · have h1:=uT cY hk
      have hlk:=DZ _ hk
      simp only [qL]
      rw [if_pos (by simp [-List.length_flatMap];omega),aU hk]
      simp only [aG]
      rw [KZ (by omega)]
      simp only [aG]
      rw [aL (by simp [-List.length_flatMap];omega),lD cY hk,aM (by omega) (by omega),List.append_assoc];rfl
    · simp [qL]
  have k4:loop (qK m) (m.aB.Bytes.map u8++m.aB.Class.map (fun c=>u8 (c+1))++m.aA.Global.flatMap cY,0)=some (gY m):=by
    have:=cM (f:=qK m) m.aA.bB.length (fun k=>(m.aB.Bytes.map u8++m.aB.Class.map (fun c=>u8 (c+1))++m.aA.Global.flatMap cY++(m.aA.bB.take k).flatMap cY,(k:Int))) (gY m) (fun k hk=>?_) ?_
    · simpa using this
    · have h1:=uT cY hk
      have hlk:=DZ _ hk
      simp only [qK]
      rw [if_pos (by simp [-List.length_flatMap];omega),aU hk]
      simp only [aG]
      rw [KZ (by omega)]
      simp only [aG]
      rw [aL (by simp [-List.length_flatMap];omega),lD cY hk,aM (by omega) (by omega),List.append_assoc];rfl
    · simp [qK,gY]
  rw [k1]
  simp only [aG,MO,MN]
  rw [k2]
  simp only [aG,MM,ML]
  rw [k3]
  simp only [aG,MK,MJ]
  rw [k4];rfl
end
def SH(m:Mem):List UInt8:=if i3 m then gY m else []
theorem ET{m:Mem}(hb:m.aB.Bytes.length≤maxLen)(hl:(cK m.aA).length≤1073741824):mD m=some (SH m):=by
  unfold SH
  by_cases h:i3 m
  · rw [if_pos h,NM h hl]
  · rw [if_neg h];unfold mD;rw [rI hb hl,bN h];rfl
end Go.Gv
end
