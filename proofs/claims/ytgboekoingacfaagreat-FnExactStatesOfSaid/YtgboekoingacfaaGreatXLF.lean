import Derived.Test.YtgboekoingacfaaGreatXLE
set_option linter.unusedVariables false
set_option linter.unusedSimpArgs false
set_option linter.unusedSectionVars false
set_option linter.constructorNameAsVariable false
set_option linter.unnecessarySimpa false
noncomputable section
set_option linter.unusedVariables false
set_option linter.unusedSimpArgs false
set_option linter.unusedSectionVars false
namespace Go.Gv
def bI(l:List aP):List bP:=l.flatMap aP.Rows
theorem WX{l:List aP}{k:Nat}(h:k < l.length):bI (l.take (k+1))=bI (l.take k)++l[k].Rows:=by
  unfold bI
  rw [List.take_succ_eq_append_getElem h,List.flatMap_append];simp
theorem aPZ(l:List aP)(k:Nat):(bI (l.take k)).length≤(bI l).length:=by
  have:bI l=bI (l.take k)++bI (l.drop k):=by
    unfold bI;rw [←List.flatMap_append,List.take_append_drop]
  rw [this];simp
theorem aY1(l:List aP){k:Nat}(h:k < l.length):l[k].Rows.length≤(bI l).length:=by
  have h1:=aPZ l (k+1)
  rw [WX h] at h1
  simp at h1;omega
theorem C3{l:List aP}{s:aP}(h:s∈l):s.Rows.length≤(bI l).length:=by
  obtain⟨k,hk,rfl⟩:=List.mem_iff_getElem.1 h
  exact aY1 l hk
theorem pY{l:List aP}(h:(bI l).length≤1073741824)(hl:l.length≤maxLen):rK l=some (bI l):=by
  unfold rK
  have k1:loop (JC l) ([],0)=some (bI l):=by
    refine fI (f:=JC l) l.length (fun k=>(bI (l.take k),(k:Int))) _ (fun k hk=>?_) ?_
    · have h1:=aPZ l (k+1)
      rw [WX hk] at h1
      simp only [JC]
      rw [if_pos (by simp;omega),aT hk]
      simp only [Option.bind_some]
      rw [aO (by simp at h1;omega),WX hk,bV (cG hk hl)]
    · simp [JC]
  rw [k1];rfl
def EE(h:Int):Prop:=(32≤h∧h≤223)∧h % 32 < 24
instance (h:Int):Decidable (EE h):=by unfold EE;infer_instance
theorem l9(h:Int):nE h=some (decide (EE h)):=by
  unfold nE KO EE
  rw [fP]
  by_cases q:32≤h∧h≤223
  · simp [q,J0 (show 0≤h by omega)]
  · simp [q]
theorem oJ(h:Int):rU h=some (decide (EE h)):=by
  unfold rU AY EE
  rw [kD]
  by_cases q:32≤h∧h≤223
  · simp [q,J0 (show 0≤h by omega)]
  · simp [q]
theorem EE.mod{h:Int}(q:EE h):Int.tmod h 32=h % 32∧0≤h % 32∧h % 32≤23:=by
  unfold EE at q
  exact⟨J0 (by omega),by omega,by omega⟩
theorem kE(h:Int):kL h=some (if EE h then h % 32 else -1):=by
  unfold kL
  rw [l9]
  by_cases q:EE h
  · simp [q,q.mod.1]
  · simp [q]
def qX(r:bP):Prop:=EE r.Handle∧0≤r.aJ∧r.aJ≤100000
instance (r:bP):Decidable (qX r):=by unfold qX;infer_instance
def iH(r:bP):Int:=r.Handle % 32
def pK(l:List aP):Prop:=l.length=3∧(bI l).length≤24∧(∀r∈bI l,qX r)∧((bI l).map iH).Nodup
instance (l:List aP):Decidable (pK l):=by unfold pK;infer_instance
def goR:List Bool→List bP→Option (List Bool)
  | met,[]=>some met
  | met,r :: t=>if qX r∧met.getD (iH r).toNat true=false then goR (met.set (iH r).toNat true) t else none
theorem aYL:∀{xs:List bP} {met m:List Bool},goR met xs=some m→m.length=met.length
  | [],met,m,h=>by simp [goR] at h;rw [h]
  | x :: r, met, m, h => by
    simp only [goR] at h
    split at h
    · have:=aYL h;simpa using this
    · cases h
theorem aP0:∀(a b:List bP) (met:List Bool),goR met (a++b)=(goR met a).bind fun m=>goR m b
  | [],b,met=>rfl
  | x :: r, b, met => by
    simp only [List.cons_append,goR]
    split
    · exact aP0 r b _
    · rfl
theorem aVJ:∀(xs:List bP) (met:List Bool),(goR met xs).isSome=true↔(∀r∈xs,qX r)∧(MQ met (xs.map iH)).isSome=true
  | [],met=>by simp [goR,MQ]
  | x :: r, met => by
    simp only [goR,List.map_cons,MQ]
    by_cases h:qX x
    · have hm:=h.1.mod
      have hs:0≤iH x∧iH x≤23:=hm.2
      by_cases h2:met.getD (iH x).toNat true=false
      · rw [if_pos ⟨h,h2⟩,if_pos ⟨hs,h2⟩,aVJ r _]
        simp [h]
      · rw [if_neg (fun q=>h2 q.2),if_neg (fun q=>h2 q.2)];simp
    · rw [if_neg (fun q=>h q.1)]
      constructor
      · intro q;cases q
      · rintro⟨q,_⟩;exact(h (q x List.mem_cons_self)).elim
theorem aY2{s:aP}(hl:s.Rows.length≤maxLen):∀d k (met:List Bool),k+d=s.Rows.length→met.length=24→loop (yZ s) ((k:Int),met)=some (aTY (goR met (s.Rows.drop k))):=by
  intro d
  induction d with
  | zero =>
    intro k met hk hm
    rw [cX (r:=Out.brk met) (by simp [yZ];omega),List.drop_eq_nil_of_le (by omega)];rfl
  | succ d ih =>
    intro k met hk hm
    have hk':k < s.Rows.length:=by omega
    have hd:s.Rows.drop k=s.Rows[k] :: s.Rows.drop (k+1):=List.drop_eq_getElem_cons hk'
    have hst:yZ s ((k:Int),met)=if qX s.Rows[k]∧met.getD (iH s.Rows[k]).toNat true=false then some (.next (((k+1:Nat):Int),met.set (iH s.Rows[k]).toNat true)) else some (.stop (Out.ret false)):=by
      simp only [yZ]
      rw [if_pos (by simp;omega),aT hk']
      simp only [Option.bind_some,oJ,kD]
      generalize s.Rows[k]=x
      by_cases q:EE x.Handle
      · by_cases q2:0≤x.aJ∧x.aJ≤100000
        · have hm2:=q.mod
          obtain⟨j,hj0⟩:=Int.eq_ofNat_of_zero_le hm2.2.1
          have hj:j < met.length:=by omega
          have e:met.getD j true=met[j]:=by rw [List.getD_eq_getElem?_getD,List.getElem?_eq_getElem hj];rfl
          have hr:qX x:=⟨q,q2⟩
          simp only [q,q2,and_self,decide_true,Bool.not_true,Bool.false_eq_true,if_false,vS,hm2.1,hj0,Int.toNat_natCast,hr,true_and,iH,e]
          rw [aO (by omega),aT hj]
          simp only [Option.bind_some]
          cases met[j]
          · simp only [Bool.false_eq_true,if_false,if_true]
            rw [aO (by omega),bV (cG hk' hl)]
          · simp
        · rw [decide_eq_true q,decide_eq_false q2];simp only [Bool.not_true,Bool.not_false,Bool.false_eq_true,if_false,if_true,vS];rw [if_neg (fun y:qX x∧_=>q2 y.1.2)]
      · rw [decide_eq_false q];simp only [Bool.not_false,if_true,vS];rw [if_neg (fun y:qX x∧_=>q y.1.1)]
    rw [hd,goR]
    by_cases q:qX s.Rows[k]∧met.getD (iH s.Rows[k]).toNat true=false
    · rw [if_pos q] at hst ⊢
      rw [cO hst,ih (k+1) _ (by omega) (by simpa using hm)]
    · rw [if_neg q] at hst ⊢
      rw [cX hst];rfl
theorem aY3{l:List aP}(hn:l.length≤1000)(hs:∀s∈l,s.Rows.length≤maxLen):∀d k (met:List Bool),k+d=l.length→met.length=24 →
    loop (y4 l) ((k:Int),met)=some (if (goR met (bI (l.drop k))).isSome=true then Out.brk () else Out.ret false):=by
  intro d
  induction d with
  | zero =>
    intro k met hk hm
    rw [List.drop_eq_nil_of_le (by omega),if_pos (show(goR met (bI [])).isSome=true from rfl)]
    refine cX ?_
    simp only [y4]
    rw [if_neg (by simp;omega)]
  | succ d ih =>
    intro k met hk hm
    have hk':k < l.length:=by omega
    have hd:l.drop k=l[k] :: l.drop (k+1):=List.drop_eq_getElem_cons hk'
    have hsk:=hs _ (List.getElem_mem hk')
    have hf:bI (l.drop k)=l[k].Rows++bI (l.drop (k+1)):=by unfold bI;rw [hd,List.flatMap_cons]
    have h4:=aY2 hsk _ 0 met (Nat.zero_add _) hm
    rw [show((0:Nat):Int)=0 from rfl,List.drop_zero] at h4
    have hst:y4 l ((k:Int),met)=(match goR met l[k].Rows with | some m=>some (.next (((k+1:Nat):Int),m)) | none=>some (.stop (Out.ret false))):=by
      simp only [y4]
      rw [if_pos (by simp;omega),aT hk']
      simp only [Option.bind_some]
      rw [h4]
      cases goR met l[k].Rows with
      | none=>rfl
      | some m=>simp only [Option.bind_some,aTY,aC7,ND];rw [aZ (by omega) (by omega)];rfl
    rw [hf,aP0]
    cases hg:goR met l[k].Rows with
    | none =>
      rw [hg] at hst
      rw [cX hst,if_neg (by simp)]
    | some m =>
      rw [hg] at hst
      rw [cO hst,ih (k+1) m (by omega) (by rw [aYL hg];exact hm)]
      simp only [Option.bind_some]
theorem YX{l:List aP}(hn:l.length≤1000)(h:(bI l).length≤1073741824):BE l=some ((bI l).length:Int):=by
  unfold BE
  have key:loop (uP l) (0,0)=some ((bI l).length:Int):=by
    refine fI (f:=uP l) l.length (fun k=>(((bI (l.take k)).length:Int),(k:Int))) _ (fun k hk=>?_) ?_
    · have h1:=aPZ l (k+1)
      rw [WX hk,List.length_append] at h1
      simp only [uP]
      rw [if_pos (by simp;omega),aT hk]
      simp only [Option.bind_some]
      rw [aZ (by omega) (by omega),aZ (by omega) (by omega),WX hk,List.length_append]
      simp
    · simp [uP]
  rw [key];rfl
theorem vX{l:List aP}(h:(bI l).length≤1073741824):rZ l=some (decide (pK l)):=by
  unfold rZ
  by_cases h3:l.length=3
  · have n1:((l.length:Int) != 3)=false:=by simp;omega
    have hb:(1073741824:Nat)≤maxLen:=by simp [maxLen]
    simp only [n1,Bool.false_eq_true,if_false]
    have key:=aY3 (l:=l) (by omega) (fun s hs=>by have:=C3 hs;omega) l.length 0 [false,false,false,false,false,false,false,false,false,false,false,false,false,false,false,false,false,false,false,false,false,false,false,false] (by omega) rfl
    rw [show((0:Nat):Int)=0 from rfl,List.drop_zero] at key
    rw [key]
    have hm0:∀j:Nat,j < 24→[false,false,false,false,false,false,false,false,false,false,false,false,false,false,false,false,false,false,false,false,false,false,false,false].getD j true=false:=by decide
    have hiff:pK l↔(bI l).length≤24∧(goR [false,false,false,false,false,false,false,false,false,false,false,false,false,false,false,false,false,false,false,false,false,false,false,false] (bI l)).isSome=true:=by
      rw [aVJ,aH3 _ _ rfl]
      have hr:(∀r∈bI l,qX r)→∀x∈(bI l).map iH,0≤x∧x≤23:=by
        intro q x hx
        obtain⟨r,hr,rfl⟩:=List.mem_map.1 hx
        exact(q r hr).1.mod.2
      constructor
      · rintro⟨_,q1,q2,q3⟩
        exact⟨q1,q2,hr q2,q3,fun x hx=>hm0 _ (by have:=hr q2 x hx;omega)⟩
      · rintro⟨q1,q2,_,q3,_⟩
        exact⟨h3,q1,q2,q3⟩
    by_cases q:(goR [false,false,false,false,false,false,false,false,false,false,false,false,false,false,false,false,false,false,false,false,false,false,false,false] (bI l)).isSome=true
    · rw [if_pos q]
      simp only [Option.bind_some,aC8,NC]
      rw [YX (by omega) h]
      simp only [Option.bind_some]
      congr 1
      rw [Bool.eq_iff_iff];simp only [decide_eq_true_eq]
      rw [hiff]
      exact⟨fun a=>⟨by omega,q⟩,fun a=>by omega⟩
    · rw [if_neg q,decide_eq_false (fun x=>q (hiff.1 x).2)];rfl
  · have n1:((l.length:Int) != 3)=true:=by simp;omega
    simp only [n1,if_true]
    rw [decide_eq_false (fun q:pK l=>h3 q.1)]
def cZ(h:Int):Prop:=h=0∨EE h
instance (h:Int):Decidable (cZ h):=by unfold cZ;infer_instance
def RW(z:List Int):Prop:=z.length=3∧∀h∈z,cZ h
instance (z:List Int):Decidable (RW z):=by unfold RW;infer_instance
theorem D2{z:List Int}(hl:z.length≤maxLen):DR z=some (decide (RW z)):=by
  unfold DR
  have hst:∀k (hk:k < z.length),L7 z (k:Int)=if cZ z[k] then some (.next ((k+1:Nat):Int)) else some (.stop (Out.ret false)):=by
    intro k hk
    simp only [L7,SP]
    rw [if_pos (by simp;omega),aT hk,bV (cG hk hl)]
    simp only [Option.bind_some,l9]
    generalize z[k]=x
    by_cases q:x=0
    · have n:(x != 0)=false:=by simp only [bne_eq_false_iff_eq];exact q
      rw [n,if_pos (show cZ x from .inl q)];rfl
    · have n:(x != 0)=true:=by simp only [bne_iff_ne];exact q
      by_cases q2:EE x
      · rw [n,decide_eq_true q2,if_pos (show cZ x from .inr q2)];rfl
      · rw [n,decide_eq_false q2,if_neg (fun a:cZ x=>a.elim q q2)];rfl
  have key:=lA (f:=L7 z) z (fun k=>(k:Int)) cZ (Out.brk ()) (Out.ret false) (fun k hk hx=>by rw [hst k hk,if_pos hx]) (fun k hk hx=>by rw [hst k hk,if_neg hx]) (by simp [L7])
  rw [show((0:Nat):Int)=0 from rfl] at key
  rw [key]
  by_cases q:∀x∈z,cZ x
  · rw [if_pos q]
    have:RW z↔z.length=3:=⟨fun a=>a.1,fun a=>⟨a,q⟩⟩
    simp only [Option.bind_some,aGO,aGN,this]
    congr 1;rw [Bool.eq_iff_iff];simp only [beq_iff_eq,decide_eq_true_eq];omega
  · rw [if_neg q,decide_eq_false (fun a:RW z=>q a.2)];rfl
theorem D3{z:List Int}(hl:z.length≤maxLen):DU z=some (decide (RW z)):=by
  unfold DU S3
  have e:(fun y0=>VF y0)=fun y:Int=>some (!decide (cZ y)):=by
    funext y
    unfold VF kU xO
    rw [oJ]
    by_cases q:y=0
    · have n:(y == 0)=true:=by simp only [beq_iff_eq];exact q
      rw [n,decide_eq_true (show cZ y from .inl q)];rfl
    · have n:(y == 0)=false:=by simp only [beq_eq_false_iff_ne];exact q
      by_cases q2:EE y
      · rw [n,decide_eq_true q2,decide_eq_true (show cZ y from .inr q2)];rfl
      · rw [n,decide_eq_false q2,decide_eq_false (fun a:cZ y=>a.elim q q2)];rfl
  rw [e,DK hl,uI]
  by_cases h3:z.length=3
  · have n:((z.length:Int) == 3)=true:=by simp;omega
    have:RW z↔∀h∈z,cZ h:=⟨fun a=>a.2,fun a=>⟨h3,a⟩⟩
    simp only [n,if_true,Option.bind_some,Bool.not_not,this]
  · have n:((z.length:Int) == 3)=false:=by simp;omega
    simp only [n,Bool.false_eq_true,if_false]
    rw [decide_eq_false (fun a:RW z=>h3 a.1)]
end Go.Gv
end
noncomputable section
set_option linter.unusedVariables false
set_option linter.unusedSimpArgs false
set_option linter.unusedSectionVars false
namespace Go.Gv
theorem MR{α:Type}(l:List α)(f:α→Bool){body:Int→Option (Step Int (Out Unit Int))}(hb:∀k (hk:k < l.length),body (k:Int)=if f l[k] then some (.stop (.ret (k:Int))) else some (.next ((k+1:Nat):Int)))(he:body (l.length:Int)=some (.stop (.brk ()))) :
    ∃o,loop body 0=some o∧match o with | .brk _=>l.any f=false | .ret r=>0≤r∧l.any f=true:=by
  have key:=aYZ (f:=body) l.length (fun k=>(k:Int)) (fun k=>if (l.drop k).any f then Out.ret ((k+(l.drop k).findIdx f:Nat):Int) else Out.brk ()) (fun k hk=>by
    by_cases h:k < l.length
    · have hd:l.drop k=l[k] :: l.drop (k+1):=List.drop_eq_getElem_cons h
      rw [hb k h,hd]
      simp only [List.any_cons,List.findIdx_cons]
      by_cases h4:f l[k]=true
      · left;simp [h4]
      · right
        have h4:f l[k]=false:=by simpa using h4
        refine⟨h,by simp [h4],?_⟩
        simp only [h4,Bool.false_or,cond_false]
        congr 2;omega
    · left
      obtain rfl:k=l.length:=by omega
      rw [he];simp) 0 (Nat.zero_le _)
  rw [show((0:Nat):Int)=0 from rfl,List.drop_zero] at key
  refine⟨_,key,?_⟩
  by_cases h:l.any f=true
  · rw [if_pos h];exact⟨by omega,h⟩
  · rw [if_neg h];simpa using h
theorem IX{l:List bP}(hl:l.length≤maxLen)(f:bP→Bool):kO l (fun x=>some (f x))=some (l.any f):=by
  obtain⟨o,e,h⟩:=MR l f (body:=w7 l (fun x=>some (f x))) (fun k hk=>by
    simp only [w7]
    rw [if_pos (by simp;omega),aT hk,bV (cG hk hl)];rfl) (by simp [w7])
  unfold kO I1
  rw [e]
  cases o with
  | brk u=>simp only at h;simp [DV,ME,h]
  | ret r=>simp only at h;simp [DV,h]
theorem FP{l:List aP}(hl:l.length≤maxLen)(f:aP→Bool)(g:aP→Option Bool)(hg:∀x∈l,g x=some (f x)):j4 l g=some (l.any f):=by
  obtain⟨o,e,h⟩:=MR l f (body:=wA l g) (fun k hk=>by
    simp only [wA]
    rw [if_pos (by simp;omega),aT hk,bV (cG hk hl)]
    simp only [Option.bind_some,hg _ (List.getElem_mem hk)]) (by simp [wA])
  unfold j4 GO
  rw [e]
  cases o with
  | brk u=>simp only at h;simp [CE,LJ,h]
  | ret r=>simp only at h;simp [CE,h]
theorem aE3{l:List aG}(hl:l.length≤maxLen)(f:aG→Bool)(g:aG→Option Bool)(hg:∀x∈l,g x=some (f x)):sH l g=some (l.any f):=by
  obtain⟨o,e,h⟩:=MR l f (body:=wB l g) (fun k hk=>by
    simp only [wB]
    rw [if_pos (by simp;omega),aT hk,bV (cG hk hl)]
    simp only [Option.bind_some,hg _ (List.getElem_mem hk)]) (by simp [wB])
  unfold sH GP
  rw [e]
  cases o with
  | brk u=>simp only at h;simp [CF,LK,h]
  | ret r=>simp only at h;simp [CF,h]
theorem contains_eq{l:List Int}(hl:l.length≤maxLen)(v:Int):EK l v=some (decide (v∈l)):=by
  obtain⟨o,e,h⟩:=MR l (fun x=>v == x) (body:=mK l v) (fun k hk=>by
    simp only [mK]
    rw [if_pos (by simp;omega),aT hk,bV (cG hk hl)];rfl) (by simp [mK])
  have ha:l.any (fun x=>v == x)=decide (v∈l):=by
    rw [Bool.eq_iff_iff];simp
  rw [ha] at h
  unfold EK AZ
  rw [e]
  cases o with
  | brk u=>simp only at h;simp [EJ,UU,h]
  | ret r=>simp only at h;simp [EJ,h]
theorem aF1{l:List aG}{x:Int}:x∈jH l↔∃s∈l,x∈s.bB:=List.mem_flatMap
noncomputable section
variable {m:Mem} (hsh:oH m.aC) (hl:(jW m.aB).length≤1073741824) (hg:m.aB.Global.length≤maxLen) (ho:m.aB.bA.length≤maxLen)
include hl hg ho
theorem aP1(s:Int):YJ m.aB s=some (decide (s∈jW m.aB)):=by
  have hb:(1073741824:Nat)≤maxLen:=by simp [maxLen]
  unfold YJ
  rw [aG5 hl hg ho]
  simp only [Option.bind_some]
  rw [D1 (by omega)];rfl
theorem aE4(s:Int):TS m.aB s=some (decide (s∈jW m.aB)):=by
  have hb:(1073741824:Nat)≤maxLen:=by simp [maxLen]
  have hal:=wH m.aB
  have e1:∀x∈m.aB.Global,DW x s=some (decide (s∈x.bB)):=fun x hx=>by
    have:=zT hx
    unfold DW;rw [contains_eq (by omega)];rfl
  have e2:∀x∈m.aB.bA,DW x s=some (decide (s∈x.bB)):=fun x hx=>by
    have:=zT hx
    unfold DW;rw [contains_eq (by omega)];rfl
  unfold TS PW
  rw [aE3 hg (fun x=>decide (s∈x.bB)) _ e1,aE3 ho (fun x=>decide (s∈x.bB)) _ e2]
  have a1:(m.aB.Global.any fun x=>decide (s∈x.bB))=decide (s∈jH m.aB.Global):=by
    rw [Bool.eq_iff_iff];simp [aF1]
  have a2:(m.aB.bA.any fun x=>decide (s∈x.bB))=decide (s∈jH m.aB.bA):=by
    rw [Bool.eq_iff_iff];simp [aF1]
  rw [a1,a2]
  simp only [Option.bind_some,jW,List.mem_append]
  by_cases q:s∈jH m.aB.Global <;> simp [q]
def tW(m:Mem)(s:Int):Int:=if eU m.aC s < 0 then 0 else if s∈jW m.aB then 1 else if 6 < ED m.aC s then 2 else 3
include hsh
theorem aDI(s:Int):O6 m s=some (tW m s):=by
  unfold O6 tW
  rw [C2 hsh,aP1 hl hg ho]
  simp only [Option.bind_some]
  by_cases q:eU m.aC s < 0
  · simp [q]
  · rw [MP hsh (by omega)]
    by_cases q2:s∈jW m.aB
    · simp [q,q2]
    · by_cases q3:6 < ED m.aC s <;> simp [q,q2,q3]
theorem aDJ(s:Int):PX m s=some (tW m s):=by
  unfold PX tW
  rw [y8 hsh,aE4 hl hg ho]
  simp only [Option.bind_some]
  by_cases q:eU m.aC s < 0
  · simp [q]
  · rw [TC hsh (by omega)]
    by_cases q2:s∈jW m.aB
    · simp [q,q2]
    · by_cases q3:6 < ED m.aC s <;> simp [q,q2,q3]
def FQ(m:Mem)(h:Int):Prop:=EE h∧tW m (h % 32)=3∧ED m.aC (h % 32)=h / 32
instance (m:Mem) (h:Int):Decidable (FQ m h):=by unfold FQ;infer_instance
omit hl hg ho hsh in
theorem YY{m:Mem}{s:Int}(h:tW m s=3):0≤eU m.aC s:=by
  unfold tW at h
  split at h
  · omega
  · omega
theorem zA(h:Int):wZ m h=some (decide (FQ m h)):=by
  unfold wZ HQ
  rw [l9,kE]
  by_cases q:EE h
  · have hm:=q.mod
    rw [decide_eq_true q,if_pos q]
    simp only [Option.bind_some,if_true,aDI hsh hl hg ho]
    by_cases q2:tW m (h % 32)=3
    · have n:(tW m (h % 32) == 3)=true:=by simpa using q2
      have eg:O7 h=some (h / 32):=by
        unfold O7
        unfold EE at q
        rw [l9,decide_eq_true (show EE h from q),TY (by omega),aZ (by omega) (by omega)];rfl
      rw [n,MP hsh (YY q2),eg]
      simp only [if_true,Option.bind_some]
      congr 1;rw [Bool.eq_iff_iff];simp only [beq_iff_eq,decide_eq_true_eq]
      exact⟨fun a=>⟨q,q2,a⟩,fun a=>a.2.2⟩
    · have n:(tW m (h % 32) == 3)=false:=by simpa using q2
      rw [n,decide_eq_false (fun a:FQ m h=>q2 a.2.1)];rfl
  · rw [decide_eq_false q,decide_eq_false (fun a:FQ m h=>q a.1)];rfl
theorem BL(h:Int):AN m h=some (decide (FQ m h)):=by
  unfold AN JQ
  rw [oJ]
  by_cases q:EE h
  · have hm:=q.mod
    rw [decide_eq_true q,hm.1]
    simp only [Option.bind_some,if_true,aDJ hsh hl hg ho]
    by_cases q2:tW m (h % 32)=3
    · have n:(tW m (h % 32) == 3)=true:=by simpa using q2
      have eg:aI (Int.tdiv h 32)=h / 32:=by
        unfold EE at q
        rw [TY (by omega),aZ (by omega) (by omega)]
      rw [n,TC hsh (YY q2),eg]
      simp only [if_true,Option.bind_some]
      congr 1;rw [Bool.eq_iff_iff];simp only [beq_iff_eq,decide_eq_true_eq]
      exact⟨fun a=>⟨q,q2,a⟩,fun a=>a.2.2⟩
    · have n:(tW m (h % 32) == 3)=false:=by simpa using q2
      rw [n,decide_eq_false (fun a:FQ m h=>q2 a.2.1)];rfl
  · rw [decide_eq_false q,decide_eq_false (fun a:FQ m h=>q a.1)];rfl
end
def i6(b:aA)(r:bP):Prop:=FQ b.Mem r.Handle∧r.aJ≤b.aD.aJ
instance (b:aA) (r:bP):Decidable (i6 b r):=by unfold i6;infer_instance
def kP(b:aA):Prop:=(G6 b.Mem∧COk b.aD∧pK b.aH∧RW b.bO)∧∀r∈bI b.aH,i6 b r
instance (b:aA):Decidable (kP b):=by unfold kP;infer_instance
def G7(b:aA):Prop:=N4 b.Mem∧b.aD.aM.length≤1048576∧b.aH.length≤1048576∧(bI b.aH).length≤1048576∧b.bO.length≤1048576
theorem G7.rows{b:aA}(h:G7 b):∀s∈b.aH,s.Rows.length≤1048576:=fun s hs=>by
  have:=C3 hs;have:=h.2.2.2.1;omega
noncomputable section
variable {b:aA} (hf:b.Mem.aC.Bytes.length≤maxLen∧(jW b.Mem.aB).length≤1073741824∧b.aD.aM.length≤maxLen∧b.aH.length≤maxLen∧(bI b.aH).length≤1073741824∧b.bO.length≤maxLen)
include hf
end
end Go.Gv
end
noncomputable section
set_option linter.unusedVariables false
set_option linter.unusedSimpArgs false
namespace Go.Gv
theorem aE5{α:Type}{f:(List α×Int)→Option (Step (List α×Int) (List α))}(l:List α)
    (h:∀k (hk:k < l.length),f (l.take k,(k:Int))=some (.next (l.take k ++ [l[k]],((k+1:Nat):Int)))) (he:f (l,(l.length:Int))=some (.stop l)):loop f ([],0)=some l:=by
  have:=fI (f:=f) l.length (fun k=>(l.take k,(k:Int))) l (fun k hk=>by rw [h k hk,List.take_succ_eq_append_getElem hk]) (by rw [List.take_length];exact he)
  simpa using this
theorem aSM{α:Type}{f:(Int×List α)→Option (Step (Int×List α) (List α))}(l:List α)
    (h:∀k (hk:k < l.length),f ((k:Int),l.take k)=some (.next (((k+1:Nat):Int),l.take k ++ [l[k]]))) (he:f ((l.length:Int),l)=some (.stop l)):loop f (0,[])=some l:=by
  have:=fI (f:=f) l.length (fun k=>((k:Int),l.take k)) l (fun k hk=>by rw [h k hk,List.take_succ_eq_append_getElem hk]) (by rw [List.take_length];exact he)
  simpa using this
theorem RX{l:List Int}(h:l.length≤1073741824):AL l=some l:=by
  unfold AL;rw [aO (by simpa using h)];rfl
theorem DL{l:List Int}(h:l.length≤1073741824):nZ l=some l:=by
  unfold nZ;rw [aO (by simpa using h)];rfl
theorem aT0{l:List cQ}(h:l.length≤1073741824):KV l=some l:=by
  unfold KV;rw [aO (by simpa using h)];rfl
theorem aRQ{l:List bP}(h:l.length≤1073741824):I5 l=some l:=by
  unfold I5;rw [aO (by simpa using h)];rfl
theorem aSN{l:List aG}(hl:l.length≤1048576)(hs:∀s∈l,s.bB.length≤1048576):TN l=some l:=by
  unfold TN
  rw [aE5 l]
  · rfl
  · intro k hk
    have:=hs _ (List.getElem_mem hk)
    simp only [WB]
    rw [if_pos (by simp;omega),aT hk]
    simp only [Option.bind_some]
    rw [RX (by omega),Option.bind_some,aO (by simp;omega),aZ (by omega) (by omega)];rfl
  · simp [WB]
theorem aRR{l:aB}(h1:l.Global.length≤1048576)(h2:l.bA.length≤1048576)(h3:∀s∈l.Global,s.bB.length≤1048576)(h4:∀s∈l.bA,s.bB.length≤1048576):YG l=some l:=by
  unfold YG;rw [aSN h1 h3,aSN h2 h4];rfl
theorem ZU{l:aB}(h1:l.Global.length≤1048576)(h2:l.bA.length≤1048576)(h3:∀s∈l.Global,s.bB.length≤1048576)(h4:∀s∈l.bA,s.bB.length≤1048576):sT l=some l:=by
  unfold sT
  rw [aSM l.Global]
  · simp only [Option.bind_some,YS,YR]
    rw [aSM l.bA]
    · rfl
    · intro k hk
      have:=h4 _ (List.getElem_mem hk)
      simp only [PL]
      rw [if_pos (by simp;omega),aT hk]
      simp only [Option.bind_some]
      rw [DL (by omega),Option.bind_some,aO (by simp;omega),PK,aZ (by omega) (by omega)];rfl
    · simp [PL]
  · intro k hk
    have:=h3 _ (List.getElem_mem hk)
    simp only [PN]
    rw [if_pos (by simp;omega),aT hk]
    simp only [Option.bind_some]
    rw [DL (by omega),Option.bind_some,aO (by simp;omega),PM,aZ (by omega) (by omega)];rfl
  · simp [PN]
theorem aT1{h:aC}(h1:h.Bytes.length≤1048576)(h2:h.Class.length≤1048576):YF h=some h:=by
  unfold YF;rw [RX (by omega),RX (by omega)];rfl
theorem aB6{h:aC}(h1:h.Bytes.length≤1048576)(h2:h.Class.length≤1048576):IM h=some h:=by
  unfold IM;rw [DL (by omega),DL (by omega)];rfl
theorem aLY{m:Mem}(h:N4 m):TO m=some m:=by
  have a:=aT1 h.1 h.2.1
  have b:=aRR h.2.2.1 h.2.2.2.1 h.aLX.1 h.aLX.2
  unfold TO;rw [a,b];rfl
theorem aLZ{m:Mem}(h:N4 m):PO m=some m:=by
  have a:=aB6 h.1 h.2.1
  have b:=ZU h.2.2.1 h.2.2.2.1 h.aLX.1 h.aLX.2
  unfold PO;rw [a,b];rfl
theorem MS{c:aD}(h:c.aM.length≤1048576):C7 c=some c:=by
  unfold C7;rw [aO (by simp;omega)];rfl
theorem MT{c:aD}(h:c.aM.length≤1048576):xM c=some c:=by
  unfold xM;rw [aT0 (by omega)];rfl
theorem aRS{l:List aP}(hl:l.length≤1048576)(hs:∀s∈l,s.Rows.length≤1048576):UZ l=some l:=by
  unfold UZ
  rw [aE5 l]
  · rfl
  · intro k hk
    have:=hs _ (List.getElem_mem hk)
    simp only [UB]
    rw [if_pos (by simp;omega),aT hk]
    simp only [Option.bind_some]
    rw [aO (by simp;omega),aO (by simp;omega),aZ (by omega) (by omega)];rfl
  · simp [UB]
theorem ZV{l:List aP}(hl:l.length≤1048576)(hs:∀s∈l,s.Rows.length≤1048576):xN l=some l:=by
  unfold xN
  rw [aE5 l]
  · rfl
  · intro k hk
    have:=hs _ (List.getElem_mem hk)
    simp only [PQ]
    rw [if_pos (by simp;omega),aT hk]
    simp only [Option.bind_some]
    rw [aRQ (by omega),Option.bind_some,aO (by simp;omega),aZ (by omega) (by omega)];rfl
  · simp [PQ]
theorem aT2{b:aA}(h:G7 b):U0 b=some b:=by
  have m:=aLY h.1
  have c:=MS h.2.1
  have l:=aRS h.2.2.1 h.rows
  have:=h.2.2.2.2
  unfold U0;rw [m,c,l,RX (by omega)];rfl
theorem aT3{b:aA}(h:G7 b):SY b=some b:=by
  have m:=aLZ h.1
  have c:=MT h.2.1
  have l:=ZV h.2.2.1 h.rows
  have:=h.2.2.2.2
  unfold SY;rw [m,c,l,DL (by omega)];rfl
end Go.Gv
end
noncomputable section
set_option linter.unusedVariables false
set_option linter.unusedSimpArgs false
namespace Go.Gv
theorem nO(w:Int):lW w=some (decide (0≤w∧w≤2)):=by
  unfold lW;rw [kD];rfl
noncomputable section
variable {c:aD} (hc:COk c) {w:Int} (hw:0≤w∧w≤2)
include hc
theorem COk.small:c.aM.length≤1048576∧c.aM.length≤maxLen:=by
  have:=hc.2.1;simp only [maxLen];omega
theorem COk.aT4{k:Nat}{p:cQ}(hp:POk c.aJ p):COk ⟨c.aJ,c.aM.set k p⟩:=⟨hc.1,by simpa using hc.2.1,fun q hq=>(List.mem_or_eq_of_mem_set hq).elim (hc.2.2 q) (fun e=>e ▸ hp)⟩
theorem COk.a71(h:c.aJ+1≤100000):COk ⟨c.aJ+1,c.aM⟩:=by
  have h1:=hc.1
  exact⟨⟨by simp only;omega,h⟩,hc.2.1,fun q hq=>by
    obtain⟨a,b,d⟩:=hc.2.2 q hq
    exact⟨⟨a.1,by simp only;omega⟩,b,d⟩⟩
include hw
theorem aLC:∃p,idx c.aM w=some p∧POk c.aJ p:=by
  have h3:=hc.2.1
  rw [FO hw.1 (by omega)]
  exact⟨_,rfl,hc.2.2 _ (List.getElem_mem _)⟩
theorem aY4(e:Int):∃r,YK c w e=some r∧YV c w e=some r∧COk r.1∧r.1.aJ=c.aJ:=by
  obtain⟨p,hp,h1,⟨hs0,hs1⟩,h2⟩:=aLC hc hw
  have h3:=hc.2.1
  unfold YK YV
  rw [MS hc.small.1,MT hc.small.1,tK,tL hc.small.2,nO,fP,decide_eq_true hc,decide_eq_true hw]
  simp only [Option.bind_some,Bool.not_true,Bool.false_eq_true,if_false,PD,P5,hp]
  cases h4:p.On
  · exact⟨_,rfl,rfl,hc,rfl⟩
  · cases h5:p.jD
    · by_cases h6:p.aJ=e
      · simp only [E2,FB,h6,beq_self_eq_true,if_true,Bool.not_true,Bool.false_eq_true,if_false]
        exact⟨_,rfl,rfl,hc,rfl⟩
      · have h6':(p.aJ == e)=false:=by simpa using h6
        simp only [E2,FB,h6',Bool.not_true,Bool.false_eq_true,if_false,hp,Option.bind_some]
        by_cases h7:p.Seen=2
        · simp only [h7,beq_self_eq_true,if_true,show ¬((2:Int) < 2) by omega,decide_false,Bool.false_eq_true,if_false]
          exact⟨_,rfl,rfl,hc.aT4 ⟨h1,by simp,fun q=>by simp [h4] at q⟩,rfl⟩
        · have h7':(p.Seen == 2)=false:=by simpa using h7
          simp only [h7',show p.Seen < 2 by omega,decide_true,if_true,Bool.false_eq_true,if_false]
          have hw7:aI (p.Seen+1)=p.Seen+1:=aZ (by omega) (by omega)
          exact⟨_,rfl,rfl,hc.aT4 ⟨h1,by simp only [hw7];omega,fun q=>by simp [h4] at q⟩,rfl⟩
    · exact⟨_,rfl,rfl,hc,rfl⟩
theorem a18(e:Int):∃r,aBQ c w e=some r∧aBV c w e=some r∧(COk r.1∧r.1.aJ=c.aJ)∧(r.2=false→r.1=c):=by
  obtain⟨p,hp,hpk⟩:=aLC hc hw
  have h3:=hc.2.1
  unfold aBQ aBV
  rw [MS hc.small.1,MT hc.small.1,tK,tL hc.small.2,nO,fP,fP,kD,decide_eq_true hc,decide_eq_true hw]
  simp only [Option.bind_some,Bool.not_true,Bool.false_eq_true,if_false,L8,MH,hp]
  by_cases h:0≤e∧e≤c.aJ
  · simp only [decide_eq_true h,Bool.not_true,Bool.false_eq_true,if_false]
    exact⟨_,rfl,rfl,⟨hc.aT4 ⟨h,by simp,fun q=>by cases q⟩,rfl⟩,fun q=>by cases q⟩
  · simp only [decide_eq_false h,Bool.not_false,if_true]
    exact⟨_,rfl,rfl,⟨hc,rfl⟩,fun _=>rfl⟩
omit hw in
theorem a4D(e:Int):∃r,aFZ c e=some r∧aF0 c e=some r∧COk r.1∧c.aJ≤r.1.aJ:=by
  have h3:=hc.2.1
  unfold aFZ aF0
  rw [MS hc.small.1,MT hc.small.1,tK,tL hc.small.2,decide_eq_true hc]
  simp only [Option.bind_some,Bool.not_true,Bool.false_eq_true,if_false,PE,P6]
  by_cases h:c.aJ=e
  · subst h
    simp only [bne_self_eq_false,Bool.false_eq_true,if_false]
    by_cases h:c.aJ=100000
    · simp only [h,beq_self_eq_true,if_true];exact⟨_,rfl,rfl,hc,by simp [h]⟩
    · have h':(c.aJ == 100000)=false:=by simpa using h
      have hE:=hc.1
      have hw7:aI (c.aJ+1)=c.aJ+1:=aZ (by omega) (by omega)
      simp only [h',Bool.false_eq_true,if_false,hw7];exact⟨_,rfl,rfl,hc.a71 (by omega),by simp only;omega⟩
  · have h':(c.aJ != e)=true:=by simpa using h
    simp only [h',if_true];exact⟨_,rfl,rfl,hc,Int.le_refl _⟩
end
theorem a6L{b:aA}(hc:COk b.aD){w:Int}(hw:0≤w∧w≤2)(s:Sub) :
    ∃x y,YM b w s=some (x,y)∧K4 s b w=some (y,x)∧∃cl,x=⟨b.Mem,cl,b.aH,b.bO⟩∧COk cl∧b.aD.aJ≤cl.aJ:=by
  obtain⟨r,e1,e2,h3,h4⟩:=a18 hc hw s.E
  unfold YM K4
  rw [e1,e2]
  simp only [fW,dK,LP,Option.bind_some]
  by_cases p0:s.Pc=0
  · simp only [p0,beq_self_eq_true,if_true];exact⟨_,_,rfl,rfl,_,rfl,hc,by omega⟩
  · have p0':(s.Pc == 0)=false:=by simpa using p0
    simp only [p0',Bool.false_eq_true,if_false]
    by_cases p1:s.Pc=1
    · simp only [p1,beq_self_eq_true,if_true]
      cases h:r.2
      · rw [h4 h];exact⟨_,_,rfl,rfl,_,rfl,hc,by omega⟩
      · exact⟨_,_,rfl,rfl,_,rfl,h3.1,by rw [h3.2];exact Int.le_refl _⟩
    · have p1':(s.Pc == 1)=false:=by simpa using p1
      simp only [p1',Bool.false_eq_true,if_false]
      by_cases p2:s.Pc=2
      · simp only [p2,beq_self_eq_true,if_true]
        by_cases q:b.aD.aJ=s.E
        · simp only [q,beq_self_eq_true,if_true];exact⟨_,_,rfl,rfl,_,rfl,hc,by omega⟩
        · have q':(b.aD.aJ == s.E)=false:=by simpa using q
          simp only [q',Bool.false_eq_true,if_false];exact⟨_,_,rfl,rfl,_,rfl,hc,by omega⟩
      · have p2':(s.Pc == 2)=false:=by simpa using p2
        simp only [p2',Bool.false_eq_true,if_false];exact⟨_,_,rfl,rfl,_,rfl,hc,by omega⟩
theorem aWV{b:aA}(hc:COk b.aD)(s:Sub) :
    ∃x y,M7 b s=some (x,y)∧DC s b=some (y,x)∧∃cl,x=⟨b.Mem,cl,b.aH,b.bO⟩∧COk cl∧b.aD.aJ≤cl.aJ:=by
  obtain⟨r2,e3,e4,h4⟩:=a4D hc s.E
  unfold M7 DC yJ
  rw [e3,e4,fP,nO]
  simp only [fW,dK,GH,GI,yI,Option.bind_some]
  by_cases p0:s.Pc=0
  · simp only [p0,beq_self_eq_true,if_true];exact⟨_,_,rfl,rfl,_,rfl,hc,by omega⟩
  · have p0':(s.Pc == 0)=false:=by simpa using p0
    simp only [p0',Bool.false_eq_true,if_false]
    by_cases p1:s.Pc=1
    · simp only [p1,beq_self_eq_true,if_true,show((1:Int) == 2)=false from rfl,Bool.false_eq_true,if_false]
      by_cases hB:0≤s.B∧s.B≤2
      · obtain⟨r,e1,e2,h3,h3'⟩:=aY4 hc hB s.E
        simp only [decide_eq_true hB,Bool.not_true,Bool.false_eq_true,if_false,if_true,e1,e2,Option.bind_some]
        cases h:r.2
        · exact⟨_,_,rfl,rfl,_,rfl,h3,by rw [h3'];exact Int.le_refl _⟩
        · by_cases q:aI (s.B+1)=3
          · simp only [q,beq_self_eq_true,if_true,Bool.not_true,Bool.false_eq_true,if_false];exact⟨_,_,rfl,rfl,_,rfl,h3,by rw [h3'];exact Int.le_refl _⟩
          · have q':(aI (s.B+1) == 3)=false:=by simpa using q
            simp only [q',Bool.not_true,Bool.false_eq_true,if_false];exact⟨_,_,rfl,rfl,_,rfl,h3,by rw [h3'];exact Int.le_refl _⟩
      · simp only [decide_eq_false hB,Bool.not_false,Bool.false_eq_true,if_false,if_true]
        exact⟨_,_,rfl,rfl,_,rfl,hc,by omega⟩
    · have p1':(s.Pc == 1)=false:=by simpa using p1
      simp only [p1',Bool.false_eq_true,if_false]
      by_cases p2:s.Pc=2
      · simp only [p2,beq_self_eq_true,if_true]
        cases h:r2.2
        · simp only [Bool.false_eq_true,if_false];exact⟨_,_,rfl,rfl,_,rfl,h4⟩
        · simp only [if_true];exact⟨_,_,rfl,rfl,_,rfl,h4⟩
      · have p2':(s.Pc == 2)=false:=by simpa using p2
        simp only [p2',Bool.false_eq_true,if_false];exact⟨_,_,rfl,rfl,_,rfl,hc,by omega⟩
end Go.Gv
end
noncomputable section
set_option linter.unusedVariables false
set_option linter.unusedSimpArgs false
namespace Go.Gv
theorem aWW:∀(n:Nat) (l:List Int),l.Nodup→(∀x∈l,0≤x∧x < (n:Int))→l.length≤n
  | 0, l, _, h => by
    cases l with
    | nil=>simp
    | cons a t=>have:=h a (by simp);omega
  | n + 1, l, hn, h => by
    have ih:=aWW n (l.erase (n:Int)) (hn.erase _) (fun x hx=>by
      have h1:=(hn.mem_erase_iff).1 hx
      have h2:=h x h1.2
      have:=h1.1
      omega)
    have:=List.length_erase (a:=(n:Int)) (l:=l)
    split at this <;> omega
theorem aT5(a b:List aP):bI (a++b)=bI a++bI b:=by simp [bI]
theorem aT6(a b:List aG):jH (a++b)=jH a++jH b:=by simp [jH]
theorem aAX{l:List aP}{k:Nat}(hk:k < l.length)(x:aP):bI (l.set k x)=bI (l.take k)++(x.Rows++bI (l.drop (k+1))):=by
  rw [List.set_eq_take_append_cons_drop,if_pos hk,aT5];simp [bI]
theorem YZ{l:List aP}{k:Nat}(hk:k < l.length):bI l=bI (l.take k)++(l[k].Rows++bI (l.drop (k+1))):=by
  conv=>lhs;rw [←List.set_getElem_self hk,aAX hk]
theorem V5{l:List aG}{k:Nat}(hk:k < l.length)(x:aG):jH (l.set k x)=jH (l.take k)++(x.bB++jH (l.drop (k+1))):=by
  rw [List.set_eq_take_append_cons_drop,if_pos hk,aT6];simp [jH]
theorem TZ{l:List aG}{k:Nat}(hk:k < l.length):jH l=jH (l.take k)++(l[k].bB++jH (l.drop (k+1))):=by
  conv=>lhs;rw [←List.set_getElem_self hk,V5 hk]
def aP2(l:List aP)(s:Int):Prop:=∃r∈bI l,EE r.Handle∧r.Handle % 32=s
instance (l:List aP) (s:Int):Decidable (aP2 l s):=by unfold aP2;infer_instance
noncomputable section
variable {l:List aP} (hl:pK l)
include hl
theorem pK.small:(bI l).length≤1073741824∧l.length≤maxLen∧l.length≤1048576∧∀s∈l,s.Rows.length≤24:=by
  have:=hl.1;have h2:=hl.2.1
  refine⟨by omega,by simp only [maxLen];omega,by omega,fun s hs=>?_⟩
  have:=C3 hs;omega
theorem aDK(s:Int):PA l s=some (decide (aP2 l s)):=by
  have hm:=hl.small
  unfold PA
  rw [pY hm.1 hm.2.1,Option.bind_some]
  have key:=lA (f:=CR s (bI l)) (bI l) (fun k=>(k:Int)) (fun r=>¬(EE r.Handle∧r.Handle % 32=s)) (Out.brk ()) (Out.ret true)
    (fun k hk hp=>by
      have hk':=hl.2.1
      simp only [CR,HR]
      rw [if_pos (by simp;omega),aT hk,bV (show k < maxLen by simp only [maxLen];omega)]
      simp only [Option.bind_some,l9,kE]
      by_cases q:EE (bI l)[k].Handle
      · have:((bI l)[k].Handle % 32 == s)=false:=by simpa using fun a=>hp ⟨q,a⟩
        simp [q,this]
      · simp [q])
    (fun k hk hp=>by
      have hp:=Classical.not_not.1 hp
      simp only [CR,HR]
      rw [if_pos (by simp;omega),aT hk]
      simp [l9,kE,hp.1,hp.2])
    (by simp [CR])
  have key':loop (CR s (bI l)) 0=_:=key
  rw [key']
  by_cases q:aP2 l s
  · rw [if_neg (fun a=>by obtain⟨r,hr,e⟩:=q;exact a r hr e),decide_eq_true q];rfl
  · rw [if_pos (fun r hr e=>q ⟨r,hr,e⟩),decide_eq_false q];rfl
theorem aDL(s:Int):P4 l s=some (decide (aP2 l s)):=by
  have hm:=hl.small
  unfold P4
  have e1:∀(r:bP),FA r s=some (decide (EE r.Handle∧r.Handle % 32=s)):=by
    intro r
    unfold FA EM
    rw [oJ]
    by_cases q:EE r.Handle
    · rw [q.mod.1];simp [q];rfl
    · simp [q]
  have e2:∀x∈l,P3 x s=some (x.Rows.any fun r=>decide (EE r.Handle∧r.Handle % 32=s)):=by
    intro x hx
    unfold P3
    have:x.Rows.length≤maxLen:=by have:=hm.2.2.2 x hx;simp only [maxLen];omega
    rw [show(fun y0=>FA y0 s)=fun r=>some (decide (EE r.Handle∧r.Handle % 32=s)) from funext e1,IX this];rfl
  rw [FP hm.2.1 (fun x=>x.Rows.any fun r=>decide (EE r.Handle∧r.Handle % 32=s)) _ e2]
  simp only [Option.bind_some]
  congr 1
  rw [Bool.eq_iff_iff,decide_eq_true_iff]
  simp only [List.any_eq_true,decide_eq_true_eq,aP2,bI,List.mem_flatMap]
  constructor
  · rintro⟨x,hx,r,hr,h⟩;exact⟨r,⟨x,hx,hr⟩,h⟩
  · rintro⟨r,⟨x,hx,hr⟩,h⟩;exact⟨x,hx,r,hr,h⟩
theorem pK.more{k:Nat}(hk:k < l.length){r:bP}(hr:qX r)(hn:¬aP2 l (r.Handle % 32)):pK (l.set k ⟨l[k].Rows ++ [r]⟩):=by
  have e:=aAX hk (⟨l[k].Rows ++ [r]⟩:aP)
  have p:(bI (l.set k ⟨l[k].Rows ++ [r]⟩)).Perm (r :: bI l):=by
    rw [e,YZ hk]
    refine List.Perm.trans ?_ List.perm_middle
    simp only [List.append_assoc]
    exact List.Perm.append_left _ (by simp only [List.singleton_append];exact(List.perm_middle (l₁:=l[k].Rows) (l₂:=bI (l.drop (k+1))) (a:=r)))
  have h1:∀x∈bI (l.set k ⟨l[k].Rows ++ [r]⟩),qX x:=fun x hx=>by
    rcases List.mem_cons.1 (p.mem_iff.1 hx) with rfl | h
    · exact hr
    · exact hl.2.2.1 x h
  have h2:((bI (l.set k ⟨l[k].Rows ++ [r]⟩)).map iH).Nodup:=by
    refine(List.Perm.nodup_iff (p.map iH)).2 ?_
    rw [List.map_cons,List.nodup_cons]
    refine⟨fun h=>hn ?_,hl.2.2.2⟩
    obtain⟨x,hx,e⟩:=List.mem_map.1 h
    exact⟨x,hx,(hl.2.2.1 x hx).1,e⟩
  refine⟨by simpa using hl.1,?_,h1,h2⟩
  have:=aWW 24 _ h2 (fun x hx=>by
    obtain⟨y,hy,rfl⟩:=List.mem_map.1 hx
    have:=(h1 y hy).1.mod
    unfold iH;omega)
  simpa using this
end
theorem aY5{b:aA}(hb:kP b)(hs:G7 b){w:Int}(hw:0≤w∧w≤2)(s:Sub) :
    ∃x y,PC b w s=some (x,y)∧EN s b w=some (y,x)∧∃L,x=⟨b.Mem,b.aD,L,b.bO⟩∧pK L∧∀r∈bI L,i6 b r:=by
  have hL:=hb.1.2.2.1
  have hm:=hb.1.1
  have hlen:w.toNat < b.aH.length:=by have:=hL.1;omega
  have hx:idx b.aH w=some b.aH[w.toNat]:=FO hw.1 (by omega)
  have hg:b.Mem.aB.Global.length≤maxLen:=by rw [hm.1.2.1];simp [maxLen]
  have ho:b.Mem.aB.bA.length≤maxLen:=by rw [hm.1.2.2.1];simp [maxLen]
  have hall:(jW b.Mem.aB).length≤1073741824:=by have:=hs.1.2.2.2.2;omega
  have hrow:=hL.small.2.2.2 _ (List.getElem_mem hlen)
  have he:=hb.1.2.1.1
  unfold PC EN AA
  rw [fP,kD,zA hm.1.1.1 hall hg ho,BL hm.1.1.1 hall hg ho,kE]
  simp only [fW,dK,Option.bind_some,I4,PB,z9]
  by_cases p0:s.Pc=0
  · simp only [p0,beq_self_eq_true,if_true];exact⟨_,_,rfl,rfl,_,rfl,hL,hb.2⟩
  · have p0' : (s.Pc == 0) = false := by simpa using p0
    simp only [p0',Bool.false_eq_true,if_false]
    by_cases p1:s.Pc=1
    · simp only [p1,beq_self_eq_true,bne_self_eq_false,Bool.false_eq_true,if_false,if_true]
      by_cases q1:0≤s.E∧s.E≤b.aD.aJ
      · simp only [decide_eq_true q1,Bool.not_true,Bool.false_eq_true,if_false]
        by_cases q2:FQ b.Mem s.A
        · have hh:=q2.1
          simp only [decide_eq_true q2,Bool.not_true,Bool.false_eq_true,if_false,if_pos hh,hh.mod.1,aDK hL,aDL hL,Option.bind_some]
          by_cases q3:aP2 b.aH (s.A % 32)
          · simp only [decide_eq_true q3,if_true];exact⟨_,_,rfl,rfl,_,rfl,hL,hb.2⟩
          · have hmore:=hL.more hlen (r:=⟨s.A,s.E⟩) ⟨hh,q1.1,by simp only;omega⟩ q3
            have e:S9 b.aH w s.A s.E=some (b.aH.set w.toNat ⟨b.aH[w.toNat].Rows ++ [⟨s.A,s.E⟩]⟩,true):=by
              unfold S9 K2
              rw [vX hL.small.1,nO,ZV hL.small.2.2.1 (fun s h=>by have:=hL.small.2.2.2 s h;omega)]
              simp only [decide_eq_true hL,decide_eq_true hw,Option.bind_some,Bool.not_true,Bool.false_eq_true,if_false,hx]
              rw [aO (by simp;omega),vX hmore.small.1,decide_eq_true hmore];rfl
            simp only [decide_eq_false q3,Bool.false_eq_true,if_false,hx,e,Option.bind_some]
            rw [aO (by simp;omega)]
            refine⟨_,_,rfl,rfl,_,rfl,hmore,fun r hr=>?_⟩
            rw [aAX hlen] at hr
            have hsp:=YZ hlen
            rcases List.mem_append.1 hr with h | h
            · exact hb.2 r (by rw [hsp];exact List.mem_append_left _ h)
            · rcases List.mem_append.1 h with h | h
              · rcases List.mem_append.1 h with h | h
                · exact hb.2 r (by rw [hsp];exact List.mem_append_right _ (List.mem_append_left _ h))
                · simp at h;subst h;exact⟨q2,q1.2⟩
              · exact hb.2 r (by rw [hsp];exact List.mem_append_right _ (List.mem_append_right _ h))
        · simp only [decide_eq_false q2,Bool.not_false,if_true];exact⟨_,_,rfl,rfl,_,rfl,hL,hb.2⟩
      · simp only [decide_eq_false q1,Bool.not_false,if_true];exact⟨_,_,rfl,rfl,_,rfl,hL,hb.2⟩
    · have p1':(s.Pc == 1)=false:=by simpa using p1
      have p1'':(s.Pc != 1)=true:=by simpa using p1
      simp only [p1',p1'',Bool.false_eq_true,if_false,if_true];exact⟨_,_,rfl,rfl,_,rfl,hL,hb.2⟩
end Go.Gv
end
noncomputable section
set_option linter.unusedVariables false
set_option linter.unusedSimpArgs false
namespace Go.Gv
def st4(b:List Int)(a:Nat)(n:Int):List Int:=(((b.set a 0).set (a+1) 0).set (a+2) 0).set (a+3) n
theorem TD(b:List Int)(a:Nat)(n:Int):(st4 b a n).length=b.length:=by simp [st4]
theorem aVK{b:List Int}(h:I7 b)(a:Nat){n:Int}(hn:0≤n∧n≤255):I7 (st4 b a n):=by
  have key:∀{l:List Int} (i:Nat) (v:Int),I7 l→0≤v∧v≤255→I7 (l.set i v):=fun i v hl hv x hx=>by
    rcases List.mem_or_eq_of_mem_set hx with h | rfl
    · exact hl x h
    · exact hv
  exact key _ _ (key _ _ (key _ _ (key _ _ h (by omega)) (by omega)) (by omega)) hn
theorem a19{n:Int}(hn:0≤n∧n≤255):((u8 n).toNat:Int)=n:=by
  obtain⟨m,rfl⟩:=Int.eq_ofNat_of_zero_le hn.1
  unfold u8
  rw [UInt8.toNat_ofNat'];omega
theorem aJM{l:List Int}(i:Nat){v:Int}(hl:I7 l)(hv:0≤v∧v≤255):I7 (l.set i v):=fun x hx=>by
  rcases List.mem_or_eq_of_mem_set hx with h | rfl
  · exact hl x h
  · exact hv
def ZW(b:List Int)(a:Nat)(n:Int):List Int:=(((b.set a (n / 16777216)).set (a+1) (n / 65536 % 256)).set (a+2) (n / 256 % 256)).set (a+3) (n % 256)
theorem aJN(b:List Int)(a:Nat)(n:Int):(ZW b a n).length=b.length:=by simp [ZW]
theorem aY6{b:List Int}(h:I7 b)(a:Nat){n:Int}(hn:0≤n∧n≤4294967295):I7 (ZW b a n):=by
  unfold ZW
  exact aJM _ (aJM _ (aJM _ (aJM _ h (by omega)) (by omega)) (by omega)) (by omega)
theorem aY7(b:List Int)(a:Nat)(x y z u:Int):(((b.set (a+3) u).set (a+2) z).set (a+1) y).set a x=(((b.set a x).set (a+1) y).set (a+2) z).set (a+3) u:=by
  refine List.ext_getElem (by simp) fun j h1 h2=>?_
  simp only [List.getElem_set]
  by_cases j0:a=j
  · subst j0;simp
  · by_cases j1:a+1=j
    · subst j1;simp
    · by_cases j2:a+2=j
      · subst j2;simp
      · by_cases j3:a+3=j
        · subst j3;simp
        · simp [j0,j1,j2,j3]
theorem aSP{b:List Int}{a:Nat}(h:a+4≤b.length)(hl:b.length≤100000){n:Int}(hn:0≤n∧n≤4294967295):GG b (a:Int) 4 n=some (ZW b a n):=by
  have st:∀(c:List Int) (m:Int) (i:Nat),c.length=b.length→0≤m→m≤4294967295→i < 4→M5 (a:Int) (c,m,(i:Int))=some (.next (c.set (a+i) (m % 256),m / 256,(i:Int) - 1)):=fun c m i hc h0 h1 hi=>by
    simp only [M5]
    rw [if_pos (by simp),aZ (x:=(a:Int)+i) (by omega) (by omega),show(a:Int)+i=((a+i:Nat):Int) by omega,aT (by omega),Option.bind_some,J0 h0,TY h0,aZ (x:=m / 256) (by omega) (by omega),aZ (x:=(i:Int) - 1) (by omega) (by omega),Int.toNat_natCast]
  unfold GG
  rw [show aI (4 - 1)=((3:Nat):Int) from by rw [aZ (by omega) (by omega)];rfl]
  rw [cO (st b n 3 rfl hn.1 hn.2 (by omega)),show((3:Nat):Int) - 1=((2:Nat):Int) by rfl,
    cO (st _ _ 2 (by simp) (by omega) (by omega) (by omega)),show((2:Nat):Int) - 1=((1:Nat):Int) by rfl,
    cO (st _ _ 1 (by simp) (by omega) (by omega) (by omega)),show((1:Nat):Int) - 1=((0:Nat):Int) by rfl,
    cO (st _ _ 0 (by simp) (by omega) (by omega) (by omega)),cX (r:=ZW b a n)]
  · rfl
  · simp only [M5]
    rw [if_neg (by simp)]
    have e1:n / 256 / 256=n / 65536:=by omega
    have e2:n / 256 / 256 / 256=n / 16777216:=by omega
    have e3:n / 16777216 % 256=n / 16777216:=by omega
    rw [e1,show n / 65536 / 256=n / 16777216 by omega,e3]
    unfold ZW
    simp only [Nat.add_zero]
    rw [aY7]
def aG6(n:Int):List UInt8:=[u8 (n / 16777216),u8 (n / 65536),u8 (n / 256),u8 n]
theorem aP3{n:Int}(hn:0≤n∧n≤4294967295):N0 n 4=some (aG6 n):=by
  have hw:w8 4=some true:=by unfold w8;rw [kD];rfl
  unfold N0
  rw [hw]
  have e1:IntKind.u64.wrap (aI (8 * 4))=32:=by decide
  have e2:aR3 .i64 1 32=4294967296:=by decide
  simp only [Option.bind_some,Bool.not_true,Bool.false_eq_true,if_false,e1,e2]
  rw [if_neg (by simp;omega),aO (by omega),decide_eq_false (by omega)]
  simp only [MF,Bool.false_eq_true,if_false]
  rw [aO (by omega),show aI (4 - 1)=((3:Nat):Int) from by rw [aZ (by omega) (by omega)];rfl]
  have st:∀(m:Int) (c:List UInt8) (i:Nat),i < c.length→i < 4→0≤m→S6 (m,c,(i:Int))=some (.next (m / 256,c.set i (u8 m),(i:Int) - 1)):=fun m c i hc hi h0=>by
    simp only [S6]
    rw [if_pos (by simp),aT hc,Option.bind_some,show(8:Int)=((8:Nat):Int) from rfl,a4B h0 (by omega),aZ (by omega) (by omega),Int.toNat_natCast];rfl
  rw [cO (st n _ 3 (by simp) (by omega) hn.1),show((3:Nat):Int) - 1=((2:Nat):Int) by rfl,
    cO (st _ _ 2 (by simp) (by omega) (by omega)),show((2:Nat):Int) - 1=((1:Nat):Int) by rfl,
    cO (st _ _ 1 (by simp) (by omega) (by omega)),show((1:Nat):Int) - 1=((0:Nat):Int) by rfl,
    cO (st _ _ 0 (by simp) (by omega) (by omega)),cX (r:=aG6 n)]
  · rfl
  · simp only [S6]
    rw [if_neg (by simp)]
    have e1:n / 256 / 256=n / 65536:=by omega
    rw [e1,show n / 65536 / 256=n / 16777216 by omega]
    rfl
theorem aT7{n:Int}(hn:0≤n):((u8 n).toNat:Int)=n % 256:=by
  have:u8 n=u8 (n % 256):=by
    unfold u8
    congr 1
    omega
  rw [this,a19 (by omega)]
theorem aP4{b:List Int}{a:Nat}(h:a+4≤b.length)(hl:b.length≤100000){n:Int}(hn:0≤n∧n≤4294967295):JS b (a:Int) (aG6 n)=some (ZW b a n):=by
  have st:∀(c:List Int) (i:Nat) (v:UInt8),c.length=b.length→i < 4→idx (aG6 n) (i:Int)=some v→P1 b (a:Int) (aG6 n) (c,(i:Int))=some (.next (c.set (a+i) (v.toNat:Int),((i+1:Nat):Int))):=fun c i v hc hi hv=>by
    simp only [P1]
    rw [aO hc,if_pos (by simp [aG6];omega),hv,Option.bind_some,aZ (x:=(a:Int)+i) (by omega) (by omega),show(a:Int)+i=((a+i:Nat):Int) by omega,aT (by omega),Option.bind_some,aZ (by omega) (by omega),Int.toNat_natCast];rfl
  unfold JS
  rw [show(0:Int)=((0:Nat):Int) from rfl,cO (st b 0 _ rfl (by omega) rfl),cO (st _ 1 _ (by simp) (by omega) rfl),cO (st _ 2 _ (by simp) (by omega) rfl),cO (st _ 3 _ (by simp) (by omega) rfl),cX (r:=ZW b a n)]
  · simp only [Option.bind_some,aEG,aEF]
    rw [aO (aJN b a n)]
  · simp only [P1]
    rw [aO (by simp),if_neg (by simp [aG6])]
    simp only [aT7 hn.1,aT7 (show 0≤n / 16777216 by omega),aT7 (show 0≤n / 65536 by omega),aT7 (show 0≤n / 256 by omega)]
    rw [show n / 16777216 % 256=n / 16777216 by omega]
    rfl
theorem a2A{b:List Int}{a:Nat}{n:Int}(hn:0≤n∧n≤255):ZW b a n=st4 b a n:=by
  unfold ZW st4
  rw [show n / 16777216=0 by omega,show n / 65536 % 256=0 by omega,show n / 256 % 256=0 by omega,show n % 256=n by omega]
theorem aDM{b:List Int}{a:Nat}(h:a+4≤b.length)(hl:b.length≤100000){n:Int}(hn:0≤n∧n≤255):GG b (a:Int) 4 n=some (st4 b a n):=by
  rw [aSP h hl ⟨hn.1,by omega⟩,a2A hn]
theorem a72{n:Int}(hn:0≤n∧n≤255):aG6 n=[0,0,0,u8 n]:=by
  unfold aG6
  rw [show n / 16777216=0 by omega,show n / 65536=0 by omega,show n / 256=0 by omega];rfl
theorem aG7{n:Int}(hn:0≤n∧n≤255):N0 n 4=some [0,0,0,u8 n]:=by
  rw [aP3 ⟨hn.1,by omega⟩,a72 hn]
theorem aE6{b:List Int}{a:Nat}(h:a+4≤b.length)(hl:b.length≤100000){n:Int}(hn:0≤n∧n≤255):JS b (a:Int) [0,0,0,u8 n]=some (st4 b a n):=by
  rw [←a72 hn,aP4 h hl ⟨hn.1,by omega⟩,a2A hn]
end Go.Gv
end
noncomputable section
set_option linter.unusedVariables false
set_option linter.unusedSimpArgs false
set_option linter.unusedSectionVars false
namespace Go.Gv
theorem a47{x y z:Int}:∀(a:Nat) (l:List Int),a+3≤l.length→fD l a [x,y,z]=((l.set a x).set (a+1) y).set (a+2) z
  | 0, l, h => by
    match l,h with
    | _ :: _ :: _ :: t,_=>simp [fD]
  | a + 1, l, h => by
    match l,h with
    | u :: t, h =>
      have ih:=a47 (x:=x) (y:=y) (z:=z) a t (by simp at h;omega)
      simp only [List.set_cons_succ,←ih]
      simp [fD,Nat.add_right_comm]
def a2B(p k:Nat)(c:Int):Nat:=(sI ((p:Int) * 4+k) c).toNat
def gB(b:List Int)(p:Nat)(c:Int):Nat→List Int
  | 0=>((b.set (p * 64) 171).set (p * 64+1) c).set (p * 64+2) (iV c)
  | k+1=>st4 (gB b p c k) (a2B p k c) 1
theorem ZX(b:List Int)(p:Nat)(c:Int):∀k,(gB b p c k).length=b.length
  | 0=>by simp [gB]
  | k+1=>by rw [gB,TD,ZX b p c k]
theorem aP5{l:List Int}(i:Nat){v:Int}(hl:I7 l)(hv:0≤v∧v≤255):I7 (l.set i v):=fun x hx=>by
  rcases List.mem_or_eq_of_mem_set hx with h | rfl
  · exact hl x h
  · exact hv
theorem aT8{b:List Int}(hb:I7 b)(p:Nat){c:Int}(hc:0≤c∧c≤2):∀k,I7 (gB b p c k)
  | 0 => by
    have:=DI c
    exact aP5 _ (aP5 _ (aP5 _ hb (by omega)) (by omega)) (by omega)
  | k+1=>aVK (aT8 hb p hc k) _ (by omega)
def gS(p:Nat)(n:Nat):List Int:=(List.range n).map fun(i:Nat)=>(p:Int) * 4+(i:Int)
theorem aP6(p n:Nat):(gS p n).length=n:=by simp [gS]
theorem aYM(p n:Nat):gS p (n+1)=gS p n ++ [(p:Int) * 4+(n:Int)]:=by simp [gS,List.range_succ]
theorem aT9{p k:Nat}{c:Int}(hp:p < 6)(hk:(k:Int) < iV c):sI ((p:Int) * 4+k) c=(a2B p k c:Int)∧a2B p k c+4≤384:=by
  have h4:=DI c
  have hm:=WT (c:=c) (i:=(k:Int)) (by omega) hk
  have hst:4≤cK c:=by
    have:0≤c∧c≤2:=DJ.1 (by omega)
    rcases sS this with e | e | e <;> rw [e] <;> decide
  have e:sI ((p:Int) * 4+k) c=(p:Int) * 64+8+(k:Int) * cK c:=by
    unfold sI
    rw [if_pos ⟨by omega,by omega⟩,show((p:Int) * 4+k) / 4=p by omega,show((p:Int) * 4+k) % 4=k by omega]
  unfold a2B
  rw [e];omega
theorem aSQ{p k:Nat}(hp:p < 6)(hk:k < 4):GB (p:Int) (k:Int)=some ((p:Int) * 4+k)∧YU (p:Int) (k:Int)=some ((p:Int) * 4+k):=by
  have a:0≤(p:Int)∧(p:Int)≤5:=by omega
  have b:0≤(k:Int)∧(k:Int)≤3:=by omega
  have e1:aI ((p:Int) * 4)=(p:Int) * 4:=aZ (by omega) (by omega)
  have e2:aI ((p:Int) * 4+k)=(p:Int) * 4+k:=aZ (by omega) (by omega)
  constructor
  · unfold GB JG;rw [fP,fP,decide_eq_true a,decide_eq_true b,e1,e2];rfl
  · unfold YU P2;rw [kD,kD,decide_eq_true a,decide_eq_true b,e1,e2];rfl
noncomputable section
variable {b:List Int} (hb:b.length=384) {p:Nat} (hp:p < 6) {c:Int} (hc:0≤c∧c≤2)
include hb hp hc
theorem aWX:loop (M6 c (p:Int)) ([],0,gB b p c 0)=some (gS p (iV c).toNat,gB b p c (iV c).toNat):=by
  have h4:=DI c
  refine fI (iV c).toNat (fun k=>(gS p k,(k:Int),gB b p c k)) _ (fun k hk=>?_) ?_
  · have ho:=aT9 (c:=c) hp (k:=k) (by omega)
    simp only [M6,UG,tJ,Option.bind_some]
    rw [if_pos (by simp;omega),(aSQ hp (by omega)).1]
    simp only [Option.bind_some,MN,ho.1]
    rw [aDM (by rw [ZX];omega) (by rw [ZX];omega) (by omega)]
    simp only [Option.bind_some]
    rw [aO (by rw [aP6];simp;omega),aZ (by omega) (by omega),aYM];rfl
  · simp only [M6,tJ,Option.bind_some]
    rw [if_neg (by simp;omega)]
theorem aWY:loop (S7 c (p:Int) (iV c)) ([],0,gB b p c 0)=some (gS p (iV c).toNat,gB b p c (iV c).toNat):=by
  have h4:=DI c
  refine fI (iV c).toNat (fun k=>(gS p k,(k:Int),gB b p c k)) _ (fun k hk=>?_) ?_
  · have ho:=aT9 (c:=c) hp (k:=k) (by omega)
    simp only [S7,ZH]
    rw [if_pos (by simp;omega),(aSQ hp (by omega)).2]
    simp only [Option.bind_some,MO,ho.1]
    rw [aG7 (by omega),Option.bind_some,aE6 (by rw [ZX];omega) (by rw [ZX];omega) (by omega)]
    simp only [Option.bind_some]
    rw [aO (by rw [aP6];simp;omega),aZ (by omega) (by omega),aYM];rfl
  · simp only [S7]
    rw [if_neg (by simp;omega)]
end
theorem a2C{h:aC}(hh:HOk h){c:Int}(hc:0≤c∧c≤2) :
    (KQ h c=some (h,[])∧RV h c=some (h,[])) ∨
    ∃p,p < 6∧fQ h p < 0∧KQ h c=some (⟨gB h.Bytes p c (iV c).toNat,h.Class.set p c⟩,gS p (iV c).toNat)∧RV h c=some (⟨gB h.Bytes p c (iV c).toNat,h.Class.set p c⟩,gS p (iV c).toNat):=by
  have hs:=hh.1
  have h6:=hs.2.1
  have h384:=hs.1
  have hp4:=DI c
  have hcp:=aB6 (h:=h) (by omega) (by omega)
  have hne:∀j (hj:j < 6),j < h.Class.findIdx (fun x=>decide (x = -1))→h.Class[j]≠-1:=fun j hj hlt=>by
    have:=List.not_of_lt_findIdx hlt
    simpa using this
  generalize hq:h.Class.findIdx (fun x=>decide (x = -1))=q at hne
  have hq6:q≤6:=by rw [←hq,←h6];exact List.findIdx_le_length
  have s1:∀k (hk:k < q),yV h c (k:Int)=some (.next ((k+1:Nat):Int)):=fun k hk=>by
    have:=hne k (by omega) hk
    have n:(h.Class[k] != -1)=true:=by simpa using this
    simp only [yV,UF]
    rw [if_pos (by simp;omega),aT (by omega),Option.bind_some,n,if_pos rfl,aZ (by omega) (by omega)];rfl
  have s2:∀k (hk:k < q),mK h.Class (-1) (k:Int)=some (.next ((k+1:Nat):Int)):=fun k hk=>by
    have:=hne k (by omega) hk
    have n:((-1:Int) == h.Class[k])=false:=by simpa using fun a=>this a.symm
    simp only [mK]
    rw [if_pos (by simp;omega),aT (by omega),Option.bind_some,n,aZ (by omega) (by omega)];rfl
  have hm:h.Bytes.length≤maxLen:=by rw [h384];simp [maxLen]
  by_cases h5:q=6
  · left
    have a1:loop (yV h c) 0=some (Out.brk ()):=fI q (fun k=>(k:Int)) _ s1 (by simp only [yV];rw [if_neg (by simp;omega)])
    have a2:loop (mK h.Class (-1)) 0=some (Out.brk ()):=fI q (fun k=>(k:Int)) _ s2 (by simp only [mK];rw [if_neg (by simp;omega)])
    constructor
    · unfold KQ;rw [a1];rfl
    · unfold RV AZ
      rw [a2,hcp,WW hm,vW,decide_eq_true hh,decide_eq_true hc];rfl
  · right
    have hq5:q < 6:=by omega
    have he:h.Class[q] = -1:=by
      have:=List.findIdx_getElem (xs:=h.Class) (p:=fun x=>decide (x = -1)) (w:=by rw [hq];omega)
      simp only [hq,decide_eq_true_eq] at this
      exact this
    refine⟨q,hq5,by rw [←aYJ hs hq5,he];omega,?_,?_⟩
    · have a1:loop (yV h c) 0=some (Out.ret (⟨gB h.Bytes q c (iV c).toNat,h.Class.set q c⟩,gS q (iV c).toNat)):=fI q (fun k=>(k:Int)) _ s1 (by
        have e0:aI ((q:Int) * 64)=((q * 64:Nat):Int):=by rw [aZ (by omega) (by omega)];omega
        have e1:aI (((q * 64:Nat):Int)+1)=((q * 64+1:Nat):Int):=by rw [aZ (by omega) (by omega)];omega
        have e2:aI (((q * 64:Nat):Int)+2)=((q * 64+2:Nat):Int):=by rw [aZ (by omega) (by omega)];omega
        have n:(h.Class[q] != -1)=false:=by simpa using he
        simp only [yV,e0,e1,e2,Int.toNat_natCast]
        rw [if_pos (by simp;omega),aT (by omega),Option.bind_some,n,if_neg (by simp),aT (by omega),Option.bind_some,aT (by simp;omega),Option.bind_some,tJ,Option.bind_some,aT (by simp;omega),Option.bind_some]
        have:=aWX h384 hq5 hc
        simp only [gB] at this
        rw [this];rfl)
      unfold KQ;rw [a1];rfl
    · have a2:loop (mK h.Class (-1)) 0=some (Out.ret (q:Int)):=fI q (fun k=>(k:Int)) _ s2 (by
        have n:((-1:Int) == h.Class[q])=true:=by rw [he];rfl
        simp only [mK]
        rw [if_pos (by simp;omega),aT (by omega),Option.bind_some,n];rfl)
      unfold RV AZ
      rw [a2,hcp,WW hm,vW,decide_eq_true hh,decide_eq_true hc]
      have e0:aI ((q:Int) * 64)=((q * 64:Nat):Int):=by rw [aZ (by omega) (by omega)];omega
      simp only [Option.bind_some,EJ,Bool.not_true,Bool.false_eq_true,if_false,MG,e0,NN,ZI,Int.toNat_natCast]
      rw [decide_eq_false (by omega),if_neg (by simp),aT (by omega),Option.bind_some,aO (by omega),a47 _ _ (by omega)]
      have:=aWY h384 hq5 hc
      simp only [gB] at this
      rw [this];rfl
theorem LOk.count{l:aB}(h:LOk l):(jW l).length≤24:=aWW 24 _ h.2.2.2.2 (fun x hx=>by have:=h.2.2.2.1 x hx;omega)
theorem aY8{m:Mem}(hs:oH m.aC){s:Int}(hc:0≤eU m.aC s):∃h,SR m s=some h∧S8 m s=some h:=by
  unfold SR S8 ZF ZJ KR K1
  rw [MP hs hc,TC hs hc,Option.bind_some,Option.bind_some,fP,fP,J1,kD]
  have h1:=(VV hc).1
  simp only [decide_eq_true h1,Option.bind_some,Bool.not_true,Bool.false_eq_true,if_false]
  by_cases q:1≤ED m.aC s∧ED m.aC s≤6
  · simp only [decide_eq_true q,Bool.not_true,Bool.false_eq_true,if_false];exact⟨_,rfl,rfl⟩
  · simp only [decide_eq_false q,Bool.not_false,if_true];exact⟨_,rfl,rfl⟩
theorem aH4{l:List aG}{k:Nat}(hk:k < l.length)(t:List Int):(jH (l.set k ⟨l[k].bB++t⟩)).length=(jH l).length+t.length:=by
  rw [V5 hk,TZ hk];simp;omega
end Go.Gv
end
noncomputable section
set_option linter.unusedVariables false
set_option linter.unusedSimpArgs false
set_option linter.unusedSectionVars false
namespace Go.Gv
def bt(b:List Int)(i:Nat):Int:=b.getD i 0
theorem aP7{b:List Int}{i:Nat}(h:i < b.length):b[i]=bt b i:=by
  unfold bt;rw [List.getD_eq_getElem?_getD,List.getElem?_eq_getElem h];rfl
theorem ld4{b:List Int}{a:Nat}(h:a+4≤b.length):ld b a 4=((bt b a * 256+bt b (a+1)) * 256+bt b (a+2)) * 256+bt b (a+3):=by
  unfold ld
  rw [List.drop_eq_getElem_cons (by omega),List.drop_eq_getElem_cons (by omega),List.drop_eq_getElem_cons (by omega),List.drop_eq_getElem_cons (by omega)]
  simp only [List.take_succ_cons,List.take_zero,ldF,List.foldl_cons,List.foldl_nil,aP7 (b:=b) (i:=a) (by omega),aP7 (b:=b) (i:=a+1) (by omega),aP7 (b:=b) (i:=a+1+1) (by omega),aP7 (b:=b) (i:=a+1+1+1) (by omega)]
  simp only [Nat.add_assoc,Nat.reduceAdd];omega
theorem WY{b:List Int}{i j:Nat}{v:Int}(hi:i < b.length):bt (b.set i v) j=if j=i then v else bt b j:=by
  unfold bt
  rw [List.getD_eq_getElem?_getD,List.getD_eq_getElem?_getD,List.getElem?_set]
  by_cases h:i=j
  · subst h;simp [hi]
  · have h':¬j=i:=fun q=>h q.symm
    simp [h,h']
theorem N5{b:List Int}{a:Nat}{n:Int}(h:a+4≤b.length)(j:Nat):bt (st4 b a n) j=if j=a+3 then n else if a≤j∧j < a+3 then 0 else bt b j:=by
  unfold st4
  rw [WY (by simp;omega),WY (by simp;omega),WY (by simp;omega),WY (by omega)]
  by_cases h1:j=a+3
  · simp [h1]
  · rw [if_neg h1,if_neg h1]
    by_cases h2:a≤j∧j < a+3
    · rw [if_pos h2]
      by_cases h3:j=a+2
      · simp [h3]
      · rw [if_neg h3]
        by_cases h4:j=a+1
        · simp [h4]
        · rw [if_neg h4,if_pos (by omega)]
    · rw [if_neg h2,if_neg (by omega),if_neg (by omega),if_neg (by omega)]
theorem aWZ{b:List Int}{a:Nat}{n:Int}(h:a+4≤b.length):ld (st4 b a n) a 4=n:=by
  rw [ld4 (by rw [TD];exact h),N5 h,N5 h,N5 h,N5 h,if_neg (by omega),if_pos (by omega),if_neg (by omega),if_pos (by omega),if_neg (by omega),if_pos (by omega),if_pos rfl]
  omega
theorem aF2{b b':List Int}{a:Nat}(h:a+4≤b.length)(hl:b'.length=b.length)(hs:∀j,a≤j→j < a+4→bt b' j=bt b j):ld b' a 4=ld b a 4:=by
  rw [ld4 (by omega),ld4 h,hs a (by omega) (by omega),hs (a+1) (by omega) (by omega),hs (a+2) (by omega) (by omega),hs (a+3) (by omega) (by omega)]
def aM9(h:aC)(p:Nat):Prop:=
  if fQ h p < 0 then ∀k,k < 64→bt h.Bytes (p * 64+k)=0
  else ((bt h.Bytes (p * 64)=171∧bt h.Bytes (p * 64+1)=fQ h p∧bt h.Bytes (p * 64+2)=iV (fQ h p))∧(∀k,3≤k→k < 8→bt h.Bytes (p * 64+k)=0)∧∀i,i < (iV (fQ h p)).toNat→1≤ld h.Bytes (p * 64+8+i * (cK (fQ h p)).toNat) 4∧ld h.Bytes (p * 64+8+i * (cK (fQ h p)).toNat) 4≤7)
theorem aSR{h:aC}(hs:oH h){p:Nat}(hp:p < 6){k:Nat}(hk:k < 64):(lG h p).getD k 0=bt h.Bytes (p * 64+k):=by
  rw [←aSJ hs hp hk,aP7 (by have:=hs.1;omega)]
theorem aJO{l:List Int}{x:Int}:x∈l↔∃k,k < l.length∧l.getD k 0=x:=by
  rw [List.mem_iff_getElem]
  constructor
  · rintro⟨k,hk,e⟩
    exact⟨k,hk,by rw [List.getD_eq_getElem?_getD,List.getElem?_eq_getElem hk];exact e⟩
  · rintro⟨k,hk,e⟩
    exact⟨k,hk,by rw [List.getD_eq_getElem?_getD,List.getElem?_eq_getElem hk] at e;exact e⟩
theorem aAY{h:aC}(hs:oH h){p:Nat}(hp:p < 6):BK h p↔aM9 h p:=by
  unfold BK aM9
  have hl:=WV hs hp
  split
  · constructor
    · intro q k hk
      rw [←aSR hs hp hk]
      exact q _ (aJO.2 ⟨k,by omega,rfl⟩)
    · intro q x hx
      obtain⟨k,hk,rfl⟩:=aJO.1 hx
      rw [aSR hs hp (by omega)];exact q k (by omega)
  · rw [aSR hs hp (by omega),aSR hs hp (by omega),aSR hs hp (by omega)]
    have e:(∀x∈((lG h p).drop 3).take 5,x=0)↔∀k,3≤k→k < 8→bt h.Bytes (p * 64+k)=0:=by
      have g:∀j,j < 5→(((lG h p).drop 3).take 5).getD j 0=bt h.Bytes (p * 64+(3+j)):=fun j hj=>by
        rw [←aSR hs hp (by omega),List.getD_eq_getElem?_getD,List.getD_eq_getElem?_getD,List.getElem?_take,if_pos hj,List.getElem?_drop]
      constructor
      · intro q k h3 h8
        have:=q _ (aJO.2 ⟨k - 3,by simp [hl];omega,rfl⟩)
        rw [g _ (by omega)] at this
        rw [show 3+(k - 3)=k by omega] at this;exact this
      · intro q x hx
        obtain⟨k,hk,rfl⟩:=aJO.1 hx
        simp [hl] at hk
        rw [g _ hk];exact q _ (by omega) (by omega)
    rw [e];rfl
theorem aM9.same{h h':aC}{p:Nat}(hp:p < 6)(hs:oH h)(hl:h'.Bytes.length=h.Bytes.length)(hc:fQ h' p=fQ h p)(hb:∀k,k < 64→bt h'.Bytes (p * 64+k)=bt h.Bytes (p * 64+k))(q:aM9 h p):aM9 h' p:=by
  have h1:=hs.1
  unfold aM9 at q ⊢
  rw [hc]
  split
  · rename_i q0;rw [if_pos q0] at q
    exact fun k hk=>by rw [hb k hk];exact q k hk
  · rename_i q0;rw [if_neg q0] at q
    obtain⟨⟨a1,a2,a3⟩,a4,a5⟩:=q
    have b0:=hb 0 (by omega);have b1:=hb 1 (by omega);have b2:=hb 2 (by omega)
    simp only [Nat.add_zero] at b0
    refine⟨⟨by rw [b0];exact a1,by rw [b1];exact a2,by rw [b2];exact a3⟩,fun k k3 k8=>by rw [hb k (by omega)];exact a4 k k3 k8,fun i hi=>?_⟩
    have hz:=K9 hs hp (c:=fQ h p) rfl hi
    rw [aF2 (b:=h.Bytes) (by omega) hl fun j j1 j2=>by
      have:=hb (j - p * 64) (by omega)
      rw [show p * 64+(j - p * 64)=j by omega] at this;exact this]
    exact a5 i hi
theorem WZ{h:aC}{s:Int}(hc:0≤eU h s):∃p i,p < 6∧i < (iV (fQ h p)).toNat∧s=(p:Int) * 4+i∧eU h s=fQ h p∧(sI s (eU h s)).toNat=p * 64+8+i * (cK (fQ h p)).toNat∧(s / 4).toNat=p:=by
  obtain⟨h1,h2,h3⟩:=VV hc
  have hle:=DI (fQ h (s / 4).toNat)
  refine⟨(s / 4).toNat,(s % 4).toNat,by omega,by omega,by omega,h3,?_,rfl⟩
  rw [h3]
  unfold sI
  rw [if_pos ⟨h1,by omega⟩]
  have hst:=(aH2 (fQ h (s / 4).toNat)).1
  have e:s % 4 * cK (fQ h (s / 4).toNat)=(((s % 4).toNat * (cK (fQ h (s / 4).toNat)).toNat:Nat):Int):=by
    rw [Int.natCast_mul,Int.toNat_of_nonneg (by omega),Int.toNat_of_nonneg hst]
  omega
theorem aB7{c:Int}{i j:Nat}(hi:i < (iV c).toNat)(hj:j < (iV c).toNat)(hn:i≠j):i * (cK c).toNat+4≤j * (cK c).toNat∨j * (cK c).toNat+4≤i * (cK c).toNat:=by
  have hc:0≤c∧c≤2:=DJ.1 (by omega)
  have h12:12≤(cK c).toNat:=by rcases sS hc with rfl | rfl | rfl <;> decide
  rcases Nat.lt_or_gt_of_ne hn with q | q
  · left
    have:(i+1) * (cK c).toNat≤j * (cK c).toNat:=Nat.mul_le_mul_right _ q
    rw [Nat.add_mul] at this;omega
  · right
    have:(j+1) * (cK c).toNat≤i * (cK c).toNat:=Nat.mul_le_mul_right _ q
    rw [Nat.add_mul] at this;omega
theorem HOk.a6M{h:aC}(hh:HOk h){s g:Int}(hc:0≤eU h s)(hg:1≤g∧g≤7) :
    HOk ⟨st4 h.Bytes (sI s (eU h s)).toNat g,h.Class⟩∧∀t,0≤eU h t→ED ⟨st4 h.Bytes (sI s (eU h s)).toNat g,h.Class⟩ t=if t=s then g else ED h t:=by
  obtain⟨hs,hp⟩:=hh
  have h384:=hs.1
  have hs':oH ⟨st4 h.Bytes (sI s (eU h s)).toNat g,h.Class⟩:=⟨by rw [TD];exact hs.1,hs.2.1,aVK hs.2.2.1 _ (by omega),hs.2.2.2⟩
  obtain⟨p,i,p6,hi,es,ec,eo,ep⟩:=WZ hc
  have hz:=K9 hs p6 rfl hi
  have h4:=DI (fQ h p)
  refine⟨⟨hs',fun q hq=>?_⟩,fun t ht=>?_⟩
  · rw [aAY hs' hq]
    have hold:=(aAY hs hq).1 (hp q hq)
    by_cases e:q=p
    · subst e
      have hpos:0 < iV (fQ h q):=by omega
      have hcl:¬fQ h q < 0:=by have:=DJ.1 hpos;omega
      unfold aM9 at hold ⊢
      have hcl':fQ ⟨st4 h.Bytes (sI s (eU h s)).toNat g,h.Class⟩ q=fQ h q:=rfl
      rw [hcl']
      rw [if_neg hcl] at hold ⊢
      obtain⟨⟨a1,a2,a3⟩,a4,a5⟩:=hold
      have bs:∀k,k < 8→bt (st4 h.Bytes (sI s (eU h s)).toNat g) (q * 64+k)=bt h.Bytes (q * 64+k):=fun k hk=>by
        rw [N5 (by omega),if_neg (by omega),if_neg (by omega)]
      have b0:=bs 0 (by omega);have b1:=bs 1 (by omega);have b2:=bs 2 (by omega)
      simp only [Nat.add_zero] at b0
      refine⟨⟨by rw [b0];exact a1,by rw [b1];exact a2,by rw [b2];exact a3⟩,fun k k3 k8=>by rw [bs k k8];exact a4 k k3 k8,fun j hj=>?_⟩
      have hzj:=K9 hs p6 rfl hj
      by_cases ej:j=i
      · subst ej
        simp only [eo]
        rw [aWZ (by omega)];exact hg
      · rw [aF2 (b:=h.Bytes) (by omega) (by simp only [TD]) fun k k1 k2=>?_]
        · exact a5 j hj
        · simp only [eo]
          have:=aB7 hi hj (fun q=>ej q.symm)
          rw [N5 (by omega),if_neg (by omega),if_neg (by omega)]
    · refine aM9.same hq hs (by simp only [TD]) rfl (fun k hk=>?_) hold
      rw [N5 (by omega),if_neg (by omega),if_neg (by omega)]
  · have e2:eU ⟨st4 h.Bytes (sI s (eU h s)).toNat g,h.Class⟩ t=eU h t:=rfl
    unfold ED
    rw [e2]
    by_cases e:t=s
    · subst e;rw [if_pos rfl];simp only;rw [aWZ (by omega)]
    · rw [if_neg e]
      obtain⟨p',i',p6',hi',es',ec',eo',ep'⟩:=WZ ht
      have hz':=K9 hs p6' rfl hi'
      rw [aF2 (b:=h.Bytes) (by omega) (by simp only [TD]) fun k k1 k2=>?_]
      simp only
      by_cases ee:p'=p
      · subst ee
        have:=aB7 hi hi' (fun q=>e (by rw [es,es',q]))
        rw [N5 (by omega),if_neg (by omega),if_neg (by omega)]
      · have h4':=DI (fQ h p')
        rw [N5 (by omega),if_neg (by omega),if_neg (by omega)]
theorem aNU{p k:Nat}{c:Int}(hp:p < 6)(hk:(k:Int) < iV c):a2B p k c=p * 64+8+k * (cK c).toNat∧8+k * (cK c).toNat+4≤64:=by
  have hc:0≤c∧c≤2:=DJ.1 (by omega)
  have h1:=aT9 (c:=c) hp hk
  have hle:=DI c
  have e:=h1.1
  unfold sI at e
  rw [if_pos (by omega)] at e
  have e1:((p:Int) * 4+k) / 4=p:=by omega
  have e2:((p:Int) * 4+k) % 4=k:=by omega
  rw [e1,e2] at e
  rcases sS hc with rfl | rfl | rfl
  · rw [show cK 0=12 from rfl] at e ⊢
    rw [show iV 0=4 from rfl] at hk
    rw [show(12:Int).toNat=12 from rfl]
    omega
  · rw [show cK 1=20 from rfl] at e ⊢
    rw [show iV 1=2 from rfl] at hk
    rw [show(20:Int).toNat=20 from rfl]
    omega
  · rw [show cK 2=44 from rfl] at e ⊢
    rw [show iV 2=1 from rfl] at hk
    rw [show(44:Int).toNat=44 from rfl]
    omega
theorem a48{b:List Int}{p:Nat}{c:Int}(hl:b.length=384)(hp:p < 6)(hc:0≤c∧c≤2):∀k:Nat,(k:Int)≤iV c→∀j,(j < p * 64∨p * 64+64≤j→bt (gB b p c k) j=bt b j)∧(3≤j→j < 8→bt (gB b p c k) (p * 64+j)=bt b (p * 64+j))∧bt (gB b p c k) (p * 64)=171∧bt (gB b p c k) (p * 64+1)=c∧bt (gB b p c k) (p * 64+2)=iV c
  | 0, hk, j => by
    have key:∀i,bt (gB b p c 0) i=if i=p * 64+2 then iV c else if i=p * 64+1 then c else if i=p * 64 then 171 else bt b i:=fun i=>by
      unfold gB
      rw [WY (by simp;omega),WY (by simp;omega),WY (by omega)]
    refine⟨fun h=>?_,fun h1 h2=>?_,?_,?_,?_⟩
    · rw [key,if_neg (by omega),if_neg (by omega),if_neg (by omega)]
    · rw [key,if_neg (by omega),if_neg (by omega),if_neg (by omega)]
    · rw [key,if_neg (by omega),if_neg (by omega),if_pos rfl]
    · rw [key,if_neg (by omega),if_pos rfl]
    · rw [key,if_pos rfl]
  | k + 1, hk, j => by
    have ih:=a48 hl hp hc k (by omega)
    have hoff:=aNU (c:=c) hp (by omega:(k:Int) < iV c)
    have hbl:=ZX b p c k
    unfold gB
    refine⟨fun h=>?_,fun h1 h2=>?_,?_,?_,?_⟩
    · rw [N5 (by omega),if_neg (by omega),if_neg (by omega)];exact(ih j).1 h
    · rw [N5 (by omega),if_neg (by omega),if_neg (by omega)];exact(ih j).2.1 h1 h2
    · rw [N5 (by omega),if_neg (by omega),if_neg (by omega)];exact(ih j).2.2.1
    · rw [N5 (by omega),if_neg (by omega),if_neg (by omega)];exact(ih j).2.2.2.1
    · rw [N5 (by omega),if_neg (by omega),if_neg (by omega)];exact(ih j).2.2.2.2
theorem a2D{b:List Int}{p:Nat}{c:Int}(hl:b.length=384)(hp:p < 6):∀k:Nat,(k:Int)≤iV c→∀i,i < k→ld (gB b p c k) (p * 64+8+i * (cK c).toNat) 4=1
  | 0,_,i,h=>absurd h (by omega)
  | k + 1, hk, i, h => by
    have hbl:=ZX b p c k
    have ho:=aNU (c:=c) hp (by omega:(k:Int) < iV c)
    unfold gB
    by_cases e:i=k
    · subst e;rw [←ho.1];exact aWZ (by omega)
    · have hoi:=aNU (c:=c) hp (by omega:(i:Int) < iV c)
      have ha:=aB7 (c:=c) (i:=i) (j:=k) (by omega) (by omega) e
      rw [aF2 (b:=gB b p c k) (by omega) (by rw [TD]) fun j j1 j2=>by rw [N5 (by omega),if_neg (by omega),if_neg (by omega)]]
      exact a2D hl hp k (by omega) i (by omega)
theorem aJP{h:aC}(hs:oH h){B:List Int}{p q:Nat}(hq:q < 6){c:Int}:fQ ⟨B,h.Class.set p c⟩ q=if q=p then c else fQ h q:=by
  have h6:=hs.2.1
  unfold fQ
  rw [List.getD_eq_getElem?_getD,List.getD_eq_getElem?_getD,List.getElem?_set]
  by_cases e:p=q
  · subst e;simp [h6,hq]
  · have e':¬q=p:=fun z=>e z.symm
    simp [e,e']
theorem HOk.a73{h:aC}(hh:HOk h){p:Nat}(hp:p < 6)(hun:fQ h p < 0){c:Int}(hc:0≤c∧c≤2) :
    HOk ⟨gB h.Bytes p c (iV c).toNat,h.Class.set p c⟩∧(∀t,(t / 4).toNat≠p→eU ⟨gB h.Bytes p c (iV c).toNat,h.Class.set p c⟩ t=eU h t)∧(∀t,0≤eU h t→(t / 4).toNat≠p∧ED ⟨gB h.Bytes p c (iV c).toNat,h.Class.set p c⟩ t=ED h t) ∧
      ∀i,i < (iV c).toNat→eU ⟨gB h.Bytes p c (iV c).toNat,h.Class.set p c⟩ ((p:Int) * 4+i)=c∧ED ⟨gB h.Bytes p c (iV c).toNat,h.Class.set p c⟩ ((p:Int) * 4+i)=1:=by
  obtain⟨hs,hpg⟩:=hh
  have h384:=hs.1
  have hle:=DI c
  have hpn:((iV c).toNat:Int)≤iV c:=by omega
  have hb:=a48 h384 hp hc (iV c).toNat hpn
  have hbl:=ZX h.Bytes p c (iV c).toNat
  have hs':oH ⟨gB h.Bytes p c (iV c).toNat,h.Class.set p c⟩:=⟨by simp only [hbl];exact h384,by simp only [List.length_set];exact hs.2.1,aT8 hs.2.2.1 p hc _,fun x hx=>by
    rcases List.mem_or_eq_of_mem_set hx with q | rfl
    · exact hs.2.2.2 x q
    · omega⟩
  have hcls:∀t:Int,(t / 4).toNat≠p→eU ⟨gB h.Bytes p c (iV c).toNat,h.Class.set p c⟩ t=eU h t:=fun t ht=>by
    unfold eU
    by_cases q:0≤t∧t≤23
    · rw [aJP hs (by omega),if_neg ht]
    · rw [if_neg (fun z=>q z.1),if_neg (fun z=>q z.1)]
  refine⟨⟨hs',fun q hq=>?_⟩,hcls,fun t ht=>?_,fun i hi=>?_⟩
  · rw [aAY hs' hq]
    have hold:=(aAY hs hq).1 (hpg q hq)
    by_cases e:q=p
    · subst e
      unfold aM9 at hold ⊢
      rw [if_pos hun] at hold
      rw [aJP hs hq,if_pos rfl,if_neg (by omega)]
      refine⟨(hb 0).2.2,fun k k3 k8=>?_,fun i hi=>?_⟩
      · simp only;rw [(hb k).2.1 k3 k8];exact hold k (by omega)
      · simp only;rw [a2D h384 hp _ hpn i hi];omega
    · refine aM9.same hq hs (by simp only [hbl]) (by rw [aJP hs hq,if_neg e]) (fun k hk=>?_) hold
      exact(hb _).1 (by omega)
  · obtain⟨p',i',p6',hi',es',ec',eo',ep'⟩:=WZ ht
    have hne:(t / 4).toNat≠p:=fun z=>by rw [ec',←ep',z] at ht;omega
    refine⟨hne,?_⟩
    have hz':=K9 hs p6' rfl hi'
    unfold ED
    rw [hcls t hne,aF2 (b:=h.Bytes) (by omega) (by simp only [hbl]) fun k k1 k2=>(hb k).1 (by omega)]
  · have e1:((p:Int) * 4+i) / 4=p:=by omega
    have e2:((p:Int) * 4+i) % 4=i:=by omega
    have ec:eU ⟨gB h.Bytes p c (iV c).toNat,h.Class.set p c⟩ ((p:Int) * 4+i)=c:=by
      unfold eU
      rw [e1,e2,Int.toNat_natCast,aJP hs hp,if_pos rfl,if_pos (by omega)]
    refine⟨ec,?_⟩
    unfold ED
    rw [ec]
    have ho:=aNU (c:=c) hp (by omega:(i:Int) < iV c)
    have:(sI ((p:Int) * 4+i) c).toNat=p * 64+8+i * (cK c).toNat:=ho.1
    rw [this]
    exact a2D h384 hp _ hpn i hi
def LM(m m':Mem)(k:Int):Prop:=G6 m'∧∀s,tW m s=3→s≠k→tW m' s=3∧ED m'.aC s=ED m.aC s∧eU m'.aC s=eU m.aC s
theorem LM.refl{m:Mem}(h:G6 m)(k:Int):LM m m k:=⟨h,fun _ h _=>⟨h,rfl,rfl⟩⟩
theorem LM.live{m m':Mem}{k h:Int}(q:LM m m' k)(hl:FQ m h)(hn:h % 32≠k):FQ m' h:=by
  obtain⟨h1,h2,h3⟩:=hl
  obtain⟨a,b,_⟩:=q.2 _ h2 hn
  exact⟨h1,a,by rw [b];exact h3⟩
theorem Y0{l:List aG}{k j:Nat}(hk:k < l.length){t:aG}:yM (l.set k t) j=if j=k then t.bB else yM l j:=by
  unfold yM
  rw [List.getD_eq_getElem?_getD,List.getD_eq_getElem?_getD,List.getElem?_set]
  by_cases e:k=j
  · subst e;simp [hk]
  · have e':¬j=k:=fun z=>e z.symm
    simp [e,e']
theorem aSS{l:List aG}{k:Nat}(hk:k < l.length){t:aG}(ht:t.bB.Sublist l[k].bB):(jH (l.set k t)).Sublist (jH l):=by
  rw [V5 hk,TZ hk]
  exact(List.Sublist.refl _).append (ht.append (List.Sublist.refl _))
theorem aJQ{l:List aG}{k:Nat}(hk:k < l.length){xs:List Int}{s:Int}:s∈jH (l.set k ⟨l[k].bB++xs⟩)↔s∈jH l∨s∈xs:=by
  rw [V5 hk,TZ hk]
  simp only [List.mem_append]
  constructor
  · rintro(h | (h | h) | h)
    · exact .inl (.inl h)
    · exact .inl (.inr (.inl h))
    · exact .inr h
    · exact .inl (.inr (.inr h))
  · rintro((h | h | h) | h)
    · exact .inl h
    · exact .inr (.inl (.inl h))
    · exact .inr (.inr h)
    · exact .inr (.inl (.inr h))
theorem aE7{l:List aG}{k:Nat}(hk:k < l.length){xs r q:List Int}(h:(q++(jH l++r)).Nodup)(hx:xs.Nodup)(hd:∀x∈xs,x∉q++(jH l++r)):(q++(jH (l.set k ⟨l[k].bB++xs⟩)++r)).Nodup:=by
  have hp:(q++(jH (l.set k ⟨l[k].bB++xs⟩)++r)).Perm (xs++(q++(jH l++r))):=by
    rw [V5 hk,TZ hk]
    have e1:q++(jH (l.take k)++(l[k].bB++xs++jH (l.drop (k+1)))++r)=(q++jH (l.take k)++l[k].bB)++(xs++(jH (l.drop (k+1))++r)):=by simp
    have e2:xs++(q++(jH (l.take k)++(l[k].bB++jH (l.drop (k+1)))++r))=xs++((q++jH (l.take k)++l[k].bB)++(jH (l.drop (k+1))++r)):=by simp
    rw [e1,e2]
    exact List.perm_append_comm_assoc _ _ _
  rw [hp.nodup_iff,List.nodup_append]
  exact⟨hx,h,fun a ha b hb e=>hd a ha (e ▸ hb)⟩
theorem H0{m:Mem}{s:Int}:tW m s=3↔0≤eU m.aC s∧s∉jW m.aB∧ED m.aC s≤6:=by
  unfold tW
  constructor
  · intro h
    split at h
    · omega
    · split at h
      · omega
      · split at h
        · omega
        · exact⟨by omega,by assumption,by omega⟩
  · rintro⟨a,b,c⟩
    rw [if_neg (by omega),if_neg b,if_neg (by omega)]
noncomputable section
variable {m:Mem} (hm:G6 m)
include hm
theorem G6.a6N{k:Nat}(hk:k < 9){t:aG}(ht:t.bB.Sublist (yM m.aB.bA k)):LM m ⟨m.aC,⟨m.aB.Global,m.aB.bA.set k t⟩⟩ (-1):=by
  obtain⟨⟨hh,h3,h9,h2,hr,hn⟩,hg,ho⟩:=hm
  have hk':k < m.aB.bA.length:=by omega
  have ht':t.bB.Sublist m.aB.bA[k].bB:=by rw [rN hk'];exact ht
  have hsub:(jW ⟨m.aB.Global,m.aB.bA.set k t⟩).Sublist (jW m.aB):=(List.Sublist.refl _).append (aSS hk' ht')
  refine⟨⟨⟨hh,h3,by simpa using h9,fun s hs=>?_,fun x hx=>hr x (hsub.subset hx),hsub.nodup hn⟩,hg,fun j hj=>?_⟩,fun s hs _=>⟨?_,rfl,rfl⟩⟩
  · rcases List.mem_or_eq_of_mem_set hs with q | rfl
    · exact h2 s q
    · have:=ht'.length_le;have:=h2 _ (List.getElem_mem hk');omega
  · unfold QQ
    simp only [Y0 hk']
    split
    · rename_i e;subst e
      exact fun x hx=>ho j hj x (ht.subset hx)
    · exact ho j hj
  · rw [H0] at hs ⊢
    exact⟨hs.1,fun q=>hs.2.1 (hsub.subset q),hs.2.2⟩
theorem G6.aY9{k:Nat}(hk:k < 3){t:aG}(ht:t.bB.Sublist (yM m.aB.Global k)):LM m ⟨m.aC,⟨m.aB.Global.set k t,m.aB.bA⟩⟩ (-1):=by
  obtain⟨⟨hh,h3,h9,h2,hr,hn⟩,hg,ho⟩:=hm
  have hk':k < m.aB.Global.length:=by omega
  have ht':t.bB.Sublist m.aB.Global[k].bB:=by rw [rN hk'];exact ht
  have hsub:(jW ⟨m.aB.Global.set k t,m.aB.bA⟩).Sublist (jW m.aB):=(aSS hk' ht').append (List.Sublist.refl _)
  refine⟨⟨⟨hh,by simpa using h3,h9,h2,fun x hx=>hr x (hsub.subset hx),hsub.nodup hn⟩,fun j hj=>?_,ho⟩,fun s hs _=>⟨?_,rfl,rfl⟩⟩
  · unfold X3
    simp only [Y0 hk']
    split
    · rename_i e;subst e
      exact fun x hx=>hg j hj x (ht.subset hx)
    · exact hg j hj
  · rw [H0] at hs ⊢
    exact⟨hs.1,fun q=>hs.2.1 (hsub.subset q),hs.2.2⟩
theorem G6.a4E{k:Nat}(hk:k < 9){xs:List Int}(hl:(yM m.aB.bA k).length+xs.length≤2)(hx:xs.Nodup)(hf:QP m.aC xs ((k % 3:Nat):Int))(hd:∀x∈xs,x∉jW m.aB)(hk':k < m.aB.bA.length) :
    G6 ⟨m.aC,⟨m.aB.Global,m.aB.bA.set k ⟨m.aB.bA[k].bB++xs⟩⟩⟩∧∀s,s∉xs→tW m s=3→tW ⟨m.aC,⟨m.aB.Global,m.aB.bA.set k ⟨m.aB.bA[k].bB++xs⟩⟩⟩ s=3:=by
  obtain⟨⟨hh,h3,h9,h2,hr,hn⟩,hg,ho⟩:=hm
  have hmem:∀s,s∈jW ⟨m.aB.Global,m.aB.bA.set k ⟨m.aB.bA[k].bB++xs⟩⟩↔s∈jW m.aB∨s∈xs:=fun s=>by
    unfold jW;simp only [List.mem_append,aJQ hk'];rw [or_assoc]
  have hcl:∀x∈xs,0≤x∧x≤23:=fun x h=>by
    have:=(hf x h).1
    exact(VV (h:=m.aC) (s:=x) (by omega)).1
  refine⟨⟨⟨hh,h3,by simpa using h9,fun s hs=>?_,fun x hx=>?_,?_⟩,hg,fun j hj=>?_⟩,fun s hs h3=>?_⟩
  · rcases List.mem_or_eq_of_mem_set hs with q | rfl
    · exact h2 s q
    · rw [←rN hk'] at hl;simpa using hl
  · rcases(hmem x).1 hx with q | q
    · exact hr x q
    · exact hcl x q
  · have:=aE7 (q:=jH m.aB.Global) (r:=[]) hk' (by simpa [jW] using hn) hx (by simpa [jW] using hd)
    simpa [jW] using this
  · unfold QQ
    simp only [Y0 hk']
    split
    · rename_i e;subst e
      intro x hx
      rcases List.mem_append.1 hx with q | q
      · rw [rN hk'] at q;exact ho j hj x q
      · exact hf x q
    · exact ho j hj
  · rw [H0] at h3 ⊢
    exact⟨h3.1,fun q=>(((hmem s).1 q).elim h3.2.1 hs),h3.2.2⟩
theorem G6.aP8{k:Nat}(hk:k < 3){xs:List Int}(hx:xs.Nodup)(hf:QP m.aC xs (k:Int))(hd:∀x∈xs,x∉jW m.aB)(hk':k < m.aB.Global.length) :
    G6 ⟨m.aC,⟨m.aB.Global.set k ⟨m.aB.Global[k].bB++xs⟩,m.aB.bA⟩⟩∧∀s,s∉xs→tW m s=3→tW ⟨m.aC,⟨m.aB.Global.set k ⟨m.aB.Global[k].bB++xs⟩,m.aB.bA⟩⟩ s=3:=by
  obtain⟨⟨hh,h3,h9,h2,hr,hn⟩,hg,ho⟩:=hm
  have hmem:∀s,s∈jW ⟨m.aB.Global.set k ⟨m.aB.Global[k].bB++xs⟩,m.aB.bA⟩↔s∈jW m.aB∨s∈xs:=fun s=>by
    unfold jW;simp only [List.mem_append,aJQ hk'];rw [or_right_comm]
  have hcl:∀x∈xs,0≤x∧x≤23:=fun x h=>by
    have:=(hf x h).1
    exact(VV (h:=m.aC) (s:=x) (by omega)).1
  refine⟨⟨⟨hh,by simpa using h3,h9,h2,fun x hx=>?_,?_⟩,fun j hj=>?_,ho⟩,fun s hs h3=>?_⟩
  · rcases(hmem x).1 hx with q | q
    · exact hr x q
    · exact hcl x q
  · have:=aE7 (q:=[]) (r:=jH m.aB.bA) hk' (by simpa [jW] using hn) hx (by simpa [jW] using hd)
    simpa [jW] using this
  · unfold X3
    simp only [Y0 hk']
    split
    · rename_i e;subst e
      intro x hx
      rcases List.mem_append.1 hx with q | q
      · rw [rN hk'] at q;exact hg j hj x q
      · exact hf x q
    · exact hg j hj
  · rw [H0] at h3 ⊢
    exact⟨h3.1,fun q=>(((hmem s).1 q).elim h3.2.1 hs),h3.2.2⟩
theorem G6.UO{x:Int}(hx:x∈jW m.aB):0≤eU m.aC x∧ED m.aC x≤6:=by
  obtain⟨⟨hh,h3,h9,h2,hr,hn⟩,hg,ho⟩:=hm
  have key:∀(l:List aG),x∈jH l→∃k,k < l.length∧x∈yM l k:=fun l h=>by
    obtain⟨s,h1,h2⟩:=aF1.1 h
    obtain⟨k,hk,rfl⟩:=List.mem_iff_getElem.1 h1
    exact⟨k,hk,by rw [←rN hk];exact h2⟩
  rcases List.mem_append.1 hx with q | q
  · obtain⟨k,hk,h⟩:=key _ q
    have:=hg k (by omega) x h
    exact⟨by omega,this.2⟩
  · obtain⟨k,hk,h⟩:=key _ q
    have:=ho k (by omega) x h
    exact⟨by omega,this.2⟩
theorem G6.heap{h':aC}(hh:HOk h')(hs:∀x∈jW m.aB,eU h' x=eU m.aC x∧ED h' x=ED m.aC x):G6 ⟨h',m.aB⟩:=by
  obtain⟨⟨_,hl⟩,hg,ho⟩:=hm
  have key:∀(l:List aG) k x,x∈yM l k→x∈jH l:=fun l k x h=>by
    unfold yM at h
    rw [List.getD_eq_getElem?_getD] at h
    cases hk:l[k]? with
    | none=>rw [hk] at h;simp at h
    | some s=>rw [hk] at h;exact aF1.2 ⟨s,List.mem_of_getElem? hk,h⟩
  refine⟨⟨hh,hl⟩,fun k hk x hx=>?_,fun k hk x hx=>?_⟩
  · obtain⟨a,b⟩:=hs x (List.mem_append_left _ (key _ k x hx))
    show eU h' x=_∧ED h' x≤6
    rw [a,b];exact hg k hk x hx
  · obtain⟨a,b⟩:=hs x (List.mem_append_right _ (key _ k x hx))
    show eU h' x=_∧ED h' x≤6
    rw [a,b];exact ho k hk x hx
theorem G6.a8R{s g:Int}(hu:tW m s=3)(hg:1≤g∧g≤7):LM m ⟨⟨st4 m.aC.Bytes (sI s (eU m.aC s)).toNat g,m.aC.Class⟩,m.aB⟩ s∧ED ⟨st4 m.aC.Bytes (sI s (eU m.aC s)).toNat g,m.aC.Class⟩ s=g:=by
  have hu':=H0.1 hu
  obtain⟨a,b⟩:=HOk.a6M hm.1.1 hu'.1 hg
  refine⟨⟨G6.heap hm a fun x hx=>⟨rfl,?_⟩,fun t ht hn=>?_⟩,by rw [b s hu'.1,if_pos rfl]⟩
  · rw [b x (G6.UO hm hx).1,if_neg (show ¬x=s from fun e=>hu'.2.1 (e ▸ hx))]
  · have ht':=H0.1 ht
    have e:ED ⟨st4 m.aC.Bytes (sI s (eU m.aC s)).toNat g,m.aC.Class⟩ t=ED m.aC t:=by rw [b t ht'.1,if_neg hn]
    exact⟨H0.2 ⟨ht'.1,ht'.2.1,by simp only [e];exact ht'.2.2⟩,e,rfl⟩
theorem G6.a74{p:Nat}(hp:p < 6)(hun:fQ m.aC p < 0){c:Int}(hc:0≤c∧c≤2){xs:List Int}(hxs:∀x∈xs,∃i,i < (iV c).toNat∧x=(p:Int) * 4+(i:Nat))(hx:xs.Nodup)(hk':c.toNat < m.aB.Global.length) :
    LM m ⟨⟨gB m.aC.Bytes p c (iV c).toNat,m.aC.Class.set p c⟩,⟨m.aB.Global.set c.toNat ⟨m.aB.Global[c.toNat].bB++xs⟩,m.aB.bA⟩⟩ (-1):=by
  obtain⟨a,b,d,e⟩:=HOk.a73 hm.1.1 hp hun hc
  have h1:G6 ⟨⟨gB m.aC.Bytes p c (iV c).toNat,m.aC.Class.set p c⟩,m.aB⟩:=G6.heap hm a fun x hx=>by
    obtain⟨q,r⟩:=d x (G6.UO hm hx).1
    exact⟨b x q,r⟩
  have hno:∀x∈xs,¬0≤eU m.aC x:=fun x h q=>by
    obtain⟨i,hi,rfl⟩:=hxs x h
    have h4:=DI c
    exact(d _ q).1 (by omega)
  obtain⟨f,g⟩:=G6.aP8 h1 (k:=c.toNat) (by omega) hx (fun x h=>by
    obtain⟨i,hi,rfl⟩:=hxs x h
    have:=e i hi
    exact⟨by simp only [this.1];omega,by simp only [this.2];omega⟩) (fun x h q=>hno x h (G6.UO hm q).1) hk'
  refine⟨f,fun s hs _=>?_⟩
  have hs':=H0.1 hs
  obtain⟨q,r⟩:=d s hs'.1
  have h2:tW ⟨⟨gB m.aC.Bytes p c (iV c).toNat,m.aC.Class.set p c⟩,m.aB⟩ s=3:=H0.2 ⟨by simp only [b s q];exact hs'.1,hs'.2.1,by simp only [r];exact hs'.2.2⟩
  exact⟨g s (fun h=>hno s h hs'.1) h2,r,b s q⟩
end
end Go.Gv
end
noncomputable section
set_option linter.unusedVariables false
set_option linter.unusedSimpArgs false
set_option linter.unusedSectionVars false
namespace Go.Gv
theorem a6O{p n:Nat}{x:Int}(h:x∈gS p n):∃i,i < n∧x=(p:Int) * 4+(i:Nat):=by
  simp only [gS,List.mem_map,List.mem_range] at h
  obtain⟨i,h1,h2⟩:=h
  exact⟨i,h1,h2.symm⟩
theorem a2E(p n:Nat):(gS p n).Nodup:=by
  unfold gS
  rw [List.Nodup,List.pairwise_map]
  exact List.Pairwise.imp (fun h e=>h (by omega)) (List.nodup_range (n:=n))
theorem a2F{m:Mem}(hm:G6 m){c:Int}(hc:0≤c∧c≤2) :
    ∃m' s,U8 m c=some (m',s)∧VK m c=some (m',s)∧N4 m'∧(0≤s→oH m'.aC∧0≤eU m'.aC s)∧LM m m' (-1):=by
  have hl:=hm.1.2
  have hcnt:=hl.count
  have hs:=hm.1.1.1
  have hsl:=hl.aLX (by omega)
  have hp4:=DI c
  have hpp:0 < iV c:=DJ.2 hc
  have hall:=wH m.aB
  have hsG:∀s∈m.aB.Global,s.bB.length≤24:=fun s h=>by have:=zT h;omega
  have hsO:∀s∈m.aB.bA,s.bB.length≤24:=fun s h=>by have:=zT h;omega
  have h3:=hl.1
  have h9:=hl.2.1
  have hcpl:=ZU (l:=m.aB) (by omega) (by omega) (fun s h=>by have:=hsG s h;omega) (fun s h=>by have:=hsO s h;omega)
  unfold U8 VK
  rcases a2C hm.1.1 hc with ⟨e1,e2⟩ | ⟨p,hp,hun,e1,e2⟩
  · rw [e1,e2,hcpl]
    have h1:=hs.1;have h2:=hs.2.1
    exact⟨_,_,rfl,rfl,⟨by simp only;omega,by simp only;omega,by simp only;omega,by simp only;omega,by simp only;omega⟩,fun h=>absurd h (by omega),LM.refl hm _⟩
  · rw [e1,e2,hcpl]
    simp only [Option.bind_some,UM,UL,UH,aP6]
    have hn:(((iV c).toNat:Int) == 0)=false:=by simpa using (by omega:¬((iV c).toNat:Int)=0)
    have hk:c.toNat < m.aB.Global.length:=by omega
    have hg0:=hsG _ (List.getElem_mem hk)
    have hx:idx m.aB.Global c=some m.aB.Global[c.toNat]:=FO hc.1 (by omega)
    have hz:idx (gS p (iV c).toNat) 0=some ((p:Int) * 4):=by
      have:=aT (l:=gS p (iV c).toNat) (k:=0) (by rw [aP6];omega)
      rw [show((0:Nat):Int)=0 from rfl] at this
      rw [this];simp [gS]
    have hlen:(List.drop (1:Int).toNat (List.take (iV c).toNat (gS p (iV c).toNat))).length≤4:=by simp [aP6];omega
    simp only [hn,Bool.false_eq_true,if_false,hx,Option.bind_some,hz]
    rw [aO (by omega),aO (by omega)]
    have hcl:fQ ⟨gB m.aC.Bytes p c (iV c).toNat,m.aC.Class.set p c⟩ p=c:=by
      have h6:=hs.2.1
      unfold fQ;simp [List.getD_eq_getElem?_getD,List.getElem?_set,h6,hp]
    refine⟨_,_,rfl,rfl,⟨by simp only [ZX];have:=hs.1;omega,by simp only [List.length_set];have:=hs.2.1;omega,by simp only [List.length_set];omega,by simp only;omega,?_⟩,fun _=>⟨⟨by simp only [ZX];exact hs.1,by simp only [List.length_set];exact hs.2.1,aT8 hs.2.2.1 p hc _,fun x hx=>?_⟩,?_⟩,?_⟩
    · rw [wH];simp only [aH4 hk];omega
    · rcases List.mem_or_eq_of_mem_set hx with h | rfl
      · exact hs.2.2.2 x h
      · omega
    · unfold eU
      have e4:((p:Int) * 4 / 4).toNat=p:=by omega
      rw [e4]
      simp only [hcl]
      rw [if_pos ⟨by omega,by omega⟩];exact hc.1
    · exact G6.a74 hm hp hun hc (fun x hx=>a6O (List.mem_of_mem_take (List.mem_of_mem_drop hx))) ((a2E p _).sublist ((List.drop_sublist _ _).trans (List.take_sublist _ _))) hk
theorem aW0(n:Int):∃c,U7 n=some c∧VI n=some c∧(c = -1∨(0≤c∧c≤2)):=by
  have s1:∀k,0≤k∧k≤2→vR n k=some (if 1≤n∧n≤BJ k then .stop (Out.ret k) else .next (k+1)):=fun k hk=>by
    simp only [vR]
    rw [if_pos (by simp;omega),WS,Option.bind_some,fP,Option.bind_some,aZ (by omega) (by omega)]
    by_cases q:1≤n∧n≤BJ k
    · rw [decide_eq_true q,if_pos rfl,if_pos q]
    · rw [decide_eq_false q,if_neg (by simp),if_neg q]
  have s2:∀k,0≤k∧k≤2→vU n k=some (if 1≤n∧n≤BJ k then .stop (Out.ret k) else .next (k+1)):=fun k hk=>by
    simp only [vU,NG]
    rw [if_pos (by simp;omega),aEW,Option.bind_some,aZ (by omega) (by omega)]
    by_cases q1:1≤n
    · by_cases q2:n≤BJ k <;> simp [q1,q2]
    · simp [q1]
  have st:∀k,0≤k∧k≤2→1≤n∧n≤BJ k→loop (vR n) k=some (Out.ret k)∧loop (vU n) k=some (Out.ret k):=fun k hk h=>
    ⟨cX (by rw [s1 k hk,if_pos h]),cX (by rw [s2 k hk,if_pos h])⟩
  have nx:∀k,0≤k∧k≤2→¬(1≤n∧n≤BJ k)→loop (vR n) k=loop (vR n) (k+1)∧loop (vU n) k=loop (vU n) (k+1):=fun k hk h=>
    ⟨cO (by rw [s1 k hk,if_neg h]),cO (by rw [s2 k hk,if_neg h])⟩
  unfold U7 VI
  by_cases q0:1≤n∧n≤BJ 0
  · have:=st 0 (by omega) q0
    rw [this.1,this.2];exact⟨_,rfl,rfl,.inr (by omega)⟩
  · have h0:=nx 0 (by omega) q0
    rw [h0.1,h0.2,show(0:Int)+1=1 from rfl]
    by_cases q1:1≤n∧n≤BJ 1
    · have:=st 1 (by omega) q1
      rw [this.1,this.2];exact⟨_,rfl,rfl,.inr (by omega)⟩
    · have h1:=nx 1 (by omega) q1
      rw [h1.1,h1.2,show(1:Int)+1=2 from rfl]
      by_cases q2:1≤n∧n≤BJ 2
      · have:=st 2 (by omega) q2
        rw [this.1,this.2];exact⟨_,rfl,rfl,.inr (by omega)⟩
      · have h2:=nx 2 (by omega) q2
        rw [h2.1,h2.2,show(2:Int)+1=3 from rfl,cX (body:=vR n) (r:=Out.brk ()) (by simp [vR]),cX (body:=vU n) (r:=Out.brk ()) (by simp [vU])]
        exact⟨_,rfl,rfl,.inl rfl⟩
theorem a2G{s:aG}(hl:s.bB.length≤1048576):∃t x,NW s=some (t,x)∧JR s=some (x,t)∧t.bB.length≤s.bB.length∧(0≤x→x∈s.bB)∧t.bB.Sublist s.bB:=by
  unfold NW JR ZE
  rw [aZ (by omega) (by omega)]
  by_cases q:s.bB.length=0
  · rw [if_pos (by simpa using q),if_pos (by simp;omega)]
    exact⟨_,_,rfl,rfl,Nat.le_refl _,fun h=>absurd h (by omega),List.Sublist.refl _⟩
  · have hx:idx s.bB ((s.bB.length:Int) - 1)=some (s.bB[s.bB.length - 1]'(by omega)):=by
      rw [show((s.bB.length:Int) - 1)=((s.bB.length - 1:Nat):Int) by omega,aT (by omega)]
    rw [if_neg (by simpa using q),if_neg (by simp;omega),aO (by omega),hx]
    simp only [Option.bind_some]
    rw [aO (by omega)]
    exact⟨_,_,rfl,rfl,by simp,fun _=>List.getElem_mem _,(List.drop_sublist _ _).trans (List.take_sublist _ _)⟩
theorem aJR{w c:Int}(hw:0≤w∧w≤2)(hc:0≤c∧c≤2):JJ w c=some (w * 3+c)∧WK w c=some (w * 3+c):=by
  have e:aI (aI (w * 3)+c)=w * 3+c:=by rw [aZ (x:=w * 3) (by omega) (by omega),aZ (by omega) (by omega)]
  constructor
  · unfold JJ L4;rw [fP,fP,decide_eq_true hw,decide_eq_true hc,e];rfl
  · unfold WK S5;rw [nO,vW,decide_eq_true hw,decide_eq_true hc,e];rfl
theorem aP9{l:List aG}{k:Nat}(hk:k < l.length){t:aG}(ht:t.bB.length≤l[k].bB.length):(jH (l.set k t)).length≤(jH l).length:=by
  rw [V5 hk,TZ hk];simp;omega
noncomputable section
variable {m:Mem} (hm:G6 m)
include hm
theorem G6.facts:(jW m.aB).length≤24∧m.aB.Global.length=3∧m.aB.bA.length=9∧m.aC.Bytes.length=384∧m.aC.Class.length=6∧N4 m∧sT m.aB=some m.aB∧w6 m.aB=some true ∧
    (∀s∈m.aB.Global,s.bB.length≤24)∧(∀s∈m.aB.bA,s.bB.length≤24):=by
  have hl:=hm.1.2
  have hcnt:=hl.count
  have hall:=wH m.aB
  have hsG:∀s∈m.aB.Global,s.bB.length≤24:=fun s h=>by have:=zT h;omega
  have hsO:∀s∈m.aB.bA,s.bB.length≤24:=fun s h=>by have:=zT h;omega
  have h3:=hl.1;have h9:=hl.2.1
  have h1:=hm.1.1.1.1;have h2:=hm.1.1.1.2.1
  refine⟨hcnt,h3,h9,h1,h2,⟨by omega,by omega,by omega,by omega,by omega⟩,ZU (by omega) (by omega) (fun s h=>by have:=hsG s h;omega) (fun s h=>by have:=hsO s h;omega),by rw [aDG (by omega),decide_eq_true hl],hsG,hsO⟩
theorem aW1{w c:Int}(hw:0≤w∧w≤2)(hc:0≤c∧c≤2) :
    ∃l t x,idx m.aB.bA (w * 3+c)=some l∧NW l=some (t,x)∧VJ m.aB w c=some (⟨m.aB.Global,m.aB.bA.set (w * 3+c).toNat t⟩,x) ∧
      N4 ⟨m.aC,⟨m.aB.Global,m.aB.bA.set (w * 3+c).toNat t⟩⟩∧(0≤x→0≤eU m.aC x)∧LM m ⟨m.aC,⟨m.aB.Global,m.aB.bA.set (w * 3+c).toNat t⟩⟩ (-1):=by
  obtain⟨hcnt,h3,h9,h1,h2,hsm,hcp,hlo,hsG,hsO⟩:=G6.facts hm
  have hk:(w * 3+c).toNat < m.aB.bA.length:=by omega
  have hx:idx m.aB.bA (w * 3+c)=some m.aB.bA[(w * 3+c).toNat]:=FO (by omega) (by omega)
  have h24:=hsO _ (List.getElem_mem hk)
  obtain⟨t,x,e1,e2,ht,hmem,hsub⟩:=a2G (s:=m.aB.bA[(w * 3+c).toNat]) (by omega)
  have hall:=wH m.aB
  refine⟨_,t,x,hx,e1,?_,⟨by simp only;omega,by simp only;omega,by simp only;omega,by simp only [List.length_set];omega,?_⟩,fun h0=>?_,G6.a6N hm (by omega) (by rw [←rN hk];exact hsub)⟩
  · unfold VJ NH
    rw [hcp,(aJR hw hc).2,hlo]
    simp only [Option.bind_some,Bool.not_true,Bool.false_eq_true,if_false]
    rw [decide_eq_false (by omega),if_neg (by simp),hx,Option.bind_some,e2];rfl
  · have:=aP9 hk ht
    rw [wH];simp only;omega
  · have:=hm.2.2 (w * 3+c).toNat (by omega) x (by rw [←rN hk];exact hmem h0)
    omega
theorem aRT{c:Int}(hc:0≤c∧c≤2) :
    ∃l t x,idx m.aB.Global c=some l∧NW l=some (t,x)∧NI m.aB c=some (⟨m.aB.Global.set c.toNat t,m.aB.bA⟩,x) ∧
      N4 ⟨m.aC,⟨m.aB.Global.set c.toNat t,m.aB.bA⟩⟩∧(0≤x→0≤eU m.aC x)∧LM m ⟨m.aC,⟨m.aB.Global.set c.toNat t,m.aB.bA⟩⟩ (-1):=by
  obtain⟨hcnt,h3,h9,h1,h2,hsm,hcp,hlo,hsG,hsO⟩:=G6.facts hm
  have hk:c.toNat < m.aB.Global.length:=by omega
  have hx:idx m.aB.Global c=some m.aB.Global[c.toNat]:=FO (by omega) (by omega)
  have h24:=hsG _ (List.getElem_mem hk)
  obtain⟨t,x,e1,e2,ht,hmem,hsub⟩:=a2G (s:=m.aB.Global[c.toNat]) (by omega)
  have hall:=wH m.aB
  refine⟨_,t,x,hx,e1,?_,⟨by simp only;omega,by simp only;omega,by simp only [List.length_set];omega,by simp only;omega,?_⟩,fun h0=>?_,G6.aY9 hm (by omega) (by rw [←rN hk];exact hsub)⟩
  · unfold NI GS
    rw [hcp,hlo,vW,decide_eq_true hc]
    simp only [Option.bind_some,Bool.not_true,Bool.false_eq_true,if_false]
    rw [hx,Option.bind_some,e2];rfl
  · have:=aP9 hk ht
    rw [wH];simp only;omega
  · have:=hm.2.1 c.toNat (by omega) x (by rw [←rN hk];exact hmem h0)
    omega
theorem a4F{w h:Int}(hw:0≤w∧w≤2)(hv:FQ m h):∃m',YL m w (h % 32)=some m'∧aBU m w h=some m'∧N4 m'∧LM m m' (h % 32):=by
  obtain⟨hcnt,h3,h9,h1,h2,hsm,hcp,hlo,hsG,hsO⟩:=G6.facts hm
  have hs:=hm.1.1.1
  have hh:=hv.1
  have hhm:=hh.mod
  have hcl:=YY hv.2.1
  have hgo:=aB5 hcl
  have hc2:0≤eU m.aC (h % 32)∧eU m.aC (h % 32)≤2:=by
    obtain⟨_,q,e⟩:=VV hcl
    rw [e];exact DJ.1 (by omega)
  have hg6:1≤h / 32∧h / 32≤6:=by unfold EE at hh;omega
  have hbl:m.aC.Bytes.length≤maxLen:=by rw [h1];simp [maxLen]
  have hnot:h % 32∉jW m.aB:=fun q=>by
    have:=hv.2.1;unfold tW at this;rw [if_neg (by omega),if_pos q] at this;omega
  have hcpH:=aB6 (h:=m.aC) (by omega) (by omega)
  have eo:sI (h % 32) (eU m.aC (h % 32))=(((sI (h % 32) (eU m.aC (h % 32))).toNat:Nat):Int):=by omega
  have ew:aI (h / 32+1)=h / 32+1:=aZ (by omega) (by omega)
  have ed:aI (Int.tdiv h 32)=h / 32:=by rw [TY (by unfold EE at hh;omega),aZ (by omega) (by omega)]
  have hall:=wH m.aB
  obtain⟨hr1,hr2⟩:=G6.a8R hm hv.2.1 (g:=h / 32+1) (by omega)
  have hu:=H0.1 hv.2.1
  unfold YL aBU aEI GM
  rw [hhm.1,C2 hs,hcpH,QO hbl,decide_eq_true hs,y8 hs,ed,ew,hcp]
  simp only [Option.bind_some,Bool.not_true,Bool.false_eq_true,if_false,WM,P8,WL]
  rw [MP hs hcl,hv.2.2,kD,decide_eq_false (show ¬eU m.aC (h % 32) < 0 by omega),decide_eq_true (show 1≤h / 32+1∧h / 32+1≤7 by omega)]
  simp only [Option.bind_some,Bool.not_true,Bool.false_eq_true,if_false,MN,MO,ew]
  generalize hgn:(sI (h % 32) (eU m.aC (h % 32))).toNat=a at eo
  rw [hgn] at hr1 hr2
  rw [eo,aDM (by omega) (by omega) (by omega),aG7 (by omega)]
  simp only [Option.bind_some]
  rw [aE6 (by omega) (by omega) (by omega)]
  simp only [Option.bind_some,WG,ZL,ed,ew,hhm.1]
  by_cases q:h / 32+1≤6
  · have hk:(w * 3+eU m.aC (h % 32)).toNat < m.aB.bA.length:=by omega
    have hx:idx m.aB.bA (w * 3+eU m.aC (h % 32))=some m.aB.bA[(w * 3+eU m.aC (h % 32)).toNat]:=FO (by omega) (by omega)
    have hk2:(eU m.aC (h % 32)).toNat < m.aB.Global.length:=by omega
    have hx2:idx m.aB.Global (eU m.aC (h % 32))=some m.aB.Global[(eU m.aC (h % 32)).toNat]:=FO (by omega) (by omega)
    have b1:=hsO _ (List.getElem_mem hk)
    have b2:=hsG _ (List.getElem_mem hk2)
    rw [decide_eq_true q,if_pos rfl,if_pos rfl]
    unfold aEA aKT K3
    rw [y8 hs,Option.bind_some,hcp,(aJR hw hc2).1,(aJR hw hc2).2,hlo,J1,decide_eq_true (show 0≤h % 32∧h % 32≤23 by omega),aE4 (by omega) (by simp only [maxLen];omega) (by simp only [maxLen];omega),decide_eq_false hnot]
    simp only [Option.bind_some,Bool.not_true,Bool.false_eq_true,if_false,hx,hx2]
    have nz:¬w * 3+eU m.aC (h % 32) < 0:=by omega
    simp only [decide_eq_false nz,Bool.false_eq_true,if_false]
    by_cases q2:m.aB.bA[(w * 3+eU m.aC (h % 32)).toNat].bB.length < 2
    · have y1:(m.aB.bA[(w * 3+eU m.aC (h % 32)).toNat].bB.length:Int) < 2:=by omega
      have y2:¬(2:Int)≤m.aB.bA[(w * 3+eU m.aC (h % 32)).toNat].bB.length:=by omega
      simp only [decide_eq_true y1,decide_eq_false y2,Bool.false_eq_true,if_false,if_true]
      rw [aO (by simp;omega),aO (by simp;omega)]
      refine⟨_,rfl,rfl,⟨by simp only [TD];omega,by simp only;omega,by simp only;omega,by simp only [List.length_set];omega,?_⟩,?_⟩
      · rw [wH];simp only [aH4 hk];simp;omega
      · have hmod:((w * 3+eU m.aC (h % 32)).toNat % 3:Nat)=(eU m.aC (h % 32)).toNat:=by omega
        obtain⟨z1,z2⟩:=G6.a4E hr1.1 (k:=(w * 3+eU m.aC (h % 32)).toNat) (by omega) (xs:=[h % 32]) (by simp only [←rN hk,List.length_cons,List.length_nil];omega) (by simp) (fun x hx=>by
          simp at hx;subst hx
          exact⟨by rw [hmod];show eU m.aC (h % 32)=_;omega,by rw [hr2];omega⟩) (fun x hx=>by simp at hx;subst hx;exact hnot) hk
        refine⟨z1,fun s h1 h2=>?_⟩
        obtain⟨y1,y2,y3⟩:=hr1.2 s h1 h2
        exact⟨z2 s (by simpa using h2) y1,y2,y3⟩
    · have y1:¬(m.aB.bA[(w * 3+eU m.aC (h % 32)).toNat].bB.length:Int) < 2:=by omega
      have y2:(2:Int)≤m.aB.bA[(w * 3+eU m.aC (h % 32)).toNat].bB.length:=by omega
      simp only [decide_eq_true y2,decide_eq_false y1,Bool.false_eq_true,if_false,if_true]
      rw [aO (by simp;omega),aO (by simp;omega)]
      refine⟨_,rfl,rfl,⟨by simp only [TD];omega,by simp only;omega,by simp only [List.length_set];omega,by simp only;omega,?_⟩,?_⟩
      · rw [wH];simp only [aH4 hk2];simp;omega
      · obtain⟨z1,z2⟩:=G6.aP8 hr1.1 (k:=(eU m.aC (h % 32)).toNat) (by omega) (xs:=[h % 32]) (by simp) (fun x hx=>by
          simp at hx;subst hx
          exact⟨by show eU m.aC (h % 32)=_;omega,by rw [hr2];omega⟩) (fun x hx=>by simp at hx;subst hx;exact hnot) hk2
        refine⟨z1,fun s h1 h2=>?_⟩
        obtain⟨y1,y2,y3⟩:=hr1.2 s h1 h2
        exact⟨z2 s (by simpa using h2) y1,y2,y3⟩
  · rw [decide_eq_false q,if_neg (by simp),if_neg (by simp)]
    refine⟨_,rfl,rfl,⟨by simp only [TD];omega,by simp only;omega,by simp only;omega,by simp only;omega,by rw [wH];simp only;omega⟩,hr1⟩
end
theorem alloc_eq{b:aA}(hm:G6 b.Mem){w:Int}(hw:0≤w∧w≤2)(s:Sub) :
    ∃x y,SS b w s=some (x,y)∧GU s b w=some (y,x)∧∃m',x=⟨m',b.aD,b.aH,b.bO⟩∧N4 m'∧LM b.Mem m' (-1):=by
  have hsm:=(G6.facts hm).2.2.2.2.2.1
  have hs:=hm.1.1.1
  obtain⟨c,ec,ei,hcc⟩:=aW0 s.A
  unfold SS GU
  rw [ec,ei]
  simp only [Option.bind_some]
  by_cases c0:c < 0
  · simp only [decide_eq_true c0,if_true,fW,dK];exact⟨_,_,rfl,rfl,_,rfl,hsm,LM.refl hm _⟩
  have hc:0≤c∧c≤2:=by omega
  simp only [decide_eq_false c0,Bool.false_eq_true,if_false]
  have fin:∀(m':Mem) (x:Int),N4 m'→LM b.Mem m' (-1)→(0≤x→oH m'.aC∧0≤eU m'.aC x) →
      ∃X Y,AV s x ⟨m',b.aD,b.aH,b.bO⟩=some (X,Y)∧sQ s x ⟨m',b.aD,b.aH,b.bO⟩=some (Y,X)∧∃m',X=⟨m',b.aD,b.aH,b.bO⟩∧N4 m'∧LM b.Mem m' (-1):=by
    intro m' x hs' hst hx
    unfold AV sQ
    simp only [KS,aBP,fW,dK]
    by_cases x0:0≤x
    · obtain⟨h,e1,e2⟩:=aY8 (m:=m') (hx x0).1 (hx x0).2
      rw [decide_eq_false (show ¬x < 0 by omega),decide_eq_true x0]
      simp only [Bool.false_eq_true,if_false,if_true,e1,e2,Option.bind_some]
      exact⟨_,_,rfl,rfl,m',rfl,hs',hst⟩
    · rw [decide_eq_true (show x < 0 by omega),decide_eq_false x0]
      by_cases p3:s.Pc=3
      · simp only [p3,beq_self_eq_true,if_true,Bool.false_eq_true,if_false,Option.bind_some];exact⟨_,_,rfl,rfl,m',rfl,hs',hst⟩
      · have p3':(s.Pc == 3)=false:=by simpa using p3
        simp only [p3',if_true,Bool.false_eq_true,if_false,Option.bind_some];exact⟨_,_,rfl,rfl,m',rfl,hs',hst⟩
  by_cases p0:s.Pc=0
  · obtain⟨l,t,x,e1,e2,e3,h1,h2,h3⟩:=aW1 hm hw hc
    simp only [p0,beq_self_eq_true,if_true,(aJR hw hc).1,Option.bind_some,e1,e2,e3]
    exact fin _ x h1 h3 (fun h=>⟨hs,h2 h⟩)
  · have p0':(s.Pc == 0)=false:=by simpa using p0
    simp only [p0',Bool.false_eq_true,if_false,KT,CA]
    obtain⟨l,t,x,e1,e2,e3,h1,h2,h3⟩:=aRT hm hc
    by_cases p1:s.Pc=1
    · simp only [p1,beq_self_eq_true,if_true,Option.bind_some,e1,e2,e3]
      exact fin _ x h1 h3 (fun h=>⟨hs,h2 h⟩)
    · have p1':(s.Pc == 1)=false:=by simpa using p1
      simp only [p1',Bool.false_eq_true,if_false]
      by_cases p3:s.Pc=3
      · simp only [p3,beq_self_eq_true,if_true,Option.bind_some,e1,e2,e3]
        exact fin _ x h1 h3 (fun h=>⟨hs,h2 h⟩)
      · have p3':(s.Pc == 3)=false:=by simpa using p3
        simp only [p3',Bool.false_eq_true,if_false]
        by_cases p2:s.Pc=2
        · obtain⟨m',x,e1,e2,h1,h2,h3⟩:=a2F hm hc
          simp only [p2,beq_self_eq_true,if_true,Option.bind_some,e1,e2]
          exact fin m' x h1 h3 h2
        · have p2':(s.Pc == 2)=false:=by simpa using p2
          simp only [p2',Bool.false_eq_true,if_false,fW,dK];exact⟨_,_,rfl,rfl,_,rfl,hsm,LM.refl hm _⟩
end Go.Gv
end
noncomputable section
set_option linter.unusedVariables false
set_option linter.unusedSimpArgs false
set_option linter.unusedSectionVars false
namespace Go.Gv
theorem aYN(r:bP)(e:Int):∃v,aAG r e=some v∧aAK r e=some v:=by
  unfold aAG aAK U9 VL
  by_cases h:2≤e
  · simp only [decide_eq_true h,if_true];exact⟨_,rfl,rfl⟩
  · simp only [decide_eq_false h,Bool.false_eq_true,if_false];exact⟨_,rfl,rfl⟩
theorem a4G{b:aA}{w:Int}{l:aP}(hx:idx b.aH w=some l)(hl:l.Rows.length≤1000)(s:Sub) :
    (PF l.Rows s.Row s.E=some (-1)∧DD s b w=(dK s 0).bind fun x=>some (x,b)) ∨
    ∃k,∃h:k < l.Rows.length,PF l.Rows s.Row s.E=some (k:Int)∧DD s b w=some (⟨s.Kind,s.A,2,s.E,(k:Int),0,l.Rows[k].Handle,s.Out,s.Code,s.dW⟩,b):=by
  have key:∀d k,k+d=l.Rows.length →
      (loop (tH l.Rows s.E) (k:Int)=some (Out.brk ())∧loop (mY s b w) (k:Int)=some (Out.brk ())) ∨
      ∃j,∃h:j < l.Rows.length,loop (tH l.Rows s.E) (k:Int)=some (Out.ret (j:Int))∧loop (mY s b w) (k:Int)=some (Out.ret (⟨s.Kind,s.A,2,s.E,(j:Int),0,l.Rows[j].Handle,s.Out,s.Code,s.dW⟩,b)):=by
    intro d
    induction d with
    | zero =>
      intro k hk
      left
      exact⟨cX (by simp only [tH];rw [if_neg (by simp;omega)]),cX (by simp only [mY,hx,Option.bind_some];rw [if_neg (by simp;omega)])⟩
    | succ d ih =>
      intro k hk
      have hk':k < l.Rows.length:=by omega
      obtain⟨v,e1,e2⟩:=aYN l.Rows[k] s.E
      cases v with
      | true =>
        right
        refine⟨k,hk',cX ?_,cX ?_⟩
        · simp only [tH]
          rw [if_pos (by simp;omega),aT hk',Option.bind_some,e1];rfl
        · simp only [mY,hx,Option.bind_some]
          rw [if_pos (by simp;omega),aT hk',Option.bind_some,e2];rfl
      | false =>
        have n1:tH l.Rows s.E (k:Int)=some (.next ((k+1:Nat):Int)):=by
          simp only [tH]
          rw [if_pos (by simp;omega),aT hk',Option.bind_some,e1,Option.bind_some,aZ (by omega) (by omega)];rfl
        have n2:mY s b w (k:Int)=some (.next ((k+1:Nat):Int)):=by
          simp only [mY,hx,Option.bind_some]
          rw [if_pos (by simp;omega),aT hk',Option.bind_some,e2,Option.bind_some,aZ (by omega) (by omega)];rfl
        rw [cO n1,cO n2]
        exact ih (k+1) (by omega)
  unfold PF DD
  have hst:∃i:Nat,(if 0 < s.Row then s.Row else 0)=(i:Int)∧(if s.Row < 0 then 0 else s.Row)=(i:Int):=by
    refine⟨s.Row.toNat,?_,?_⟩ <;> split <;> omega
  obtain⟨i,i1,i2⟩:=hst
  rw [i1,i2]
  by_cases hi:i≤l.Rows.length
  · rcases key (l.Rows.length - i) i (by omega) with ⟨a,c⟩ | ⟨j,hj,a,c⟩
    · left;rw [a,c];exact⟨rfl,rfl⟩
    · right;rw [a,c];exact⟨j,hj,rfl,rfl⟩
  · left
    rw [cX (body:=tH l.Rows s.E) (r:=Out.brk ()) (by simp only [tH];rw [if_neg (by simp;omega)]),
      cX (body:=mY s b w) (r:=Out.brk ()) (by simp only [mY,hx,Option.bind_some];rw [if_neg (by simp;omega)])]
    exact⟨rfl,rfl⟩
theorem del_eq{α:Type}{l:List α}{k:Nat}(h:k < l.length):((fD l k (l.drop (k+1))).take (k+(l.length - (k+1)))).drop 0=l.eraseIdx k:=by
  have h1:(l.take k).length=k:=by rw [List.length_take];omega
  have h2:(l.drop (k+1)).length=l.length - (k+1):=by simp
  unfold fD
  rw [List.drop_zero,List.eraseIdx_eq_take_drop_succ,List.take_of_length_le (l:=l.drop (k+1)) (by rw [h2];omega),←List.append_assoc]
  rw [show k+(l.length - (k+1))=(l.take k++l.drop (k+1)).length by rw [List.length_append,h1,h2]]
  exact List.take_left
theorem aW2{α:Type}{l:List α}{k:Nat}(h:k < l.length):l.Perm (l[k] :: l.eraseIdx k):=by
  have e:l=l.take k++l[k] :: l.drop (k+1):=by rw [←List.drop_eq_getElem_cons h,List.take_append_drop]
  rw [List.eraseIdx_eq_take_drop_succ]
  refine(List.Perm.of_eq e).trans ?_
  exact List.perm_middle
theorem pK.drop{b:List aP}(hL:pK b){w:Nat}(hw:w < b.length):∀k (hk:k < b[w].Rows.length),pK (b.set w ⟨b[w].Rows.eraseIdx k⟩)∧∀r∈bI (b.set w ⟨b[w].Rows.eraseIdx k⟩),r∈bI b∧r.Handle % 32≠b[w].Rows[k].Handle % 32:=by
  intro k hk
  have hsub:(bI (b.set w ⟨b[w].Rows.eraseIdx k⟩)).Sublist (bI b):=by
    rw [aAX hw,YZ hw]
    exact(List.Sublist.refl _).append ((List.eraseIdx_sublist _ _).append (List.Sublist.refl _))
  have hnd:=hL.2.2.2
  refine⟨⟨by simpa using hL.1,Nat.le_trans hsub.length_le hL.2.1,fun r hr=>hL.2.2.1 r (hsub.subset hr),(hsub.map iH).nodup hnd⟩,fun r hr=>⟨hsub.subset hr,?_⟩⟩
  have hp:(bI b).Perm (b[w].Rows[k] :: bI (b.set w ⟨b[w].Rows.eraseIdx k⟩)):=by
    rw [aAX hw,YZ hw]
    refine List.Perm.trans (List.Perm.append_left _ (List.Perm.append_right _ (aW2 hk))) ?_
    exact List.perm_middle
  have:=(hp.map iH).nodup_iff.1 hnd
  rw [List.map_cons,List.nodup_cons] at this
  exact fun e=>this.1 (List.mem_map.2 ⟨r,hr,e⟩)
theorem aW3{b:aA}(hb:kP b){w:Int}(hw:0≤w∧w≤2)(s:Sub) :
    ∃x y,M8 b w s=some (x,y)∧DE s b w=some (y,x)∧∃m' L,x=⟨m',b.aD,L,b.bO⟩∧N4 m'∧G6 m'∧pK L∧∀r∈bI L,FQ m' r.Handle∧r.aJ≤b.aD.aJ:=by
  have hm:=hb.1.1
  have hL:=hb.1.2.2.1
  have hZ:=hb.1.2.2.2
  have hsm:=(G6.facts hm).2.2.2.2.2.1
  have hlen:w.toNat < b.aH.length:=by have:=hL.1;omega
  have hx:idx b.aH w=some b.aH[w.toNat]:=FO hw.1 (by omega)
  have hrow:=hL.small.2.2.2 _ (List.getElem_mem hlen)
  have hmemL:b.aH[w.toNat]∈b.aH:=List.getElem_mem hlen
  have hset:=pK.drop hL hlen
  generalize b.aH[w.toNat]=l at hx hrow hset hmemL
  have done:∀y:Sub,∃x z,(some (b,y):Option (aA×Sub))=some (x,z)∧(some (y,b):Option (Sub×aA))=some (z,x)∧∃m' L,x=⟨m',b.aD,L,b.bO⟩∧N4 m'∧G6 m'∧pK L∧∀r∈bI L,FQ m' r.Handle∧r.aJ≤b.aD.aJ:=
    fun y=>⟨_,_,rfl,rfl,b.Mem,b.aH,rfl,hsm,hm,hL,hb.2⟩
  have hw1:aI ((l.Rows.length:Int) - 1)=(l.Rows.length:Int) - 1:=aZ (by omega) (by omega)
  have hhas:TU b.aH w s.Row=some (decide (0≤s.Row∧s.Row≤(l.Rows.length:Int) - 1)):=by
    unfold TU P7
    rw [nO,decide_eq_true hw,Option.bind_some,if_pos rfl,hx,Option.bind_some,kD,hw1];rfl
  unfold M8 DE
  rw [hhas,hx]
  simp only [Option.bind_some,fW,fP,hw1]
  have hat:∃a:Bool,(if decide (0≤s.Row∧s.Row≤(l.Rows.length:Int) - 1)=true then (idx l.Rows s.Row).bind fun x15=>oA s b w (x15.Handle == s.H) else oA s b w false)=oA s b w a ∧
      (if (!decide (0≤s.Row∧s.Row≤(l.Rows.length:Int) - 1))=true then nF b s true else (idx l.Rows s.Row).bind fun x11=>nF b s (x11.Handle != s.H))=nF b s (!a) ∧
      (a=true→∃r,r∈l.Rows∧idx l.Rows s.Row=some r∧r.Handle=s.H∧0≤s.Row∧s.Row < l.Rows.length) ∧
      (a=false→∀f:bP→Option (aA×Sub),(if (!decide (0≤s.Row∧s.Row≤(l.Rows.length:Int) - 1))=true then nG b w s l true else (idx l.Rows s.Row).bind fun x=>if (x.Handle != s.H)=true then nG b w s l true else f x)=nG b w s l true):=by
    by_cases q:0≤s.Row∧s.Row≤(l.Rows.length:Int) - 1
    · have hr:idx l.Rows s.Row=some (l.Rows[s.Row.toNat]'(by omega)):=FO q.1 (by omega)
      by_cases q2:(l.Rows[s.Row.toNat]'(by omega)).Handle=s.H
      · refine⟨true,?_,?_,fun _=>⟨_,List.getElem_mem _,hr,q2,q.1,by omega⟩,fun h=>by cases h⟩
        · rw [decide_eq_true q,if_pos rfl,hr,Option.bind_some,q2,beq_self_eq_true]
        · rw [decide_eq_true q,if_neg (by simp),hr,Option.bind_some,q2,bne_self_eq_false];rfl
      · have n1:((l.Rows[s.Row.toNat]'(by omega)).Handle == s.H)=false:=by simpa using q2
        have n2:((l.Rows[s.Row.toNat]'(by omega)).Handle != s.H)=true:=by simpa using q2
        refine⟨false,?_,?_,(fun h=>by cases h),fun _ f=>?_⟩
        · rw [decide_eq_true q,if_pos rfl,hr,Option.bind_some,n1]
        · rw [decide_eq_true q,if_neg (by simp),hr,Option.bind_some,n2];rfl
        · rw [decide_eq_true q,if_neg (by simp),hr,Option.bind_some,n2,if_pos rfl]
    · refine⟨false,?_,?_,(fun h=>by cases h),fun _ f=>?_⟩
      · rw [decide_eq_false q,if_neg (by simp)]
      · rw [decide_eq_false q,if_pos (by simp)];rfl
      · rw [decide_eq_false q,if_pos (by simp)]
  obtain⟨a,ha1,ha2,ha3,ha4⟩:=hat
  rw [ha1,ha2]
  unfold oA
  by_cases p0:s.Pc=0
  · simp only [p0,beq_self_eq_true,if_true];exact done _
  have p0':(s.Pc == 0)=false:=by simpa using p0
  simp only [p0',Bool.false_eq_true,if_false]
  by_cases p1:s.Pc=1
  · simp only [p1,beq_self_eq_true,if_true]
    rcases a4G hx (by omega) s with ⟨e1,e2⟩ | ⟨k,hk,e1,e2⟩
    · rw [e1,e2,Option.bind_some,if_pos (by simp)];simp only [dK,p1,Option.bind_some];exact done _
    · rw [e1,e2,Option.bind_some,if_neg (by simp),aT hk];simp only [Option.bind_some];exact done _
  have p1':(s.Pc == 1)=false:=by simpa using p1
  simp only [p1',Bool.false_eq_true,if_false]
  by_cases p2:s.Pc=2
  · simp only [p2,beq_self_eq_true,if_true,nO,Option.bind_some]
    by_cases hB:0≤s.B∧s.B≤2
    · rw [decide_eq_true hB]
      simp only [Bool.not_true,Bool.false_eq_true,if_false,if_true]
      cases a with
      | true =>
        have hz:idx b.bO s.B=some (b.bO[s.B.toNat]'(by have:=hZ.1;omega)):=FO hB.1 (by have:=hZ.1;omega)
        simp only [nF,mF,Bool.not_true,Bool.false_eq_true,if_false,if_true,hz,Option.bind_some,GJ]
        by_cases q:(b.bO[s.B.toNat]'(by have:=hZ.1;omega))=s.H
        · simp only [q,beq_self_eq_true,if_true];exact done _
        · have q':((b.bO[s.B.toNat]'(by have:=hZ.1;omega)) == s.H)=false:=by simpa using q
          simp only [q',Bool.false_eq_true,if_false]
          by_cases q3:aI (s.B+1)=3
          · simp only [q3,beq_self_eq_true,if_true];exact done _
          · have q3':(aI (s.B+1) == 3)=false:=by simpa using q3
            simp only [q3',Bool.false_eq_true,if_false];exact done _
      | false =>
        simp only [nF,mF,jY,fW,dK,Bool.not_false,if_true,Bool.false_eq_true,if_false,p2,show((2:Int) == 3)=false from rfl,Option.bind_some]
        exact done _
    · rw [decide_eq_false hB]
      simp only [nF,mF,jY,fW,dK,Bool.not_false,if_true,Bool.false_eq_true,if_false,p2,show((2:Int) == 3)=false from rfl,Option.bind_some]
      exact done _
  have p2':(s.Pc == 2)=false:=by simpa using p2
  simp only [p2',Bool.false_eq_true,if_false,mF]
  by_cases p3:s.Pc=3
  · simp only [p3,beq_self_eq_true,if_true]
    cases a with
    | false =>
      rw [ha4 rfl]
      simp only [nG,jY,fW,dK,if_true,Bool.false_eq_true,if_false,Option.bind_some]
      exact done _
    | true =>
      obtain⟨r,hrm,hr,hrH,r0,r1⟩:=ha3 rfl
      obtain⟨v,e1,e2⟩:=aYN r s.E
      rw [decide_eq_true (show 0≤s.Row∧s.Row≤(l.Rows.length:Int) - 1 by omega)]
      simp only [Bool.not_true,Bool.false_eq_true,if_false,if_true,hr,Option.bind_some,hrH,bne_self_eq_false,hx,e1,e2]
      cases v with
      | false =>
        simp only [nG,jY,fW,dK,Bool.not_false,if_true,Bool.false_eq_true,if_false,Option.bind_some]
        exact done _
      | true =>
        have hlive:FQ b.Mem s.H:=by
          have:r∈bI b.aH:=List.mem_flatMap.2 ⟨l,hmemL,hrm⟩
          have:=(hb.2 r this).1
          rwa [hrH] at this
        obtain⟨m',f1,f2,f3,f4⟩:=a4F hm hw hlive
        have ew:aI (s.Row+1)=s.Row+1:=aZ (by omega) (by omega)
        have hdrop:VM b.aH w s.Row=some (b.aH.set w.toNat ⟨((fD l.Rows s.Row.toNat (l.Rows.drop (s.Row+1).toNat)).take (s.Row.toNat+(l.Rows.length - (s.Row+1).toNat))).drop 0⟩,true):=by
          unfold VM NJ
          rw [ZV hL.small.2.2.1 (fun s h=>by have:=hL.small.2.2.2 s h;omega),vX hL.small.1,decide_eq_true hL,hhas,decide_eq_true (show 0≤s.Row∧s.Row≤(l.Rows.length:Int) - 1 by omega)]
          simp only [Option.bind_some,Bool.not_true,Bool.false_eq_true,if_false,hx,ew]
          unfold N2
          rw [aO (by omega),if_neg (by simp;omega),aO (by omega),aO (by omega),aO (by omega),aO]
          · rfl
          · rw [jX (by omega)]
            simp only [List.drop_zero,List.length_take,jX (show s.Row.toNat≤l.Rows.length by omega)]
            omega
        simp only [nG,jY,NX,ew,Bool.not_true,Bool.false_eq_true,if_false,if_true]
        rw [aO (by omega),aO (by omega),aO (by omega),kE,if_pos hlive.1,Option.bind_some,f1,f2,hdrop]
        have hk:s.Row.toNat < l.Rows.length:=by omega
        have eL:((fD l.Rows s.Row.toNat (l.Rows.drop (s.Row+1).toNat)).take (s.Row.toNat+(l.Rows.length - (s.Row+1).toNat))).drop 0=l.Rows.eraseIdx s.Row.toNat:=by
          rw [show(s.Row+1).toNat=s.Row.toNat+1 by omega];exact del_eq hk
        have er:l.Rows[s.Row.toNat]=r:=by
          have:=aT hk
          rw [show((s.Row.toNat:Nat):Int)=s.Row by omega,hr] at this
          exact(Option.some.inj this).symm
        rw [eL] at hdrop ⊢
        obtain⟨g1,g2⟩:=hset s.Row.toNat hk
        refine⟨_,_,rfl,rfl,m',_,rfl,f3,f4.1,g1,fun q hq=>?_⟩
        obtain⟨g3,g4⟩:=g2 q hq
        obtain⟨g5,g6⟩:=hb.2 q g3
        refine⟨f4.live g5 fun e=>?_,g6⟩
        rw [er,hrH] at g4
        exact g4 e
  · have p3':(s.Pc == 3)=false:=by simpa using p3
    simp only [p3',Bool.false_eq_true,if_false,jY,dK,Option.bind_some]
    exact done _
end Go.Gv
end
noncomputable section
set_option linter.unusedVariables false
set_option linter.unusedSimpArgs false
set_option linter.unusedSectionVars false
namespace Go.Gv
theorem step_eq{b:aA}(hb:kP b)(hs:G7 b){w:Int}(hw:0≤w∧w≤2)(s:Sub) :
    ∃x y,NY b w s=some (x,y)∧w9 s b w=some (y,x)∧kP x:=by
  have hz:=hb.1.2.2.2.1
  have hl:=hb.1.2.2.1
  unfold NY w9
  cases hd:s.dW with
  | true=>exact⟨_,_,rfl,rfl,hb⟩
  | false =>
    simp only [Bool.false_eq_true,if_false]
    by_cases k1:s.Kind=1
    · obtain⟨x,y,e1,e2,m,rfl,h1,h2⟩:=alloc_eq hb.1.1 hw s
      simp only [k1,beq_self_eq_true,if_true,e1,e2,Option.bind_some]
      exact⟨_,_,rfl,rfl,⟨h2.1,hb.1.2⟩,fun r hr=>⟨h2.live (hb.2 r hr).1 (by have:=(hb.2 r hr).1.1;unfold EE at this;omega),(hb.2 r hr).2⟩⟩
    have k1':(s.Kind == 1)=false:=by simpa using k1
    simp only [k1',Bool.false_eq_true,if_false]
    by_cases k2:s.Kind=2
    · obtain⟨x,y,e1,e2,L,rfl,h1,h2⟩:=aY5 hb hs hw s
      simp only [k2,beq_self_eq_true,if_true,e1,e2,Option.bind_some]
      exact⟨_,_,rfl,rfl,⟨hb.1.1,hb.1.2.1,h1,hb.1.2.2.2⟩,h2⟩
    have k2':(s.Kind == 2)=false:=by simpa using k2
    simp only [k2',Bool.false_eq_true,if_false]
    by_cases k3:s.Kind=3
    · obtain⟨x,y,e1,e2,c,rfl,h1,h2⟩:=aWV hb.1.2.1 s
      simp only [k3,beq_self_eq_true,if_true,e1,e2,Option.bind_some]
      exact⟨_,_,rfl,rfl,⟨hb.1.1,h1,hb.1.2.2⟩,fun r hr=>⟨(hb.2 r hr).1,Int.le_trans (hb.2 r hr).2 h2⟩⟩
    have k3':(s.Kind == 3)=false:=by simpa using k3
    simp only [k3',Bool.false_eq_true,if_false]
    by_cases k4:s.Kind=4
    · obtain⟨x,y,e1,e2,m,L,rfl,h1,h2,h3,h4⟩:=aW3 hb hw s
      simp only [k4,beq_self_eq_true,if_true,e1,e2,Option.bind_some]
      exact⟨_,_,rfl,rfl,⟨h2,hb.1.2.1,h3,hb.1.2.2.2⟩,h4⟩
    have k4':(s.Kind == 4)=false:=by simpa using k4
    simp only [k4',Bool.false_eq_true,if_false]
    by_cases k5:s.Kind=5
    · obtain⟨x,y,e1,e2,c,rfl,h1,h2⟩:=a6L hb.1.2.1 hw s
      simp only [k5,beq_self_eq_true,if_true,e1,e2,Option.bind_some]
      exact⟨_,_,rfl,rfl,⟨hb.1.1,h1,hb.1.2.2⟩,fun r hr=>⟨(hb.2 r hr).1,Int.le_trans (hb.2 r hr).2 h2⟩⟩
    have k5':(s.Kind == 5)=false:=by simpa using k5
    simp only [k5',Bool.false_eq_true,if_false,fW,dK,Option.bind_some]
    exact⟨_,_,rfl,rfl,hb⟩
theorem kP.small{b:aA}(hb:kP b):G7 b:=by
  have h1:=hb.1.2.1.2.1;have h2:=hb.1.2.2.1.1;have h3:=hb.1.2.2.1.2.1;have h4:=hb.1.2.2.2.1
  exact⟨(G6.facts hb.1.1).2.2.2.2.2.1,by omega,by omega,by omega,by omega⟩
end Go.Gv
end
noncomputable section
set_option linter.unusedVariables false
set_option linter.unusedSimpArgs false
set_option linter.unusedSectionVars false
namespace Go.Gv
theorem aNV{b:List Int}{a:Nat}{n:Int}(h:a+4≤b.length){j:Nat}(hj:j < a∨a+4≤j):bt (ZW b a n) j=bt b j:=by
  unfold ZW
  rw [WY (by simp;omega),WY (by simp;omega),WY (by simp;omega),WY (by omega),if_neg (by omega),if_neg (by omega),if_neg (by omega),if_neg (by omega)]
theorem HOk.put{h:aC}(hh:HOk h){s:Int}(hc:0≤eU h s){n:Int}(hn:0≤n∧n≤4294967295) :
    HOk ⟨ZW h.Bytes ((sI s (eU h s)).toNat+4) n,h.Class⟩∧∀t,0≤eU h t→ED ⟨ZW h.Bytes ((sI s (eU h s)).toNat+4) n,h.Class⟩ t=ED h t:=by
  obtain⟨hs,hp⟩:=hh
  have h384:=hs.1
  have hs':oH ⟨ZW h.Bytes ((sI s (eU h s)).toNat+4) n,h.Class⟩:=⟨by rw [aJN];exact hs.1,hs.2.1,aY6 hs.2.2.1 _ hn,hs.2.2.2⟩
  obtain⟨p,i,p6,hi,es,ec,eo,ep⟩:=WZ hc
  have hcl:0≤fQ h p∧fQ h p≤2:=DJ.1 (by omega)
  have hroom:8+i * (cK (fQ h p)).toNat+8≤64∧∀j,j < (iV (fQ h p)).toNat→j * (cK (fQ h p)).toNat+4≤i * (cK (fQ h p)).toNat+4∨i * (cK (fQ h p)).toNat+12≤j * (cK (fQ h p)).toNat:=by
    generalize fQ h p=c at hi hcl
    rcases sS hcl with rfl | rfl | rfl
    · rw [show(iV 0).toNat=4 from rfl] at *;rw [show(cK 0).toNat=12 from rfl]
      exact⟨by omega,fun j hj=>by omega⟩
    · rw [show(iV 1).toNat=2 from rfl] at *;rw [show(cK 1).toNat=20 from rfl]
      exact⟨by omega,fun j hj=>by omega⟩
    · rw [show(iV 2).toNat=1 from rfl] at *;rw [show(cK 2).toNat=44 from rfl]
      exact⟨by omega,fun j hj=>by omega⟩
  have hgen:∀q j,q < 6→j < (iV (fQ h q)).toNat→ld (ZW h.Bytes ((sI s (eU h s)).toNat+4) n) (q * 64+8+j * (cK (fQ h q)).toNat) 4=ld h.Bytes (q * 64+8+j * (cK (fQ h q)).toNat) 4:=fun q j hq hj=>by
    have hz:=K9 hs hq rfl hj
    refine aF2 (by omega) (by simp only [aJN]) fun k k1 k2=>?_
    by_cases e:q=p
    · subst e
      have:=hroom.2 j hj
      exact aNV (by omega) (by omega)
    · exact aNV (by omega) (by omega)
  refine⟨⟨hs',fun q hq=>?_⟩,fun t ht=>?_⟩
  · rw [aAY hs' hq]
    have hold:=(aAY hs hq).1 (hp q hq)
    by_cases e:q=p
    · subst e
      have hcl':¬fQ h q < 0:=by omega
      unfold aM9 at hold ⊢
      have hcc:fQ ⟨ZW h.Bytes ((sI s (eU h s)).toNat+4) n,h.Class⟩ q=fQ h q:=rfl
      rw [hcc]
      rw [if_neg hcl'] at hold ⊢
      obtain⟨⟨a1,a2,a3⟩,a4,a5⟩:=hold
      have bs:∀k,k < 8→bt (ZW h.Bytes ((sI s (eU h s)).toNat+4) n) (q * 64+k)=bt h.Bytes (q * 64+k):=fun k hk=>aNV (by omega) (by omega)
      have b0:=bs 0 (by omega);have b1:=bs 1 (by omega);have b2:=bs 2 (by omega)
      simp only [Nat.add_zero] at b0
      refine⟨⟨by rw [b0];exact a1,by rw [b1];exact a2,by rw [b2];exact a3⟩,fun k k3 k8=>by rw [bs k k8];exact a4 k k3 k8,fun j hj=>?_⟩
      rw [hgen q j hq hj];exact a5 j hj
    · refine aM9.same hq hs (by simp only [aJN]) rfl (fun k hk=>aNV (by omega) (by omega)) hold
  · obtain⟨p',i',p6',hi',es',ec',eo',ep'⟩:=WZ ht
    have e2:eU ⟨ZW h.Bytes ((sI s (eU h s)).toNat+4) n,h.Class⟩ t=eU h t:=rfl
    unfold ED
    rw [e2,eo']
    exact hgen p' i' p6' hi'
theorem G6.put{m:Mem}(hm:G6 m){s:Int}(hc:0≤eU m.aC s){n:Int}(hn:0≤n∧n≤4294967295):LM m ⟨⟨ZW m.aC.Bytes ((sI s (eU m.aC s)).toNat+4) n,m.aC.Class⟩,m.aB⟩ (-1):=by
  obtain⟨a,b⟩:=HOk.put hm.1.1 hc hn
  refine⟨G6.heap hm a fun x hx=>⟨rfl,b x (G6.UO hm hx).1⟩,fun t ht _=>?_⟩
  have ht':=H0.1 ht
  have e:=b t ht'.1
  exact⟨H0.2 ⟨ht'.1,ht'.2.1,by simp only [e];exact ht'.2.2⟩,e,rfl⟩
theorem start_eq{h:aC}(hs:oH h){s:Int}(hc:0≤eU h s):PG s (eU h s)=some (sI s (eU h s)+4)∧VN s (eU h s)=some (sI s (eU h s)+4):=by
  have hg:=aB5 hc
  unfold PG VN
  rw [MN,MO,Option.bind_some,if_neg (by simp;omega),aZ (by omega) (by omega)]
  exact⟨rfl,rfl⟩
theorem aQA{h:aC}(hs:oH h){s:Int}(hc:0≤eU h s):K5 h s 0 4=some (sI s (eU h s)+4):=by
  have hg:=aB5 hc
  have hc2:0≤eU h s∧eU h s≤2:=by
    obtain⟨_,q,e⟩:=VV hc
    rw [e];exact DJ.1 (by omega)
  have hz:8≤BJ (eU h s)∧BJ (eU h s)≤40:=by rcases sS hc2 with e | e | e <;> rw [e] <;> decide
  unfold K5 aBW
  rw [y8 hs,Option.bind_some,(start_eq hs hc).2,Option.bind_some,if_neg (by simp;omega),aEW]
  simp only [Option.bind_some,kD]
  rw [aZ (x:=sI s (eU h s)+4+BJ (eU h s)) (by omega) (by omega),aZ (x:=sI s (eU h s)+4+BJ (eU h s) - (sI s (eU h s)+4)) (by omega) (by omega),aZ (x:=sI s (eU h s)+4+BJ (eU h s) - (sI s (eU h s)+4) - 4) (by omega) (by omega),decide_eq_true (by omega),aZ (by omega) (by omega)]
  simp
theorem aVL{n:Int}(hn:0≤n∧n≤65535):∃t:List UInt8,WH n 4=some t∧(t == [])=false:=by
  have st:∀(m:Int) (c:List UInt8) (i:Nat),c.length≤4→i < 4→0≤m→m≤4294967295→SU 4 (m,c,(i:Int))=some (.next (m / 256,[u8 (m % 256)]++c,((i+1:Nat):Int))):=fun m c i hc hi h0 h1=>by
    simp only [SU]
    rw [if_pos (by simp;omega),aO (by simp;omega),J0 h0,TY h0,aZ (x:=m / 256) (by omega) (by omega),aZ (by omega) (by omega)];rfl
  unfold WH
  rw [fP]
  simp only [Option.bind_some,show(decide ((1:Int)≤4∧(4:Int)≤7))=true from rfl,Bool.not_true,Bool.false_eq_true,if_false,SW,decide_eq_false (show ¬n < 0 by omega)]
  rw [show(0:Int)=((0:Nat):Int) from rfl,cO (st n [] 0 (by simp) (by omega) hn.1 (by omega)),cO (st _ _ 1 (by simp) (by omega) (by omega) (by omega)),cO (st _ _ 2 (by simp) (by omega) (by omega) (by omega)),cO (st _ _ 3 (by simp) (by omega) (by omega) (by omega)),cX (by simp only [SU];rw [if_neg (by simp)])]
  simp only [Option.bind_some,aGQ,aGP]
  rw [if_neg (by simp;omega)]
  exact⟨_,rfl,rfl⟩
theorem aW4{m:Mem}(hm:G6 m){h n:Int}(hn:0≤n∧n≤65535):∃x c,VA m h 0 4 n=some (x,c)∧VO m h 0 4 n=some (x,c)∧LM m x (-1)∧(c≠0→x=m):=by
  obtain⟨hcnt,h3,h9,h1,h2,hsm,hcp,hlo,hsG,hsO⟩:=G6.facts hm
  have hs:=hm.1.1.1
  have hbl:m.aC.Bytes.length≤maxLen:=by rw [h1];simp [maxLen]
  have hall:(jW m.aB).length≤1073741824:=by omega
  have hg:m.aB.Global.length≤maxLen:=by rw [h3];simp [maxLen]
  have ho:m.aB.bA.length≤maxLen:=by rw [h9];simp [maxLen]
  have hw4:w8 4=some true:=by unfold w8;rw [kD];rfl
  unfold VA VO aEB aEJ
  rw [aLY hsm,aLZ hsm,IV hbl hall,IW hbl hall,decide_eq_true hm,fP,hw4,aP3 ⟨hn.1,by omega⟩]
  simp only [Option.bind_some,Bool.not_true,Bool.false_eq_true,if_false,PI,P9,show(decide ((1:Int)≤4∧(4:Int)≤7))=true from rfl,zA hs hall hg ho,BL hs hall hg ho]
  by_cases hv:FQ m h
  · have hh:=hv.1
    have hcl:=YY hv.2.1
    have hgo:=aB5 hcl
    have hc2:0≤eU m.aC (h % 32)∧eU m.aC (h % 32)≤2:=by
      obtain⟨_,q,e⟩:=VV hcl
      rw [e];exact DJ.1 (by omega)
    have hz:8≤BJ (eU m.aC (h % 32))∧BJ (eU m.aC (h % 32))≤40:=by rcases sS hc2 with e | e | e <;> rw [e] <;> decide
    obtain⟨p,i,p6,hi,es,ec,eo,ep⟩:=WZ hcl
    have hroom:(sI (h % 32) (eU m.aC (h % 32))).toNat+8≤384:=by
      rw [eo]
      have hcl':0≤fQ m.aC p∧fQ m.aC p≤2:=by rw [←ec];exact hc2
      generalize fQ m.aC p=c at hi hcl'
      rcases sS hcl' with rfl | rfl | rfl
      · rw [show(iV 0).toNat=4 from rfl] at hi;rw [show(cK 0).toNat=12 from rfl];omega
      · rw [show(iV 1).toNat=2 from rfl] at hi;rw [show(cK 1).toNat=20 from rfl];omega
      · rw [show(iV 2).toNat=1 from rfl] at hi;rw [show(cK 2).toNat=44 from rfl];omega
    simp only [decide_eq_true hv,Bool.not_true,Bool.false_eq_true,if_false,kE,if_pos hh,Option.bind_some,C2 hs,WS,fP,hh.mod.1,aQA hs hcl]
    rw [aZ (x:=BJ (eU m.aC (h % 32)) - 1) (by omega) (by omega),decide_eq_true (show(0:Int)≤0∧(0:Int)≤BJ (eU m.aC (h % 32)) - 1 by omega),aZ (x:=BJ (eU m.aC (h % 32)) - 0) (by omega) (by omega),decide_eq_false (show ¬BJ (eU m.aC (h % 32)) - 0 < 4 by omega)]
    simp only [Bool.not_true,Bool.false_eq_true,if_false,PH,(start_eq hs hcl).1,Option.bind_some]
    rw [aZ (x:=sI (h % 32) (eU m.aC (h % 32))+4+0) (by omega) (by omega),Int.add_zero,decide_eq_false (show ¬sI (h % 32) (eU m.aC (h % 32))+4 < 0 by omega)]
    have eo':sI (h % 32) (eU m.aC (h % 32))+4=(((sI (h % 32) (eU m.aC (h % 32))).toNat+4:Nat):Int):=by omega
    have hput:=G6.put hm hcl (n:=n) ⟨hn.1,by omega⟩
    have hspf:∃t:List UInt8,WH n 4=some t∧(t == [])=false:=aVL hn
    obtain⟨t,ht1,ht2⟩:=hspf
    have hld:z5 m.aC.Bytes (((sI (h % 32) (eU m.aC (h % 32))).toNat+4:Nat):Int) 4=some (ld m.aC.Bytes ((sI (h % 32) (eU m.aC (h % 32))).toNat+4) 4):=NO hs.2.2.1 (w:=4) (by omega) (by omega) (by omega)
    rw [eo',hld]
    simp only [Option.bind_some,Bool.false_eq_true,if_false,bne_self_eq_false,ht1,ht2,show(aG6 n == [])=false from rfl]
    rw [aSP (by omega) (by omega) ⟨hn.1,by omega⟩,aP4 (by omega) (by omega) ⟨hn.1,by omega⟩]
    exact⟨_,_,rfl,rfl,hput,fun q=>absurd rfl q⟩
  · simp only [decide_eq_false hv,Bool.not_false,if_true,Option.bind_some,show((4:Int) != 0)=true from rfl]
    exact⟨_,_,rfl,rfl,LM.refl hm _,fun _=>rfl⟩
theorem aW5{b:aA}(hm:G6 b.Mem)(h:Int):∃r,YO b.Mem.aC h 0 4=some r∧VP b h 0 4=some r:=by
  have hs:=hm.1.1.1
  have h1:=hs.1
  have hbl:b.Mem.aC.Bytes.length≤maxLen:=by rw [h1];simp [maxLen]
  have hw4:w8 4=some true:=by unfold w8;rw [kD];rfl
  unfold YO VP GM
  rw [l9,oJ,fP,hw4,QO hbl,decide_eq_true hs]
  simp only [Option.bind_some,PJ,HX,show(decide ((1:Int)≤4∧(4:Int)≤7))=true from rfl,Bool.not_true,Bool.false_eq_true,if_false]
  by_cases hh:EE h
  · simp only [decide_eq_true hh,Bool.not_true,Bool.false_eq_true,if_false,kE,if_pos hh,Option.bind_some,C2 hs,y8 hs,hh.mod.1]
    by_cases hcl:eU b.Mem.aC (h % 32) < 0
    · simp only [decide_eq_true hcl,if_true,E3];exact⟨_,rfl,rfl⟩
    · have hcl':0≤eU b.Mem.aC (h % 32):=by omega
      have hgo:=aB5 hcl'
      have hc2:0≤eU b.Mem.aC (h % 32)∧eU b.Mem.aC (h % 32)≤2:=by
        obtain⟨_,q,e⟩:=VV hcl'
        rw [e];exact DJ.1 (by omega)
      have hz:8≤BJ (eU b.Mem.aC (h % 32))∧BJ (eU b.Mem.aC (h % 32))≤40:=by rcases sS hc2 with e | e | e <;> rw [e] <;> decide
      obtain⟨p,i,p6,hi,es,ec,eo,ep⟩:=WZ hcl'
      have hroom:(sI (h % 32) (eU b.Mem.aC (h % 32))).toNat+8≤384:=by
        rw [eo]
        have hcl'':0≤fQ b.Mem.aC p∧fQ b.Mem.aC p≤2:=by rw [←ec];exact hc2
        generalize fQ b.Mem.aC p=c at hi hcl''
        rcases sS hcl'' with rfl | rfl | rfl
        · rw [show(iV 0).toNat=4 from rfl] at hi;rw [show(cK 0).toNat=12 from rfl];omega
        · rw [show(iV 1).toNat=2 from rfl] at hi;rw [show(cK 1).toNat=20 from rfl];omega
        · rw [show(iV 2).toNat=1 from rfl] at hi;rw [show(cK 2).toNat=44 from rfl];omega
      simp only [decide_eq_false hcl,Bool.false_eq_true,if_false,WS,fP,Option.bind_some,aQA hs hcl']
      rw [aZ (x:=BJ (eU b.Mem.aC (h % 32)) - 1) (by omega) (by omega),decide_eq_true (show(0:Int)≤0∧(0:Int)≤BJ (eU b.Mem.aC (h % 32)) - 1 by omega),aZ (x:=BJ (eU b.Mem.aC (h % 32)) - 0) (by omega) (by omega),decide_eq_false (show ¬BJ (eU b.Mem.aC (h % 32)) - 0 < 4 by omega)]
      simp only [Bool.not_true,Bool.false_eq_true,if_false,E3,kE,if_pos hh,(start_eq hs hcl').1,Option.bind_some]
      rw [aZ (x:=sI (h % 32) (eU b.Mem.aC (h % 32))+4+0) (by omega) (by omega),Int.add_zero,decide_eq_false (show ¬sI (h % 32) (eU b.Mem.aC (h % 32))+4 < 0 by omega)]
      have eo':sI (h % 32) (eU b.Mem.aC (h % 32))+4=(((sI (h % 32) (eU b.Mem.aC (h % 32))).toNat+4:Nat):Int):=by omega
      have hld:z5 b.Mem.aC.Bytes (((sI (h % 32) (eU b.Mem.aC (h % 32))).toNat+4:Nat):Int) 4=some (ld b.Mem.aC.Bytes ((sI (h % 32) (eU b.Mem.aC (h % 32))).toNat+4) 4):=NO hs.2.2.1 (w:=4) (by omega) (by omega) (by omega)
      have hls:JE b.Mem.aC.Bytes (((sI (h % 32) (eU b.Mem.aC (h % 32))).toNat+4:Nat):Int) 4=some (ld b.Mem.aC.Bytes ((sI (h % 32) (eU b.Mem.aC (h % 32))).toNat+4) 4):=WU hs.2.2.1 (w:=4) (by omega) (by omega) (by omega)
      rw [eo',hld,hls]
      exact⟨_,rfl,rfl⟩
  · simp only [decide_eq_false hh,Bool.not_false,if_true];exact⟨_,rfl,rfl⟩
end Go.Gv
end
noncomputable section
set_option linter.unusedVariables false
set_option linter.unusedSimpArgs false
set_option linter.unusedSectionVars false
namespace Go.Gv
theorem aVM{l:List cM}(hl:l.length≤maxLen)(f:cM→Bool)(g:cM→Option Bool)(hg:∀x∈l,g x=some (f x)):z8 l g=some (l.any f):=by
  obtain⟨o,e,h⟩:=MR l f (body:=z7 l g) (fun k hk=>by
    simp only [z7]
    rw [if_pos (by simp;omega),aT hk,bV (cG hk hl)]
    simp only [Option.bind_some,hg _ (List.getElem_mem hk)]) (by simp [z7])
  unfold z8 LO
  rw [e]
  cases o with
  | brk u=>simp only at h;simp [GR,PY,h]
  | ret r=>simp only at h;simp [GR,h]
theorem W0{l:List Queue}(hl:l.length≤maxLen)(f:Queue→Bool)(g:Queue→Option Bool)(hg:∀x∈l,g x=some (f x)):pM l g=some (l.any f):=by
  obtain⟨o,e,h⟩:=MR l f (body:=wC l g) (fun k hk=>by
    simp only [wC]
    rw [if_pos (by simp;omega),aT hk,bV (cG hk hl)]
    simp only [Option.bind_some,hg _ (List.getElem_mem hk)]) (by simp [wC])
  unfold pM GQ
  rw [e]
  cases o with
  | brk u=>simp only at h;simp [CG,LL,h]
  | ret r=>simp only at h;simp [CG,h]
def TE(k:Int):Prop:=k=1∨k=2∨k=3∨k=7
instance (k:Int):Decidable (TE k):=by unfold TE;infer_instance
def BM(o:cM):Prop:=(1≤o.Kind∧o.Kind≤7)∧(TE o.Kind∨o.Cell=0)∧(0≤o.Cell∧o.Cell≤1)∧if o.Kind=1 then (0≤o.gD∧o.gD≤100)∧0≤o.eY∧o.eY≤65535 else o.gD=0∧o.eY=0
instance (o:cM):Decidable (BM o):=by unfold BM;infer_instance
theorem hb0(x:Int):(x == 0)=decide (x=0):=by rw [Bool.eq_iff_iff];simp
theorem aW6:TE 1:=.inl rfl
theorem aZA(k:Int):O8 k=some (decide (TE k)):=by
  unfold O8 yF TE
  by_cases h1:k=1
  · simp [h1]
  · by_cases h2:k=2
    · simp [h2]
    · by_cases h3:k=3
      · simp [h3]
      · by_cases h7:k=7
        · simp [h7]
        · simp [h1,h2,h3,h7]
theorem QT(o:cM):CN o=some (decide (BM o)):=by
  unfold CN O9 U5 U6 BM
  rw [fP,aZA,fP,fP,fP]
  by_cases h1:1≤o.Kind∧o.Kind≤7
  · by_cases h2:TE o.Kind
    · by_cases h3:0≤o.Cell∧o.Cell≤1
      · by_cases h4:o.Kind=1
        · by_cases h5:0≤o.gD∧o.gD≤100 <;> simp [h1,h2,h3,h4,h5,aW6] <;> exact hb0 _
        · by_cases h5:o.gD=0 <;> simp [h1,h2,h3,h4,h5,aW6] <;> exact hb0 _
      · simp [h1,h2,h3]
    · by_cases h0:o.Cell=0
      · by_cases h4:o.Kind=1
        · exact absurd (.inl h4) h2
        · by_cases h5:o.gD=0 <;> simp [h1,h2,h0,h4,h5,aW6] <;> exact hb0 _
      · simp [h1,h2,h0]
  · simp [h1]
theorem QU(o:cM):KX o=some (decide (BM o)):=by
  have key:∀x,DB o x=if 1≤o.Kind∧o.Kind≤7 then (if x then some (decide ((0≤o.Cell∧o.Cell≤1)∧if o.Kind=1 then (0≤o.gD∧o.gD≤100)∧0≤o.eY∧o.eY≤65535 else o.gD=0∧o.eY=0):Bool) else some (decide (o.Cell=0∧if o.Kind=1 then (0≤o.gD∧o.gD≤100)∧0≤o.eY∧o.eY≤65535 else o.gD=0∧o.eY=0))) else some false:=fun x=>by
    unfold DB PZ VG VH
    rw [kD,kD,kD,kD]
    by_cases h1:1≤o.Kind∧o.Kind≤7
    · cases x
      · by_cases h0:o.Cell=0
        · by_cases h4:o.Kind=1
          · by_cases h5:0≤o.gD∧o.gD≤100 <;> simp [h1,h0,h4,h5,aW6] <;> exact hb0 _
          · by_cases h5:o.gD=0 <;> simp [h1,h0,h4,h5,aW6] <;> exact hb0 _
        · simp [h1,h0]
      · by_cases h3:0≤o.Cell∧o.Cell≤1
        · by_cases h4:o.Kind=1
          · by_cases h5:0≤o.gD∧o.gD≤100 <;> simp [h1,h3,h4,h5,aW6] <;> exact hb0 _
          · by_cases h5:o.gD=0 <;> simp [h1,h3,h4,h5,aW6] <;> exact hb0 _
        · simp [h1,h3]
    · simp [h1]
  have key2:KX o=DB o (decide (TE o.Kind)):=by
    unfold KX TE
    by_cases h1:o.Kind=1
    · simp [h1]
    · by_cases h2:o.Kind=2
      · simp [h2]
      · by_cases h3:o.Kind=3
        · simp [h3]
        · have h7:(o.Kind == 7)=decide (o.Kind=1∨o.Kind=2∨o.Kind=3∨o.Kind=7):=by rw [Bool.eq_iff_iff];simp [h1,h2,h3]
          rw [if_neg (by simpa using h1),if_neg (by simpa using h2),if_neg (by simpa using h3),h7]
  rw [key2,key]
  unfold BM
  by_cases h1:1≤o.Kind∧o.Kind≤7
  · by_cases h2:TE o.Kind
    · simp only [h1,h2,and_self,decide_true,if_true,true_or,true_and]
    · by_cases h0:o.Cell=0
      · simp [h1,h2,h0]
      · simp [h1,h2,h0]
  · simp [h1]
def aVN(l:List cM):Prop:=∀o∈l,BM o
instance (l:List cM):Decidable (aVN l):=by unfold aVN;infer_instance
def QOk(q:Queue):Prop:=q.kJ.length≤12∧aVN q.kJ
instance (q:Queue):Decidable (QOk q):=by unfold QOk;infer_instance
def LQ(l:List Queue):Prop:=l.length=3∧∀q∈l,QOk q
instance (l:List Queue):Decidable (LQ l):=by unfold LQ;infer_instance
theorem G8{l:List Queue}(hl:l.length≤maxLen):w3 l=some (decide (LQ l)):=by
  unfold w3
  have inner:∀k (hk:k < l.length),l[k].kJ.length≤12→loop (CP l (k:Int)) 0=some (if aVN l[k].kJ then Out.brk () else Out.ret false):=by
    intro k hk h12
    have hb:∀j (hj:j < l[k].kJ.length),CP l (k:Int) (j:Int)=if BM l[k].kJ[j] then some (.next ((j+1:Nat):Int)) else some (.stop (Out.ret false)):=by
      intro j hj
      simp only [CP]
      rw [aT hk,Option.bind_some,if_pos (by simp;omega),Option.bind_some,aT hj,Option.bind_some,QT,Option.bind_some,aZ (by omega) (by omega)]
      by_cases q:BM l[k].kJ[j] <;> simp [q]
    have:=lA (f:=CP l (k:Int)) l[k].kJ (fun j=>(j:Int)) BM (Out.brk ()) (Out.ret false) (fun j hj hp=>by rw [hb j hj,if_pos hp]) (fun j hj hp=>by rw [hb j hj,if_neg hp]) (by
      simp only [CP]
      rw [aT hk,Option.bind_some,if_neg (by simp)])
    refine Eq.trans this ?_
    congr 1
  have hs:∀k (hk:k < l.length),CQ l (k:Int)=if QOk l[k] then some (.next ((k+1:Nat):Int)) else some (.stop (Out.ret false)):=by
    intro k hk
    simp only [CQ]
    rw [if_pos (by simp;omega),aT hk,Option.bind_some]
    by_cases h12:l[k].kJ.length≤12
    · rw [if_neg (by simp;omega),inner k hk h12]
      by_cases q:aVN l[k].kJ
      · rw [if_pos q,if_pos ⟨h12,q⟩]
        simp only [Option.bind_some,aC4,aC3]
        rw [bV (cG hk hl)]
      · rw [if_neg q,if_neg (fun a=>q a.2)];rfl
    · rw [if_pos (by simp;omega),if_neg (fun a=>h12 a.1)]
  have key:loop (CQ l) 0=_:=lA (f:=CQ l) l (fun k=>(k:Int)) QOk (Out.brk ()) (Out.ret false) (fun k hk hp=>by rw [hs k hk,if_pos hp]) (fun k hk hp=>by rw [hs k hk,if_neg hp]) (by simp [CQ])
  rw [key]
  by_cases q:∀x∈l,QOk x
  · rw [if_pos q]
    simp only [Option.bind_some,aC5,aC2]
    congr 1;rw [Bool.eq_iff_iff];simp only [beq_iff_eq,decide_eq_true_eq]
    exact⟨fun a=>⟨by omega,q⟩,fun a=>by have:=a.1;omega⟩
  · rw [if_neg q,decide_eq_false (show ¬LQ l from fun a=>q a.2)];rfl
theorem G9{l:List Queue}(hl:l.length≤maxLen)(hq:∀q∈l,q.kJ.length≤maxLen):AO l=some (decide (LQ l)):=by
  have e1:∀q∈l,S4 q=some (!decide (QOk q)):=by
    intro q hm
    unfold S4 KY
    have e:∀x∈q.kJ,NF x=some (!decide (BM x)):=fun x _=>by
      unfold NF;rw [QU];rfl
    rw [aVM (hq q hm) (fun x=>!decide (BM x)) _ e,uI]
    by_cases h:q.kJ.length≤12
    · rw [if_neg (by simp;omega)]
      by_cases h2:∀x∈q.kJ,BM x
      · rw [decide_eq_true h2,decide_eq_true (show QOk q from ⟨h,h2⟩)];rfl
      · rw [decide_eq_false h2,decide_eq_false (show ¬QOk q from fun a=>h2 a.2)];rfl
    · rw [if_pos (by simp;omega),decide_eq_false (show ¬QOk q from fun a=>h a.1)];rfl
  unfold AO P0
  rw [W0 hl (fun q=>!decide (QOk q)) _ e1,uI]
  by_cases h:l.length=3
  · rw [if_pos (by simp;omega)]
    by_cases h2:∀x∈l,QOk x
    · rw [decide_eq_true h2,decide_eq_true (show LQ l from ⟨h,h2⟩)];rfl
    · rw [decide_eq_false h2,decide_eq_false (show ¬LQ l from fun a=>h2 a.2)];rfl
  · rw [if_neg (by simp;omega),decide_eq_false (show ¬LQ l from fun a=>h a.1)]
def aAZ:bG:=⟨false,⟨0,0,0,0⟩,0,0,⟨0,0,0,0,0,0,0,0,0,false⟩,0,0,0,0⟩
def V6(j:bG):Prop:=if j.g7 then BM j.Op∧cZ j.H∧cZ j.Old else j=aAZ
instance (j:bG):Decidable (V6 j):=by unfold V6;infer_instance
theorem uU{j:bG}(hb:j.g7=true):V6 j↔BM j.Op∧cZ j.H∧cZ j.Old:=by unfold V6;rw [if_pos hb]
theorem zU{j:bG}(hb:j.g7=false):V6 j↔j=aAZ:=by unfold V6;rw [if_neg (by simp [hb])]
def pW(s:aE):Prop:=kP s.aA∧s.Cells.length=2∧s.aR.length=3∧LQ s.aU∧(0≤s.aK∧s.aK≤1000000)∧(∀h∈s.Cells,cZ h)∧∀j∈s.aR,V6 j
instance (s:aE):Decidable (pW s):=by unfold pW;infer_instance
noncomputable section
variable {s:aE} (hf:s.aA.Mem.aC.Bytes.length≤maxLen∧(jW s.aA.Mem.aB).length≤1073741824∧s.aA.aD.aM.length≤maxLen∧s.aA.aH.length≤maxLen∧(bI s.aA.aH).length≤1073741824∧s.aA.bO.length≤maxLen) (ht:s.aU.length≤maxLen) (hq:∀q∈s.aU,q.kJ.length≤maxLen) (hcl:s.Cells.length≤maxLen) (hjl:s.aR.length≤maxLen)
include hf ht
include hq hcl hjl
end
end Go.Gv
end
noncomputable section
set_option linter.unusedVariables false
set_option linter.unusedSimpArgs false
set_option linter.unusedSectionVars false
namespace Go.Gv
theorem W1{α:Type}{l:List α}{w:Int}(h0:0≤w)(h1:w < l.length)(x:α):idx (l.set w.toNat x) w=some x:=by
  unfold idx
  rw [if_pos h0,List.getElem?_set_self (by omega)]
theorem qS{a b:Int}(h:¬a=b):(a == b)=false:=by simpa using h
theorem aB8{a b:Int}(h:¬a=b):(a != b)=true:=by simpa using h
theorem aVO{c:aD}(hc:COk c){w:Int}(hw:0≤w∧w≤2):∃r,WI c w=some r∧aBX c w=some r∧COk r.1∧r.1.aJ=c.aJ:=by
  obtain⟨p,hp,hpk⟩:=aLC hc hw
  unfold WI aBX
  rw [MS hc.small.1,MT hc.small.1,tK,tL hc.small.2,nO,fP,decide_eq_true hc,decide_eq_true hw]
  simp only [Option.bind_some,Bool.not_true,Bool.false_eq_true,if_false,hp,MA,MI]
  cases p.On with
  | true =>
    simp only [Bool.not_true,Bool.false_eq_true,if_false]
    have h0:=hc.1
    exact⟨_,rfl,rfl,hc.aT4 ⟨by simp only;omega,by simp,fun _=>rfl⟩,rfl⟩
  | false=>simp only [Bool.not_false,if_true];exact⟨_,rfl,rfl,hc,rfl⟩
theorem RW.set{z:List Int}(hz:RW z)(k:Nat){h:Int}(hh:cZ h):RW (z.set k h):=⟨by simpa using hz.1,fun q hq=>(List.mem_or_eq_of_mem_set hq).elim (hz.2 q) (fun e=>e ▸ hh)⟩
theorem aW7{z:List Int}(hz:RW z){w:Int}(hw:0≤w∧w≤2)(h:Int):∃r,VB z w h=some r∧VQ z w h=some r∧RW r.1:=by
  have h3:=hz.1
  have hx:idx z w=some (z[w.toNat]'(by omega)):=FO hw.1 (by omega)
  unfold VB VQ
  rw [RX (by omega),DL (by omega),D2 (by simp only [maxLen];omega),D3 (by simp only [maxLen];omega),decide_eq_true hz,fP,nO,decide_eq_true hw,l9,oJ]
  simp only [Option.bind_some,Bool.not_true,Bool.false_eq_true,if_false,HT,HZ,hx]
  by_cases q:EE h
  · simp only [decide_eq_true q,Bool.not_true,Bool.false_eq_true,if_false];exact⟨_,rfl,rfl,hz.set _ (.inr q)⟩
  · simp only [decide_eq_false q,Bool.not_false,if_true];exact⟨_,rfl,rfl,hz⟩
theorem a2H{z:List Int}(hz:RW z){w:Int}(hw:0≤w∧w≤2):∃r,aBR z w=some r∧aBY z w=some r∧RW r.1:=by
  have h3:=hz.1
  have hx:idx z w=some (z[w.toNat]'(by omega)):=FO hw.1 (by omega)
  unfold aBR aBY
  rw [RX (by omega),DL (by omega),D2 (by simp only [maxLen];omega),D3 (by simp only [maxLen];omega),decide_eq_true hz,fP,nO,decide_eq_true hw]
  simp only [Option.bind_some,Bool.not_true,Bool.false_eq_true,if_false,MB,MJ,hx]
  by_cases q:(z[w.toNat]'(by omega))=0
  · simp only [q,beq_self_eq_true,if_true];exact⟨_,rfl,rfl,hz⟩
  · simp only [qS q,Bool.false_eq_true,if_false];exact⟨_,rfl,rfl,hz.set _ (.inl rfl)⟩
theorem kP.clock{b:aA}(hb:kP b){cl:aD}(h:COk cl)(e:b.aD.aJ≤cl.aJ):kP ⟨b.Mem,cl,b.aH,b.bO⟩:=⟨⟨hb.1.1,h,hb.1.2.2⟩,fun r hr=>⟨(hb.2 r hr).1,Int.le_trans (hb.2 r hr).2 e⟩⟩
theorem kP.haz{b:aA}(hb:kP b){z:List Int}(h:RW z):kP ⟨b.Mem,b.aD,b.aH,z⟩:=⟨⟨hb.1.1,hb.1.2.1,hb.1.2.2.1,h⟩,hb.2⟩
theorem kP.mem{b:aA}(hb:kP b){m:Mem}(h:LM b.Mem m (-1)):kP ⟨m,b.aD,b.aH,b.bO⟩:=⟨⟨h.1,hb.1.2⟩,fun r hr=>⟨h.live (hb.2 r hr).1 (by have:=(hb.2 r hr).1.1;unfold EE at this;omega),(hb.2 r hr).2⟩⟩
theorem pW.put{s:aE}(hs:pW s){w:Int}{b:aA}(hb:kP b){c:List Int}(hc:c.length=2∧∀h∈c,cZ h){j:bG}(hj:V6 j)(l:List Ev):pW ⟨b,c,s.aR.set w.toNat j,s.aU,l,s.aK⟩:=
  ⟨hb,hc.1,by simpa using hs.2.2.1,hs.2.2.2.1,hs.2.2.2.2.1,hc.2,fun q hq=>(List.mem_or_eq_of_mem_set hq).elim (hs.2.2.2.2.2.2 q) (fun e=>e ▸ hj)⟩
theorem iU{j:bG}(h:j.g7=true)(h1:BM j.Op∧cZ j.H∧cZ j.Old):V6 j:=(uU h).2 h1
noncomputable section
variable {s:aE} (hs:pW s) (hl:s.Log.length≤1000000000) {w:Int} (hw:0≤w∧w≤2) {j:bG} (hj:idx s.aR w=some j) (hb:j.g7=true) (hjo:BM j.Op∧cZ j.H∧cZ j.Old)
include hs hl hw hj hb hjo
theorem a6P(hk:j.Op.Kind=1):∃x,((YN s w j).bind fun q=>mJ w q.1 q.2)=some x∧QD s w=some x∧pW x∧x.Log.length≤s.Log.length+1:=by
  have h3:=hs.2.2.1
  have hset:∀x,idx (s.aR.set w.toNat x) w=some x:=W1 hw.1 (by omega)
  have hn:∀(e:Ev) {α:Type} (k:Option α),need (s.Log.length + [e].length≤1073741824) k=k:=fun e _ k=>aO (by simp;omega) k
  have hcs:s.Cells.length=2∧∀h∈s.Cells,cZ h:=⟨hs.2.1,hs.2.2.2.2.2.1⟩
  have hcell:idx s.Cells j.Op.Cell=some (s.Cells[j.Op.Cell.toNat]'(by have:=hjo.1.2.2.1;omega)):=FO hjo.1.2.2.1.1 (by have:=hjo.1.2.2.1;omega)
  have hcm:cZ (s.Cells[j.Op.Cell.toNat]'(by have:=hjo.1.2.2.1;omega)):=hcs.2 _ (List.getElem_mem _)
  generalize (s.Cells[j.Op.Cell.toNat]'(by have:=hjo.1.2.2.1;omega))=cell at hcell hcm
  have hval:0≤j.Op.eY∧j.Op.eY≤65535:=by have:=hjo.1.2.2.2;rw [if_pos hk] at this;exact this.2
  unfold YN QD
  rw [hj]
  simp only [Option.bind_some,eF,eD,jR,mJ,xL,vT]
  by_cases p0:j.Pc=0
  · obtain⟨x,y,e1,e2,hx⟩:=step_eq hs.1 hs.1.small hw j.Sub
    simp only [p0,beq_self_eq_true,if_true,e1,e2,Option.bind_some]
    cases hd:y.dW with
    | false=>simp only [Bool.not_false,if_true,Option.bind_some,hj];exact⟨_,rfl,rfl,hs.put hx hcs (by exact iU hb hjo) _,Nat.le_succ _⟩
    | true =>
      simp only [Bool.not_true,Bool.false_eq_true,if_false]
      by_cases c0:y.Code=0
      · simp only [c0,bne_self_eq_false,Bool.false_eq_true,if_false,l9,oJ,Option.bind_some]
        by_cases o0:EE y.Out
        · simp only [decide_eq_true o0,Bool.not_true,Bool.false_eq_true,if_false,Option.bind_some,hj];exact⟨_,rfl,rfl,hs.put hx hcs (by exact iU hb ⟨hjo.1,.inr o0,hjo.2.2⟩) _,Nat.le_succ _⟩
        · simp only [decide_eq_false o0,Bool.not_false,if_true,Option.bind_some,hj];exact⟨_,rfl,rfl,hs.put hx hcs (by exact iU hb hjo) _,Nat.le_succ _⟩
      · simp only [aB8 c0,if_true,Option.bind_some,hj];exact⟨_,rfl,rfl,hs.put hx hcs (by exact iU hb hjo) _,Nat.le_succ _⟩
  simp only [qS p0,Bool.false_eq_true,if_false]
  by_cases p1:j.Pc=1
  · obtain⟨x,c,e1,e2,h1,h2⟩:=aW4 hs.1.1.1 (h:=j.H) hval
    simp only [p1,beq_self_eq_true,if_true,e1,e2,Option.bind_some,QA,hj,eD,jR]
    by_cases c0:c=0
    · simp only [c0,bne_self_eq_false,Bool.false_eq_true,if_false,Option.bind_some,hj];exact⟨_,rfl,rfl,hs.put (hs.1.mem h1) hcs (by exact iU hb hjo) _,Nat.le_succ _⟩
    · have:=h2 c0
      subst this
      simp only [aB8 c0,if_true,Option.bind_some,hj];exact⟨_,rfl,rfl,hs.put hs.1 hcs (by exact iU hb hjo) _,Nat.le_succ _⟩
  simp only [qS p1,Bool.false_eq_true,if_false]
  by_cases p2:j.Pc=2
  · have hc2:(s.Cells.set j.Op.Cell.toNat j.H).length=2∧∀h∈s.Cells.set j.Op.Cell.toNat j.H,cZ h:=⟨by simpa using hcs.1,fun q hq=>(List.mem_or_eq_of_mem_set hq).elim (hcs.2 q) (fun e=>e ▸ hjo.2.1)⟩
    simp only [p2,beq_self_eq_true,if_true,hcell,Option.bind_some,hset,hn,QC,jB,kC,QB,eD,jR,vT]
    by_cases c0:cell=0
    · simp only [c0,beq_self_eq_true,if_true,Option.bind_some,hj,List.set_set];exact⟨_,rfl,rfl,hs.put hs.1 hc2 (by exact iU hb ⟨hjo.1,hjo.2.1,.inl rfl⟩) _,by simp⟩
    · simp only [qS c0,Bool.false_eq_true,if_false,Option.bind_some,hj,List.set_set];exact⟨_,rfl,rfl,hs.put hs.1 hc2 (by exact iU hb ⟨hjo.1,hjo.2.1,hcm⟩) _,by simp⟩
  simp only [qS p2,Bool.false_eq_true,if_false]
  by_cases p3:j.Pc=3
  · obtain⟨x,y,e1,e2,hx⟩:=step_eq hs.1 hs.1.small hw j.Sub
    simp only [p3,beq_self_eq_true,if_true,e1,e2,Option.bind_some]
    cases hd:y.dW with
    | false=>simp only [Bool.not_false,if_true,Bool.false_eq_true,if_false,Option.bind_some,hj];exact⟨_,rfl,rfl,hs.put hx hcs (by exact iU hb hjo) _,Nat.le_succ _⟩
    | true=>simp only [Bool.not_true,if_true,Bool.false_eq_true,if_false,Option.bind_some,hj];exact⟨_,rfl,rfl,hs.put hx hcs (by exact iU hb hjo) _,Nat.le_succ _⟩
  simp only [qS p3,Bool.false_eq_true,if_false,Option.bind_some,hj]
  exact⟨_,rfl,rfl,hs.put hs.1 hcs (by exact iU hb hjo) _,Nat.le_succ _⟩
theorem get_eq(hk:j.Op.Kind=2):∃x,((YP s w j).bind fun q=>mJ w q.1 q.2)=some x∧QE s w=some x∧pW x∧x.Log.length≤s.Log.length+1:=by
  have h3:=hs.2.2.1
  have hset:∀x,idx (s.aR.set w.toNat x) w=some x:=W1 hw.1 (by omega)
  have hn:∀(e:Ev) {α:Type} (k:Option α),need (s.Log.length + [e].length≤1073741824) k=k:=fun e _ k=>aO (by simp;omega) k
  have hcs:s.Cells.length=2∧∀h∈s.Cells,cZ h:=⟨hs.2.1,hs.2.2.2.2.2.1⟩
  have hcell:idx s.Cells j.Op.Cell=some (s.Cells[j.Op.Cell.toNat]'(by have:=hjo.1.2.2.1;omega)):=FO hjo.1.2.2.1.1 (by have:=hjo.1.2.2.1;omega)
  have hcm:cZ (s.Cells[j.Op.Cell.toNat]'(by have:=hjo.1.2.2.1;omega)):=hcs.2 _ (List.getElem_mem _)
  generalize (s.Cells[j.Op.Cell.toNat]'(by have:=hjo.1.2.2.1;omega))=cell at hcell hcm
  obtain⟨pn,hpn,_⟩:=aLC hs.1.1.2.1 hw
  unfold YP QE
  rw [hj]
  simp only [Option.bind_some,eF,eD,jR,mJ]
  by_cases p0:j.Pc=0
  · obtain⟨x,y,e1,e2,hx⟩:=step_eq hs.1 hs.1.small hw j.Sub
    simp only [p0,beq_self_eq_true,if_true,e1,e2,Option.bind_some]
    cases hd:y.dW with
    | false=>simp only [Bool.not_false,if_true,Bool.false_eq_true,if_false,Option.bind_some,hj];exact⟨_,rfl,rfl,hs.put hx hcs (by exact iU hb hjo) _,Nat.le_succ _⟩
    | true=>simp only [Bool.not_true,if_true,Bool.false_eq_true,if_false,Option.bind_some,hj];exact⟨_,rfl,rfl,hs.put hx hcs (by exact iU hb hjo) _,Nat.le_succ _⟩
  simp only [qS p0,Bool.false_eq_true,if_false]
  by_cases p1:j.Pc=1
  · simp only [p1,beq_self_eq_true,if_true,hcell,Option.bind_some,zZ,hn,JT,hj,jB,kC,hset]
    by_cases c0:cell=0
    · simp only [c0,beq_self_eq_true,if_true,Option.bind_some,hj,List.set_set];exact⟨_,rfl,rfl,hs.put hs.1 hcs (by exact iU hb ⟨hjo.1,.inl rfl,hjo.2.2⟩) _,by simp⟩
    · simp only [qS c0,Bool.false_eq_true,if_false,Option.bind_some,hj,List.set_set];exact⟨_,rfl,rfl,hs.put hs.1 hcs (by exact iU hb ⟨hjo.1,hcm,hjo.2.2⟩) _,by simp⟩
  simp only [qS p1,Bool.false_eq_true,if_false]
  by_cases p2:j.Pc=2
  · obtain⟨r,e1,e2⟩:=aW5 hs.1.1.1 j.H
    simp only [p2,beq_self_eq_true,if_true,GK,y5,hj,e1,e2,Option.bind_some,hset,List.set_set]
    exact⟨_,rfl,rfl,hs.put hs.1 hcs (by exact iU hb hjo) _,Nat.le_succ _⟩
  simp only [qS p2,Bool.false_eq_true,if_false]
  by_cases p3:j.Pc=3
  · simp only [p3,beq_self_eq_true,if_true,L9,zS,hj,hpn,Option.bind_some,jR,GV,wF,E4,eF]
    cases pn.On with
    | false=>simp only [Bool.false_eq_true,if_false,Option.bind_some,Bool.not_false,if_true,hj];exact⟨_,rfl,rfl,hs.put hs.1 hcs (by exact iU hb hjo) _,Nat.le_succ _⟩
    | true =>
      simp only [if_true,Option.bind_some]
      cases pn.jD with
      | false=>simp only [Bool.false_eq_true,if_false,Option.bind_some,Bool.not_false,Bool.not_true,if_true,hj];exact⟨_,rfl,rfl,hs.put hs.1 hcs (by exact iU hb hjo) _,Nat.le_succ _⟩
      | true=>simp only [Bool.false_eq_true,if_false,Option.bind_some,Bool.not_false,Bool.not_true,if_true,hj];exact⟨_,rfl,rfl,hs.put hs.1 hcs (by exact iU hb hjo) _,Nat.le_succ _⟩
  simp only [qS p3,Bool.false_eq_true,if_false]
  by_cases p4:j.Pc=4
  · obtain⟨r,e1,e2,h1,h2⟩:=aVO hs.1.1.2.1 hw
    simp only [p4,beq_self_eq_true,if_true,e1,e2,HY,Option.bind_some,hj]
    exact⟨_,rfl,rfl,hs.put (hs.1.clock h1 (by rw [h2];exact Int.le_refl _)) hcs (by exact iU hb hjo) _,Nat.le_succ _⟩
  simp only [qS p4,Bool.false_eq_true,if_false,Option.bind_some,hj]
  exact⟨_,rfl,rfl,hs.put hs.1 hcs (by exact iU hb hjo) _,Nat.le_succ _⟩
theorem a6Q(hk:j.Op.Kind=3):∃x,((YQ s w j).bind fun q=>mJ w q.1 q.2)=some x∧QH s w=some x∧pW x∧x.Log.length≤s.Log.length+1:=by
  have h3:=hs.2.2.1
  have hset:∀x,idx (s.aR.set w.toNat x) w=some x:=W1 hw.1 (by omega)
  have hn:∀(e:Ev) {α:Type} (k:Option α),need (s.Log.length + [e].length≤1073741824) k=k:=fun e _ k=>aO (by simp;omega) k
  have hcs:s.Cells.length=2∧∀h∈s.Cells,cZ h:=⟨hs.2.1,hs.2.2.2.2.2.1⟩
  have hcell:idx s.Cells j.Op.Cell=some (s.Cells[j.Op.Cell.toNat]'(by have:=hjo.1.2.2.1;omega)):=FO hjo.1.2.2.1.1 (by have:=hjo.1.2.2.1;omega)
  have hcm:cZ (s.Cells[j.Op.Cell.toNat]'(by have:=hjo.1.2.2.1;omega)):=hcs.2 _ (List.getElem_mem _)
  generalize (s.Cells[j.Op.Cell.toNat]'(by have:=hjo.1.2.2.1;omega))=cell at hcell hcm
  unfold YQ QH
  rw [hj]
  simp only [Option.bind_some,eF,eD,jR,mJ,QF,QG]
  by_cases p0:j.Pc=0
  · simp only [p0,beq_self_eq_true,if_true,hcell,Option.bind_some,zZ,hn,hj,jB,kC,hset]
    by_cases c0:cell=0
    · simp only [c0,beq_self_eq_true,if_true,Option.bind_some,hj,List.set_set,hn];exact⟨_,rfl,rfl,hs.put hs.1 hcs (by exact iU hb ⟨hjo.1,.inl rfl,hjo.2.2⟩) _,by simp⟩
    · simp only [qS c0,Bool.false_eq_true,if_false,Option.bind_some,hj,List.set_set];exact⟨_,rfl,rfl,hs.put hs.1 hcs (by exact iU hb ⟨hjo.1,hcm,hjo.2.2⟩) _,Nat.le_succ _⟩
  simp only [qS p0,Bool.false_eq_true,if_false]
  by_cases p1:j.Pc=1
  · obtain⟨r,e1,e2,h1⟩:=aW7 hs.1.1.2.2.2 hw j.H
    simp only [p1,beq_self_eq_true,if_true,e1,e2,Option.bind_some,hj]
    exact⟨_,rfl,rfl,hs.put (hs.1.haz h1) hcs (by exact iU hb hjo) _,Nat.le_succ _⟩
  simp only [qS p1,Bool.false_eq_true,if_false]
  by_cases p2:j.Pc=2
  · simp only [p2,beq_self_eq_true,if_true,hcell,Option.bind_some,zZ,hn,hj,jB,kC]
    by_cases c0:cell=j.H
    · simp only [c0,bne_self_eq_false,Bool.false_eq_true,if_false,Option.bind_some,hj];exact⟨_,rfl,rfl,hs.put hs.1 hcs (by exact iU hb hjo) _,by simp⟩
    · simp only [aB8 c0,if_true,Option.bind_some,hj];exact⟨_,rfl,rfl,hs.put hs.1 hcs (by exact iU hb hjo) _,Nat.le_succ _⟩
  simp only [qS p2,Bool.false_eq_true,if_false]
  by_cases p3:j.Pc=3
  · obtain⟨r,e1,e2⟩:=aW5 hs.1.1.1 j.H
    simp only [p3,beq_self_eq_true,if_true,GK,y5,hj,e1,e2,Option.bind_some,hset,List.set_set]
    exact⟨_,rfl,rfl,hs.put hs.1 hcs (by exact iU hb hjo) _,Nat.le_succ _⟩
  simp only [qS p3,Bool.false_eq_true,if_false]
  by_cases p4:j.Pc=4
  · obtain⟨r,e1,e2,h1⟩:=a2H hs.1.1.2.2.2 hw
    simp only [p4,beq_self_eq_true,if_true,e1,e2,Option.bind_some,hj]
    exact⟨_,rfl,rfl,hs.put (hs.1.haz h1) hcs (by exact iU hb hjo) _,Nat.le_succ _⟩
  simp only [qS p4,Bool.false_eq_true,if_false,Option.bind_some,hj]
  exact⟨_,rfl,rfl,hs.put hs.1 hcs (by exact iU hb hjo) _,Nat.le_succ _⟩
theorem a4I(hk:j.Op.Kind=7):∃x,((VC s w j).bind fun q=>mJ w q.1 q.2)=some x∧NL s w=some x∧pW x∧x.Log.length≤s.Log.length+1:=by
  have h3:=hs.2.2.1
  have hset:∀x,idx (s.aR.set w.toNat x) w=some x:=W1 hw.1 (by omega)
  have hn:∀(e:Ev) {α:Type} (k:Option α),need (s.Log.length + [e].length≤1073741824) k=k:=fun e _ k=>aO (by simp;omega) k
  have hcs:s.Cells.length=2∧∀h∈s.Cells,cZ h:=⟨hs.2.1,hs.2.2.2.2.2.1⟩
  have hcell:idx s.Cells j.Op.Cell=some (s.Cells[j.Op.Cell.toNat]'(by have:=hjo.1.2.2.1;omega)):=FO hjo.1.2.2.1.1 (by have:=hjo.1.2.2.1;omega)
  have hcm:cZ (s.Cells[j.Op.Cell.toNat]'(by have:=hjo.1.2.2.1;omega)):=hcs.2 _ (List.getElem_mem _)
  generalize (s.Cells[j.Op.Cell.toNat]'(by have:=hjo.1.2.2.1;omega))=cell at hcell hcm
  obtain⟨pn,hpn,_⟩:=aLC hs.1.1.2.1 hw
  unfold VC NL
  rw [hj,hpn]
  simp only [Option.bind_some,eF,eD,jR,mJ,N3,GX,GW,hj]
  by_cases p0:j.Pc=0
  · simp only [p0,beq_self_eq_true,if_true]
    cases pn.On with
    | false=>simp only [Bool.not_false,if_true,Option.bind_some,hj];exact⟨_,rfl,rfl,hs.put hs.1 hcs (by exact iU hb hjo) _,Nat.le_succ _⟩
    | true =>
      simp only [Bool.not_true,Bool.false_eq_true,if_false]
      cases pn.jD with
      | true=>simp only [if_true,Option.bind_some,hj];exact⟨_,rfl,rfl,hs.put hs.1 hcs (by exact iU hb hjo) _,Nat.le_succ _⟩
      | false =>
        simp only [Bool.false_eq_true,if_false,hcell,Option.bind_some,zZ,hn,JT,hj,jB,kC,hset]
        by_cases c0:cell=0
        · simp only [c0,beq_self_eq_true,if_true,Option.bind_some,hj,List.set_set];exact⟨_,rfl,rfl,hs.put hs.1 hcs (by exact iU hb ⟨hjo.1,.inl rfl,hjo.2.2⟩) _,by simp⟩
        · simp only [qS c0,Bool.false_eq_true,if_false,Option.bind_some,hj,List.set_set];exact⟨_,rfl,rfl,hs.put hs.1 hcs (by exact iU hb ⟨hjo.1,hcm,hjo.2.2⟩) _,by simp⟩
  simp only [qS p0,Bool.false_eq_true,if_false,hj,Option.bind_some]
  by_cases p1:j.Pc=1
  · obtain⟨r,e1,e2⟩:=aW5 hs.1.1.1 j.H
    simp only [p1,beq_self_eq_true,if_true,GK,y5,hj,e1,e2,Option.bind_some,hset,List.set_set]
    exact⟨_,rfl,rfl,hs.put hs.1 hcs (by exact iU hb hjo) _,Nat.le_succ _⟩
  simp only [qS p1,Bool.false_eq_true,if_false]
  by_cases p2:j.Pc=2
  · simp only [p2,beq_self_eq_true,if_true,L9,zS,hj,hpn,Option.bind_some,jR,GV,wF,E4,eF]
    cases pn.On with
    | false=>simp only [Bool.false_eq_true,if_false,Option.bind_some,Bool.not_false,if_true,hj];exact⟨_,rfl,rfl,hs.put hs.1 hcs (by exact iU hb hjo) _,Nat.le_succ _⟩
    | true =>
      simp only [if_true,Option.bind_some]
      cases pn.jD with
      | false=>simp only [Bool.false_eq_true,if_false,Option.bind_some,Bool.not_false,Bool.not_true,if_true,hj];exact⟨_,rfl,rfl,hs.put hs.1 hcs (by exact iU hb hjo) _,Nat.le_succ _⟩
      | true=>simp only [Bool.false_eq_true,if_false,Option.bind_some,Bool.not_false,Bool.not_true,if_true,hj];exact⟨_,rfl,rfl,hs.put hs.1 hcs (by exact iU hb hjo) _,Nat.le_succ _⟩
  simp only [qS p2,Bool.false_eq_true,if_false,Option.bind_some,hj]
  exact⟨_,rfl,rfl,hs.put hs.1 hcs (by exact iU hb hjo) _,Nat.le_succ _⟩
theorem a2I(hk:j.Op.Kind=4∨j.Op.Kind=5∨j.Op.Kind=6):∃x,((SX s w j).bind fun q=>mJ w q.1 q.2)=some x∧K6 s w=some x∧pW x∧x.Log.length≤s.Log.length+1:=by
  have h3:=hs.2.2.1
  have hset:∀x,idx (s.aR.set w.toNat x) w=some x:=W1 hw.1 (by omega)
  have hcs:s.Cells.length=2∧∀h∈s.Cells,cZ h:=⟨hs.2.1,hs.2.2.2.2.2.1⟩
  obtain⟨x,y,e1,e2,hx⟩:=step_eq hs.1 hs.1.small hw j.Sub
  unfold SX K6
  rw [hj]
  simp only [Option.bind_some,eF,eD,jR,mJ,xL,vT,KU,AW,ET,EO,ES,ER,EP,hj,e1,e2]
  rcases hk with k4 | k5 | k6
  · simp only [k4,show((4:Int) == 6)=false from rfl,show((4:Int) == 5)=false from rfl,show((4:Int) == 4)=true from rfl,Bool.false_eq_true,if_false,if_true]
    by_cases p0:j.Pc=0
    · simp only [p0,bne_self_eq_false,beq_self_eq_true,Bool.false_eq_true,if_false,if_true]
      cases hd:y.dW with
      | false=>simp only [Bool.not_false,if_true,Bool.false_eq_true,if_false,Option.bind_some,hj];exact⟨_,rfl,rfl,hs.put hx hcs (by exact iU hb hjo) _,Nat.le_succ _⟩
      | true=>simp only [Bool.not_true,if_true,Bool.false_eq_true,if_false,Option.bind_some,hj];exact⟨_,rfl,rfl,hs.put hx hcs (by exact iU hb hjo) _,Nat.le_succ _⟩
    · simp only [aB8 p0,qS p0,Bool.false_eq_true,if_false,if_true]
      by_cases p1:j.Pc=1
      · simp only [p1,bne_self_eq_false,beq_self_eq_true,Bool.false_eq_true,if_false,if_true,show((1:Int) == 0)=false from rfl]
        cases hd:y.dW with
        | false=>simp only [Bool.not_false,if_true,Bool.false_eq_true,if_false,Option.bind_some,hj];exact⟨_,rfl,rfl,hs.put hx hcs (by exact iU hb hjo) _,Nat.le_succ _⟩
        | true=>simp only [Bool.not_true,if_true,Bool.false_eq_true,if_false,Option.bind_some,hj];exact⟨_,rfl,rfl,hs.put hx hcs (by exact iU hb hjo) _,Nat.le_succ _⟩
      · simp only [aB8 p1,qS p1,Bool.false_eq_true,if_false,if_true,Option.bind_some,hj]
        exact⟨_,rfl,rfl,hs.put hs.1 hcs (by exact iU hb hjo) _,Nat.le_succ _⟩
  · simp only [k5,show((5:Int) == 6)=false from rfl,show((5:Int) == 5)=true from rfl,show((5:Int) == 4)=false from rfl,Bool.false_eq_true,if_false,if_true]
    by_cases p0:j.Pc=0
    · simp only [p0,bne_self_eq_false,beq_self_eq_true,Bool.false_eq_true,if_false,if_true]
      cases hd:y.dW with
      | false=>simp only [Bool.not_false,if_true,Bool.false_eq_true,if_false,Option.bind_some,hj];exact⟨_,rfl,rfl,hs.put hx hcs (by exact iU hb hjo) _,Nat.le_succ _⟩
      | true=>simp only [Bool.not_true,if_true,Bool.false_eq_true,if_false,Option.bind_some,hj];exact⟨_,rfl,rfl,hs.put hx hcs (by exact iU hb hjo) _,Nat.le_succ _⟩
    · simp only [aB8 p0,qS p0,Bool.false_eq_true,if_false,if_true]
      by_cases p1:j.Pc=1
      · simp only [p1,bne_self_eq_false,Bool.false_eq_true,if_false,if_true,Option.bind_some,hj]
        exact⟨_,rfl,rfl,hs.put hs.1 hcs (by exact iU hb hjo) _,Nat.le_succ _⟩
      · simp only [aB8 p1,if_true,Option.bind_some,hj]
        exact⟨_,rfl,rfl,hs.put hs.1 hcs (by exact iU hb hjo) _,Nat.le_succ _⟩
  · simp only [k6,beq_self_eq_true,show((6:Int) == 5)=false from rfl,show((6:Int) == 4)=false from rfl,Bool.false_eq_true,if_false,if_true]
    by_cases p0:j.Pc=0
    · obtain⟨r,f1,f2,h1,h2⟩:=aVO hs.1.1.2.1 hw
      simp only [p0,beq_self_eq_true,if_true,f1,f2,HY,Option.bind_some]
      cases hr:r.2 with
      | false=>simp only [Bool.not_false,if_true,Option.bind_some,hj];exact⟨_,rfl,rfl,hs.put (hs.1.clock h1 (by rw [h2];exact Int.le_refl _)) hcs (by exact iU hb hjo) _,Nat.le_succ _⟩
      | true=>simp only [Bool.not_true,Bool.false_eq_true,if_false,Option.bind_some,hj];exact⟨_,rfl,rfl,hs.put (hs.1.clock h1 (by rw [h2];exact Int.le_refl _)) hcs (by exact iU hb hjo) _,Nat.le_succ _⟩
    · simp only [qS p0,Bool.false_eq_true,if_false,Option.bind_some,hj]
      exact⟨_,rfl,rfl,hs.put hs.1 hcs (by exact iU hb hjo) _,Nat.le_succ _⟩
end
theorem aW8{l:List cM}(h:0 < l.length)(hl:l.length≤1000):KZ l 0 1=some (l.drop 1):=by
  have e:=del_eq (l:=l) (k:=0) h
  unfold KZ
  rw [aO (by omega),if_neg (by simp),aO (by omega),aO (by omega),aO (by omega),aO]
  · simp only [Int.toNat_zero,Int.toNat_one] at e ⊢
    rw [Nat.zero_add] at e
    rw [Nat.zero_add,e,List.eraseIdx_zero,List.drop_one]
  · rw [jX (by omega)]
    simp only [List.drop_zero,List.length_take,jX (show(0:Int).toNat≤l.length by simp)]
    omega
theorem aQB{o:cM}(ho:BM o)(ser pc:Int)(sub:Sub)(code:Int):V6 ⟨true,o,ser,pc,sub,0,0,0,code⟩:=(uU rfl).2 ⟨ho,.inl rfl,.inl rfl⟩
theorem a2J{s:aE}(hs:pW s)(hl:s.Log.length≤1000000000){w:Int}(hw:0≤w∧w≤2){j:bG}(hj:idx s.aR w=some j):∃x,SQ s w=some x∧K0 s w=some x∧pW x∧x.Log.length≤s.Log.length+1:=by
  have h3:=hs.2.2.1
  have ht:=hs.2.2.2.1
  have hser:=hs.2.2.2.2.1
  have hset:∀x,idx (s.aR.set w.toNat x) w=some x:=W1 hw.1 (by omega)
  have hn:∀(e:Ev) {α:Type} (k:Option α),need (s.Log.length + [e].length≤1073741824) k=k:=fun e _ k=>aO (by simp;omega) k
  have hq:idx s.aU w=some (s.aU[w.toNat]'(by have:=ht.1;omega)):=FO hw.1 (by have:=ht.1;omega)
  have hqk:QOk (s.aU[w.toNat]'(by have:=ht.1;omega)):=ht.2 _ (List.getElem_mem _)
  generalize (s.aU[w.toNat]'(by have:=ht.1;omega))=q at hq hqk
  obtain⟨pn,hpn,_⟩:=aLC hs.1.1.2.1 hw
  have ew:aI (s.aK+1)=s.aK+1:=aZ (by omega) (by omega)
  unfold SQ K0
  rw [hq]
  simp only [Option.bind_some,KP,EL]
  by_cases l0:q.kJ.length=0
  · simp only [show((q.kJ.length:Int) == 0)=true by rw [l0];rfl,if_true]
    exact⟨_,rfl,rfl,hs,Nat.le_succ _⟩
  · simp only [show((q.kJ.length:Int) == 0)=false from qS (by omega),Bool.false_eq_true,if_false]
    by_cases s0:s.aK=1000000
    · simp only [s0,beq_self_eq_true,if_true]
      exact⟨_,rfl,rfl,hs,Nat.le_succ _⟩
    · simp only [qS s0,Bool.false_eq_true,if_false,hq,Option.bind_some]
      have hx:idx q.kJ 0=some (q.kJ[0]'(by omega)):=by have:=aT (l:=q.kJ) (k:=0) (by omega);simpa using this
      have ho:BM (q.kJ[0]'(by omega)):=hqk.2 _ (List.getElem_mem _)
      have h12:=hqk.1
      have hdel:=aW8 (l:=q.kJ) (by omega) (by omega)
      generalize (q.kJ[0]'(by omega))=o at hx ho
      have etk:(q.kJ.take q.kJ.length).drop (1:Int).toNat=q.kJ.drop 1:=by rw [List.take_length];rfl
      have hT:LQ (s.aU.set w.toNat ⟨q.kJ.drop 1⟩):=⟨by simpa using ht.1,fun z hz=>(List.mem_or_eq_of_mem_set hz).elim (ht.2 z) (fun e=>by
        subst e
        exact⟨by simp only [List.length_drop];omega,fun a ha=>hqk.2 a (List.mem_of_mem_drop ha)⟩)⟩
      have fin:∀(jb:bG) (l:List Ev),V6 jb→pW ⟨s.aA,s.Cells,s.aR.set w.toNat jb,s.aU.set w.toNat ⟨q.kJ.drop 1⟩,l,s.aK+1⟩:=fun jb l hjb=>
        ⟨hs.1,hs.2.1,by simpa using h3,hT,by simp only;omega,hs.2.2.2.2.2.1,fun z hz=>(List.mem_or_eq_of_mem_set hz).elim (hs.2.2.2.2.2.2 z) (fun e=>e ▸ hjb)⟩
      simp only [hx,hdel,Option.bind_some,xL,vT,ew]
      rw [aO (by omega)]
      by_cases k1:o.Kind=1
      · simp only [k1,beq_self_eq_true,if_true,nY,lE,hj,jB,kC,Option.bind_some,hset,hn,etk,ew]
        exact⟨_,rfl,rfl,fin _ _ (aQB ho _ _ _ _),by simp⟩
      simp only [qS k1,Bool.false_eq_true,if_false]
      have pin:∀z,z=true→∃x,AU s w q o z=some x∧vP s w o (q.kJ.drop 1) z=some x∧pW x∧x.Log.length≤s.Log.length+1:=fun z hz=>by
        subst hz
        simp only [AU,vP,if_true,xL,vT,hpn,Option.bind_some,eD]
        cases pn.On with
        | true =>
          simp only [if_true,nY,lE,hj,jB,kC,Option.bind_some,hset,hn,etk,ew]
          exact⟨_,rfl,rfl,fin _ _ (aQB ho _ _ _ _),by simp⟩
        | false =>
          simp only [Bool.false_eq_true,if_false,nY,lE,hj,jB,kC,Option.bind_some,hset,hn,etk,ew]
          exact⟨_,rfl,rfl,fin _ _ (aQB ho _ _ _ _),by simp⟩
      by_cases k2:o.Kind=2
      · simp only [k2,beq_self_eq_true,if_true];exact pin true rfl
      simp only [qS k2,Bool.false_eq_true,if_false]
      by_cases k5:o.Kind=5
      · simp only [k5,beq_self_eq_true];exact pin true rfl
      simp only [qS k5,AU,vP,Bool.false_eq_true,if_false,xL,vT,Option.bind_some]
      by_cases k4:o.Kind=4
      · simp only [k4,beq_self_eq_true,if_true,nY,lE,hj,jB,kC,Option.bind_some,hset,hn,etk,ew]
        exact⟨_,rfl,rfl,fin _ _ (aQB ho _ _ _ _),by simp⟩
      · simp only [qS k4,Bool.false_eq_true,if_false,nY,lE,hj,jB,kC,Option.bind_some,hset,hn,etk,ew]
        exact⟨_,rfl,rfl,fin _ _ (aQB ho _ _ _ _),by simp⟩
theorem HA{s:aE}(hs:pW s)(hl:s.Log.length≤1000000000){w:Int}(hw:0≤w∧w≤2):∃x,DS s w=some x∧rV s w=some x∧pW x∧x.Log.length≤s.Log.length+1:=by
  have h3:=hs.2.2.1
  have hset:∀x,idx (s.aR.set w.toNat x) w=some x:=W1 hw.1 (by omega)
  have hn:∀(e:Ev) {α:Type} (k:Option α),need (s.Log.length + [e].length≤1073741824) k=k:=fun e _ k=>aO (by simp;omega) k
  have hj:idx s.aR w=some (s.aR[w.toNat]'(by omega)):=FO hw.1 (by omega)
  have hjk:V6 (s.aR[w.toNat]'(by omega)):=hs.2.2.2.2.2.2 _ (List.getElem_mem _)
  generalize (s.aR[w.toNat]'(by omega))=j at hj hjk
  unfold DS rV
  rw [hj]
  simp only [Option.bind_some]
  cases hb:j.g7 with
  | false =>
    obtain⟨x,e1,e2,e3,e4⟩:=a2J hs hl hw hj
    simp only [Bool.not_false,if_true,e1,e2,Option.bind_some]
    exact⟨_,rfl,rfl,e3,e4⟩
  | true =>
    have hjo:=(uU hb).1 hjk
    simp only [Bool.not_true,Bool.false_eq_true,if_false]
    by_cases p9:j.Pc=9
    · simp only [p9,beq_self_eq_true,if_true,hn,jB,kC,hj,Option.bind_some]
      exact⟨_,rfl,rfl,hs.put hs.1 ⟨hs.2.1,hs.2.2.2.2.2.1⟩ ((zU rfl).2 rfl) _,by simp⟩
    simp only [qS p9,Bool.false_eq_true,if_false]
    have close:∀{A B:Option aE} {x:aE},A=some x→B=some x→pW x→x.Log.length≤s.Log.length+1→∃x,A=some x∧(B.bind fun z=>some z)=some x∧pW x∧x.Log.length≤s.Log.length+1:=fun h1 h2 h3 h4=>⟨_,h1,by rw [h2];rfl,h3,h4⟩
    by_cases k1:j.Op.Kind=1
    · obtain⟨x,e1,e2,e3,e4⟩:=a6P hs hl hw hj hb hjo k1
      simp only [k1,beq_self_eq_true,if_true];exact close e1 e2 e3 e4
    simp only [qS k1,Bool.false_eq_true,if_false]
    by_cases k2:j.Op.Kind=2
    · obtain⟨x,e1,e2,e3,e4⟩:=get_eq hs hl hw hj hb hjo k2
      simp only [k2,beq_self_eq_true,if_true];exact close e1 e2 e3 e4
    simp only [qS k2,Bool.false_eq_true,if_false]
    by_cases k3:j.Op.Kind=3
    · obtain⟨x,e1,e2,e3,e4⟩:=a6Q hs hl hw hj hb hjo k3
      simp only [k3,beq_self_eq_true,if_true];exact close e1 e2 e3 e4
    simp only [qS k3,Bool.false_eq_true,if_false]
    by_cases k7:j.Op.Kind=7
    · obtain⟨x,e1,e2,e3,e4⟩:=a4I hs hl hw hj hb hjo k7
      simp only [k7,beq_self_eq_true,if_true];exact close e1 e2 e3 e4
    simp only [qS k7,Bool.false_eq_true,if_false]
    have hkr:=hjo.1.1
    obtain⟨x,e1,e2,e3,e4⟩:=a2I hs hl hw hj hb hjo (by omega)
    exact close e1 e2 e3 e4
end Go.Gv
end
noncomputable section
set_option linter.unusedVariables false
set_option linter.unusedSimpArgs false
namespace Go.Gv
theorem LA{α:Type}{f:α→Nat}:∀{l:List α} {x:α},x∈l→f x≤(l.map f).sum
  | y :: r, x, h => by
    rcases List.mem_cons.1 h with rfl | h
    · simp
    · have:=LA (f:=f) h;simp;omega
theorem VW{α:Type}{sz:α→Nat}{f:Int×Int→Option (Step (Int×Int) (Out Int Int))}(l:List α)(hl:l.length≤maxLen)
    (hf:∀(k:Nat) (hk:k < l.length) (n:Int),0≤n→n≤1048576→f (n,(k:Int))=if (sz l[k]:Int)≤n then some (.next (n - sz l[k],((k+1:Nat):Int))) else some (.stop (.ret (-1)))) (he:∀n:Int,f (n,(l.length:Int))=some (.stop (.brk n)))
    {n:Int} (h0:0≤n) (h1:n≤1048576):loop f (n,0)=some (if ((l.map sz).sum:Int)≤n then .brk (n - (l.map sz).sum) else .ret (-1)):=by
  have key:∀(d k:Nat) (n:Int),k+d=l.length→0≤n→n≤1048576→loop f (n,(k:Int))=some (if (((l.drop k).map sz).sum:Int)≤n then .brk (n - ((l.drop k).map sz).sum) else .ret (-1)):=by
    intro d
    induction d with
    | zero =>
      intro k n hk h0 h1
      obtain rfl:k=l.length:=by omega
      rw [cX (he n),List.drop_length,if_pos (by simpa using h0)];simp
    | succ d ih =>
      intro k n hk h0 h1
      have hk':k < l.length:=by omega
      have hd:l.drop k=l[k] :: l.drop (k+1):=List.drop_eq_getElem_cons hk'
      have e:((l.drop k).map sz).sum=sz l[k]+((l.drop (k+1)).map sz).sum:=by rw [hd,List.map_cons,List.sum_cons]
      rw [e]
      by_cases q:(sz l[k]:Int)≤n
      · rw [cO (by rw [hf k hk' n h0 h1,if_pos q]),ih (k+1) _ (by omega) (by omega) (by omega)]
        by_cases q2:(((l.drop (k+1)).map sz).sum:Int)≤n - sz l[k]
        · rw [if_pos q2,if_pos (by omega)];congr 2;omega
        · rw [if_neg q2,if_neg (by omega)]
      · rw [cX (by rw [hf k hk' n h0 h1,if_neg q]),if_neg (by omega)]
  have:=key l.length 0 n (by omega) h0 h1
  simpa using this
def bK(l:List Int):Nat:=l.length
theorem aG8(l:List Int):l.length≤bK l:=by unfold bK;omega
theorem uV{l:List Int}(hf:fit l){n:Int}(h0:0≤n)(h1:n≤1048576):jF l n=some (if (bK l:Int)≤n then n - bK l else -1):=by
  have hm:l.length≤9223372036854775807:=hf.1
  unfold jF bK
  rw [aZ (by omega) (by omega)]
  by_cases h:(l.length:Int)≤n
  · rw [if_pos h,if_neg (by simp;omega)]
  · rw [if_neg h,if_pos (by simp;omega)]
theorem uW{l:List Int}(h:bK l≤4194304):jG l=some l:=by
  have hl:=aG8 l
  unfold jG
  rw [aO (by omega),Int.toNat_natCast,l8 l id]
  · simp [aED,aEC]
  · intro acc k hk he
    simp only [WJ]
    rw [if_pos (by simp;omega),aT hk]
    simp only [Option.bind_some]
    rw [aT (by omega)]
    simp only [Option.bind_some]
    rw [aZ (by omega) (by omega)]
    simp
  · intro acc
    simp [WJ]
theorem rJ{l:List Int}(h:bK l≤4194304):xP l l=some true:=by
  have hl:=aG8 l
  unfold xP
  have key:loop (JU l l) 0=some (Out.brk ()):=by
    refine fI (f:=JU l l) l.length (fun k=>(k:Int)) _ (fun k hk=>?_) ?_
    · simp only [JU]
      rw [if_pos (by simp;omega),aT hk,aZ (by omega) (by omega)]
      simp
    · simp [JU]
  simp [key,aEL,aEK]
def dE(v:aC):Nat:=bK v.Bytes+bK v.Class
def cP(v:aG):Nat:=bK v.bB
def bU(l:List aG):Nat:=l.length+(l.map cP).sum
def dA(v:aB):Nat:=bU v.Global+bU v.bA
def dP(v:Mem):Nat:=dE v.aC+dA v.aB
def eV(l:List cQ):Nat:=l.length
def dB(v:aD):Nat:=eV v.aM
def eE(l:List bP):Nat:=l.length
def cW(v:aP):Nat:=eE v.Rows
def bZ(l:List aP):Nat:=l.length+(l.map cW).sum
def bX(v:aA):Nat:=dP v.Mem+dB v.aD+bZ v.aH+bK v.bO
theorem a75(a:cM):RR a=some a:=rfl
theorem aST(a:cM):aAL a a=some true:=by simp [aAL]
def xS(l:List cM):Nat:=l.length
theorem aJS(l:List cM):l.length≤xS l:=by unfold xS;omega
theorem a6R{l:List cM}(hf:fit l){n:Int}(h0:0≤n)(h1:n≤1048576):aBO l n=some (if (xS l:Int)≤n then n - xS l else -1):=by
  have hm:l.length≤9223372036854775807:=hf.1
  unfold aBO xS
  rw [aZ (by omega) (by omega)]
  by_cases h:(l.length:Int)≤n
  · rw [if_pos h,if_neg (by simp;omega)]
  · rw [if_neg h,if_pos (by simp;omega)]
theorem a6S{l:List cM}(h:xS l≤4194304):aBS l=some l:=by
  have hl:=aJS l
  unfold aBS
  rw [aO (by omega),Int.toNat_natCast,l8 l id]
  · simp [aGS,aGR]
  · intro acc k hk he
    simp only [ZG]
    rw [if_pos (by simp;omega),aT hk]
    simp only [Option.bind_some,a75]
    rw [aT (by omega)]
    simp only [Option.bind_some]
    rw [aZ (by omega) (by omega)]
    simp
  · intro acc
    simp [ZG]
theorem a6T{l:List cM}(h:xS l≤4194304):aBZ l l=some true:=by
  have hl:=aJS l
  unfold aBZ
  have key:loop (MK l l) 0=some (Out.brk ()):=by
    refine fI (f:=MK l l) l.length (fun k=>(k:Int)) _ (fun k hk=>?_) ?_
    · simp only [MK]
      rw [if_pos (by simp;omega),aT hk,aZ (by omega) (by omega)]
      simp [aST]
    · simp [MK]
  simp [key,aGW,aGV]
def oK(v:Queue):Nat:=xS v.kJ
theorem a2K{v:Queue}(hf:fit v){n:Int}(h0:0≤n)(h1:n≤1048576):UY v n=some (if (oK v:Int)≤n then n - oK v else -1):=by
  unfold UY oK
  rw [a6R (hf) (by omega) (by omega)]
  by_cases q0:(xS v.kJ:Int)≤n
  · rw [if_pos q0];simp only [Option.bind_some];rw [if_neg (by simp only [decide_eq_true_eq];omega)]
  · rw [if_neg q0];rfl
theorem a2L{v:Queue}(h:oK v≤4194304):VD v=some v:=by
  have h0:xS v.kJ≤4194304:=by unfold oK at h;omega
  unfold VD
  simp only [a6S h0,Option.bind_some]
theorem a2M{v:Queue}(h:oK v≤4194304):VR v v=some true:=by
  have h0:xS v.kJ≤4194304:=by unfold oK at h;omega
  unfold VR
  simp [a6T h0]
def dC(l:List Queue):Nat:=l.length+(l.map oK).sum
theorem zB{l:List Queue}{x:Queue}(h:x∈l):oK x≤dC l:=by have:=LA (f:=oK) h;unfold dC;omega
theorem zC(l:List Queue):l.length≤dC l:=by unfold dC;omega
theorem RY{l:List Queue}(hf:fit l){n:Int}(h0:0≤n)(h1:n≤1048576):uJ l n=some (if (dC l:Int)≤n then n - dC l else -1):=by
  have hm:l.length≤9223372036854775807:=hf.1
  unfold uJ dC
  rw [aZ (by omega) (by omega)]
  by_cases h:(l.length:Int)≤n
  · rw [if_neg (by simp;omega),VW (sz:=oK) (f:=KL l) l hf.1 (fun k hk q q0 q1=>?_) (fun q=>by simp [KL]) (by omega) (by omega)]
    · by_cases h2:((l.map oK).sum:Int)≤n - l.length
      · rw [if_pos h2,if_pos (by omega)];simp only [Option.bind_some,aAF,aAE];congr 1;omega
      · rw [if_neg h2,if_neg (by omega)];rfl
    · simp only [KL]
      rw [if_pos (by simp;omega),aT hk]
      simp only [Option.bind_some]
      rw [a2K (hf.2 _ (List.getElem_mem hk)) q0 q1]
      simp only [Option.bind_some]
      by_cases h2:(oK l[k]:Int)≤q
      · rw [if_pos h2,if_pos h2,if_neg (by simp only [decide_eq_true_eq];omega),bV (cG hk hf.1)]
      · rw [if_neg h2,if_neg h2];rfl
  · rw [if_pos (by simp;omega),if_neg (by omega)]
theorem RZ{l:List Queue}(h:dC l≤4194304):uK l=some l:=by
  have hl:=zC l
  unfold uK
  rw [aO (by omega),Int.toNat_natCast,l8 l id]
  · simp [aAI,aAH]
  · intro acc k hk he
    simp only [RS]
    rw [if_pos (by simp;omega),aT hk]
    simp only [Option.bind_some,a2L (Nat.le_trans (zB (List.getElem_mem hk)) h)]
    rw [aT (by omega)]
    simp only [Option.bind_some]
    rw [aZ (by omega) (by omega)]
    simp
  · intro acc
    simp [RS]
theorem OV{l:List Queue}(h:dC l≤4194304):DX l l=some true:=by
  have hl:=zC l
  unfold DX
  have key:loop (FG l l) 0=some (Out.brk ()):=by
    refine fI (f:=FG l l) l.length (fun k=>(k:Int)) _ (fun k hk=>?_) ?_
    · simp only [FG]
      rw [if_pos (by simp;omega),aT hk,aZ (by omega) (by omega)]
      simp [a2M (Nat.le_trans (zB (List.getElem_mem hk)) h)]
    · simp [FG]
  simp [key,aAN,aAM]
def dX(l:List bG):Nat:=l.length
def gO(l:List Ev):Nat:=l.length
def bJ(v:aE):Nat:=bX v.aA+bK v.Cells+dX v.aR+dC v.aU+gO v.Log
def bL(l:List Int):Nat:=(l.map fun _=>1).sum
theorem gP(l:List Int):bL l=1 * l.length:=by unfold bL;induction l with | nil=>rfl | cons a t ih=>simp only [List.map_cons,List.sum_cons,List.length_cons,ih];omega
def iI(v:aC):Nat:=bL v.Bytes+bL v.Class
def aJT(v:aC):Prop:=v.Bytes.length≤maxLen∧v.Class.length≤maxLen
def cJ(l:List aG):Nat:=(l.map fun x=>bL x.bB).sum
def iX(v:aB):Nat:=cJ v.Global+cJ v.bA
def aE8(v:aB):Prop:=v.Global.length≤maxLen∧(∀x∈v.Global,x.bB.length≤maxLen)∧v.bA.length≤maxLen∧(∀x∈v.bA,x.bB.length≤maxLen)
def gG(v:Mem):Nat:=iI v.aC+iX v.aB
def aQC(v:Mem):Prop:=aJT v.aC∧aE8 v.aB
def l7(l:List cQ):Nat:=(l.map fun _=>4).sum
theorem T0(l:List cQ):l7 l=4 * l.length:=by unfold l7;induction l with | nil=>rfl | cons a t ih=>simp only [List.map_cons,List.sum_cons,List.length_cons,ih];omega
def eH(v:aD):Nat:=l7 v.aM
def aE9(v:aD):Prop:=v.aM.length≤maxLen
def g9(l:List bP):Nat:=(l.map fun _=>2).sum
theorem QV(l:List bP):g9 l=2 * l.length:=by unfold g9;induction l with | nil=>rfl | cons a t ih=>simp only [List.map_cons,List.sum_cons,List.length_cons,ih];omega
def eP(l:List aP):Nat:=(l.map fun x=>g9 x.Rows).sum
def dO(v:aA):Nat:=gG v.Mem+eH v.aD+eP v.aH+bL v.bO
def aF3(v:aA):Prop:=aQC v.Mem∧aE9 v.aD∧v.aH.length≤maxLen∧(∀x∈v.aH,x.Rows.length≤maxLen)∧v.bO.length≤maxLen
def mB(l:List cM):Nat:=(l.map fun _=>4).sum
theorem R0(l:List cM):mB l=4 * l.length:=by unfold mB;induction l with | nil=>rfl | cons a t ih=>simp only [List.map_cons,List.sum_cons,List.length_cons,ih];omega
def dQ(l:List Queue):Nat:=(l.map fun x=>mB x.kJ).sum
def gJ(l:List bG):Nat:=(l.map fun _=>21).sum
theorem T1(l:List bG):gJ l=21 * l.length:=by unfold gJ;induction l with | nil=>rfl | cons a t ih=>simp only [List.map_cons,List.sum_cons,List.length_cons,ih];omega
def o8(l:List Ev):Nat:=(l.map fun _=>7).sum
theorem W2(l:List Ev):o8 l=7 * l.length:=by unfold o8;induction l with | nil=>rfl | cons a t ih=>simp only [List.map_cons,List.sum_cons,List.length_cons,ih];omega
def lI(v:aE):Nat:=dO v.aA+bL v.Cells+gJ v.aR+dQ v.aU+o8 v.Log
def J2(v:aE):Prop:=aF3 v.aA∧v.Cells.length≤maxLen∧v.aR.length≤maxLen∧v.aU.length≤maxLen∧(∀x∈v.aU,x.kJ.length≤maxLen)∧v.Log.length≤maxLen
end Go.Gv
end
noncomputable section
set_option linter.unusedVariables false
set_option linter.unusedSimpArgs false
set_option linter.unusedSectionVars false
namespace Go.Gv
theorem OW{l:List Queue}(hl:l.length≤1048576)(hq:∀q∈l,q.kJ.length≤1048576):BD l=some l∧DT l=some l:=by
  constructor
  · unfold BD
    rw [aE5 l]
    · rfl
    · intro k hk
      have:=hq _ (List.getElem_mem hk)
      simp only [O5]
      rw [if_pos (by simp;omega),aT hk]
      simp only [Option.bind_some]
      rw [aO (by simp;omega),aO (by simp;omega),aZ (by omega) (by omega)];rfl
    · simp [O5]
  · unfold DT
    rw [aE5 l]
    · rfl
    · intro k hk
      have:=hq _ (List.getElem_mem hk)
      simp only [RU]
      rw [if_pos (by simp;omega),aT hk]
      simp only [Option.bind_some,UI]
      rw [aO (by simp;omega),Option.bind_some,aO (by simp;omega),aZ (by omega) (by omega)];rfl
    · simp [RU]
theorem vZ{α:Type}{f:α→Nat}{c:Nat}:∀{l:List α},(∀x∈l,f x≤c)→(l.map f).sum≤c * l.length
  | [],_=>by simp
  | a :: l, h => by
    have h1:=h a (by simp)
    have h2:=vZ (l:=l) (fun x hx=>h x (by simp [hx]))
    simp only [List.map_cons,List.sum_cons,List.length_cons,Nat.mul_add];omega
theorem a2N{b:aA}(hb:kP b):bX b≤2000∧dO b≤2000∧aF3 b:=by
  obtain⟨⟨hm,hc,hl,hz⟩,_⟩:=hb
  obtain⟨hcnt,h3,h9,h1,h2,hsm,hcp,hlo,hsG,hsO⟩:=G6.facts hm
  have hM:∀{n:Nat},n≤1000→n≤maxLen:=fun h=>by simp only [maxLen];omega
  have l24:=hl.small.2.2.2
  have a1:(b.Mem.aB.Global.map cP).sum≤24 * b.Mem.aB.Global.length:=vZ fun x hx=>by unfold cP bK;exact hsG x hx
  have a2:(b.Mem.aB.bA.map cP).sum≤24 * b.Mem.aB.bA.length:=vZ fun x hx=>by unfold cP bK;exact hsO x hx
  have a3:(b.aH.map cW).sum≤24 * b.aH.length:=vZ fun x hx=>by unfold cW eE;exact l24 x hx
  have b1:cJ b.Mem.aB.Global≤24 * b.Mem.aB.Global.length:=vZ fun x hx=>by have:=hsG x hx;rw [gP];omega
  have b2:cJ b.Mem.aB.bA≤24 * b.Mem.aB.bA.length:=vZ fun x hx=>by have:=hsO x hx;rw [gP];omega
  have b3:eP b.aH≤48 * b.aH.length:=vZ fun x hx=>by have:=l24 x hx;rw [QV];omega
  have e1:=hc.2.1;have e2:=hl.1;have e3:=hz.1
  refine⟨?_,?_,⟨⟨hM (by omega),hM (by omega)⟩,hM (by omega),fun x hx=>hM (by have:=hsG x hx;omega),hM (by omega),fun x hx=>hM (by have:=hsO x hx;omega)⟩,hM (by omega),hM (by omega),fun x hx=>hM (by have:=l24 x hx;omega),hM (by omega)⟩
  · unfold bX dP dE dA bU dB eV bZ bK;omega
  · unfold dO gG iI iX eH;rw [gP,gP,T0,gP];omega
theorem QW{s:aE}(hs:pW s)(hl:s.Log.length≤2000000):bJ s≤3000+s.Log.length∧lI s≤3000+7 * s.Log.length∧J2 s:=by
  obtain⟨hb,h2,h3,ht,_,_,_⟩:=hs
  obtain⟨z1,z2,z3⟩:=a2N hb
  have hM:∀{n:Nat},n≤2000000→n≤maxLen:=fun h=>by simp only [maxLen];omega
  have a1:(s.aU.map oK).sum≤12 * s.aU.length:=vZ fun x hx=>by unfold oK xS;exact(ht.2 x hx).1
  have b1:dQ s.aU≤48 * s.aU.length:=vZ fun x hx=>by have:=(ht.2 x hx).1;rw [R0];omega
  have e1:=ht.1
  refine⟨?_,?_,z3,hM (by omega),hM (by omega),hM (by omega),fun x hx=>hM (by have:=(ht.2 x hx).1;omega),hM hl⟩
  · unfold bJ bK dX dC gO;omega
  · unfold lI;rw [gP,T1,W2];omega
structure aB9 (s:aE):Prop where
  eq:cL s s=some true
  lV:∃c s0 s1 s2 s3 s4 s5 s6 s7 s8 s9 s10,0≤c∧eK s 1=some (c,s0,s1,s2,s3,s4,s5,s6,s7,s8,s9,s10)∧eM ⟨⟨⟨⟨s0,s1⟩,⟨s2,s3⟩⟩,⟨s.aA.aD.aJ,s4⟩,s5,s6⟩,s7,s8,s9,s10,s.aK⟩ 1=some c
end Go.Gv
end
noncomputable section
set_option linter.unusedVariables false
set_option linter.unusedSimpArgs false
set_option linter.unusedSectionVars false
namespace Go.Gv
theorem aSU(l:List aG):(jH l).length=(l.map cP).sum:=by
  unfold jH;rw [List.length_flatMap];rfl
theorem aZC(l:List aP):(bI l).length=(l.map cW).sum:=by
  unfold bI;rw [List.length_flatMap];rfl
theorem aZD{b:aA}(h:bX b≤1048576):G7 b:=by
  have e1:=aSU b.Mem.aB.Global
  have e2:=aSU b.Mem.aB.bA
  have e3:=aZC b.aH
  have e4:=wH b.Mem.aB
  simp only [bX,dP,dE,dA,bU,dB,eV,bZ,bK] at h
  refine⟨⟨?_,?_,?_,?_,?_⟩,?_,?_,?_,?_⟩ <;> omega
def o9(s:aE):Prop:=G7 s.aA∧s.Cells.length≤1048576∧s.aR.length≤1048576∧s.aU.length≤1048576∧(∀q∈s.aU,q.kJ.length≤1048576)∧s.Log.length≤1048576
theorem zD{s:aE}(h:bJ s≤1048576):o9 s:=by
  have h':=h
  simp only [bJ,bK,dX,gO] at h'
  have hl:=zC s.aU
  exact⟨aZD (by omega),by omega,by omega,by omega,fun q hq=>by have:=zB hq;simp only [oK,xS] at this;omega,by omega⟩
theorem sV{s:aE}(h:o9 s):qW s=some s:=by
  obtain⟨hb,c1,c2,c3,c4,c5⟩:=h
  have n1:∀{β:Type} (k:Option β),need (([]:List bG).length+s.aR.length≤1073741824) k=k:=fun k=>aO (by simp only [List.length_nil];omega) k
  have n2:∀{β:Type} (k:Option β),need (([]:List Ev).length+s.Log.length≤1073741824) k=k:=fun k=>aO (by simp only [List.length_nil];omega) k
  unfold qW UC
  simp only [aT2 hb,RX (show s.Cells.length≤1073741824 by omega),(OW c3 c4).1,Option.bind_some,n1,n2,List.nil_append]
theorem sW{s:aE}(h:o9 s):mX s=some s:=by
  obtain⟨hb,c1,c2,c3,c4,c5⟩:=h
  have n1:∀{β:Type} (k:Option β),need (([]:List bG).length+s.aR.length≤1073741824) k=k:=fun k=>aO (by simp only [List.length_nil];omega) k
  have n2:∀{β:Type} (k:Option β),need (([]:List Ev).length+s.Log.length≤1073741824) k=k:=fun k=>aO (by simp only [List.length_nil];omega) k
  unfold mX RT UJ
  simp only [aT3 hb,DL (show s.Cells.length≤1073741824 by omega),(OW c3 c4).2,Option.bind_some,n1,n2,List.nil_append]
end Go.Gv
end
noncomputable section
set_option linter.unusedVariables false
set_option linter.unusedSimpArgs false
set_option linter.unusedSectionVars false
set_option maxRecDepth 20000
namespace Go.Gv
def H3(s:aE):Prop:=(∀j∈s.aR,j.g7=false)∧∀q∈s.aU,q.kJ=[]
instance (s:aE):Decidable (H3 s):=by unfold H3;infer_instance
end Go.Gv
end
noncomputable section
set_option linter.unusedVariables false
set_option linter.unusedSimpArgs false
set_option linter.unusedSectionVars false
set_option maxRecDepth 20000
namespace Go.Gv
def H4:cM:=⟨4,0,0,0⟩
def X4(n k:Nat):List Queue:=List.replicate k ⟨List.replicate n H4⟩++List.replicate (3 - k) ⟨[]⟩
theorem H3.todo{s:aE}(hs:pW s)(h:H3 s):s.aU=X4 0 3:=by
  apply List.ext_getElem
  · rw [hs.2.2.2.1.1];rfl
  · intro i h1 h2
    have:=h.2 _ (List.getElem_mem h1)
    have e:(X4 0 3)[i]=⟨[]⟩:=by
      have h3:i < 3:=h2
      rcases(by omega:i=0∨i=1∨i=2) with rfl | rfl | rfl <;> rfl
    rw [e]
    cases hq:s.aU[i];rw [hq] at this;simp only at this;rw [this]
end Go.Gv
end
