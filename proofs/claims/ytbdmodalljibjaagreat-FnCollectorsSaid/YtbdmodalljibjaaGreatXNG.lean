import Derived.Test.YtbdmodalljibjaaGreatXNF
set_option linter.unusedVariables false
set_option linter.unusedSimpArgs false
set_option linter.unusedSectionVars false
set_option linter.constructorNameAsVariable false
set_option linter.unnecessarySimpa false
noncomputable section
namespace Go.Gv
def dB(l:List aH):List Int:=l.flatMap aH.aN
def d9(l:aB):List Int:=dB l.Global++dB l.bQ
def LOk(l:aB):Prop:=l.Global.length=3∧l.bQ.length=9∧(∀s∈l.bQ,s.aN.length≤2)∧(∀x∈d9 l,0≤x∧x≤23)∧(d9 l).Nodup
instance (l:aB):Decidable (LOk l):=by unfold LOk;infer_instance
theorem M1{l:List aH}{k:Nat}(h:k < l.length):dB (l.take (k+1))=dB (l.take k)++l[k].aN:=by
  unfold dB
  rw [List.take_succ_eq_append_getElem h,List.flatMap_append];simp
theorem aBD(l:List aH)(k:Nat):(dB (l.take k)).length≤(dB l).length:=by
  have:dB l=dB (l.take k)++dB (l.drop k):=by
    unfold dB;rw [←List.flatMap_append,List.take_append_drop]
  rw [this];simp
theorem RJ(l:List aH){k:Nat}(h:k < l.length):l[k].aN.length≤(dB l).length:=by
  have h1:=aBD l (k+1)
  rw [M1 h] at h1
  simp at h1;omega
theorem LW{l:aB}(h:(d9 l).length≤1073741824)(hg:l.Global.length≤maxLen)(ho:l.bQ.length≤maxLen):C9 l=some (d9 l):=by
  have hsum:(dB l.Global).length+(dB l.bQ).length≤1073741824:=by simpa [d9] using h
  unfold C9
  have k1:loop (wJ l) ([],0)=some (dB l.Global):=by
    refine lF (f:=wJ l) l.Global.length (fun k=>(dB (l.Global.take k),(k:Int))) _ (fun k hk=>?_) ?_
    · have h1:=aBD l.Global (k+1)
      rw [M1 hk] at h1
      simp only [wJ]
      rw [if_pos (by simp;omega),aX hk]
      simp only [aI]
      rw [aS (by simp at h1;omega),M1 hk,gX (mF hk hg)]
    · simp [wJ]
  rw [k1]
  simp only [aI,SW,SU]
  have k2:loop (wI l) (dB l.Global,0)=some (d9 l):=by
    have:=lF (f:=wI l) l.bQ.length (fun k=>(dB l.Global++dB (l.bQ.take k),(k:Int))) (d9 l) (fun k hk=>?_) ?_
    · simpa [dB] using this
    · have h1:=aBD l.bQ (k+1)
      rw [M1 hk] at h1
      simp only [wI]
      rw [if_pos (by simp;omega),aX hk]
      simp only [aI]
      rw [aS (by simp at h1 ⊢;omega),M1 hk,gX (mF hk ho),List.append_assoc]
    · simp [wI,d9]
  rw [k2];rfl
theorem EV{l:List Int}(hl:l.length≤maxLen)(x:Int):y6 l x=some (decide (x∈l)):=by
  unfold y6
  have key:loop (rV l x) 0=some (if ∀y∈l,y≠x then Out.brk () else Out.ret true):=by
    refine iC (f:=rV l x) l (fun k=>(k:Int)) (fun y=>y≠x) _ _ (fun k h hp=>?_) (fun k h hp=>?_) ?_
    · simp only [rV]
      rw [if_pos (by simp;omega),aX h,gX (mF h hl)]
      have:(l[k] == x)=false:=by simpa using hp
      simp only [aI,this,a9,if_false]
    · simp only [rV]
      rw [if_pos (by simp;omega),aX h]
      have:(l[k] == x)=true:=by simpa using hp
      simp only [aI,this,if_true]
    · simp [rV]
  rw [key]
  by_cases h:x∈l
  · rw [if_neg (fun q=>q x h rfl),bE h];rfl
  · rw [if_pos (fun y hy (e:y=x)=>h (e ▸ hy)),bL h];rfl
theorem OC(l:List Int):l.Nodup↔∀k (h:k < l.length),l[k]∉l.take k:=by
  unfold List.Nodup
  rw [List.pairwise_iff_getElem]
  constructor
  · intro h k hk hm
    obtain⟨i,hi,he⟩:=List.mem_take_iff_getElem.1 hm
    exact h i k (by omega) hk (by omega) he
  · intro h i j hi hj hij he
    exact h j hj (List.mem_take_iff_getElem.2 ⟨i,by omega,he⟩)
theorem yX{l:aB}(h:(d9 l).length≤1073741824):pS l=some (decide (LOk l)):=by
  unfold pS xV
  by_cases hg:l.Global.length=3
  · by_cases ho:l.bQ.length=9
    · have n1:((l.Global.length:Int) != 3)=false:=by simp;omega
      have n2:((l.bQ.length:Int) != 9)=false:=by simp;omega
      simp only [n1,n2,a9,if_false]
      have k1:loop (mN l) 0=some (if ∀s∈l.bQ,s.aN.length≤2 then Out.brk () else Out.ret false):=by
        refine iC (f:=mN l) l.bQ (fun k=>(k:Int)) (fun s=>s.aN.length≤2) _ _ (fun k hk hp=>?_) (fun k hk hp=>?_) ?_
        · simp only [mN]
          rw [if_pos (by simp;omega),aX hk,aR (by omega) (by omega)]
          simp only [aI]
          rw [if_neg (by simp;omega)];rfl
        · simp only [mN]
          rw [if_pos (by simp;omega),aX hk]
          simp only [aI]
          rw [if_pos (by simp;omega)]
        · simp [mN]
      rw [k1]
      by_cases h2:∀s∈l.bQ,s.aN.length≤2
      · rw [if_pos h2]
        simp only [aI,OM,OL]
        rw [LW h (by rw [hg];simp [maxLen]) (by rw [ho];simp [maxLen])]
        simp only [aI]
        have k2:loop (mM (d9 l)) 0=some (if ∀k,k < (d9 l).length→(0≤(d9 l).getD k 0∧(d9 l).getD k 0≤23)∧(d9 l).getD k 0∉(d9 l).take k then Out.brk () else Out.ret false):=by
          have hst:∀k,k < (d9 l).length→mM (d9 l) (k:Int)=if (0≤(d9 l).getD k 0∧(d9 l).getD k 0≤23)∧(d9 l).getD k 0∉(d9 l).take k then some (.next ((k+1:Nat):Int)) else some (.stop (Out.ret false)):=by
            intro k hk
            have e:(d9 l).getD k 0=(d9 l)[k]:=by rw [List.getD_eq_getElem?_getD,List.getElem?_eq_getElem hk];rfl
            rw [e]
            simp only [mM]
            rw [if_pos (by simp;omega),aX hk]
            simp only [aI,bY,xU]
            by_cases q:0≤(d9 l)[k]∧(d9 l)[k]≤23
            · rw [bE q]
              simp only [eF,a9,if_false,Int.toNat_natCast,List.drop_zero]
              rw [aS (by omega),EV (by simp [maxLen];omega),aR (by omega) (by omega)]
              by_cases q2:(d9 l)[k]∈(d9 l).take k
              · rw [if_neg (fun x=>x.2 q2),bE q2];rfl
              · rw [if_pos ⟨q,q2⟩,bL q2];rfl
            · rw [bL q];simp only [kO,if_true];rw [if_neg (fun x=>q x.1)]
          refine uJ (f:=mM (d9 l)) (d9 l).length (fun k=>(k:Int)) (fun k=>(0≤(d9 l).getD k 0∧(d9 l).getD k 0≤23)∧(d9 l).getD k 0∉(d9 l).take k) _ _ (fun k hk hx=>?_) (fun k hk hx=>?_) ?_
          · rw [hst k hk,if_pos hx]
          · rw [hst k hk,if_neg hx]
          · simp [mM]
        rw [k2]
        have hiff:LOk l↔∀k,k < (d9 l).length→(0≤(d9 l).getD k 0∧(d9 l).getD k 0≤23)∧(d9 l).getD k 0∉(d9 l).take k:=by
          have e:∀k (hk:k < (d9 l).length),(d9 l).getD k 0=(d9 l)[k]:=fun k hk=>by rw [List.getD_eq_getElem?_getD,List.getElem?_eq_getElem hk];rfl
          constructor
          · rintro⟨_,_,_,q1,q2⟩ k hk
            rw [e k hk]
            exact⟨q1 _ (List.getElem_mem hk),(OC _).1 q2 k hk⟩
          · intro q
            refine⟨hg,ho,h2,fun x hx=>?_,(OC _).2 fun k hk=>?_⟩
            · obtain⟨k,hk,rfl⟩:=List.mem_iff_getElem.1 hx
              have:=(q k hk).1;rw [e k hk] at this;exact this
            · have:=(q k hk).2;rw [e k hk] at this;exact this
        by_cases q:LOk l
        · rw [if_pos (hiff.1 q),bE q];rfl
        · rw [if_neg (fun x=>q (hiff.2 x)),bL q];rfl
      · rw [if_neg h2,bL (fun q:LOk l=>h2 q.2.2.1)];rfl
    · have n1:((l.Global.length:Int) != 3)=false:=by simp;omega
      have n2:((l.bQ.length:Int) != 9)=true:=by simp;omega
      simp only [n1,n2,a9,if_false,if_true]
      rw [bL (fun q:LOk l=>ho q.2.1)]
  · have n1:((l.Global.length:Int) != 3)=true:=by simp;omega
    simp only [n1,if_true]
    rw [bL (fun q:LOk l=>hg q.1)]
def xO:List Bool→List Int→Option (List Bool)
  | met,[]=>some met
  | met,x :: r=>if (0≤x∧x≤23)∧met.getD x.toNat true=false then xO (met.set x.toNat true) r else none
theorem aGG:∀{xs:List Int} {met m:List Bool},xO met xs=some m→m.length=met.length
  | [],met,m,h=>by simp [xO] at h;rw [h]
  | x :: r, met, m, h => by
    simp only [xO] at h
    split at h
    · have:=aGG h;simpa using this
    · cases h
theorem V9:∀(a b:List Int) (met:List Bool),xO met (a++b)=(xO met a).bind fun m=>xO m b
  | [],b,met=>rfl
  | x :: r, b, met => by
    simp only [List.cons_append,xO]
    split
    · exact V9 r b _
    · rfl
theorem UJ:∀(xs:List Int) (met:List Bool),met.length=24→((xO met xs).isSome=true↔(∀x∈xs,0≤x∧x≤23)∧xs.Nodup∧∀x∈xs,met.getD x.toNat true=false)
  | [],met,hm=>by simp [xO]
  | x :: r, met, hm => by
    simp only [xO]
    by_cases h:(0≤x∧x≤23)∧met.getD x.toNat true=false
    · rw [if_pos h,UJ r _ (by simpa using hm)]
      have hset:∀y,0≤y∧y≤23→(((met.set x.toNat true).getD y.toNat true=false)↔(y≠x∧met.getD y.toNat true=false)):=by
        intro y hy
        rw [List.getD_eq_getElem?_getD,List.getD_eq_getElem?_getD]
        by_cases e:y=x
        · subst e;rw [List.getElem?_set_self (by omega)];simp
        · rw [List.getElem?_set_ne (by omega)];simp [e]
      constructor
      · rintro⟨q1,q2,q3⟩
        refine⟨fun y hy=>?_,List.nodup_cons.2 ⟨fun hx=>?_,q2⟩,fun y hy=>?_⟩
        · rcases List.mem_cons.1 hy with rfl | hy
          · exact h.1
          · exact q1 y hy
        · exact((hset x h.1).1 (q3 x hx)).1 rfl
        · rcases List.mem_cons.1 hy with rfl | hy
          · exact h.2
          · exact((hset y (q1 y hy)).1 (q3 y hy)).2
      · rintro⟨q1,q2,q3⟩
        have q2:=List.nodup_cons.1 q2
        refine⟨fun y hy=>q1 y (List.mem_cons_of_mem _ hy),q2.2,fun y hy=>(hset y (q1 y (List.mem_cons_of_mem _ hy))).2 ⟨fun e=>q2.1 (e ▸ hy),q3 y (List.mem_cons_of_mem _ hy)⟩⟩
    · rw [if_neg h]
      constructor
      · intro q;cases q
      · rintro⟨q1,q2,q3⟩
        exact(h ⟨q1 x List.mem_cons_self,q3 x List.mem_cons_self⟩).elim
def aH4:Option (List Bool)→Out (List Bool) Bool
  | some m=>.brk m
  | none=>.ret false
theorem aXQ{s:aH}(hl:s.aN.length≤maxLen):∀d k (met:List Bool),k+d=s.aN.length→met.length=24→loop (kG s) ((k:Int),met)=some (aH4 (xO met (s.aN.drop k))):=by
  intro d
  induction d with
  | zero =>
    intro k met hk hm
    rw [cA (r:=Out.brk met) (by simp [kG];omega),List.drop_eq_nil_of_le (by omega)];rfl
  | succ d ih =>
    intro k met hk hm
    have hk':k < s.aN.length:=by omega
    have hd:s.aN.drop k=s.aN[k] :: s.aN.drop (k+1):=List.drop_eq_getElem_cons hk'
    have hst:kG s ((k:Int),met)=if (0≤s.aN[k]∧s.aN[k]≤23)∧met.getD s.aN[k].toNat true=false then some (.next (((k+1:Nat):Int),met.set s.aN[k].toNat true)) else some (.stop (Out.ret false)):=by
      simp only [kG]
      rw [if_pos (by simp;omega),aX hk']
      simp only [aI,uL]
      generalize s.aN[k]=x
      by_cases q:0≤x∧x≤23
      · obtain⟨j,rfl⟩:=Int.eq_ofNat_of_zero_le q.1
        have hj:j < met.length:=by omega
        have e:met.getD j true=met[j]:=by rw [List.getD_eq_getElem?_getD,List.getElem?_eq_getElem hj];rfl
        simp only [q,and_self,decide_true,eF,a9,if_false,mT,Int.toNat_natCast,true_and,e]
        rw [aS (by omega),aX hj]
        simp only [aI]
        cases met[j]
        · simp only [a9,if_false,if_true]
          rw [aS (by omega),gX (mF hk' hl)]
        · simp
      · rw [bL q];simp only [kO,if_true,mT];rw [if_neg (fun x=>q x.1)]
    rw [hd,xO]
    by_cases q:(0≤s.aN[k]∧s.aN[k]≤23)∧met.getD s.aN[k].toNat true=false
    · rw [if_pos q] at hst ⊢
      rw [cM hst,ih (k+1) _ (by omega) (by simpa using hm)]
    · rw [if_neg q] at hst ⊢
      rw [cA hst];rfl
def YV(l:List aH):Prop:=∀s∈l,s.aN.length≤2
instance (l:List aH):Decidable (YV l):=by unfold YV;infer_instance
theorem aXR{l:aB}(ho:l.bQ.length=9)(hn:(l.bQ++l.Global).length≤1000)(hs:∀s∈l.bQ++l.Global,s.aN.length≤maxLen):∀d k (met:List Bool),k+d=(l.bQ++l.Global).length→met.length=24 →
    loop (kI l) ((k:Int),met)=some (if YV (((l.bQ++l.Global).drop k).take (9 - k))∧(xO met (dB ((l.bQ++l.Global).drop k))).isSome=true then Out.brk () else Out.ret false):=by
  intro d
  induction d with
  | zero =>
    intro k met hk hm
    rw [List.drop_eq_nil_of_le (by omega),if_pos ⟨by simp [YV],rfl⟩]
    refine cA ?_
    simp only [kI]
    rw [if_neg (by simp;simp at hk;omega)]
  | succ d ih =>
    intro k met hk hm
    have hk':k < (l.bQ++l.Global).length:=by omega
    have hd:(l.bQ++l.Global).drop k=(l.bQ++l.Global)[k] :: (l.bQ++l.Global).drop (k+1):=List.drop_eq_getElem_cons hk'
    have hsk:=hs _ (List.getElem_mem hk')
    have hf:dB ((l.bQ++l.Global).drop k)=(l.bQ++l.Global)[k].aN++dB ((l.bQ++l.Global).drop (k+1)):=by unfold dB;rw [hd,List.flatMap_cons]
    have hin:∀b:Bool,kH (k:Int) met (l.bQ++l.Global)[k] b=if b then some (.stop (Out.ret false)) else (match xO met (l.bQ++l.Global)[k].aN with | some m=>some (.next (((k+1:Nat):Int),m)) | none=>some (.stop (Out.ret false))):=by
      intro b
      have h4:=aXQ hsk _ 0 met (Nat.zero_add _) hm
      rw [show((0:Nat):Int)=0 from rfl,List.drop_zero] at h4
      unfold kH
      rw [h4]
      cases b
      · simp only [a9,if_false,aI]
        cases xO met (l.bQ++l.Global)[k].aN with
        | none=>rfl
        | some m=>simp only [aH4,OU,yC];rw [aR (by omega) (by omega)];rfl
      · rfl
    have hst:kI l ((k:Int),met)=kH (k:Int) met (l.bQ++l.Global)[k] (decide (k < 9∧2 < (l.bQ++l.Global)[k].aN.length)):=by
      simp only [kI]
      rw [if_pos (by simp;simp at hk';omega),aX hk']
      simp only [aI]
      by_cases h9:k < 9
      · rw [if_pos (by simp;omega)]
        congr 1
        rw [Bool.eq_iff_iff];simp only [decide_eq_true_eq];omega
      · rw [if_neg (by simp;omega),bL (by omega)]
    rw [hin] at hst
    by_cases h2:k < 9∧2 < (l.bQ++l.Global)[k].aN.length
    · rw [bE h2] at hst
      simp only [if_true] at hst
      rw [cA hst,if_neg]
      rintro⟨q,_⟩
      have e:9 - k=(9 - (k+1))+1:=by omega
      rw [hd,e,List.take_succ_cons] at q
      have:=q _ List.mem_cons_self
      omega
    · rw [bL h2] at hst
      simp only [a9,if_false] at hst
      have hcond:YV (((l.bQ++l.Global).drop k).take (9 - k))↔YV (((l.bQ++l.Global).drop (k+1)).take (9 - (k+1))):=by
        unfold YV
        by_cases h9:k < 9
        · have e:9 - k=(9 - (k+1))+1:=by omega
          rw [hd,e,List.take_succ_cons,List.forall_mem_cons]
          exact⟨fun q=>q.2,fun q=>⟨by omega,q⟩⟩
        · have e:9 - k=0:=by omega
          have e':9 - (k+1)=0:=by omega
          rw [e,e'];simp
      rw [hf,V9]
      cases hg:xO met (l.bQ++l.Global)[k].aN with
      | none =>
        rw [hg] at hst
        rw [cA hst,if_neg (by simp)]
      | some m =>
        rw [hg] at hst
        rw [cM hst,ih (k+1) m (by omega) (by rw [aGG hg];exact hm)]
        simp only [aI,hcond]
theorem PE{l:aB}(h:(d9 l).length≤1073741824):jF l=some (decide (LOk l)):=by
  unfold jF rC
  by_cases hg:l.Global.length=3
  · by_cases ho:l.bQ.length=9
    · have n1:((l.Global.length:Int) != 3)=false:=by simp;omega
      have n2:((l.bQ.length:Int) != 9)=false:=by simp;omega
      simp only [n1,n2,a9,if_false]
      rw [aS (by omega)]
      have hsl:∀s∈l.bQ++l.Global,s.aN.length≤maxLen:=by
        intro s hm
        have hsum:(dB l.Global).length+(dB l.bQ).length≤1073741824:=by simpa [d9] using h
        have hb:(1073741824:Nat)≤maxLen:=by simp [maxLen]
        rcases List.mem_append.1 hm with hm | hm
        · obtain⟨k,hk,rfl⟩:=List.mem_iff_getElem.1 hm
          have:=RJ l.bQ hk;omega
        · obtain⟨k,hk,rfl⟩:=List.mem_iff_getElem.1 hm
          have:=RJ l.Global hk;omega
      have key:=aXR ho (by simp;omega) hsl (l.bQ++l.Global).length 0 [false,false,false,false,false,false,false,false,false,false,false,false,false,false,false,false,false,false,false,false,false,false,false,false] (by omega) rfl
      rw [show((0:Nat):Int)=0 from rfl,List.drop_zero,Nat.sub_zero] at key
      rw [key]
      have et:(l.bQ++l.Global).take 9=l.bQ:=by rw [←ho];simp
      have ef:dB (l.bQ++l.Global)=dB l.bQ++dB l.Global:=by simp [dB]
      have hm0:∀j:Nat,j < 24→[false,false,false,false,false,false,false,false,false,false,false,false,false,false,false,false,false,false,false,false,false,false,false,false].getD j true=false:=by decide
      have hiff:LOk l↔YV ((l.bQ++l.Global).take 9)∧(xO [false,false,false,false,false,false,false,false,false,false,false,false,false,false,false,false,false,false,false,false,false,false,false,false] (dB (l.bQ++l.Global))).isSome=true:=by
        rw [UJ _ _ rfl,et,ef]
        have hp:(dB l.bQ++dB l.Global).Perm (d9 l):=List.perm_append_comm
        constructor
        · rintro⟨_,_,q1,q2,q3⟩
          exact⟨q1,fun x hx=>q2 x (hp.mem_iff.1 hx),hp.nodup_iff.2 q3,fun x hx=>hm0 _ (by have:=q2 x (hp.mem_iff.1 hx);omega)⟩
        · rintro⟨q1,q2,q3,_⟩
          exact⟨hg,ho,q1,fun x hx=>q2 x (hp.mem_iff.2 hx),hp.nodup_iff.1 q3⟩
      by_cases q:LOk l
      · rw [if_pos (hiff.1 q),bE q];rfl
      · rw [if_neg (fun x=>q (hiff.2 x)),bL q];rfl
    · have n1:((l.Global.length:Int) != 3)=false:=by simp;omega
      have n2:((l.bQ.length:Int) != 9)=true:=by simp;omega
      simp only [n1,n2,a9,if_false,if_true]
      rw [bL (fun q:LOk l=>ho q.2.1)]
  · have n1:((l.Global.length:Int) != 3)=true:=by simp;omega
    simp only [n1,if_true]
    rw [bL (fun q:LOk l=>hg q.1)]
end Go.Gv
end
noncomputable section
namespace Go.Gv
def CV(h:aE)(l:List Int)(c:Int):Prop:=∀x∈l,bK h x=c∧nM h x≤6
instance (h:aE) (l:List Int) (c:Int):Decidable (CV h l c):=by unfold CV;infer_instance
theorem M3{h:aE}(hs:fN h){l:List Int}(hl:l.length≤maxLen){c:Int}(hc:0≤c):wK h l c=some (decide (CV h l c)):=by
  unfold wK
  have key:loop (lL h l c) 0=some (if ∀x∈l,bK h x=c∧nM h x≤6 then Out.brk () else Out.ret false):=by
    have hst:∀k (hk:k < l.length),lL h l c (k:Int)=if bK h l[k]=c∧nM h l[k]≤6 then some (.next ((k+1:Nat):Int)) else some (.stop (Out.ret false)):=by
      intro k hk
      simp only [lL]
      rw [if_pos (by simp;omega),aX hk]
      generalize l[k]=x
      simp only [aI,i3 hs,uU]
      by_cases q:bK h x=c
      · have n1:(bK h x != c)=false:=by simp only [bne_eq_false_iff_eq];exact q
        simp only [n1,a9,if_false,xN hs (show 0≤bK h x by omega),aI,gX (mF hk hl)]
        by_cases q2:nM h x≤6
        · rw [if_neg (by simp;omega),if_pos ⟨q,q2⟩]
        · rw [if_pos (by simp;omega),if_neg (fun x=>q2 x.2)]
      · have n1:(bK h x != c)=true:=by simp only [bne_iff_ne];exact q
        simp only [n1,if_true]
        rw [if_neg (fun x=>q x.1)]
    refine iC (f:=lL h l c) l (fun k=>(k:Int)) (fun x=>bK h x=c∧nM h x≤6) _ _ (fun k hk hp=>?_) (fun k hk hp=>?_) ?_
    · rw [hst k hk,if_pos hp]
    · rw [hst k hk,if_neg hp]
    · simp [lL]
  rw [key]
  by_cases q:∀x∈l,bK h x=c∧nM h x≤6
  · rw [if_pos q,bE (show CV h l c from q)];rfl
  · rw [if_neg q,bL (show ¬CV h l c from q)];rfl
theorem M4{h:aE}(hs:fN h){s:aH}(hl:s.aN.length≤maxLen){c:Int}(hc:0≤c):wX h s c=some (decide (CV h s.aN c)):=by
  unfold wX
  have key:loop (lQ h s c) 0=some (if ∀x∈s.aN,bK h x=c∧nM h x≤6 then Out.brk () else Out.ret false):=by
    have hst:∀k (hk:k < s.aN.length),lQ h s c (k:Int)=if bK h s.aN[k]=c∧nM h s.aN[k]≤6 then some (.next ((k+1:Nat):Int)) else some (.stop (Out.ret false)):=by
      intro k hk
      simp only [lQ]
      rw [if_pos (by simp;omega),aX hk]
      generalize s.aN[k]=x
      simp only [aI,kN hs,vH]
      by_cases q:bK h x=c
      · have n1:(bK h x != c)=false:=by simp only [bne_eq_false_iff_eq];exact q
        simp only [n1,a9,if_false,EU hs (show 0≤bK h x by omega),aI,gX (mF hk hl)]
        by_cases q2:nM h x≤6
        · rw [if_neg (by simp;omega),if_pos ⟨q,q2⟩]
        · rw [if_pos (by simp;omega),if_neg (fun x=>q2 x.2)]
      · have n1:(bK h x != c)=true:=by simp only [bne_iff_ne];exact q
        simp only [n1,if_true]
        rw [if_neg (fun x=>q x.1)]
    refine iC (f:=lQ h s c) s.aN (fun k=>(k:Int)) (fun x=>bK h x=c∧nM h x≤6) _ _ (fun k hk hp=>?_) (fun k hk hp=>?_) ?_
    · rw [hst k hk,if_pos hp]
    · rw [hst k hk,if_neg hp]
    · simp [lQ]
  rw [key]
  by_cases q:∀x∈s.aN,bK h x=c∧nM h x≤6
  · rw [if_pos q,bE (show CV h s.aN c from q)];rfl
  · rw [if_neg q,bL (show ¬CV h s.aN c from q)];rfl
def j8(l:List aH)(k:Nat):List Int:=(l.getD k ⟨[]⟩).aN
theorem f8{l:List aH}{k:Nat}(h:k < l.length):l[k].aN=j8 l k:=by
  unfold j8;rw [List.getD_eq_getElem?_getD,List.getElem?_eq_getElem h];rfl
def JM(m:Mem)(k:Nat):Prop:=CV m.aE (j8 m.aB.Global k) (k:Int)
def CX(m:Mem)(k:Nat):Prop:=CV m.aE (j8 m.aB.bQ k) ((k % 3:Nat):Int)
instance (m:Mem) (k:Nat):Decidable (JM m k):=by unfold JM;infer_instance
instance (m:Mem) (k:Nat):Decidable (CX m k):=by unfold CX;infer_instance
instance (m:Mem):Decidable (∀k,k < 3→JM m k):=Nat.decidableBallLT 3 fun k _=>JM m k
instance (m:Mem):Decidable (∀k,k < 9→CX m k):=Nat.decidableBallLT 9 fun k _=>CX m k
instance (m:Mem) (c:Nat):Decidable (∀w,w < 3→CX m (w * 3+c)):=Nat.decidableBallLT 3 fun w _=>CX m (w * 3+c)
instance (m:Mem):Decidable (∀k,k < 3→JM m k∧∀w,w < 3→CX m (w * 3+k)):=Nat.decidableBallLT 3 fun k _=>JM m k∧∀w,w < 3→CX m (w * 3+k)
def pN(m:Mem):Prop:=(V8 m.aE∧LOk m.aB)∧(∀k,k < 3→JM m k)∧∀k,k < 9→CX m k
instance (m:Mem):Decidable (pN m):=by unfold pN;infer_instance
theorem LOk.WA{l:aB}(h:LOk l)(hb:(d9 l).length≤1073741824):(∀s∈l.Global,s.aN.length≤1073741824)∧∀s∈l.bQ,s.aN.length≤1073741824:=by
  have hsum:(dB l.Global).length+(dB l.bQ).length≤1073741824:=by simpa [d9] using hb
  constructor
  · intro s hm
    obtain⟨k,hk,rfl⟩:=List.mem_iff_getElem.1 hm
    have:=RJ l.Global hk;omega
  · intro s hm
    obtain⟨k,hk,rfl⟩:=List.mem_iff_getElem.1 hm
    have:=RJ l.bQ hk;omega
theorem aMR{m:Mem}:(∀k,k < 3→JM m k∧∀w,w < 3→CX m (w * 3+k))↔(∀k,k < 3→JM m k)∧∀k,k < 9→CX m k:=by
  constructor
  · intro h
    refine⟨fun k hk=>(h k hk).1,fun k hk=>?_⟩
    have:=(h (k % 3) (by omega)).2 (k / 3) (by omega)
    have e:k / 3 * 3+k % 3=k:=by omega
    rwa [e] at this
  · rintro⟨h1,h2⟩ k hk
    exact⟨h1 k hk,fun w hw=>h2 _ (by omega)⟩
theorem LX{m:Mem}(hb:m.aE.Bytes.length≤maxLen)(hl:(d9 m.aB).length≤1073741824):tC m=some (decide (pN m)):=by
  unfold tC DU
  rw [RI hb,yX hl]
  by_cases h1:V8 m.aE
  · by_cases h2:LOk m.aB
    · have hmx:(1073741824:Nat)≤maxLen:=by simp [maxLen]
      have hsl:=LOk.WA h2 hl
      simp only [bE h1,bE h2,aI,eF,a9,if_false]
      have k3:∀c:Nat,c < 3→loop (wL m (c:Int)) 0=some (if ∀w,w < 3→CX m (w * 3+c) then Out.brk () else Out.ret false):=by
        intro c hc
        have hst:∀w:Nat,w < 3→wL m (c:Int) (w:Int)=if CX m (w * 3+c) then some (.next ((w+1:Nat):Int)) else some (.stop (Out.ret false)):=by
          intro w hw
          have hk:w * 3+c < m.aB.bQ.length:=by rw [h2.2.1];omega
          have e:lV (w:Int) (c:Int)=some ((w * 3+c:Nat):Int):=by
            unfold lV rW
            rw [bY,bY,bE (by omega),bE (by omega)]
            simp only [aI,eF,a9,if_false]
            rw [aR (x:=(w:Int) * 3) (by omega) (by omega),aR (by omega) (by omega)];rfl
          have hlen:=hsl.2 _ (List.getElem_mem hk)
          simp only [wL]
          rw [if_pos (by simp;omega),e]
          simp only [aI,aX hk]
          rw [M3 h1.1 (by omega) (by omega),f8 hk]
          have em:(w * 3+c) % 3=c:=by omega
          have ho:CX m (w * 3+c)↔CV m.aE (j8 m.aB.bQ (w * 3+c)) (c:Int):=by unfold CX;rw [em]
          rw [aR (by omega) (by omega)]
          by_cases q:CX m (w * 3+c)
          · rw [if_pos q,bE (ho.1 q)];rfl
          · rw [if_neg q,bL (fun x=>q (ho.2 x))];rfl
        refine uJ (f:=wL m (c:Int)) 3 (fun k=>(k:Int)) (fun w=>CX m (w * 3+c)) _ _ (fun k hk hx=>?_) (fun k hk hx=>?_) ?_
        · rw [hst k hk,if_pos hx]
        · rw [hst k hk,if_neg hx]
        · rfl
      have k2:loop (wM m) 0=some (if ∀k,k < 3→JM m k∧∀w,w < 3→CX m (w * 3+k) then Out.brk () else Out.ret false):=by
        have hst:∀c:Nat,c < 3→wM m (c:Int)=if JM m c∧∀w,w < 3→CX m (w * 3+c) then some (.next ((c+1:Nat):Int)) else some (.stop (Out.ret false)):=by
          intro c hc
          have hk:c < m.aB.Global.length:=by rw [h2.1];omega
          have hlen:=hsl.1 _ (List.getElem_mem hk)
          simp only [wM]
          rw [if_pos (by simp;omega)]
          simp only [aI,aX hk]
          rw [M3 h1.1 (by omega) (by omega),f8 hk,k3 c hc]
          by_cases q:JM m c
          · have q':CV m.aE (j8 m.aB.Global c) (c:Int):=q
            rw [bE q']
            simp only [aI,eF,a9,if_false]
            by_cases q2:∀w,w < 3→CX m (w * 3+c)
            · rw [if_pos q2,if_pos ⟨q,q2⟩]
              simp only [SY,SX]
              rw [aR (by omega) (by omega)];rfl
            · rw [if_neg q2,if_neg (fun x=>q2 x.2)];rfl
          · have q':¬CV m.aE (j8 m.aB.Global c) (c:Int):=q
            rw [bL q',if_neg (fun x:JM m c∧_=>q x.1)];rfl
        refine uJ (f:=wM m) 3 (fun k=>(k:Int)) (fun k=>JM m k∧∀w,w < 3→CX m (w * 3+k)) _ _ (fun k hk hx=>?_) (fun k hk hx=>?_) ?_
        · rw [hst k hk,if_pos hx]
        · rw [hst k hk,if_neg hx]
        · rfl
      rw [k2]
      by_cases q:∀k,k < 3→JM m k∧∀w,w < 3→CX m (w * 3+k)
      · rw [if_pos q,bE (show pN m from ⟨⟨h1,h2⟩,aMR.1 q⟩)];rfl
      · rw [if_neg q,bL (fun x:pN m=>q (aMR.2 x.2))];rfl
    · rw [bL (fun q:pN m=>h2 q.1.2),bE h1,bL h2];rfl
  · rw [bL (fun q:pN m=>h1 q.1.1),bL h1];rfl
theorem TQ{m:Mem}(hb:m.aE.Bytes.length≤maxLen)(hl:(d9 m.aB).length≤1073741824):II m=some (decide (pN m)):=by
  unfold II D2
  rw [JA hb,PE hl]
  by_cases h1:V8 m.aE
  · by_cases h2:LOk m.aB
    · have hmx:(1073741824:Nat)≤maxLen:=by simp [maxLen]
      have hsl:=LOk.WA h2 hl
      simp only [bE h1,bE h2,aI,eF,a9,if_false]
      have k3:loop (rZ m) 0=some (if ∀k,k < 9→CX m k then Out.brk () else Out.ret false):=by
        have hst:∀w:Nat,w < 9→rZ m (w:Int)=if CX m w then some (.next ((w+1:Nat):Int)) else some (.stop (Out.ret false)):=by
          intro w hw
          have hk:w < m.aB.bQ.length:=by rw [h2.2.1];omega
          have hlen:=hsl.2 _ (List.getElem_mem hk)
          have em:Int.tmod (w:Int) 3=((w % 3:Nat):Int):=by rw [uK (by omega)];omega
          simp only [rZ]
          rw [if_pos (by simp;omega)]
          simp only [aI,aX hk,em]
          rw [M4 h1.1 (by omega) (by omega),f8 hk,aR (by omega) (by omega)]
          by_cases q:CX m w
          · rw [if_pos q,bE (show CV m.aE (j8 m.aB.bQ w) ((w % 3:Nat):Int) from q)];rfl
          · rw [if_neg q,bL (show ¬CV m.aE (j8 m.aB.bQ w) ((w % 3:Nat):Int) from q)];rfl
        refine uJ (f:=rZ m) 9 (fun k=>(k:Int)) (fun w=>CX m w) _ _ (fun k hk hx=>?_) (fun k hk hx=>?_) ?_
        · rw [hst k hk,if_pos hx]
        · rw [hst k hk,if_neg hx]
        · simp [rZ,h2.2.1]
      have k2:loop (r9 m) 0=some (if ∀k,k < 3→JM m k then Out.brk () else Out.ret false):=by
        have hst:∀w:Nat,w < 3→r9 m (w:Int)=if JM m w then some (.next ((w+1:Nat):Int)) else some (.stop (Out.ret false)):=by
          intro w hw
          have hk:w < m.aB.Global.length:=by rw [h2.1];omega
          have hlen:=hsl.1 _ (List.getElem_mem hk)
          simp only [r9]
          rw [if_pos (by simp;omega)]
          simp only [aI,aX hk]
          rw [M4 h1.1 (by omega) (by omega),f8 hk,aR (by omega) (by omega)]
          by_cases q:JM m w
          · rw [if_pos q,bE (show CV m.aE (j8 m.aB.Global w) (w:Int) from q)];rfl
          · rw [if_neg q,bL (show ¬CV m.aE (j8 m.aB.Global w) (w:Int) from q)];rfl
        refine uJ (f:=r9 m) 3 (fun k=>(k:Int)) (fun w=>JM m w) _ _ (fun k hk hx=>?_) (fun k hk hx=>?_) ?_
        · rw [hst k hk,if_pos hx]
        · rw [hst k hk,if_neg hx]
        · simp [r9,h2.1]
      rw [k2]
      by_cases q:∀k,k < 3→JM m k
      · rw [if_pos q]
        simp only [aI,S3,S2]
        rw [k3]
        by_cases q2:∀k,k < 9→CX m k
        · rw [if_pos q2,bE (show pN m from ⟨⟨h1,h2⟩,q,q2⟩)];rfl
        · rw [if_neg q2,bL (fun x:pN m=>q2 x.2.2)];rfl
      · rw [if_neg q,bL (fun x:pN m=>q x.2.1)];rfl
    · rw [bL (fun q:pN m=>h2 q.1.2),bE h1,bL h2];rfl
  · rw [bL (fun q:pN m=>h1 q.1.1),bL h1];rfl
end Go.Gv
end
noncomputable section
namespace Go.Gv
theorem uM{l:List aH}{s:aH}(h:s∈l):s.aN.length≤(dB l).length:=by
  obtain⟨k,hk,rfl⟩:=List.mem_iff_getElem.1 h
  exact RJ l hk
theorem gU(l:aB):(d9 l).length=(dB l.Global).length+(dB l.bQ).length:=by simp [d9]
def nN(m:Mem):Prop:=m.aE.Bytes.length≤1048576∧m.aE.Class.length≤1048576∧m.aB.Global.length≤1048576∧m.aB.bQ.length≤1048576∧(d9 m.aB).length≤1048576
theorem nN.WA{m:Mem}(h:nN m):(∀s∈m.aB.Global,s.aN.length≤1048576)∧∀s∈m.aB.bQ,s.aN.length≤1048576:=by
  have:=gU m.aB
  have h5:=h.2.2.2.2
  exact⟨fun s hm=>by have:=uM hm;omega,fun s hm=>by have:=uM hm;omega⟩
end Go.Gv
end
noncomputable section
namespace Go.Gv
def POk(e:Int)(p:iI):Prop:=(0≤p.aM∧p.aM≤e)∧(0≤p.Seen∧p.Seen≤2)∧(p.On=false→p=⟨false,0,false,0⟩)
instance (e:Int) (p:iI):Decidable (POk e p):=by unfold POk;infer_instance
def PF(c:aK):Prop:=(0≤c.aM∧c.aM≤100000)∧c.bG.length=3∧∀p∈c.bG,POk c.aM p
instance (c:aK):Decidable (PF c):=by unfold PF;infer_instance
theorem rO(c:aK):mY c=some (decide (PF c)):=by
  unfold mY
  rw [bY]
  by_cases h1:0≤c.aM∧c.aM≤100000
  · by_cases h2:c.bG.length=3
    · simp only [aI,h1,h2,mJ]
      have key:∀k:Nat,k≤3→loop (qS c) (k:Int)=some (if ∀p∈c.bG.drop k,POk c.aM p then Out.brk () else Out.ret false):=by
        refine aG1 3 _ fun k hk=>?_
        by_cases h3:k < 3
        · have hd:c.bG.drop k=c.bG[k] :: c.bG.drop (k+1):=List.drop_eq_getElem_cons (by omega)
          simp only [qS]
          rw [if_pos (by simp;omega),aX (by omega)]
          simp only [aI,bY,kC,hd]
          rw [gX (by simp [maxLen];omega)]
          generalize c.bG[k]=p
          have hp:POk c.aM p↔decide (0≤p.aM∧p.aM≤c.aM)=true∧decide (0≤p.Seen∧p.Seen≤2)=true∧(p.On=false→decide (p=⟨false,0,false,0⟩)=true):=by simp only [POk,decide_eq_true_eq]
          simp only [List.forall_mem_cons,hp]
          generalize decide (0≤p.aM∧p.aM≤c.aM)=b1
          generalize decide (0≤p.Seen∧p.Seen≤2)=b2
          generalize decide (p=⟨false,0,false,0⟩)=b3
          generalize p.On=b4
          cases b1 <;> cases b2 <;> cases b3 <;> cases b4 <;> simp [h3]
        · left
          obtain rfl:k=3:=by omega
          simp [qS,List.drop_eq_nil_of_le (show c.bG.length≤3 by omega)]
      have:=key 0 (by omega)
      simp only [Int.ofNat_zero,List.drop_zero] at this
      have e:decide (PF c)=if ∀p∈c.bG,POk c.aM p then true else false:=by
        have:PF c↔∀p∈c.bG,POk c.aM p:=⟨fun h=>h.2.2,fun h=>⟨h1,h2,h⟩⟩
        simp [this]
      rw [e]
      simp only [Int.cast_ofNat_Int] at *
      have t0:loop (qS c) 0=_:=this
      by_cases h5:∀p∈c.bG,POk c.aM p
      · rw [if_pos h5] at t0 ⊢;rw [t0];simp [FQ,OJ]
      · rw [if_neg h5] at t0 ⊢;rw [t0];simp [FQ]
    · simp [h1,h2,mJ,PF]
      omega
  · simp [h1,mJ,PF]
theorem aJQ(p:iI)(c:aK):tO p c=some (!decide (POk c.aM p)):=by
  unfold tO j5
  rw [dW,dW]
  have hp:decide (POk c.aM p)=(decide (0≤p.aM∧p.aM≤c.aM) && (decide (0≤p.Seen∧p.Seen≤2) && (p.On || decide (p=⟨false,0,false,0⟩)))):=by
    rw [Bool.eq_iff_iff];simp only [POk,decide_eq_true_eq,Bool.and_eq_true,Bool.or_eq_true]
    by_cases h:p.On=true
    · simp [h]
    · simp [(by simpa using h:p.On=false)]
  rw [hp]
  generalize decide (0≤p.aM∧p.aM≤c.aM)=b1
  generalize decide (0≤p.Seen∧p.Seen≤2)=b2
  generalize decide (p=⟨false,0,false,0⟩)=b3
  generalize p.On=b4
  cases b1 <;> cases b2 <;> cases b3 <;> cases b4 <;> rfl
theorem aH5{l:List iI}(hl:l.length≤maxLen)(f:iI→Bool):j4 l (fun x=>some (f x))=some (l.any f):=by
  unfold j4 tN
  have key:∀k:Nat,k≤l.length→loop (hY l (fun x=>some (f x))) (k:Int)=some (if (l.drop k).any f then Out.ret ((k+(l.drop k).findIdx f:Nat):Int) else Out.brk ()):=by
    refine aG1 l.length _ fun k hk=>?_
    by_cases h3:k < l.length
    · have hd:l.drop k=l[k] :: l.drop (k+1):=List.drop_eq_getElem_cons h3
      simp only [hY]
      rw [if_pos (by simp;omega),aX h3,gX (mF h3 hl),hd]
      simp only [aI,List.any_cons,List.findIdx_cons]
      by_cases h4:f l[k]=true
      · left;simp [h4]
      · right
        have h4:f l[k]=false:=by simpa using h4
        refine⟨h3,by simp [h4],?_⟩
        simp only [h4,Bool.false_or,cond_false]
        congr 2;omega
    · left
      obtain rfl:k=l.length:=by omega
      simp [hY]
  have t0:loop (hY l (fun x=>some (f x))) 0=_:=key 0 (by omega)
  rw [t0]
  simp only [List.drop_zero]
  by_cases h:l.any f=true
  · simp [h,oW]
  · have h:l.any f=false:=by simpa using h
    simp [h,oW,zT]
theorem rP{c:aK}(hc:c.bG.length≤maxLen):m6 c=some (decide (PF c)):=by
  unfold m6 rB
  rw [dW]
  have e:(fun y0=>tO y0 c)=fun y0=>some (!decide (POk c.aM y0)):=funext fun y=>aJQ y c
  rw [e,aH5 hc]
  by_cases h1:0≤c.aM∧c.aM≤100000
  · by_cases h2:c.bG.length=3
    · have:PF c↔∀p∈c.bG,POk c.aM p:=⟨fun h=>h.2.2,fun h=>⟨h1,h2,h⟩⟩
      have e2:(c.bG.any fun y0=>!decide (POk c.aM y0))=!decide (∀p∈c.bG,POk c.aM p):=by
        rw [Bool.eq_iff_iff];simp
      simp [h1,h2,this,e2]
    · have:¬(c.bG.length:Int)=3:=by omega
      simp [h1,this,h2,PF]
  · simp [h1,PF]
end Go.Gv
end
noncomputable section
namespace Go.Gv
def bT(l:List aP):List b8:=l.flatMap aP.Rows
theorem JB{l:List aP}{k:Nat}(h:k < l.length):bT (l.take (k+1))=bT (l.take k)++l[k].Rows:=by
  unfold bT
  rw [List.take_succ_eq_append_getElem h,List.flatMap_append];simp
theorem WB(l:List aP)(k:Nat):(bT (l.take k)).length≤(bT l).length:=by
  have:bT l=bT (l.take k)++bT (l.drop k):=by
    unfold bT;rw [←List.flatMap_append,List.take_append_drop]
  rw [this];simp
theorem aNJ(l:List aP){k:Nat}(h:k < l.length):l[k].Rows.length≤(bT l).length:=by
  have h1:=WB l (k+1)
  rw [JB h] at h1
  simp at h1;omega
theorem M5{l:List aP}{s:aP}(h:s∈l):s.Rows.length≤(bT l).length:=by
  obtain⟨k,hk,rfl⟩:=List.mem_iff_getElem.1 h
  exact aNJ l hk
theorem JC{l:List aP}(h:(bT l).length≤1073741824)(hl:l.length≤maxLen):zP l=some (bT l):=by
  unfold zP
  have k1:loop (tD l) ([],0)=some (bT l):=by
    refine lF (f:=tD l) l.length (fun k=>(bT (l.take k),(k:Int))) _ (fun k hk=>?_) ?_
    · have h1:=WB l (k+1)
      rw [JB hk] at h1
      simp only [tD]
      rw [if_pos (by simp;omega),aX hk]
      simp only [aI]
      rw [aS (by simp at h1;omega),JB hk,gX (mF hk hl)]
    · simp [tD]
  rw [k1];rfl
def rQ(h:Int):Prop:=(32≤h∧h≤223)∧h % 32 < 24
instance (h:Int):Decidable (rQ h):=by unfold rQ;infer_instance
theorem fK(h:Int):gA h=some (decide (rQ h)):=by
  unfold gA uV rQ
  rw [bY]
  by_cases q:32≤h∧h≤223
  · simp [q,uK (show 0≤h by omega)]
  · simp [q]
theorem iD(h:Int):gC h=some (decide (rQ h)):=by
  unfold gC lR rQ
  rw [dW]
  by_cases q:32≤h∧h≤223
  · simp [q,uK (show 0≤h by omega)]
  · simp [q]
theorem rQ.mod{h:Int}(q:rQ h):Int.tmod h 32=h % 32∧0≤h % 32∧h % 32≤23:=by
  unfold rQ at q
  exact⟨uK (by omega),by omega,by omega⟩
theorem d5(h:Int):eC h=some (if rQ h then h % 32 else -1):=by
  unfold eC
  rw [fK]
  by_cases q:rQ h
  · simp [q,q.mod.1]
  · simp [q]
def xP(r:b8):Prop:=rQ r.Handle∧0≤r.aM∧r.aM≤100000
instance (r:b8):Decidable (xP r):=by unfold xP;infer_instance
def l8(r:b8):Int:=r.Handle % 32
def rR(l:List aP):Prop:=l.length=3∧(bT l).length≤24∧(∀r∈bT l,xP r)∧((bT l).map l8).Nodup
instance (l:List aP):Decidable (rR l):=by unfold rR;infer_instance
def rowAt(l:List b8)(k:Nat):b8:=l.getD k ⟨0,0⟩
theorem SB{l:List b8}{k:Nat}(h:k < l.length):rowAt l k=l[k]:=by
  unfold rowAt;rw [List.getD_eq_getElem?_getD,List.getElem?_eq_getElem h];rfl
theorem GH{l:List aP}(h:(bT l).length≤1073741824)(hl:l.length≤maxLen):uW l=some (decide (rR l)):=by
  unfold uW xW
  rw [JC h hl]
  simp only [aI]
  by_cases h3:l.length=3
  · have n1:((l.length:Int) != 3)=false:=by simp;omega
    simp only [n1,a9,if_false]
    by_cases h24:(bT l).length≤24
    · rw [if_neg (by simp;omega)]
      have hst:∀k,k < (bT l).length→qW (bT l) (((bT l).take k).map l8,(k:Int))=if xP (rowAt (bT l) k)∧l8 (rowAt (bT l) k)∉((bT l).take k).map l8 then some (.next (((bT l).take (k+1)).map l8,((k+1:Nat):Int))) else some (.stop (Out.ret false)):=by
        intro k hk
        simp only [qW,qV]
        rw [if_pos (by simp;omega),aX hk,SB hk]
        simp only [aI,d5,bY]
        by_cases q:rQ (bT l)[k].Handle
        · have hm:=q.mod
          rw [if_pos q,if_neg (by simp;omega)]
          by_cases q2:0≤(bT l)[k].aM∧(bT l)[k].aM≤100000
          · rw [bE q2]
            simp only [eF,a9,if_false]
            rw [EV (by simp [maxLen];omega)]
            simp only [aI]
            by_cases q3:(bT l)[k].Handle % 32∈((bT l).take k).map l8
            · rw [bE q3];simp only [if_true];rw [if_neg (show ¬(xP (bT l)[k]∧l8 (bT l)[k]∉((bT l).take k).map l8) from fun x=>x.2 q3)]
            · rw [bL q3]
              simp only [a9,if_false]
              rw [if_pos (show xP (bT l)[k]∧l8 (bT l)[k]∉((bT l).take k).map l8 from ⟨⟨q,q2⟩,q3⟩),aS (by simp;omega),aR (by omega) (by omega),map_take _ hk];rfl
          · rw [bL q2]
            simp only [kO,if_true]
            rw [if_neg (fun x:xP _∧_=>q2 x.1.2)]
        · rw [if_neg q,if_pos (by simp),if_neg (fun x:xP _∧_=>q x.1.1)];rfl
      have key:=uJ (f:=qW (bT l)) (bT l).length (fun k=>(((bT l).take k).map l8,(k:Int))) (fun k=>xP (rowAt (bT l) k)∧l8 (rowAt (bT l) k)∉((bT l).take k).map l8) (Out.brk ()) (Out.ret false) (fun k hk hx=>by rw [hst k hk,if_pos hx]) (fun k hk hx=>by rw [hst k hk,if_neg hx]) (by simp [qW])
      rw [List.take_zero,List.map_nil,show((0:Nat):Int)=0 from rfl] at key
      rw [key]
      have hiff:rR l↔∀k,k < (bT l).length→xP (rowAt (bT l) k)∧l8 (rowAt (bT l) k)∉((bT l).take k).map l8:=by
        constructor
        · rintro⟨_,_,q1,q2⟩ k hk
          rw [SB hk]
          refine⟨q1 _ (List.getElem_mem hk),?_⟩
          have:=(OC _).1 q2 k (by simpa using hk)
          rw [List.getElem_map,←List.map_take] at this
          exact this
        · intro q
          refine⟨h3,h24,fun x hx=>?_,(OC _).2 fun k hk=>?_⟩
          · obtain⟨k,hk,rfl⟩:=List.mem_iff_getElem.1 hx
            have:=(q k hk).1;rw [SB hk] at this;exact this
          · have hk':k < (bT l).length:=by simpa using hk
            have:=(q k hk').2;rw [SB hk'] at this
            rw [List.getElem_map,←List.map_take];exact this
      by_cases q:rR l
      · rw [if_pos (hiff.1 q),bE q];rfl
      · rw [if_neg (fun x=>q (hiff.2 x)),bL q];rfl
    · rw [if_pos (by simp;omega),bL (fun q:rR l=>h24 q.2.1)]
  · have n1:((l.length:Int) != 3)=true:=by simp;omega
    simp only [n1,if_true]
    rw [bL (fun q:rR l=>h3 q.1)]
def goR:List Bool→List b8→Option (List Bool)
  | met,[]=>some met
  | met,r :: t=>if xP r∧met.getD (l8 r).toNat true=false then goR (met.set (l8 r).toNat true) t else none
theorem aMS:∀{xs:List b8} {met m:List Bool},goR met xs=some m→m.length=met.length
  | [],met,m,h=>by simp [goR] at h;rw [h]
  | x :: r, met, m, h => by
    simp only [goR] at h
    split at h
    · have:=aMS h;simpa using this
    · cases h
theorem aDV:∀(a b:List b8) (met:List Bool),goR met (a++b)=(goR met a).bind fun m=>goR m b
  | [],b,met=>rfl
  | x :: r, b, met => by
    simp only [List.cons_append,goR]
    split
    · exact aDV r b _
    · rfl
theorem aJR:∀(xs:List b8) (met:List Bool),(goR met xs).isSome=true↔(∀r∈xs,xP r)∧(xO met (xs.map l8)).isSome=true
  | [],met=>by simp [goR,xO]
  | x :: r, met => by
    simp only [goR,List.map_cons,xO]
    by_cases h:xP x
    · have hm:=h.1.mod
      have hs:0≤l8 x∧l8 x≤23:=hm.2
      by_cases h2:met.getD (l8 x).toNat true=false
      · rw [if_pos ⟨h,h2⟩,if_pos ⟨hs,h2⟩,aJR r _]
        simp [h]
      · rw [if_neg (fun q=>h2 q.2),if_neg (fun q=>h2 q.2)];simp
    · rw [if_neg (fun q=>h q.1)]
      constructor
      · intro q;cases q
      · rintro⟨q,_⟩;exact(h (q x List.mem_cons_self)).elim
theorem aNK{s:aP}(hl:s.Rows.length≤maxLen):∀d k (met:List Bool),k+d=s.Rows.length→met.length=24→loop (kJ s) ((k:Int),met)=some (aH4 (goR met (s.Rows.drop k))):=by
  intro d
  induction d with
  | zero =>
    intro k met hk hm
    rw [cA (r:=Out.brk met) (by simp [kJ];omega),List.drop_eq_nil_of_le (by omega)];rfl
  | succ d ih =>
    intro k met hk hm
    have hk':k < s.Rows.length:=by omega
    have hd:s.Rows.drop k=s.Rows[k] :: s.Rows.drop (k+1):=List.drop_eq_getElem_cons hk'
    have hst:kJ s ((k:Int),met)=if xP s.Rows[k]∧met.getD (l8 s.Rows[k]).toNat true=false then some (.next (((k+1:Nat):Int),met.set (l8 s.Rows[k]).toNat true)) else some (.stop (Out.ret false)):=by
      simp only [kJ]
      rw [if_pos (by simp;omega),aX hk']
      simp only [aI,iD,dW]
      generalize s.Rows[k]=x
      by_cases q:rQ x.Handle
      · by_cases q2:0≤x.aM∧x.aM≤100000
        · have hm2:=q.mod
          obtain⟨j,hj0⟩:=Int.eq_ofNat_of_zero_le hm2.2.1
          have hj:j < met.length:=by omega
          have e:met.getD j true=met[j]:=by rw [List.getD_eq_getElem?_getD,List.getElem?_eq_getElem hj];rfl
          have hr:xP x:=⟨q,q2⟩
          simp only [q,q2,and_self,decide_true,eF,a9,if_false,iW,hm2.1,hj0,Int.toNat_natCast,hr,true_and,l8,e]
          rw [aS (by omega),aX hj]
          simp only [aI]
          cases met[j]
          · simp only [a9,if_false,if_true]
            rw [aS (by omega),gX (mF hk' hl)]
          · simp
        · rw [bE q,bL q2];simp only [eF,kO,a9,if_false,if_true,iW];rw [if_neg (fun y:xP x∧_=>q2 y.1.2)]
      · rw [bL q];simp only [kO,if_true,iW];rw [if_neg (fun y:xP x∧_=>q y.1.1)]
    rw [hd,goR]
    by_cases q:xP s.Rows[k]∧met.getD (l8 s.Rows[k]).toNat true=false
    · rw [if_pos q] at hst ⊢
      rw [cM hst,ih (k+1) _ (by omega) (by simpa using hm)]
    · rw [if_neg q] at hst ⊢
      rw [cA hst];rfl
theorem aNL{l:List aP}(hn:l.length≤1000)(hs:∀s∈l,s.Rows.length≤maxLen):∀d k (met:List Bool),k+d=l.length→met.length=24 →
    loop (kK l) ((k:Int),met)=some (if (goR met (bT (l.drop k))).isSome=true then Out.brk () else Out.ret false):=by
  intro d
  induction d with
  | zero =>
    intro k met hk hm
    rw [List.drop_eq_nil_of_le (by omega),if_pos (show(goR met (bT [])).isSome=true from rfl)]
    refine cA ?_
    simp only [kK]
    rw [if_neg (by simp;omega)]
  | succ d ih =>
    intro k met hk hm
    have hk':k < l.length:=by omega
    have hd:l.drop k=l[k] :: l.drop (k+1):=List.drop_eq_getElem_cons hk'
    have hsk:=hs _ (List.getElem_mem hk')
    have hf:bT (l.drop k)=l[k].Rows++bT (l.drop (k+1)):=by unfold bT;rw [hd,List.flatMap_cons]
    have h4:=aNK hsk _ 0 met (Nat.zero_add _) hm
    rw [show((0:Nat):Int)=0 from rfl,List.drop_zero] at h4
    have hst:kK l ((k:Int),met)=(match goR met l[k].Rows with | some m=>some (.next (((k+1:Nat):Int),m)) | none=>some (.stop (Out.ret false))):=by
      simp only [kK]
      rw [if_pos (by simp;omega),aX hk']
      simp only [aI]
      rw [h4]
      cases goR met l[k].Rows with
      | none=>rfl
      | some m=>simp only [aI,aH4,OV,yG];rw [aR (by omega) (by omega)];rfl
    rw [hf,aDV]
    cases hg:goR met l[k].Rows with
    | none =>
      rw [hg] at hst
      rw [cA hst,if_neg (by simp)]
    | some m =>
      rw [hg] at hst
      rw [cM hst,ih (k+1) m (by omega) (by rw [aMS hg];exact hm)]
      simp only [aI]
theorem WC{l:List aP}(hn:l.length≤1000)(h:(bT l).length≤1073741824):tS l=some ((bT l).length:Int):=by
  unfold tS
  have key:loop (iL l) (0,0)=some ((bT l).length:Int):=by
    refine lF (f:=iL l) l.length (fun k=>(((bT (l.take k)).length:Int),(k:Int))) _ (fun k hk=>?_) ?_
    · have h1:=WB l (k+1)
      rw [JB hk,List.length_append] at h1
      simp only [iL]
      rw [if_pos (by simp;omega),aX hk]
      simp only [aI]
      rw [aR (by omega) (by omega),aR (by omega) (by omega),JB hk,List.length_append]
      simp
    · simp [iL]
  rw [key];rfl
theorem yY{l:List aP}(h:(bT l).length≤1073741824):lA l=some (decide (rR l)):=by
  unfold lA
  by_cases h3:l.length=3
  · have n1:((l.length:Int) != 3)=false:=by simp;omega
    have hb:(1073741824:Nat)≤maxLen:=by simp [maxLen]
    simp only [n1,a9,if_false]
    have key:=aNL (l:=l) (by omega) (fun s hs=>by have:=M5 hs;omega) l.length 0 [false,false,false,false,false,false,false,false,false,false,false,false,false,false,false,false,false,false,false,false,false,false,false,false] (by omega) rfl
    rw [show((0:Nat):Int)=0 from rfl,List.drop_zero] at key
    rw [key]
    have hm0:∀j:Nat,j < 24→[false,false,false,false,false,false,false,false,false,false,false,false,false,false,false,false,false,false,false,false,false,false,false,false].getD j true=false:=by decide
    have hiff:rR l↔(bT l).length≤24∧(goR [false,false,false,false,false,false,false,false,false,false,false,false,false,false,false,false,false,false,false,false,false,false,false,false] (bT l)).isSome=true:=by
      rw [aJR,UJ _ _ rfl]
      have hr:(∀r∈bT l,xP r)→∀x∈(bT l).map l8,0≤x∧x≤23:=by
        intro q x hx
        obtain⟨r,hr,rfl⟩:=List.mem_map.1 hx
        exact(q r hr).1.mod.2
      constructor
      · rintro⟨_,q1,q2,q3⟩
        exact⟨q1,q2,hr q2,q3,fun x hx=>hm0 _ (by have:=hr q2 x hx;omega)⟩
      · rintro⟨q1,q2,_,q3,_⟩
        exact⟨h3,q1,q2,q3⟩
    by_cases q:(goR [false,false,false,false,false,false,false,false,false,false,false,false,false,false,false,false,false,false,false,false,false,false,false,false] (bT l)).isSome=true
    · rw [if_pos q]
      simp only [aI,OW,yF]
      rw [WC (by omega) h]
      simp only [aI]
      congr 1
      rw [Bool.eq_iff_iff];simp only [decide_eq_true_eq]
      rw [hiff]
      exact⟨fun a=>⟨by omega,q⟩,fun a=>by omega⟩
    · rw [if_neg q,bL (fun x=>q (hiff.1 x).2)];rfl
  · have n1:((l.length:Int) != 3)=true:=by simp;omega
    simp only [n1,if_true]
    rw [bL (fun q:rR l=>h3 q.1)]
def dK(h:Int):Prop:=h=0∨rQ h
instance (h:Int):Decidable (dK h):=by unfold dK;infer_instance
def LY(z:List Int):Prop:=z.length=3∧∀h∈z,dK h
instance (z:List Int):Decidable (LY z):=by unfold LY;infer_instance
theorem LZ{z:List Int}(hl:z.length≤maxLen):DA z=some (decide (LY z)):=by
  unfold DA
  have hst:∀k (hk:k < z.length),wN z (k:Int)=if dK z[k] then some (.next ((k+1:Nat):Int)) else some (.stop (Out.ret false)):=by
    intro k hk
    simp only [wN,DV]
    rw [if_pos (by simp;omega),aX hk,gX (mF hk hl)]
    simp only [aI,fK]
    generalize z[k]=x
    by_cases q:x=0
    · have n:(x != 0)=false:=by simp only [bne_eq_false_iff_eq];exact q
      rw [n,if_pos (show dK x from .inl q)];rfl
    · have n:(x != 0)=true:=by simp only [bne_iff_ne];exact q
      by_cases q2:rQ x
      · rw [n,bE q2,if_pos (show dK x from .inr q2)];rfl
      · rw [n,bL q2,if_neg (fun a:dK x=>a.elim q q2)];rfl
  have key:=iC (f:=wN z) z (fun k=>(k:Int)) dK (Out.brk ()) (Out.ret false) (fun k hk hx=>by rw [hst k hk,if_pos hx]) (fun k hk hx=>by rw [hst k hk,if_neg hx]) (by simp [wN])
  rw [show((0:Nat):Int)=0 from rfl] at key
  rw [key]
  by_cases q:∀x∈z,dK x
  · rw [if_pos q]
    have:LY z↔z.length=3:=⟨fun a=>a.1,fun a=>⟨a,q⟩⟩
    simp only [aI,S1,SZ,this]
    congr 1;rw [Bool.eq_iff_iff];simp only [beq_iff_eq,decide_eq_true_eq];omega
  · rw [if_neg q,bL (fun a:LY z=>q a.2)];rfl
theorem L4{z:List Int}(hl:z.length≤maxLen):DE z=some (decide (LY z)):=by
  unfold DE D3
  have e:(fun y0=>G6 y0)=fun y:Int=>some (!decide (dK y)):=by
    funext y
    unfold G6 pP tT
    rw [iD]
    by_cases q:y=0
    · have n:(y == 0)=true:=by simp only [beq_iff_eq];exact q
      rw [n,bE (show dK y from .inl q)];rfl
    · have n:(y == 0)=false:=by simp only [beq_eq_false_iff_ne];exact q
      by_cases q2:rQ y
      · rw [n,bE q2,bE (show dK y from .inr q2)];rfl
      · rw [n,bL q2,bL (fun a:dK y=>a.elim q q2)];rfl
  rw [e,CS hl,ES]
  by_cases h3:z.length=3
  · have n:((z.length:Int) == 3)=true:=by simp;omega
    have:LY z↔∀h∈z,dK h:=⟨fun a=>a.2,fun a=>⟨h3,a⟩⟩
    simp only [n,if_true,aI,Bool.not_not,this]
  · have n:((z.length:Int) == 3)=false:=by simp;omega
    simp only [n,a9,if_false]
    rw [bL (fun a:LY z=>h3 a.1)]
end Go.Gv
end
noncomputable section
namespace Go.Gv
theorem JD{α:Type}(l:List α)(f:α→Bool){body:Int→Option (Step Int (Out Unit Int))}(hb:∀k (hk:k < l.length),body (k:Int)=if f l[k] then some (.stop (.ret (k:Int))) else some (.next ((k+1:Nat):Int)))(he:body (l.length:Int)=some (.stop (.brk ()))) :
    ∃o,loop body 0=some o∧match o with | .brk _=>l.any f=false | .ret r=>0≤r∧l.any f=true:=by
  have key:=aNH (f:=body) l.length (fun k=>(k:Int)) (fun k=>if (l.drop k).any f then Out.ret ((k+(l.drop k).findIdx f:Nat):Int) else Out.brk ()) (fun k hk=>by
    by_cases h:k < l.length
    · have hd:l.drop k=l[k] :: l.drop (k+1):=List.drop_eq_getElem_cons h
      rw [hb k h,hd]
      simp only [List.any_cons,List.findIdx_cons]
      by_cases h4:f l[k]=true
      · left;simp [h4]
      · right
        have h4:f l[k]=false:=by simpa using h4
        refine⟨h,by simp [h4],?_⟩
        simp only [h4,Bool.false_or,cond_false]
        congr 2;omega
    · left
      obtain rfl:k=l.length:=by omega
      rw [he];simp) 0 (Nat.zero_le _)
  rw [show((0:Nat):Int)=0 from rfl,List.drop_zero] at key
  refine⟨_,key,?_⟩
  by_cases h:l.any f=true
  · rw [if_pos h];exact⟨by omega,h⟩
  · rw [if_neg h];simpa using h
theorem TR{l:List b8}(hl:l.length≤maxLen)(f:b8→Bool):gT l (fun x=>some (f x))=some (l.any f):=by
  obtain⟨o,e,h⟩:=JD l f (body:=jH l (fun x=>some (f x))) (fun k hk=>by
    simp only [jH]
    rw [if_pos (by simp;omega),aX hk,gX (mF hk hl)];rfl) (by simp [jH])
  unfold gT sE
  rw [e]
  cases o with
  | brk u=>simp only at h;simp [nH,wY,h]
  | ret r=>simp only at h;simp [nH,h]
theorem RK{l:List aP}(hl:l.length≤maxLen)(f:aP→Bool)(g:aP→Option Bool)(hg:∀x∈l,g x=some (f x)):gJ l g=some (l.any f):=by
  obtain⟨o,e,h⟩:=JD l f (body:=i5 l g) (fun k hk=>by
    simp only [i5]
    rw [if_pos (by simp;omega),aX hk,gX (mF hk hl)]
    simp only [aI,hg _ (List.getElem_mem hk)]) (by simp [i5])
  unfold gJ qC
  rw [e]
  cases o with
  | brk u=>simp only at h;simp [mH,v7,h]
  | ret r=>simp only at h;simp [mH,h]
theorem RL{l:List aH}(hl:l.length≤maxLen)(f:aH→Bool)(g:aH→Option Bool)(hg:∀x∈l,g x=some (f x)):gK l g=some (l.any f):=by
  obtain⟨o,e,h⟩:=JD l f (body:=i6 l g) (fun k hk=>by
    simp only [i6]
    rw [if_pos (by simp;omega),aX hk,gX (mF hk hl)]
    simp only [aI,hg _ (List.getElem_mem hk)]) (by simp [i6])
  unfold gK qD
  rw [e]
  cases o with
  | brk u=>simp only at h;simp [mI,v8,h]
  | ret r=>simp only at h;simp [mI,h]
theorem contains_eq{l:List Int}(hl:l.length≤maxLen)(v:Int):nT l v=some (decide (v∈l)):=by
  obtain⟨o,e,h⟩:=JD l (fun x=>v == x) (body:=eB l v) (fun k hk=>by
    simp only [eB]
    rw [if_pos (by simp;omega),aX hk,gX (mF hk hl)];rfl) (by simp [eB])
  have ha:l.any (fun x=>v == x)=decide (v∈l):=by
    rw [Bool.eq_iff_iff];simp
  rw [ha] at h
  unfold nT lS
  rw [e]
  cases o with
  | brk u=>simp only at h;simp [nS,GO,h]
  | ret r=>simp only at h;simp [nS,h]
theorem SC{l:List aH}{x:Int}:x∈dB l↔∃s∈l,x∈s.aN:=List.mem_flatMap
noncomputable section
variable {m:Mem} (hsh:fN m.aE) (hl:(d9 m.aB).length≤1073741824) (hg:m.aB.Global.length≤maxLen) (ho:m.aB.bQ.length≤maxLen)
include hl hg ho
theorem aDW(s:Int):JX m.aB s=some (decide (s∈d9 m.aB)):=by
  have hb:(1073741824:Nat)≤maxLen:=by simp [maxLen]
  unfold JX
  rw [LW hl hg ho]
  simp only [aI]
  rw [EV (by omega)];rfl
theorem RM(s:Int):E8 m.aB s=some (decide (s∈d9 m.aB)):=by
  have hb:(1073741824:Nat)≤maxLen:=by simp [maxLen]
  have hal:=gU m.aB
  have e1:∀x∈m.aB.Global,nI x s=some (decide (s∈x.aN)):=fun x hx=>by
    have:=uM hx
    unfold nI;rw [contains_eq (by omega)];rfl
  have e2:∀x∈m.aB.bQ,nI x s=some (decide (s∈x.aN)):=fun x hx=>by
    have:=uM hx
    unfold nI;rw [contains_eq (by omega)];rfl
  unfold E8 A2
  rw [RL hg (fun x=>decide (s∈x.aN)) _ e1,RL ho (fun x=>decide (s∈x.aN)) _ e2]
  have a1:(m.aB.Global.any fun x=>decide (s∈x.aN))=decide (s∈dB m.aB.Global):=by
    rw [Bool.eq_iff_iff];simp [SC]
  have a2:(m.aB.bQ.any fun x=>decide (s∈x.aN))=decide (s∈dB m.aB.bQ):=by
    rw [Bool.eq_iff_iff];simp [SC]
  rw [a1,a2]
  simp only [aI,d9,List.mem_append]
  by_cases q:s∈dB m.aB.Global <;> simp [q]
def jV(m:Mem)(s:Int):Int:=if bK m.aE s < 0 then 0 else if s∈d9 m.aB then 1 else if 6 < nM m.aE s then 2 else 3
include hsh
theorem aAJ(s:Int):GW m s=some (jV m s):=by
  unfold GW jV
  rw [i3 hsh,aDW hl hg ho]
  simp only [aI]
  by_cases q:bK m.aE s < 0
  · simp [q]
  · rw [xN hsh (by omega)]
    by_cases q2:s∈d9 m.aB
    · simp [q,q2]
    · by_cases q3:6 < nM m.aE s <;> simp [q,q2,q3]
theorem aAK(s:Int):G7 m s=some (jV m s):=by
  unfold G7 jV
  rw [kN hsh,RM hl hg ho]
  simp only [aI]
  by_cases q:bK m.aE s < 0
  · simp [q]
  · rw [EU hsh (by omega)]
    by_cases q2:s∈d9 m.aB
    · simp [q,q2]
    · by_cases q3:6 < nM m.aE s <;> simp [q,q2,q3]
def wA(m:Mem)(h:Int):Prop:=rQ h∧jV m (h % 32)=3∧nM m.aE (h % 32)=h / 32
instance (m:Mem) (h:Int):Decidable (wA m h):=by unfold wA;infer_instance
omit hl hg ho hsh in
theorem FM{m:Mem}{s:Int}(h:jV m s=3):0≤bK m.aE s:=by
  unfold jV at h
  split at h
  · omega
  · omega
theorem rS(h:Int):pT m h=some (decide (wA m h)):=by
  unfold pT qX
  rw [fK,d5]
  by_cases q:rQ h
  · have hm:=q.mod
    rw [bE q,if_pos q]
    simp only [aI,if_true,aAJ hsh hl hg ho]
    by_cases q2:jV m (h % 32)=3
    · have n:(jV m (h % 32) == 3)=true:=by simpa using q2
      have eg:AB h=some (h / 32):=by
        unfold AB
        unfold rQ at q
        rw [fK,bE (show rQ h from q),FL (by omega),aR (by omega) (by omega)];rfl
      rw [n,xN hsh (FM q2),eg]
      simp only [if_true,aI]
      congr 1;rw [Bool.eq_iff_iff];simp only [beq_iff_eq,decide_eq_true_eq]
      exact⟨fun a=>⟨q,q2,a⟩,fun a=>a.2.2⟩
    · have n:(jV m (h % 32) == 3)=false:=by simpa using q2
      rw [n,bL (fun a:wA m h=>q2 a.2.1)];rfl
  · rw [bL q,bL (fun a:wA m h=>q a.1)];rfl
theorem JE(h:Int):zW m h=some (decide (wA m h)):=by
  unfold zW tU
  rw [iD]
  by_cases q:rQ h
  · have hm:=q.mod
    rw [bE q,hm.1]
    simp only [aI,if_true,aAK hsh hl hg ho]
    by_cases q2:jV m (h % 32)=3
    · have n:(jV m (h % 32) == 3)=true:=by simpa using q2
      have eg:bC (Int.tdiv h 32)=h / 32:=by
        unfold rQ at q
        rw [FL (by omega),aR (by omega) (by omega)]
      rw [n,EU hsh (FM q2),eg]
      simp only [if_true,aI]
      congr 1;rw [Bool.eq_iff_iff];simp only [beq_iff_eq,decide_eq_true_eq]
      exact⟨fun a=>⟨q,q2,a⟩,fun a=>a.2.2⟩
    · have n:(jV m (h % 32) == 3)=false:=by simpa using q2
      rw [n,bL (fun a:wA m h=>q2 a.2.1)];rfl
  · rw [bL q,bL (fun a:wA m h=>q a.1)];rfl
end
def vY(b:aD)(r:b8):Prop:=wA b.Mem r.Handle∧r.aM≤b.aK.aM
instance (b:aD) (r:b8):Decidable (vY b r):=by unfold vY;infer_instance
def l9(b:aD):Prop:=(pN b.Mem∧PF b.aK∧rR b.bB∧LY b.lZ)∧∀r∈bT b.bB,vY b r
instance (b:aD):Decidable (l9 b):=by unfold l9;infer_instance
def GI(b:aD):Prop:=nN b.Mem∧b.aK.bG.length≤1048576∧b.bB.length≤1048576∧(bT b.bB).length≤1048576∧b.lZ.length≤1048576
theorem GI.rows{b:aD}(h:GI b):∀s∈b.bB,s.Rows.length≤1048576:=fun s hs=>by
  have:=M5 hs;have:=h.2.2.2.1;omega
noncomputable section
variable {b:aD} (hf:b.Mem.aE.Bytes.length≤maxLen∧(d9 b.Mem.aB).length≤1073741824∧b.aK.bG.length≤maxLen∧b.bB.length≤maxLen∧(bT b.bB).length≤1073741824∧b.lZ.length≤maxLen)
include hf
theorem RN:EZ b=some (decide (l9 b)):=by
  obtain⟨f1,f2,f3,f4,f5,f6⟩:=hf
  unfold EZ oK
  rw [LX f1 f2,rO,GH f5 f4,LZ f6]
  by_cases q1:pN b.Mem
  · by_cases q2:PF b.aK
    · by_cases q3:rR b.bB
      · by_cases q4:LY b.lZ
        · have hg:b.Mem.aB.Global.length≤maxLen:=by rw [q1.1.2.1];simp [maxLen]
          have ho:b.Mem.aB.bQ.length≤maxLen:=by rw [q1.1.2.2.1];simp [maxLen]
          have hmx:(1073741824:Nat)≤maxLen:=by simp [maxLen]
          simp only [bE q1,bE q2,bE q3,bE q4,aI,eF,a9,if_false]
          rw [JC f5 f4]
          simp only [aI]
          have hst:∀k (hk:k < (bT b.bB).length),tE b (bT b.bB) (k:Int)=if vY b (bT b.bB)[k] then some (.next ((k+1:Nat):Int)) else some (.stop (Out.ret false)):=by
            intro k hk
            simp only [tE,AD]
            rw [if_pos (by simp;omega),aX hk,gX (show k < maxLen by omega)]
            generalize (bT b.bB)[k]=r
            simp only [aI,rS q1.1.1.1 f2 hg ho]
            by_cases a1:wA b.Mem r.Handle
            · rw [bE a1]
              simp only [eF,a9,if_false]
              by_cases a2:r.aM≤b.aK.aM
              · rw [if_neg (by simp;omega),if_pos ⟨a1,a2⟩]
              · rw [if_pos (by simp;omega),if_neg (fun x=>a2 x.2)]
            · rw [bL a1]
              simp only [kO,if_true]
              rw [if_neg (fun x=>a1 x.1)]
          have key:=iC (f:=tE b (bT b.bB)) (bT b.bB) (fun k=>(k:Int)) (vY b) (Out.brk ()) (Out.ret false) (fun k hk hx=>by rw [hst k hk,if_pos hx]) (fun k hk hx=>by rw [hst k hk,if_neg hx]) (by simp [tE])
          rw [show((0:Nat):Int)=0 from rfl] at key
          rw [key]
          by_cases q:∀r∈bT b.bB,vY b r
          · rw [if_pos q,bE (show l9 b from ⟨⟨q1,q2,q3,q4⟩,q⟩)];rfl
          · rw [if_neg q,bL (fun x:l9 b=>q x.2)];rfl
        · rw [bL (fun x:l9 b=>q4 x.1.2.2.2),bE q1,bE q2,bE q3,bL q4];rfl
      · rw [bL (fun x:l9 b=>q3 x.1.2.2.1),bE q1,bE q2,bL q3];rfl
    · rw [bL (fun x:l9 b=>q2 x.1.2.1),bE q1,bL q2];rfl
  · rw [bL (fun x:l9 b=>q1 x.1.1),bL q1];rfl
theorem aDX:J7 b=some (decide (l9 b)):=by
  obtain⟨f1,f2,f3,f4,f5,f6⟩:=hf
  unfold J7 o4
  rw [TQ f1 f2,rP f3,yY f5,L4 f6]
  by_cases q1:pN b.Mem
  · by_cases q2:PF b.aK
    · by_cases q3:rR b.bB
      · by_cases q4:LY b.lZ
        · have hg:b.Mem.aB.Global.length≤maxLen:=by rw [q1.1.2.1];simp [maxLen]
          have ho:b.Mem.aB.bQ.length≤maxLen:=by rw [q1.1.2.2.1];simp [maxLen]
          have hmx:(1073741824:Nat)≤maxLen:=by simp [maxLen]
          simp only [bE q1,bE q2,bE q3,bE q4,aI,eF,a9,if_false]
          have e1:(fun y0=>yH y0 b)=fun r:b8=>some (!decide (vY b r)):=by
            funext r
            unfold yH qE
            rw [JE q1.1.1.1 f2 hg ho]
            by_cases a1:wA b.Mem r.Handle
            · by_cases a2:r.aM≤b.aK.aM
              · rw [bE a1,bE (show vY b r from ⟨a1,a2⟩),bL (show ¬b.aK.aM < r.aM by omega)];rfl
              · rw [bE a1,bL (fun x:vY b r=>a2 x.2),bE (show b.aK.aM < r.aM by omega)];rfl
            · rw [bL a1,bL (fun x:vY b r=>a1 x.1)];rfl
          have e2:∀l∈b.bB,(fun y0=>D4 y0 b) l=some (!decide (∀r∈l.Rows,vY b r)):=fun l hl=>by
            have:=M5 hl
            simp only [D4]
            rw [e1,TR (by omega),ES];rfl
          rw [RK f4 _ _ e2,ES]
          have hiff:l9 b↔∀l∈b.bB,∀r∈l.Rows,vY b r:=by
            constructor
            · intro x l hl r hr
              exact x.2 r (List.mem_flatMap.2 ⟨l,hl,hr⟩)
            · intro x
              refine⟨⟨q1,q2,q3,q4⟩,fun r hr=>?_⟩
              obtain⟨l,hl,hr⟩:=List.mem_flatMap.1 hr
              exact x l hl r hr
          simp only [aI,Bool.not_not,hiff]
        · rw [bL (fun x:l9 b=>q4 x.1.2.2.2),bE q1,bE q2,bE q3,bL q4];rfl
      · rw [bL (fun x:l9 b=>q3 x.1.2.2.1),bE q1,bE q2,bL q3];rfl
    · rw [bL (fun x:l9 b=>q2 x.1.2.1),bE q1,bL q2];rfl
  · rw [bL (fun x:l9 b=>q1 x.1.1),bL q1];rfl
end
end Go.Gv
end
noncomputable section
namespace Go.Gv
theorem RO{α:Type}{f:(List α×Int)→Option (Step (List α×Int) (List α))}(l:List α)
    (h:∀k (hk:k < l.length),f (l.take k,(k:Int))=some (.next (l.take k ++ [l[k]],((k+1:Nat):Int)))) (he:f (l,(l.length:Int))=some (.stop l)):loop f ([],0)=some l:=by
  have:=lF (f:=f) l.length (fun k=>(l.take k,(k:Int))) l (fun k hk=>by rw [h k hk,List.take_succ_eq_append_getElem hk]) (by rw [List.take_length];exact he)
  simpa using this
theorem aGI{α:Type}{f:(Int×List α)→Option (Step (Int×List α) (List α))}(l:List α)
    (h:∀k (hk:k < l.length),f ((k:Int),l.take k)=some (.next (((k+1:Nat):Int),l.take k ++ [l[k]]))) (he:f ((l.length:Int),l)=some (.stop l)):loop f (0,[])=some l:=by
  have:=lF (f:=f) l.length (fun k=>((k:Int),l.take k)) l (fun k hk=>by rw [h k hk,List.take_succ_eq_append_getElem hk]) (by rw [List.take_length];exact he)
  simpa using this
theorem DM{l:List Int}(h:l.length≤1073741824):lG l=some l:=by
  unfold lG;rw [aS (by simpa using h)];rfl
theorem nF{l:List Int}(h:l.length≤1073741824):eY l=some l:=by
  unfold eY;rw [aS (by simpa using h)];rfl
theorem aH6{l:List iI}(h:l.length≤1073741824):vG l=some l:=by
  unfold vG;rw [aS (by simpa using h)];rfl
theorem aFS{l:List b8}(h:l.length≤1073741824):sK l=some l:=by
  unfold sK;rw [aS (by simpa using h)];rfl
theorem aGJ{l:List aH}(hl:l.length≤1048576)(hs:∀s∈l,s.aN.length≤1048576):E0 l=some l:=by
  unfold E0
  rw [RO l]
  · rfl
  · intro k hk
    have:=hs _ (List.getElem_mem hk)
    simp only [IB]
    rw [if_pos (by simp;omega),aX hk]
    simp only [aI]
    rw [DM (by omega),aI,aS (by simp;omega),aR (by omega) (by omega)];rfl
  · simp [IB]
theorem EW{l:aB}(h1:l.Global.length≤1048576)(h2:l.bQ.length≤1048576)(h3:∀s∈l.Global,s.aN.length≤1048576)(h4:∀s∈l.bQ,s.aN.length≤1048576):tG l=some l:=by
  unfold tG;rw [aGJ h1 h3,aGJ h2 h4];rfl
theorem L5{l:aB}(h1:l.Global.length≤1048576)(h2:l.bQ.length≤1048576)(h3:∀s∈l.Global,s.aN.length≤1048576)(h4:∀s∈l.bQ,s.aN.length≤1048576):gR l=some l:=by
  unfold gR
  rw [aGI l.Global]
  · simp only [aI,J5,J4]
    rw [aGI l.bQ]
    · rfl
    · intro k hk
      have:=h4 _ (List.getElem_mem hk)
      simp only [AU]
      rw [if_pos (by simp;omega),aX hk]
      simp only [aI]
      rw [nF (by omega),aI,aS (by simp;omega),AT,aR (by omega) (by omega)];rfl
    · simp [AU]
  · intro k hk
    have:=h3 _ (List.getElem_mem hk)
    simp only [AW]
    rw [if_pos (by simp;omega),aX hk]
    simp only [aI]
    rw [nF (by omega),aI,aS (by simp;omega),AV,aR (by omega) (by omega)];rfl
  · simp [AW]
theorem OD{h:aE}(h1:h.Bytes.length≤1048576)(h2:h.Class.length≤1048576):zQ h=some h:=by
  unfold zQ;rw [DM (by omega),DM (by omega)];rfl
theorem OE{h:aE}(h1:h.Bytes.length≤1048576)(h2:h.Class.length≤1048576):rX h=some h:=by
  unfold rX;rw [nF (by omega),nF (by omega)];rfl
theorem FN{m:Mem}(h:nN m):tH m=some m:=by
  have a:=OD h.1 h.2.1
  have b:=EW h.2.2.1 h.2.2.2.1 h.WA.1 h.WA.2
  unfold tH;rw [a,b];rfl
theorem YW{m:Mem}(h:nN m):AX m=some m:=by
  have a:=OE h.1 h.2.1
  have b:=L5 h.2.2.1 h.2.2.2.1 h.WA.1 h.WA.2
  unfold AX;rw [a,b];rfl
theorem xQ{c:aK}(h:c.bG.length≤1048576):m4 c=some c:=by
  unfold m4;rw [aS (by simp;omega)];rfl
theorem xR{c:aK}(h:c.bG.length≤1048576):jN c=some c:=by
  unfold jN;rw [aH6 (by omega)];rfl
theorem TS{l:List aP}(hl:l.length≤1048576)(hs:∀s∈l,s.Rows.length≤1048576):uZ l=some l:=by
  unfold uZ
  rw [RO l]
  · rfl
  · intro k hk
    have:=hs _ (List.getElem_mem hk)
    simp only [FT]
    rw [if_pos (by simp;omega),aX hk]
    simp only [aI]
    rw [aS (by simp;omega),aS (by simp;omega),aR (by omega) (by omega)];rfl
  · simp [FT]
theorem L6{l:List aP}(hl:l.length≤1048576)(hs:∀s∈l,s.Rows.length≤1048576):jO l=some l:=by
  unfold jO
  rw [RO l]
  · rfl
  · intro k hk
    have:=hs _ (List.getElem_mem hk)
    simp only [AY]
    rw [if_pos (by simp;omega),aX hk]
    simp only [aI]
    rw [aFS (by omega),aI,aS (by simp;omega),aR (by omega) (by omega)];rfl
  · simp [AY]
theorem WD{b:aD}(h:GI b):AG b=some b:=by
  have m:=FN h.1
  have c:=xQ h.2.1
  have l:=TS h.2.2.1 h.rows
  have:=h.2.2.2.2
  unfold AG;rw [m,c,l,DM (by omega)];rfl
theorem aH7{b:aD}(h:GI b):DZ b=some b:=by
  have m:=YW h.1
  have c:=xR h.2.1
  have l:=L6 h.2.2.1 h.rows
  have:=h.2.2.2.2
  unfold DZ;rw [m,c,l,nF (by omega)];rfl
end Go.Gv
end
noncomputable section
namespace Go.Gv
theorem jW(w:Int):fA w=some (decide (0≤w∧w≤2)):=by
  unfold fA;rw [dW];rfl
noncomputable section
variable {c:aK} (hc:PF c) {w:Int} (hw:0≤w∧w≤2)
include hc
theorem PF.small:c.bG.length≤1048576∧c.bG.length≤maxLen:=by
  have:=hc.2.1;simp only [maxLen];omega
theorem PF.aH8{k:Nat}{p:iI}(hp:POk c.aM p):PF ⟨c.aM,c.bG.set k p⟩:=⟨hc.1,by simpa using hc.2.1,fun q hq=>(List.mem_or_eq_of_mem_set hq).elim (hc.2.2 q) (fun e=>e ▸ hp)⟩
theorem PF.aXS(h:c.aM+1≤100000):PF ⟨c.aM+1,c.bG⟩:=by
  have h1:=hc.1
  exact⟨⟨by simp only;omega,h⟩,hc.2.1,fun q hq=>by
    obtain⟨a,b,d⟩:=hc.2.2 q hq
    exact⟨⟨a.1,by simp only;omega⟩,b,d⟩⟩
include hw
theorem X6:∃p,idx c.bG w=some p∧POk c.aM p:=by
  have h3:=hc.2.1
  rw [l6 hw.1 (by omega)]
  exact⟨_,rfl,hc.2.2 _ (List.getElem_mem _)⟩
theorem aGK(e:Int):∃r,E1 c w e=some r∧J9 c w e=some r∧PF r.1∧r.1.aM=c.aM:=by
  obtain⟨p,hp,h1,⟨hs0,hs1⟩,h2⟩:=X6 hc hw
  have h3:=hc.2.1
  unfold E1 J9
  rw [xQ hc.small.1,xR hc.small.1,rO,rP hc.small.2,jW,bY,bE hc,bE hw]
  simp only [aI,eF,a9,if_false,AN,BA,hp]
  cases h4:p.On
  · exact⟨_,rfl,rfl,hc,rfl⟩
  · cases h5:p.fG
    · by_cases h6:p.aM=e
      · simp only [oL,o6,h6,beq_self_eq_true,if_true,eF,a9,if_false]
        exact⟨_,rfl,rfl,hc,rfl⟩
      · have h6':(p.aM == e)=false:=by simpa using h6
        simp only [oL,o6,h6',eF,a9,if_false,hp,aI]
        by_cases h7:p.Seen=2
        · simp only [h7,beq_self_eq_true,if_true,show ¬((2:Int) < 2) by omega,decide_false,a9,if_false]
          exact⟨_,rfl,rfl,hc.aH8 ⟨h1,by simp,fun q=>by simp [h4] at q⟩,rfl⟩
        · have h7':(p.Seen == 2)=false:=by simpa using h7
          simp only [h7',show p.Seen < 2 by omega,decide_true,if_true,a9,if_false]
          have hw7:bC (p.Seen+1)=p.Seen+1:=aR (by omega) (by omega)
          exact⟨_,rfl,rfl,hc.aH8 ⟨h1,by simp only [hw7];omega,fun q=>by simp [h4] at q⟩,rfl⟩
    · exact⟨_,rfl,rfl,hc,rfl⟩
theorem aJS(e:Int):∃r,IG c w e=some r∧NN c w e=some r∧(PF r.1∧r.1.aM=c.aM)∧(r.2=false→r.1=c):=by
  obtain⟨p,hp,hpk⟩:=X6 hc hw
  have h3:=hc.2.1
  unfold IG NN
  rw [xQ hc.small.1,xR hc.small.1,rO,rP hc.small.2,jW,bY,bY,dW,bE hc,bE hw]
  simp only [aI,eF,a9,if_false,wP,xC,hp]
  by_cases h:0≤e∧e≤c.aM
  · simp only [bE h,eF,a9,if_false]
    exact⟨_,rfl,rfl,⟨hc.aH8 ⟨h,by simp,fun q=>by cases q⟩,rfl⟩,fun q=>by cases q⟩
  · simp only [bL h,kO,if_true]
    exact⟨_,rfl,rfl,⟨hc,rfl⟩,fun _=>rfl⟩
omit hw in
theorem aMT(e:Int):∃r,MK c e=some r∧R9 c e=some r∧PF r.1∧c.aM≤r.1.aM:=by
  have h3:=hc.2.1
  unfold MK R9
  rw [xQ hc.small.1,xR hc.small.1,rO,rP hc.small.2,bE hc]
  simp only [aI,eF,a9,if_false,AO,BC]
  by_cases h:c.aM=e
  · subst h
    simp only [bne_self_eq_false,a9,if_false]
    by_cases h:c.aM=100000
    · simp only [h,beq_self_eq_true,if_true];exact⟨_,rfl,rfl,hc,by simp [h]⟩
    · have h':(c.aM == 100000)=false:=by simpa using h
      have hE:=hc.1
      have hw7:bC (c.aM+1)=c.aM+1:=aR (by omega) (by omega)
      simp only [h',a9,if_false,hw7];exact⟨_,rfl,rfl,hc.aXS (by omega),by simp only;omega⟩
  · have h':(c.aM != e)=true:=by simpa using h
    simp only [h',if_true];exact⟨_,rfl,rfl,hc,Int.le_refl _⟩
end
theorem aVZ{b:aD}(hc:PF b.aK){w:Int}(hw:0≤w∧w≤2)(s:Sub) :
    ∃x y,JY b w s=some (x,y)∧vP s b w=some (y,x)∧∃cl,x=⟨b.Mem,cl,b.bB,b.lZ⟩∧PF cl∧b.aK.aM≤cl.aM:=by
  obtain⟨r,e1,e2,h3,h4⟩:=aJS hc hw s.E
  unfold JY vP
  rw [e1,e2]
  simp only [cD,bI,wE,aI]
  by_cases p0:s.Pc=0
  · simp only [p0,beq_self_eq_true,if_true];exact⟨_,_,rfl,rfl,_,rfl,hc,by omega⟩
  · have p0':(s.Pc == 0)=false:=by simpa using p0
    simp only [p0',a9,if_false]
    by_cases p1:s.Pc=1
    · simp only [p1,beq_self_eq_true,if_true]
      cases h:r.2
      · rw [h4 h];exact⟨_,_,rfl,rfl,_,rfl,hc,by omega⟩
      · exact⟨_,_,rfl,rfl,_,rfl,h3.1,by rw [h3.2];exact Int.le_refl _⟩
    · have p1':(s.Pc == 1)=false:=by simpa using p1
      simp only [p1',a9,if_false]
      by_cases p2:s.Pc=2
      · simp only [p2,beq_self_eq_true,if_true]
        by_cases q:b.aK.aM=s.E
        · simp only [q,beq_self_eq_true,if_true];exact⟨_,_,rfl,rfl,_,rfl,hc,by omega⟩
        · have q':(b.aK.aM == s.E)=false:=by simpa using q
          simp only [q',a9,if_false];exact⟨_,_,rfl,rfl,_,rfl,hc,by omega⟩
      · have p2':(s.Pc == 2)=false:=by simpa using p2
        simp only [p2',a9,if_false];exact⟨_,_,rfl,rfl,_,rfl,hc,by omega⟩
theorem aK6{b:aD}(hc:PF b.aK)(s:Sub) :
    ∃x y,xZ b s=some (x,y)∧nA s b=some (y,x)∧∃cl,x=⟨b.Mem,cl,b.bB,b.lZ⟩∧PF cl∧b.aK.aM≤cl.aM:=by
  obtain⟨r2,e3,e4,h4⟩:=aMT hc s.E
  unfold xZ nA j7
  rw [e3,e4,bY,jW]
  simp only [cD,bI,pX,pY,j6,aI]
  by_cases p0:s.Pc=0
  · simp only [p0,beq_self_eq_true,if_true];exact⟨_,_,rfl,rfl,_,rfl,hc,by omega⟩
  · have p0':(s.Pc == 0)=false:=by simpa using p0
    simp only [p0',a9,if_false]
    by_cases p1:s.Pc=1
    · simp only [p1,beq_self_eq_true,if_true,show((1:Int) == 2)=false from rfl,a9,if_false]
      by_cases hB:0≤s.B∧s.B≤2
      · obtain⟨r,e1,e2,h3,h3'⟩:=aGK hc hB s.E
        simp only [bE hB,eF,a9,if_false,if_true,e1,e2,aI]
        cases h:r.2
        · exact⟨_,_,rfl,rfl,_,rfl,h3,by rw [h3'];exact Int.le_refl _⟩
        · by_cases q:bC (s.B+1)=3
          · simp only [q,beq_self_eq_true,if_true,eF,a9,if_false];exact⟨_,_,rfl,rfl,_,rfl,h3,by rw [h3'];exact Int.le_refl _⟩
          · have q':(bC (s.B+1) == 3)=false:=by simpa using q
            simp only [q',eF,a9,if_false];exact⟨_,_,rfl,rfl,_,rfl,h3,by rw [h3'];exact Int.le_refl _⟩
      · simp only [bL hB,kO,a9,if_false,if_true]
        exact⟨_,_,rfl,rfl,_,rfl,hc,by omega⟩
    · have p1':(s.Pc == 1)=false:=by simpa using p1
      simp only [p1',a9,if_false]
      by_cases p2:s.Pc=2
      · simp only [p2,beq_self_eq_true,if_true]
        cases h:r2.2
        · simp only [a9,if_false];exact⟨_,_,rfl,rfl,_,rfl,h4⟩
        · simp only [if_true];exact⟨_,_,rfl,rfl,_,rfl,h4⟩
      · have p2':(s.Pc == 2)=false:=by simpa using p2
        simp only [p2',a9,if_false];exact⟨_,_,rfl,rfl,_,rfl,hc,by omega⟩
end Go.Gv
end
noncomputable section
namespace Go.Gv
theorem aK7:∀(n:Nat) (l:List Int),l.Nodup→(∀x∈l,0≤x∧x < (n:Int))→l.length≤n
  | 0, l, _, h => by
    cases l with
    | nil=>simp
    | cons a t=>have:=h a (by simp);omega
  | n + 1, l, hn, h => by
    have ih:=aK7 n (l.erase (n:Int)) (hn.erase _) (fun x hx=>by
      have h1:=(hn.mem_erase_iff).1 hx
      have h2:=h x h1.2
      have:=h1.1
      omega)
    have:=List.length_erase (a:=(n:Int)) (l:=l)
    split at this <;> omega
theorem aH9(a b:List aP):bT (a++b)=bT a++bT b:=by simp [bT]
theorem WE(a b:List aH):dB (a++b)=dB a++dB b:=by simp [dB]
theorem DN{l:List aP}{k:Nat}(hk:k < l.length)(x:aP):bT (l.set k x)=bT (l.take k)++(x.Rows++bT (l.drop (k+1))):=by
  rw [List.set_eq_take_append_cons_drop,if_pos hk,aH9];simp [bT]
theorem zX{l:List aP}{k:Nat}(hk:k < l.length):bT l=bT (l.take k)++(l[k].Rows++bT (l.drop (k+1))):=by
  conv=>lhs;rw [←List.set_getElem_self hk,DN hk]
theorem DO{l:List aH}{k:Nat}(hk:k < l.length)(x:aH):dB (l.set k x)=dB (l.take k)++(x.aN++dB (l.drop (k+1))):=by
  rw [List.set_eq_take_append_cons_drop,if_pos hk,WE];simp [dB]
theorem zY{l:List aH}{k:Nat}(hk:k < l.length):dB l=dB (l.take k)++(l[k].aN++dB (l.drop (k+1))):=by
  conv=>lhs;rw [←List.set_getElem_self hk,DO hk]
def aIA(l:List aP)(s:Int):Prop:=∃r∈bT l,rQ r.Handle∧r.Handle % 32=s
instance (l:List aP) (s:Int):Decidable (aIA l s):=by unfold aIA;infer_instance
noncomputable section
variable {l:List aP} (hl:rR l)
include hl
theorem rR.small:(bT l).length≤1073741824∧l.length≤maxLen∧l.length≤1048576∧∀s∈l,s.Rows.length≤24:=by
  have:=hl.1;have h2:=hl.2.1
  refine⟨by omega,by simp only [maxLen];omega,by omega,fun s hs=>?_⟩
  have:=M5 hs;omega
theorem aAL(s:Int):GZ l s=some (decide (aIA l s)):=by
  have hm:=hl.small
  unfold GZ
  rw [JC hm.1 hm.2.1,aI]
  have key:=iC (f:=mS s (bT l)) (bT l) (fun k=>(k:Int)) (fun r=>¬(rQ r.Handle∧r.Handle % 32=s)) (Out.brk ()) (Out.ret true)
    (fun k hk hp=>by
      have hk':=hl.2.1
      simp only [mS,qZ]
      rw [if_pos (by simp;omega),aX hk,gX (show k < maxLen by simp only [maxLen];omega)]
      simp only [aI,fK,d5]
      by_cases q:rQ (bT l)[k].Handle
      · have:((bT l)[k].Handle % 32 == s)=false:=by simpa using fun a=>hp ⟨q,a⟩
        simp [q,this]
      · simp [q])
    (fun k hk hp=>by
      have hp:=Classical.not_not.1 hp
      simp only [mS,qZ]
      rw [if_pos (by simp;omega),aX hk]
      simp [fK,d5,hp.1,hp.2])
    (by simp [mS])
  have key':loop (mS s (bT l)) 0=_:=key
  rw [key']
  by_cases q:aIA l s
  · rw [if_neg (fun a=>by obtain⟨r,hr,e⟩:=q;exact a r hr e),bE q];rfl
  · rw [if_pos (fun r hr e=>q ⟨r,hr,e⟩),bL q];rfl
theorem aAM(s:Int):HD l s=some (decide (aIA l s)):=by
  have hm:=hl.small
  unfold HD
  have e1:∀(r:b8),o5 r s=some (decide (rQ r.Handle∧r.Handle % 32=s)):=by
    intro r
    unfold o5 nW
    rw [iD]
    by_cases q:rQ r.Handle
    · rw [q.mod.1];simp [q];rfl
    · simp [q]
  have e2:∀x∈l,A9 x s=some (x.Rows.any fun r=>decide (rQ r.Handle∧r.Handle % 32=s)):=by
    intro x hx
    unfold A9
    have:x.Rows.length≤maxLen:=by have:=hm.2.2.2 x hx;simp only [maxLen];omega
    rw [show(fun y0=>o5 y0 s)=fun r=>some (decide (rQ r.Handle∧r.Handle % 32=s)) from funext e1,TR this];rfl
  rw [RK hm.2.1 (fun x=>x.Rows.any fun r=>decide (rQ r.Handle∧r.Handle % 32=s)) _ e2]
  simp only [aI]
  congr 1
  rw [Bool.eq_iff_iff,decide_eq_true_iff]
  simp only [List.any_eq_true,decide_eq_true_eq,aIA,bT,List.mem_flatMap]
  constructor
  · rintro⟨x,hx,r,hr,h⟩;exact⟨r,⟨x,hx,hr⟩,h⟩
  · rintro⟨r,⟨x,hx,hr⟩,h⟩;exact⟨x,hx,r,hr,h⟩
theorem rR.more{k:Nat}(hk:k < l.length){r:b8}(hr:xP r)(hn:¬aIA l (r.Handle % 32)):rR (l.set k ⟨l[k].Rows ++ [r]⟩):=by
  have e:=DN hk (⟨l[k].Rows ++ [r]⟩:aP)
  have p:(bT (l.set k ⟨l[k].Rows ++ [r]⟩)).Perm (r :: bT l):=by
    rw [e,zX hk]
    refine List.Perm.trans ?_ List.perm_middle
    simp only [List.append_assoc]
    exact List.Perm.append_left _ (by simp only [List.singleton_append];exact(List.perm_middle (l₁:=l[k].Rows) (l₂:=bT (l.drop (k+1))) (a:=r)))
  have h1:∀x∈bT (l.set k ⟨l[k].Rows ++ [r]⟩),xP x:=fun x hx=>by
    rcases List.mem_cons.1 (p.mem_iff.1 hx) with rfl | h
    · exact hr
    · exact hl.2.2.1 x h
  have h2:((bT (l.set k ⟨l[k].Rows ++ [r]⟩)).map l8).Nodup:=by
    refine(List.Perm.nodup_iff (p.map l8)).2 ?_
    rw [List.map_cons,List.nodup_cons]
    refine⟨fun h=>hn ?_,hl.2.2.2⟩
    obtain⟨x,hx,e⟩:=List.mem_map.1 h
    exact⟨x,hx,(hl.2.2.1 x hx).1,e⟩
  refine⟨by simpa using hl.1,?_,h1,h2⟩
  have:=aK7 24 _ h2 (fun x hx=>by
    obtain⟨y,hy,rfl⟩:=List.mem_map.1 hx
    have:=(h1 y hy).1.mod
    unfold l8;omega)
  simpa using this
end
theorem aNM{b:aD}(hb:l9 b)(hs:GI b){w:Int}(hw:0≤w∧w≤2)(s:Sub) :
    ∃x y,AM b w s=some (x,y)∧nX s b w=some (y,x)∧∃L,x=⟨b.Mem,b.aK,L,b.lZ⟩∧rR L∧∀r∈bT L,vY b r:=by
  have hL:=hb.1.2.2.1
  have hm:=hb.1.1
  have hlen:w.toNat < b.bB.length:=by have:=hL.1;omega
  have hx:idx b.bB w=some b.bB[w.toNat]:=l6 hw.1 (by omega)
  have hg:b.Mem.aB.Global.length≤maxLen:=by rw [hm.1.2.1];simp [maxLen]
  have ho:b.Mem.aB.bQ.length≤maxLen:=by rw [hm.1.2.2.1];simp [maxLen]
  have hall:(d9 b.Mem.aB).length≤1073741824:=by have:=hs.1.2.2.2.2;omega
  have hrow:=hL.small.2.2.2 _ (List.getElem_mem hlen)
  have he:=hb.1.2.1.1
  unfold AM nX lE
  rw [bY,dW,rS hm.1.1.1 hall hg ho,JE hm.1.1.1 hall hg ho,d5]
  simp only [cD,bI,aI,sJ,AL,lD]
  by_cases p0:s.Pc=0
  · simp only [p0,beq_self_eq_true,if_true];exact⟨_,_,rfl,rfl,_,rfl,hL,hb.2⟩
  · have p0' : (s.Pc == 0) = false := by simpa using p0
    simp only [p0',a9,if_false]
    by_cases p1:s.Pc=1
    · simp only [p1,beq_self_eq_true,bne_self_eq_false,a9,if_false,if_true]
      by_cases q1:0≤s.E∧s.E≤b.aK.aM
      · simp only [bE q1,eF,a9,if_false]
        by_cases q2:wA b.Mem s.A
        · have hh:=q2.1
          simp only [bE q2,eF,a9,if_false,if_pos hh,hh.mod.1,aAL hL,aAM hL,aI]
          by_cases q3:aIA b.bB (s.A % 32)
          · simp only [bE q3,if_true];exact⟨_,_,rfl,rfl,_,rfl,hL,hb.2⟩
          · have hmore:=hL.more hlen (r:=⟨s.A,s.E⟩) ⟨hh,q1.1,by simp only;omega⟩ q3
            have e:EA b.bB w s.A s.E=some (b.bB.set w.toNat ⟨b.bB[w.toNat].Rows ++ [⟨s.A,s.E⟩]⟩,true):=by
              unfold EA vN
              rw [yY hL.small.1,jW,L6 hL.small.2.2.1 (fun s h=>by have:=hL.small.2.2.2 s h;omega)]
              simp only [bE hL,bE hw,aI,eF,a9,if_false,hx]
              rw [aS (by simp;omega),yY hmore.small.1,bE hmore];rfl
            simp only [bL q3,a9,if_false,hx,e,aI]
            rw [aS (by simp;omega)]
            refine⟨_,_,rfl,rfl,_,rfl,hmore,fun r hr=>?_⟩
            rw [DN hlen] at hr
            have hsp:=zX hlen
            rcases List.mem_append.1 hr with h | h
            · exact hb.2 r (by rw [hsp];exact List.mem_append_left _ h)
            · rcases List.mem_append.1 h with h | h
              · rcases List.mem_append.1 h with h | h
                · exact hb.2 r (by rw [hsp];exact List.mem_append_right _ (List.mem_append_left _ h))
                · simp at h;subst h;exact⟨q2,q1.2⟩
              · exact hb.2 r (by rw [hsp];exact List.mem_append_right _ (List.mem_append_right _ h))
        · simp only [bL q2,kO,if_true];exact⟨_,_,rfl,rfl,_,rfl,hL,hb.2⟩
      · simp only [bL q1,kO,if_true];exact⟨_,_,rfl,rfl,_,rfl,hL,hb.2⟩
    · have p1':(s.Pc == 1)=false:=by simpa using p1
      have p1'':(s.Pc != 1)=true:=by simpa using p1
      simp only [p1',p1'',a9,if_false,if_true];exact⟨_,_,rfl,rfl,_,rfl,hL,hb.2⟩
end Go.Gv
end
noncomputable section
namespace Go.Gv
def st4(b:List Int)(a:Nat)(n:Int):List Int:=(((b.set a 0).set (a+1) 0).set (a+2) 0).set (a+3) n
theorem EX(b:List Int)(a:Nat)(n:Int):(st4 b a n).length=b.length:=by simp [st4]
theorem aJT{b:List Int}(h:sT b)(a:Nat){n:Int}(hn:0≤n∧n≤255):sT (st4 b a n):=by
  have key:∀{l:List Int} (i:Nat) (v:Int),sT l→0≤v∧v≤255→sT (l.set i v):=fun i v hl hv x hx=>by
    rcases List.mem_or_eq_of_mem_set hx with h | rfl
    · exact hl x h
    · exact hv
  exact key _ _ (key _ _ (key _ _ (key _ _ h (by omega)) (by omega)) (by omega)) hn
theorem aQ4{n:Int}(hn:0≤n∧n≤255):((u8 n).toNat:Int)=n:=by
  obtain⟨m,rfl⟩:=Int.eq_ofNat_of_zero_le hn.1
  unfold u8
  rw [UInt8.toNat_ofNat'];omega
theorem WG{l:List Int}(i:Nat){v:Int}(hl:sT l)(hv:0≤v∧v≤255):sT (l.set i v):=fun x hx=>by
  rcases List.mem_or_eq_of_mem_set hx with h | rfl
  · exact hl x h
  · exact hv
def L7(b:List Int)(a:Nat)(n:Int):List Int:=(((b.set a (n / 16777216)).set (a+1) (n / 65536 % 256)).set (a+2) (n / 256 % 256)).set (a+3) (n % 256)
theorem WH(b:List Int)(a:Nat)(n:Int):(L7 b a n).length=b.length:=by simp [L7]
theorem aNN{b:List Int}(h:sT b)(a:Nat){n:Int}(hn:0≤n∧n≤4294967295):sT (L7 b a n):=by
  unfold L7
  exact WG _ (WG _ (WG _ (WG _ h (by omega)) (by omega)) (by omega)) (by omega)
theorem aNO(b:List Int)(a:Nat)(x y z u:Int):(((b.set (a+3) u).set (a+2) z).set (a+1) y).set a x=(((b.set a x).set (a+1) y).set (a+2) z).set (a+3) u:=by
  refine List.ext_getElem (by simp) fun j h1 h2=>?_
  simp only [List.getElem_set]
  by_cases j0:a=j
  · subst j0;simp
  · by_cases j1:a+1=j
    · subst j1;simp
    · by_cases j2:a+2=j
      · subst j2;simp
      · by_cases j3:a+3=j
        · subst j3;simp
        · simp [j0,j1,j2,j3]
theorem aGM{b:List Int}{a:Nat}(h:a+4≤b.length)(hl:b.length≤100000){n:Int}(hn:0≤n∧n≤4294967295):jE b (a:Int) 4 n=some (L7 b a n):=by
  have st:∀(c:List Int) (m:Int) (i:Nat),c.length=b.length→0≤m→m≤4294967295→i < 4→qY (a:Int) (c,m,(i:Int))=some (.next (c.set (a+i) (m % 256),m / 256,(i:Int) - 1)):=fun c m i hc h0 h1 hi=>by
    simp only [qY]
    rw [if_pos (by simp),aR (x:=(a:Int)+i) (by omega) (by omega),show(a:Int)+i=((a+i:Nat):Int) by omega,aX (by omega),aI,uK h0,FL h0,aR (x:=m / 256) (by omega) (by omega),aR (x:=(i:Int) - 1) (by omega) (by omega),Int.toNat_natCast]
  unfold jE
  rw [show bC (4 - 1)=((3:Nat):Int) from by rw [aR (by omega) (by omega)];rfl]
  rw [cM (st b n 3 rfl hn.1 hn.2 (by omega)),show((3:Nat):Int) - 1=((2:Nat):Int) by rfl,
    cM (st _ _ 2 (by simp) (by omega) (by omega) (by omega)),show((2:Nat):Int) - 1=((1:Nat):Int) by rfl,
    cM (st _ _ 1 (by simp) (by omega) (by omega) (by omega)),show((1:Nat):Int) - 1=((0:Nat):Int) by rfl,
    cM (st _ _ 0 (by simp) (by omega) (by omega) (by omega)),cA (r:=L7 b a n)]
  · rfl
  · simp only [qY]
    rw [if_neg (by simp)]
    have e1:n / 256 / 256=n / 65536:=by omega
    have e2:n / 256 / 256 / 256=n / 16777216:=by omega
    have e3:n / 16777216 % 256=n / 16777216:=by omega
    rw [e1,show n / 65536 / 256=n / 16777216 by omega,e3]
    unfold L7
    simp only [Nat.add_zero]
    rw [aNO]
def TU(n:Int):List UInt8:=[u8 (n / 16777216),u8 (n / 65536),u8 (n / 256),u8 n]
theorem aDY{n:Int}(hn:0≤n∧n≤4294967295):zD n 4=some (TU n):=by
  have hw:jI 4=some true:=by unfold jI;rw [dW];rfl
  unfold zD
  rw [hw]
  have e1:IntKind.u64.wrap (bC (8 * 4))=32:=by decide
  have e2:aFY .i64 1 32=4294967296:=by decide
  simp only [aI,eF,a9,if_false,e1,e2]
  rw [if_neg (by simp;omega),aS (by omega),bL (by omega)]
  simp only [xA,a9,if_false]
  rw [aS (by omega),show bC (4 - 1)=((3:Nat):Int) from by rw [aR (by omega) (by omega)];rfl]
  have st:∀(m:Int) (c:List UInt8) (i:Nat),i < c.length→i < 4→0≤m→D7 (m,c,(i:Int))=some (.next (m / 256,c.set i (u8 m),(i:Int) - 1)):=fun m c i hc hi h0=>by
    simp only [D7]
    rw [if_pos (by simp),aX hc,aI,show(8:Int)=((8:Nat):Int) from rfl,aTA h0 (by omega),aR (by omega) (by omega),Int.toNat_natCast];rfl
  rw [cM (st n _ 3 (by simp) (by omega) hn.1),show((3:Nat):Int) - 1=((2:Nat):Int) by rfl,
    cM (st _ _ 2 (by simp) (by omega) (by omega)),show((2:Nat):Int) - 1=((1:Nat):Int) by rfl,
    cM (st _ _ 1 (by simp) (by omega) (by omega)),show((1:Nat):Int) - 1=((0:Nat):Int) by rfl,
    cM (st _ _ 0 (by simp) (by omega) (by omega)),cA (r:=TU n)]
  · rfl
  · simp only [D7]
    rw [if_neg (by simp)]
    have e1:n / 256 / 256=n / 65536:=by omega
    rw [e1,show n / 65536 / 256=n / 16777216 by omega]
    rfl
theorem aIB{n:Int}(hn:0≤n):((u8 n).toNat:Int)=n % 256:=by
  have:u8 n=u8 (n % 256):=by
    unfold u8
    congr 1
    omega
  rw [this,aQ4 (by omega)]
theorem aDZ{b:List Int}{a:Nat}(h:a+4≤b.length)(hl:b.length≤100000){n:Int}(hn:0≤n∧n≤4294967295):tX b (a:Int) (TU n)=some (L7 b a n):=by
  have st:∀(c:List Int) (i:Nat) (v:UInt8),c.length=b.length→i < 4→idx (TU n) (i:Int)=some v→A7 b (a:Int) (TU n) (c,(i:Int))=some (.next (c.set (a+i) (v.toNat:Int),((i+1:Nat):Int))):=fun c i v hc hi hv=>by
    simp only [A7]
    rw [aS hc,if_pos (by simp [TU];omega),hv,aI,aR (x:=(a:Int)+i) (by omega) (by omega),show(a:Int)+i=((a+i:Nat):Int) by omega,aX (by omega),aI,aR (by omega) (by omega),Int.toNat_natCast];rfl
  unfold tX
  rw [show(0:Int)=((0:Nat):Int) from rfl,cM (st b 0 _ rfl (by omega) rfl),cM (st _ 1 _ (by simp) (by omega) rfl),cM (st _ 2 _ (by simp) (by omega) rfl),cM (st _ 3 _ (by simp) (by omega) rfl),cA (r:=L7 b a n)]
  · simp only [aI,QA,P9]
    rw [aS (WH b a n)]
  · simp only [A7]
    rw [aS (by simp),if_neg (by simp [TU])]
    simp only [aIB hn.1,aIB (show 0≤n / 16777216 by omega),aIB (show 0≤n / 65536 by omega),aIB (show 0≤n / 256 by omega)]
    rw [show n / 16777216 % 256=n / 16777216 by omega]
    rfl
theorem aQ5{b:List Int}{a:Nat}{n:Int}(hn:0≤n∧n≤255):L7 b a n=st4 b a n:=by
  unfold L7 st4
  rw [show n / 16777216=0 by omega,show n / 65536 % 256=0 by omega,show n / 256 % 256=0 by omega,show n % 256=n by omega]
theorem PG{b:List Int}{a:Nat}(h:a+4≤b.length)(hl:b.length≤100000){n:Int}(hn:0≤n∧n≤255):jE b (a:Int) 4 n=some (st4 b a n):=by
  rw [aGM h hl ⟨hn.1,by omega⟩,aQ5 hn]
theorem aXT{n:Int}(hn:0≤n∧n≤255):TU n=[0,0,0,u8 n]:=by
  unfold TU
  rw [show n / 16777216=0 by omega,show n / 65536=0 by omega,show n / 256=0 by omega];rfl
theorem TV{n:Int}(hn:0≤n∧n≤255):zD n 4=some [0,0,0,u8 n]:=by
  rw [aDY ⟨hn.1,by omega⟩,aXT hn]
theorem RP{b:List Int}{a:Nat}(h:a+4≤b.length)(hl:b.length≤100000){n:Int}(hn:0≤n∧n≤255):tX b (a:Int) [0,0,0,u8 n]=some (st4 b a n):=by
  rw [←aXT hn,aDZ h hl ⟨hn.1,by omega⟩,aQ5 hn]
end Go.Gv
end
noncomputable section
namespace Go.Gv
theorem aUD{x y z:Int}:∀(a:Nat) (l:List Int),a+3≤l.length→cY l a [x,y,z]=((l.set a x).set (a+1) y).set (a+2) z
  | 0, l, h => by
    match l,h with
    | _ :: _ :: _ :: t,_=>simp [cY]
  | a + 1, l, h => by
    match l,h with
    | u :: t, h =>
      have ih:=aUD (x:=x) (y:=y) (z:=z) a t (by simp at h;omega)
      simp only [List.set_cons_succ,←ih]
      simp [cY,Nat.add_right_comm]
def aQ6(p k:Nat)(c:Int):Nat:=(fU ((p:Int) * 4+k) c).toNat
def gB(b:List Int)(p:Nat)(c:Int):Nat→List Int
  | 0=>((b.set (p * 64) 171).set (p * 64+1) c).set (p * 64+2) (cS c)
  | k+1=>st4 (gB b p c k) (aQ6 p k c) 1
theorem JF(b:List Int)(p:Nat)(c:Int):∀k,(gB b p c k).length=b.length
  | 0=>by simp [gB]
  | k+1=>by rw [gB,EX,JF b p c k]
theorem aD0{l:List Int}(i:Nat){v:Int}(hl:sT l)(hv:0≤v∧v≤255):sT (l.set i v):=fun x hx=>by
  rcases List.mem_or_eq_of_mem_set hx with h | rfl
  · exact hl x h
  · exact hv
theorem aIC{b:List Int}(hb:sT b)(p:Nat){c:Int}(hc:0≤c∧c≤2):∀k,sT (gB b p c k)
  | 0 => by
    have:=mC c
    exact aD0 _ (aD0 _ (aD0 _ hb (by omega)) (by omega)) (by omega)
  | k+1=>aJT (aIC hb p hc k) _ (by omega)
def gS(p:Nat)(n:Nat):List Int:=(List.range n).map fun(i:Nat)=>(p:Int) * 4+(i:Int)
theorem X7(p n:Nat):(gS p n).length=n:=by simp [gS]
theorem aMU(p n:Nat):gS p (n+1)=gS p n ++ [(p:Int) * 4+(n:Int)]:=by simp [gS,List.range_succ]
theorem aID{p k:Nat}{c:Int}(hp:p < 6)(hk:(k:Int) < cS c):fU ((p:Int) * 4+k) c=(aQ6 p k c:Int)∧aQ6 p k c+4≤384:=by
  have h4:=mC c
  have hm:=I7 (c:=c) (i:=(k:Int)) (by omega) hk
  have hst:4≤aW c:=by
    have:0≤c∧c≤2:=kU.1 (by omega)
    rcases fJ this with e | e | e <;> rw [e] <;> decide
  have e:fU ((p:Int) * 4+k) c=(p:Int) * 64+8+(k:Int) * aW c:=by
    unfold fU
    rw [if_pos ⟨by omega,by omega⟩,show((p:Int) * 4+k) / 4=p by omega,show((p:Int) * 4+k) % 4=k by omega]
  unfold aQ6
  rw [e];omega
theorem aGN{p k:Nat}(hp:p < 6)(hk:k < 4):pO (p:Int) (k:Int)=some ((p:Int) * 4+k)∧J8 (p:Int) (k:Int)=some ((p:Int) * 4+k):=by
  have a:0≤(p:Int)∧(p:Int)≤5:=by omega
  have b:0≤(k:Int)∧(k:Int)≤3:=by omega
  have e1:bC ((p:Int) * 4)=(p:Int) * 4:=aR (by omega) (by omega)
  have e2:bC ((p:Int) * 4+k)=(p:Int) * 4+k:=aR (by omega) (by omega)
  constructor
  · unfold pO sZ;rw [bY,bY,bE a,bE b,e1,e2];rfl
  · unfold J8 A8;rw [dW,dW,bE a,bE b,e1,e2];rfl
noncomputable section
variable {b:List Int} (hb:b.length=384) {p:Nat} (hp:p < 6) {c:Int} (hc:0≤c∧c≤2)
include hb hp hc
theorem aK8:loop (xY c (p:Int)) ([],0,gB b p c 0)=some (gS p (cS c).toNat,gB b p c (cS c).toNat):=by
  have h4:=mC c
  refine lF (cS c).toNat (fun k=>(gS p k,(k:Int),gB b p c k)) _ (fun k hk=>?_) ?_
  · have ho:=aID (c:=c) hp (k:=k) (by omega)
    simp only [xY,FW,g9,aI]
    rw [if_pos (by simp;omega),(aGN hp (by omega)).1]
    simp only [aI,sD,ho.1]
    rw [PG (by rw [JF];omega) (by rw [JF];omega) (by omega)]
    simp only [aI]
    rw [aS (by rw [X7];simp;omega),aR (by omega) (by omega),aMU];rfl
  · simp only [xY,g9,aI]
    rw [if_neg (by simp;omega)]
theorem aK9:loop (D8 c (p:Int) (cS c)) ([],0,gB b p c 0)=some (gS p (cS c).toNat,gB b p c (cS c).toNat):=by
  have h4:=mC c
  refine lF (cS c).toNat (fun k=>(gS p k,(k:Int),gB b p c k)) _ (fun k hk=>?_) ?_
  · have ho:=aID (c:=c) hp (k:=k) (by omega)
    simp only [D8,K7]
    rw [if_pos (by simp;omega),(aGN hp (by omega)).2]
    simp only [aI,xM,ho.1]
    rw [TV (by omega),aI,RP (by rw [JF];omega) (by rw [JF];omega) (by omega)]
    simp only [aI]
    rw [aS (by rw [X7];simp;omega),aR (by omega) (by omega),aMU];rfl
  · simp only [D8]
    rw [if_neg (by simp;omega)]
end
theorem aJU{h:aE}(hh:V8 h){c:Int}(hc:0≤c∧c≤2) :
    (pU h c=some (h,[])∧DF h c=some (h,[])) ∨
    ∃p,p < 6∧b7 h p < 0∧pU h c=some (⟨gB h.Bytes p c (cS c).toNat,h.Class.set p c⟩,gS p (cS c).toNat)∧DF h c=some (⟨gB h.Bytes p c (cS c).toNat,h.Class.set p c⟩,gS p (cS c).toNat):=by
  have hs:=hh.1
  have h6:=hs.2.1
  have h384:=hs.1
  have hp4:=mC c
  have hcp:=OE (h:=h) (by omega) (by omega)
  have hne:∀j (hj:j < 6),j < h.Class.findIdx (fun x=>decide (x = -1))→h.Class[j]≠-1:=fun j hj hlt=>by
    have:=List.not_of_lt_findIdx hlt
    simpa using this
  generalize hq:h.Class.findIdx (fun x=>decide (x = -1))=q at hne
  have hq6:q≤6:=by rw [←hq,←h6];exact List.findIdx_le_length
  have s1:∀k (hk:k < q),kE h c (k:Int)=some (.next ((k+1:Nat):Int)):=fun k hk=>by
    have:=hne k (by omega) hk
    have n:(h.Class[k] != -1)=true:=by simpa using this
    simp only [kE,FV]
    rw [if_pos (by simp;omega),aX (by omega),aI,n,if_pos rfl,aR (by omega) (by omega)];rfl
  have s2:∀k (hk:k < q),eB h.Class (-1) (k:Int)=some (.next ((k+1:Nat):Int)):=fun k hk=>by
    have:=hne k (by omega) hk
    have n:((-1:Int) == h.Class[k])=false:=by simpa using fun a=>this a.symm
    simp only [eB]
    rw [if_pos (by simp;omega),aX (by omega),aI,n,aR (by omega) (by omega)];rfl
  have hm:h.Bytes.length≤maxLen:=by rw [h384];simp [maxLen]
  by_cases h5:q=6
  · left
    have a1:loop (kE h c) 0=some (Out.brk ()):=lF q (fun k=>(k:Int)) _ s1 (by simp only [kE];rw [if_neg (by simp;omega)])
    have a2:loop (eB h.Class (-1)) 0=some (Out.brk ()):=lF q (fun k=>(k:Int)) _ s2 (by simp only [eB];rw [if_neg (by simp;omega)])
    constructor
    · unfold pU;rw [a1];rfl
    · unfold DF lS
      rw [a2,hcp,JA hm,iZ,bE hh,bE hc];rfl
  · right
    have hq5:q < 6:=by omega
    have he:h.Class[q] = -1:=by
      have:=List.findIdx_getElem (xs:=h.Class) (p:=fun x=>decide (x = -1)) (w:=by rw [hq];omega)
      simp only [hq,decide_eq_true_eq] at this
      exact this
    refine⟨q,hq5,by rw [←aMQ hs hq5,he];omega,?_,?_⟩
    · have a1:loop (kE h c) 0=some (Out.ret (⟨gB h.Bytes q c (cS c).toNat,h.Class.set q c⟩,gS q (cS c).toNat)):=lF q (fun k=>(k:Int)) _ s1 (by
        have e0:bC ((q:Int) * 64)=((q * 64:Nat):Int):=by rw [aR (by omega) (by omega)];omega
        have e1:bC (((q * 64:Nat):Int)+1)=((q * 64+1:Nat):Int):=by rw [aR (by omega) (by omega)];omega
        have e2:bC (((q * 64:Nat):Int)+2)=((q * 64+2:Nat):Int):=by rw [aR (by omega) (by omega)];omega
        have n:(h.Class[q] != -1)=false:=by simpa using he
        simp only [kE,e0,e1,e2,Int.toNat_natCast]
        rw [if_pos (by simp;omega),aX (by omega),aI,n,if_neg (by simp),aX (by omega),aI,aX (by simp;omega),aI,g9,aI,aX (by simp;omega),aI]
        have:=aK8 h384 hq5 hc
        simp only [gB] at this
        rw [this];rfl)
      unfold pU;rw [a1];rfl
    · have a2:loop (eB h.Class (-1)) 0=some (Out.ret (q:Int)):=lF q (fun k=>(k:Int)) _ s2 (by
        have n:((-1:Int) == h.Class[q])=true:=by rw [he];rfl
        simp only [eB]
        rw [if_pos (by simp;omega),aX (by omega),aI,n];rfl)
      unfold DF lS
      rw [a2,hcp,JA hm,iZ,bE hh,bE hc]
      have e0:bC ((q:Int) * 64)=((q * 64:Nat):Int):=by rw [aR (by omega) (by omega)];omega
      simp only [aI,nS,eF,a9,if_false,xB,e0,yV,K8,Int.toNat_natCast]
      rw [bL (by omega),if_neg (by simp),aX (by omega),aI,aS (by omega),aUD _ _ (by omega)]
      have:=aK9 h384 hq5 hc
      simp only [gB] at this
      rw [this];rfl
theorem LOk.count{l:aB}(h:LOk l):(d9 l).length≤24:=aK7 24 _ h.2.2.2.2 (fun x hx=>by have:=h.2.2.2.1 x hx;omega)
theorem aGO{m:Mem}(hs:fN m.aE){s:Int}(hc:0≤bK m.aE s):∃h,wO m s=some h∧D9 m s=some h:=by
  unfold wO D9 nG K9 lN vM
  rw [xN hs hc,EU hs hc,aI,aI,bY,bY,uL,dW]
  have h1:=(CU hc).1
  simp only [bE h1,aI,eF,a9,if_false]
  by_cases q:1≤nM m.aE s∧nM m.aE s≤6
  · simp only [bE q,eF,a9,if_false];exact⟨_,rfl,rfl⟩
  · simp only [bL q,kO,if_true];exact⟨_,rfl,rfl⟩
theorem DP{l:List aH}{k:Nat}(hk:k < l.length)(t:List Int):(dB (l.set k ⟨l[k].aN++t⟩)).length=(dB l).length+t.length:=by
  rw [DO hk,zY hk];simp;omega
end Go.Gv
end
noncomputable section
namespace Go.Gv
def bt(b:List Int)(i:Nat):Int:=b.getD i 0
theorem aD1{b:List Int}{i:Nat}(h:i < b.length):b[i]=bt b i:=by
  unfold bt;rw [List.getD_eq_getElem?_getD,List.getElem?_eq_getElem h];rfl
theorem ld4{b:List Int}{a:Nat}(h:a+4≤b.length):ld b a 4=((bt b a * 256+bt b (a+1)) * 256+bt b (a+2)) * 256+bt b (a+3):=by
  unfold ld
  rw [List.drop_eq_getElem_cons (by omega),List.drop_eq_getElem_cons (by omega),List.drop_eq_getElem_cons (by omega),List.drop_eq_getElem_cons (by omega)]
  simp only [List.take_succ_cons,List.take_zero,ldF,List.foldl_cons,List.foldl_nil,aD1 (b:=b) (i:=a) (by omega),aD1 (b:=b) (i:=a+1) (by omega),aD1 (b:=b) (i:=a+1+1) (by omega),aD1 (b:=b) (i:=a+1+1+1) (by omega)]
  simp only [Nat.add_assoc,Nat.reduceAdd];omega
theorem JG{b:List Int}{i j:Nat}{v:Int}(hi:i < b.length):bt (b.set i v) j=if j=i then v else bt b j:=by
  unfold bt
  rw [List.getD_eq_getElem?_getD,List.getD_eq_getElem?_getD,List.getElem?_set]
  by_cases h:i=j
  · subst h;simp [hi]
  · have h':¬j=i:=fun q=>h q.symm
    simp [h,h']
theorem zI{b:List Int}{a:Nat}{n:Int}(h:a+4≤b.length)(j:Nat):bt (st4 b a n) j=if j=a+3 then n else if a≤j∧j < a+3 then 0 else bt b j:=by
  unfold st4
  rw [JG (by simp;omega),JG (by simp;omega),JG (by simp;omega),JG (by omega)]
  by_cases h1:j=a+3
  · simp [h1]
  · rw [if_neg h1,if_neg h1]
    by_cases h2:a≤j∧j < a+3
    · rw [if_pos h2]
      by_cases h3:j=a+2
      · simp [h3]
      · rw [if_neg h3]
        by_cases h4:j=a+1
        · simp [h4]
        · rw [if_neg h4,if_pos (by omega)]
    · rw [if_neg h2,if_neg (by omega),if_neg (by omega),if_neg (by omega)]
theorem aLA{b:List Int}{a:Nat}{n:Int}(h:a+4≤b.length):ld (st4 b a n) a 4=n:=by
  rw [ld4 (by rw [EX];exact h),zI h,zI h,zI h,zI h,if_neg (by omega),if_pos (by omega),if_neg (by omega),if_pos (by omega),if_neg (by omega),if_pos (by omega),if_pos rfl]
  omega
theorem SD{b b':List Int}{a:Nat}(h:a+4≤b.length)(hl:b'.length=b.length)(hs:∀j,a≤j→j < a+4→bt b' j=bt b j):ld b' a 4=ld b a 4:=by
  rw [ld4 (by omega),ld4 h,hs a (by omega) (by omega),hs (a+1) (by omega) (by omega),hs (a+2) (by omega) (by omega),hs (a+3) (by omega) (by omega)]
def aAN(h:aE)(p:Nat):Prop:=
  if b7 h p < 0 then ∀k,k < 64→bt h.Bytes (p * 64+k)=0
  else ((bt h.Bytes (p * 64)=171∧bt h.Bytes (p * 64+1)=b7 h p∧bt h.Bytes (p * 64+2)=cS (b7 h p))∧(∀k,3≤k→k < 8→bt h.Bytes (p * 64+k)=0)∧∀i,i < (cS (b7 h p)).toNat→1≤ld h.Bytes (p * 64+8+i * (aW (b7 h p)).toNat) 4∧ld h.Bytes (p * 64+8+i * (aW (b7 h p)).toNat) 4≤7)
theorem aGP{h:aE}(hs:fN h){p:Nat}(hp:p < 6){k:Nat}(hk:k < 64):(dV h p).getD k 0=bt h.Bytes (p * 64+k):=by
  rw [←aGF hs hp hk,aD1 (by have:=hs.1;omega)]
theorem WI{l:List Int}{x:Int}:x∈l↔∃k,k < l.length∧l.getD k 0=x:=by
  rw [List.mem_iff_getElem]
  constructor
  · rintro⟨k,hk,e⟩
    exact⟨k,hk,by rw [List.getD_eq_getElem?_getD,List.getElem?_eq_getElem hk];exact e⟩
  · rintro⟨k,hk,e⟩
    exact⟨k,hk,by rw [List.getD_eq_getElem?_getD,List.getElem?_eq_getElem hk] at e;exact e⟩
theorem M6{h:aE}(hs:fN h){p:Nat}(hp:p < 6):l7 h p↔aAN h p:=by
  unfold l7 aAN
  have hl:=I9 hs hp
  split
  · constructor
    · intro q k hk
      rw [←aGP hs hp hk]
      exact q _ (WI.2 ⟨k,by omega,rfl⟩)
    · intro q x hx
      obtain⟨k,hk,rfl⟩:=WI.1 hx
      rw [aGP hs hp (by omega)];exact q k (by omega)
  · rw [aGP hs hp (by omega),aGP hs hp (by omega),aGP hs hp (by omega)]
    have e:(∀x∈((dV h p).drop 3).take 5,x=0)↔∀k,3≤k→k < 8→bt h.Bytes (p * 64+k)=0:=by
      have g:∀j,j < 5→(((dV h p).drop 3).take 5).getD j 0=bt h.Bytes (p * 64+(3+j)):=fun j hj=>by
        rw [←aGP hs hp (by omega),List.getD_eq_getElem?_getD,List.getD_eq_getElem?_getD,List.getElem?_take,if_pos hj,List.getElem?_drop]
      constructor
      · intro q k h3 h8
        have:=q _ (WI.2 ⟨k - 3,by simp [hl];omega,rfl⟩)
        rw [g _ (by omega)] at this
        rw [show 3+(k - 3)=k by omega] at this;exact this
      · intro q x hx
        obtain⟨k,hk,rfl⟩:=WI.1 hx
        simp [hl] at hk
        rw [g _ hk];exact q _ (by omega) (by omega)
    rw [e];rfl
theorem aAN.same{h h':aE}{p:Nat}(hp:p < 6)(hs:fN h)(hl:h'.Bytes.length=h.Bytes.length)(hc:b7 h' p=b7 h p)(hb:∀k,k < 64→bt h'.Bytes (p * 64+k)=bt h.Bytes (p * 64+k))(q:aAN h p):aAN h' p:=by
  have h1:=hs.1
  unfold aAN at q ⊢
  rw [hc]
  split
  · rename_i q0;rw [if_pos q0] at q
    exact fun k hk=>by rw [hb k hk];exact q k hk
  · rename_i q0;rw [if_neg q0] at q
    obtain⟨⟨a1,a2,a3⟩,a4,a5⟩:=q
    have b0:=hb 0 (by omega);have b1:=hb 1 (by omega);have b2:=hb 2 (by omega)
    simp only [Nat.add_zero] at b0
    refine⟨⟨by rw [b0];exact a1,by rw [b1];exact a2,by rw [b2];exact a3⟩,fun k k3 k8=>by rw [hb k (by omega)];exact a4 k k3 k8,fun i hi=>?_⟩
    have hz:=vX hs hp (c:=b7 h p) rfl hi
    rw [SD (b:=h.Bytes) (by omega) hl fun j j1 j2=>by
      have:=hb (j - p * 64) (by omega)
      rw [show p * 64+(j - p * 64)=j by omega] at this;exact this]
    exact a5 i hi
theorem CY{h:aE}{s:Int}(hc:0≤bK h s):∃p i,p < 6∧i < (cS (b7 h p)).toNat∧s=(p:Int) * 4+i∧bK h s=b7 h p∧(fU s (bK h s)).toNat=p * 64+8+i * (aW (b7 h p)).toNat∧(s / 4).toNat=p:=by
  obtain⟨h1,h2,h3⟩:=CU hc
  have hle:=mC (b7 h (s / 4).toNat)
  refine⟨(s / 4).toNat,(s % 4).toNat,by omega,by omega,by omega,h3,?_,rfl⟩
  rw [h3]
  unfold fU
  rw [if_pos ⟨h1,by omega⟩]
  have hst:=(UI (b7 h (s / 4).toNat)).1
  have e:s % 4 * aW (b7 h (s / 4).toNat)=(((s % 4).toNat * (aW (b7 h (s / 4).toNat)).toNat:Nat):Int):=by
    rw [Int.natCast_mul,Int.toNat_of_nonneg (by omega),Int.toNat_of_nonneg hst]
  omega
theorem OF{c:Int}{i j:Nat}(hi:i < (cS c).toNat)(hj:j < (cS c).toNat)(hn:i≠j):i * (aW c).toNat+4≤j * (aW c).toNat∨j * (aW c).toNat+4≤i * (aW c).toNat:=by
  have hc:0≤c∧c≤2:=kU.1 (by omega)
  have h12:12≤(aW c).toNat:=by rcases fJ hc with rfl | rfl | rfl <;> decide
  rcases Nat.lt_or_gt_of_ne hn with q | q
  · left
    have:(i+1) * (aW c).toNat≤j * (aW c).toNat:=Nat.mul_le_mul_right _ q
    rw [Nat.add_mul] at this;omega
  · right
    have:(j+1) * (aW c).toNat≤i * (aW c).toNat:=Nat.mul_le_mul_right _ q
    rw [Nat.add_mul] at this;omega
theorem V8.aV0{h:aE}(hh:V8 h){s g:Int}(hc:0≤bK h s)(hg:1≤g∧g≤7) :
    V8 ⟨st4 h.Bytes (fU s (bK h s)).toNat g,h.Class⟩∧∀t,0≤bK h t→nM ⟨st4 h.Bytes (fU s (bK h s)).toNat g,h.Class⟩ t=if t=s then g else nM h t:=by
  obtain⟨hs,hp⟩:=hh
  have h384:=hs.1
  have hs':fN ⟨st4 h.Bytes (fU s (bK h s)).toNat g,h.Class⟩:=⟨by rw [EX];exact hs.1,hs.2.1,aJT hs.2.2.1 _ (by omega),hs.2.2.2⟩
  obtain⟨p,i,p6,hi,es,ec,eo,ep⟩:=CY hc
  have hz:=vX hs p6 rfl hi
  have h4:=mC (b7 h p)
  refine⟨⟨hs',fun q hq=>?_⟩,fun t ht=>?_⟩
  · rw [M6 hs' hq]
    have hold:=(M6 hs hq).1 (hp q hq)
    by_cases e:q=p
    · subst e
      have hpos:0 < cS (b7 h q):=by omega
      have hcl:¬b7 h q < 0:=by have:=kU.1 hpos;omega
      unfold aAN at hold ⊢
      have hcl':b7 ⟨st4 h.Bytes (fU s (bK h s)).toNat g,h.Class⟩ q=b7 h q:=rfl
      rw [hcl']
      rw [if_neg hcl] at hold ⊢
      obtain⟨⟨a1,a2,a3⟩,a4,a5⟩:=hold
      have bs:∀k,k < 8→bt (st4 h.Bytes (fU s (bK h s)).toNat g) (q * 64+k)=bt h.Bytes (q * 64+k):=fun k hk=>by
        rw [zI (by omega),if_neg (by omega),if_neg (by omega)]
      have b0:=bs 0 (by omega);have b1:=bs 1 (by omega);have b2:=bs 2 (by omega)
      simp only [Nat.add_zero] at b0
      refine⟨⟨by rw [b0];exact a1,by rw [b1];exact a2,by rw [b2];exact a3⟩,fun k k3 k8=>by rw [bs k k8];exact a4 k k3 k8,fun j hj=>?_⟩
      have hzj:=vX hs p6 rfl hj
      by_cases ej:j=i
      · subst ej
        simp only [eo]
        rw [aLA (by omega)];exact hg
      · rw [SD (b:=h.Bytes) (by omega) (by simp only [EX]) fun k k1 k2=>?_]
        · exact a5 j hj
        · simp only [eo]
          have:=OF hi hj (fun q=>ej q.symm)
          rw [zI (by omega),if_neg (by omega),if_neg (by omega)]
    · refine aAN.same hq hs (by simp only [EX]) rfl (fun k hk=>?_) hold
      rw [zI (by omega),if_neg (by omega),if_neg (by omega)]
  · have e2:bK ⟨st4 h.Bytes (fU s (bK h s)).toNat g,h.Class⟩ t=bK h t:=rfl
    unfold nM
    rw [e2]
    by_cases e:t=s
    · subst e;rw [if_pos rfl];simp only;rw [aLA (by omega)]
    · rw [if_neg e]
      obtain⟨p',i',p6',hi',es',ec',eo',ep'⟩:=CY ht
      have hz':=vX hs p6' rfl hi'
      rw [SD (b:=h.Bytes) (by omega) (by simp only [EX]) fun k k1 k2=>?_]
      simp only
      by_cases ee:p'=p
      · subst ee
        have:=OF hi hi' (fun q=>e (by rw [es,es',q]))
        rw [zI (by omega),if_neg (by omega),if_neg (by omega)]
      · have h4':=mC (b7 h p')
        rw [zI (by omega),if_neg (by omega),if_neg (by omega)]
theorem aBE{p k:Nat}{c:Int}(hp:p < 6)(hk:(k:Int) < cS c):aQ6 p k c=p * 64+8+k * (aW c).toNat∧8+k * (aW c).toNat+4≤64:=by
  have hc:0≤c∧c≤2:=kU.1 (by omega)
  have h1:=aID (c:=c) hp hk
  have hle:=mC c
  have e:=h1.1
  unfold fU at e
  rw [if_pos (by omega)] at e
  have e1:((p:Int) * 4+k) / 4=p:=by omega
  have e2:((p:Int) * 4+k) % 4=k:=by omega
  rw [e1,e2] at e
  rcases fJ hc with rfl | rfl | rfl
  · rw [show aW 0=12 from rfl] at e ⊢
    rw [show cS 0=4 from rfl] at hk
    rw [show(12:Int).toNat=12 from rfl]
    omega
  · rw [show aW 1=20 from rfl] at e ⊢
    rw [show cS 1=2 from rfl] at hk
    rw [show(20:Int).toNat=20 from rfl]
    omega
  · rw [show aW 2=44 from rfl] at e ⊢
    rw [show cS 2=1 from rfl] at hk
    rw [show(44:Int).toNat=44 from rfl]
    omega
theorem aUE{b:List Int}{p:Nat}{c:Int}(hl:b.length=384)(hp:p < 6)(hc:0≤c∧c≤2):∀k:Nat,(k:Int)≤cS c→∀j,(j < p * 64∨p * 64+64≤j→bt (gB b p c k) j=bt b j)∧(3≤j→j < 8→bt (gB b p c k) (p * 64+j)=bt b (p * 64+j))∧bt (gB b p c k) (p * 64)=171∧bt (gB b p c k) (p * 64+1)=c∧bt (gB b p c k) (p * 64+2)=cS c
  | 0, hk, j => by
    have key:∀i,bt (gB b p c 0) i=if i=p * 64+2 then cS c else if i=p * 64+1 then c else if i=p * 64 then 171 else bt b i:=fun i=>by
      unfold gB
      rw [JG (by simp;omega),JG (by simp;omega),JG (by omega)]
    refine⟨fun h=>?_,fun h1 h2=>?_,?_,?_,?_⟩
    · rw [key,if_neg (by omega),if_neg (by omega),if_neg (by omega)]
    · rw [key,if_neg (by omega),if_neg (by omega),if_neg (by omega)]
    · rw [key,if_neg (by omega),if_neg (by omega),if_pos rfl]
    · rw [key,if_neg (by omega),if_pos rfl]
    · rw [key,if_pos rfl]
  | k + 1, hk, j => by
    have ih:=aUE hl hp hc k (by omega)
    have hoff:=aBE (c:=c) hp (by omega:(k:Int) < cS c)
    have hbl:=JF b p c k
    unfold gB
    refine⟨fun h=>?_,fun h1 h2=>?_,?_,?_,?_⟩
    · rw [zI (by omega),if_neg (by omega),if_neg (by omega)];exact(ih j).1 h
    · rw [zI (by omega),if_neg (by omega),if_neg (by omega)];exact(ih j).2.1 h1 h2
    · rw [zI (by omega),if_neg (by omega),if_neg (by omega)];exact(ih j).2.2.1
    · rw [zI (by omega),if_neg (by omega),if_neg (by omega)];exact(ih j).2.2.2.1
    · rw [zI (by omega),if_neg (by omega),if_neg (by omega)];exact(ih j).2.2.2.2
theorem aQ7{b:List Int}{p:Nat}{c:Int}(hl:b.length=384)(hp:p < 6):∀k:Nat,(k:Int)≤cS c→∀i,i < k→ld (gB b p c k) (p * 64+8+i * (aW c).toNat) 4=1
  | 0,_,i,h=>absurd h (by omega)
  | k + 1, hk, i, h => by
    have hbl:=JF b p c k
    have ho:=aBE (c:=c) hp (by omega:(k:Int) < cS c)
    unfold gB
    by_cases e:i=k
    · subst e;rw [←ho.1];exact aLA (by omega)
    · have hoi:=aBE (c:=c) hp (by omega:(i:Int) < cS c)
      have ha:=OF (c:=c) (i:=i) (j:=k) (by omega) (by omega) e
      rw [SD (b:=gB b p c k) (by omega) (by rw [EX]) fun j j1 j2=>by rw [zI (by omega),if_neg (by omega),if_neg (by omega)]]
      exact aQ7 hl hp k (by omega) i (by omega)
theorem WJ{h:aE}(hs:fN h){B:List Int}{p q:Nat}(hq:q < 6){c:Int}:b7 ⟨B,h.Class.set p c⟩ q=if q=p then c else b7 h q:=by
  have h6:=hs.2.1
  unfold b7
  rw [List.getD_eq_getElem?_getD,List.getD_eq_getElem?_getD,List.getElem?_set]
  by_cases e:p=q
  · subst e;simp [h6,hq]
  · have e':¬q=p:=fun z=>e z.symm
    simp [e,e']
theorem V8.aXU{h:aE}(hh:V8 h){p:Nat}(hp:p < 6)(hun:b7 h p < 0){c:Int}(hc:0≤c∧c≤2) :
    V8 ⟨gB h.Bytes p c (cS c).toNat,h.Class.set p c⟩∧(∀t,(t / 4).toNat≠p→bK ⟨gB h.Bytes p c (cS c).toNat,h.Class.set p c⟩ t=bK h t)∧(∀t,0≤bK h t→(t / 4).toNat≠p∧nM ⟨gB h.Bytes p c (cS c).toNat,h.Class.set p c⟩ t=nM h t) ∧
      ∀i,i < (cS c).toNat→bK ⟨gB h.Bytes p c (cS c).toNat,h.Class.set p c⟩ ((p:Int) * 4+i)=c∧nM ⟨gB h.Bytes p c (cS c).toNat,h.Class.set p c⟩ ((p:Int) * 4+i)=1:=by
  obtain⟨hs,hpg⟩:=hh
  have h384:=hs.1
  have hle:=mC c
  have hpn:((cS c).toNat:Int)≤cS c:=by omega
  have hb:=aUE h384 hp hc (cS c).toNat hpn
  have hbl:=JF h.Bytes p c (cS c).toNat
  have hs':fN ⟨gB h.Bytes p c (cS c).toNat,h.Class.set p c⟩:=⟨by simp only [hbl];exact h384,by simp only [List.length_set];exact hs.2.1,aIC hs.2.2.1 p hc _,fun x hx=>by
    rcases List.mem_or_eq_of_mem_set hx with q | rfl
    · exact hs.2.2.2 x q
    · omega⟩
  have hcls:∀t:Int,(t / 4).toNat≠p→bK ⟨gB h.Bytes p c (cS c).toNat,h.Class.set p c⟩ t=bK h t:=fun t ht=>by
    unfold bK
    by_cases q:0≤t∧t≤23
    · rw [WJ hs (by omega),if_neg ht]
    · rw [if_neg (fun z=>q z.1),if_neg (fun z=>q z.1)]
  refine⟨⟨hs',fun q hq=>?_⟩,hcls,fun t ht=>?_,fun i hi=>?_⟩
  · rw [M6 hs' hq]
    have hold:=(M6 hs hq).1 (hpg q hq)
    by_cases e:q=p
    · subst e
      unfold aAN at hold ⊢
      rw [if_pos hun] at hold
      rw [WJ hs hq,if_pos rfl,if_neg (by omega)]
      refine⟨(hb 0).2.2,fun k k3 k8=>?_,fun i hi=>?_⟩
      · simp only;rw [(hb k).2.1 k3 k8];exact hold k (by omega)
      · simp only;rw [aQ7 h384 hp _ hpn i hi];omega
    · refine aAN.same hq hs (by simp only [hbl]) (by rw [WJ hs hq,if_neg e]) (fun k hk=>?_) hold
      exact(hb _).1 (by omega)
  · obtain⟨p',i',p6',hi',es',ec',eo',ep'⟩:=CY ht
    have hne:(t / 4).toNat≠p:=fun z=>by rw [ec',←ep',z] at ht;omega
    refine⟨hne,?_⟩
    have hz':=vX hs p6' rfl hi'
    unfold nM
    rw [hcls t hne,SD (b:=h.Bytes) (by omega) (by simp only [hbl]) fun k k1 k2=>(hb k).1 (by omega)]
  · have e1:((p:Int) * 4+i) / 4=p:=by omega
    have e2:((p:Int) * 4+i) % 4=i:=by omega
    have ec:bK ⟨gB h.Bytes p c (cS c).toNat,h.Class.set p c⟩ ((p:Int) * 4+i)=c:=by
      unfold bK
      rw [e1,e2,Int.toNat_natCast,WJ hs hp,if_pos rfl,if_pos (by omega)]
    refine⟨ec,?_⟩
    unfold nM
    rw [ec]
    have ho:=aBE (c:=c) hp (by omega:(i:Int) < cS c)
    have:(fU ((p:Int) * 4+i) c).toNat=p * 64+8+i * (aW c).toNat:=ho.1
    rw [this]
    exact aQ7 h384 hp _ hpn i hi
def wB(m m':Mem)(k:Int):Prop:=pN m'∧∀s,jV m s=3→s≠k→jV m' s=3∧nM m'.aE s=nM m.aE s∧bK m'.aE s=bK m.aE s
theorem wB.refl{m:Mem}(h:pN m)(k:Int):wB m m k:=⟨h,fun _ h _=>⟨h,rfl,rfl⟩⟩
theorem wB.live{m m':Mem}{k h:Int}(q:wB m m' k)(hl:wA m h)(hn:h % 32≠k):wA m' h:=by
  obtain⟨h1,h2,h3⟩:=hl
  obtain⟨a,b,_⟩:=q.2 _ h2 hn
  exact⟨h1,a,by rw [b];exact h3⟩
theorem KX{l:List aH}{k j:Nat}(hk:k < l.length){t:aH}:j8 (l.set k t) j=if j=k then t.aN else j8 l j:=by
  unfold j8
  rw [List.getD_eq_getElem?_getD,List.getD_eq_getElem?_getD,List.getElem?_set]
  by_cases e:k=j
  · subst e;simp [hk]
  · have e':¬j=k:=fun z=>e z.symm
    simp [e,e']
theorem aGQ{l:List aH}{k:Nat}(hk:k < l.length){t:aH}(ht:t.aN.Sublist l[k].aN):(dB (l.set k t)).Sublist (dB l):=by
  rw [DO hk,zY hk]
  exact(List.Sublist.refl _).append (ht.append (List.Sublist.refl _))
theorem WK{l:List aH}{k:Nat}(hk:k < l.length){xs:List Int}{s:Int}:s∈dB (l.set k ⟨l[k].aN++xs⟩)↔s∈dB l∨s∈xs:=by
  rw [DO hk,zY hk]
  simp only [List.mem_append]
  constructor
  · rintro(h | (h | h) | h)
    · exact .inl (.inl h)
    · exact .inl (.inr (.inl h))
    · exact .inr h
    · exact .inl (.inr (.inr h))
  · rintro((h | h | h) | h)
    · exact .inl h
    · exact .inr (.inl (.inl h))
    · exact .inr (.inr h)
    · exact .inr (.inl (.inr h))
theorem RQ{l:List aH}{k:Nat}(hk:k < l.length){xs r q:List Int}(h:(q++(dB l++r)).Nodup)(hx:xs.Nodup)(hd:∀x∈xs,x∉q++(dB l++r)):(q++(dB (l.set k ⟨l[k].aN++xs⟩)++r)).Nodup:=by
  have hp:(q++(dB (l.set k ⟨l[k].aN++xs⟩)++r)).Perm (xs++(q++(dB l++r))):=by
    rw [DO hk,zY hk]
    have e1:q++(dB (l.take k)++(l[k].aN++xs++dB (l.drop (k+1)))++r)=(q++dB (l.take k)++l[k].aN)++(xs++(dB (l.drop (k+1))++r)):=by simp
    have e2:xs++(q++(dB (l.take k)++(l[k].aN++dB (l.drop (k+1)))++r))=xs++((q++dB (l.take k)++l[k].aN)++(dB (l.drop (k+1))++r)):=by simp
    rw [e1,e2]
    exact List.perm_append_comm_assoc _ _ _
  rw [hp.nodup_iff,List.nodup_append]
  exact⟨hx,h,fun a ha b hb e=>hd a ha (e ▸ hb)⟩
theorem rT{m:Mem}{s:Int}:jV m s=3↔0≤bK m.aE s∧s∉d9 m.aB∧nM m.aE s≤6:=by
  unfold jV
  constructor
  · intro h
    split at h
    · omega
    · split at h
      · omega
      · split at h
        · omega
        · exact⟨by omega,by assumption,by omega⟩
  · rintro⟨a,b,c⟩
    rw [if_neg (by omega),if_neg b,if_neg (by omega)]
noncomputable section
variable {m:Mem} (hm:pN m)
include hm
theorem pN.aV1{k:Nat}(hk:k < 9){t:aH}(ht:t.aN.Sublist (j8 m.aB.bQ k)):wB m ⟨m.aE,⟨m.aB.Global,m.aB.bQ.set k t⟩⟩ (-1):=by
  obtain⟨⟨hh,h3,h9,h2,hr,hn⟩,hg,ho⟩:=hm
  have hk':k < m.aB.bQ.length:=by omega
  have ht':t.aN.Sublist m.aB.bQ[k].aN:=by rw [f8 hk'];exact ht
  have hsub:(d9 ⟨m.aB.Global,m.aB.bQ.set k t⟩).Sublist (d9 m.aB):=(List.Sublist.refl _).append (aGQ hk' ht')
  refine⟨⟨⟨hh,h3,by simpa using h9,fun s hs=>?_,fun x hx=>hr x (hsub.subset hx),hsub.nodup hn⟩,hg,fun j hj=>?_⟩,fun s hs _=>⟨?_,rfl,rfl⟩⟩
  · rcases List.mem_or_eq_of_mem_set hs with q | rfl
    · exact h2 s q
    · have:=ht'.length_le;have:=h2 _ (List.getElem_mem hk');omega
  · unfold CX
    simp only [KX hk']
    split
    · rename_i e;subst e
      exact fun x hx=>ho j hj x (ht.subset hx)
    · exact ho j hj
  · rw [rT] at hs ⊢
    exact⟨hs.1,fun q=>hs.2.1 (hsub.subset q),hs.2.2⟩
theorem pN.aNP{k:Nat}(hk:k < 3){t:aH}(ht:t.aN.Sublist (j8 m.aB.Global k)):wB m ⟨m.aE,⟨m.aB.Global.set k t,m.aB.bQ⟩⟩ (-1):=by
  obtain⟨⟨hh,h3,h9,h2,hr,hn⟩,hg,ho⟩:=hm
  have hk':k < m.aB.Global.length:=by omega
  have ht':t.aN.Sublist m.aB.Global[k].aN:=by rw [f8 hk'];exact ht
  have hsub:(d9 ⟨m.aB.Global.set k t,m.aB.bQ⟩).Sublist (d9 m.aB):=(aGQ hk' ht').append (List.Sublist.refl _)
  refine⟨⟨⟨hh,by simpa using h3,h9,h2,fun x hx=>hr x (hsub.subset hx),hsub.nodup hn⟩,fun j hj=>?_,ho⟩,fun s hs _=>⟨?_,rfl,rfl⟩⟩
  · unfold JM
    simp only [KX hk']
    split
    · rename_i e;subst e
      exact fun x hx=>hg j hj x (ht.subset hx)
    · exact hg j hj
  · rw [rT] at hs ⊢
    exact⟨hs.1,fun q=>hs.2.1 (hsub.subset q),hs.2.2⟩
theorem pN.aTC{k:Nat}(hk:k < 9){xs:List Int}(hl:(j8 m.aB.bQ k).length+xs.length≤2)(hx:xs.Nodup)(hf:CV m.aE xs ((k % 3:Nat):Int))(hd:∀x∈xs,x∉d9 m.aB)(hk':k < m.aB.bQ.length) :
    pN ⟨m.aE,⟨m.aB.Global,m.aB.bQ.set k ⟨m.aB.bQ[k].aN++xs⟩⟩⟩∧∀s,s∉xs→jV m s=3→jV ⟨m.aE,⟨m.aB.Global,m.aB.bQ.set k ⟨m.aB.bQ[k].aN++xs⟩⟩⟩ s=3:=by
  obtain⟨⟨hh,h3,h9,h2,hr,hn⟩,hg,ho⟩:=hm
  have hmem:∀s,s∈d9 ⟨m.aB.Global,m.aB.bQ.set k ⟨m.aB.bQ[k].aN++xs⟩⟩↔s∈d9 m.aB∨s∈xs:=fun s=>by
    unfold d9;simp only [List.mem_append,WK hk'];rw [or_assoc]
  have hcl:∀x∈xs,0≤x∧x≤23:=fun x h=>by
    have:=(hf x h).1
    exact(CU (h:=m.aE) (s:=x) (by omega)).1
  refine⟨⟨⟨hh,h3,by simpa using h9,fun s hs=>?_,fun x hx=>?_,?_⟩,hg,fun j hj=>?_⟩,fun s hs h3=>?_⟩
  · rcases List.mem_or_eq_of_mem_set hs with q | rfl
    · exact h2 s q
    · rw [←f8 hk'] at hl;simpa using hl
  · rcases(hmem x).1 hx with q | q
    · exact hr x q
    · exact hcl x q
  · have:=RQ (q:=dB m.aB.Global) (r:=[]) hk' (by simpa [d9] using hn) hx (by simpa [d9] using hd)
    simpa [d9] using this
  · unfold CX
    simp only [KX hk']
    split
    · rename_i e;subst e
      intro x hx
      rcases List.mem_append.1 hx with q | q
      · rw [f8 hk'] at q;exact ho j hj x q
      · exact hf x q
    · exact ho j hj
  · rw [rT] at h3 ⊢
    exact⟨h3.1,fun q=>(((hmem s).1 q).elim h3.2.1 hs),h3.2.2⟩
theorem pN.aD2{k:Nat}(hk:k < 3){xs:List Int}(hx:xs.Nodup)(hf:CV m.aE xs (k:Int))(hd:∀x∈xs,x∉d9 m.aB)(hk':k < m.aB.Global.length) :
    pN ⟨m.aE,⟨m.aB.Global.set k ⟨m.aB.Global[k].aN++xs⟩,m.aB.bQ⟩⟩∧∀s,s∉xs→jV m s=3→jV ⟨m.aE,⟨m.aB.Global.set k ⟨m.aB.Global[k].aN++xs⟩,m.aB.bQ⟩⟩ s=3:=by
  obtain⟨⟨hh,h3,h9,h2,hr,hn⟩,hg,ho⟩:=hm
  have hmem:∀s,s∈d9 ⟨m.aB.Global.set k ⟨m.aB.Global[k].aN++xs⟩,m.aB.bQ⟩↔s∈d9 m.aB∨s∈xs:=fun s=>by
    unfold d9;simp only [List.mem_append,WK hk'];rw [or_right_comm]
  have hcl:∀x∈xs,0≤x∧x≤23:=fun x h=>by
    have:=(hf x h).1
    exact(CU (h:=m.aE) (s:=x) (by omega)).1
  refine⟨⟨⟨hh,by simpa using h3,h9,h2,fun x hx=>?_,?_⟩,fun j hj=>?_,ho⟩,fun s hs h3=>?_⟩
  · rcases(hmem x).1 hx with q | q
    · exact hr x q
    · exact hcl x q
  · have:=RQ (q:=[]) (r:=dB m.aB.bQ) hk' (by simpa [d9] using hn) hx (by simpa [d9] using hd)
    simpa [d9] using this
  · unfold JM
    simp only [KX hk']
    split
    · rename_i e;subst e
      intro x hx
      rcases List.mem_append.1 hx with q | q
      · rw [f8 hk'] at q;exact hg j hj x q
      · exact hf x q
    · exact hg j hj
  · rw [rT] at h3 ⊢
    exact⟨h3.1,fun q=>(((hmem s).1 q).elim h3.2.1 hs),h3.2.2⟩
theorem pN.RR{x:Int}(hx:x∈d9 m.aB):0≤bK m.aE x∧nM m.aE x≤6:=by
  obtain⟨⟨hh,h3,h9,h2,hr,hn⟩,hg,ho⟩:=hm
  have key:∀(l:List aH),x∈dB l→∃k,k < l.length∧x∈j8 l k:=fun l h=>by
    obtain⟨s,h1,h2⟩:=SC.1 h
    obtain⟨k,hk,rfl⟩:=List.mem_iff_getElem.1 h1
    exact⟨k,hk,by rw [←f8 hk];exact h2⟩
  rcases List.mem_append.1 hx with q | q
  · obtain⟨k,hk,h⟩:=key _ q
    have:=hg k (by omega) x h
    exact⟨by omega,this.2⟩
  · obtain⟨k,hk,h⟩:=key _ q
    have:=ho k (by omega) x h
    exact⟨by omega,this.2⟩
theorem pN.heap{h':aE}(hh:V8 h')(hs:∀x∈d9 m.aB,bK h' x=bK m.aE x∧nM h' x=nM m.aE x):pN ⟨h',m.aB⟩:=by
  obtain⟨⟨_,hl⟩,hg,ho⟩:=hm
  have key:∀(l:List aH) k x,x∈j8 l k→x∈dB l:=fun l k x h=>by
    unfold j8 at h
    rw [List.getD_eq_getElem?_getD] at h
    cases hk:l[k]? with
    | none=>rw [hk] at h;simp at h
    | some s=>rw [hk] at h;exact SC.2 ⟨s,List.mem_of_getElem? hk,h⟩
  refine⟨⟨hh,hl⟩,fun k hk x hx=>?_,fun k hk x hx=>?_⟩
  · obtain⟨a,b⟩:=hs x (List.mem_append_left _ (key _ k x hx))
    show bK h' x=_∧nM h' x≤6
    rw [a,b];exact hg k hk x hx
  · obtain⟨a,b⟩:=hs x (List.mem_append_right _ (key _ k x hx))
    show bK h' x=_∧nM h' x≤6
    rw [a,b];exact ho k hk x hx
theorem pN.aY5{s g:Int}(hu:jV m s=3)(hg:1≤g∧g≤7):wB m ⟨⟨st4 m.aE.Bytes (fU s (bK m.aE s)).toNat g,m.aE.Class⟩,m.aB⟩ s∧nM ⟨st4 m.aE.Bytes (fU s (bK m.aE s)).toNat g,m.aE.Class⟩ s=g:=by
  have hu':=rT.1 hu
  obtain⟨a,b⟩:=V8.aV0 hm.1.1 hu'.1 hg
  refine⟨⟨pN.heap hm a fun x hx=>⟨rfl,?_⟩,fun t ht hn=>?_⟩,by rw [b s hu'.1,if_pos rfl]⟩
  · rw [b x (pN.RR hm hx).1,if_neg (show ¬x=s from fun e=>hu'.2.1 (e ▸ hx))]
  · have ht':=rT.1 ht
    have e:nM ⟨st4 m.aE.Bytes (fU s (bK m.aE s)).toNat g,m.aE.Class⟩ t=nM m.aE t:=by rw [b t ht'.1,if_neg hn]
    exact⟨rT.2 ⟨ht'.1,ht'.2.1,by simp only [e];exact ht'.2.2⟩,e,rfl⟩
theorem pN.aMV{p:Nat}(hp:p < 6)(hun:b7 m.aE p < 0){c:Int}(hc:0≤c∧c≤2){xs:List Int}(hxs:∀x∈xs,∃i,i < (cS c).toNat∧x=(p:Int) * 4+(i:Nat))(hx:xs.Nodup)(hk':c.toNat < m.aB.Global.length) :
    wB m ⟨⟨gB m.aE.Bytes p c (cS c).toNat,m.aE.Class.set p c⟩,⟨m.aB.Global.set c.toNat ⟨m.aB.Global[c.toNat].aN++xs⟩,m.aB.bQ⟩⟩ (-1):=by
  obtain⟨a,b,d,e⟩:=V8.aXU hm.1.1 hp hun hc
  have h1:pN ⟨⟨gB m.aE.Bytes p c (cS c).toNat,m.aE.Class.set p c⟩,m.aB⟩:=pN.heap hm a fun x hx=>by
    obtain⟨q,r⟩:=d x (pN.RR hm hx).1
    exact⟨b x q,r⟩
  have hno:∀x∈xs,¬0≤bK m.aE x:=fun x h q=>by
    obtain⟨i,hi,rfl⟩:=hxs x h
    have h4:=mC c
    exact(d _ q).1 (by omega)
  obtain⟨f,g⟩:=pN.aD2 h1 (k:=c.toNat) (by omega) hx (fun x h=>by
    obtain⟨i,hi,rfl⟩:=hxs x h
    have:=e i hi
    exact⟨by simp only [this.1];omega,by simp only [this.2];omega⟩) (fun x h q=>hno x h (pN.RR hm q).1) hk'
  refine⟨f,fun s hs _=>?_⟩
  have hs':=rT.1 hs
  obtain⟨q,r⟩:=d s hs'.1
  have h2:jV ⟨⟨gB m.aE.Bytes p c (cS c).toNat,m.aE.Class.set p c⟩,m.aB⟩ s=3:=rT.2 ⟨by simp only [b s q];exact hs'.1,hs'.2.1,by simp only [r];exact hs'.2.2⟩
  exact⟨g s (fun h=>hno s h hs'.1) h2,r,b s q⟩
end
end Go.Gv
end
noncomputable section
namespace Go.Gv
theorem aV2{p n:Nat}{x:Int}(h:x∈gS p n):∃i,i < n∧x=(p:Int) * 4+(i:Nat):=by
  simp only [gS,List.mem_map,List.mem_range] at h
  obtain⟨i,h1,h2⟩:=h
  exact⟨i,h1,h2.symm⟩
theorem aQ8(p n:Nat):(gS p n).Nodup:=by
  unfold gS
  rw [List.Nodup,List.pairwise_map]
  exact List.Pairwise.imp (fun h e=>h (by omega)) (List.nodup_range (n:=n))
theorem aJV{m:Mem}(hm:pN m){c:Int}(hc:0≤c∧c≤2) :
    ∃m' s,AK m c=some (m',s)∧HC m c=some (m',s)∧nN m'∧(0≤s→fN m'.aE∧0≤bK m'.aE s)∧wB m m' (-1):=by
  have hl:=hm.1.2
  have hcnt:=hl.count
  have hs:=hm.1.1.1
  have hsl:=hl.WA (by omega)
  have hp4:=mC c
  have hpp:0 < cS c:=kU.2 hc
  have hall:=gU m.aB
  have hsG:∀s∈m.aB.Global,s.aN.length≤24:=fun s h=>by have:=uM h;omega
  have hsO:∀s∈m.aB.bQ,s.aN.length≤24:=fun s h=>by have:=uM h;omega
  have h3:=hl.1
  have h9:=hl.2.1
  have hcpl:=L5 (l:=m.aB) (by omega) (by omega) (fun s h=>by have:=hsG s h;omega) (fun s h=>by have:=hsO s h;omega)
  unfold AK HC
  rcases aJU hm.1.1 hc with ⟨e1,e2⟩ | ⟨p,hp,hun,e1,e2⟩
  · rw [e1,e2,hcpl]
    have h1:=hs.1;have h2:=hs.2.1
    exact⟨_,_,rfl,rfl,⟨by simp only;omega,by simp only;omega,by simp only;omega,by simp only;omega,by simp only;omega⟩,fun h=>absurd h (by omega),wB.refl hm _⟩
  · rw [e1,e2,hcpl]
    simp only [aI,F7,F6,FX,X7]
    have hn:(((cS c).toNat:Int) == 0)=false:=by simpa using (by omega:¬((cS c).toNat:Int)=0)
    have hk:c.toNat < m.aB.Global.length:=by omega
    have hg0:=hsG _ (List.getElem_mem hk)
    have hx:idx m.aB.Global c=some m.aB.Global[c.toNat]:=l6 hc.1 (by omega)
    have hz:idx (gS p (cS c).toNat) 0=some ((p:Int) * 4):=by
      have:=aX (l:=gS p (cS c).toNat) (k:=0) (by rw [X7];omega)
      rw [show((0:Nat):Int)=0 from rfl] at this
      rw [this];simp [gS]
    have hlen:(List.drop (1:Int).toNat (List.take (cS c).toNat (gS p (cS c).toNat))).length≤4:=by simp [X7];omega
    simp only [hn,a9,if_false,hx,aI,hz]
    rw [aS (by omega),aS (by omega)]
    have hcl:b7 ⟨gB m.aE.Bytes p c (cS c).toNat,m.aE.Class.set p c⟩ p=c:=by
      have h6:=hs.2.1
      unfold b7;simp [List.getD_eq_getElem?_getD,List.getElem?_set,h6,hp]
    refine⟨_,_,rfl,rfl,⟨by simp only [JF];have:=hs.1;omega,by simp only [List.length_set];have:=hs.2.1;omega,by simp only [List.length_set];omega,by simp only;omega,?_⟩,fun _=>⟨⟨by simp only [JF];exact hs.1,by simp only [List.length_set];exact hs.2.1,aIC hs.2.2.1 p hc _,fun x hx=>?_⟩,?_⟩,?_⟩
    · rw [gU];simp only [DP hk];omega
    · rcases List.mem_or_eq_of_mem_set hx with h | rfl
      · exact hs.2.2.2 x h
      · omega
    · unfold bK
      have e4:((p:Int) * 4 / 4).toNat=p:=by omega
      rw [e4]
      simp only [hcl]
      rw [if_pos ⟨by omega,by omega⟩];exact hc.1
    · exact pN.aMV hm hp hun hc (fun x hx=>aV2 (List.mem_of_mem_take (List.mem_of_mem_drop hx))) ((aQ8 p _).sublist ((List.drop_sublist _ _).trans (List.take_sublist _ _))) hk
theorem aD3(n:Int):∃c,AJ n=some c∧HA n=some c∧(c = -1∨(0≤c∧c≤2)):=by
  have s1:∀k,0≤k∧k≤2→iV n k=some (if 1≤n∧n≤gP k then .stop (Out.ret k) else .next (k+1)):=fun k hk=>by
    simp only [iV]
    rw [if_pos (by simp;omega),CR,aI,bY,aI,aR (by omega) (by omega)]
    by_cases q:1≤n∧n≤gP k
    · rw [bE q,if_pos rfl,if_pos q]
    · rw [bL q,if_neg (by simp),if_neg q]
  have s2:∀k,0≤k∧k≤2→iY n k=some (if 1≤n∧n≤gP k then .stop (Out.ret k) else .next (k+1)):=fun k hk=>by
    simp only [iY,yJ]
    rw [if_pos (by simp;omega),RC,aI,aR (by omega) (by omega)]
    by_cases q1:1≤n
    · by_cases q2:n≤gP k <;> simp [q1,q2]
    · simp [q1]
  have st:∀k,0≤k∧k≤2→1≤n∧n≤gP k→loop (iV n) k=some (Out.ret k)∧loop (iY n) k=some (Out.ret k):=fun k hk h=>
    ⟨cA (by rw [s1 k hk,if_pos h]),cA (by rw [s2 k hk,if_pos h])⟩
  have nx:∀k,0≤k∧k≤2→¬(1≤n∧n≤gP k)→loop (iV n) k=loop (iV n) (k+1)∧loop (iY n) k=loop (iY n) (k+1):=fun k hk h=>
    ⟨cM (by rw [s1 k hk,if_neg h]),cM (by rw [s2 k hk,if_neg h])⟩
  unfold AJ HA
  by_cases q0:1≤n∧n≤gP 0
  · have:=st 0 (by omega) q0
    rw [this.1,this.2];exact⟨_,rfl,rfl,.inr (by omega)⟩
  · have h0:=nx 0 (by omega) q0
    rw [h0.1,h0.2,show(0:Int)+1=1 from rfl]
    by_cases q1:1≤n∧n≤gP 1
    · have:=st 1 (by omega) q1
      rw [this.1,this.2];exact⟨_,rfl,rfl,.inr (by omega)⟩
    · have h1:=nx 1 (by omega) q1
      rw [h1.1,h1.2,show(1:Int)+1=2 from rfl]
      by_cases q2:1≤n∧n≤gP 2
      · have:=st 2 (by omega) q2
        rw [this.1,this.2];exact⟨_,rfl,rfl,.inr (by omega)⟩
      · have h2:=nx 2 (by omega) q2
        rw [h2.1,h2.2,show(2:Int)+1=3 from rfl,cA (body:=iV n) (r:=Out.brk ()) (by simp [iV]),cA (body:=iY n) (r:=Out.brk ()) (by simp [iY])]
        exact⟨_,rfl,rfl,.inl rfl⟩
theorem aQ9{s:aH}(hl:s.aN.length≤1048576):∃t x,pW s=some (t,x)∧tW s=some (x,t)∧t.aN.length≤s.aN.length∧(0≤x→x∈s.aN)∧t.aN.Sublist s.aN:=by
  unfold pW tW K4
  rw [aR (by omega) (by omega)]
  by_cases q:s.aN.length=0
  · rw [if_pos (by simpa using q),if_pos (by simp;omega)]
    exact⟨_,_,rfl,rfl,Nat.le_refl _,fun h=>absurd h (by omega),List.Sublist.refl _⟩
  · have hx:idx s.aN ((s.aN.length:Int) - 1)=some (s.aN[s.aN.length - 1]'(by omega)):=by
      rw [show((s.aN.length:Int) - 1)=((s.aN.length - 1:Nat):Int) by omega,aX (by omega)]
    rw [if_neg (by simpa using q),if_neg (by simp;omega),aS (by omega),hx]
    simp only [aI]
    rw [aS (by omega)]
    exact⟨_,_,rfl,rfl,by simp,fun _=>List.getElem_mem _,(List.drop_sublist _ _).trans (List.take_sublist _ _)⟩
theorem M7{w c:Int}(hw:0≤w∧w≤2)(hc:0≤c∧c≤2):lV w c=some (w * 3+c)∧IL w c=some (w * 3+c):=by
  have e:bC (bC (w * 3)+c)=w * 3+c:=by rw [aR (x:=w * 3) (by omega) (by omega),aR (by omega) (by omega)]
  constructor
  · unfold lV rW;rw [bY,bY,bE hw,bE hc,e];rfl
  · unfold IL D6;rw [jW,iZ,bE hw,bE hc,e];rfl
theorem aD4{l:List aH}{k:Nat}(hk:k < l.length){t:aH}(ht:t.aN.length≤l[k].aN.length):(dB (l.set k t)).length≤(dB l).length:=by
  rw [DO hk,zY hk];simp;omega
noncomputable section
variable {m:Mem} (hm:pN m)
include hm
theorem pN.facts:(d9 m.aB).length≤24∧m.aB.Global.length=3∧m.aB.bQ.length=9∧m.aE.Bytes.length=384∧m.aE.Class.length=6∧nN m∧gR m.aB=some m.aB∧jF m.aB=some true ∧
    (∀s∈m.aB.Global,s.aN.length≤24)∧(∀s∈m.aB.bQ,s.aN.length≤24):=by
  have hl:=hm.1.2
  have hcnt:=hl.count
  have hall:=gU m.aB
  have hsG:∀s∈m.aB.Global,s.aN.length≤24:=fun s h=>by have:=uM h;omega
  have hsO:∀s∈m.aB.bQ,s.aN.length≤24:=fun s h=>by have:=uM h;omega
  have h3:=hl.1;have h9:=hl.2.1
  have h1:=hm.1.1.1.1;have h2:=hm.1.1.1.2.1
  refine⟨hcnt,h3,h9,h1,h2,⟨by omega,by omega,by omega,by omega,by omega⟩,L5 (by omega) (by omega) (fun s h=>by have:=hsG s h;omega) (fun s h=>by have:=hsO s h;omega),by rw [PE (by omega),bE hl],hsG,hsO⟩
theorem aD5{w c:Int}(hw:0≤w∧w≤2)(hc:0≤c∧c≤2) :
    ∃l t x,idx m.aB.bQ (w * 3+c)=some l∧pW l=some (t,x)∧HB m.aB w c=some (⟨m.aB.Global,m.aB.bQ.set (w * 3+c).toNat t⟩,x) ∧
      nN ⟨m.aE,⟨m.aB.Global,m.aB.bQ.set (w * 3+c).toNat t⟩⟩∧(0≤x→0≤bK m.aE x)∧wB m ⟨m.aE,⟨m.aB.Global,m.aB.bQ.set (w * 3+c).toNat t⟩⟩ (-1):=by
  obtain⟨hcnt,h3,h9,h1,h2,hsm,hcp,hlo,hsG,hsO⟩:=pN.facts hm
  have hk:(w * 3+c).toNat < m.aB.bQ.length:=by omega
  have hx:idx m.aB.bQ (w * 3+c)=some m.aB.bQ[(w * 3+c).toNat]:=l6 (by omega) (by omega)
  have h24:=hsO _ (List.getElem_mem hk)
  obtain⟨t,x,e1,e2,ht,hmem,hsub⟩:=aQ9 (s:=m.aB.bQ[(w * 3+c).toNat]) (by omega)
  have hall:=gU m.aB
  refine⟨_,t,x,hx,e1,?_,⟨by simp only;omega,by simp only;omega,by simp only;omega,by simp only [List.length_set];omega,?_⟩,fun h0=>?_,pN.aV1 hm (by omega) (by rw [←f8 hk];exact hsub)⟩
  · unfold HB yK
    rw [hcp,(M7 hw hc).2,hlo]
    simp only [aI,eF,a9,if_false]
    rw [bL (by omega),if_neg (by simp),hx,aI,e2];rfl
  · have:=aD4 hk ht
    rw [gU];simp only;omega
  · have:=hm.2.2 (w * 3+c).toNat (by omega) x (by rw [←f8 hk];exact hmem h0)
    omega
theorem TW{c:Int}(hc:0≤c∧c≤2) :
    ∃l t x,idx m.aB.Global c=some l∧pW l=some (t,x)∧yL m.aB c=some (⟨m.aB.Global.set c.toNat t,m.aB.bQ⟩,x) ∧
      nN ⟨m.aE,⟨m.aB.Global.set c.toNat t,m.aB.bQ⟩⟩∧(0≤x→0≤bK m.aE x)∧wB m ⟨m.aE,⟨m.aB.Global.set c.toNat t,m.aB.bQ⟩⟩ (-1):=by
  obtain⟨hcnt,h3,h9,h1,h2,hsm,hcp,hlo,hsG,hsO⟩:=pN.facts hm
  have hk:c.toNat < m.aB.Global.length:=by omega
  have hx:idx m.aB.Global c=some m.aB.Global[c.toNat]:=l6 (by omega) (by omega)
  have h24:=hsG _ (List.getElem_mem hk)
  obtain⟨t,x,e1,e2,ht,hmem,hsub⟩:=aQ9 (s:=m.aB.Global[c.toNat]) (by omega)
  have hall:=gU m.aB
  refine⟨_,t,x,hx,e1,?_,⟨by simp only;omega,by simp only;omega,by simp only [List.length_set];omega,by simp only;omega,?_⟩,fun h0=>?_,pN.aNP hm (by omega) (by rw [←f8 hk];exact hsub)⟩
  · unfold yL qH
    rw [hcp,hlo,iZ,bE hc]
    simp only [aI,eF,a9,if_false]
    rw [hx,aI,e2];rfl
  · have:=aD4 hk ht
    rw [gU];simp only;omega
  · have:=hm.2.1 c.toNat (by omega) x (by rw [←f8 hk];exact hmem h0)
    omega
theorem aMW{w h:Int}(hw:0≤w∧w≤2)(hv:wA m h):∃m',E3 m w (h % 32)=some m'∧NM m w h=some m'∧nN m'∧wB m m' (h % 32):=by
  obtain⟨hcnt,h3,h9,h1,h2,hsm,hcp,hlo,hsG,hsO⟩:=pN.facts hm
  have hs:=hm.1.1.1
  have hh:=hv.1
  have hhm:=hh.mod
  have hcl:=FM hv.2.1
  have hgo:=ET hcl
  have hc2:0≤bK m.aE (h % 32)∧bK m.aE (h % 32)≤2:=by
    obtain⟨_,q,e⟩:=CU hcl
    rw [e];exact kU.1 (by omega)
  have hg6:1≤h / 32∧h / 32≤6:=by unfold rQ at hh;omega
  have hbl:m.aE.Bytes.length≤maxLen:=by rw [h1];simp [maxLen]
  have hnot:h % 32∉d9 m.aB:=fun q=>by
    have:=hv.2.1;unfold jV at this;rw [if_neg (by omega),if_pos q] at this;omega
  have hcpH:=OE (h:=m.aE) (by omega) (by omega)
  have eo:fU (h % 32) (bK m.aE (h % 32))=(((fU (h % 32) (bK m.aE (h % 32))).toNat:Nat):Int):=by omega
  have ew:bC (h / 32+1)=h / 32+1:=aR (by omega) (by omega)
  have ed:bC (Int.tdiv h 32)=h / 32:=by rw [FL (by unfold rQ at hh;omega),aR (by omega) (by omega)]
  have hall:=gU m.aB
  obtain⟨hr1,hr2⟩:=pN.aY5 hm hv.2.1 (g:=h / 32+1) (by omega)
  have hu:=rT.1 hv.2.1
  unfold E3 NM QC qB
  rw [hhm.1,i3 hs,hcpH,CT hbl,bE hs,kN hs,ed,ew,hcp]
  simp only [aI,eF,a9,if_false,IN,BE,IM]
  rw [xN hs hcl,hv.2.2,dW,bL (show ¬bK m.aE (h % 32) < 0 by omega),bE (show 1≤h / 32+1∧h / 32+1≤7 by omega)]
  simp only [aI,eF,a9,if_false,sD,xM,ew]
  generalize hgn:(fU (h % 32) (bK m.aE (h % 32))).toNat=a at eo
  rw [hgn] at hr1 hr2
  rw [eo,PG (by omega) (by omega) (by omega),TV (by omega)]
  simp only [aI]
  rw [RP (by omega) (by omega) (by omega)]
  simp only [aI,IF,LB,ed,ew,hhm.1]
  by_cases q:h / 32+1≤6
  · have hk:(w * 3+bK m.aE (h % 32)).toNat < m.aB.bQ.length:=by omega
    have hx:idx m.aB.bQ (w * 3+bK m.aE (h % 32))=some m.aB.bQ[(w * 3+bK m.aE (h % 32)).toNat]:=l6 (by omega) (by omega)
    have hk2:(bK m.aE (h % 32)).toNat < m.aB.Global.length:=by omega
    have hx2:idx m.aB.Global (bK m.aE (h % 32))=some m.aB.Global[(bK m.aE (h % 32)).toNat]:=l6 (by omega) (by omega)
    have b1:=hsO _ (List.getElem_mem hk)
    have b2:=hsG _ (List.getElem_mem hk2)
    rw [bE q,if_pos rfl,if_pos rfl]
    unfold E2 XF vO
    rw [kN hs,aI,hcp,(M7 hw hc2).1,(M7 hw hc2).2,hlo,uL,bE (show 0≤h % 32∧h % 32≤23 by omega),RM (by omega) (by simp only [maxLen];omega) (by simp only [maxLen];omega),bL hnot]
    simp only [aI,eF,a9,if_false,hx,hx2]
    have nz:¬w * 3+bK m.aE (h % 32) < 0:=by omega
    simp only [bL nz,a9,if_false]
    by_cases q2:m.aB.bQ[(w * 3+bK m.aE (h % 32)).toNat].aN.length < 2
    · have y1:(m.aB.bQ[(w * 3+bK m.aE (h % 32)).toNat].aN.length:Int) < 2:=by omega
      have y2:¬(2:Int)≤m.aB.bQ[(w * 3+bK m.aE (h % 32)).toNat].aN.length:=by omega
      simp only [bE y1,bL y2,a9,if_false,if_true]
      rw [aS (by simp;omega),aS (by simp;omega)]
      refine⟨_,rfl,rfl,⟨by simp only [EX];omega,by simp only;omega,by simp only;omega,by simp only [List.length_set];omega,?_⟩,?_⟩
      · rw [gU];simp only [DP hk];simp;omega
      · have hmod:((w * 3+bK m.aE (h % 32)).toNat % 3:Nat)=(bK m.aE (h % 32)).toNat:=by omega
        obtain⟨z1,z2⟩:=pN.aTC hr1.1 (k:=(w * 3+bK m.aE (h % 32)).toNat) (by omega) (xs:=[h % 32]) (by simp only [←f8 hk,List.length_cons,List.length_nil];omega) (by simp) (fun x hx=>by
          simp at hx;subst hx
          exact⟨by rw [hmod];show bK m.aE (h % 32)=_;omega,by rw [hr2];omega⟩) (fun x hx=>by simp at hx;subst hx;exact hnot) hk
        refine⟨z1,fun s h1 h2=>?_⟩
        obtain⟨y1,y2,y3⟩:=hr1.2 s h1 h2
        exact⟨z2 s (by simpa using h2) y1,y2,y3⟩
    · have y1:¬(m.aB.bQ[(w * 3+bK m.aE (h % 32)).toNat].aN.length:Int) < 2:=by omega
      have y2:(2:Int)≤m.aB.bQ[(w * 3+bK m.aE (h % 32)).toNat].aN.length:=by omega
      simp only [bE y2,bL y1,a9,if_false,if_true]
      rw [aS (by simp;omega),aS (by simp;omega)]
      refine⟨_,rfl,rfl,⟨by simp only [EX];omega,by simp only;omega,by simp only [List.length_set];omega,by simp only;omega,?_⟩,?_⟩
      · rw [gU];simp only [DP hk2];simp;omega
      · obtain⟨z1,z2⟩:=pN.aD2 hr1.1 (k:=(bK m.aE (h % 32)).toNat) (by omega) (xs:=[h % 32]) (by simp) (fun x hx=>by
          simp at hx;subst hx
          exact⟨by show bK m.aE (h % 32)=_;omega,by rw [hr2];omega⟩) (fun x hx=>by simp at hx;subst hx;exact hnot) hk2
        refine⟨z1,fun s h1 h2=>?_⟩
        obtain⟨y1,y2,y3⟩:=hr1.2 s h1 h2
        exact⟨z2 s (by simpa using h2) y1,y2,y3⟩
  · rw [bL q,if_neg (by simp),if_neg (by simp)]
    refine⟨_,rfl,rfl,⟨by simp only [EX];omega,by simp only;omega,by simp only;omega,by simp only;omega,by rw [gU];simp only;omega⟩,hr1⟩
end
theorem alloc_eq{b:aD}(hm:pN b.Mem){w:Int}(hw:0≤w∧w≤2)(s:Sub) :
    ∃x y,DX b w s=some (x,y)∧qI s b w=some (y,x)∧∃m',x=⟨m',b.aK,b.bB,b.lZ⟩∧nN m'∧wB b.Mem m' (-1):=by
  have hsm:=(pN.facts hm).2.2.2.2.2.1
  have hs:=hm.1.1.1
  obtain⟨c,ec,ei,hcc⟩:=aD3 s.A
  unfold DX qI
  rw [ec,ei]
  simp only [aI]
  by_cases c0:c < 0
  · simp only [bE c0,if_true,cD,bI];exact⟨_,_,rfl,rfl,_,rfl,hsm,wB.refl hm _⟩
  have hc:0≤c∧c≤2:=by omega
  simp only [bL c0,a9,if_false]
  have fin:∀(m':Mem) (x:Int),nN m'→wB b.Mem m' (-1)→(0≤x→fN m'.aE∧0≤bK m'.aE x) →
      ∃X Y,lO s x ⟨m',b.aK,b.bB,b.lZ⟩=some (X,Y)∧gQ s x ⟨m',b.aK,b.bB,b.lZ⟩=some (Y,X)∧∃m',X=⟨m',b.aK,b.bB,b.lZ⟩∧nN m'∧wB b.Mem m' (-1):=by
    intro m' x hs' hst hx
    unfold lO gQ
    simp only [vB,NI,cD,bI]
    by_cases x0:0≤x
    · obtain⟨h,e1,e2⟩:=aGO (m:=m') (hx x0).1 (hx x0).2
      rw [bL (show ¬x < 0 by omega),bE x0]
      simp only [a9,if_false,if_true,e1,e2,aI]
      exact⟨_,_,rfl,rfl,m',rfl,hs',hst⟩
    · rw [bE (show x < 0 by omega),bL x0]
      by_cases p3:s.Pc=3
      · simp only [p3,beq_self_eq_true,if_true,a9,if_false,aI];exact⟨_,_,rfl,rfl,m',rfl,hs',hst⟩
      · have p3':(s.Pc == 3)=false:=by simpa using p3
        simp only [p3',if_true,a9,if_false,aI];exact⟨_,_,rfl,rfl,m',rfl,hs',hst⟩
  by_cases p0:s.Pc=0
  · obtain⟨l,t,x,e1,e2,e3,h1,h2,h3⟩:=aD5 hm hw hc
    simp only [p0,beq_self_eq_true,if_true,(M7 hw hc).1,aI,e1,e2,e3]
    exact fin _ x h1 h3 (fun h=>⟨hs,h2 h⟩)
  · have p0':(s.Pc == 0)=false:=by simpa using p0
    simp only [p0',a9,if_false,vC,mB]
    obtain⟨l,t,x,e1,e2,e3,h1,h2,h3⟩:=TW hm hc
    by_cases p1:s.Pc=1
    · simp only [p1,beq_self_eq_true,if_true,aI,e1,e2,e3]
      exact fin _ x h1 h3 (fun h=>⟨hs,h2 h⟩)
    · have p1':(s.Pc == 1)=false:=by simpa using p1
      simp only [p1',a9,if_false]
      by_cases p3:s.Pc=3
      · simp only [p3,beq_self_eq_true,if_true,aI,e1,e2,e3]
        exact fin _ x h1 h3 (fun h=>⟨hs,h2 h⟩)
      · have p3':(s.Pc == 3)=false:=by simpa using p3
        simp only [p3',a9,if_false]
        by_cases p2:s.Pc=2
        · obtain⟨m',x,e1,e2,h1,h2,h3⟩:=aJV hm hc
          simp only [p2,beq_self_eq_true,if_true,aI,e1,e2]
          exact fin m' x h1 h3 h2
        · have p2':(s.Pc == 2)=false:=by simpa using p2
          simp only [p2',a9,if_false,cD,bI];exact⟨_,_,rfl,rfl,_,rfl,hsm,wB.refl hm _⟩
end Go.Gv
end
noncomputable section
namespace Go.Gv
theorem aMX(r:b8)(e:Int):∃v,ML r e=some v∧MN r e=some v:=by
  unfold ML MN G0 HE
  by_cases h:2≤e
  · simp only [bE h,if_true];exact⟨_,rfl,rfl⟩
  · simp only [bL h,a9,if_false];exact⟨_,rfl,rfl⟩
theorem aTD{b:aD}{w:Int}{l:aP}(hx:idx b.bB w=some l)(hl:l.Rows.length≤1000)(s:Sub) :
    (AP l.Rows s.Row s.E=some (-1)∧nB s b w=(bI s 0).bind fun x=>some (x,b)) ∨
    ∃k,∃h:k < l.Rows.length,AP l.Rows s.Row s.E=some (k:Int)∧nB s b w=some (⟨s.Kind,s.A,2,s.E,(k:Int),0,l.Rows[k].Handle,s.Out,s.Code,s.cQ⟩,b):=by
  have key:∀d k,k+d=l.Rows.length →
      (loop (gZ l.Rows s.E) (k:Int)=some (Out.brk ())∧loop (eI s b w) (k:Int)=some (Out.brk ())) ∨
      ∃j,∃h:j < l.Rows.length,loop (gZ l.Rows s.E) (k:Int)=some (Out.ret (j:Int))∧loop (eI s b w) (k:Int)=some (Out.ret (⟨s.Kind,s.A,2,s.E,(j:Int),0,l.Rows[j].Handle,s.Out,s.Code,s.cQ⟩,b)):=by
    intro d
    induction d with
    | zero =>
      intro k hk
      left
      exact⟨cA (by simp only [gZ];rw [if_neg (by simp;omega)]),cA (by simp only [eI,hx,aI];rw [if_neg (by simp;omega)])⟩
    | succ d ih =>
      intro k hk
      have hk':k < l.Rows.length:=by omega
      obtain⟨v,e1,e2⟩:=aMX l.Rows[k] s.E
      cases v with
      | true =>
        right
        refine⟨k,hk',cA ?_,cA ?_⟩
        · simp only [gZ]
          rw [if_pos (by simp;omega),aX hk',aI,e1];rfl
        · simp only [eI,hx,aI]
          rw [if_pos (by simp;omega),aX hk',aI,e2];rfl
      | false =>
        have n1:gZ l.Rows s.E (k:Int)=some (.next ((k+1:Nat):Int)):=by
          simp only [gZ]
          rw [if_pos (by simp;omega),aX hk',aI,e1,aI,aR (by omega) (by omega)];rfl
        have n2:eI s b w (k:Int)=some (.next ((k+1:Nat):Int)):=by
          simp only [eI,hx,aI]
          rw [if_pos (by simp;omega),aX hk',aI,e2,aI,aR (by omega) (by omega)];rfl
        rw [cM n1,cM n2]
        exact ih (k+1) (by omega)
  unfold AP nB
  have hst:∃i:Nat,(if 0 < s.Row then s.Row else 0)=(i:Int)∧(if s.Row < 0 then 0 else s.Row)=(i:Int):=by
    refine⟨s.Row.toNat,?_,?_⟩ <;> split <;> omega
  obtain⟨i,i1,i2⟩:=hst
  rw [i1,i2]
  by_cases hi:i≤l.Rows.length
  · rcases key (l.Rows.length - i) i (by omega) with ⟨a,c⟩ | ⟨j,hj,a,c⟩
    · left;rw [a,c];exact⟨rfl,rfl⟩
    · right;rw [a,c];exact⟨j,hj,rfl,rfl⟩
  · left
    rw [cA (body:=gZ l.Rows s.E) (r:=Out.brk ()) (by simp only [gZ];rw [if_neg (by simp;omega)]),
      cA (body:=eI s b w) (r:=Out.brk ()) (by simp only [eI,hx,aI];rw [if_neg (by simp;omega)])]
    exact⟨rfl,rfl⟩
theorem del_eq{α:Type}{l:List α}{k:Nat}(h:k < l.length):((cY l k (l.drop (k+1))).take (k+(l.length - (k+1)))).drop 0=l.eraseIdx k:=by
  have h1:(l.take k).length=k:=by rw [List.length_take];omega
  have h2:(l.drop (k+1)).length=l.length - (k+1):=by simp
  unfold cY
  rw [List.drop_zero,List.eraseIdx_eq_take_drop_succ,List.take_of_length_le (l:=l.drop (k+1)) (by rw [h2];omega),←List.append_assoc]
  rw [show k+(l.length - (k+1))=(l.take k++l.drop (k+1)).length by rw [List.length_append,h1,h2]]
  exact List.take_left
theorem aLB{α:Type}{l:List α}{k:Nat}(h:k < l.length):l.Perm (l[k] :: l.eraseIdx k):=by
  have e:l=l.take k++l[k] :: l.drop (k+1):=by rw [←List.drop_eq_getElem_cons h,List.take_append_drop]
  rw [List.eraseIdx_eq_take_drop_succ]
  refine(List.Perm.of_eq e).trans ?_
  exact List.perm_middle
theorem rR.drop{b:List aP}(hL:rR b){w:Nat}(hw:w < b.length):∀k (hk:k < b[w].Rows.length),rR (b.set w ⟨b[w].Rows.eraseIdx k⟩)∧∀r∈bT (b.set w ⟨b[w].Rows.eraseIdx k⟩),r∈bT b∧r.Handle % 32≠b[w].Rows[k].Handle % 32:=by
  intro k hk
  have hsub:(bT (b.set w ⟨b[w].Rows.eraseIdx k⟩)).Sublist (bT b):=by
    rw [DN hw,zX hw]
    exact(List.Sublist.refl _).append ((List.eraseIdx_sublist _ _).append (List.Sublist.refl _))
  have hnd:=hL.2.2.2
  refine⟨⟨by simpa using hL.1,Nat.le_trans hsub.length_le hL.2.1,fun r hr=>hL.2.2.1 r (hsub.subset hr),(hsub.map l8).nodup hnd⟩,fun r hr=>⟨hsub.subset hr,?_⟩⟩
  have hp:(bT b).Perm (b[w].Rows[k] :: bT (b.set w ⟨b[w].Rows.eraseIdx k⟩)):=by
    rw [DN hw,zX hw]
    refine List.Perm.trans (List.Perm.append_left _ (List.Perm.append_right _ (aLB hk))) ?_
    exact List.perm_middle
  have:=(hp.map l8).nodup_iff.1 hnd
  rw [List.map_cons,List.nodup_cons] at this
  exact fun e=>this.1 (List.mem_map.2 ⟨r,hr,e⟩)
theorem aLC{b:aD}(hb:l9 b){w:Int}(hw:0≤w∧w≤2)(s:Sub) :
    ∃x y,yA b w s=some (x,y)∧nC s b w=some (y,x)∧∃m' L,x=⟨m',b.aK,L,b.lZ⟩∧nN m'∧pN m'∧rR L∧∀r∈bT L,wA m' r.Handle∧r.aM≤b.aK.aM:=by
  have hm:=hb.1.1
  have hL:=hb.1.2.2.1
  have hZ:=hb.1.2.2.2
  have hsm:=(pN.facts hm).2.2.2.2.2.1
  have hlen:w.toNat < b.bB.length:=by have:=hL.1;omega
  have hx:idx b.bB w=some b.bB[w.toNat]:=l6 hw.1 (by omega)
  have hrow:=hL.small.2.2.2 _ (List.getElem_mem hlen)
  have hmemL:b.bB[w.toNat]∈b.bB:=List.getElem_mem hlen
  have hset:=rR.drop hL hlen
  generalize b.bB[w.toNat]=l at hx hrow hset hmemL
  have done:∀y:Sub,∃x z,(some (b,y):Option (aD×Sub))=some (x,z)∧(some (y,b):Option (Sub×aD))=some (z,x)∧∃m' L,x=⟨m',b.aK,L,b.lZ⟩∧nN m'∧pN m'∧rR L∧∀r∈bT L,wA m' r.Handle∧r.aM≤b.aK.aM:=
    fun y=>⟨_,_,rfl,rfl,b.Mem,b.bB,rfl,hsm,hm,hL,hb.2⟩
  have hw1:bC ((l.Rows.length:Int) - 1)=(l.Rows.length:Int) - 1:=aR (by omega) (by omega)
  have hhas:FA b.bB w s.Row=some (decide (0≤s.Row∧s.Row≤(l.Rows.length:Int) - 1)):=by
    unfold FA BD
    rw [jW,bE hw,aI,if_pos rfl,hx,aI,dW,hw1];rfl
  unfold yA nC
  rw [hhas,hx]
  simp only [aI,cD,bY,hw1]
  have hat:∃a:Bool,(if decide (0≤s.Row∧s.Row≤(l.Rows.length:Int) - 1)=true then (idx l.Rows s.Row).bind fun x15=>eZ s b w (x15.Handle == s.H) else eZ s b w false)=eZ s b w a ∧
      (if (!decide (0≤s.Row∧s.Row≤(l.Rows.length:Int) - 1))=true then eN b s true else (idx l.Rows s.Row).bind fun x11=>eN b s (x11.Handle != s.H))=eN b s (!a) ∧
      (a=true→∃r,r∈l.Rows∧idx l.Rows s.Row=some r∧r.Handle=s.H∧0≤s.Row∧s.Row < l.Rows.length) ∧
      (a=false→∀f:b8→Option (aD×Sub),(if (!decide (0≤s.Row∧s.Row≤(l.Rows.length:Int) - 1))=true then eO b w s l true else (idx l.Rows s.Row).bind fun x=>if (x.Handle != s.H)=true then eO b w s l true else f x)=eO b w s l true):=by
    by_cases q:0≤s.Row∧s.Row≤(l.Rows.length:Int) - 1
    · have hr:idx l.Rows s.Row=some (l.Rows[s.Row.toNat]'(by omega)):=l6 q.1 (by omega)
      by_cases q2:(l.Rows[s.Row.toNat]'(by omega)).Handle=s.H
      · refine⟨true,?_,?_,fun _=>⟨_,List.getElem_mem _,hr,q2,q.1,by omega⟩,fun h=>by cases h⟩
        · rw [bE q,if_pos rfl,hr,aI,q2,beq_self_eq_true]
        · rw [bE q,if_neg (by simp),hr,aI,q2,bne_self_eq_false];rfl
      · have n1:((l.Rows[s.Row.toNat]'(by omega)).Handle == s.H)=false:=by simpa using q2
        have n2:((l.Rows[s.Row.toNat]'(by omega)).Handle != s.H)=true:=by simpa using q2
        refine⟨false,?_,?_,(fun h=>by cases h),fun _ f=>?_⟩
        · rw [bE q,if_pos rfl,hr,aI,n1]
        · rw [bE q,if_neg (by simp),hr,aI,n2];rfl
        · rw [bE q,if_neg (by simp),hr,aI,n2,if_pos rfl]
    · refine⟨false,?_,?_,(fun h=>by cases h),fun _ f=>?_⟩
      · rw [bL q,if_neg (by simp)]
      · rw [bL q,if_pos (by simp)];rfl
      · rw [bL q,if_pos (by simp)]
  obtain⟨a,ha1,ha2,ha3,ha4⟩:=hat
  rw [ha1,ha2]
  unfold eZ
  by_cases p0:s.Pc=0
  · simp only [p0,beq_self_eq_true,if_true];exact done _
  have p0':(s.Pc == 0)=false:=by simpa using p0
  simp only [p0',a9,if_false]
  by_cases p1:s.Pc=1
  · simp only [p1,beq_self_eq_true,if_true]
    rcases aTD hx (by omega) s with ⟨e1,e2⟩ | ⟨k,hk,e1,e2⟩
    · rw [e1,e2,aI,if_pos (by simp)];simp only [bI,p1,aI];exact done _
    · rw [e1,e2,aI,if_neg (by simp),aX hk];simp only [aI];exact done _
  have p1':(s.Pc == 1)=false:=by simpa using p1
  simp only [p1',a9,if_false]
  by_cases p2:s.Pc=2
  · simp only [p2,beq_self_eq_true,if_true,jW,aI]
    by_cases hB:0≤s.B∧s.B≤2
    · rw [bE hB]
      simp only [eF,a9,if_false,if_true]
      cases a with
      | true =>
        have hz:idx b.lZ s.B=some (b.lZ[s.B.toNat]'(by have:=hZ.1;omega)):=l6 hB.1 (by have:=hZ.1;omega)
        simp only [eN,d7,eF,a9,if_false,if_true,hz,aI,pZ]
        by_cases q:(b.lZ[s.B.toNat]'(by have:=hZ.1;omega))=s.H
        · simp only [q,beq_self_eq_true,if_true];exact done _
        · have q':((b.lZ[s.B.toNat]'(by have:=hZ.1;omega)) == s.H)=false:=by simpa using q
          simp only [q',a9,if_false]
          by_cases q3:bC (s.B+1)=3
          · simp only [q3,beq_self_eq_true,if_true];exact done _
          · have q3':(bC (s.B+1) == 3)=false:=by simpa using q3
            simp only [q3',a9,if_false];exact done _
      | false =>
        simp only [eN,d7,dI,cD,bI,kO,if_true,a9,if_false,p2,show((2:Int) == 3)=false from rfl,aI]
        exact done _
    · rw [bL hB]
      simp only [eN,d7,dI,cD,bI,kO,if_true,a9,if_false,p2,show((2:Int) == 3)=false from rfl,aI]
      exact done _
  have p2':(s.Pc == 2)=false:=by simpa using p2
  simp only [p2',a9,if_false,d7]
  by_cases p3:s.Pc=3
  · simp only [p3,beq_self_eq_true,if_true]
    cases a with
    | false =>
      rw [ha4 rfl]
      simp only [eO,dI,cD,bI,if_true,a9,if_false,aI]
      exact done _
    | true =>
      obtain⟨r,hrm,hr,hrH,r0,r1⟩:=ha3 rfl
      obtain⟨v,e1,e2⟩:=aMX r s.E
      rw [bE (show 0≤s.Row∧s.Row≤(l.Rows.length:Int) - 1 by omega)]
      simp only [eF,a9,if_false,if_true,hr,aI,hrH,bne_self_eq_false,hx,e1,e2]
      cases v with
      | false =>
        simp only [eO,dI,cD,bI,kO,if_true,a9,if_false,aI]
        exact done _
      | true =>
        have hlive:wA b.Mem s.H:=by
          have:r∈bT b.bB:=List.mem_flatMap.2 ⟨l,hmemL,hrm⟩
          have:=(hb.2 r this).1
          rwa [hrH] at this
        obtain⟨m',f1,f2,f3,f4⟩:=aMW hm hw hlive
        have ew:bC (s.Row+1)=s.Row+1:=aR (by omega) (by omega)
        have hdrop:HF b.bB w s.Row=some (b.bB.set w.toNat ⟨((cY l.Rows s.Row.toNat (l.Rows.drop (s.Row+1).toNat)).take (s.Row.toNat+(l.Rows.length - (s.Row+1).toNat))).drop 0⟩,true):=by
          unfold HF yN
          rw [L6 hL.small.2.2.1 (fun s h=>by have:=hL.small.2.2.2 s h;omega),yY hL.small.1,bE hL,hhas,bE (show 0≤s.Row∧s.Row≤(l.Rows.length:Int) - 1 by omega)]
          simp only [aI,eF,a9,if_false,hx,ew]
          unfold zE
          rw [aS (by omega),if_neg (by simp;omega),aS (by omega),aS (by omega),aS (by omega),aS]
          · rfl
          · rw [eV (by omega)]
            simp only [List.drop_zero,List.length_take,eV (show s.Row.toNat≤l.Rows.length by omega)]
            omega
        simp only [eO,dI,y7,ew,eF,a9,if_false,if_true]
        rw [aS (by omega),aS (by omega),aS (by omega),d5,if_pos hlive.1,aI,f1,f2,hdrop]
        have hk:s.Row.toNat < l.Rows.length:=by omega
        have eL:((cY l.Rows s.Row.toNat (l.Rows.drop (s.Row+1).toNat)).take (s.Row.toNat+(l.Rows.length - (s.Row+1).toNat))).drop 0=l.Rows.eraseIdx s.Row.toNat:=by
          rw [show(s.Row+1).toNat=s.Row.toNat+1 by omega];exact del_eq hk
        have er:l.Rows[s.Row.toNat]=r:=by
          have:=aX hk
          rw [show((s.Row.toNat:Nat):Int)=s.Row by omega,hr] at this
          exact(Option.some.inj this).symm
        rw [eL] at hdrop ⊢
        obtain⟨g1,g2⟩:=hset s.Row.toNat hk
        refine⟨_,_,rfl,rfl,m',_,rfl,f3,f4.1,g1,fun q hq=>?_⟩
        obtain⟨g3,g4⟩:=g2 q hq
        obtain⟨g5,g6⟩:=hb.2 q g3
        refine⟨f4.live g5 fun e=>?_,g6⟩
        rw [er,hrH] at g4
        exact g4 e
  · have p3':(s.Pc == 3)=false:=by simpa using p3
    simp only [p3',a9,if_false,dI,bI,aI]
    exact done _
end Go.Gv
end
noncomputable section
namespace Go.Gv
theorem GI.fits{b:aD}(h:GI b):b.Mem.aE.Bytes.length≤maxLen∧(d9 b.Mem.aB).length≤1073741824∧b.aK.bG.length≤maxLen∧b.bB.length≤maxLen∧(bT b.bB).length≤1073741824∧b.lZ.length≤maxLen:=by
  have hb:(1048576:Nat)≤maxLen:=by simp [maxLen]
  have g1:=h.1.1;have g2:=h.1.2.2.2.2;have g3:=h.2.1;have g4:=h.2.2.1;have g5:=h.2.2.2.1;have g6:=h.2.2.2.2
  exact⟨by omega,by omega,by omega,by omega,by omega,by omega⟩
theorem step_eq{b:aD}(hb:l9 b)(hs:GI b){w:Int}(hw:0≤w∧w≤2)(s:Sub) :
    ∃x y,tJ b w s=some (x,y)∧jJ s b w=some (y,x)∧l9 x:=by
  have hz:=hb.1.2.2.2.1
  have hl:=hb.1.2.2.1
  unfold tJ jJ
  cases hd:s.cQ with
  | true=>exact⟨_,_,rfl,rfl,hb⟩
  | false =>
    simp only [a9,if_false]
    by_cases k1:s.Kind=1
    · obtain⟨x,y,e1,e2,m,rfl,h1,h2⟩:=alloc_eq hb.1.1 hw s
      simp only [k1,beq_self_eq_true,if_true,e1,e2,aI]
      exact⟨_,_,rfl,rfl,⟨h2.1,hb.1.2⟩,fun r hr=>⟨h2.live (hb.2 r hr).1 (by have:=(hb.2 r hr).1.1;unfold rQ at this;omega),(hb.2 r hr).2⟩⟩
    have k1':(s.Kind == 1)=false:=by simpa using k1
    simp only [k1',a9,if_false]
    by_cases k2:s.Kind=2
    · obtain⟨x,y,e1,e2,L,rfl,h1,h2⟩:=aNM hb hs hw s
      simp only [k2,beq_self_eq_true,if_true,e1,e2,aI]
      exact⟨_,_,rfl,rfl,⟨hb.1.1,hb.1.2.1,h1,hb.1.2.2.2⟩,h2⟩
    have k2':(s.Kind == 2)=false:=by simpa using k2
    simp only [k2',a9,if_false]
    by_cases k3:s.Kind=3
    · obtain⟨x,y,e1,e2,c,rfl,h1,h2⟩:=aK6 hb.1.2.1 s
      simp only [k3,beq_self_eq_true,if_true,e1,e2,aI]
      exact⟨_,_,rfl,rfl,⟨hb.1.1,h1,hb.1.2.2⟩,fun r hr=>⟨(hb.2 r hr).1,Int.le_trans (hb.2 r hr).2 h2⟩⟩
    have k3':(s.Kind == 3)=false:=by simpa using k3
    simp only [k3',a9,if_false]
    by_cases k4:s.Kind=4
    · obtain⟨x,y,e1,e2,m,L,rfl,h1,h2,h3,h4⟩:=aLC hb hw s
      simp only [k4,beq_self_eq_true,if_true,e1,e2,aI]
      exact⟨_,_,rfl,rfl,⟨h2,hb.1.2.1,h3,hb.1.2.2.2⟩,h4⟩
    have k4':(s.Kind == 4)=false:=by simpa using k4
    simp only [k4',a9,if_false]
    by_cases k5:s.Kind=5
    · obtain⟨x,y,e1,e2,c,rfl,h1,h2⟩:=aVZ hb.1.2.1 hw s
      simp only [k5,beq_self_eq_true,if_true,e1,e2,aI]
      exact⟨_,_,rfl,rfl,⟨hb.1.1,h1,hb.1.2.2⟩,fun r hr=>⟨(hb.2 r hr).1,Int.le_trans (hb.2 r hr).2 h2⟩⟩
    have k5':(s.Kind == 5)=false:=by simpa using k5
    simp only [k5',a9,if_false,cD,bI,aI]
    exact⟨_,_,rfl,rfl,hb⟩
theorem l9.small{b:aD}(hb:l9 b):GI b:=by
  have h1:=hb.1.2.1.2.1;have h2:=hb.1.2.2.1.1;have h3:=hb.1.2.2.1.2.1;have h4:=hb.1.2.2.2.1
  exact⟨(pN.facts hb.1.1).2.2.2.2.2.1,by omega,by omega,by omega,by omega⟩
end Go.Gv
end
noncomputable section
namespace Go.Gv
theorem aBF{b:List Int}{a:Nat}{n:Int}(h:a+4≤b.length){j:Nat}(hj:j < a∨a+4≤j):bt (L7 b a n) j=bt b j:=by
  unfold L7
  rw [JG (by simp;omega),JG (by simp;omega),JG (by simp;omega),JG (by omega),if_neg (by omega),if_neg (by omega),if_neg (by omega),if_neg (by omega)]
theorem V8.put{h:aE}(hh:V8 h){s:Int}(hc:0≤bK h s){n:Int}(hn:0≤n∧n≤4294967295) :
    V8 ⟨L7 h.Bytes ((fU s (bK h s)).toNat+4) n,h.Class⟩∧∀t,0≤bK h t→nM ⟨L7 h.Bytes ((fU s (bK h s)).toNat+4) n,h.Class⟩ t=nM h t:=by
  obtain⟨hs,hp⟩:=hh
  have h384:=hs.1
  have hs':fN ⟨L7 h.Bytes ((fU s (bK h s)).toNat+4) n,h.Class⟩:=⟨by rw [WH];exact hs.1,hs.2.1,aNN hs.2.2.1 _ hn,hs.2.2.2⟩
  obtain⟨p,i,p6,hi,es,ec,eo,ep⟩:=CY hc
  have hcl:0≤b7 h p∧b7 h p≤2:=kU.1 (by omega)
  have hroom:8+i * (aW (b7 h p)).toNat+8≤64∧∀j,j < (cS (b7 h p)).toNat→j * (aW (b7 h p)).toNat+4≤i * (aW (b7 h p)).toNat+4∨i * (aW (b7 h p)).toNat+12≤j * (aW (b7 h p)).toNat:=by
    generalize b7 h p=c at hi hcl
    rcases fJ hcl with rfl | rfl | rfl
    · rw [show(cS 0).toNat=4 from rfl] at *;rw [show(aW 0).toNat=12 from rfl]
      exact⟨by omega,fun j hj=>by omega⟩
    · rw [show(cS 1).toNat=2 from rfl] at *;rw [show(aW 1).toNat=20 from rfl]
      exact⟨by omega,fun j hj=>by omega⟩
    · rw [show(cS 2).toNat=1 from rfl] at *;rw [show(aW 2).toNat=44 from rfl]
      exact⟨by omega,fun j hj=>by omega⟩
  have hgen:∀q j,q < 6→j < (cS (b7 h q)).toNat→ld (L7 h.Bytes ((fU s (bK h s)).toNat+4) n) (q * 64+8+j * (aW (b7 h q)).toNat) 4=ld h.Bytes (q * 64+8+j * (aW (b7 h q)).toNat) 4:=fun q j hq hj=>by
    have hz:=vX hs hq rfl hj
    refine SD (by omega) (by simp only [WH]) fun k k1 k2=>?_
    by_cases e:q=p
    · subst e
      have:=hroom.2 j hj
      exact aBF (by omega) (by omega)
    · exact aBF (by omega) (by omega)
  refine⟨⟨hs',fun q hq=>?_⟩,fun t ht=>?_⟩
  · rw [M6 hs' hq]
    have hold:=(M6 hs hq).1 (hp q hq)
    by_cases e:q=p
    · subst e
      have hcl':¬b7 h q < 0:=by omega
      unfold aAN at hold ⊢
      have hcc:b7 ⟨L7 h.Bytes ((fU s (bK h s)).toNat+4) n,h.Class⟩ q=b7 h q:=rfl
      rw [hcc]
      rw [if_neg hcl'] at hold ⊢
      obtain⟨⟨a1,a2,a3⟩,a4,a5⟩:=hold
      have bs:∀k,k < 8→bt (L7 h.Bytes ((fU s (bK h s)).toNat+4) n) (q * 64+k)=bt h.Bytes (q * 64+k):=fun k hk=>aBF (by omega) (by omega)
      have b0:=bs 0 (by omega);have b1:=bs 1 (by omega);have b2:=bs 2 (by omega)
      simp only [Nat.add_zero] at b0
      refine⟨⟨by rw [b0];exact a1,by rw [b1];exact a2,by rw [b2];exact a3⟩,fun k k3 k8=>by rw [bs k k8];exact a4 k k3 k8,fun j hj=>?_⟩
      rw [hgen q j hq hj];exact a5 j hj
    · refine aAN.same hq hs (by simp only [WH]) rfl (fun k hk=>aBF (by omega) (by omega)) hold
  · obtain⟨p',i',p6',hi',es',ec',eo',ep'⟩:=CY ht
    have e2:bK ⟨L7 h.Bytes ((fU s (bK h s)).toNat+4) n,h.Class⟩ t=bK h t:=rfl
    unfold nM
    rw [e2,eo']
    exact hgen p' i' p6' hi'
theorem pN.put{m:Mem}(hm:pN m){s:Int}(hc:0≤bK m.aE s){n:Int}(hn:0≤n∧n≤4294967295):wB m ⟨⟨L7 m.aE.Bytes ((fU s (bK m.aE s)).toNat+4) n,m.aE.Class⟩,m.aB⟩ (-1):=by
  obtain⟨a,b⟩:=V8.put hm.1.1 hc hn
  refine⟨pN.heap hm a fun x hx=>⟨rfl,b x (pN.RR hm hx).1⟩,fun t ht _=>?_⟩
  have ht':=rT.1 ht
  have e:=b t ht'.1
  exact⟨rT.2 ⟨ht'.1,ht'.2.1,by simp only [e];exact ht'.2.2⟩,e,rfl⟩
theorem start_eq{h:aE}(hs:fN h){s:Int}(hc:0≤bK h s):AR s (bK h s)=some (fU s (bK h s)+4)∧HH s (bK h s)=some (fU s (bK h s)+4):=by
  have hg:=ET hc
  unfold AR HH
  rw [sD,xM,aI,if_neg (by simp;omega),aR (by omega) (by omega)]
  exact⟨rfl,rfl⟩
theorem aD6{h:aE}(hs:fN h){s:Int}(hc:0≤bK h s):vQ h s 0 4=some (fU s (bK h s)+4):=by
  have hg:=ET hc
  have hc2:0≤bK h s∧bK h s≤2:=by
    obtain⟨_,q,e⟩:=CU hc
    rw [e];exact kU.1 (by omega)
  have hz:8≤gP (bK h s)∧gP (bK h s)≤40:=by rcases fJ hc2 with e | e | e <;> rw [e] <;> decide
  unfold vQ NO
  rw [kN hs,aI,(start_eq hs hc).2,aI,if_neg (by simp;omega),RC]
  simp only [aI,dW]
  rw [aR (x:=fU s (bK h s)+4+gP (bK h s)) (by omega) (by omega),aR (x:=fU s (bK h s)+4+gP (bK h s) - (fU s (bK h s)+4)) (by omega) (by omega),aR (x:=fU s (bK h s)+4+gP (bK h s) - (fU s (bK h s)+4) - 4) (by omega) (by omega),bE (by omega),aR (by omega) (by omega)]
  simp
theorem aJW{n:Int}(hn:0≤n∧n≤65535):∃t:List UInt8,y8 n 4=some t∧(t == [])=false:=by
  have st:∀(m:Int) (c:List UInt8) (i:Nat),c.length≤4→i < 4→0≤m→m≤4294967295→wQ 4 (m,c,(i:Int))=some (.next (m / 256,[u8 (m % 256)]++c,((i+1:Nat):Int))):=fun m c i hc hi h0 h1=>by
    simp only [wQ]
    rw [if_pos (by simp;omega),aS (by simp;omega),uK h0,FL h0,aR (x:=m / 256) (by omega) (by omega),aR (by omega) (by omega)];rfl
  unfold y8
  rw [bY]
  simp only [aI,show(decide ((1:Int)≤4∧(4:Int)≤7))=true from rfl,eF,a9,if_false,wR,bL (show ¬n < 0 by omega)]
  rw [show(0:Int)=((0:Nat):Int) from rfl,cM (st n [] 0 (by simp) (by omega) hn.1 (by omega)),cM (st _ _ 1 (by simp) (by omega) (by omega) (by omega)),cM (st _ _ 2 (by simp) (by omega) (by omega) (by omega)),cM (st _ _ 3 (by simp) (by omega) (by omega) (by omega)),cA (by simp only [wQ];rw [if_neg (by simp)])]
  simp only [aI,K6,K5]
  rw [if_neg (by simp;omega)]
  exact⟨_,rfl,rfl⟩
theorem aD7{m:Mem}(hm:pN m){h n:Int}(hn:0≤n∧n≤65535):∃x c,m5 m h 0 4 n=some (x,c)∧HI m h 0 4 n=some (x,c)∧wB m x (-1)∧(c≠0→x=m):=by
  obtain⟨hcnt,h3,h9,h1,h2,hsm,hcp,hlo,hsG,hsO⟩:=pN.facts hm
  have hs:=hm.1.1.1
  have hbl:m.aE.Bytes.length≤maxLen:=by rw [h1];simp [maxLen]
  have hall:(d9 m.aB).length≤1073741824:=by omega
  have hg:m.aB.Global.length≤maxLen:=by rw [h3];simp [maxLen]
  have ho:m.aB.bQ.length≤maxLen:=by rw [h9];simp [maxLen]
  have hw4:jI 4=some true:=by unfold jI;rw [dW];rfl
  unfold m5 HI JZ QD
  rw [FN hsm,YW hsm,LX hbl hall,TQ hbl hall,bE hm,bY,hw4,aDY ⟨hn.1,by omega⟩]
  simp only [aI,eF,a9,if_false,tL,BF,show(decide ((1:Int)≤4∧(4:Int)≤7))=true from rfl,rS hs hall hg ho,JE hs hall hg ho]
  by_cases hv:wA m h
  · have hh:=hv.1
    have hcl:=FM hv.2.1
    have hgo:=ET hcl
    have hc2:0≤bK m.aE (h % 32)∧bK m.aE (h % 32)≤2:=by
      obtain⟨_,q,e⟩:=CU hcl
      rw [e];exact kU.1 (by omega)
    have hz:8≤gP (bK m.aE (h % 32))∧gP (bK m.aE (h % 32))≤40:=by rcases fJ hc2 with e | e | e <;> rw [e] <;> decide
    obtain⟨p,i,p6,hi,es,ec,eo,ep⟩:=CY hcl
    have hroom:(fU (h % 32) (bK m.aE (h % 32))).toNat+8≤384:=by
      rw [eo]
      have hcl':0≤b7 m.aE p∧b7 m.aE p≤2:=by rw [←ec];exact hc2
      generalize b7 m.aE p=c at hi hcl'
      rcases fJ hcl' with rfl | rfl | rfl
      · rw [show(cS 0).toNat=4 from rfl] at hi;rw [show(aW 0).toNat=12 from rfl];omega
      · rw [show(cS 1).toNat=2 from rfl] at hi;rw [show(aW 1).toNat=20 from rfl];omega
      · rw [show(cS 2).toNat=1 from rfl] at hi;rw [show(aW 2).toNat=44 from rfl];omega
    simp only [bE hv,eF,a9,if_false,d5,if_pos hh,aI,i3 hs,CR,bY,hh.mod.1,aD6 hs hcl]
    rw [aR (x:=gP (bK m.aE (h % 32)) - 1) (by omega) (by omega),bE (show(0:Int)≤0∧(0:Int)≤gP (bK m.aE (h % 32)) - 1 by omega),aR (x:=gP (bK m.aE (h % 32)) - 0) (by omega) (by omega),bL (show ¬gP (bK m.aE (h % 32)) - 0 < 4 by omega)]
    simp only [eF,a9,if_false,tK,(start_eq hs hcl).1,aI]
    rw [aR (x:=fU (h % 32) (bK m.aE (h % 32))+4+0) (by omega) (by omega),Int.add_zero,bL (show ¬fU (h % 32) (bK m.aE (h % 32))+4 < 0 by omega)]
    have eo':fU (h % 32) (bK m.aE (h % 32))+4=(((fU (h % 32) (bK m.aE (h % 32))).toNat+4:Nat):Int):=by omega
    have hput:=pN.put hm hcl (n:=n) ⟨hn.1,by omega⟩
    have hspf:∃t:List UInt8,y8 n 4=some t∧(t == [])=false:=aJW hn
    obtain⟨t,ht1,ht2⟩:=hspf
    have hld:k9 m.aE.Bytes (((fU (h % 32) (bK m.aE (h % 32))).toNat+4:Nat):Int) 4=some (ld m.aE.Bytes ((fU (h % 32) (bK m.aE (h % 32))).toNat+4) 4):=yW hs.2.2.1 (w:=4) (by omega) (by omega) (by omega)
    rw [eo',hld]
    simp only [aI,a9,if_false,bne_self_eq_false,ht1,ht2,show(TU n == [])=false from rfl]
    rw [aGM (by omega) (by omega) ⟨hn.1,by omega⟩,aDZ (by omega) (by omega) ⟨hn.1,by omega⟩]
    exact⟨_,_,rfl,rfl,hput,fun q=>absurd rfl q⟩
  · simp only [bL hv,kO,if_true,aI,show((4:Int) != 0)=true from rfl]
    exact⟨_,_,rfl,rfl,wB.refl hm _,fun _=>rfl⟩
theorem aLD{b:aD}(hm:pN b.Mem)(h:Int):∃r,J1 b.Mem.aE h 0 4=some r∧HJ b h 0 4=some r:=by
  have hs:=hm.1.1.1
  have h1:=hs.1
  have hbl:b.Mem.aE.Bytes.length≤maxLen:=by rw [h1];simp [maxLen]
  have hw4:jI 4=some true:=by unfold jI;rw [dW];rfl
  unfold J1 HJ qB
  rw [fK,iD,bY,hw4,CT hbl,bE hs]
  simp only [aI,AS,rF,show(decide ((1:Int)≤4∧(4:Int)≤7))=true from rfl,eF,a9,if_false]
  by_cases hh:rQ h
  · simp only [bE hh,eF,a9,if_false,d5,if_pos hh,aI,i3 hs,kN hs,hh.mod.1]
    by_cases hcl:bK b.Mem.aE (h % 32) < 0
    · simp only [bE hcl,if_true,oN];exact⟨_,rfl,rfl⟩
    · have hcl':0≤bK b.Mem.aE (h % 32):=by omega
      have hgo:=ET hcl'
      have hc2:0≤bK b.Mem.aE (h % 32)∧bK b.Mem.aE (h % 32)≤2:=by
        obtain⟨_,q,e⟩:=CU hcl'
        rw [e];exact kU.1 (by omega)
      have hz:8≤gP (bK b.Mem.aE (h % 32))∧gP (bK b.Mem.aE (h % 32))≤40:=by rcases fJ hc2 with e | e | e <;> rw [e] <;> decide
      obtain⟨p,i,p6,hi,es,ec,eo,ep⟩:=CY hcl'
      have hroom:(fU (h % 32) (bK b.Mem.aE (h % 32))).toNat+8≤384:=by
        rw [eo]
        have hcl'':0≤b7 b.Mem.aE p∧b7 b.Mem.aE p≤2:=by rw [←ec];exact hc2
        generalize b7 b.Mem.aE p=c at hi hcl''
        rcases fJ hcl'' with rfl | rfl | rfl
        · rw [show(cS 0).toNat=4 from rfl] at hi;rw [show(aW 0).toNat=12 from rfl];omega
        · rw [show(cS 1).toNat=2 from rfl] at hi;rw [show(aW 1).toNat=20 from rfl];omega
        · rw [show(cS 2).toNat=1 from rfl] at hi;rw [show(aW 2).toNat=44 from rfl];omega
      simp only [bL hcl,a9,if_false,CR,bY,aI,aD6 hs hcl']
      rw [aR (x:=gP (bK b.Mem.aE (h % 32)) - 1) (by omega) (by omega),bE (show(0:Int)≤0∧(0:Int)≤gP (bK b.Mem.aE (h % 32)) - 1 by omega),aR (x:=gP (bK b.Mem.aE (h % 32)) - 0) (by omega) (by omega),bL (show ¬gP (bK b.Mem.aE (h % 32)) - 0 < 4 by omega)]
      simp only [eF,a9,if_false,oN,d5,if_pos hh,(start_eq hs hcl').1,aI]
      rw [aR (x:=fU (h % 32) (bK b.Mem.aE (h % 32))+4+0) (by omega) (by omega),Int.add_zero,bL (show ¬fU (h % 32) (bK b.Mem.aE (h % 32))+4 < 0 by omega)]
      have eo':fU (h % 32) (bK b.Mem.aE (h % 32))+4=(((fU (h % 32) (bK b.Mem.aE (h % 32))).toNat+4:Nat):Int):=by omega
      have hld:k9 b.Mem.aE.Bytes (((fU (h % 32) (bK b.Mem.aE (h % 32))).toNat+4:Nat):Int) 4=some (ld b.Mem.aE.Bytes ((fU (h % 32) (bK b.Mem.aE (h % 32))).toNat+4) 4):=yW hs.2.2.1 (w:=4) (by omega) (by omega) (by omega)
      have hls:sY b.Mem.aE.Bytes (((fU (h % 32) (bK b.Mem.aE (h % 32))).toNat+4:Nat):Int) 4=some (ld b.Mem.aE.Bytes ((fU (h % 32) (bK b.Mem.aE (h % 32))).toNat+4) 4):=I8 hs.2.2.1 (w:=4) (by omega) (by omega) (by omega)
      rw [eo',hld,hls]
      exact⟨_,rfl,rfl⟩
  · simp only [bL hh,kO,if_true];exact⟨_,rfl,rfl⟩
end Go.Gv
end
noncomputable section
namespace Go.Gv
theorem aJX{l:List eM}(hl:l.length≤maxLen)(f:eM→Bool)(g:eM→Option Bool)(hg:∀x∈l,g x=some (f x)):lC l g=some (l.any f):=by
  obtain⟨o,e,h⟩:=JD l f (body:=lB l g) (fun k hk=>by
    simp only [lB]
    rw [if_pos (by simp;omega),aX hk,gX (mF hk hl)]
    simp only [aI,hg _ (List.getElem_mem hk)]) (by simp [lB])
  unfold lC wD
  rw [e]
  cases o with
  | brk u=>simp only at h;simp [qF,A3,h]
  | ret r=>simp only at h;simp [qF,h]
theorem RS{l:List Queue}(hl:l.length≤maxLen)(f:Queue→Bool)(g:Queue→Option Bool)(hg:∀x∈l,g x=some (f x)):gI l g=some (l.any f):=by
  obtain⟨o,e,h⟩:=JD l f (body:=i4 l g) (fun k hk=>by
    simp only [i4]
    rw [if_pos (by simp;omega),aX hk,gX (mF hk hl)]
    simp only [aI,hg _ (List.getElem_mem hk)]) (by simp [i4])
  unfold gI p8
  rw [e]
  cases o with
  | brk u=>simp only at h;simp [mG,v5,h]
  | ret r=>simp only at h;simp [mG,h]
theorem WL{l:List bX}(hl:l.length≤maxLen)(f:bX→Bool)(g:bX→Option Bool)(hg:∀x∈l,g x=some (f x)):hU l g=some (l.any f):=by
  obtain⟨o,e,h⟩:=JD l f (body:=jZ l g) (fun k hk=>by
    simp only [jZ]
    rw [if_pos (by simp;omega),aX hk,gX (mF hk hl)]
    simp only [aI,hg _ (List.getElem_mem hk)]) (by simp [jZ])
  unfold hU tM
  rw [e]
  cases o with
  | brk u=>simp only at h;simp [oR,zR,h]
  | ret r=>simp only at h;simp [oR,h]
def CZ(k:Int):Prop:=k=1∨k=2∨k=3∨k=7
instance (k:Int):Decidable (CZ k):=by unfold CZ;infer_instance
def mA(o:eM):Prop:=(1≤o.Kind∧o.Kind≤7)∧(CZ o.Kind∨o.Cell=0)∧(0≤o.Cell∧o.Cell≤1)∧if o.Kind=1 then (0≤o.eR∧o.eR≤100)∧0≤o.eS∧o.eS≤65535 else o.eR=0∧o.eS=0
instance (o:eM):Decidable (mA o):=by unfold mA;infer_instance
theorem hb0(x:Int):(x == 0)=decide (x=0):=by rw [Bool.eq_iff_iff];simp
theorem aLE:CZ 1:=.inl rfl
theorem aGR(k:Int):tF k=some (decide (CZ k)):=by
  unfold tF jY CZ
  by_cases h1:k=1
  · simp [h1]
  · by_cases h2:k=2
    · simp [h2]
    · by_cases h3:k=3
      · simp [h3]
      · by_cases h7:k=7
        · simp [h7]
        · simp [h1,h2,h3,h7]
theorem WM(o:eM):HY o=some (decide (mA o)):=by
  unfold HY AE GX GY mA
  rw [bY,aGR,bY,bY,bY]
  by_cases h1:1≤o.Kind∧o.Kind≤7
  · by_cases h2:CZ o.Kind
    · by_cases h3:0≤o.Cell∧o.Cell≤1
      · by_cases h4:o.Kind=1
        · by_cases h5:0≤o.eR∧o.eR≤100 <;> simp [h1,h2,h3,h4,h5,aLE] <;> exact hb0 _
        · by_cases h5:o.eR=0 <;> simp [h1,h2,h3,h4,h5,aLE] <;> exact hb0 _
      · simp [h1,h2,h3]
    · by_cases h0:o.Cell=0
      · by_cases h4:o.Kind=1
        · exact absurd (.inl h4) h2
        · by_cases h5:o.eR=0 <;> simp [h1,h2,h0,h4,h5,aLE] <;> exact hb0 _
      · simp [h1,h2,h0]
  · simp [h1]
theorem WN(o:eM):H0 o=some (decide (mA o)):=by
  have key:∀x,m9 o x=if 1≤o.Kind∧o.Kind≤7 then (if x then some (decide ((0≤o.Cell∧o.Cell≤1)∧if o.Kind=1 then (0≤o.eR∧o.eR≤100)∧0≤o.eS∧o.eS≤65535 else o.eR=0∧o.eS=0):Bool) else some (decide (o.Cell=0∧if o.Kind=1 then (0≤o.eR∧o.eR≤100)∧0≤o.eS∧o.eS≤65535 else o.eR=0∧o.eS=0))) else some false:=fun x=>by
    unfold m9 A4 G8 G9
    rw [dW,dW,dW,dW]
    by_cases h1:1≤o.Kind∧o.Kind≤7
    · cases x
      · by_cases h0:o.Cell=0
        · by_cases h4:o.Kind=1
          · by_cases h5:0≤o.eR∧o.eR≤100 <;> simp [h1,h0,h4,h5,aLE] <;> exact hb0 _
          · by_cases h5:o.eR=0 <;> simp [h1,h0,h4,h5,aLE] <;> exact hb0 _
        · simp [h1,h0]
      · by_cases h3:0≤o.Cell∧o.Cell≤1
        · by_cases h4:o.Kind=1
          · by_cases h5:0≤o.eR∧o.eR≤100 <;> simp [h1,h3,h4,h5,aLE] <;> exact hb0 _
          · by_cases h5:o.eR=0 <;> simp [h1,h3,h4,h5,aLE] <;> exact hb0 _
        · simp [h1,h3]
    · simp [h1]
  have key2:H0 o=m9 o (decide (CZ o.Kind)):=by
    unfold H0 CZ
    by_cases h1:o.Kind=1
    · simp [h1]
    · by_cases h2:o.Kind=2
      · simp [h2]
      · by_cases h3:o.Kind=3
        · simp [h3]
        · have h7:(o.Kind == 7)=decide (o.Kind=1∨o.Kind=2∨o.Kind=3∨o.Kind=7):=by rw [Bool.eq_iff_iff];simp [h1,h2,h3]
          rw [if_neg (by simpa using h1),if_neg (by simpa using h2),if_neg (by simpa using h3),h7]
  rw [key2,key]
  unfold mA
  by_cases h1:1≤o.Kind∧o.Kind≤7
  · by_cases h2:CZ o.Kind
    · simp only [h1,h2,and_self,decide_true,if_true,true_or,true_and]
    · by_cases h0:o.Cell=0
      · simp [h1,h2,h0]
      · simp [h1,h2,h0]
  · simp [h1]
theorem WO(h:Int):gY h=some (decide (dK h)):=by
  unfold gY xX dK
  rw [fK]
  by_cases q:h=0 <;> simp [q]
theorem OG(h:Int):pP h=some (decide (dK h)):=by
  unfold pP tT dK
  rw [iD]
  by_cases q:h=0 <;> simp [q]
def aJY(l:List eM):Prop:=∀o∈l,mA o
instance (l:List eM):Decidable (aJY l):=by unfold aJY;infer_instance
def QOk(q:Queue):Prop:=q.gH.length≤12∧aJY q.gH
instance (q:Queue):Decidable (QOk q):=by unfold QOk;infer_instance
def RT(l:List Queue):Prop:=l.length=3∧∀q∈l,QOk q
instance (l:List Queue):Decidable (RT l):=by unfold RT;infer_instance
theorem WQ{l:List Queue}(hl:l.length≤maxLen):AF l=some (decide (RT l)):=by
  unfold AF
  have inner:∀k (hk:k < l.length),l[k].gH.length≤12→loop (mO l (k:Int)) 0=some (if aJY l[k].gH then Out.brk () else Out.ret false):=by
    intro k hk h12
    have hb:∀j (hj:j < l[k].gH.length),mO l (k:Int) (j:Int)=if mA l[k].gH[j] then some (.next ((j+1:Nat):Int)) else some (.stop (Out.ret false)):=by
      intro j hj
      simp only [mO]
      rw [aX hk,aI,if_pos (by simp;omega),aI,aX hj,aI,WM,aI,aR (by omega) (by omega)]
      by_cases q:mA l[k].gH[j] <;> simp [q]
    have:=iC (f:=mO l (k:Int)) l[k].gH (fun j=>(j:Int)) mA (Out.brk ()) (Out.ret false) (fun j hj hp=>by rw [hb j hj,if_pos hp]) (fun j hj hp=>by rw [hb j hj,if_neg hp]) (by
      simp only [mO]
      rw [aX hk,aI,if_neg (by simp)])
    refine Eq.trans this ?_
    congr 1
  have hs:∀k (hk:k < l.length),mP l (k:Int)=if QOk l[k] then some (.next ((k+1:Nat):Int)) else some (.stop (Out.ret false)):=by
    intro k hk
    simp only [mP]
    rw [if_pos (by simp;omega),aX hk,aI]
    by_cases h12:l[k].gH.length≤12
    · rw [if_neg (by simp;omega),inner k hk h12]
      by_cases q:aJY l[k].gH
      · rw [if_pos q,if_pos ⟨h12,q⟩]
        simp only [aI,OQ,OO]
        rw [gX (mF hk hl)]
      · rw [if_neg q,if_neg (fun a=>q a.2)];rfl
    · rw [if_pos (by simp;omega),if_neg (fun a=>h12 a.1)]
  have key:loop (mP l) 0=_:=iC (f:=mP l) l (fun k=>(k:Int)) QOk (Out.brk ()) (Out.ret false) (fun k hk hp=>by rw [hs k hk,if_pos hp]) (fun k hk hp=>by rw [hs k hk,if_neg hp]) (by simp [mP])
  rw [key]
  by_cases q:∀x∈l,QOk x
  · rw [if_pos q]
    simp only [aI,OR,ON]
    congr 1;rw [Bool.eq_iff_iff];simp only [beq_iff_eq,decide_eq_true_eq]
    exact⟨fun a=>⟨by omega,q⟩,fun a=>by have:=a.1;omega⟩
  · rw [if_neg q,bL (show ¬RT l from fun a=>q a.2)];rfl
theorem WR{l:List Queue}(hl:l.length≤maxLen)(hq:∀q∈l,q.gH.length≤maxLen):E9 l=some (decide (RT l)):=by
  have e1:∀q∈l,D5 q=some (!decide (QOk q)):=by
    intro q hm
    unfold D5 vI
    have e:∀x∈q.gH,yI x=some (!decide (mA x)):=fun x _=>by
      unfold yI;rw [WN];rfl
    rw [aJX (hq q hm) (fun x=>!decide (mA x)) _ e,ES]
    by_cases h:q.gH.length≤12
    · rw [if_neg (by simp;omega)]
      by_cases h2:∀x∈q.gH,mA x
      · rw [bE h2,bE (show QOk q from ⟨h,h2⟩)];rfl
      · rw [bL h2,bL (show ¬QOk q from fun a=>h2 a.2)];rfl
    · rw [if_pos (by simp;omega),bL (show ¬QOk q from fun a=>h a.1)];rfl
  unfold E9 A5
  rw [RS hl (fun q=>!decide (QOk q)) _ e1,ES]
  by_cases h:l.length=3
  · rw [if_pos (by simp;omega)]
    by_cases h2:∀x∈l,QOk x
    · rw [bE h2,bE (show RT l from ⟨h,h2⟩)];rfl
    · rw [bL h2,bL (show ¬RT l from fun a=>h2 a.2)];rfl
  · rw [if_neg (by simp;omega),bL (show ¬RT l from fun a=>h a.1)]
def aGS:bX:=⟨false,⟨0,0,0,0⟩,0,0,⟨0,0,0,0,0,0,0,0,0,false⟩,0,0,0,0⟩
def JOk(j:bX):Prop:=if j.gG then mA j.Op∧dK j.H∧dK j.Old else j=aGS
instance (j:bX):Decidable (JOk j):=by unfold JOk;infer_instance
theorem JH{j:bX}(hb:j.gG=true):JOk j↔mA j.Op∧dK j.H∧dK j.Old:=by unfold JOk;rw [if_pos hb]
theorem RU{j:bX}(hb:j.gG=false):JOk j↔j=aGS:=by unfold JOk;rw [if_neg (by simp [hb])]
theorem aJZ(j:bX):NL j=some (decide (JOk j)):=by
  unfold NL wZ
  rw [WN,OG,OG]
  cases hb:j.gG
  · rw [show decide (JOk j)=decide (j=aGS) from decide_eq_decide.2 (RU hb)];rfl
  · rw [show decide (JOk j)=decide (mA j.Op∧dK j.H∧dK j.Old) from decide_eq_decide.2 (JH hb)]
    by_cases h1:mA j.Op
    · by_cases h2:dK j.H <;> simp [h1,h2]
    · simp [h1]
def uN(s:aC):Prop:=l9 s.aD∧s.Cells.length=2∧s.aT.length=3∧RT s.cZ∧(0≤s.aQ∧s.aQ≤1000000)∧(∀h∈s.Cells,dK h)∧∀j∈s.aT,JOk j
instance (s:aC):Decidable (uN s):=by unfold uN;infer_instance
noncomputable section
variable {s:aC} (hf:s.aD.Mem.aE.Bytes.length≤maxLen∧(d9 s.aD.Mem.aB).length≤1073741824∧s.aD.aK.bG.length≤maxLen∧s.aD.bB.length≤maxLen∧(bT s.aD.bB).length≤1073741824∧s.aD.lZ.length≤maxLen) (ht:s.cZ.length≤maxLen) (hq:∀q∈s.cZ,q.gH.length≤maxLen) (hcl:s.Cells.length≤maxLen) (hjl:s.aT.length≤maxLen)
include hf ht
theorem aAO:m3 s=some (decide (uN s)):=by
  unfold m3 kD
  rw [RN hf,WQ ht,bY]
  by_cases h1:l9 s.aD
  · by_cases h2:s.Cells.length=2
    · by_cases h3:s.aT.length=3
      · by_cases h4:RT s.cZ
        · by_cases h5:0≤s.aQ∧s.aQ≤1000000
          · have c2:((s.Cells.length:Int) != 2)=false:=by simp;omega
            have c3:((s.aT.length:Int) != 3)=false:=by simp;omega
            simp only [bE h1,bE h4,bE h5,c2,c3,aI,eF,a9,if_false]
            have k2:loop (mR s) 0=some (if ∀h∈s.Cells,dK h then Out.brk () else Out.ret false):=by
              have hb:∀k (hk:k < s.Cells.length),mR s (k:Int)=if dK s.Cells[k] then some (.next ((k+1:Nat):Int)) else some (.stop (Out.ret false)):=fun k hk=>by
                simp only [mR]
                rw [if_pos (by simp;omega),aX hk,aI,WO,aI,aR (by omega) (by omega)]
                by_cases q:dK s.Cells[k] <;> simp [q]
              exact iC (f:=mR s) s.Cells (fun k=>(k:Int)) dK _ _ (fun k hk hp=>by rw [hb k hk,if_pos hp]) (fun k hk hp=>by rw [hb k hk,if_neg hp]) (by simp [mR,h2])
            have k3:loop (mQ s) 0=some (if ∀j∈s.aT,JOk j then Out.brk () else Out.ret false):=by
              have hb:∀k (hk:k < s.aT.length),mQ s (k:Int)=if JOk s.aT[k] then some (.next ((k+1:Nat):Int)) else some (.stop (Out.ret false)):=fun k hk=>by
                simp only [mQ]
                rw [if_pos (by simp;omega),aX hk]
                generalize s.aT[k]=j
                simp only [aI,eD,WM,WO,aR (show -9223372036854775808≤(k:Int)+1 by omega) (show(k:Int)+1≤9223372036854775807 by omega)]
                cases hb:j.gG
                · by_cases e:j=aGS
                  · have a1:dK j.H:=by rw [e];exact .inl rfl
                    have a2:dK j.Old:=by rw [e];exact .inl rfl
                    have e':j=(⟨false,(⟨0,0,0,0⟩:eM),0,0,(⟨0,0,0,0,0,0,0,0,0,false⟩:Sub),0,0,0,0⟩:bX):=e
                    simp only [kO,if_true,bE e',eF,a9,if_false,bE a1,bE a2,if_pos ((RU hb).2 e)];rfl
                  · have e':¬j=(⟨false,(⟨0,0,0,0⟩:eM),0,0,(⟨0,0,0,0,0,0,0,0,0,false⟩:Sub),0,0,0,0⟩:bX):=e
                    simp only [kO,if_true,bL e',a9,if_false,if_neg (fun q=>e ((RU hb).1 q))]
                · by_cases a0:mA j.Op
                  · by_cases a1:dK j.H
                    · by_cases a2:dK j.Old <;> simp [a0,a1,a2,JH hb]
                    · simp [a0,a1,JH hb]
                  · simp [a0,JH hb]
              exact iC (f:=mQ s) s.aT (fun k=>(k:Int)) JOk _ _ (fun k hk hp=>by rw [hb k hk,if_pos hp]) (fun k hk hp=>by rw [hb k hk,if_neg hp]) (by simp [mQ,h3])
            rw [k2]
            by_cases q2:∀h∈s.Cells,dK h
            · rw [if_pos q2]
              simp only [aI,OT,OS]
              rw [k3]
              by_cases q3:∀j∈s.aT,JOk j
              · rw [if_pos q3,bE (show uN s from ⟨h1,h2,h3,h4,h5,q2,q3⟩)];rfl
              · rw [if_neg q3,bL (fun a:uN s=>q3 a.2.2.2.2.2.2)];rfl
            · rw [if_neg q2,bL (fun a:uN s=>q2 a.2.2.2.2.2.1)];rfl
          · rw [bL (fun a:uN s=>h5 a.2.2.2.2.1)]
            simp [h1,h2,h3,h4,h5]
        · rw [bL (fun a:uN s=>h4 a.2.2.2.1)]
          simp [h1,h2,h3,h4]
      · rw [bL (fun a:uN s=>h3 a.2.2.1)]
        have c3:((s.aT.length:Int) != 3)=true:=by simp;omega
        simp [h1,h2,h3,c3]
    · rw [bL (fun a:uN s=>h2 a.2.1)]
      have c2:((s.Cells.length:Int) != 2)=true:=by simp;omega
      simp [h1,h2,c2]
  · rw [bL (fun a:uN s=>h1 a.1)];simp [h1]
include hq hcl hjl
theorem aAP:qG s=some (decide (uN s)):=by
  have e1:tV=fun x=>some (!decide (dK x)):=funext fun x=>by unfold tV;rw [OG];rfl
  have e2:∀x∈s.aT,A6 x=some (!decide (JOk x)):=fun x _=>by unfold A6;rw [aJZ];rfl
  unfold qG g7
  rw [aDX hf,WR ht hq,dW,show(fun y0=>tV y0)=fun x=>some (!decide (dK x)) from e1,CS hcl,ES,WL hjl _ _ e2,ES]
  by_cases h1:l9 s.aD
  · by_cases h2:s.Cells.length=2
    · by_cases h3:s.aT.length=3
      · have c2:((s.Cells.length:Int) == 2)=true:=by simp;omega
        have c3:((s.aT.length:Int) == 3)=true:=by simp;omega
        by_cases h4:RT s.cZ
        · by_cases h5:0≤s.aQ∧s.aQ≤1000000
          · by_cases q2:∀h∈s.Cells,dK h
            · by_cases q3:∀j∈s.aT,JOk j
              · rw [bE (show uN s from ⟨h1,h2,h3,h4,h5,q2,q3⟩)]
                simp only [bE h1,bE h4,bE h5,bE q2,bE q3,c2,c3,aI,eF,kO,a9,if_false,if_true]
              · rw [bL (fun a:uN s=>q3 a.2.2.2.2.2.2)]
                simp only [bE h1,bE h4,bE h5,bE q2,bL q3,c2,c3,aI,eF,kO,a9,if_false,if_true]
            · rw [bL (fun a:uN s=>q2 a.2.2.2.2.2.1)]
              simp only [bE h1,bE h4,bE h5,bL q2,c2,c3,aI,eF,kO,a9,if_false,if_true]
          · rw [bL (fun a:uN s=>h5 a.2.2.2.2.1)]
            simp only [bE h1,bE h4,bL h5,c2,c3,aI,a9,if_false,if_true]
        · rw [bL (fun a:uN s=>h4 a.2.2.2.1)]
          simp only [bE h1,bL h4,c2,c3,aI,a9,if_false,if_true]
      · rw [bL (fun a:uN s=>h3 a.2.2.1)]
        have c2:((s.Cells.length:Int) == 2)=true:=by simp;omega
        have c3:((s.aT.length:Int) == 3)=false:=by simp;omega
        simp only [bE h1,c2,c3,aI,a9,if_false,if_true]
    · rw [bL (fun a:uN s=>h2 a.2.1)]
      have c2:((s.Cells.length:Int) == 2)=false:=by simp;omega
      simp only [bE h1,c2,aI,a9,if_false,if_true]
  · rw [bL (fun a:uN s=>h1 a.1)];simp only [bL h1,aI,a9,if_false]
end
end Go.Gv
end
noncomputable section
namespace Go.Gv
theorem JJ{α:Type}{l:List α}{w:Int}(h0:0≤w)(h1:w < l.length)(x:α):idx (l.set w.toNat x) w=some x:=by
  unfold idx
  rw [if_pos h0,List.getElem?_set_self (by omega)]
theorem fO{a b:Int}(h:¬a=b):(a == b)=false:=by simpa using h
theorem OH{a b:Int}(h:¬a=b):(a != b)=true:=by simpa using h
theorem WS{c:aK}(hc:PF c){w:Int}(hw:0≤w∧w≤2):∃r,y9 c w=some r∧NP c w=some r∧PF r.1∧r.1.aM=c.aM:=by
  obtain⟨p,hp,hpk⟩:=X6 hc hw
  unfold y9 NP
  rw [xQ hc.small.1,xR hc.small.1,rO,rP hc.small.2,jW,bY,bE hc,bE hw]
  simp only [aI,eF,a9,if_false,hp,wT,xD]
  cases p.On with
  | true =>
    simp only [eF,a9,if_false]
    have h0:=hc.1
    exact⟨_,rfl,rfl,hc.aH8 ⟨by simp only;omega,by simp,fun _=>rfl⟩,rfl⟩
  | false=>simp only [kO,if_true];exact⟨_,rfl,rfl,hc,rfl⟩
theorem LY.set{z:List Int}(hz:LY z)(k:Nat){h:Int}(hh:dK h):LY (z.set k h):=⟨by simpa using hz.1,fun q hq=>(List.mem_or_eq_of_mem_set hq).elim (hz.2 q) (fun e=>e ▸ hh)⟩
theorem UK{z:List Int}(hz:LY z){w:Int}(hw:0≤w∧w≤2)(h:Int):∃r,vD z w h=some r∧HK z w h=some r∧LY r.1:=by
  have h3:=hz.1
  have hx:idx z w=some (z[w.toNat]'(by omega)):=l6 hw.1 (by omega)
  unfold vD HK
  rw [DM (by omega),nF (by omega),LZ (by simp only [maxLen];omega),L4 (by simp only [maxLen];omega),bE hz,bY,jW,bE hw,fK,iD]
  simp only [aI,eF,a9,if_false,rA,rH,hx]
  by_cases q:rQ h
  · simp only [bE q,eF,a9,if_false];exact⟨_,rfl,rfl,hz.set _ (.inr q)⟩
  · simp only [bL q,kO,if_true];exact⟨_,rfl,rfl,hz⟩
theorem aJ0{z:List Int}(hz:LY z){w:Int}(hw:0≤w∧w≤2):∃r,IH z w=some r∧NQ z w=some r∧LY r.1:=by
  have h3:=hz.1
  have hx:idx z w=some (z[w.toNat]'(by omega)):=l6 hw.1 (by omega)
  unfold IH NQ
  rw [DM (by omega),nF (by omega),LZ (by simp only [maxLen];omega),L4 (by simp only [maxLen];omega),bE hz,bY,jW,bE hw]
  simp only [aI,eF,a9,if_false,wU,xE,hx]
  by_cases q:(z[w.toNat]'(by omega))=0
  · simp only [q,beq_self_eq_true,if_true];exact⟨_,rfl,rfl,hz⟩
  · simp only [fO q,a9,if_false];exact⟨_,rfl,rfl,hz.set _ (.inl rfl)⟩
theorem l9.clock{b:aD}(hb:l9 b){cl:aK}(h:PF cl)(e:b.aK.aM≤cl.aM):l9 ⟨b.Mem,cl,b.bB,b.lZ⟩:=⟨⟨hb.1.1,h,hb.1.2.2⟩,fun r hr=>⟨(hb.2 r hr).1,Int.le_trans (hb.2 r hr).2 e⟩⟩
theorem l9.haz{b:aD}(hb:l9 b){z:List Int}(h:LY z):l9 ⟨b.Mem,b.aK,b.bB,z⟩:=⟨⟨hb.1.1,hb.1.2.1,hb.1.2.2.1,h⟩,hb.2⟩
theorem l9.mem{b:aD}(hb:l9 b){m:Mem}(h:wB b.Mem m (-1)):l9 ⟨m,b.aK,b.bB,b.lZ⟩:=⟨⟨h.1,hb.1.2⟩,fun r hr=>⟨h.live (hb.2 r hr).1 (by have:=(hb.2 r hr).1.1;unfold rQ at this;omega),(hb.2 r hr).2⟩⟩
theorem uN.put{s:aC}(hs:uN s){w:Int}{b:aD}(hb:l9 b){c:List Int}(hc:c.length=2∧∀h∈c,dK h){j:bX}(hj:JOk j)(l:List Ev):uN ⟨b,c,s.aT.set w.toNat j,s.cZ,l,s.aQ⟩:=
  ⟨hb,hc.1,by simpa using hs.2.2.1,hs.2.2.2.1,hs.2.2.2.2.1,hc.2,fun q hq=>(List.mem_or_eq_of_mem_set hq).elim (hs.2.2.2.2.2.2 q) (fun e=>e ▸ hj)⟩
theorem cX{j:bX}(h:j.gG=true)(h1:mA j.Op∧dK j.H∧dK j.Old):JOk j:=(JH h).2 h1
noncomputable section
variable {s:aC} (hs:uN s) (hl:s.Log.length≤1000000000) {w:Int} (hw:0≤w∧w≤2) {j:bX} (hj:idx s.aT w=some j) (hb:j.gG=true) (hjo:mA j.Op∧dK j.H∧dK j.Old)
include hs hl hw hj hb hjo
theorem aV3(hk:j.Op.Kind=1):∃x,((J0 s w j).bind fun q=>eA w q.1 q.2)=some x∧BJ s w=some x∧uN x∧x.Log.length≤s.Log.length+1:=by
  have h3:=hs.2.2.1
  have hset:∀x,idx (s.aT.set w.toNat x) w=some x:=JJ hw.1 (by omega)
  have hn:∀(e:Ev) {α:Type} (k:Option α),need (s.Log.length + [e].length≤1073741824) k=k:=fun e _ k=>aS (by simp;omega) k
  have hcs:s.Cells.length=2∧∀h∈s.Cells,dK h:=⟨hs.2.1,hs.2.2.2.2.2.1⟩
  have hcell:idx s.Cells j.Op.Cell=some (s.Cells[j.Op.Cell.toNat]'(by have:=hjo.1.2.2.1;omega)):=l6 hjo.1.2.2.1.1 (by have:=hjo.1.2.2.1;omega)
  have hcm:dK (s.Cells[j.Op.Cell.toNat]'(by have:=hjo.1.2.2.1;omega)):=hcs.2 _ (List.getElem_mem _)
  generalize (s.Cells[j.Op.Cell.toNat]'(by have:=hjo.1.2.2.1;omega))=cell at hcell hcm
  have hval:0≤j.Op.eS∧j.Op.eS≤65535:=by have:=hjo.1.2.2.2;rw [if_pos hk] at this;exact this.2
  unfold J0 BJ
  rw [hj]
  simp only [aI,bS,bP,dE,eA,eH,iX]
  by_cases p0:j.Pc=0
  · obtain⟨x,y,e1,e2,hx⟩:=step_eq hs.1 hs.1.small hw j.Sub
    simp only [p0,beq_self_eq_true,if_true,e1,e2,aI]
    cases hd:y.cQ with
    | false=>simp only [kO,if_true,aI,hj];exact⟨_,rfl,rfl,hs.put hx hcs (by exact cX hb hjo) _,Nat.le_succ _⟩
    | true =>
      simp only [eF,a9,if_false]
      by_cases c0:y.Code=0
      · simp only [c0,bne_self_eq_false,a9,if_false,fK,iD,aI]
        by_cases o0:rQ y.Out
        · simp only [bE o0,eF,a9,if_false,aI,hj];exact⟨_,rfl,rfl,hs.put hx hcs (by exact cX hb ⟨hjo.1,.inr o0,hjo.2.2⟩) _,Nat.le_succ _⟩
        · simp only [bL o0,kO,if_true,aI,hj];exact⟨_,rfl,rfl,hs.put hx hcs (by exact cX hb hjo) _,Nat.le_succ _⟩
      · simp only [OH c0,if_true,aI,hj];exact⟨_,rfl,rfl,hs.put hx hcs (by exact cX hb hjo) _,Nat.le_succ _⟩
  simp only [fO p0,a9,if_false]
  by_cases p1:j.Pc=1
  · obtain⟨x,c,e1,e2,h1,h2⟩:=aD7 hs.1.1.1 (h:=j.H) hval
    simp only [p1,beq_self_eq_true,if_true,e1,e2,aI,BG,hj,bP,dE]
    by_cases c0:c=0
    · simp only [c0,bne_self_eq_false,a9,if_false,aI,hj];exact⟨_,rfl,rfl,hs.put (hs.1.mem h1) hcs (by exact cX hb hjo) _,Nat.le_succ _⟩
    · have:=h2 c0
      subst this
      simp only [OH c0,if_true,aI,hj];exact⟨_,rfl,rfl,hs.put hs.1 hcs (by exact cX hb hjo) _,Nat.le_succ _⟩
  simp only [fO p1,a9,if_false]
  by_cases p2:j.Pc=2
  · have hc2:(s.Cells.set j.Op.Cell.toNat j.H).length=2∧∀h∈s.Cells.set j.Op.Cell.toNat j.H,dK h:=⟨by simpa using hcs.1,fun q hq=>(List.mem_or_eq_of_mem_set hq).elim (hcs.2 q) (fun e=>e ▸ hjo.2.1)⟩
    simp only [p2,beq_self_eq_true,if_true,hcell,aI,hset,hn,BI,dA,dL,BH,bP,dE,iX]
    by_cases c0:cell=0
    · simp only [c0,beq_self_eq_true,if_true,aI,hj,List.set_set];exact⟨_,rfl,rfl,hs.put hs.1 hc2 (by exact cX hb ⟨hjo.1,hjo.2.1,.inl rfl⟩) _,by simp⟩
    · simp only [fO c0,a9,if_false,aI,hj,List.set_set];exact⟨_,rfl,rfl,hs.put hs.1 hc2 (by exact cX hb ⟨hjo.1,hjo.2.1,hcm⟩) _,by simp⟩
  simp only [fO p2,a9,if_false]
  by_cases p3:j.Pc=3
  · obtain⟨x,y,e1,e2,hx⟩:=step_eq hs.1 hs.1.small hw j.Sub
    simp only [p3,beq_self_eq_true,if_true,e1,e2,aI]
    cases hd:y.cQ with
    | false=>simp only [kO,if_true,a9,if_false,aI,hj];exact⟨_,rfl,rfl,hs.put hx hcs (by exact cX hb hjo) _,Nat.le_succ _⟩
    | true=>simp only [eF,if_true,a9,if_false,aI,hj];exact⟨_,rfl,rfl,hs.put hx hcs (by exact cX hb hjo) _,Nat.le_succ _⟩
  simp only [fO p3,a9,if_false,aI,hj]
  exact⟨_,rfl,rfl,hs.put hs.1 hcs (by exact cX hb hjo) _,Nat.le_succ _⟩
theorem get_eq(hk:j.Op.Kind=2):∃x,((J2 s w j).bind fun q=>eA w q.1 q.2)=some x∧BK s w=some x∧uN x∧x.Log.length≤s.Log.length+1:=by
  have h3:=hs.2.2.1
  have hset:∀x,idx (s.aT.set w.toNat x) w=some x:=JJ hw.1 (by omega)
  have hn:∀(e:Ev) {α:Type} (k:Option α),need (s.Log.length + [e].length≤1073741824) k=k:=fun e _ k=>aS (by simp;omega) k
  have hcs:s.Cells.length=2∧∀h∈s.Cells,dK h:=⟨hs.2.1,hs.2.2.2.2.2.1⟩
  have hcell:idx s.Cells j.Op.Cell=some (s.Cells[j.Op.Cell.toNat]'(by have:=hjo.1.2.2.1;omega)):=l6 hjo.1.2.2.1.1 (by have:=hjo.1.2.2.1;omega)
  have hcm:dK (s.Cells[j.Op.Cell.toNat]'(by have:=hjo.1.2.2.1;omega)):=hcs.2 _ (List.getElem_mem _)
  generalize (s.Cells[j.Op.Cell.toNat]'(by have:=hjo.1.2.2.1;omega))=cell at hcell hcm
  obtain⟨pn,hpn,_⟩:=X6 hs.1.1.2.1 hw
  unfold J2 BK
  rw [hj]
  simp only [aI,bS,bP,dE,eA]
  by_cases p0:j.Pc=0
  · obtain⟨x,y,e1,e2,hx⟩:=step_eq hs.1 hs.1.small hw j.Sub
    simp only [p0,beq_self_eq_true,if_true,e1,e2,aI]
    cases hd:y.cQ with
    | false=>simp only [kO,if_true,a9,if_false,aI,hj];exact⟨_,rfl,rfl,hs.put hx hcs (by exact cX hb hjo) _,Nat.le_succ _⟩
    | true=>simp only [eF,if_true,a9,if_false,aI,hj];exact⟨_,rfl,rfl,hs.put hx hcs (by exact cX hb hjo) _,Nat.le_succ _⟩
  simp only [fO p0,a9,if_false]
  by_cases p1:j.Pc=1
  · simp only [p1,beq_self_eq_true,if_true,hcell,aI,kY,hn,tY,hj,dA,dL,hset]
    by_cases c0:cell=0
    · simp only [c0,beq_self_eq_true,if_true,aI,hj,List.set_set];exact⟨_,rfl,rfl,hs.put hs.1 hcs (by exact cX hb ⟨hjo.1,.inl rfl,hjo.2.2⟩) _,by simp⟩
    · simp only [fO c0,a9,if_false,aI,hj,List.set_set];exact⟨_,rfl,rfl,hs.put hs.1 hcs (by exact cX hb ⟨hjo.1,hcm,hjo.2.2⟩) _,by simp⟩
  simp only [fO p1,a9,if_false]
  by_cases p2:j.Pc=2
  · obtain⟨r,e1,e2⟩:=aLD hs.1.1.1 j.H
    simp only [p2,beq_self_eq_true,if_true,p7,kL,hj,e1,e2,aI,hset,List.set_set]
    exact⟨_,rfl,rfl,hs.put hs.1 hcs (by exact cX hb hjo) _,Nat.le_succ _⟩
  simp only [fO p2,a9,if_false]
  by_cases p3:j.Pc=3
  · simp only [p3,beq_self_eq_true,if_true,wS,kS,hj,hpn,aI,dE,qJ,i7,oO,bS]
    cases pn.On with
    | false=>simp only [a9,if_false,aI,kO,if_true,hj];exact⟨_,rfl,rfl,hs.put hs.1 hcs (by exact cX hb hjo) _,Nat.le_succ _⟩
    | true =>
      simp only [if_true,aI]
      cases pn.fG with
      | false=>simp only [a9,if_false,aI,kO,eF,if_true,hj];exact⟨_,rfl,rfl,hs.put hs.1 hcs (by exact cX hb hjo) _,Nat.le_succ _⟩
      | true=>simp only [a9,if_false,aI,kO,eF,if_true,hj];exact⟨_,rfl,rfl,hs.put hs.1 hcs (by exact cX hb hjo) _,Nat.le_succ _⟩
  simp only [fO p3,a9,if_false]
  by_cases p4:j.Pc=4
  · obtain⟨r,e1,e2,h1,h2⟩:=WS hs.1.1.2.1 hw
    simp only [p4,beq_self_eq_true,if_true,e1,e2,rG,aI,hj]
    exact⟨_,rfl,rfl,hs.put (hs.1.clock h1 (by rw [h2];exact Int.le_refl _)) hcs (by exact cX hb hjo) _,Nat.le_succ _⟩
  simp only [fO p4,a9,if_false,aI,hj]
  exact⟨_,rfl,rfl,hs.put hs.1 hcs (by exact cX hb hjo) _,Nat.le_succ _⟩
theorem aV4(hk:j.Op.Kind=3):∃x,((J3 s w j).bind fun q=>eA w q.1 q.2)=some x∧BN s w=some x∧uN x∧x.Log.length≤s.Log.length+1:=by
  have h3:=hs.2.2.1
  have hset:∀x,idx (s.aT.set w.toNat x) w=some x:=JJ hw.1 (by omega)
  have hn:∀(e:Ev) {α:Type} (k:Option α),need (s.Log.length + [e].length≤1073741824) k=k:=fun e _ k=>aS (by simp;omega) k
  have hcs:s.Cells.length=2∧∀h∈s.Cells,dK h:=⟨hs.2.1,hs.2.2.2.2.2.1⟩
  have hcell:idx s.Cells j.Op.Cell=some (s.Cells[j.Op.Cell.toNat]'(by have:=hjo.1.2.2.1;omega)):=l6 hjo.1.2.2.1.1 (by have:=hjo.1.2.2.1;omega)
  have hcm:dK (s.Cells[j.Op.Cell.toNat]'(by have:=hjo.1.2.2.1;omega)):=hcs.2 _ (List.getElem_mem _)
  generalize (s.Cells[j.Op.Cell.toNat]'(by have:=hjo.1.2.2.1;omega))=cell at hcell hcm
  unfold J3 BN
  rw [hj]
  simp only [aI,bS,bP,dE,eA,BL,BM]
  by_cases p0:j.Pc=0
  · simp only [p0,beq_self_eq_true,if_true,hcell,aI,kY,hn,hj,dA,dL,hset]
    by_cases c0:cell=0
    · simp only [c0,beq_self_eq_true,if_true,aI,hj,List.set_set,hn];exact⟨_,rfl,rfl,hs.put hs.1 hcs (by exact cX hb ⟨hjo.1,.inl rfl,hjo.2.2⟩) _,by simp⟩
    · simp only [fO c0,a9,if_false,aI,hj,List.set_set];exact⟨_,rfl,rfl,hs.put hs.1 hcs (by exact cX hb ⟨hjo.1,hcm,hjo.2.2⟩) _,Nat.le_succ _⟩
  simp only [fO p0,a9,if_false]
  by_cases p1:j.Pc=1
  · obtain⟨r,e1,e2,h1⟩:=UK hs.1.1.2.2.2 hw j.H
    simp only [p1,beq_self_eq_true,if_true,e1,e2,aI,hj]
    exact⟨_,rfl,rfl,hs.put (hs.1.haz h1) hcs (by exact cX hb hjo) _,Nat.le_succ _⟩
  simp only [fO p1,a9,if_false]
  by_cases p2:j.Pc=2
  · simp only [p2,beq_self_eq_true,if_true,hcell,aI,kY,hn,hj,dA,dL]
    by_cases c0:cell=j.H
    · simp only [c0,bne_self_eq_false,a9,if_false,aI,hj];exact⟨_,rfl,rfl,hs.put hs.1 hcs (by exact cX hb hjo) _,by simp⟩
    · simp only [OH c0,if_true,aI,hj];exact⟨_,rfl,rfl,hs.put hs.1 hcs (by exact cX hb hjo) _,Nat.le_succ _⟩
  simp only [fO p2,a9,if_false]
  by_cases p3:j.Pc=3
  · obtain⟨r,e1,e2⟩:=aLD hs.1.1.1 j.H
    simp only [p3,beq_self_eq_true,if_true,p7,kL,hj,e1,e2,aI,hset,List.set_set]
    exact⟨_,rfl,rfl,hs.put hs.1 hcs (by exact cX hb hjo) _,Nat.le_succ _⟩
  simp only [fO p3,a9,if_false]
  by_cases p4:j.Pc=4
  · obtain⟨r,e1,e2,h1⟩:=aJ0 hs.1.1.2.2.2 hw
    simp only [p4,beq_self_eq_true,if_true,e1,e2,aI,hj]
    exact⟨_,rfl,rfl,hs.put (hs.1.haz h1) hcs (by exact cX hb hjo) _,Nat.le_succ _⟩
  simp only [fO p4,a9,if_false,aI,hj]
  exact⟨_,rfl,rfl,hs.put hs.1 hcs (by exact cX hb hjo) _,Nat.le_succ _⟩
theorem aTF(hk:j.Op.Kind=7):∃x,((G3 s w j).bind fun q=>eA w q.1 q.2)=some x∧yO s w=some x∧uN x∧x.Log.length≤s.Log.length+1:=by
  have h3:=hs.2.2.1
  have hset:∀x,idx (s.aT.set w.toNat x) w=some x:=JJ hw.1 (by omega)
  have hn:∀(e:Ev) {α:Type} (k:Option α),need (s.Log.length + [e].length≤1073741824) k=k:=fun e _ k=>aS (by simp;omega) k
  have hcs:s.Cells.length=2∧∀h∈s.Cells,dK h:=⟨hs.2.1,hs.2.2.2.2.2.1⟩
  have hcell:idx s.Cells j.Op.Cell=some (s.Cells[j.Op.Cell.toNat]'(by have:=hjo.1.2.2.1;omega)):=l6 hjo.1.2.2.1.1 (by have:=hjo.1.2.2.1;omega)
  have hcm:dK (s.Cells[j.Op.Cell.toNat]'(by have:=hjo.1.2.2.1;omega)):=hcs.2 _ (List.getElem_mem _)
  generalize (s.Cells[j.Op.Cell.toNat]'(by have:=hjo.1.2.2.1;omega))=cell at hcell hcm
  obtain⟨pn,hpn,_⟩:=X6 hs.1.1.2.1 hw
  unfold G3 yO
  rw [hj,hpn]
  simp only [aI,bS,bP,dE,eA,zF,qL,qK,hj]
  by_cases p0:j.Pc=0
  · simp only [p0,beq_self_eq_true,if_true]
    cases pn.On with
    | false=>simp only [kO,if_true,aI,hj];exact⟨_,rfl,rfl,hs.put hs.1 hcs (by exact cX hb hjo) _,Nat.le_succ _⟩
    | true =>
      simp only [eF,a9,if_false]
      cases pn.fG with
      | true=>simp only [if_true,aI,hj];exact⟨_,rfl,rfl,hs.put hs.1 hcs (by exact cX hb hjo) _,Nat.le_succ _⟩
      | false =>
        simp only [a9,if_false,hcell,aI,kY,hn,tY,hj,dA,dL,hset]
        by_cases c0:cell=0
        · simp only [c0,beq_self_eq_true,if_true,aI,hj,List.set_set];exact⟨_,rfl,rfl,hs.put hs.1 hcs (by exact cX hb ⟨hjo.1,.inl rfl,hjo.2.2⟩) _,by simp⟩
        · simp only [fO c0,a9,if_false,aI,hj,List.set_set];exact⟨_,rfl,rfl,hs.put hs.1 hcs (by exact cX hb ⟨hjo.1,hcm,hjo.2.2⟩) _,by simp⟩
  simp only [fO p0,a9,if_false,hj,aI]
  by_cases p1:j.Pc=1
  · obtain⟨r,e1,e2⟩:=aLD hs.1.1.1 j.H
    simp only [p1,beq_self_eq_true,if_true,p7,kL,hj,e1,e2,aI,hset,List.set_set]
    exact⟨_,rfl,rfl,hs.put hs.1 hcs (by exact cX hb hjo) _,Nat.le_succ _⟩
  simp only [fO p1,a9,if_false]
  by_cases p2:j.Pc=2
  · simp only [p2,beq_self_eq_true,if_true,wS,kS,hj,hpn,aI,dE,qJ,i7,oO,bS]
    cases pn.On with
    | false=>simp only [a9,if_false,aI,kO,if_true,hj];exact⟨_,rfl,rfl,hs.put hs.1 hcs (by exact cX hb hjo) _,Nat.le_succ _⟩
    | true =>
      simp only [if_true,aI]
      cases pn.fG with
      | false=>simp only [a9,if_false,aI,kO,eF,if_true,hj];exact⟨_,rfl,rfl,hs.put hs.1 hcs (by exact cX hb hjo) _,Nat.le_succ _⟩
      | true=>simp only [a9,if_false,aI,kO,eF,if_true,hj];exact⟨_,rfl,rfl,hs.put hs.1 hcs (by exact cX hb hjo) _,Nat.le_succ _⟩
  simp only [fO p2,a9,if_false,aI,hj]
  exact⟨_,rfl,rfl,hs.put hs.1 hcs (by exact cX hb hjo) _,Nat.le_succ _⟩
theorem aRA(hk:j.Op.Kind=4∨j.Op.Kind=5∨j.Op.Kind=6):∃x,((DY s w j).bind fun q=>eA w q.1 q.2)=some x∧vR s w=some x∧uN x∧x.Log.length≤s.Log.length+1:=by
  have h3:=hs.2.2.1
  have hset:∀x,idx (s.aT.set w.toNat x) w=some x:=JJ hw.1 (by omega)
  have hcs:s.Cells.length=2∧∀h∈s.Cells,dK h:=⟨hs.2.1,hs.2.2.2.2.2.1⟩
  obtain⟨x,y,e1,e2,hx⟩:=step_eq hs.1 hs.1.small hw j.Sub
  unfold DY vR
  rw [hj]
  simp only [aI,bS,bP,dE,eA,eH,iX,vF,lP,oC,nY,oA,n9,nZ,hj,e1,e2]
  rcases hk with k4 | k5 | k6
  · simp only [k4,show((4:Int) == 6)=false from rfl,show((4:Int) == 5)=false from rfl,show((4:Int) == 4)=true from rfl,a9,if_false,if_true]
    by_cases p0:j.Pc=0
    · simp only [p0,bne_self_eq_false,beq_self_eq_true,a9,if_false,if_true]
      cases hd:y.cQ with
      | false=>simp only [kO,if_true,a9,if_false,aI,hj];exact⟨_,rfl,rfl,hs.put hx hcs (by exact cX hb hjo) _,Nat.le_succ _⟩
      | true=>simp only [eF,if_true,a9,if_false,aI,hj];exact⟨_,rfl,rfl,hs.put hx hcs (by exact cX hb hjo) _,Nat.le_succ _⟩
    · simp only [OH p0,fO p0,a9,if_false,if_true]
      by_cases p1:j.Pc=1
      · simp only [p1,bne_self_eq_false,beq_self_eq_true,a9,if_false,if_true,show((1:Int) == 0)=false from rfl]
        cases hd:y.cQ with
        | false=>simp only [kO,if_true,a9,if_false,aI,hj];exact⟨_,rfl,rfl,hs.put hx hcs (by exact cX hb hjo) _,Nat.le_succ _⟩
        | true=>simp only [eF,if_true,a9,if_false,aI,hj];exact⟨_,rfl,rfl,hs.put hx hcs (by exact cX hb hjo) _,Nat.le_succ _⟩
      · simp only [OH p1,fO p1,a9,if_false,if_true,aI,hj]
        exact⟨_,rfl,rfl,hs.put hs.1 hcs (by exact cX hb hjo) _,Nat.le_succ _⟩
  · simp only [k5,show((5:Int) == 6)=false from rfl,show((5:Int) == 5)=true from rfl,show((5:Int) == 4)=false from rfl,a9,if_false,if_true]
    by_cases p0:j.Pc=0
    · simp only [p0,bne_self_eq_false,beq_self_eq_true,a9,if_false,if_true]
      cases hd:y.cQ with
      | false=>simp only [kO,if_true,a9,if_false,aI,hj];exact⟨_,rfl,rfl,hs.put hx hcs (by exact cX hb hjo) _,Nat.le_succ _⟩
      | true=>simp only [eF,if_true,a9,if_false,aI,hj];exact⟨_,rfl,rfl,hs.put hx hcs (by exact cX hb hjo) _,Nat.le_succ _⟩
    · simp only [OH p0,fO p0,a9,if_false,if_true]
      by_cases p1:j.Pc=1
      · simp only [p1,bne_self_eq_false,a9,if_false,if_true,aI,hj]
        exact⟨_,rfl,rfl,hs.put hs.1 hcs (by exact cX hb hjo) _,Nat.le_succ _⟩
      · simp only [OH p1,if_true,aI,hj]
        exact⟨_,rfl,rfl,hs.put hs.1 hcs (by exact cX hb hjo) _,Nat.le_succ _⟩
  · simp only [k6,beq_self_eq_true,show((6:Int) == 5)=false from rfl,show((6:Int) == 4)=false from rfl,a9,if_false,if_true]
    by_cases p0:j.Pc=0
    · obtain⟨r,f1,f2,h1,h2⟩:=WS hs.1.1.2.1 hw
      simp only [p0,beq_self_eq_true,if_true,f1,f2,rG,aI]
      cases hr:r.2 with
      | false=>simp only [kO,if_true,aI,hj];exact⟨_,rfl,rfl,hs.put (hs.1.clock h1 (by rw [h2];exact Int.le_refl _)) hcs (by exact cX hb hjo) _,Nat.le_succ _⟩
      | true=>simp only [eF,a9,if_false,aI,hj];exact⟨_,rfl,rfl,hs.put (hs.1.clock h1 (by rw [h2];exact Int.le_refl _)) hcs (by exact cX hb hjo) _,Nat.le_succ _⟩
    · simp only [fO p0,a9,if_false,aI,hj]
      exact⟨_,rfl,rfl,hs.put hs.1 hcs (by exact cX hb hjo) _,Nat.le_succ _⟩
end
theorem aLF{l:List eM}(h:0 < l.length)(hl:l.length≤1000):vK l 0 1=some (l.drop 1):=by
  have e:=del_eq (l:=l) (k:=0) h
  unfold vK
  rw [aS (by omega),if_neg (by simp),aS (by omega),aS (by omega),aS (by omega),aS]
  · simp only [Int.toNat_zero,Int.toNat_one] at e ⊢
    rw [Nat.zero_add] at e
    rw [Nat.zero_add,e,List.eraseIdx_zero,List.drop_one]
  · rw [eV (by omega)]
    simp only [List.drop_zero,List.length_take,eV (show(0:Int).toNat≤l.length by simp)]
    omega
theorem aD8{o:eM}(ho:mA o)(ser pc:Int)(sub:Sub)(code:Int):JOk ⟨true,o,ser,pc,sub,0,0,0,code⟩:=(JH rfl).2 ⟨ho,.inl rfl,.inl rfl⟩
theorem aRB{s:aC}(hs:uN s)(hl:s.Log.length≤1000000000){w:Int}(hw:0≤w∧w≤2){j:bX}(hj:idx s.aT w=some j):∃x,DW s w=some x∧vL s w=some x∧uN x∧x.Log.length≤s.Log.length+1:=by
  have h3:=hs.2.2.1
  have ht:=hs.2.2.2.1
  have hser:=hs.2.2.2.2.1
  have hset:∀x,idx (s.aT.set w.toNat x) w=some x:=JJ hw.1 (by omega)
  have hn:∀(e:Ev) {α:Type} (k:Option α),need (s.Log.length + [e].length≤1073741824) k=k:=fun e _ k=>aS (by simp;omega) k
  have hq:idx s.cZ w=some (s.cZ[w.toNat]'(by have:=ht.1;omega)):=l6 hw.1 (by have:=ht.1;omega)
  have hqk:QOk (s.cZ[w.toNat]'(by have:=ht.1;omega)):=ht.2 _ (List.getElem_mem _)
  generalize (s.cZ[w.toNat]'(by have:=ht.1;omega))=q at hq hqk
  obtain⟨pn,hpn,_⟩:=X6 hs.1.1.2.1 hw
  have ew:bC (s.aQ+1)=s.aQ+1:=aR (by omega) (by omega)
  unfold DW vL
  rw [hq]
  simp only [aI,vA,nV]
  by_cases l0:q.gH.length=0
  · simp only [show((q.gH.length:Int) == 0)=true by rw [l0];rfl,if_true]
    exact⟨_,rfl,rfl,hs,Nat.le_succ _⟩
  · simp only [show((q.gH.length:Int) == 0)=false from fO (by omega),a9,if_false]
    by_cases s0:s.aQ=1000000
    · simp only [s0,beq_self_eq_true,if_true]
      exact⟨_,rfl,rfl,hs,Nat.le_succ _⟩
    · simp only [fO s0,a9,if_false,hq,aI]
      have hx:idx q.gH 0=some (q.gH[0]'(by omega)):=by have:=aX (l:=q.gH) (k:=0) (by omega);simpa using this
      have ho:mA (q.gH[0]'(by omega)):=hqk.2 _ (List.getElem_mem _)
      have h12:=hqk.1
      have hdel:=aLF (l:=q.gH) (by omega) (by omega)
      generalize (q.gH[0]'(by omega))=o at hx ho
      have etk:(q.gH.take q.gH.length).drop (1:Int).toNat=q.gH.drop 1:=by rw [List.take_length];rfl
      have hT:RT (s.cZ.set w.toNat ⟨q.gH.drop 1⟩):=⟨by simpa using ht.1,fun z hz=>(List.mem_or_eq_of_mem_set hz).elim (ht.2 z) (fun e=>by
        subst e
        exact⟨by simp only [List.length_drop];omega,fun a ha=>hqk.2 a (List.mem_of_mem_drop ha)⟩)⟩
      have fin:∀(jb:bX) (l:List Ev),JOk jb→uN ⟨s.aD,s.Cells,s.aT.set w.toNat jb,s.cZ.set w.toNat ⟨q.gH.drop 1⟩,l,s.aQ+1⟩:=fun jb l hjb=>
        ⟨hs.1,hs.2.1,by simpa using h3,hT,by simp only;omega,hs.2.2.2.2.2.1,fun z hz=>(List.mem_or_eq_of_mem_set hz).elim (hs.2.2.2.2.2.2 z) (fun e=>e ▸ hjb)⟩
      simp only [hx,hdel,aI,eH,iX,ew]
      rw [aS (by omega)]
      by_cases k1:o.Kind=1
      · simp only [k1,beq_self_eq_true,if_true,eX,dU,hj,dA,dL,aI,hset,hn,etk,ew]
        exact⟨_,rfl,rfl,fin _ _ (aD8 ho _ _ _ _),by simp⟩
      simp only [fO k1,a9,if_false]
      have pin:∀z,z=true→∃x,lM s w q o z=some x∧iU s w o (q.gH.drop 1) z=some x∧uN x∧x.Log.length≤s.Log.length+1:=fun z hz=>by
        subst hz
        simp only [lM,iU,if_true,eH,iX,hpn,aI,bP]
        cases pn.On with
        | true =>
          simp only [if_true,eX,dU,hj,dA,dL,aI,hset,hn,etk,ew]
          exact⟨_,rfl,rfl,fin _ _ (aD8 ho _ _ _ _),by simp⟩
        | false =>
          simp only [a9,if_false,eX,dU,hj,dA,dL,aI,hset,hn,etk,ew]
          exact⟨_,rfl,rfl,fin _ _ (aD8 ho _ _ _ _),by simp⟩
      by_cases k2:o.Kind=2
      · simp only [k2,beq_self_eq_true,if_true];exact pin true rfl
      simp only [fO k2,a9,if_false]
      by_cases k5:o.Kind=5
      · simp only [k5,beq_self_eq_true];exact pin true rfl
      simp only [fO k5,lM,iU,a9,if_false,eH,iX,aI]
      by_cases k4:o.Kind=4
      · simp only [k4,beq_self_eq_true,if_true,eX,dU,hj,dA,dL,aI,hset,hn,etk,ew]
        exact⟨_,rfl,rfl,fin _ _ (aD8 ho _ _ _ _),by simp⟩
      · simp only [fO k4,a9,if_false,eX,dU,hj,dA,dL,aI,hset,hn,etk,ew]
        exact⟨_,rfl,rfl,fin _ _ (aD8 ho _ _ _ _),by simp⟩
theorem WT{s:aC}(hs:uN s)(hl:s.Log.length≤1000000000){w:Int}(hw:0≤w∧w≤2):∃x,DB s w=some x∧rI s w=some x∧uN x∧x.Log.length≤s.Log.length+1:=by
  have h3:=hs.2.2.1
  have hset:∀x,idx (s.aT.set w.toNat x) w=some x:=JJ hw.1 (by omega)
  have hn:∀(e:Ev) {α:Type} (k:Option α),need (s.Log.length + [e].length≤1073741824) k=k:=fun e _ k=>aS (by simp;omega) k
  have hj:idx s.aT w=some (s.aT[w.toNat]'(by omega)):=l6 hw.1 (by omega)
  have hjk:JOk (s.aT[w.toNat]'(by omega)):=hs.2.2.2.2.2.2 _ (List.getElem_mem _)
  generalize (s.aT[w.toNat]'(by omega))=j at hj hjk
  unfold DB rI
  rw [hj]
  simp only [aI]
  cases hb:j.gG with
  | false =>
    obtain⟨x,e1,e2,e3,e4⟩:=aRB hs hl hw hj
    simp only [kO,if_true,e1,e2,aI]
    exact⟨_,rfl,rfl,e3,e4⟩
  | true =>
    have hjo:=(JH hb).1 hjk
    simp only [eF,a9,if_false]
    by_cases p9:j.Pc=9
    · simp only [p9,beq_self_eq_true,if_true,hn,dA,dL,hj,aI]
      exact⟨_,rfl,rfl,hs.put hs.1 ⟨hs.2.1,hs.2.2.2.2.2.1⟩ ((RU rfl).2 rfl) _,by simp⟩
    simp only [fO p9,a9,if_false]
    have close:∀{A B:Option aC} {x:aC},A=some x→B=some x→uN x→x.Log.length≤s.Log.length+1→∃x,A=some x∧(B.bind fun z=>some z)=some x∧uN x∧x.Log.length≤s.Log.length+1:=fun h1 h2 h3 h4=>⟨_,h1,by rw [h2];rfl,h3,h4⟩
    by_cases k1:j.Op.Kind=1
    · obtain⟨x,e1,e2,e3,e4⟩:=aV3 hs hl hw hj hb hjo k1
      simp only [k1,beq_self_eq_true,if_true];exact close e1 e2 e3 e4
    simp only [fO k1,a9,if_false]
    by_cases k2:j.Op.Kind=2
    · obtain⟨x,e1,e2,e3,e4⟩:=get_eq hs hl hw hj hb hjo k2
      simp only [k2,beq_self_eq_true,if_true];exact close e1 e2 e3 e4
    simp only [fO k2,a9,if_false]
    by_cases k3:j.Op.Kind=3
    · obtain⟨x,e1,e2,e3,e4⟩:=aV4 hs hl hw hj hb hjo k3
      simp only [k3,beq_self_eq_true,if_true];exact close e1 e2 e3 e4
    simp only [fO k3,a9,if_false]
    by_cases k7:j.Op.Kind=7
    · obtain⟨x,e1,e2,e3,e4⟩:=aTF hs hl hw hj hb hjo k7
      simp only [k7,beq_self_eq_true,if_true];exact close e1 e2 e3 e4
    simp only [fO k7,a9,if_false]
    have hkr:=hjo.1.1
    obtain⟨x,e1,e2,e3,e4⟩:=aRA hs hl hw hj hb hjo (by omega)
    exact close e1 e2 e3 e4
end Go.Gv
end
noncomputable section
namespace Go.Gv
def aTG(s:Sub)(code:Int):Sub:={s with Code:=code,cQ:=true}
end Go.Gv
end
noncomputable section
namespace Go.Gv
def xS(c:aK)(w:Int):iI:=c.bG.getD w.toNat ⟨false,0,false,0⟩
def aD9(c:aK)(w e:Int):aK×Bool:=if 0≤e∧e≤c.aM then (⟨c.aM,c.bG.set w.toNat ⟨true,e,false,0⟩⟩,true) else (c,false)
def aTH(b:aD)(w:Int)(s:Sub):aD×Sub:=
  if s.Pc=0 then (b,{s with Pc:=1,E:=b.aK.aM})
  else if s.Pc=1 then
    if (aD9 b.aK w s.E).2 then ({b with aK:=(aD9 b.aK w s.E).1},{s with Pc:=2}) else ({b with aK:=(aD9 b.aK w s.E).1},aTG s 1)
  else if s.Pc=2 then if b.aK.aM=s.E then (b,aTG s 0) else (b,{s with Pc:=0})
  else (b,aTG s 1)
def UL(l:List aP)(w:Int):List b8:=(l.getD w.toNat ⟨[]⟩).Rows
def aRC(r:b8)(e:Int):Prop:=2≤e∧r.aM≤bC (e - 2)
instance (r:b8) (e:Int):Decidable (aRC r e):=by unfold aRC;infer_instance
def aXV(z:List Int)(w:Int):Int:=z.getD w.toNat 0
def aY6(l:List b8)(k:Int):b8:=l.getD k.toNat ⟨0,0⟩
def aUF(l:List b8)(s:Sub):Prop:=0≤s.Row∧s.Row < l.length∧(aY6 l s.Row).Handle=s.H
instance (l:List b8) (s:Sub):Decidable (aUF l s):=by unfold aUF;infer_instance
end Go.Gv
end
noncomputable section
namespace Go.Gv
def aMY:aE:=⟨List.replicate 384 0,[-1,-1,-1,-1,-1,-1]⟩
def aV5:aB:=⟨List.replicate 3 ⟨[]⟩,List.replicate 9 ⟨[]⟩⟩
def aMZ:aD:=⟨⟨aMY,aV5⟩,⟨0,List.replicate 3 ⟨false,0,false,0⟩⟩,List.replicate 3 ⟨[]⟩,List.replicate 3 0⟩
theorem GJ:BP=some aMY:=by
  unfold BP
  have key:loop rJ (0,[])=some (List.replicate 6 (-1)):=lF (f:=rJ) 6 (fun k=>((k:Int),List.replicate k (-1))) _ (fun k hk=>by
    simp only [rJ]
    rw [if_pos (by simp;omega),aS (by simp;omega),aR (by omega) (by omega),List.replicate_succ'];rfl) (by simp [rJ])
  rw [aS (by omega),key];rfl
theorem aV6:CD [-1] 6=some [-1,-1,-1,-1,-1,-1]:=by
  unfold CD
  rw [if_neg (by simp),show sA (IntKind.u64.wrap (([-1]:List Int).length:Int)) (IntKind.u64.wrap 6)=some (0,6) by kernel_rfl]
  simp only [aI]
  rw [if_neg (by simp),bL (by omega)]
  simp only [uA,a9,if_false]
  rw [show IntKind.i64.wrap 6=6 from wrap_i64 (by omega) (by omega),aS (by omega),
    show(cY (List.replicate (Int.toNat 6) 0) 0 [-1],((min ([-1]:List Int).length ((List.replicate (Int.toNat 6) (0:Int)).length - 0):Nat):Int))=([-1,0,0,0,0,0],1) by kernel_rfl,
    cM (body:=jT) (s':=([-1,-1,0,0,0,0],2)) (by kernel_rfl),cM (body:=jT) (s':=([-1,-1,-1,-1,0,0],4)) (by kernel_rfl),
    cM (body:=jT) (s':=([-1,-1,-1,-1,-1,-1],6)) (by kernel_rfl),cA (body:=jT) (r:=[-1,-1,-1,-1,-1,-1]) (by kernel_rfl)]
  rfl
theorem aAQ:NZ=some aMY:=by
  unfold NZ
  rw [aS (by omega),aV6];rfl
theorem UM:BQ=some aMZ∧N0=some aMZ:=by
  unfold BQ N0 FC YO sB S5 xF S6 xG S7 FD YP
  rw [GJ,aAQ,aS (by omega),aS (by omega),aS (by omega),aS (by omega),aS (by omega)]
  exact⟨rfl,rfl⟩
theorem aJ1:l9 aMZ:=of_decide_eq_true (by kernel_rfl)
def aM0:aC:=⟨⟨⟨⟨[],[]⟩,⟨[],[]⟩⟩,⟨0,[]⟩,[],[]⟩,[],[],[],[],0⟩
def UN(t:List Queue):aC:=⟨aMZ,List.replicate 2 0,List.replicate 3 aGS,t,[],0⟩
theorem aNR{t:List Queue}(h:RT t):uN (UN t):=
  ⟨aJ1,rfl,rfl,h,by simp [UN],fun q hq=>by simp [UN] at hq;exact .inl hq,fun j hj=>by simp [UN] at hj;exact(RU (by rw [hj];rfl)).2 hj⟩
theorem SF{l:List Queue}(hl:l.length≤1048576)(hq:∀q∈l,q.gH.length≤1048576):tI l=some l∧wV l=some l:=by
  constructor
  · unfold tI
    rw [RO l]
    · rfl
    · intro k hk
      have:=hq _ (List.getElem_mem hk)
      simp only [AH]
      rw [if_pos (by simp;omega),aX hk]
      simp only [aI]
      rw [aS (by simp;omega),aS (by simp;omega),aR (by omega) (by omega)];rfl
    · simp [AH]
  · unfold wV
    rw [RO l]
    · rfl
    · intro k hk
      have:=hq _ (List.getElem_mem hk)
      simp only [DD]
      rw [if_pos (by simp;omega),aX hk]
      simp only [aI,FY]
      rw [aS (by simp;omega),aI,aS (by simp;omega),aR (by omega) (by omega)];rfl
    · simp [DD]
theorem aJ2{t:List Queue}(hl:t.length≤1048576)(hq:∀q∈t,q.gH.length≤1048576):EJ t=some (if RT t then UN t else aM0)∧S8 t=some (if RT t then UN t else aM0):=by
  have hm:t.length≤maxLen:=by simp only [maxLen];omega
  unfold EJ S8
  rw [WQ hm,WR hm (fun q h=>by have:=hq q h;simp only [maxLen];omega)]
  simp only [aI]
  by_cases h:RT t
  · simp only [bE h,eF,a9,if_false,if_pos h,UM.1,UM.2,aI,(SF hl hq).1,(SF hl hq).2]
    rw [aS (by omega),aS (by omega),aS (by omega),aS (by omega)]
    exact⟨rfl,rfl⟩
  · simp only [bL h,kO,if_true,if_neg h]
    exact⟨rfl,rfl⟩
end Go.Gv
end
noncomputable section
namespace Go.Gv
def qQ(s:aC):Prop:=GI s.aD∧s.Cells.length≤1048576∧s.aT.length≤1048576∧s.cZ.length≤1048576∧(∀q∈s.cZ,q.gH.length≤1048576)∧s.Log.length≤1048576
theorem qQ.fits{s:aC}(h:qQ s):s.aD.Mem.aE.Bytes.length≤maxLen∧(d9 s.aD.Mem.aB).length≤1073741824∧s.aD.aK.bG.length≤maxLen∧s.aD.bB.length≤maxLen∧(bT s.aD.bB).length≤1073741824∧s.aD.lZ.length≤maxLen:=by
  obtain⟨⟨⟨a1,a2,a3,a4,a5⟩,b1,b2,b3,b4⟩,_⟩:=h
  simp only [maxLen];omega
theorem aBG{s:aC}(h:qQ s):m3 s=some (decide (uN s)):=aAO h.fits (by have:=h.2.2.2.1;simp only [maxLen];omega)
theorem aIE{s:aC}(h:qQ s):qG s=some (decide (uN s)):=
  have hM:∀{n:Nat},n≤1048576→n≤maxLen:=fun h=>by simp only [maxLen];omega
  aAP h.fits (hM h.2.2.2.1) (fun q hq=>hM (h.2.2.2.2.1 q hq)) (hM h.2.1) (hM h.2.2.1)
theorem TX{s:aC}(h:qQ s):AI s=some s:=by
  obtain⟨hb,c1,c2,c3,c4,c5⟩:=h
  have n1:∀{β:Type} (k:Option β),need (([]:List bX).length+s.aT.length≤1073741824) k=k:=fun k=>aS (by simp only [List.length_nil];omega) k
  have n2:∀{β:Type} (k:Option β),need (([]:List Ev).length+s.Log.length≤1073741824) k=k:=fun k=>aS (by simp only [List.length_nil];omega) k
  unfold AI FU
  simp only [WD hb,DM (show s.Cells.length≤1073741824 by omega),(SF c3 c4).1,aI,n1,n2,List.nil_append]
theorem L8{s:aC}(h:qQ s):oT s=some s:=by
  obtain⟨hb,c1,c2,c3,c4,c5⟩:=h
  have n1:∀{β:Type} (k:Option β),need (([]:List bX).length+s.aT.length≤1073741824) k=k:=fun k=>aS (by simp only [List.length_nil];omega) k
  have n2:∀{β:Type} (k:Option β),need (([]:List Ev).length+s.Log.length≤1073741824) k=k:=fun k=>aS (by simp only [List.length_nil];omega) k
  unfold oT DC FZ
  simp only [aH7 hb,nF (show s.Cells.length≤1073741824 by omega),(SF c3 c4).2,aI,n1,n2,List.nil_append]
theorem FO{s:aC}(h:uN s)(hl:s.Log.length≤1000000):qQ s:=by
  have ht:=h.2.2.2.1
  exact⟨h.1.small,by have:=h.2.1;omega,by have:=h.2.2.1;omega,by have:=ht.1;omega,fun q hq=>by have:=(ht.2 q hq).1;omega,by omega⟩
end Go.Gv
end
noncomputable section
namespace Go.Gv
theorem aUG{h:aE}{s:Int}(hcl:0≤bK h s):(fU s (bK h s)).toNat+8≤384∧8≤gP (bK h s)∧gP (bK h s)≤40:=by
  have hc2:0≤bK h s∧bK h s≤2:=by
    obtain⟨_,q,e⟩:=CU hcl
    rw [e];exact kU.1 (by omega)
  have hz:8≤gP (bK h s)∧gP (bK h s)≤40:=by rcases fJ hc2 with e | e | e <;> rw [e] <;> decide
  obtain⟨p,i,p6,hi,es,ec,eo,ep⟩:=CY hcl
  refine⟨?_,hz⟩
  rw [eo]
  have hcl':0≤b7 h p∧b7 h p≤2:=by rw [←ec];exact hc2
  generalize b7 h p=c at hi hcl'
  rcases fJ hcl' with rfl | rfl | rfl
  · rw [show(cS 0).toNat=4 from rfl] at hi;rw [show(aW 0).toNat=12 from rfl];omega
  · rw [show(cS 1).toNat=2 from rfl] at hi;rw [show(aW 1).toNat=20 from rfl];omega
  · rw [show(cS 2).toNat=1 from rfl] at hi;rw [show(aW 2).toNat=44 from rfl];omega
structure JR where
  b:aD
  c:List Int
  j:bX
  l:List Ev
noncomputable section
variable (s:aC) (w:Int) (j:bX)
end
def aUH(s:aC)(w:Int):bX:=s.aT.getD w.toNat aGS
noncomputable section
variable {s:aC} (hs:uN s) (hl:s.Log.length≤1000000000) {w:Int} (hw:0≤w∧w≤2) {j:bX} (hjo:mA j.Op∧dK j.H∧dK j.Old)
include hs
include hw
include hl hjo
omit hjo
end
end Go.Gv
end
noncomputable section
namespace Go.Gv
def aRD(b:aD)(s:Int):Int:=if jV b.Mem s=3 then (if aIA b.bB s then 3 else 4) else jV b.Mem s
noncomputable section
variable {b:aD} (hb:l9 b)
include hb
theorem l9.fits:b.Mem.aE.Bytes.length≤maxLen∧(d9 b.Mem.aB).length≤1073741824∧b.aK.bG.length≤maxLen∧b.bB.length≤maxLen∧(bT b.bB).length≤1073741824∧b.lZ.length≤maxLen:=by
  obtain⟨h1,h2,h3,h4,_⟩:=pN.facts hb.1.1
  have a:=hb.1.2.1.2.1;have c:=hb.1.2.2.1.1;have d:=hb.1.2.2.1.2.1;have e:=hb.1.2.2.2.1
  simp only [maxLen];omega
end
end Go.Gv
end
noncomputable section
namespace Go.Gv
def gW{α:Type}(o:Option α)(Q:α→Prop):Prop:=∃x,o=some x∧Q x
abbrev aGT{σ ρ:Type}(I:σ→Prop)(Q:ρ→Prop):Step σ ρ→Prop
  | .next s=>I s
  | .stop r=>Q r
namespace gW
variable {α β σ ρ:Type} {Q:α→Prop}
theorem ret{x:α}(h:Q x):gW (some x) Q:=⟨x,rfl,h⟩
theorem bind{P:β→Prop}{o:Option β}{f:β→Option α}(h:gW o P)(hf:∀x,P x→gW (f x) Q):gW (o.bind f) Q:=by
  obtain⟨x,e,hx⟩:=h
  rw [e];exact hf x hx
theorem need{p:Prop}[Decidable p]{k:Option α}(h:p)(hk:gW k Q):gW (Gv.need p k) Q:=by rw [aS h];exact hk
theorem ite{c:Prop}[Decidable c]{a b:Option α}(h1:c→gW a Q)(h2:¬c→gW b Q):gW (if c then a else b) Q:=by
  by_cases h:c
  · rw [if_pos h];exact h1 h
  · rw [if_neg h];exact h2 h
theorem mono{P:α→Prop}{o:Option α}(h:gW o P)(hf:∀x,P x→Q x):gW o Q:=by obtain⟨x,e,hx⟩:=h;exact⟨x,e,hf x hx⟩
theorem idx{l:List β}{i:Int}(h:0≤i∧i < l.length):gW (Gv.idx l i) (fun x=>x∈l):=⟨_,l6 h.1 h.2,List.getElem_mem _⟩
theorem loop{Q:ρ→Prop}{f:σ→Option (Step σ ρ)}{s:σ}(μ:σ→Nat)(Inv:σ→Prop)(h0:Inv s)(hb:∀s,Inv s→gW (f s) (aGT (fun s'=>Inv s'∧μ s' < μ s) (fun r=>Q r))):gW (Gv.loop f s) Q:=by
  have key:∀n s,μ s < n→Inv s→gW (Gv.loop f s) Q:=by
    intro n
    induction n with
    | zero=>intro s h;omega
    | succ n ih =>
      intro s h hs
      obtain⟨q,e,hq⟩:=hb s hs
      cases q with
      | next s'=>rw [cM e];exact ih s' (by have:=hq.2;omega) hq.1
      | stop r=>rw [cA e];exact⟨r,rfl,hq⟩
  exact key _ s (Nat.lt_succ_self _) h0
theorem of{o:Option α}{x:α}(h:o=some x):gW o (fun y=>y=x):=⟨x,h,rfl⟩
end gW
def Cu(b:List UInt8)(i:Int):Prop:=(0≤i∧i≤b.length)∧b.length≤1048576
theorem aRE(x:Int):0≤fV .and .i64 x 255∧fV .and .i64 x 255≤255:=by
  have e:fV .and .i64 x 255=IntKind.i64.wrap ((BitVec.ofInt 64 x &&& BitVec.ofInt 64 255).toNat:Int):=rfl
  have h:(BitVec.ofInt 64 x &&& BitVec.ofInt 64 255).toNat≤255:=by
    rw [BitVec.toNat_and];exact Nat.le_trans Nat.and_le_right (by decide)
  rw [e,wrap_i64 (by omega) (by omega)];omega
noncomputable section
variable {b:List UInt8} {i h:Int} (hc:Cu b i)
include hc
theorem aJ3:gW (pQ ⟨b,i,h⟩) (fun x=>(0≤x.1∧x.1≤255)∧Cu b x.2.1):=by
  unfold pQ BO
  obtain⟨⟨a1,a2⟩,a3⟩:=hc
  refine .ite (fun q=>?_) (fun q=>?_)
  · have q':=of_decide_eq_true q
    simp only at q'
    refine .bind (.idx ⟨a1,q'⟩) fun x _=>.ret ⟨aRE _,?_⟩
    show Cu b (bC (i+1))
    rw [aR (by omega) (by omega)]
    exact⟨by omega,a3⟩
  · exact .ret ⟨aRE _,⟨a1,a2⟩,a3⟩
theorem below{n:Int}(hn:n≤1000000):gW (aO ⟨b,i,h⟩ n) (fun x=>(0≤x.1∧(x.1 < n∨n≤0∧x.1=0))∧Cu b x.2.1):=by
  unfold aO
  refine .ite (fun q=>?_) (fun q=>?_)
  · have q':=of_decide_eq_true q
    exact .ret ⟨by simp;omega,hc⟩
  · have q0:0 < n:=by simpa using q
    refine .ite (fun q=>?_) (fun q=>?_)
    · refine .bind (aJ3 hc) fun x ⟨hx,h1⟩=>.need (by omega) (.ret ⟨?_,h1⟩)
      simp only [uK hx.1]
      exact⟨Int.emod_nonneg _ (by omega),.inl (Int.emod_lt_of_pos _ q0)⟩
    · refine .bind (aJ3 hc) fun x ⟨hx,h1⟩=>.bind (aJ3 h1) fun y ⟨hy,h2⟩=>.bind (aJ3 h2) fun z ⟨hz,h3⟩=>.bind (aJ3 h3) fun w ⟨hw,h4⟩=>.need (by omega) (.ret ⟨?_,h4⟩)
      have e:bC (bC (bC (bC (x.1 * 16777216)+bC (y.1 * 65536))+bC (z.1 * 256))+w.1)=x.1 * 16777216+y.1 * 65536+z.1 * 256+w.1:=by
        rw [aR (x:=x.1 * 16777216) (by omega) (by omega),aR (x:=y.1 * 65536) (by omega) (by omega),aR (x:=z.1 * 256) (by omega) (by omega),aR (x:=x.1 * 16777216+y.1 * 65536) (by omega) (by omega),aR (x:=x.1 * 16777216+y.1 * 65536+z.1 * 256) (by omega) (by omega),aR (by omega) (by omega)]
      simp only [e]
      rw [uK (by omega)]
      exact⟨Int.emod_nonneg _ (by omega),.inl (Int.emod_lt_of_pos _ q0)⟩
theorem aEA{n:Int}(hn:n≤1000000):gW (nD ⟨b,i,h⟩ n) (fun x=>Cu b x.2.1):=
  .bind (below hc hn) fun _ ⟨_,h1⟩=>.ret h1
theorem PH{l:List Int}(hl:0 < l.length)(hl2:l.length≤1000):gW (eJ ⟨b,i,h⟩ l) (fun x=>x.1∈l∧Cu b x.2.1):=
  .bind (below hc (by omega)) fun x ⟨hx,h1⟩=>.bind (.idx (by omega)) fun y hy=>.ret ⟨hy,h1⟩
end
theorem aY7{code:List UInt8}(hl:code.length≤1048576):gW (NS code) (fun x=>Cu code x.1):=by
  unfold NS
  refine .bind (P:=fun _=>True) (.loop (fun s=>code.length - s.2.toNat) (fun s=>0≤s.2∧s.2≤code.length) ⟨by simp,by simp⟩ ?_) fun x _=>.ret ⟨⟨by simp,by simp⟩,hl⟩
  rintro⟨a,k⟩ ⟨h1,h2⟩
  simp only [S4,EB]
  simp only at h1 h2
  have nx:k < code.length→gW ((idx code k).bind fun x7=>some (Step.next (fV .and .i64 (bC ((bC ((bC (a * 131))+(x7.toNat:Int)))+7)) 1073741823,bC (k+1)))) (aGT (ρ:=Int) (fun s'=>(0≤s'.2∧s'.2≤code.length)∧code.length - s'.2.toNat < code.length - k.toNat) (fun r=>True)):=fun hk=>by
    refine .bind (.idx ⟨h1,hk⟩) fun x _=>.ret ?_
    rw [aR (x:=k+1) (by omega) (by omega)]
    refine⟨⟨?_,?_⟩,?_⟩ <;> (try simp only) <;> omega
  refine .ite (fun q=>?_) (fun q=>?_)
  · have q':=of_decide_eq_true q
    exact .ite (fun _=>nx q') (fun _=>.ret trivial)
  · rw [if_neg (by simp)];exact .ret trivial
end Go.Gv
end
noncomputable section
namespace Go.Gv
noncomputable section
variable {b:List UInt8} {i h:Int} (hc:Cu b i)
include hc
theorem opD:gW (IX ⟨b,i,h⟩) (fun x=>mA x.1∧Cu b x.2.1):=by
  unfold IX
  refine .bind (PH hc (by decide) (by decide)) fun x1 ⟨hk,h1⟩=>?_
  have hk7:1≤x1.1∧x1.1≤7:=by simp at hk;omega
  rw [aGR,aI]
  have key:∀(i' h' cell:Int),Cu b i'→(CZ x1.1∨cell=0)→(0≤cell∧cell≤1)→gW (xJ ⟨b,i,h⟩ x1 i' h' cell) (fun x=>mA x.1∧Cu b x.2.1):=by
    intro i' h' cell hc' h2 h3
    unfold xJ EI EH
    refine .ite (fun q=>?_) (fun q=>?_)
    · have q1:x1.1=1:=by simpa using q
      have fin:∀(i h size:Int),Cu b i→(0≤size∧size≤100)→gW ((aO ⟨b,i,h⟩ 60000).bind fun x13=>some ((⟨x1.1,cell,size,x13.1⟩:eM),(x13.2.1,x13.2.2))) (fun x=>mA x.1∧Cu b x.2.1):=fun i h size hi hs=>
        .bind (below hi (by omega)) fun v ⟨hv,h4⟩=>.ret ⟨⟨hk7,h2,h3,by rw [if_pos q1];exact⟨hs,by (try simp only);omega⟩⟩,h4⟩
      refine .bind (below hc' (by omega)) fun s ⟨hs,h4⟩=>.bind (aEA h4 (by omega)) fun o h5=>.ite (fun _=>.bind (PH h5 (by decide) (by decide)) fun p ⟨hp,h6⟩=>fin _ _ _ h6 (by simp at hp;omega)) (fun _=>fin _ _ _ h5 (by rw [aR (by omega) (by omega)];omega))
    · have q1:¬x1.1=1:=by simpa using q
      exact .ret ⟨⟨hk7,h2,h3,by rw [if_neg q1];exact⟨rfl,rfl⟩⟩,hc'⟩
  refine .ite (fun q=>?_) (fun q=>?_)
  · refine .bind (PH h1 (by decide) (by decide)) fun x ⟨hx,h2⟩=>key _ _ _ h2 (.inl (of_decide_eq_true q)) (by simp at hx;omega)
  · exact key _ _ _ h1 (.inr rfl) (by omega)
theorem aTI{m:Int}(hm:0≤m∧m≤12):gW (BW ⟨b,i,h⟩ m) (fun x=>(x.1.length=3∧∀q∈x.1,q.gH.length≤m∧∀o∈q.gH,mA o)∧Cu b x.2.1):=by
  unfold BW
  refine .bind (P:=fun x=>(x.1.length=3∧∀q∈x.1,q.gH.length≤m∧∀o∈q.gH,mA o)∧Cu b x.2.1) (.loop (fun s=>3 - s.2.1.toNat) (fun s=>((s.1.length:Int)=s.2.1∧s.2.1≤3∧∀q∈s.1,q.gH.length≤m∧∀o∈q.gH,mA o)∧Cu b s.2.2.1) ⟨⟨rfl,by simp,by simp⟩,hc⟩ ?_) fun x hx=>.ret hx
  rintro⟨l,k,i',h'⟩ ⟨⟨e,k3,hq⟩,hi⟩
  simp only at e k3 hq hi
  simp only [KL]
  refine .ite (fun q=>?_) (fun q=>?_)
  · have q':=of_decide_eq_true q
    rw [aR (x:=m+1) (by omega) (by omega)]
    refine .bind (below hi (by omega)) fun n ⟨hn,h1⟩=>?_
    refine .bind (P:=fun x=>((x.2.2.length:Int)≤m∧∀o∈x.2.2,mA o)∧Cu b x.1) (.loop (fun s=>s.1.toNat) (fun s=>(0≤s.1∧s.1+s.2.2.2.length≤m∧∀o∈s.2.2.2,mA o)∧Cu b s.2.1) ⟨⟨hn.1,by simp;omega,by simp⟩,h1⟩ ?_) ?_
    · rintro⟨n,i1,h1,ops⟩ ⟨⟨n0,n1,ho⟩,hi1⟩
      simp only at n0 n1 ho hi1
      simp only [KJ,BV]
      refine .ite (fun q=>?_) (fun q=>?_)
      · have q1:=of_decide_eq_true q
        refine .bind (opD hi1) fun o ⟨h2,h3⟩=>.need (by simp;omega) (.ret ?_)
        rw [aR (by omega) (by omega)]
        refine⟨⟨⟨by (try simp only);omega,by simp;omega,?_⟩,h3⟩,by (try simp only);omega⟩
        intro x hx
        rcases List.mem_append.1 hx with hx | hx
        · exact ho x hx
        · rw [List.mem_singleton.1 hx];exact h2
      · have q1:¬0 < n:=by simpa using q
        exact .ret ⟨⟨by (try simp only);omega,ho⟩,hi1⟩
    · rintro⟨i1,h1,ops⟩ ⟨⟨o1,o2⟩,hi1⟩
      simp only [KK,KI]
      refine .need (by simp;omega) (.ret ?_)
      rw [aR (by omega) (by omega)]
      refine⟨⟨⟨by simp;omega,by (try simp only);omega,?_⟩,hi1⟩,by (try simp only);omega⟩
      intro x hx
      rcases List.mem_append.1 hx with hx | hx
      · exact hq x hx
      · rw [List.mem_singleton.1 hx];exact⟨o1,o2⟩
  · have q':¬k < 3:=by simpa using q
    exact .ret ⟨⟨by (try simp only);omega,hq⟩,hi⟩
end
end Go.Gv
end
noncomputable section
namespace Go.Gv
theorem aGU{c:aK}(hc:PF c){w v:Int}(hw:0≤w∧w≤2)(hv:0≤v∧v≤2)(e:Int)(x:iI):xS ⟨e,c.bG.set w.toNat x⟩ v=if v=w then x else xS c v:=by
  have h3:=hc.2.1
  unfold xS
  simp only [List.getD_eq_getElem?_getD,List.getElem?_set]
  by_cases q:v=w
  · subst q;simp [show v.toNat < c.bG.length by omega]
  · rw [if_neg q,if_neg (by omega)]
def SG(j:bX):Prop:=j.gG=true∧(j.Op.Kind=2∨j.Op.Kind=5)∧j.Pc=0
def Adv(j:bX):Prop:=j.gG=true∧j.Op.Kind=4∧j.Pc=0
def JI(e:Int)(p:iI)(j:bX):Prop:=j.gG=true →
  (j.Op.Kind=1→j.Sub.Kind=1∨j.Sub.Kind=2)∧(j.Op.Kind=4→j.Pc=1→j.Sub.Kind=4) ∧
  (Adv j→j.Sub.Kind=3∧j.Sub.cQ=false∧(j.Sub.Pc=0∨j.Sub.E≤e∧(j.Sub.Pc=1∧(0≤j.Sub.B∧j.Sub.B≤2)∨j.Sub.Pc=2∧j.Sub.B=3))) ∧
  (SG j→j.Sub.Kind=5∧j.Sub.cQ=false∧(j.Sub.Pc=0∨j.Sub.Pc=1∧(0≤j.Sub.E∧j.Sub.E≤e)∨j.Sub.Pc=2∧p.aM=j.Sub.E))
def Calm(j:bX):Prop:=¬SG j∧¬Adv j∧(j.Op.Kind=1→j.Sub.Kind=1∨j.Sub.Kind=2)∧(j.Op.Kind=4→j.Pc=1→j.Sub.Kind=4)
theorem Calm.ji{j:bX}(h:Calm j)(e:Int)(p:iI):JI e p j:=fun _=>⟨h.2.2.1,h.2.2.2,fun q=>absurd q h.2.1,fun q=>absurd q h.1⟩
def Ep(c:aK)(J:Int→bX):Prop:=(∀w,0≤w∧w≤2→JI c.aM (xS c w) (J w))∧∀p,0≤p∧p≤2→¬SG (J p)→(xS c p).On=true→(xS c p).fG=false→c.aM≤(xS c p).aM+1∧(c.aM=(xS c p).aM+1→∀a,0≤a∧a≤2→Adv (J a)→(J a).Sub.Pc≠0→(J a).Sub.E=c.aM→(J a).Sub.B≤p)
def upJ(J:Int→bX)(w:Int)(j:bX):Int→bX:=fun v=>if v=w then j else J v
theorem aEB(J:Int→bX)(w:Int)(j:bX):upJ J w j w=j:=if_pos rfl
theorem X8(J:Int→bX){w v:Int}(j:bX)(h:v≠w):upJ J w j v=J v:=if_neg h
noncomputable section
variable {c:aK} {J:Int→bX} (h:Ep c J)
include h
theorem Ep.congr{J':Int→bX}(e:∀v,0≤v∧v≤2→J' v=J v):Ep c J':=by
  refine⟨fun w hw=>by rw [e w hw];exact h.1 w hw,fun p hp hn h1 h2=>?_⟩
  rw [e p hp] at hn
  obtain⟨a1,a2⟩:=h.2 p hp hn h1 h2
  exact⟨a1,fun q a ha=>by rw [e a ha];exact a2 q a ha⟩
variable {w:Int} (hw:0≤w∧w≤2) {j:bX}
include hw
theorem Ep.step{c':aK}(he:c'.aM=c.aM)(hp:∀v,0≤v∧v≤2→v≠w→xS c' v=xS c v)(hj:JI c.aM (xS c' w) j)
    (h2:¬SG j→(xS c' w).On=true→(xS c' w).fG=false→c.aM≤(xS c' w).aM+1∧(c.aM=(xS c' w).aM+1→∀a,0≤a∧a≤2→a≠w→Adv (J a)→(J a).Sub.Pc≠0→(J a).Sub.E=c.aM→(J a).Sub.B≤w))
    (ha:Adv j→j.Sub.Pc=0∨j.Sub.B=0):Ep c' (upJ J w j):=by
  constructor
  · intro v hv
    rw [he]
    by_cases q:v=w
    · subst q;rw [aEB];exact hj
    · rw [X8 _ _ q,hp v hv q];exact h.1 v hv
  · intro p hpr hn o1 o2
    rw [he]
    have hadv:∀a,0≤a∧a≤2→(∀q:a≠w,Adv (J a)→(J a).Sub.Pc≠0→(J a).Sub.E=c.aM→(J a).Sub.B≤p)→Adv (upJ J w j a)→(upJ J w j a).Sub.Pc≠0→(upJ J w j a).Sub.E=c.aM→(upJ J w j a).Sub.B≤p:=by
      intro a har hk
      by_cases q:a=w
      · subst q
        rw [aEB]
        intro x1 x2 _
        rcases ha x1 with y | y
        · exact absurd y x2
        · omega
      · rw [X8 _ _ q];exact hk q
    by_cases q:p=w
    · subst q
      rw [aEB] at hn
      obtain⟨a1,a2⟩:=h2 hn o1 o2
      exact⟨a1,fun e a har=>hadv a har (fun q=>a2 e a har q)⟩
    · rw [X8 _ _ q] at hn
      rw [hp p hpr q] at o1 o2 ⊢
      obtain⟨a1,a2⟩:=h.2 p hpr hn o1 o2
      exact⟨a1,fun e a har=>hadv a har (fun _=>a2 e a har)⟩
theorem Ep.pin{b:aD}(hb:b.aK=c)(hc:PF c)(hj:J w=j)(hP:SG j){fin:bX}(hf:Calm fin) :
    Ep (aTH b w j.Sub).1.aK (upJ J w (if (aTH b w j.Sub).2.cQ then fin else {j with Sub:=(aTH b w j.Sub).2})):=by
  have hji:=h.1 w hw
  rw [hj] at hji
  have hk5:=hP.2.1
  obtain⟨k,d,hpc⟩:=(hji hP.1).2.2.2 hP
  have noadv:∀s:Sub,¬Adv {j with Sub:=s}:=fun s q=>by have:=q.2.1;simp only at this;omega
  have hP':∀s:Sub,SG {j with Sub:=s}:=fun s=>hP
  have mk:∀(s:Sub) (p:iI),(s.Kind=5∧s.cQ=false∧(s.Pc=0∨s.Pc=1∧(0≤s.E∧s.E≤c.aM)∨s.Pc=2∧p.aM=s.E))→JI c.aM p {j with Sub:=s}:=fun s p hs _=>⟨fun q=>by simp only at q;omega,fun q=>by simp only at q;omega,fun q=>absurd q (noadv s),fun _=>hs⟩
  unfold aTH
  rw [hb]
  rcases hpc with p0 | ⟨p1,e0,e1⟩ | ⟨p2,pe⟩
  · simp only [if_pos p0,d,a9,if_false,hb]
    exact h.step hw rfl (fun _ _ _=>rfl) (mk _ _ ⟨k,rfl,.inr (.inl ⟨rfl,hc.1.1,Int.le_refl _⟩)⟩) (fun q=>absurd (hP' _) q) (fun q=>absurd q (noadv _))
  · have hpt:aD9 c w j.Sub.E=(⟨c.aM,c.bG.set w.toNat ⟨true,j.Sub.E,false,0⟩⟩,true):=by unfold aD9;rw [if_pos ⟨e0,e1⟩]
    simp only [if_neg (show ¬j.Sub.Pc=0 by omega),if_pos p1,hpt,if_true,d,a9,if_false]
    exact h.step hw rfl (fun v hv hvw=>by rw [aGU hc hw hv,if_neg hvw]) (mk _ _ ⟨k,rfl,.inr (.inr ⟨rfl,by rw [aGU hc hw hw,if_pos rfl]⟩)⟩) (fun q=>absurd (hP' _) q) (fun q=>absurd q (noadv _))
  · simp only [if_neg (show ¬j.Sub.Pc=0 by omega),if_neg (show ¬j.Sub.Pc=1 by omega),if_pos p2]
    by_cases q:c.aM=j.Sub.E
    · simp only [if_pos q,aTG,if_true,hb]
      exact h.step hw rfl (fun _ _ _=>rfl) (hf.ji _ _) (fun _ _ _=>⟨by omega,fun e=>by omega⟩) (fun q=>absurd q hf.2.1)
    · simp only [if_neg q,d,a9,if_false,hb]
      exact h.step hw rfl (fun _ _ _=>rfl) (mk _ _ ⟨k,rfl,.inl rfl⟩) (fun q=>absurd (hP' _) q) (fun q=>absurd q (noadv _))
end
end Go.Gv
end
noncomputable section
namespace Go.Gv
noncomputable section
variable (s:aC) (w:Int) (j:bX)
end
noncomputable section
variable {s:aC} (hs:uN s) {w:Int} (hw:0≤w∧w≤2) (h:Ep s.aD.aK (aUH s))
include hs hw h
end
def aRF(s:aC)(k:Nat):Prop:=(xS s.aD.aK k).On=true∧(aUH s k).gG=false
instance (s:aC) (k:Nat):Decidable (aRF s k):=by unfold aRF;infer_instance
end Go.Gv
end
