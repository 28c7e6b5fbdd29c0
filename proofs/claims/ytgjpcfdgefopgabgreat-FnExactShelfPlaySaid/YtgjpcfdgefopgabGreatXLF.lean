import Derived.Test.YtgjpcfdgefopgabGreatXLE
set_option linter.unusedVariables false
set_option linter.unusedSimpArgs false
set_option linter.unusedSectionVars false
set_option linter.constructorNameAsVariable false
set_option linter.unnecessarySimpa false
noncomputable section
set_option linter.unusedVariables false
set_option linter.unusedSimpArgs false
set_option linter.unusedSectionVars false
namespace Go.Gv
def cJ(l:List aG):List Int:=l.flatMap aG.aO
def dS(l:aA):List Int:=cJ l.Global++cJ l.aU
def ZT(l:aA):Prop:=l.Global.length=3∧l.aU.length=9∧(∀s∈l.aU,s.aO.length≤2)∧(∀x∈dS l,0≤x∧x≤23)∧(dS l).Nodup
instance (l:aA):Decidable (ZT l):=by unfold ZT;infer_instance
theorem I7{l:List aG}{k:Nat}(h:k < l.length):cJ (l.take (k+1))=cJ (l.take k)++l[k].aO:=by
  unfold cJ
  rw [List.take_succ_eq_append_getElem h,List.flatMap_append];simp
theorem aDL(l:List aG)(k:Nat):(cJ (l.take k)).length≤(cJ l).length:=by
  have:cJ l=cJ (l.take k)++cJ (l.drop k):=by
    unfold cJ;rw [←List.flatMap_append,List.take_append_drop]
  rw [this];simp
theorem NA(l:List aG){k:Nat}(h:k < l.length):l[k].aO.length≤(cJ l).length:=by
  have h1:=aDL l (k+1)
  rw [I7 h] at h1
  simp at h1;omega
theorem OZ{l:aA}(h:(dS l).length≤1073741824)(hg:l.Global.length≤maxLen)(ho:l.aU.length≤maxLen):D4 l=some (dS l):=by
  have hsum:(cJ l.Global).length+(cJ l.aU).length≤1073741824:=by simpa [dS] using h
  unfold D4
  have k1:loop (tG l) ([],0)=some (cJ l.Global):=by
    refine fT (f:=tG l) l.Global.length (fun k=>(cJ (l.Global.take k),(k:Int))) _ (fun k hk=>?_) ?_
    · have h1:=aDL l.Global (k+1)
      rw [I7 hk] at h1
      simp only [tG]
      rw [if_pos (by simp;omega),aS hk]
      simp only [Option.bind_some]
      rw [aR (by simp at h1;omega),I7 hk,cY (eE hk hg)]
    · simp [tG]
  rw [k1]
  simp only [Option.bind_some,OB,OA]
  have k2:loop (tF l) (cJ l.Global,0)=some (dS l):=by
    have:=fT (f:=tF l) l.aU.length (fun k=>(cJ l.Global++cJ (l.aU.take k),(k:Int))) (dS l) (fun k hk=>?_) ?_
    · simpa [cJ] using this
    · have h1:=aDL l.aU (k+1)
      rw [I7 hk] at h1
      simp only [tF]
      rw [if_pos (by simp;omega),aS hk]
      simp only [Option.bind_some]
      rw [aR (by simp at h1 ⊢;omega),I7 hk,cY (eE hk ho),List.append_assoc]
    · simp [tF,dS]
  rw [k2];rfl
theorem O0{l:List Int}(hl:l.length≤maxLen)(x:Int):D5 l x=some (decide (x∈l)):=by
  unfold D5
  have key:loop (pE l x) 0=some (if ∀y∈l,y≠x then Out.brk () else Out.ret true):=by
    refine lB (f:=pE l x) l (fun k=>(k:Int)) (fun y=>y≠x) _ _ (fun k h hp=>?_) (fun k h hp=>?_) ?_
    · simp only [pE]
      rw [if_pos (by simp;omega),aS h,cY (eE h hl)]
      have:(l[k] == x)=false:=by simpa using hp
      simp only [Option.bind_some,this,Bool.false_eq_true,if_false]
    · simp only [pE]
      rw [if_pos (by simp;omega),aS h]
      have:(l[k] == x)=true:=by simpa using hp
      simp only [Option.bind_some,this,if_true]
    · simp [pE]
  rw [key]
  by_cases h:x∈l
  · rw [if_neg (fun q=>q x h rfl),decide_eq_true h];rfl
  · rw [if_pos (fun y hy (e:y=x)=>h (e ▸ hy)),decide_eq_false h];rfl
theorem Y7(l:List Int):l.Nodup↔∀k (h:k < l.length),l[k]∉l.take k:=by
  unfold List.Nodup
  rw [List.pairwise_iff_getElem]
  constructor
  · intro h k hk hm
    obtain⟨i,hi,he⟩:=List.mem_take_iff_getElem.1 hm
    exact h i k (by omega) hk (by omega) he
  · intro h i j hi hj hij he
    exact h j hj (List.mem_take_iff_getElem.2 ⟨i,by omega,he⟩)
theorem VH{l:aA}(h:(dS l).length≤1073741824):CH l=some (decide (ZT l)):=by
  unfold CH uM
  by_cases hg:l.Global.length=3
  · by_cases ho:l.aU.length=9
    · have n1:((l.Global.length:Int) != 3)=false:=by simp;omega
      have n2:((l.aU.length:Int) != 9)=false:=by simp;omega
      simp only [n1,n2,Bool.false_eq_true,if_false]
      have k1:loop (kV l) 0=some (if ∀s∈l.aU,s.aO.length≤2 then Out.brk () else Out.ret false):=by
        refine lB (f:=kV l) l.aU (fun k=>(k:Int)) (fun s=>s.aO.length≤2) _ _ (fun k hk hp=>?_) (fun k hk hp=>?_) ?_
        · simp only [kV]
          rw [if_pos (by simp;omega),aS hk,aV (by omega) (by omega)]
          simp only [Option.bind_some]
          rw [if_neg (by simp;omega)];rfl
        · simp only [kV]
          rw [if_pos (by simp;omega),aS hk]
          simp only [Option.bind_some]
          rw [if_pos (by simp;omega)]
        · simp [kV]
      rw [k1]
      by_cases h2:∀s∈l.aU,s.aO.length≤2
      · rw [if_pos h2]
        simp only [Option.bind_some,KU,KT]
        rw [OZ h (by rw [hg];simp [maxLen]) (by rw [ho];simp [maxLen])]
        simp only [Option.bind_some]
        have k2:loop (kU (dS l)) 0=some (if ∀k,k < (dS l).length→(0≤(dS l).getD k 0∧(dS l).getD k 0≤23)∧(dS l).getD k 0∉(dS l).take k then Out.brk () else Out.ret false):=by
          have hst:∀k,k < (dS l).length→kU (dS l) (k:Int)=if (0≤(dS l).getD k 0∧(dS l).getD k 0≤23)∧(dS l).getD k 0∉(dS l).take k then some (.next ((k+1:Nat):Int)) else some (.stop (Out.ret false)):=by
            intro k hk
            have e:(dS l).getD k 0=(dS l)[k]:=by rw [List.getD_eq_getElem?_getD,List.getElem?_eq_getElem hk];rfl
            rw [e]
            simp only [kU]
            rw [if_pos (by simp;omega),aS hk]
            simp only [Option.bind_some,cK,uL]
            by_cases q:0≤(dS l)[k]∧(dS l)[k]≤23
            · rw [decide_eq_true q]
              simp only [Bool.not_true,Bool.false_eq_true,if_false,Int.toNat_natCast,List.drop_zero]
              rw [aR (by omega),O0 (by simp [maxLen];omega),aV (by omega) (by omega)]
              by_cases q2:(dS l)[k]∈(dS l).take k
              · rw [if_neg (fun x=>x.2 q2),decide_eq_true q2];rfl
              · rw [if_pos ⟨q,q2⟩,decide_eq_false q2];rfl
            · rw [decide_eq_false q];simp only [Bool.not_false,if_true];rw [if_neg (fun x=>q x.1)]
          refine uC (f:=kU (dS l)) (dS l).length (fun k=>(k:Int)) (fun k=>(0≤(dS l).getD k 0∧(dS l).getD k 0≤23)∧(dS l).getD k 0∉(dS l).take k) _ _ (fun k hk hx=>?_) (fun k hk hx=>?_) ?_
          · rw [hst k hk,if_pos hx]
          · rw [hst k hk,if_neg hx]
          · simp [kU]
        rw [k2]
        have hiff:ZT l↔∀k,k < (dS l).length→(0≤(dS l).getD k 0∧(dS l).getD k 0≤23)∧(dS l).getD k 0∉(dS l).take k:=by
          have e:∀k (hk:k < (dS l).length),(dS l).getD k 0=(dS l)[k]:=fun k hk=>by rw [List.getD_eq_getElem?_getD,List.getElem?_eq_getElem hk];rfl
          constructor
          · rintro⟨_,_,_,q1,q2⟩ k hk
            rw [e k hk]
            exact⟨q1 _ (List.getElem_mem hk),(Y7 _).1 q2 k hk⟩
          · intro q
            refine⟨hg,ho,h2,fun x hx=>?_,(Y7 _).2 fun k hk=>?_⟩
            · obtain⟨k,hk,rfl⟩:=List.mem_iff_getElem.1 hx
              have:=(q k hk).1;rw [e k hk] at this;exact this
            · have:=(q k hk).2;rw [e k hk] at this;exact this
        by_cases q:ZT l
        · rw [if_pos (hiff.1 q),decide_eq_true q];rfl
        · rw [if_neg (fun x=>q (hiff.2 x)),decide_eq_false q];rfl
      · rw [if_neg h2,decide_eq_false (fun q:ZT l=>h2 q.2.2.1)];rfl
    · have n1:((l.Global.length:Int) != 3)=false:=by simp;omega
      have n2:((l.aU.length:Int) != 9)=true:=by simp;omega
      simp only [n1,n2,Bool.false_eq_true,if_false,if_true]
      rw [decide_eq_false (fun q:ZT l=>ho q.2.1)]
  · have n1:((l.Global.length:Int) != 3)=true:=by simp;omega
    simp only [n1,if_true]
    rw [decide_eq_false (fun q:ZT l=>hg q.1)]
def uG:List Bool→List Int→Option (List Bool)
  | met,[]=>some met
  | met,x :: r=>if (0≤x∧x≤23)∧met.getD x.toNat true=false then uG (met.set x.toNat true) r else none
theorem aB0:∀{xs:List Int} {met m:List Bool},uG met xs=some m→m.length=met.length
  | [],met,m,h=>by simp [uG] at h;rw [h]
  | x :: r, met, m, h => by
    simp only [uG] at h
    split at h
    · have:=aB0 h;simpa using this
    · cases h
theorem RG:∀(a b:List Int) (met:List Bool),uG met (a++b)=(uG met a).bind fun m=>uG m b
  | [],b,met=>rfl
  | x :: r, b, met => by
    simp only [List.cons_append,uG]
    split
    · exact RG r b _
    · rfl
theorem PY:∀(xs:List Int) (met:List Bool),met.length=24→((uG met xs).isSome=true↔(∀x∈xs,0≤x∧x≤23)∧xs.Nodup∧∀x∈xs,met.getD x.toNat true=false)
  | [],met,hm=>by simp [uG]
  | x :: r, met, hm => by
    simp only [uG]
    by_cases h:(0≤x∧x≤23)∧met.getD x.toNat true=false
    · rw [if_pos h,PY r _ (by simpa using hm)]
      have hset:∀y,0≤y∧y≤23→(((met.set x.toNat true).getD y.toNat true=false)↔(y≠x∧met.getD y.toNat true=false)):=by
        intro y hy
        rw [List.getD_eq_getElem?_getD,List.getD_eq_getElem?_getD]
        by_cases e:y=x
        · subst e;rw [List.getElem?_set_self (by omega)];simp
        · rw [List.getElem?_set_ne (by omega)];simp [e]
      constructor
      · rintro⟨q1,q2,q3⟩
        refine⟨fun y hy=>?_,List.nodup_cons.2 ⟨fun hx=>?_,q2⟩,fun y hy=>?_⟩
        · rcases List.mem_cons.1 hy with rfl | hy
          · exact h.1
          · exact q1 y hy
        · exact((hset x h.1).1 (q3 x hx)).1 rfl
        · rcases List.mem_cons.1 hy with rfl | hy
          · exact h.2
          · exact((hset y (q1 y hy)).1 (q3 y hy)).2
      · rintro⟨q1,q2,q3⟩
        have q2:=List.nodup_cons.1 q2
        refine⟨fun y hy=>q1 y (List.mem_cons_of_mem _ hy),q2.2,fun y hy=>(hset y (q1 y (List.mem_cons_of_mem _ hy))).2 ⟨fun e=>q2.1 (e ▸ hy),q3 y (List.mem_cons_of_mem _ hy)⟩⟩
    · rw [if_neg h]
      constructor
      · intro q;cases q
      · rintro⟨q1,q2,q3⟩
        exact(h ⟨q1 x List.mem_cons_self,q3 x List.mem_cons_self⟩).elim
def aDM:Option (List Bool)→Out (List Bool) Bool
  | some m=>.brk m
  | none=>.ret false
theorem aTS{s:aG}(hl:s.aO.length≤maxLen):∀d k (met:List Bool),k+d=s.aO.length→met.length=24→loop (iY s) ((k:Int),met)=some (aDM (uG met (s.aO.drop k))):=by
  intro d
  induction d with
  | zero =>
    intro k met hk hm
    rw [bX (r:=Out.brk met) (by simp [iY];omega),List.drop_eq_nil_of_le (by omega)];rfl
  | succ d ih =>
    intro k met hk hm
    have hk':k < s.aO.length:=by omega
    have hd:s.aO.drop k=s.aO[k] :: s.aO.drop (k+1):=List.drop_eq_getElem_cons hk'
    have hst:iY s ((k:Int),met)=if (0≤s.aO[k]∧s.aO[k]≤23)∧met.getD s.aO[k].toNat true=false then some (.next (((k+1:Nat):Int),met.set s.aO[k].toNat true)) else some (.stop (Out.ret false)):=by
      simp only [iY]
      rw [if_pos (by simp;omega),aS hk']
      simp only [Option.bind_some,rG]
      generalize s.aO[k]=x
      by_cases q:0≤x∧x≤23
      · obtain⟨j,rfl⟩:=Int.eq_ofNat_of_zero_le q.1
        have hj:j < met.length:=by omega
        have e:met.getD j true=met[j]:=by rw [List.getD_eq_getElem?_getD,List.getElem?_eq_getElem hj];rfl
        simp only [q,and_self,decide_true,Bool.not_true,Bool.false_eq_true,if_false,kW,Int.toNat_natCast,true_and,e]
        rw [aR (by omega),aS hj]
        simp only [Option.bind_some]
        cases met[j]
        · simp only [Bool.false_eq_true,if_false,if_true]
          rw [aR (by omega),cY (eE hk' hl)]
        · simp
      · rw [decide_eq_false q];simp only [Bool.not_false,if_true,kW];rw [if_neg (fun x=>q x.1)]
    rw [hd,uG]
    by_cases q:(0≤s.aO[k]∧s.aO[k]≤23)∧met.getD s.aO[k].toNat true=false
    · rw [if_pos q] at hst ⊢
      rw [bS hst,ih (k+1) _ (by omega) (by simpa using hm)]
    · rw [if_neg q] at hst ⊢
      rw [bX hst];rfl
def TF(l:List aG):Prop:=∀s∈l,s.aO.length≤2
instance (l:List aG):Decidable (TF l):=by unfold TF;infer_instance
theorem aTT{l:aA}(ho:l.aU.length=9)(hn:(l.aU++l.Global).length≤1000)(hs:∀s∈l.aU++l.Global,s.aO.length≤maxLen):∀d k (met:List Bool),k+d=(l.aU++l.Global).length→met.length=24 →
    loop (i3 l) ((k:Int),met)=some (if TF (((l.aU++l.Global).drop k).take (9 - k))∧(uG met (cJ ((l.aU++l.Global).drop k))).isSome=true then Out.brk () else Out.ret false):=by
  intro d
  induction d with
  | zero =>
    intro k met hk hm
    rw [List.drop_eq_nil_of_le (by omega),if_pos ⟨by simp [TF],rfl⟩]
    refine bX ?_
    simp only [i3]
    rw [if_neg (by simp;simp at hk;omega)]
  | succ d ih =>
    intro k met hk hm
    have hk':k < (l.aU++l.Global).length:=by omega
    have hd:(l.aU++l.Global).drop k=(l.aU++l.Global)[k] :: (l.aU++l.Global).drop (k+1):=List.drop_eq_getElem_cons hk'
    have hsk:=hs _ (List.getElem_mem hk')
    have hf:cJ ((l.aU++l.Global).drop k)=(l.aU++l.Global)[k].aO++cJ ((l.aU++l.Global).drop (k+1)):=by unfold cJ;rw [hd,List.flatMap_cons]
    have hin:∀b:Bool,iZ (k:Int) met (l.aU++l.Global)[k] b=if b then some (.stop (Out.ret false)) else (match uG met (l.aU++l.Global)[k].aO with | some m=>some (.next (((k+1:Nat):Int),m)) | none=>some (.stop (Out.ret false))):=by
      intro b
      have h4:=aTS hsk _ 0 met (Nat.zero_add _) hm
      rw [show((0:Nat):Int)=0 from rfl,List.drop_zero] at h4
      unfold iZ
      rw [h4]
      cases b
      · simp only [Bool.false_eq_true,if_false,Option.bind_some]
        cases uG met (l.aU++l.Global)[k].aO with
        | none=>rfl
        | some m=>simp only [aDM,KX,uP];rw [aV (by omega) (by omega)];rfl
      · rfl
    have hst:i3 l ((k:Int),met)=iZ (k:Int) met (l.aU++l.Global)[k] (decide (k < 9∧2 < (l.aU++l.Global)[k].aO.length)):=by
      simp only [i3]
      rw [if_pos (by simp;simp at hk';omega),aS hk']
      simp only [Option.bind_some]
      by_cases h9:k < 9
      · rw [if_pos (by simp;omega)]
        congr 1
        rw [Bool.eq_iff_iff];simp only [decide_eq_true_eq];omega
      · rw [if_neg (by simp;omega),decide_eq_false (by omega)]
    rw [hin] at hst
    by_cases h2:k < 9∧2 < (l.aU++l.Global)[k].aO.length
    · rw [decide_eq_true h2] at hst
      simp only [if_true] at hst
      rw [bX hst,if_neg]
      rintro⟨q,_⟩
      have e:9 - k=(9 - (k+1))+1:=by omega
      rw [hd,e,List.take_succ_cons] at q
      have:=q _ List.mem_cons_self
      omega
    · rw [decide_eq_false h2] at hst
      simp only [Bool.false_eq_true,if_false] at hst
      have hcond:TF (((l.aU++l.Global).drop k).take (9 - k))↔TF (((l.aU++l.Global).drop (k+1)).take (9 - (k+1))):=by
        unfold TF
        by_cases h9:k < 9
        · have e:9 - k=(9 - (k+1))+1:=by omega
          rw [hd,e,List.take_succ_cons,List.forall_mem_cons]
          exact⟨fun q=>q.2,fun q=>⟨by omega,q⟩⟩
        · have e:9 - k=0:=by omega
          have e':9 - (k+1)=0:=by omega
          rw [e,e'];simp
      rw [hf,RG]
      cases hg:uG met (l.aU++l.Global)[k].aO with
      | none =>
        rw [hg] at hst
        rw [bX hst,if_neg (by simp)]
      | some m =>
        rw [hg] at hst
        rw [bS hst,ih (k+1) m (by omega) (by rw [aB0 hg];exact hm)]
        simp only [Option.bind_some,hcond]
theorem LG{l:aA}(h:(dS l).length≤1073741824):hC l=some (decide (ZT l)):=by
  unfold hC oY
  by_cases hg:l.Global.length=3
  · by_cases ho:l.aU.length=9
    · have n1:((l.Global.length:Int) != 3)=false:=by simp;omega
      have n2:((l.aU.length:Int) != 9)=false:=by simp;omega
      simp only [n1,n2,Bool.false_eq_true,if_false]
      rw [aR (by omega)]
      have hsl:∀s∈l.aU++l.Global,s.aO.length≤maxLen:=by
        intro s hm
        have hsum:(cJ l.Global).length+(cJ l.aU).length≤1073741824:=by simpa [dS] using h
        have hb:(1073741824:Nat)≤maxLen:=by simp [maxLen]
        rcases List.mem_append.1 hm with hm | hm
        · obtain⟨k,hk,rfl⟩:=List.mem_iff_getElem.1 hm
          have:=NA l.aU hk;omega
        · obtain⟨k,hk,rfl⟩:=List.mem_iff_getElem.1 hm
          have:=NA l.Global hk;omega
      have key:=aTT ho (by simp;omega) hsl (l.aU++l.Global).length 0 [false,false,false,false,false,false,false,false,false,false,false,false,false,false,false,false,false,false,false,false,false,false,false,false] (by omega) rfl
      rw [show((0:Nat):Int)=0 from rfl,List.drop_zero,Nat.sub_zero] at key
      rw [key]
      have et:(l.aU++l.Global).take 9=l.aU:=by rw [←ho];simp
      have ef:cJ (l.aU++l.Global)=cJ l.aU++cJ l.Global:=by simp [cJ]
      have hm0:∀j:Nat,j < 24→[false,false,false,false,false,false,false,false,false,false,false,false,false,false,false,false,false,false,false,false,false,false,false,false].getD j true=false:=by decide
      have hiff:ZT l↔TF ((l.aU++l.Global).take 9)∧(uG [false,false,false,false,false,false,false,false,false,false,false,false,false,false,false,false,false,false,false,false,false,false,false,false] (cJ (l.aU++l.Global))).isSome=true:=by
        rw [PY _ _ rfl,et,ef]
        have hp:(cJ l.aU++cJ l.Global).Perm (dS l):=List.perm_append_comm
        constructor
        · rintro⟨_,_,q1,q2,q3⟩
          exact⟨q1,fun x hx=>q2 x (hp.mem_iff.1 hx),hp.nodup_iff.2 q3,fun x hx=>hm0 _ (by have:=q2 x (hp.mem_iff.1 hx);omega)⟩
        · rintro⟨q1,q2,q3,_⟩
          exact⟨hg,ho,q1,fun x hx=>q2 x (hp.mem_iff.2 hx),hp.nodup_iff.1 q3⟩
      by_cases q:ZT l
      · rw [if_pos (hiff.1 q),decide_eq_true q];rfl
      · rw [if_neg (fun x=>q (hiff.2 x)),decide_eq_false q];rfl
    · have n1:((l.Global.length:Int) != 3)=false:=by simp;omega
      have n2:((l.aU.length:Int) != 9)=true:=by simp;omega
      simp only [n1,n2,Bool.false_eq_true,if_false,if_true]
      rw [decide_eq_false (fun q:ZT l=>ho q.2.1)]
  · have n1:((l.Global.length:Int) != 3)=true:=by simp;omega
    simp only [n1,if_true]
    rw [decide_eq_false (fun q:ZT l=>hg q.1)]
end Go.Gv
end
noncomputable section
set_option linter.unusedVariables false
set_option linter.unusedSimpArgs false
set_option linter.unusedSectionVars false
namespace Go.Gv
def yV(h:aC)(l:List Int)(c:Int):Prop:=∀x∈l,bL h x=c∧l7 h x≤6
instance (h:aC) (l:List Int) (c:Int):Decidable (yV h l c):=by unfold yV;infer_instance
theorem I8{h:aC}(hs:eQ h){l:List Int}(hl:l.length≤maxLen){c:Int}(hc:0≤c):tI h l c=some (decide (yV h l c)):=by
  unfold tI
  have key:loop (jW h l c) 0=some (if ∀x∈l,bL h x=c∧l7 h x≤6 then Out.brk () else Out.ret false):=by
    have hst:∀k (hk:k < l.length),jW h l c (k:Int)=if bL h l[k]=c∧l7 h l[k]≤6 then some (.next ((k+1:Nat):Int)) else some (.stop (Out.ret false)):=by
      intro k hk
      simp only [jW]
      rw [if_pos (by simp;omega),aS hk]
      generalize l[k]=x
      simp only [Option.bind_some,lC hs,rT]
      by_cases q:bL h x=c
      · have n1:(bL h x != c)=false:=by simp only [bne_eq_false_iff_eq];exact q
        simp only [n1,Bool.false_eq_true,if_false,uF hs (show 0≤bL h x by omega),Option.bind_some,cY (eE hk hl)]
        by_cases q2:l7 h x≤6
        · rw [if_neg (by simp;omega),if_pos ⟨q,q2⟩]
        · rw [if_pos (by simp;omega),if_neg (fun x=>q2 x.2)]
      · have n1:(bL h x != c)=true:=by simp only [bne_iff_ne];exact q
        simp only [n1,if_true]
        rw [if_neg (fun x=>q x.1)]
    refine lB (f:=jW h l c) l (fun k=>(k:Int)) (fun x=>bL h x=c∧l7 h x≤6) _ _ (fun k hk hp=>?_) (fun k hk hp=>?_) ?_
    · rw [hst k hk,if_pos hp]
    · rw [hst k hk,if_neg hp]
    · simp [jW]
  rw [key]
  by_cases q:∀x∈l,bL h x=c∧l7 h x≤6
  · rw [if_pos q,decide_eq_true (show yV h l c from q)];rfl
  · rw [if_neg q,decide_eq_false (show ¬yV h l c from q)];rfl
theorem I9{h:aC}(hs:eQ h){s:aG}(hl:s.aO.length≤maxLen){c:Int}(hc:0≤c):tU h s c=some (decide (yV h s.aO c)):=by
  unfold tU
  have key:loop (j4 h s c) 0=some (if ∀x∈s.aO,bL h x=c∧l7 h x≤6 then Out.brk () else Out.ret false):=by
    have hst:∀k (hk:k < s.aO.length),j4 h s c (k:Int)=if bL h s.aO[k]=c∧l7 h s.aO[k]≤6 then some (.next ((k+1:Nat):Int)) else some (.stop (Out.ret false)):=by
      intro k hk
      simp only [j4]
      rw [if_pos (by simp;omega),aS hk]
      generalize s.aO[k]=x
      simp only [Option.bind_some,i9 hs,sD]
      by_cases q:bL h x=c
      · have n1:(bL h x != c)=false:=by simp only [bne_eq_false_iff_eq];exact q
        simp only [n1,Bool.false_eq_true,if_false,AU hs (show 0≤bL h x by omega),Option.bind_some,cY (eE hk hl)]
        by_cases q2:l7 h x≤6
        · rw [if_neg (by simp;omega),if_pos ⟨q,q2⟩]
        · rw [if_pos (by simp;omega),if_neg (fun x=>q2 x.2)]
      · have n1:(bL h x != c)=true:=by simp only [bne_iff_ne];exact q
        simp only [n1,if_true]
        rw [if_neg (fun x=>q x.1)]
    refine lB (f:=j4 h s c) s.aO (fun k=>(k:Int)) (fun x=>bL h x=c∧l7 h x≤6) _ _ (fun k hk hp=>?_) (fun k hk hp=>?_) ?_
    · rw [hst k hk,if_pos hp]
    · rw [hst k hk,if_neg hp]
    · simp [j4]
  rw [key]
  by_cases q:∀x∈s.aO,bL h x=c∧l7 h x≤6
  · rw [if_pos q,decide_eq_true (show yV h s.aO c from q)];rfl
  · rw [if_neg q,decide_eq_false (show ¬yV h s.aO c from q)];rfl
def iT(l:List aG)(k:Nat):List Int:=(l.getD k ⟨[]⟩).aO
theorem eW{l:List aG}{k:Nat}(h:k < l.length):l[k].aO=iT l k:=by
  unfold iT;rw [List.getD_eq_getElem?_getD,List.getElem?_eq_getElem h];rfl
def E8(m:Mem)(k:Nat):Prop:=yV m.aC (iT m.aA.Global k) (k:Int)
def yW(m:Mem)(k:Nat):Prop:=yV m.aC (iT m.aA.aU k) ((k % 3:Nat):Int)
instance (m:Mem) (k:Nat):Decidable (E8 m k):=by unfold E8;infer_instance
instance (m:Mem) (k:Nat):Decidable (yW m k):=by unfold yW;infer_instance
instance (m:Mem):Decidable (∀k,k < 3→E8 m k):=Nat.decidableBallLT 3 fun k _=>E8 m k
instance (m:Mem):Decidable (∀k,k < 9→yW m k):=Nat.decidableBallLT 9 fun k _=>yW m k
instance (m:Mem) (c:Nat):Decidable (∀w,w < 3→yW m (w * 3+c)):=Nat.decidableBallLT 3 fun w _=>yW m (w * 3+c)
instance (m:Mem):Decidable (∀k,k < 3→E8 m k∧∀w,w < 3→yW m (w * 3+k)):=Nat.decidableBallLT 3 fun k _=>E8 m k∧∀w,w < 3→yW m (w * 3+k)
def wI(m:Mem):Prop:=(S4 m.aC∧ZT m.aA)∧(∀k,k < 3→E8 m k)∧∀k,k < 9→yW m k
instance (m:Mem):Decidable (wI m):=by unfold wI;infer_instance
theorem ZT.TG{l:aA}(h:ZT l)(hb:(dS l).length≤1073741824):(∀s∈l.Global,s.aO.length≤1073741824)∧∀s∈l.aU,s.aO.length≤1073741824:=by
  have hsum:(cJ l.Global).length+(cJ l.aU).length≤1073741824:=by simpa [dS] using hb
  constructor
  · intro s hm
    obtain⟨k,hk,rfl⟩:=List.mem_iff_getElem.1 hm
    have:=NA l.Global hk;omega
  · intro s hm
    obtain⟨k,hk,rfl⟩:=List.mem_iff_getElem.1 hm
    have:=NA l.aU hk;omega
theorem aIP{m:Mem}:(∀k,k < 3→E8 m k∧∀w,w < 3→yW m (w * 3+k))↔(∀k,k < 3→E8 m k)∧∀k,k < 9→yW m k:=by
  constructor
  · intro h
    refine⟨fun k hk=>(h k hk).1,fun k hk=>?_⟩
    have:=(h (k % 3) (by omega)).2 (k / 3) (by omega)
    have e:k / 3 * 3+k % 3=k:=by omega
    rwa [e] at this
  · rintro⟨h1,h2⟩ k hk
    exact⟨h1 k hk,fun w hw=>h2 _ (by omega)⟩
theorem aA9{m:Mem}(hb:m.aC.Bytes.length≤maxLen)(hl:(dS m.aA).length≤1073741824):JV m=some (decide (wI m)):=by
  unfold JV zU
  rw [Y6 hb,VH hl]
  by_cases h1:S4 m.aC
  · by_cases h2:ZT m.aA
    · have hmx:(1073741824:Nat)≤maxLen:=by simp [maxLen]
      have hsl:=ZT.TG h2 hl
      simp only [decide_eq_true h1,decide_eq_true h2,Option.bind_some,Bool.not_true,Bool.false_eq_true,if_false]
      have k3:∀c:Nat,c < 3→loop (tJ m (c:Int)) 0=some (if ∀w,w < 3→yW m (w * 3+c) then Out.brk () else Out.ret false):=by
        intro c hc
        have hst:∀w:Nat,w < 3→tJ m (c:Int) (w:Int)=if yW m (w * 3+c) then some (.next ((w+1:Nat):Int)) else some (.stop (Out.ret false)):=by
          intro w hw
          have hk:w * 3+c < m.aA.aU.length:=by rw [h2.2.1];omega
          have e:qE (w:Int) (c:Int)=some ((w * 3+c:Nat):Int):=by
            unfold qE tD
            rw [cK,cK,decide_eq_true (by omega),decide_eq_true (by omega)]
            simp only [Option.bind_some,Bool.not_true,Bool.false_eq_true,if_false]
            rw [aV (x:=(w:Int) * 3) (by omega) (by omega),aV (by omega) (by omega)];rfl
          have hlen:=hsl.2 _ (List.getElem_mem hk)
          simp only [tJ]
          rw [if_pos (by simp;omega),e]
          simp only [Option.bind_some,aS hk]
          rw [I8 h1.1 (by omega) (by omega),eW hk]
          have em:(w * 3+c) % 3=c:=by omega
          have ho:yW m (w * 3+c)↔yV m.aC (iT m.aA.aU (w * 3+c)) (c:Int):=by unfold yW;rw [em]
          rw [aV (by omega) (by omega)]
          by_cases q:yW m (w * 3+c)
          · rw [if_pos q,decide_eq_true (ho.1 q)];rfl
          · rw [if_neg q,decide_eq_false (fun x=>q (ho.2 x))];rfl
        refine uC (f:=tJ m (c:Int)) 3 (fun k=>(k:Int)) (fun w=>yW m (w * 3+c)) _ _ (fun k hk hx=>?_) (fun k hk hx=>?_) ?_
        · rw [hst k hk,if_pos hx]
        · rw [hst k hk,if_neg hx]
        · rfl
      have k2:loop (tK m) 0=some (if ∀k,k < 3→E8 m k∧∀w,w < 3→yW m (w * 3+k) then Out.brk () else Out.ret false):=by
        have hst:∀c:Nat,c < 3→tK m (c:Int)=if E8 m c∧∀w,w < 3→yW m (w * 3+c) then some (.next ((c+1:Nat):Int)) else some (.stop (Out.ret false)):=by
          intro c hc
          have hk:c < m.aA.Global.length:=by rw [h2.1];omega
          have hlen:=hsl.1 _ (List.getElem_mem hk)
          simp only [tK]
          rw [if_pos (by simp;omega)]
          simp only [Option.bind_some,aS hk]
          rw [I8 h1.1 (by omega) (by omega),eW hk,k3 c hc]
          by_cases q:E8 m c
          · have q':yV m.aC (iT m.aA.Global c) (c:Int):=q
            rw [decide_eq_true q']
            simp only [Option.bind_some,Bool.not_true,Bool.false_eq_true,if_false]
            by_cases q2:∀w,w < 3→yW m (w * 3+c)
            · rw [if_pos q2,if_pos ⟨q,q2⟩]
              simp only [OD,OC]
              rw [aV (by omega) (by omega)];rfl
            · rw [if_neg q2,if_neg (fun x=>q2 x.2)];rfl
          · have q':¬yV m.aC (iT m.aA.Global c) (c:Int):=q
            rw [decide_eq_false q',if_neg (fun x:E8 m c∧_=>q x.1)];rfl
        refine uC (f:=tK m) 3 (fun k=>(k:Int)) (fun k=>E8 m k∧∀w,w < 3→yW m (w * 3+k)) _ _ (fun k hk hx=>?_) (fun k hk hx=>?_) ?_
        · rw [hst k hk,if_pos hx]
        · rw [hst k hk,if_neg hx]
        · rfl
      rw [k2]
      by_cases q:∀k,k < 3→E8 m k∧∀w,w < 3→yW m (w * 3+k)
      · rw [if_pos q,decide_eq_true (show wI m from ⟨⟨h1,h2⟩,aIP.1 q⟩)];rfl
      · rw [if_neg q,decide_eq_false (fun x:wI m=>q (aIP.2 x.2))];rfl
    · rw [decide_eq_false (fun q:wI m=>h2 q.1.2),decide_eq_true h1,decide_eq_false h2];rfl
  · rw [decide_eq_false (fun q:wI m=>h1 q.1.1),decide_eq_false h1];rfl
theorem aBA{m:Mem}(hb:m.aC.Bytes.length≤maxLen)(hl:(dS m.aA).length≤1073741824):J3 m=some (decide (wI m)):=by
  unfold J3 AG
  rw [E0 hb,LG hl]
  by_cases h1:S4 m.aC
  · by_cases h2:ZT m.aA
    · have hmx:(1073741824:Nat)≤maxLen:=by simp [maxLen]
      have hsl:=ZT.TG h2 hl
      simp only [decide_eq_true h1,decide_eq_true h2,Option.bind_some,Bool.not_true,Bool.false_eq_true,if_false]
      have k3:loop (pI m) 0=some (if ∀k,k < 9→yW m k then Out.brk () else Out.ret false):=by
        have hst:∀w:Nat,w < 9→pI m (w:Int)=if yW m w then some (.next ((w+1:Nat):Int)) else some (.stop (Out.ret false)):=by
          intro w hw
          have hk:w < m.aA.aU.length:=by rw [h2.2.1];omega
          have hlen:=hsl.2 _ (List.getElem_mem hk)
          have em:Int.tmod (w:Int) 3=((w % 3:Nat):Int):=by rw [BC (by omega)];omega
          simp only [pI]
          rw [if_pos (by simp;omega)]
          simp only [Option.bind_some,aS hk,em]
          rw [I9 h1.1 (by omega) (by omega),eW hk,aV (by omega) (by omega)]
          by_cases q:yW m w
          · rw [if_pos q,decide_eq_true (show yV m.aC (iT m.aA.aU w) ((w % 3:Nat):Int) from q)];rfl
          · rw [if_neg q,decide_eq_false (show ¬yV m.aC (iT m.aA.aU w) ((w % 3:Nat):Int) from q)];rfl
        refine uC (f:=pI m) 9 (fun k=>(k:Int)) (fun w=>yW m w) _ _ (fun k hk hx=>?_) (fun k hk hx=>?_) ?_
        · rw [hst k hk,if_pos hx]
        · rw [hst k hk,if_neg hx]
        · simp [pI,h2.2.1]
      have k2:loop (pJ m) 0=some (if ∀k,k < 3→E8 m k then Out.brk () else Out.ret false):=by
        have hst:∀w:Nat,w < 3→pJ m (w:Int)=if E8 m w then some (.next ((w+1:Nat):Int)) else some (.stop (Out.ret false)):=by
          intro w hw
          have hk:w < m.aA.Global.length:=by rw [h2.1];omega
          have hlen:=hsl.1 _ (List.getElem_mem hk)
          simp only [pJ]
          rw [if_pos (by simp;omega)]
          simp only [Option.bind_some,aS hk]
          rw [I9 h1.1 (by omega) (by omega),eW hk,aV (by omega) (by omega)]
          by_cases q:E8 m w
          · rw [if_pos q,decide_eq_true (show yV m.aC (iT m.aA.Global w) (w:Int) from q)];rfl
          · rw [if_neg q,decide_eq_false (show ¬yV m.aC (iT m.aA.Global w) (w:Int) from q)];rfl
        refine uC (f:=pJ m) 3 (fun k=>(k:Int)) (fun w=>E8 m w) _ _ (fun k hk hx=>?_) (fun k hk hx=>?_) ?_
        · rw [hst k hk,if_pos hx]
        · rw [hst k hk,if_neg hx]
        · simp [pJ,h2.1]
      rw [k2]
      by_cases q:∀k,k < 3→E8 m k
      · rw [if_pos q]
        simp only [Option.bind_some,OL,OK]
        rw [k3]
        by_cases q2:∀k,k < 9→yW m k
        · rw [if_pos q2,decide_eq_true (show wI m from ⟨⟨h1,h2⟩,q,q2⟩)];rfl
        · rw [if_neg q2,decide_eq_false (fun x:wI m=>q2 x.2.2)];rfl
      · rw [if_neg q,decide_eq_false (fun x:wI m=>q x.2.1)];rfl
    · rw [decide_eq_false (fun q:wI m=>h2 q.1.2),decide_eq_true h1,decide_eq_false h2];rfl
  · rw [decide_eq_false (fun q:wI m=>h1 q.1.1),decide_eq_false h1];rfl
end Go.Gv
end
noncomputable section
set_option linter.unusedVariables false
set_option linter.unusedSimpArgs false
set_option linter.unusedSectionVars false
namespace Go.Gv
theorem BD{l:List aG}{s:aG}(h:s∈l):s.aO.length≤(cJ l).length:=by
  obtain⟨k,hk,rfl⟩:=List.mem_iff_getElem.1 h
  exact NA l hk
theorem nE(l:aA):(dS l).length=(cJ l.Global).length+(cJ l.aU).length:=by simp [dS]
def v5(m:Mem):Prop:=m.aC.Bytes.length≤1048576∧m.aC.Class.length≤1048576∧m.aA.Global.length≤1048576∧m.aA.aU.length≤1048576∧(dS m.aA).length≤1048576
theorem v5.TG{m:Mem}(h:v5 m):(∀s∈m.aA.Global,s.aO.length≤1048576)∧∀s∈m.aA.aU,s.aO.length≤1048576:=by
  have:=nE m.aA
  have h5:=h.2.2.2.2
  exact⟨fun s hm=>by have:=BD hm;omega,fun s hm=>by have:=BD hm;omega⟩
end Go.Gv
end
noncomputable section
set_option linter.unusedVariables false
set_option linter.unusedSimpArgs false
set_option linter.unusedSectionVars false
namespace Go.Gv
def POk(e:Int)(p:dK):Prop:=(0≤p.aJ∧p.aJ≤e)∧(0≤p.Seen∧p.Seen≤2)∧(p.On=false→p=⟨false,0,false,0⟩)
instance (e:Int) (p:dK):Decidable (POk e p):=by unfold POk;infer_instance
def RR(c:aD):Prop:=(0≤c.aJ∧c.aJ≤100000)∧c.aP.length=3∧∀p∈c.aP,POk c.aJ p
instance (c:aD):Decidable (RR c):=by unfold RR;infer_instance
theorem vK(c:aD):nO c=some (decide (RR c)):=by
  unfold nO
  rw [cK]
  by_cases h1:0≤c.aJ∧c.aJ≤100000
  · by_cases h2:c.aP.length=3
    · simp only [Option.bind_some,h1,h2,kR]
      have key:∀k:Nat,k≤3→loop (oV c) (k:Int)=some (if ∀p∈c.aP.drop k,POk c.aJ p then Out.brk () else Out.ret false):=by
        refine aCG 3 _ fun k hk=>?_
        by_cases h3:k < 3
        · have hd:c.aP.drop k=c.aP[k] :: c.aP.drop (k+1):=List.drop_eq_getElem_cons (by omega)
          simp only [oV]
          rw [if_pos (by simp;omega),aS (by omega)]
          simp only [Option.bind_some,cK,iX,hd]
          rw [cY (by simp [maxLen];omega)]
          generalize c.aP[k]=p
          have hp:POk c.aJ p↔decide (0≤p.aJ∧p.aJ≤c.aJ)=true∧decide (0≤p.Seen∧p.Seen≤2)=true∧(p.On=false→decide (p=⟨false,0,false,0⟩)=true):=by simp only [POk,decide_eq_true_eq]
          simp only [List.forall_mem_cons,hp]
          generalize decide (0≤p.aJ∧p.aJ≤c.aJ)=b1
          generalize decide (0≤p.Seen∧p.Seen≤2)=b2
          generalize decide (p=⟨false,0,false,0⟩)=b3
          generalize p.On=b4
          cases b1 <;> cases b2 <;> cases b3 <;> cases b4 <;> simp [h3]
        · left
          obtain rfl:k=3:=by omega
          simp [oV,List.drop_eq_nil_of_le (show c.aP.length≤3 by omega)]
      have:=key 0 (by omega)
      simp only [Int.ofNat_zero,List.drop_zero] at this
      have e:decide (RR c)=if ∀p∈c.aP,POk c.aJ p then true else false:=by
        have:RR c↔∀p∈c.aP,POk c.aJ p:=⟨fun h=>h.2.2,fun h=>⟨h1,h2,h⟩⟩
        simp [this]
      rw [e]
      simp only [Int.cast_ofNat_Int] at *
      have t0:loop (oV c) 0=_:=this
      by_cases h5:∀p∈c.aP,POk c.aJ p
      · rw [if_pos h5] at t0 ⊢;rw [t0];simp [BM,KR]
      · rw [if_neg h5] at t0 ⊢;rw [t0];simp [BM]
    · simp [h1,h2,kR,RR]
      omega
  · simp [h1,kR,RR]
theorem aFG(p:dK)(c:aD):qU p c=some (!decide (POk c.aJ p)):=by
  unfold qU iO
  rw [dE,dE]
  have hp:decide (POk c.aJ p)=(decide (0≤p.aJ∧p.aJ≤c.aJ) && (decide (0≤p.Seen∧p.Seen≤2) && (p.On || decide (p=⟨false,0,false,0⟩)))):=by
    rw [Bool.eq_iff_iff];simp only [POk,decide_eq_true_eq,Bool.and_eq_true,Bool.or_eq_true]
    by_cases h:p.On=true
    · simp [h]
    · simp [(by simpa using h:p.On=false)]
  rw [hp]
  generalize decide (0≤p.aJ∧p.aJ≤c.aJ)=b1
  generalize decide (0≤p.Seen∧p.Seen≤2)=b2
  generalize decide (p=⟨false,0,false,0⟩)=b3
  generalize p.On=b4
  cases b1 <;> cases b2 <;> cases b3 <;> cases b4 <;> rfl
theorem aDN{l:List dK}(hl:l.length≤maxLen)(f:dK→Bool):iN l (fun x=>some (f x))=some (l.any f):=by
  unfold iN qT
  have key:∀k:Nat,k≤l.length→loop (fY l (fun x=>some (f x))) (k:Int)=some (if (l.drop k).any f then Out.ret ((k+(l.drop k).findIdx f:Nat):Int) else Out.brk ()):=by
    refine aCG l.length _ fun k hk=>?_
    by_cases h3:k < l.length
    · have hd:l.drop k=l[k] :: l.drop (k+1):=List.drop_eq_getElem_cons h3
      simp only [fY]
      rw [if_pos (by simp;omega),aS h3,cY (eE h3 hl),hd]
      simp only [Option.bind_some,List.any_cons,List.findIdx_cons]
      by_cases h4:f l[k]=true
      · left;simp [h4]
      · right
        have h4:f l[k]=false:=by simpa using h4
        refine⟨h3,by simp [h4],?_⟩
        simp only [h4,Bool.false_or,cond_false]
        congr 2;omega
    · left
      obtain rfl:k=l.length:=by omega
      simp [fY]
  have t0:loop (fY l (fun x=>some (f x))) 0=_:=key 0 (by omega)
  rw [t0]
  simp only [List.drop_zero]
  by_cases h:l.any f=true
  · simp [h,m0]
  · have h:l.any f=false:=by simpa using h
    simp [h,m0,wG]
theorem vL{c:aD}(hc:c.aP.length≤maxLen):oA c=some (decide (RR c)):=by
  unfold oA o4
  rw [dE]
  have e:(fun y0=>qU y0 c)=fun y0=>some (!decide (POk c.aJ y0)):=funext fun y=>aFG y c
  rw [e,aDN hc]
  by_cases h1:0≤c.aJ∧c.aJ≤100000
  · by_cases h2:c.aP.length=3
    · have:RR c↔∀p∈c.aP,POk c.aJ p:=⟨fun h=>h.2.2,fun h=>⟨h1,h2,h⟩⟩
      have e2:(c.aP.any fun y0=>!decide (POk c.aJ y0))=!decide (∀p∈c.aP,POk c.aJ p):=by
        rw [Bool.eq_iff_iff];simp
      simp [h1,h2,this,e2]
    · have:¬(c.aP.length:Int)=3:=by omega
      simp [h1,this,h2,RR]
  · simp [h1,RR]
end Go.Gv
end
noncomputable section
set_option linter.unusedVariables false
set_option linter.unusedSimpArgs false
set_option linter.unusedSectionVars false
namespace Go.Gv
def cV(l:List aN):List bY:=l.flatMap aN.Rows
theorem E1{l:List aN}{k:Nat}(h:k < l.length):cV (l.take (k+1))=cV (l.take k)++l[k].Rows:=by
  unfold cV
  rw [List.take_succ_eq_append_getElem h,List.flatMap_append];simp
theorem Y8(l:List aN)(k:Nat):(cV (l.take k)).length≤(cV l).length:=by
  have:cV l=cV (l.take k)++cV (l.drop k):=by
    unfold cV;rw [←List.flatMap_append,List.take_append_drop]
  rw [this];simp
theorem aJF(l:List aN){k:Nat}(h:k < l.length):l[k].Rows.length≤(cV l).length:=by
  have h1:=Y8 l (k+1)
  rw [E1 h] at h1
  simp at h1;omega
theorem aB1{l:List aN}{s:aN}(h:s∈l):s.Rows.length≤(cV l).length:=by
  obtain⟨k,hk,rfl⟩:=List.mem_iff_getElem.1 h
  exact aJF l hk
theorem Y9{l:List aN}(h:(cV l).length≤1073741824)(hl:l.length≤maxLen):FL l=some (cV l):=by
  unfold FL
  have k1:loop (qK l) ([],0)=some (cV l):=by
    refine fT (f:=qK l) l.length (fun k=>(cV (l.take k),(k:Int))) _ (fun k hk=>?_) ?_
    · have h1:=Y8 l (k+1)
      rw [E1 hk] at h1
      simp only [qK]
      rw [if_pos (by simp;omega),aS hk]
      simp only [Option.bind_some]
      rw [aR (by simp at h1;omega),E1 hk,cY (eE hk hl)]
    · simp [qK]
  rw [k1];rfl
def pR(h:Int):Prop:=(32≤h∧h≤223)∧h % 32 < 24
instance (h:Int):Decidable (pR h):=by unfold pR;infer_instance
theorem fH(h:Int):fP h=some (decide (pR h)):=by
  unfold fP rS pR
  rw [cK]
  by_cases q:32≤h∧h≤223
  · simp [q,BC (show 0≤h by omega)]
  · simp [q]
theorem gZ(h:Int):fA h=some (decide (pR h)):=by
  unfold fA jZ pR
  rw [dE]
  by_cases q:32≤h∧h≤223
  · simp [q,BC (show 0≤h by omega)]
  · simp [q]
theorem pR.mod{h:Int}(q:pR h):Int.tmod h 32=h % 32∧0≤h % 32∧h % 32≤23:=by
  unfold pR at q
  exact⟨BC (by omega),by omega,by omega⟩
theorem eX(h:Int):eF h=some (if pR h then h % 32 else -1):=by
  unfold eF
  rw [fH]
  by_cases q:pR h
  · simp [q,q.mod.1]
  · simp [q]
def GN(r:bY):Prop:=pR r.Handle∧0≤r.aJ∧r.aJ≤100000
instance (r:bY):Decidable (GN r):=by unfold GN;infer_instance
def BE(r:bY):Int:=r.Handle % 32
def BF(l:List aN):Prop:=l.length=3∧(cV l).length≤24∧(∀r∈cV l,GN r)∧((cV l).map BE).Nodup
instance (l:List aN):Decidable (BF l):=by unfold BF;infer_instance
def goR:List Bool→List bY→Option (List Bool)
  | met,[]=>some met
  | met,r :: t=>if GN r∧met.getD (BE r).toNat true=false then goR (met.set (BE r).toNat true) t else none
theorem aIQ:∀{xs:List bY} {met m:List Bool},goR met xs=some m→m.length=met.length
  | [],met,m,h=>by simp [goR] at h;rw [h]
  | x :: r, met, m, h => by
    simp only [goR] at h
    split at h
    · have:=aIQ h;simpa using this
    · cases h
theorem ZA:∀(a b:List bY) (met:List Bool),goR met (a++b)=(goR met a).bind fun m=>goR m b
  | [],b,met=>rfl
  | x :: r, b, met => by
    simp only [List.cons_append,goR]
    split
    · exact ZA r b _
    · rfl
theorem aFH:∀(xs:List bY) (met:List Bool),(goR met xs).isSome=true↔(∀r∈xs,GN r)∧(uG met (xs.map BE)).isSome=true
  | [],met=>by simp [goR,uG]
  | x :: r, met => by
    simp only [goR,List.map_cons,uG]
    by_cases h:GN x
    · have hm:=h.1.mod
      have hs:0≤BE x∧BE x≤23:=hm.2
      by_cases h2:met.getD (BE x).toNat true=false
      · rw [if_pos ⟨h,h2⟩,if_pos ⟨hs,h2⟩,aFH r _]
        simp [h]
      · rw [if_neg (fun q=>h2 q.2),if_neg (fun q=>h2 q.2)];simp
    · rw [if_neg (fun q=>h q.1)]
      constructor
      · intro q;cases q
      · rintro⟨q,_⟩;exact(h (q x List.mem_cons_self)).elim
theorem aJG{s:aN}(hl:s.Rows.length≤maxLen):∀d k (met:List Bool),k+d=s.Rows.length→met.length=24→loop (i4 s) ((k:Int),met)=some (aDM (goR met (s.Rows.drop k))):=by
  intro d
  induction d with
  | zero =>
    intro k met hk hm
    rw [bX (r:=Out.brk met) (by simp [i4];omega),List.drop_eq_nil_of_le (by omega)];rfl
  | succ d ih =>
    intro k met hk hm
    have hk':k < s.Rows.length:=by omega
    have hd:s.Rows.drop k=s.Rows[k] :: s.Rows.drop (k+1):=List.drop_eq_getElem_cons hk'
    have hst:i4 s ((k:Int),met)=if GN s.Rows[k]∧met.getD (BE s.Rows[k]).toNat true=false then some (.next (((k+1:Nat):Int),met.set (BE s.Rows[k]).toNat true)) else some (.stop (Out.ret false)):=by
      simp only [i4]
      rw [if_pos (by simp;omega),aS hk']
      simp only [Option.bind_some,gZ,dE]
      generalize s.Rows[k]=x
      by_cases q:pR x.Handle
      · by_cases q2:0≤x.aJ∧x.aJ≤100000
        · have hm2:=q.mod
          obtain⟨j,hj0⟩:=Int.eq_ofNat_of_zero_le hm2.2.1
          have hj:j < met.length:=by omega
          have e:met.getD j true=met[j]:=by rw [List.getD_eq_getElem?_getD,List.getElem?_eq_getElem hj];rfl
          have hr:GN x:=⟨q,q2⟩
          simp only [q,q2,and_self,decide_true,Bool.not_true,Bool.false_eq_true,if_false,gI,hm2.1,hj0,Int.toNat_natCast,hr,true_and,BE,e]
          rw [aR (by omega),aS hj]
          simp only [Option.bind_some]
          cases met[j]
          · simp only [Bool.false_eq_true,if_false,if_true]
            rw [aR (by omega),cY (eE hk' hl)]
          · simp
        · rw [decide_eq_true q,decide_eq_false q2];simp only [Bool.not_true,Bool.not_false,Bool.false_eq_true,if_false,if_true,gI];rw [if_neg (fun y:GN x∧_=>q2 y.1.2)]
      · rw [decide_eq_false q];simp only [Bool.not_false,if_true,gI];rw [if_neg (fun y:GN x∧_=>q y.1.1)]
    rw [hd,goR]
    by_cases q:GN s.Rows[k]∧met.getD (BE s.Rows[k]).toNat true=false
    · rw [if_pos q] at hst ⊢
      rw [bS hst,ih (k+1) _ (by omega) (by simpa using hm)]
    · rw [if_neg q] at hst ⊢
      rw [bX hst];rfl
theorem aJH{l:List aN}(hn:l.length≤1000)(hs:∀s∈l,s.Rows.length≤maxLen):∀d k (met:List Bool),k+d=l.length→met.length=24 →
    loop (i5 l) ((k:Int),met)=some (if (goR met (cV (l.drop k))).isSome=true then Out.brk () else Out.ret false):=by
  intro d
  induction d with
  | zero =>
    intro k met hk hm
    rw [List.drop_eq_nil_of_le (by omega),if_pos (show(goR met (cV [])).isSome=true from rfl)]
    refine bX ?_
    simp only [i5]
    rw [if_neg (by simp;omega)]
  | succ d ih =>
    intro k met hk hm
    have hk':k < l.length:=by omega
    have hd:l.drop k=l[k] :: l.drop (k+1):=List.drop_eq_getElem_cons hk'
    have hsk:=hs _ (List.getElem_mem hk')
    have hf:cV (l.drop k)=l[k].Rows++cV (l.drop (k+1)):=by unfold cV;rw [hd,List.flatMap_cons]
    have h4:=aJG hsk _ 0 met (Nat.zero_add _) hm
    rw [show((0:Nat):Int)=0 from rfl,List.drop_zero] at h4
    have hst:i5 l ((k:Int),met)=(match goR met l[k].Rows with | some m=>some (.next (((k+1:Nat):Int),m)) | none=>some (.stop (Out.ret false))):=by
      simp only [i5]
      rw [if_pos (by simp;omega),aS hk']
      simp only [Option.bind_some]
      rw [h4]
      cases goR met l[k].Rows with
      | none=>rfl
      | some m=>simp only [Option.bind_some,aDM,KY,uV];rw [aV (by omega) (by omega)];rfl
    rw [hf,ZA]
    cases hg:goR met l[k].Rows with
    | none =>
      rw [hg] at hst
      rw [bX hst,if_neg (by simp)]
    | some m =>
      rw [hg] at hst
      rw [bS hst,ih (k+1) m (by omega) (by rw [aIQ hg];exact hm)]
      simp only [Option.bind_some]
theorem RH{l:List aN}(hn:l.length≤1000)(h:(cV l).length≤1073741824):qS l=some ((cV l).length:Int):=by
  unfold qS
  have key:loop (f9 l) (0,0)=some ((cV l).length:Int):=by
    refine fT (f:=f9 l) l.length (fun k=>(((cV (l.take k)).length:Int),(k:Int))) _ (fun k hk=>?_) ?_
    · have h1:=Y8 l (k+1)
      rw [E1 hk,List.length_append] at h1
      simp only [f9]
      rw [if_pos (by simp;omega),aS hk]
      simp only [Option.bind_some]
      rw [aV (by omega) (by omega),aV (by omega) (by omega),E1 hk,List.length_append]
      simp
    · simp [f9]
  rw [key];rfl
theorem BT{l:List aN}(h:(cV l).length≤1073741824):lL l=some (decide (BF l)):=by
  unfold lL
  by_cases h3:l.length=3
  · have n1:((l.length:Int) != 3)=false:=by simp;omega
    have hb:(1073741824:Nat)≤maxLen:=by simp [maxLen]
    simp only [n1,Bool.false_eq_true,if_false]
    have key:=aJH (l:=l) (by omega) (fun s hs=>by have:=aB1 hs;omega) l.length 0 [false,false,false,false,false,false,false,false,false,false,false,false,false,false,false,false,false,false,false,false,false,false,false,false] (by omega) rfl
    rw [show((0:Nat):Int)=0 from rfl,List.drop_zero] at key
    rw [key]
    have hm0:∀j:Nat,j < 24→[false,false,false,false,false,false,false,false,false,false,false,false,false,false,false,false,false,false,false,false,false,false,false,false].getD j true=false:=by decide
    have hiff:BF l↔(cV l).length≤24∧(goR [false,false,false,false,false,false,false,false,false,false,false,false,false,false,false,false,false,false,false,false,false,false,false,false] (cV l)).isSome=true:=by
      rw [aFH,PY _ _ rfl]
      have hr:(∀r∈cV l,GN r)→∀x∈(cV l).map BE,0≤x∧x≤23:=by
        intro q x hx
        obtain⟨r,hr,rfl⟩:=List.mem_map.1 hx
        exact(q r hr).1.mod.2
      constructor
      · rintro⟨_,q1,q2,q3⟩
        exact⟨q1,q2,hr q2,q3,fun x hx=>hm0 _ (by have:=hr q2 x hx;omega)⟩
      · rintro⟨q1,q2,_,q3,_⟩
        exact⟨h3,q1,q2,q3⟩
    by_cases q:(goR [false,false,false,false,false,false,false,false,false,false,false,false,false,false,false,false,false,false,false,false,false,false,false,false] (cV l)).isSome=true
    · rw [if_pos q]
      simp only [Option.bind_some,KZ,uU]
      rw [RH (by omega) h]
      simp only [Option.bind_some]
      congr 1
      rw [Bool.eq_iff_iff];simp only [decide_eq_true_eq]
      rw [hiff]
      exact⟨fun a=>⟨by omega,q⟩,fun a=>by omega⟩
    · rw [if_neg q,decide_eq_false (fun x=>q (hiff.1 x).2)];rfl
  · have n1:((l.length:Int) != 3)=true:=by simp;omega
    simp only [n1,if_true]
    rw [decide_eq_false (fun q:BF l=>h3 q.1)]
def eY(h:Int):Prop:=h=0∨pR h
instance (h:Int):Decidable (eY h):=by unfold eY;infer_instance
def NB(z:List Int):Prop:=z.length=3∧∀h∈z,eY h
instance (z:List Int):Decidable (NB z):=by unfold NB;infer_instance
theorem O1{z:List Int}(hl:z.length≤maxLen):EC z=some (decide (NB z)):=by
  unfold EC
  have hst:∀k (hk:k < z.length),tN z (k:Int)=if eY z[k] then some (.next ((k+1:Nat):Int)) else some (.stop (Out.ret false)):=by
    intro k hk
    simp only [tN,zX]
    rw [if_pos (by simp;omega),aS hk,cY (eE hk hl)]
    simp only [Option.bind_some,fH]
    generalize z[k]=x
    by_cases q:x=0
    · have n:(x != 0)=false:=by simp only [bne_eq_false_iff_eq];exact q
      rw [n,if_pos (show eY x from .inl q)];rfl
    · have n:(x != 0)=true:=by simp only [bne_iff_ne];exact q
      by_cases q2:pR x
      · rw [n,decide_eq_true q2,if_pos (show eY x from .inr q2)];rfl
      · rw [n,decide_eq_false q2,if_neg (fun a:eY x=>a.elim q q2)];rfl
  have key:=lB (f:=tN z) z (fun k=>(k:Int)) eY (Out.brk ()) (Out.ret false) (fun k hk hx=>by rw [hst k hk,if_pos hx]) (fun k hk hx=>by rw [hst k hk,if_neg hx]) (by simp [tN])
  rw [show((0:Nat):Int)=0 from rfl] at key
  rw [key]
  by_cases q:∀x∈z,eY x
  · rw [if_pos q]
    have:NB z↔z.length=3:=⟨fun a=>a.1,fun a=>⟨a,q⟩⟩
    simp only [Option.bind_some,OH,OG,this]
    congr 1;rw [Bool.eq_iff_iff];simp only [beq_iff_eq,decide_eq_true_eq];omega
  · rw [if_neg q,decide_eq_false (fun a:NB z=>q a.2)];rfl
theorem O2{z:List Int}(hl:z.length≤maxLen):EH z=some (decide (NB z)):=by
  unfold EH AH
  have e:(fun y0=>C4 y0)=fun y:Int=>some (!decide (eY y)):=by
    funext y
    unfold C4 MQ yB
    rw [gZ]
    by_cases q:y=0
    · have n:(y == 0)=true:=by simp only [beq_iff_eq];exact q
      rw [n,decide_eq_true (show eY y from .inl q)];rfl
    · have n:(y == 0)=false:=by simp only [beq_eq_false_iff_ne];exact q
      by_cases q2:pR y
      · rw [n,decide_eq_true q2,decide_eq_true (show eY y from .inr q2)];rfl
      · rw [n,decide_eq_false q2,decide_eq_false (fun a:eY y=>a.elim q q2)];rfl
  rw [e,DM hl,N3]
  by_cases h3:z.length=3
  · have n:((z.length:Int) == 3)=true:=by simp;omega
    have:NB z↔∀h∈z,eY h:=⟨fun a=>a.2,fun a=>⟨h3,a⟩⟩
    simp only [n,if_true,Option.bind_some,Bool.not_not,this]
  · have n:((z.length:Int) == 3)=false:=by simp;omega
    simp only [n,Bool.false_eq_true,if_false]
    rw [decide_eq_false (fun a:NB z=>h3 a.1)]
end Go.Gv
end
noncomputable section
set_option linter.unusedVariables false
set_option linter.unusedSimpArgs false
set_option linter.unusedSectionVars false
namespace Go.Gv
theorem JA{α:Type}(l:List α)(f:α→Bool){body:Int→Option (Step Int (Out Unit Int))}(hb:∀k (hk:k < l.length),body (k:Int)=if f l[k] then some (.stop (.ret (k:Int))) else some (.next ((k+1:Nat):Int)))(he:body (l.length:Int)=some (.stop (.brk ()))) :
    ∃o,loop body 0=some o∧match o with | .brk _=>l.any f=false | .ret r=>0≤r∧l.any f=true:=by
  have key:=aJD (f:=body) l.length (fun k=>(k:Int)) (fun k=>if (l.drop k).any f then Out.ret ((k+(l.drop k).findIdx f:Nat):Int) else Out.brk ()) (fun k hk=>by
    by_cases h:k < l.length
    · have hd:l.drop k=l[k] :: l.drop (k+1):=List.drop_eq_getElem_cons h
      rw [hb k h,hd]
      simp only [List.any_cons,List.findIdx_cons]
      by_cases h4:f l[k]=true
      · left;simp [h4]
      · right
        have h4:f l[k]=false:=by simpa using h4
        refine⟨h,by simp [h4],?_⟩
        simp only [h4,Bool.false_or,cond_false]
        congr 2;omega
    · left
      obtain rfl:k=l.length:=by omega
      rw [he];simp) 0 (Nat.zero_le _)
  rw [show((0:Nat):Int)=0 from rfl,List.drop_zero] at key
  refine⟨_,key,?_⟩
  by_cases h:l.any f=true
  · rw [if_pos h];exact⟨by omega,h⟩
  · rw [if_neg h];simpa using h
theorem aBB{l:List bY}(hl:l.length≤maxLen)(f:bY→Bool):hQ l (fun x=>some (f x))=some (l.any f):=by
  obtain⟨o,e,h⟩:=JA l f (body:=hO l (fun x=>some (f x))) (fun k hk=>by
    simp only [hO]
    rw [if_pos (by simp;omega),aS hk,cY (eE hk hl)];rfl) (by simp [hO])
  unfold hQ pO
  rw [e]
  cases o with
  | brk u=>simp only at h;simp [lZ,tS,h]
  | ret r=>simp only at h;simp [lZ,h]
theorem ZB{l:List aN}(hl:l.length≤maxLen)(f:aN→Bool)(g:aN→Option Bool)(hg:∀x∈l,g x=some (f x)):gQ l g=some (l.any f):=by
  obtain⟨o,e,h⟩:=JA l f (body:=gP l g) (fun k hk=>by
    simp only [gP]
    rw [if_pos (by simp;omega),aS hk,cY (eE hk hl)]
    simp only [Option.bind_some,hg _ (List.getElem_mem hk)]) (by simp [gP])
  unfold gQ n9
  rw [e]
  cases o with
  | brk u=>simp only at h;simp [kN,sU,h]
  | ret r=>simp only at h;simp [kN,h]
theorem NC{l:List aG}(hl:l.length≤maxLen)(f:aG→Bool)(g:aG→Option Bool)(hg:∀x∈l,g x=some (f x)):fI l g=some (l.any f):=by
  obtain⟨o,e,h⟩:=JA l f (body:=gO l g) (fun k hk=>by
    simp only [gO]
    rw [if_pos (by simp;omega),aS hk,cY (eE hk hl)]
    simp only [Option.bind_some,hg _ (List.getElem_mem hk)]) (by simp [gO])
  unfold fI nZ
  rw [e]
  cases o with
  | brk u=>simp only at h;simp [kM,sT,h]
  | ret r=>simp only at h;simp [kM,h]
theorem contains_eq{l:List Int}(hl:l.length≤maxLen)(v:Int):mE l v=some (decide (v∈l)):=by
  obtain⟨o,e,h⟩:=JA l (fun x=>v == x) (body:=dJ l v) (fun k hk=>by
    simp only [dJ]
    rw [if_pos (by simp;omega),aS hk,cY (eE hk hl)];rfl) (by simp [dJ])
  have ha:l.any (fun x=>v == x)=decide (v∈l):=by
    rw [Bool.eq_iff_iff];simp
  rw [ha] at h
  unfold mE jY
  rw [e]
  cases o with
  | brk u=>simp only at h;simp [mD,BW,h]
  | ret r=>simp only at h;simp [mD,h]
theorem N4{l:List aG}{x:Int}:x∈cJ l↔∃s∈l,x∈s.aO:=List.mem_flatMap
noncomputable section
variable {m:Mem} (hsh:eQ m.aC) (hl:(dS m.aA).length≤1073741824) (hg:m.aA.Global.length≤maxLen) (ho:m.aA.aU.length≤maxLen)
include hl hg ho
theorem ZC(s:Int):FK m.aA s=some (decide (s∈dS m.aA)):=by
  have hb:(1073741824:Nat)≤maxLen:=by simp [maxLen]
  unfold FK
  rw [OZ hl hg ho]
  simp only [Option.bind_some]
  rw [O0 (by omega)];rfl
theorem ND(s:Int):A5 m.aA s=some (decide (s∈dS m.aA)):=by
  have hb:(1073741824:Nat)≤maxLen:=by simp [maxLen]
  have hal:=nE m.aA
  have e1:∀x∈m.aA.Global,lY x s=some (decide (s∈x.aO)):=fun x hx=>by
    have:=BD hx
    unfold lY;rw [contains_eq (by omega)];rfl
  have e2:∀x∈m.aA.aU,lY x s=some (decide (s∈x.aO)):=fun x hx=>by
    have:=BD hx
    unfold lY;rw [contains_eq (by omega)];rfl
  unfold A5 xN
  rw [NC hg (fun x=>decide (s∈x.aO)) _ e1,NC ho (fun x=>decide (s∈x.aO)) _ e2]
  have a1:(m.aA.Global.any fun x=>decide (s∈x.aO))=decide (s∈cJ m.aA.Global):=by
    rw [Bool.eq_iff_iff];simp [N4]
  have a2:(m.aA.aU.any fun x=>decide (s∈x.aO))=decide (s∈cJ m.aA.aU):=by
    rw [Bool.eq_iff_iff];simp [N4]
  rw [a1,a2]
  simp only [Option.bind_some,dS,List.mem_append]
  by_cases q:s∈cJ m.aA.Global <;> simp [q]
def jP(m:Mem)(s:Int):Int:=if bL m.aC s < 0 then 0 else if s∈dS m.aA then 1 else if 6 < l7 m.aC s then 2 else 3
include hsh
theorem VI(s:Int):CC m s=some (jP m s):=by
  unfold CC jP
  rw [lC hsh,ZC hl hg ho]
  simp only [Option.bind_some]
  by_cases q:bL m.aC s < 0
  · simp [q]
  · rw [uF hsh (by omega)]
    by_cases q2:s∈dS m.aA
    · simp [q,q2]
    · by_cases q3:6 < l7 m.aC s <;> simp [q,q2,q3]
theorem VJ(s:Int):CV m s=some (jP m s):=by
  unfold CV jP
  rw [i9 hsh,ND hl hg ho]
  simp only [Option.bind_some]
  by_cases q:bL m.aC s < 0
  · simp [q]
  · rw [AU hsh (by omega)]
    by_cases q2:s∈dS m.aA
    · simp [q,q2]
    · by_cases q3:6 < l7 m.aC s <;> simp [q,q2,q3]
def BG(m:Mem)(h:Int):Prop:=pR h∧jP m (h % 32)=3∧l7 m.aC (h % 32)=h / 32
instance (m:Mem) (h:Int):Decidable (BG m h):=by unfold BG;infer_instance
omit hl hg ho hsh in
theorem GO{m:Mem}{s:Int}(h:jP m s=3):0≤bL m.aC s:=by
  unfold jP at h
  split at h
  · omega
  · omega
theorem LH(h:Int):wY m h=some (decide (BG m h)):=by
  unfold wY oS
  rw [fH,eX]
  by_cases q:pR h
  · have hm:=q.mod
    rw [decide_eq_true q,if_pos q]
    simp only [Option.bind_some,if_true,VI hsh hl hg ho]
    by_cases q2:jP m (h % 32)=3
    · have n:(jP m (h % 32) == 3)=true:=by simpa using q2
      have eg:wX h=some (h / 32):=by
        unfold wX
        unfold pR at q
        rw [fH,decide_eq_true (show pR h from q),BA (by omega),aV (by omega) (by omega)];rfl
      rw [n,uF hsh (GO q2),eg]
      simp only [if_true,Option.bind_some]
      congr 1;rw [Bool.eq_iff_iff];simp only [beq_iff_eq,decide_eq_true_eq]
      exact⟨fun a=>⟨q,q2,a⟩,fun a=>a.2.2⟩
    · have n:(jP m (h % 32) == 3)=false:=by simpa using q2
      rw [n,decide_eq_false (fun a:BG m h=>q2 a.2.1)];rfl
  · rw [decide_eq_false q,decide_eq_false (fun a:BG m h=>q a.1)];rfl
theorem NF(h:Int):A6 m h=some (decide (BG m h)):=by
  unfold A6 qR
  rw [gZ]
  by_cases q:pR h
  · have hm:=q.mod
    rw [decide_eq_true q,hm.1]
    simp only [Option.bind_some,if_true,VJ hsh hl hg ho]
    by_cases q2:jP m (h % 32)=3
    · have n:(jP m (h % 32) == 3)=true:=by simpa using q2
      have eg:aH (Int.tdiv h 32)=h / 32:=by
        unfold pR at q
        rw [BA (by omega),aV (by omega) (by omega)]
      rw [n,AU hsh (GO q2),eg]
      simp only [if_true,Option.bind_some]
      congr 1;rw [Bool.eq_iff_iff];simp only [beq_iff_eq,decide_eq_true_eq]
      exact⟨fun a=>⟨q,q2,a⟩,fun a=>a.2.2⟩
    · have n:(jP m (h % 32) == 3)=false:=by simpa using q2
      rw [n,decide_eq_false (fun a:BG m h=>q2 a.2.1)];rfl
  · rw [decide_eq_false q,decide_eq_false (fun a:BG m h=>q a.1)];rfl
end
def V9(b:aB)(r:bY):Prop:=BG b.Mem r.Handle∧r.aJ≤b.aD.aJ
instance (b:aB) (r:bY):Decidable (V9 b r):=by unfold V9;infer_instance
def HO(b:aB):Prop:=(wI b.Mem∧RR b.aD∧BF b.aK∧NB b.b9)∧∀r∈cV b.aK,V9 b r
instance (b:aB):Decidable (HO b):=by unfold HO;infer_instance
def aGU(b:aB):Prop:=v5 b.Mem∧b.aD.aP.length≤1048576∧b.aK.length≤1048576∧(cV b.aK).length≤1048576∧b.b9.length≤1048576
noncomputable section
variable {b:aB} (hf:b.Mem.aC.Bytes.length≤maxLen∧(dS b.Mem.aA).length≤1073741824∧b.aD.aP.length≤maxLen∧b.aK.length≤maxLen∧(cV b.aK).length≤1073741824∧b.b9.length≤maxLen)
include hf
end
end Go.Gv
end
noncomputable section
set_option linter.unusedVariables false
set_option linter.unusedSimpArgs false
namespace Go.Gv
theorem RI{α:Type}{f:(List α×Int)→Option (Step (List α×Int) (List α))}(l:List α)
    (h:∀k (hk:k < l.length),f (l.take k,(k:Int))=some (.next (l.take k ++ [l[k]],((k+1:Nat):Int)))) (he:f (l,(l.length:Int))=some (.stop l)):loop f ([],0)=some l:=by
  have:=fT (f:=f) l.length (fun k=>(l.take k,(k:Int))) l (fun k hk=>by rw [h k hk,List.take_succ_eq_append_getElem hk]) (by rw [List.take_length];exact he)
  simpa using this
theorem aB3{α:Type}{f:(Int×List α)→Option (Step (Int×List α) (List α))}(l:List α)
    (h:∀k (hk:k < l.length),f ((k:Int),l.take k)=some (.next (((k+1:Nat):Int),l.take k ++ [l[k]]))) (he:f ((l.length:Int),l)=some (.stop l)):loop f (0,[])=some l:=by
  have:=fT (f:=f) l.length (fun k=>((k:Int),l.take k)) l (fun k hk=>by rw [h k hk,List.take_succ_eq_append_getElem hk]) (by rw [List.take_length];exact he)
  simpa using this
theorem JB{l:List Int}(h:l.length≤1073741824):nJ l=some l:=by
  unfold nJ;rw [aR (by simpa using h)];rfl
theorem sN{l:List Int}(h:l.length≤1073741824):fE l=some l:=by
  unfold fE;rw [aR (by simpa using h)];rfl
theorem aDO{l:List dK}(h:l.length≤1073741824):r9 l=some l:=by
  unfold r9;rw [aR (by simpa using h)];rfl
theorem aBC{l:List bY}(h:l.length≤1073741824):pZ l=some l:=by
  unfold pZ;rw [aR (by simpa using h)];rfl
theorem aB4{l:List aG}(hl:l.length≤1048576)(hs:∀s∈l,s.aO.length≤1048576):A1 l=some l:=by
  unfold A1
  rw [RI l]
  · rfl
  · intro k hk
    have:=hs _ (List.getElem_mem hk)
    simp only [D9]
    rw [if_pos (by simp;omega),aS hk]
    simp only [Option.bind_some]
    rw [JB (by omega),Option.bind_some,aR (by simp;omega),aV (by omega) (by omega)];rfl
  · simp [D9]
theorem aBD{l:aA}(h1:l.Global.length≤1048576)(h2:l.aU.length≤1048576)(h3:∀s∈l.Global,s.aO.length≤1048576)(h4:∀s∈l.aU,s.aO.length≤1048576):FQ l=some l:=by
  unfold FQ;rw [aB4 h1 h3,aB4 h2 h4];rfl
theorem HP{l:aA}(h1:l.Global.length≤1048576)(h2:l.aU.length≤1048576)(h3:∀s∈l.Global,s.aO.length≤1048576)(h4:∀s∈l.aU,s.aO.length≤1048576):fQ l=some l:=by
  unfold fQ
  rw [aB3 l.Global]
  · simp only [Option.bind_some,F7,F6]
    rw [aB3 l.aU]
    · rfl
    · intro k hk
      have:=h4 _ (List.getElem_mem hk)
      simp only [xG]
      rw [if_pos (by simp;omega),aS hk]
      simp only [Option.bind_some]
      rw [sN (by omega),Option.bind_some,aR (by simp;omega),xF,aV (by omega) (by omega)];rfl
    · simp [xG]
  · intro k hk
    have:=h3 _ (List.getElem_mem hk)
    simp only [xI]
    rw [if_pos (by simp;omega),aS hk]
    simp only [Option.bind_some]
    rw [sN (by omega),Option.bind_some,aR (by simp;omega),xH,aV (by omega) (by omega)];rfl
  · simp [xI]
theorem aDP{h:aC}(h1:h.Bytes.length≤1048576)(h2:h.Class.length≤1048576):FP h=some h:=by
  unfold FP;rw [JB (by omega),JB (by omega)];rfl
theorem KI{h:aC}(h1:h.Bytes.length≤1048576)(h2:h.Class.length≤1048576):pG h=some h:=by
  unfold pG;rw [sN (by omega),sN (by omega)];rfl
theorem aFI{m:Mem}(h:v5 m):FR m=some m:=by
  have a:=aDP h.1 h.2.1
  have b:=aBD h.2.2.1 h.2.2.2.1 h.TG.1 h.TG.2
  unfold FR;rw [a,b];rfl
theorem aFJ{m:Mem}(h:v5 m):C0 m=some m:=by
  have a:=KI h.1 h.2.1
  have b:=HP h.2.2.1 h.2.2.2.1 h.TG.1 h.TG.2
  unfold C0;rw [a,b];rfl
theorem AV{c:aD}(h:c.aP.length≤1048576):nN c=some c:=by
  unfold nN;rw [aR (by simp;omega)];rfl
theorem AW{c:aD}(h:c.aP.length≤1048576):kC c=some c:=by
  unfold kC;rw [aDO (by omega)];rfl
theorem O3{l:List aN}(hl:l.length≤1048576)(hs:∀s∈l,s.Rows.length≤1048576):kB l=some l:=by
  unfold kB
  rw [RI l]
  · rfl
  · intro k hk
    have:=hs _ (List.getElem_mem hk)
    simp only [xQ]
    rw [if_pos (by simp;omega),aS hk]
    simp only [Option.bind_some]
    rw [aBC (by omega),Option.bind_some,aR (by simp;omega),aV (by omega) (by omega)];rfl
  · simp [xQ]
end Go.Gv
end
noncomputable section
set_option linter.unusedVariables false
set_option linter.unusedSimpArgs false
namespace Go.Gv
theorem gL(w:Int):d8 w=some (decide (0≤w∧w≤2)):=by
  unfold d8;rw [dE];rfl
noncomputable section
variable {c:aD} (hc:RR c) {w:Int} (hw:0≤w∧w≤2)
include hc
theorem RR.small:c.aP.length≤1048576∧c.aP.length≤maxLen:=by
  have:=hc.2.1;simp only [maxLen];omega
theorem RR.aDQ{k:Nat}{p:dK}(hp:POk c.aJ p):RR ⟨c.aJ,c.aP.set k p⟩:=⟨hc.1,by simpa using hc.2.1,fun q hq=>(List.mem_or_eq_of_mem_set hq).elim (hc.2.2 q) (fun e=>e ▸ hp)⟩
theorem RR.aTU(h:c.aJ+1≤100000):RR ⟨c.aJ+1,c.aP⟩:=by
  have h1:=hc.1
  exact⟨⟨by simp only;omega,h⟩,hc.2.1,fun q hq=>by
    obtain⟨a,b,d⟩:=hc.2.2 q hq
    exact⟨⟨a.1,by simp only;omega⟩,b,d⟩⟩
include hw
theorem S5:∃p,idx c.aP w=some p∧POk c.aJ p:=by
  have h3:=hc.2.1
  rw [pQ hw.1 (by omega)]
  exact⟨_,rfl,hc.2.2 _ (List.getElem_mem _)⟩
theorem aJI(e:Int):∃r,FM c w e=some r∧GA c w e=some r∧RR r.1∧r.1.aJ=c.aJ:=by
  obtain⟨p,hp,h1,⟨hs0,hs1⟩,h2⟩:=S5 hc hw
  have h3:=hc.2.1
  unfold FM GA
  rw [AV hc.small.1,AW hc.small.1,vK,vL hc.small.2,gL,cK,decide_eq_true hc,decide_eq_true hw]
  simp only [Option.bind_some,Bool.not_true,Bool.false_eq_true,if_false,w4,xR,hp]
  cases h4:p.On
  · exact⟨_,rfl,rfl,hc,rfl⟩
  · cases h5:p.d9
    · by_cases h6:p.aJ=e
      · simp only [mP,m3,h6,beq_self_eq_true,if_true,Bool.not_true,Bool.false_eq_true,if_false]
        exact⟨_,rfl,rfl,hc,rfl⟩
      · have h6':(p.aJ == e)=false:=by simpa using h6
        simp only [mP,m3,h6',Bool.not_true,Bool.false_eq_true,if_false,hp,Option.bind_some]
        by_cases h7:p.Seen=2
        · simp only [h7,beq_self_eq_true,if_true,show ¬((2:Int) < 2) by omega,decide_false,Bool.false_eq_true,if_false]
          exact⟨_,rfl,rfl,hc.aDQ ⟨h1,by simp,fun q=>by simp [h4] at q⟩,rfl⟩
        · have h7':(p.Seen == 2)=false:=by simpa using h7
          simp only [h7',show p.Seen < 2 by omega,decide_true,if_true,Bool.false_eq_true,if_false]
          have hw7:aH (p.Seen+1)=p.Seen+1:=aV (by omega) (by omega)
          exact⟨_,rfl,rfl,hc.aDQ ⟨h1,by simp only [hw7];omega,fun q=>by simp [h4] at q⟩,rfl⟩
    · exact⟨_,rfl,rfl,hc,rfl⟩
theorem aM5(e:Int):∃r,JU c w e=some r∧J1 c w e=some r∧(RR r.1∧r.1.aJ=c.aJ)∧(r.2=false→r.1=c):=by
  obtain⟨p,hp,hpk⟩:=S5 hc hw
  have h3:=hc.2.1
  unfold JU J1
  rw [AV hc.small.1,AW hc.small.1,vK,vL hc.small.2,gL,cK,cK,dE,decide_eq_true hc,decide_eq_true hw]
  simp only [Option.bind_some,Bool.not_true,Bool.false_eq_true,if_false,tH,tT,hp]
  by_cases h:0≤e∧e≤c.aJ
  · simp only [decide_eq_true h,Bool.not_true,Bool.false_eq_true,if_false]
    exact⟨_,rfl,rfl,⟨hc.aDQ ⟨h,by simp,fun q=>by cases q⟩,rfl⟩,fun q=>by cases q⟩
  · simp only [decide_eq_false h,Bool.not_false,if_true]
    exact⟨_,rfl,rfl,⟨hc,rfl⟩,fun _=>rfl⟩
omit hw in
theorem aPP(e:Int):∃r,NZ c e=some r∧N0 c e=some r∧RR r.1∧c.aJ≤r.1.aJ:=by
  have h3:=hc.2.1
  unfold NZ N0
  rw [AV hc.small.1,AW hc.small.1,vK,vL hc.small.2,decide_eq_true hc]
  simp only [Option.bind_some,Bool.not_true,Bool.false_eq_true,if_false,w5,xS]
  by_cases h:c.aJ=e
  · subst h
    simp only [bne_self_eq_false,Bool.false_eq_true,if_false]
    by_cases h:c.aJ=100000
    · simp only [h,beq_self_eq_true,if_true];exact⟨_,rfl,rfl,hc,by simp [h]⟩
    · have h':(c.aJ == 100000)=false:=by simpa using h
      have hE:=hc.1
      have hw7:aH (c.aJ+1)=c.aJ+1:=aV (by omega) (by omega)
      simp only [h',Bool.false_eq_true,if_false,hw7];exact⟨_,rfl,rfl,hc.aTU (by omega),by simp only;omega⟩
  · have h':(c.aJ != e)=true:=by simpa using h
    simp only [h',if_true];exact⟨_,rfl,rfl,hc,Int.le_refl _⟩
end
theorem aR7{b:aB}(hc:RR b.aD){w:Int}(hw:0≤w∧w≤2)(s:Sub) :
    ∃x y,FO b w s=some (x,y)∧sB s b w=some (y,x)∧∃cl,x=⟨b.Mem,cl,b.aK,b.b9⟩∧RR cl∧b.aD.aJ≤cl.aJ:=by
  obtain⟨r,e1,e2,h3,h4⟩:=aM5 hc hw s.E
  unfold FO sB
  rw [e1,e2]
  simp only [bR,bA,tA,Option.bind_some]
  by_cases p0:s.Pc=0
  · simp only [p0,beq_self_eq_true,if_true];exact⟨_,_,rfl,rfl,_,rfl,hc,by omega⟩
  · have p0':(s.Pc == 0)=false:=by simpa using p0
    simp only [p0',Bool.false_eq_true,if_false]
    by_cases p1:s.Pc=1
    · simp only [p1,beq_self_eq_true,if_true]
      cases h:r.2
      · rw [h4 h];exact⟨_,_,rfl,rfl,_,rfl,hc,by omega⟩
      · exact⟨_,_,rfl,rfl,_,rfl,h3.1,by rw [h3.2];exact Int.le_refl _⟩
    · have p1':(s.Pc == 1)=false:=by simpa using p1
      simp only [p1',Bool.false_eq_true,if_false]
      by_cases p2:s.Pc=2
      · simp only [p2,beq_self_eq_true,if_true]
        by_cases q:b.aD.aJ=s.E
        · simp only [q,beq_self_eq_true,if_true];exact⟨_,_,rfl,rfl,_,rfl,hc,by omega⟩
        · have q':(b.aD.aJ == s.E)=false:=by simpa using q
          simp only [q',Bool.false_eq_true,if_false];exact⟨_,_,rfl,rfl,_,rfl,hc,by omega⟩
      · have p2':(s.Pc == 2)=false:=by simpa using p2
        simp only [p2',Bool.false_eq_true,if_false];exact⟨_,_,rfl,rfl,_,rfl,hc,by omega⟩
theorem aGV{b:aB}(hc:RR b.aD)(s:Sub) :
    ∃x y,uJ b s=some (x,y)∧lM s b=some (y,x)∧∃cl,x=⟨b.Mem,cl,b.aK,b.b9⟩∧RR cl∧b.aD.aJ≤cl.aJ:=by
  obtain⟨r2,e3,e4,h4⟩:=aPP hc s.E
  unfold uJ lM iQ
  rw [e3,e4,cK,gL]
  simp only [bR,bA,nP,nQ,iP,Option.bind_some]
  by_cases p0:s.Pc=0
  · simp only [p0,beq_self_eq_true,if_true];exact⟨_,_,rfl,rfl,_,rfl,hc,by omega⟩
  · have p0':(s.Pc == 0)=false:=by simpa using p0
    simp only [p0',Bool.false_eq_true,if_false]
    by_cases p1:s.Pc=1
    · simp only [p1,beq_self_eq_true,if_true,show((1:Int) == 2)=false from rfl,Bool.false_eq_true,if_false]
      by_cases hB:0≤s.B∧s.B≤2
      · obtain⟨r,e1,e2,h3,h3'⟩:=aJI hc hB s.E
        simp only [decide_eq_true hB,Bool.not_true,Bool.false_eq_true,if_false,if_true,e1,e2,Option.bind_some]
        cases h:r.2
        · exact⟨_,_,rfl,rfl,_,rfl,h3,by rw [h3'];exact Int.le_refl _⟩
        · by_cases q:aH (s.B+1)=3
          · simp only [q,beq_self_eq_true,if_true,Bool.not_true,Bool.false_eq_true,if_false];exact⟨_,_,rfl,rfl,_,rfl,h3,by rw [h3'];exact Int.le_refl _⟩
          · have q':(aH (s.B+1) == 3)=false:=by simpa using q
            simp only [q',Bool.not_true,Bool.false_eq_true,if_false];exact⟨_,_,rfl,rfl,_,rfl,h3,by rw [h3'];exact Int.le_refl _⟩
      · simp only [decide_eq_false hB,Bool.not_false,Bool.false_eq_true,if_false,if_true]
        exact⟨_,_,rfl,rfl,_,rfl,hc,by omega⟩
    · have p1':(s.Pc == 1)=false:=by simpa using p1
      simp only [p1',Bool.false_eq_true,if_false]
      by_cases p2:s.Pc=2
      · simp only [p2,beq_self_eq_true,if_true]
        cases h:r2.2
        · simp only [Bool.false_eq_true,if_false];exact⟨_,_,rfl,rfl,_,rfl,h4⟩
        · simp only [if_true];exact⟨_,_,rfl,rfl,_,rfl,h4⟩
      · have p2':(s.Pc == 2)=false:=by simpa using p2
        simp only [p2',Bool.false_eq_true,if_false];exact⟨_,_,rfl,rfl,_,rfl,hc,by omega⟩
end Go.Gv
end
noncomputable section
set_option linter.unusedVariables false
set_option linter.unusedSimpArgs false
namespace Go.Gv
theorem aGW:∀(n:Nat) (l:List Int),l.Nodup→(∀x∈l,0≤x∧x < (n:Int))→l.length≤n
  | 0, l, _, h => by
    cases l with
    | nil=>simp
    | cons a t=>have:=h a (by simp);omega
  | n + 1, l, hn, h => by
    have ih:=aGW n (l.erase (n:Int)) (hn.erase _) (fun x hx=>by
      have h1:=(hn.mem_erase_iff).1 hx
      have h2:=h x h1.2
      have:=h1.1
      omega)
    have:=List.length_erase (a:=(n:Int)) (l:=l)
    split at this <;> omega
theorem aDR(a b:List aN):cV (a++b)=cV a++cV b:=by simp [cV]
theorem aDS(a b:List aG):cJ (a++b)=cJ a++cJ b:=by simp [cJ]
theorem JC{l:List aN}{k:Nat}(hk:k < l.length)(x:aN):cV (l.set k x)=cV (l.take k)++(x.Rows++cV (l.drop (k+1))):=by
  rw [List.set_eq_take_append_cons_drop,if_pos hk,aDR];simp [cV]
theorem GP{l:List aN}{k:Nat}(hk:k < l.length):cV l=cV (l.take k)++(l[k].Rows++cV (l.drop (k+1))):=by
  conv=>lhs;rw [←List.set_getElem_self hk,JC hk]
theorem DS{l:List aG}{k:Nat}(hk:k < l.length)(x:aG):cJ (l.set k x)=cJ (l.take k)++(x.aO++cJ (l.drop (k+1))):=by
  rw [List.set_eq_take_append_cons_drop,if_pos hk,aDS];simp [cJ]
theorem BH{l:List aG}{k:Nat}(hk:k < l.length):cJ l=cJ (l.take k)++(l[k].aO++cJ (l.drop (k+1))):=by
  conv=>lhs;rw [←List.set_getElem_self hk,DS hk]
def aFK(l:List aN)(s:Int):Prop:=∃r∈cV l,pR r.Handle∧r.Handle % 32=s
instance (l:List aN) (s:Int):Decidable (aFK l s):=by unfold aFK;infer_instance
noncomputable section
variable {l:List aN} (hl:BF l)
include hl
theorem BF.small:(cV l).length≤1073741824∧l.length≤maxLen∧l.length≤1048576∧∀s∈l,s.Rows.length≤24:=by
  have:=hl.1;have h2:=hl.2.1
  refine⟨by omega,by simp only [maxLen];omega,by omega,fun s hs=>?_⟩
  have:=aB1 hs;omega
theorem VK(s:Int):CD l s=some (decide (aFK l s)):=by
  have hm:=hl.small
  unfold CD
  rw [Y9 hm.1 hm.2.1,Option.bind_some]
  have key:=lB (f:=kQ s (cV l)) (cV l) (fun k=>(k:Int)) (fun r=>¬(pR r.Handle∧r.Handle % 32=s)) (Out.brk ()) (Out.ret true)
    (fun k hk hp=>by
      have hk':=hl.2.1
      simp only [kQ,oT]
      rw [if_pos (by simp;omega),aS hk,cY (show k < maxLen by simp only [maxLen];omega)]
      simp only [Option.bind_some,fH,eX]
      by_cases q:pR (cV l)[k].Handle
      · have:((cV l)[k].Handle % 32 == s)=false:=by simpa using fun a=>hp ⟨q,a⟩
        simp [q,this]
      · simp [q])
    (fun k hk hp=>by
      have hp:=Classical.not_not.1 hp
      simp only [kQ,oT]
      rw [if_pos (by simp;omega),aS hk]
      simp [fH,eX,hp.1,hp.2])
    (by simp [kQ])
  have key':loop (kQ s (cV l)) 0=_:=key
  rw [key']
  by_cases q:aFK l s
  · rw [if_neg (fun a=>by obtain⟨r,hr,e⟩:=q;exact a r hr e),decide_eq_true q];rfl
  · rw [if_pos (fun r hr e=>q ⟨r,hr,e⟩),decide_eq_false q];rfl
theorem VL(s:Int):CX l s=some (decide (aFK l s)):=by
  have hm:=hl.small
  unfold CX
  have e1:∀(r:bY),mZ r s=some (decide (pR r.Handle∧r.Handle % 32=s)):=by
    intro r
    unfold mZ mF
    rw [gZ]
    by_cases q:pR r.Handle
    · rw [q.mod.1];simp [q];rfl
    · simp [q]
  have e2:∀x∈l,xO x s=some (x.Rows.any fun r=>decide (pR r.Handle∧r.Handle % 32=s)):=by
    intro x hx
    unfold xO
    have:x.Rows.length≤maxLen:=by have:=hm.2.2.2 x hx;simp only [maxLen];omega
    rw [show(fun y0=>mZ y0 s)=fun r=>some (decide (pR r.Handle∧r.Handle % 32=s)) from funext e1,aBB this];rfl
  rw [ZB hm.2.1 (fun x=>x.Rows.any fun r=>decide (pR r.Handle∧r.Handle % 32=s)) _ e2]
  simp only [Option.bind_some]
  congr 1
  rw [Bool.eq_iff_iff,decide_eq_true_iff]
  simp only [List.any_eq_true,decide_eq_true_eq,aFK,cV,List.mem_flatMap]
  constructor
  · rintro⟨x,hx,r,hr,h⟩;exact⟨r,⟨x,hx,hr⟩,h⟩
  · rintro⟨r,⟨x,hx,hr⟩,h⟩;exact⟨x,hx,r,hr,h⟩
theorem BF.more{k:Nat}(hk:k < l.length){r:bY}(hr:GN r)(hn:¬aFK l (r.Handle % 32)):BF (l.set k ⟨l[k].Rows ++ [r]⟩):=by
  have e:=JC hk (⟨l[k].Rows ++ [r]⟩:aN)
  have p:(cV (l.set k ⟨l[k].Rows ++ [r]⟩)).Perm (r :: cV l):=by
    rw [e,GP hk]
    refine List.Perm.trans ?_ List.perm_middle
    simp only [List.append_assoc]
    exact List.Perm.append_left _ (by simp only [List.singleton_append];exact(List.perm_middle (l₁:=l[k].Rows) (l₂:=cV (l.drop (k+1))) (a:=r)))
  have h1:∀x∈cV (l.set k ⟨l[k].Rows ++ [r]⟩),GN x:=fun x hx=>by
    rcases List.mem_cons.1 (p.mem_iff.1 hx) with rfl | h
    · exact hr
    · exact hl.2.2.1 x h
  have h2:((cV (l.set k ⟨l[k].Rows ++ [r]⟩)).map BE).Nodup:=by
    refine(List.Perm.nodup_iff (p.map BE)).2 ?_
    rw [List.map_cons,List.nodup_cons]
    refine⟨fun h=>hn ?_,hl.2.2.2⟩
    obtain⟨x,hx,e⟩:=List.mem_map.1 h
    exact⟨x,hx,(hl.2.2.1 x hx).1,e⟩
  refine⟨by simpa using hl.1,?_,h1,h2⟩
  have:=aGW 24 _ h2 (fun x hx=>by
    obtain⟨y,hy,rfl⟩:=List.mem_map.1 hx
    have:=(h1 y hy).1.mod
    unfold BE;omega)
  simpa using this
end
theorem aJJ{b:aB}(hb:HO b)(hs:aGU b){w:Int}(hw:0≤w∧w≤2)(s:Sub) :
    ∃x y,w3 b w s=some (x,y)∧mG s b w=some (y,x)∧∃L,x=⟨b.Mem,b.aD,L,b.b9⟩∧BF L∧∀r∈cV L,V9 b r:=by
  have hL:=hb.1.2.2.1
  have hm:=hb.1.1
  have hlen:w.toNat < b.aK.length:=by have:=hL.1;omega
  have hx:idx b.aK w=some b.aK[w.toNat]:=pQ hw.1 (by omega)
  have hg:b.Mem.aA.Global.length≤maxLen:=by rw [hm.1.2.1];simp [maxLen]
  have ho:b.Mem.aA.aU.length≤maxLen:=by rw [hm.1.2.2.1];simp [maxLen]
  have hall:(dS b.Mem.aA).length≤1073741824:=by have:=hs.1.2.2.2.2;omega
  have hrow:=hL.small.2.2.2 _ (List.getElem_mem hlen)
  have he:=hb.1.2.1.1
  unfold w3 mG jO
  rw [cK,dE,LH hm.1.1.1 hall hg ho,NF hm.1.1.1 hall hg ho,eX]
  simp only [bR,bA,Option.bind_some,pX,wZ,jN]
  by_cases p0:s.Pc=0
  · simp only [p0,beq_self_eq_true,if_true];exact⟨_,_,rfl,rfl,_,rfl,hL,hb.2⟩
  · have p0' : (s.Pc == 0) = false := by simpa using p0
    simp only [p0',Bool.false_eq_true,if_false]
    by_cases p1:s.Pc=1
    · simp only [p1,beq_self_eq_true,bne_self_eq_false,Bool.false_eq_true,if_false,if_true]
      by_cases q1:0≤s.E∧s.E≤b.aD.aJ
      · simp only [decide_eq_true q1,Bool.not_true,Bool.false_eq_true,if_false]
        by_cases q2:BG b.Mem s.A
        · have hh:=q2.1
          simp only [decide_eq_true q2,Bool.not_true,Bool.false_eq_true,if_false,if_pos hh,hh.mod.1,VK hL,VL hL,Option.bind_some]
          by_cases q3:aFK b.aK (s.A % 32)
          · simp only [decide_eq_true q3,if_true];exact⟨_,_,rfl,rfl,_,rfl,hL,hb.2⟩
          · have hmore:=hL.more hlen (r:=⟨s.A,s.E⟩) ⟨hh,q1.1,by simp only;omega⟩ q3
            have e:AF b.aK w s.A s.E=some (b.aK.set w.toNat ⟨b.aK[w.toNat].Rows ++ [⟨s.A,s.E⟩]⟩,true):=by
              unfold AF rZ
              rw [BT hL.small.1,gL,O3 hL.small.2.2.1 (fun s h=>by have:=hL.small.2.2.2 s h;omega)]
              simp only [decide_eq_true hL,decide_eq_true hw,Option.bind_some,Bool.not_true,Bool.false_eq_true,if_false,hx]
              rw [aR (by simp;omega),BT hmore.small.1,decide_eq_true hmore];rfl
            simp only [decide_eq_false q3,Bool.false_eq_true,if_false,hx,e,Option.bind_some]
            rw [aR (by simp;omega)]
            refine⟨_,_,rfl,rfl,_,rfl,hmore,fun r hr=>?_⟩
            rw [JC hlen] at hr
            have hsp:=GP hlen
            rcases List.mem_append.1 hr with h | h
            · exact hb.2 r (by rw [hsp];exact List.mem_append_left _ h)
            · rcases List.mem_append.1 h with h | h
              · rcases List.mem_append.1 h with h | h
                · exact hb.2 r (by rw [hsp];exact List.mem_append_right _ (List.mem_append_left _ h))
                · simp at h;subst h;exact⟨q2,q1.2⟩
              · exact hb.2 r (by rw [hsp];exact List.mem_append_right _ (List.mem_append_right _ h))
        · simp only [decide_eq_false q2,Bool.not_false,if_true];exact⟨_,_,rfl,rfl,_,rfl,hL,hb.2⟩
      · simp only [decide_eq_false q1,Bool.not_false,if_true];exact⟨_,_,rfl,rfl,_,rfl,hL,hb.2⟩
    · have p1':(s.Pc == 1)=false:=by simpa using p1
      have p1'':(s.Pc != 1)=true:=by simpa using p1
      simp only [p1',p1'',Bool.false_eq_true,if_false,if_true];exact⟨_,_,rfl,rfl,_,rfl,hL,hb.2⟩
end Go.Gv
end
noncomputable section
set_option linter.unusedVariables false
set_option linter.unusedSimpArgs false
namespace Go.Gv
def st4(b:List Int)(a:Nat)(n:Int):List Int:=(((b.set a 0).set (a+1) 0).set (a+2) 0).set (a+3) n
theorem AX(b:List Int)(a:Nat)(n:Int):(st4 b a n).length=b.length:=by simp [st4]
theorem aFL{b:List Int}(h:p8 b)(a:Nat){n:Int}(hn:0≤n∧n≤255):p8 (st4 b a n):=by
  have key:∀{l:List Int} (i:Nat) (v:Int),p8 l→0≤v∧v≤255→p8 (l.set i v):=fun i v hl hv x hx=>by
    rcases List.mem_or_eq_of_mem_set hx with h | rfl
    · exact hl x h
    · exact hv
  exact key _ _ (key _ _ (key _ _ (key _ _ h (by omega)) (by omega)) (by omega)) hn
theorem aM6{n:Int}(hn:0≤n∧n≤255):((u8 n).toNat:Int)=n:=by
  obtain⟨m,rfl⟩:=Int.eq_ofNat_of_zero_le hn.1
  unfold u8
  rw [UInt8.toNat_ofNat'];omega
theorem RJ{l:List Int}(i:Nat){v:Int}(hl:p8 l)(hv:0≤v∧v≤255):p8 (l.set i v):=fun x hx=>by
  rcases List.mem_or_eq_of_mem_set hx with h | rfl
  · exact hl x h
  · exact hv
def HQ(b:List Int)(a:Nat)(n:Int):List Int:=(((b.set a (n / 16777216)).set (a+1) (n / 65536 % 256)).set (a+2) (n / 256 % 256)).set (a+3) (n % 256)
theorem RK(b:List Int)(a:Nat)(n:Int):(HQ b a n).length=b.length:=by simp [HQ]
theorem aJK{b:List Int}(h:p8 b)(a:Nat){n:Int}(hn:0≤n∧n≤4294967295):p8 (HQ b a n):=by
  unfold HQ
  exact RJ _ (RJ _ (RJ _ (RJ _ h (by omega)) (by omega)) (by omega)) (by omega)
theorem aJL(b:List Int)(a:Nat)(x y z u:Int):(((b.set (a+3) u).set (a+2) z).set (a+1) y).set a x=(((b.set a x).set (a+1) y).set (a+2) z).set (a+3) u:=by
  refine List.ext_getElem (by simp) fun j h1 h2=>?_
  simp only [List.getElem_set]
  by_cases j0:a=j
  · subst j0;simp
  · by_cases j1:a+1=j
    · subst j1;simp
    · by_cases j2:a+2=j
      · subst j2;simp
      · by_cases j3:a+3=j
        · subst j3;simp
        · simp [j0,j1,j2,j3]
theorem aB6{b:List Int}{a:Nat}(h:a+4≤b.length)(hl:b.length≤100000){n:Int}(hn:0≤n∧n≤4294967295):nM b (a:Int) 4 n=some (HQ b a n):=by
  have st:∀(c:List Int) (m:Int) (i:Nat),c.length=b.length→0≤m→m≤4294967295→i < 4→uH (a:Int) (c,m,(i:Int))=some (.next (c.set (a+i) (m % 256),m / 256,(i:Int) - 1)):=fun c m i hc h0 h1 hi=>by
    simp only [uH]
    rw [if_pos (by simp),aV (x:=(a:Int)+i) (by omega) (by omega),show(a:Int)+i=((a+i:Nat):Int) by omega,aS (by omega),Option.bind_some,BC h0,BA h0,aV (x:=m / 256) (by omega) (by omega),aV (x:=(i:Int) - 1) (by omega) (by omega),Int.toNat_natCast]
  unfold nM
  rw [show aH (4 - 1)=((3:Nat):Int) from by rw [aV (by omega) (by omega)];rfl]
  rw [bS (st b n 3 rfl hn.1 hn.2 (by omega)),show((3:Nat):Int) - 1=((2:Nat):Int) by rfl,
    bS (st _ _ 2 (by simp) (by omega) (by omega) (by omega)),show((2:Nat):Int) - 1=((1:Nat):Int) by rfl,
    bS (st _ _ 1 (by simp) (by omega) (by omega) (by omega)),show((1:Nat):Int) - 1=((0:Nat):Int) by rfl,
    bS (st _ _ 0 (by simp) (by omega) (by omega) (by omega)),bX (r:=HQ b a n)]
  · rfl
  · simp only [uH]
    rw [if_neg (by simp)]
    have e1:n / 256 / 256=n / 65536:=by omega
    have e2:n / 256 / 256 / 256=n / 16777216:=by omega
    have e3:n / 16777216 % 256=n / 16777216:=by omega
    rw [e1,show n / 65536 / 256=n / 16777216 by omega,e3]
    unfold HQ
    simp only [Nat.add_zero]
    rw [aJL]
def O4(n:Int):List UInt8:=[u8 (n / 16777216),u8 (n / 65536),u8 (n / 256),u8 n]
theorem ZD{n:Int}(hn:0≤n∧n≤4294967295):vV n 4=some (O4 n):=by
  have hw:hJ 4=some true:=by unfold hJ;rw [dE];rfl
  unfold vV
  rw [hw]
  have e1:IntKind.u64.wrap (aH (8 * 4))=32:=by decide
  have e2:aBJ .i64 1 32=4294967296:=by decide
  simp only [Option.bind_some,Bool.not_true,Bool.false_eq_true,if_false,e1,e2]
  rw [if_neg (by simp;omega),aR (by omega),decide_eq_false (by omega)]
  simp only [tP,Bool.false_eq_true,if_false]
  rw [aR (by omega),show aH (4 - 1)=((3:Nat):Int) from by rw [aV (by omega) (by omega)];rfl]
  have st:∀(m:Int) (c:List UInt8) (i:Nat),i < c.length→i < 4→0≤m→z9 (m,c,(i:Int))=some (.next (m / 256,c.set i (u8 m),(i:Int) - 1)):=fun m c i hc hi h0=>by
    simp only [z9]
    rw [if_pos (by simp),aS hc,Option.bind_some,show(8:Int)=((8:Nat):Int) from rfl,aPN h0 (by omega),aV (by omega) (by omega),Int.toNat_natCast];rfl
  rw [bS (st n _ 3 (by simp) (by omega) hn.1),show((3:Nat):Int) - 1=((2:Nat):Int) by rfl,
    bS (st _ _ 2 (by simp) (by omega) (by omega)),show((2:Nat):Int) - 1=((1:Nat):Int) by rfl,
    bS (st _ _ 1 (by simp) (by omega) (by omega)),show((1:Nat):Int) - 1=((0:Nat):Int) by rfl,
    bS (st _ _ 0 (by simp) (by omega) (by omega)),bX (r:=O4 n)]
  · rfl
  · simp only [z9]
    rw [if_neg (by simp)]
    have e1:n / 256 / 256=n / 65536:=by omega
    rw [e1,show n / 65536 / 256=n / 16777216 by omega]
    rfl
theorem aDT{n:Int}(hn:0≤n):((u8 n).toNat:Int)=n % 256:=by
  have:u8 n=u8 (n % 256):=by
    unfold u8
    congr 1
    omega
  rw [this,aM6 (by omega)]
theorem ZE{b:List Int}{a:Nat}(h:a+4≤b.length)(hl:b.length≤100000){n:Int}(hn:0≤n∧n≤4294967295):qN b (a:Int) (O4 n)=some (HQ b a n):=by
  have st:∀(c:List Int) (i:Nat) (v:UInt8),c.length=b.length→i < 4→idx (O4 n) (i:Int)=some v→xK b (a:Int) (O4 n) (c,(i:Int))=some (.next (c.set (a+i) (v.toNat:Int),((i+1:Nat):Int))):=fun c i v hc hi hv=>by
    simp only [xK]
    rw [aR hc,if_pos (by simp [O4];omega),hv,Option.bind_some,aV (x:=(a:Int)+i) (by omega) (by omega),show(a:Int)+i=((a+i:Nat):Int) by omega,aS (by omega),Option.bind_some,aV (by omega) (by omega),Int.toNat_natCast];rfl
  unfold qN
  rw [show(0:Int)=((0:Nat):Int) from rfl,bS (st b 0 _ rfl (by omega) rfl),bS (st _ 1 _ (by simp) (by omega) rfl),bS (st _ 2 _ (by simp) (by omega) rfl),bS (st _ 3 _ (by simp) (by omega) rfl),bX (r:=HQ b a n)]
  · simp only [Option.bind_some,ML,MK]
    rw [aR (RK b a n)]
  · simp only [xK]
    rw [aR (by simp),if_neg (by simp [O4])]
    simp only [aDT hn.1,aDT (show 0≤n / 16777216 by omega),aDT (show 0≤n / 65536 by omega),aDT (show 0≤n / 256 by omega)]
    rw [show n / 16777216 % 256=n / 16777216 by omega]
    rfl
theorem aM7{b:List Int}{a:Nat}{n:Int}(hn:0≤n∧n≤255):HQ b a n=st4 b a n:=by
  unfold HQ st4
  rw [show n / 16777216=0 by omega,show n / 65536 % 256=0 by omega,show n / 256 % 256=0 by omega,show n % 256=n by omega]
theorem LI{b:List Int}{a:Nat}(h:a+4≤b.length)(hl:b.length≤100000){n:Int}(hn:0≤n∧n≤255):nM b (a:Int) 4 n=some (st4 b a n):=by
  rw [aB6 h hl ⟨hn.1,by omega⟩,aM7 hn]
theorem aTV{n:Int}(hn:0≤n∧n≤255):O4 n=[0,0,0,u8 n]:=by
  unfold O4
  rw [show n / 16777216=0 by omega,show n / 65536=0 by omega,show n / 256=0 by omega];rfl
theorem O5{n:Int}(hn:0≤n∧n≤255):vV n 4=some [0,0,0,u8 n]:=by
  rw [ZD ⟨hn.1,by omega⟩,aTV hn]
theorem NG{b:List Int}{a:Nat}(h:a+4≤b.length)(hl:b.length≤100000){n:Int}(hn:0≤n∧n≤255):qN b (a:Int) [0,0,0,u8 n]=some (st4 b a n):=by
  rw [←aTV hn,ZE h hl ⟨hn.1,by omega⟩,aM7 hn]
end Go.Gv
end
noncomputable section
set_option linter.unusedVariables false
set_option linter.unusedSimpArgs false
set_option linter.unusedSectionVars false
namespace Go.Gv
theorem aQS{x y z:Int}:∀(a:Nat) (l:List Int),a+3≤l.length→cL l a [x,y,z]=((l.set a x).set (a+1) y).set (a+2) z
  | 0, l, h => by
    match l,h with
    | _ :: _ :: _ :: t,_=>simp [cL]
  | a + 1, l, h => by
    match l,h with
    | u :: t, h =>
      have ih:=aQS (x:=x) (y:=y) (z:=z) a t (by simp at h;omega)
      simp only [List.set_cons_succ,←ih]
      simp [cL,Nat.add_right_comm]
def aM8(p k:Nat)(c:Int):Nat:=(fJ ((p:Int) * 4+k) c).toNat
def gB(b:List Int)(p:Nat)(c:Int):Nat→List Int
  | 0=>((b.set (p * 64) 171).set (p * 64+1) c).set (p * 64+2) (cC c)
  | k+1=>st4 (gB b p c k) (aM8 p k c) 1
theorem HR(b:List Int)(p:Nat)(c:Int):∀k,(gB b p c k).length=b.length
  | 0=>by simp [gB]
  | k+1=>by rw [gB,AX,HR b p c k]
theorem ZF{l:List Int}(i:Nat){v:Int}(hl:p8 l)(hv:0≤v∧v≤255):p8 (l.set i v):=fun x hx=>by
  rcases List.mem_or_eq_of_mem_set hx with h | rfl
  · exact hl x h
  · exact hv
theorem aDU{b:List Int}(hb:p8 b)(p:Nat){c:Int}(hc:0≤c∧c≤2):∀k,p8 (gB b p c k)
  | 0 => by
    have:=lT c
    exact ZF _ (ZF _ (ZF _ hb (by omega)) (by omega)) (by omega)
  | k+1=>aFL (aDU hb p hc k) _ (by omega)
def gS(p:Nat)(n:Nat):List Int:=(List.range n).map fun(i:Nat)=>(p:Int) * 4+(i:Int)
theorem ZG(p n:Nat):(gS p n).length=n:=by simp [gS]
theorem aIR(p n:Nat):gS p (n+1)=gS p n ++ [(p:Int) * 4+(n:Int)]:=by simp [gS,List.range_succ]
theorem aDV{p k:Nat}{c:Int}(hp:p < 6)(hk:(k:Int) < cC c):fJ ((p:Int) * 4+k) c=(aM8 p k c:Int)∧aM8 p k c+4≤384:=by
  have h4:=lT c
  have hm:=EX (c:=c) (i:=(k:Int)) (by omega) hk
  have hst:4≤aW c:=by
    have:0≤c∧c≤2:=lU.1 (by omega)
    rcases fO this with e | e | e <;> rw [e] <;> decide
  have e:fJ ((p:Int) * 4+k) c=(p:Int) * 64+8+(k:Int) * aW c:=by
    unfold fJ
    rw [if_pos ⟨by omega,by omega⟩,show((p:Int) * 4+k) / 4=p by omega,show((p:Int) * 4+k) % 4=k by omega]
  unfold aM8
  rw [e];omega
theorem aB7{p k:Nat}(hp:p < 6)(hk:k < 4):nI (p:Int) (k:Int)=some ((p:Int) * 4+k)∧F9 (p:Int) (k:Int)=some ((p:Int) * 4+k):=by
  have a:0≤(p:Int)∧(p:Int)≤5:=by omega
  have b:0≤(k:Int)∧(k:Int)≤3:=by omega
  have e1:aH ((p:Int) * 4)=(p:Int) * 4:=aV (by omega) (by omega)
  have e2:aH ((p:Int) * 4+k)=(p:Int) * 4+k:=aV (by omega) (by omega)
  constructor
  · unfold nI qG;rw [cK,cK,decide_eq_true a,decide_eq_true b,e1,e2];rfl
  · unfold F9 xM;rw [dE,dE,decide_eq_true a,decide_eq_true b,e1,e2];rfl
noncomputable section
variable {b:List Int} (hb:b.length=384) {p:Nat} (hp:p < 6) {c:Int} (hc:0≤c∧c≤2)
include hb hp hc
theorem aGX:loop (uI c (p:Int)) ([],0,gB b p c 0)=some (gS p (cC c).toNat,gB b p c (cC c).toNat):=by
  have h4:=lT c
  refine fT (cC c).toNat (fun k=>(gS p k,(k:Int),gB b p c k)) _ (fun k hk=>?_) ?_
  · have ho:=aDV (c:=c) hp (k:=k) (by omega)
    simp only [uI,BK,fU,Option.bind_some]
    rw [if_pos (by simp;omega),(aB7 hp (by omega)).1]
    simp only [Option.bind_some,uD,ho.1]
    rw [LI (by rw [HR];omega) (by rw [HR];omega) (by omega)]
    simp only [Option.bind_some]
    rw [aR (by rw [ZG];simp;omega),aV (by omega) (by omega),aIR];rfl
  · simp only [uI,fU,Option.bind_some]
    rw [if_neg (by simp;omega)]
theorem aGY:loop (AD c (p:Int) (cC c)) ([],0,gB b p c 0)=some (gS p (cC c).toNat,gB b p c (cC c).toNat):=by
  have h4:=lT c
  refine fT (cC c).toNat (fun k=>(gS p k,(k:Int),gB b p c k)) _ (fun k hk=>?_) ?_
  · have ho:=aDV (c:=c) hp (k:=k) (by omega)
    simp only [AD,G9]
    rw [if_pos (by simp;omega),(aB7 hp (by omega)).2]
    simp only [Option.bind_some,uE,ho.1]
    rw [O5 (by omega),Option.bind_some,NG (by rw [HR];omega) (by rw [HR];omega) (by omega)]
    simp only [Option.bind_some]
    rw [aR (by rw [ZG];simp;omega),aV (by omega) (by omega),aIR];rfl
  · simp only [AD]
    rw [if_neg (by simp;omega)]
end
theorem aM9{h:aC}(hh:S4 h){c:Int}(hc:0≤c∧c≤2) :
    (rO h c=some (h,[])∧zG h c=some (h,[])) ∨
    ∃p,p < 6∧bQ h p < 0∧rO h c=some (⟨gB h.Bytes p c (cC c).toNat,h.Class.set p c⟩,gS p (cC c).toNat)∧zG h c=some (⟨gB h.Bytes p c (cC c).toNat,h.Class.set p c⟩,gS p (cC c).toNat):=by
  have hs:=hh.1
  have h6:=hs.2.1
  have h384:=hs.1
  have hp4:=lT c
  have hcp:=KI (h:=h) (by omega) (by omega)
  have hne:∀j (hj:j < 6),j < h.Class.findIdx (fun x=>decide (x = -1))→h.Class[j]≠-1:=fun j hj hlt=>by
    have:=List.not_of_lt_findIdx hlt
    simpa using this
  generalize hq:h.Class.findIdx (fun x=>decide (x = -1))=q at hne
  have hq6:q≤6:=by rw [←hq,←h6];exact List.findIdx_le_length
  have s1:∀k (hk:k < q),iW h c (k:Int)=some (.next ((k+1:Nat):Int)):=fun k hk=>by
    have:=hne k (by omega) hk
    have n:(h.Class[k] != -1)=true:=by simpa using this
    simp only [iW,BJ]
    rw [if_pos (by simp;omega),aS (by omega),Option.bind_some,n,if_pos rfl,aV (by omega) (by omega)];rfl
  have s2:∀k (hk:k < q),dJ h.Class (-1) (k:Int)=some (.next ((k+1:Nat):Int)):=fun k hk=>by
    have:=hne k (by omega) hk
    have n:((-1:Int) == h.Class[k])=false:=by simpa using fun a=>this a.symm
    simp only [dJ]
    rw [if_pos (by simp;omega),aS (by omega),Option.bind_some,n,aV (by omega) (by omega)];rfl
  have hm:h.Bytes.length≤maxLen:=by rw [h384];simp [maxLen]
  by_cases h5:q=6
  · left
    have a1:loop (iW h c) 0=some (Out.brk ()):=fT q (fun k=>(k:Int)) _ s1 (by simp only [iW];rw [if_neg (by simp;omega)])
    have a2:loop (dJ h.Class (-1)) 0=some (Out.brk ()):=fT q (fun k=>(k:Int)) _ s2 (by simp only [dJ];rw [if_neg (by simp;omega)])
    constructor
    · unfold rO;rw [a1];rfl
    · unfold zG jY
      rw [a2,hcp,E0 hm,gK,decide_eq_true hh,decide_eq_true hc];rfl
  · right
    have hq5:q < 6:=by omega
    have he:h.Class[q] = -1:=by
      have:=List.findIdx_getElem (xs:=h.Class) (p:=fun x=>decide (x = -1)) (w:=by rw [hq];omega)
      simp only [hq,decide_eq_true_eq] at this
      exact this
    refine⟨q,hq5,by rw [←aIO hs hq5,he];omega,?_,?_⟩
    · have a1:loop (iW h c) 0=some (Out.ret (⟨gB h.Bytes q c (cC c).toNat,h.Class.set q c⟩,gS q (cC c).toNat)):=fT q (fun k=>(k:Int)) _ s1 (by
        have e0:aH ((q:Int) * 64)=((q * 64:Nat):Int):=by rw [aV (by omega) (by omega)];omega
        have e1:aH (((q * 64:Nat):Int)+1)=((q * 64+1:Nat):Int):=by rw [aV (by omega) (by omega)];omega
        have e2:aH (((q * 64:Nat):Int)+2)=((q * 64+2:Nat):Int):=by rw [aV (by omega) (by omega)];omega
        have n:(h.Class[q] != -1)=false:=by simpa using he
        simp only [iW,e0,e1,e2,Int.toNat_natCast]
        rw [if_pos (by simp;omega),aS (by omega),Option.bind_some,n,if_neg (by simp),aS (by omega),Option.bind_some,aS (by simp;omega),Option.bind_some,fU,Option.bind_some,aS (by simp;omega),Option.bind_some]
        have:=aGX h384 hq5 hc
        simp only [gB] at this
        rw [this];rfl)
      unfold rO;rw [a1];rfl
    · have a2:loop (dJ h.Class (-1)) 0=some (Out.ret (q:Int)):=fT q (fun k=>(k:Int)) _ s2 (by
        have n:((-1:Int) == h.Class[q])=true:=by rw [he];rfl
        simp only [dJ]
        rw [if_pos (by simp;omega),aS (by omega),Option.bind_some,n];rfl)
      unfold zG jY
      rw [a2,hcp,E0 hm,gK,decide_eq_true hh,decide_eq_true hc]
      have e0:aH ((q:Int) * 64)=((q * 64:Nat):Int):=by rw [aV (by omega) (by omega)];omega
      simp only [Option.bind_some,mD,Bool.not_true,Bool.false_eq_true,if_false,tR,e0,vI,HA,Int.toNat_natCast]
      rw [decide_eq_false (by omega),if_neg (by simp),aS (by omega),Option.bind_some,aR (by omega),aQS _ _ (by omega)]
      have:=aGY h384 hq5 hc
      simp only [gB] at this
      rw [this];rfl
theorem ZT.count{l:aA}(h:ZT l):(dS l).length≤24:=aGW 24 _ h.2.2.2.2 (fun x hx=>by have:=h.2.2.2.1 x hx;omega)
theorem aJM{m:Mem}(hs:eQ m.aC){s:Int}(hc:0≤bL m.aC s):∃h,zS m s=some h∧AE m s=some h:=by
  unfold zS AE G3 HB rP rY
  rw [uF hs hc,AU hs hc,Option.bind_some,Option.bind_some,cK,cK,rG,dE]
  have h1:=(DN hc).1
  simp only [decide_eq_true h1,Option.bind_some,Bool.not_true,Bool.false_eq_true,if_false]
  by_cases q:1≤l7 m.aC s∧l7 m.aC s≤6
  · simp only [decide_eq_true q,Bool.not_true,Bool.false_eq_true,if_false];exact⟨_,rfl,rfl⟩
  · simp only [decide_eq_false q,Bool.not_false,if_true];exact⟨_,rfl,rfl⟩
theorem PZ{l:List aG}{k:Nat}(hk:k < l.length)(t:List Int):(cJ (l.set k ⟨l[k].aO++t⟩)).length=(cJ l).length+t.length:=by
  rw [DS hk,BH hk];simp;omega
end Go.Gv
end
noncomputable section
set_option linter.unusedVariables false
set_option linter.unusedSimpArgs false
set_option linter.unusedSectionVars false
namespace Go.Gv
def bt(b:List Int)(i:Nat):Int:=b.getD i 0
theorem ZH{b:List Int}{i:Nat}(h:i < b.length):b[i]=bt b i:=by
  unfold bt;rw [List.getD_eq_getElem?_getD,List.getElem?_eq_getElem h];rfl
theorem ld4{b:List Int}{a:Nat}(h:a+4≤b.length):ld b a 4=((bt b a * 256+bt b (a+1)) * 256+bt b (a+2)) * 256+bt b (a+3):=by
  unfold ld
  rw [List.drop_eq_getElem_cons (by omega),List.drop_eq_getElem_cons (by omega),List.drop_eq_getElem_cons (by omega),List.drop_eq_getElem_cons (by omega)]
  simp only [List.take_succ_cons,List.take_zero,ldF,List.foldl_cons,List.foldl_nil,ZH (b:=b) (i:=a) (by omega),ZH (b:=b) (i:=a+1) (by omega),ZH (b:=b) (i:=a+1+1) (by omega),ZH (b:=b) (i:=a+1+1+1) (by omega)]
  simp only [Nat.add_assoc,Nat.reduceAdd];omega
theorem E2{b:List Int}{i j:Nat}{v:Int}(hi:i < b.length):bt (b.set i v) j=if j=i then v else bt b j:=by
  unfold bt
  rw [List.getD_eq_getElem?_getD,List.getD_eq_getElem?_getD,List.getElem?_set]
  by_cases h:i=j
  · subst h;simp [hi]
  · have h':¬j=i:=fun q=>h q.symm
    simp [h,h']
theorem v7{b:List Int}{a:Nat}{n:Int}(h:a+4≤b.length)(j:Nat):bt (st4 b a n) j=if j=a+3 then n else if a≤j∧j < a+3 then 0 else bt b j:=by
  unfold st4
  rw [E2 (by simp;omega),E2 (by simp;omega),E2 (by simp;omega),E2 (by omega)]
  by_cases h1:j=a+3
  · simp [h1]
  · rw [if_neg h1,if_neg h1]
    by_cases h2:a≤j∧j < a+3
    · rw [if_pos h2]
      by_cases h3:j=a+2
      · simp [h3]
      · rw [if_neg h3]
        by_cases h4:j=a+1
        · simp [h4]
        · rw [if_neg h4,if_pos (by omega)]
    · rw [if_neg h2,if_neg (by omega),if_neg (by omega),if_neg (by omega)]
theorem aGZ{b:List Int}{a:Nat}{n:Int}(h:a+4≤b.length):ld (st4 b a n) a 4=n:=by
  rw [ld4 (by rw [AX];exact h),v7 h,v7 h,v7 h,v7 h,if_neg (by omega),if_pos (by omega),if_neg (by omega),if_pos (by omega),if_neg (by omega),if_pos (by omega),if_pos rfl]
  omega
theorem N5{b b':List Int}{a:Nat}(h:a+4≤b.length)(hl:b'.length=b.length)(hs:∀j,a≤j→j < a+4→bt b' j=bt b j):ld b' a 4=ld b a 4:=by
  rw [ld4 (by omega),ld4 h,hs a (by omega) (by omega),hs (a+1) (by omega) (by omega),hs (a+2) (by omega) (by omega),hs (a+3) (by omega) (by omega)]
def VM(h:aC)(p:Nat):Prop:=
  if bQ h p < 0 then ∀k,k < 64→bt h.Bytes (p * 64+k)=0
  else ((bt h.Bytes (p * 64)=171∧bt h.Bytes (p * 64+1)=bQ h p∧bt h.Bytes (p * 64+2)=cC (bQ h p))∧(∀k,3≤k→k < 8→bt h.Bytes (p * 64+k)=0)∧∀i,i < (cC (bQ h p)).toNat→1≤ld h.Bytes (p * 64+8+i * (aW (bQ h p)).toNat) 4∧ld h.Bytes (p * 64+8+i * (aW (bQ h p)).toNat) 4≤7)
theorem aB8{h:aC}(hs:eQ h){p:Nat}(hp:p < 6){k:Nat}(hk:k < 64):(dA h p).getD k 0=bt h.Bytes (p * 64+k):=by
  rw [←aBZ hs hp hk,ZH (by have:=hs.1;omega)]
theorem RL{l:List Int}{x:Int}:x∈l↔∃k,k < l.length∧l.getD k 0=x:=by
  rw [List.mem_iff_getElem]
  constructor
  · rintro⟨k,hk,e⟩
    exact⟨k,hk,by rw [List.getD_eq_getElem?_getD,List.getElem?_eq_getElem hk];exact e⟩
  · rintro⟨k,hk,e⟩
    exact⟨k,hk,by rw [List.getD_eq_getElem?_getD,List.getElem?_eq_getElem hk] at e;exact e⟩
theorem JD{h:aC}(hs:eQ h){p:Nat}(hp:p < 6):kG h p↔VM h p:=by
  unfold kG VM
  have hl:=EZ hs hp
  split
  · constructor
    · intro q k hk
      rw [←aB8 hs hp hk]
      exact q _ (RL.2 ⟨k,by omega,rfl⟩)
    · intro q x hx
      obtain⟨k,hk,rfl⟩:=RL.1 hx
      rw [aB8 hs hp (by omega)];exact q k (by omega)
  · rw [aB8 hs hp (by omega),aB8 hs hp (by omega),aB8 hs hp (by omega)]
    have e:(∀x∈((dA h p).drop 3).take 5,x=0)↔∀k,3≤k→k < 8→bt h.Bytes (p * 64+k)=0:=by
      have g:∀j,j < 5→(((dA h p).drop 3).take 5).getD j 0=bt h.Bytes (p * 64+(3+j)):=fun j hj=>by
        rw [←aB8 hs hp (by omega),List.getD_eq_getElem?_getD,List.getD_eq_getElem?_getD,List.getElem?_take,if_pos hj,List.getElem?_drop]
      constructor
      · intro q k h3 h8
        have:=q _ (RL.2 ⟨k - 3,by simp [hl];omega,rfl⟩)
        rw [g _ (by omega)] at this
        rw [show 3+(k - 3)=k by omega] at this;exact this
      · intro q x hx
        obtain⟨k,hk,rfl⟩:=RL.1 hx
        simp [hl] at hk
        rw [g _ hk];exact q _ (by omega) (by omega)
    rw [e];rfl
theorem VM.same{h h':aC}{p:Nat}(hp:p < 6)(hs:eQ h)(hl:h'.Bytes.length=h.Bytes.length)(hc:bQ h' p=bQ h p)(hb:∀k,k < 64→bt h'.Bytes (p * 64+k)=bt h.Bytes (p * 64+k))(q:VM h p):VM h' p:=by
  have h1:=hs.1
  unfold VM at q ⊢
  rw [hc]
  split
  · rename_i q0;rw [if_pos q0] at q
    exact fun k hk=>by rw [hb k hk];exact q k hk
  · rename_i q0;rw [if_neg q0] at q
    obtain⟨⟨a1,a2,a3⟩,a4,a5⟩:=q
    have b0:=hb 0 (by omega);have b1:=hb 1 (by omega);have b2:=hb 2 (by omega)
    simp only [Nat.add_zero] at b0
    refine⟨⟨by rw [b0];exact a1,by rw [b1];exact a2,by rw [b2];exact a3⟩,fun k k3 k8=>by rw [hb k (by omega)];exact a4 k k3 k8,fun i hi=>?_⟩
    have hz:=sM hs hp (c:=bQ h p) rfl hi
    rw [N5 (b:=h.Bytes) (by omega) hl fun j j1 j2=>by
      have:=hb (j - p * 64) (by omega)
      rw [show p * 64+(j - p * 64)=j by omega] at this;exact this]
    exact a5 i hi
theorem E3{h:aC}{s:Int}(hc:0≤bL h s):∃p i,p < 6∧i < (cC (bQ h p)).toNat∧s=(p:Int) * 4+i∧bL h s=bQ h p∧(fJ s (bL h s)).toNat=p * 64+8+i * (aW (bQ h p)).toNat∧(s / 4).toNat=p:=by
  obtain⟨h1,h2,h3⟩:=DN hc
  have hle:=lT (bQ h (s / 4).toNat)
  refine⟨(s / 4).toNat,(s % 4).toNat,by omega,by omega,by omega,h3,?_,rfl⟩
  rw [h3]
  unfold fJ
  rw [if_pos ⟨h1,by omega⟩]
  have hst:=(PX (bQ h (s / 4).toNat)).1
  have e:s % 4 * aW (bQ h (s / 4).toNat)=(((s % 4).toNat * (aW (bQ h (s / 4).toNat)).toNat:Nat):Int):=by
    rw [Int.natCast_mul,Int.toNat_of_nonneg (by omega),Int.toNat_of_nonneg hst]
  omega
theorem KJ{c:Int}{i j:Nat}(hi:i < (cC c).toNat)(hj:j < (cC c).toNat)(hn:i≠j):i * (aW c).toNat+4≤j * (aW c).toNat∨j * (aW c).toNat+4≤i * (aW c).toNat:=by
  have hc:0≤c∧c≤2:=lU.1 (by omega)
  have h12:12≤(aW c).toNat:=by rcases fO hc with rfl | rfl | rfl <;> decide
  rcases Nat.lt_or_gt_of_ne hn with q | q
  · left
    have:(i+1) * (aW c).toNat≤j * (aW c).toNat:=Nat.mul_le_mul_right _ q
    rw [Nat.add_mul] at this;omega
  · right
    have:(j+1) * (aW c).toNat≤i * (aW c).toNat:=Nat.mul_le_mul_right _ q
    rw [Nat.add_mul] at this;omega
theorem S4.aR8{h:aC}(hh:S4 h){s g:Int}(hc:0≤bL h s)(hg:1≤g∧g≤7) :
    S4 ⟨st4 h.Bytes (fJ s (bL h s)).toNat g,h.Class⟩∧∀t,0≤bL h t→l7 ⟨st4 h.Bytes (fJ s (bL h s)).toNat g,h.Class⟩ t=if t=s then g else l7 h t:=by
  obtain⟨hs,hp⟩:=hh
  have h384:=hs.1
  have hs':eQ ⟨st4 h.Bytes (fJ s (bL h s)).toNat g,h.Class⟩:=⟨by rw [AX];exact hs.1,hs.2.1,aFL hs.2.2.1 _ (by omega),hs.2.2.2⟩
  obtain⟨p,i,p6,hi,es,ec,eo,ep⟩:=E3 hc
  have hz:=sM hs p6 rfl hi
  have h4:=lT (bQ h p)
  refine⟨⟨hs',fun q hq=>?_⟩,fun t ht=>?_⟩
  · rw [JD hs' hq]
    have hold:=(JD hs hq).1 (hp q hq)
    by_cases e:q=p
    · subst e
      have hpos:0 < cC (bQ h q):=by omega
      have hcl:¬bQ h q < 0:=by have:=lU.1 hpos;omega
      unfold VM at hold ⊢
      have hcl':bQ ⟨st4 h.Bytes (fJ s (bL h s)).toNat g,h.Class⟩ q=bQ h q:=rfl
      rw [hcl']
      rw [if_neg hcl] at hold ⊢
      obtain⟨⟨a1,a2,a3⟩,a4,a5⟩:=hold
      have bs:∀k,k < 8→bt (st4 h.Bytes (fJ s (bL h s)).toNat g) (q * 64+k)=bt h.Bytes (q * 64+k):=fun k hk=>by
        rw [v7 (by omega),if_neg (by omega),if_neg (by omega)]
      have b0:=bs 0 (by omega);have b1:=bs 1 (by omega);have b2:=bs 2 (by omega)
      simp only [Nat.add_zero] at b0
      refine⟨⟨by rw [b0];exact a1,by rw [b1];exact a2,by rw [b2];exact a3⟩,fun k k3 k8=>by rw [bs k k8];exact a4 k k3 k8,fun j hj=>?_⟩
      have hzj:=sM hs p6 rfl hj
      by_cases ej:j=i
      · subst ej
        simp only [eo]
        rw [aGZ (by omega)];exact hg
      · rw [N5 (b:=h.Bytes) (by omega) (by simp only [AX]) fun k k1 k2=>?_]
        · exact a5 j hj
        · simp only [eo]
          have:=KJ hi hj (fun q=>ej q.symm)
          rw [v7 (by omega),if_neg (by omega),if_neg (by omega)]
    · refine VM.same hq hs (by simp only [AX]) rfl (fun k hk=>?_) hold
      rw [v7 (by omega),if_neg (by omega),if_neg (by omega)]
  · have e2:bL ⟨st4 h.Bytes (fJ s (bL h s)).toNat g,h.Class⟩ t=bL h t:=rfl
    unfold l7
    rw [e2]
    by_cases e:t=s
    · subst e;rw [if_pos rfl];simp only;rw [aGZ (by omega)]
    · rw [if_neg e]
      obtain⟨p',i',p6',hi',es',ec',eo',ep'⟩:=E3 ht
      have hz':=sM hs p6' rfl hi'
      rw [N5 (b:=h.Bytes) (by omega) (by simp only [AX]) fun k k1 k2=>?_]
      simp only
      by_cases ee:p'=p
      · subst ee
        have:=KJ hi hi' (fun q=>e (by rw [es,es',q]))
        rw [v7 (by omega),if_neg (by omega),if_neg (by omega)]
      · have h4':=lT (bQ h p')
        rw [v7 (by omega),if_neg (by omega),if_neg (by omega)]
theorem WA{p k:Nat}{c:Int}(hp:p < 6)(hk:(k:Int) < cC c):aM8 p k c=p * 64+8+k * (aW c).toNat∧8+k * (aW c).toNat+4≤64:=by
  have hc:0≤c∧c≤2:=lU.1 (by omega)
  have h1:=aDV (c:=c) hp hk
  have hle:=lT c
  have e:=h1.1
  unfold fJ at e
  rw [if_pos (by omega)] at e
  have e1:((p:Int) * 4+k) / 4=p:=by omega
  have e2:((p:Int) * 4+k) % 4=k:=by omega
  rw [e1,e2] at e
  rcases fO hc with rfl | rfl | rfl
  · rw [show aW 0=12 from rfl] at e ⊢
    rw [show cC 0=4 from rfl] at hk
    rw [show(12:Int).toNat=12 from rfl]
    omega
  · rw [show aW 1=20 from rfl] at e ⊢
    rw [show cC 1=2 from rfl] at hk
    rw [show(20:Int).toNat=20 from rfl]
    omega
  · rw [show aW 2=44 from rfl] at e ⊢
    rw [show cC 2=1 from rfl] at hk
    rw [show(44:Int).toNat=44 from rfl]
    omega
theorem aQT{b:List Int}{p:Nat}{c:Int}(hl:b.length=384)(hp:p < 6)(hc:0≤c∧c≤2):∀k:Nat,(k:Int)≤cC c→∀j,(j < p * 64∨p * 64+64≤j→bt (gB b p c k) j=bt b j)∧(3≤j→j < 8→bt (gB b p c k) (p * 64+j)=bt b (p * 64+j))∧bt (gB b p c k) (p * 64)=171∧bt (gB b p c k) (p * 64+1)=c∧bt (gB b p c k) (p * 64+2)=cC c
  | 0, hk, j => by
    have key:∀i,bt (gB b p c 0) i=if i=p * 64+2 then cC c else if i=p * 64+1 then c else if i=p * 64 then 171 else bt b i:=fun i=>by
      unfold gB
      rw [E2 (by simp;omega),E2 (by simp;omega),E2 (by omega)]
    refine⟨fun h=>?_,fun h1 h2=>?_,?_,?_,?_⟩
    · rw [key,if_neg (by omega),if_neg (by omega),if_neg (by omega)]
    · rw [key,if_neg (by omega),if_neg (by omega),if_neg (by omega)]
    · rw [key,if_neg (by omega),if_neg (by omega),if_pos rfl]
    · rw [key,if_neg (by omega),if_pos rfl]
    · rw [key,if_pos rfl]
  | k + 1, hk, j => by
    have ih:=aQT hl hp hc k (by omega)
    have hoff:=WA (c:=c) hp (by omega:(k:Int) < cC c)
    have hbl:=HR b p c k
    unfold gB
    refine⟨fun h=>?_,fun h1 h2=>?_,?_,?_,?_⟩
    · rw [v7 (by omega),if_neg (by omega),if_neg (by omega)];exact(ih j).1 h
    · rw [v7 (by omega),if_neg (by omega),if_neg (by omega)];exact(ih j).2.1 h1 h2
    · rw [v7 (by omega),if_neg (by omega),if_neg (by omega)];exact(ih j).2.2.1
    · rw [v7 (by omega),if_neg (by omega),if_neg (by omega)];exact(ih j).2.2.2.1
    · rw [v7 (by omega),if_neg (by omega),if_neg (by omega)];exact(ih j).2.2.2.2
theorem aNA{b:List Int}{p:Nat}{c:Int}(hl:b.length=384)(hp:p < 6):∀k:Nat,(k:Int)≤cC c→∀i,i < k→ld (gB b p c k) (p * 64+8+i * (aW c).toNat) 4=1
  | 0,_,i,h=>absurd h (by omega)
  | k + 1, hk, i, h => by
    have hbl:=HR b p c k
    have ho:=WA (c:=c) hp (by omega:(k:Int) < cC c)
    unfold gB
    by_cases e:i=k
    · subst e;rw [←ho.1];exact aGZ (by omega)
    · have hoi:=WA (c:=c) hp (by omega:(i:Int) < cC c)
      have ha:=KJ (c:=c) (i:=i) (j:=k) (by omega) (by omega) e
      rw [N5 (b:=gB b p c k) (by omega) (by rw [AX]) fun j j1 j2=>by rw [v7 (by omega),if_neg (by omega),if_neg (by omega)]]
      exact aNA hl hp k (by omega) i (by omega)
theorem RM{h:aC}(hs:eQ h){B:List Int}{p q:Nat}(hq:q < 6){c:Int}:bQ ⟨B,h.Class.set p c⟩ q=if q=p then c else bQ h q:=by
  have h6:=hs.2.1
  unfold bQ
  rw [List.getD_eq_getElem?_getD,List.getD_eq_getElem?_getD,List.getElem?_set]
  by_cases e:p=q
  · subst e;simp [h6,hq]
  · have e':¬q=p:=fun z=>e z.symm
    simp [e,e']
theorem S4.aTW{h:aC}(hh:S4 h){p:Nat}(hp:p < 6)(hun:bQ h p < 0){c:Int}(hc:0≤c∧c≤2) :
    S4 ⟨gB h.Bytes p c (cC c).toNat,h.Class.set p c⟩∧(∀t,(t / 4).toNat≠p→bL ⟨gB h.Bytes p c (cC c).toNat,h.Class.set p c⟩ t=bL h t)∧(∀t,0≤bL h t→(t / 4).toNat≠p∧l7 ⟨gB h.Bytes p c (cC c).toNat,h.Class.set p c⟩ t=l7 h t) ∧
      ∀i,i < (cC c).toNat→bL ⟨gB h.Bytes p c (cC c).toNat,h.Class.set p c⟩ ((p:Int) * 4+i)=c∧l7 ⟨gB h.Bytes p c (cC c).toNat,h.Class.set p c⟩ ((p:Int) * 4+i)=1:=by
  obtain⟨hs,hpg⟩:=hh
  have h384:=hs.1
  have hle:=lT c
  have hpn:((cC c).toNat:Int)≤cC c:=by omega
  have hb:=aQT h384 hp hc (cC c).toNat hpn
  have hbl:=HR h.Bytes p c (cC c).toNat
  have hs':eQ ⟨gB h.Bytes p c (cC c).toNat,h.Class.set p c⟩:=⟨by simp only [hbl];exact h384,by simp only [List.length_set];exact hs.2.1,aDU hs.2.2.1 p hc _,fun x hx=>by
    rcases List.mem_or_eq_of_mem_set hx with q | rfl
    · exact hs.2.2.2 x q
    · omega⟩
  have hcls:∀t:Int,(t / 4).toNat≠p→bL ⟨gB h.Bytes p c (cC c).toNat,h.Class.set p c⟩ t=bL h t:=fun t ht=>by
    unfold bL
    by_cases q:0≤t∧t≤23
    · rw [RM hs (by omega),if_neg ht]
    · rw [if_neg (fun z=>q z.1),if_neg (fun z=>q z.1)]
  refine⟨⟨hs',fun q hq=>?_⟩,hcls,fun t ht=>?_,fun i hi=>?_⟩
  · rw [JD hs' hq]
    have hold:=(JD hs hq).1 (hpg q hq)
    by_cases e:q=p
    · subst e
      unfold VM at hold ⊢
      rw [if_pos hun] at hold
      rw [RM hs hq,if_pos rfl,if_neg (by omega)]
      refine⟨(hb 0).2.2,fun k k3 k8=>?_,fun i hi=>?_⟩
      · simp only;rw [(hb k).2.1 k3 k8];exact hold k (by omega)
      · simp only;rw [aNA h384 hp _ hpn i hi];omega
    · refine VM.same hq hs (by simp only [hbl]) (by rw [RM hs hq,if_neg e]) (fun k hk=>?_) hold
      exact(hb _).1 (by omega)
  · obtain⟨p',i',p6',hi',es',ec',eo',ep'⟩:=E3 ht
    have hne:(t / 4).toNat≠p:=fun z=>by rw [ec',←ep',z] at ht;omega
    refine⟨hne,?_⟩
    have hz':=sM hs p6' rfl hi'
    unfold l7
    rw [hcls t hne,N5 (b:=h.Bytes) (by omega) (by simp only [hbl]) fun k k1 k2=>(hb k).1 (by omega)]
  · have e1:((p:Int) * 4+i) / 4=p:=by omega
    have e2:((p:Int) * 4+i) % 4=i:=by omega
    have ec:bL ⟨gB h.Bytes p c (cC c).toNat,h.Class.set p c⟩ ((p:Int) * 4+i)=c:=by
      unfold bL
      rw [e1,e2,Int.toNat_natCast,RM hs hp,if_pos rfl,if_pos (by omega)]
    refine⟨ec,?_⟩
    unfold l7
    rw [ec]
    have ho:=WA (c:=c) hp (by omega:(i:Int) < cC c)
    have:(fJ ((p:Int) * 4+i) c).toNat=p * 64+8+i * (aW c).toNat:=ho.1
    rw [this]
    exact aNA h384 hp _ hpn i hi
def sW(m m':Mem)(k:Int):Prop:=wI m'∧∀s,jP m s=3→s≠k→jP m' s=3∧l7 m'.aC s=l7 m.aC s∧bL m'.aC s=bL m.aC s
theorem sW.refl{m:Mem}(h:wI m)(k:Int):sW m m k:=⟨h,fun _ h _=>⟨h,rfl,rfl⟩⟩
theorem sW.live{m m':Mem}{k h:Int}(q:sW m m' k)(hl:BG m h)(hn:h % 32≠k):BG m' h:=by
  obtain⟨h1,h2,h3⟩:=hl
  obtain⟨a,b,_⟩:=q.2 _ h2 hn
  exact⟨h1,a,by rw [b];exact h3⟩
theorem GQ{l:List aG}{k j:Nat}(hk:k < l.length){t:aG}:iT (l.set k t) j=if j=k then t.aO else iT l j:=by
  unfold iT
  rw [List.getD_eq_getElem?_getD,List.getD_eq_getElem?_getD,List.getElem?_set]
  by_cases e:k=j
  · subst e;simp [hk]
  · have e':¬j=k:=fun z=>e z.symm
    simp [e,e']
theorem aB9{l:List aG}{k:Nat}(hk:k < l.length){t:aG}(ht:t.aO.Sublist l[k].aO):(cJ (l.set k t)).Sublist (cJ l):=by
  rw [DS hk,BH hk]
  exact(List.Sublist.refl _).append (ht.append (List.Sublist.refl _))
theorem RN{l:List aG}{k:Nat}(hk:k < l.length){xs:List Int}{s:Int}:s∈cJ (l.set k ⟨l[k].aO++xs⟩)↔s∈cJ l∨s∈xs:=by
  rw [DS hk,BH hk]
  simp only [List.mem_append]
  constructor
  · rintro(h | (h | h) | h)
    · exact .inl (.inl h)
    · exact .inl (.inr (.inl h))
    · exact .inr h
    · exact .inl (.inr (.inr h))
  · rintro((h | h | h) | h)
    · exact .inl h
    · exact .inr (.inl (.inl h))
    · exact .inr (.inr h)
    · exact .inr (.inl (.inr h))
theorem NH{l:List aG}{k:Nat}(hk:k < l.length){xs r q:List Int}(h:(q++(cJ l++r)).Nodup)(hx:xs.Nodup)(hd:∀x∈xs,x∉q++(cJ l++r)):(q++(cJ (l.set k ⟨l[k].aO++xs⟩)++r)).Nodup:=by
  have hp:(q++(cJ (l.set k ⟨l[k].aO++xs⟩)++r)).Perm (xs++(q++(cJ l++r))):=by
    rw [DS hk,BH hk]
    have e1:q++(cJ (l.take k)++(l[k].aO++xs++cJ (l.drop (k+1)))++r)=(q++cJ (l.take k)++l[k].aO)++(xs++(cJ (l.drop (k+1))++r)):=by simp
    have e2:xs++(q++(cJ (l.take k)++(l[k].aO++cJ (l.drop (k+1)))++r))=xs++((q++cJ (l.take k)++l[k].aO)++(cJ (l.drop (k+1))++r)):=by simp
    rw [e1,e2]
    exact List.perm_append_comm_assoc _ _ _
  rw [hp.nodup_iff,List.nodup_append]
  exact⟨hx,h,fun a ha b hb e=>hd a ha (e ▸ hb)⟩
theorem pD{m:Mem}{s:Int}:jP m s=3↔0≤bL m.aC s∧s∉dS m.aA∧l7 m.aC s≤6:=by
  unfold jP
  constructor
  · intro h
    split at h
    · omega
    · split at h
      · omega
      · split at h
        · omega
        · exact⟨by omega,by assumption,by omega⟩
  · rintro⟨a,b,c⟩
    rw [if_neg (by omega),if_neg b,if_neg (by omega)]
noncomputable section
variable {m:Mem} (hm:wI m)
include hm
theorem wI.aR9{k:Nat}(hk:k < 9){t:aG}(ht:t.aO.Sublist (iT m.aA.aU k)):sW m ⟨m.aC,⟨m.aA.Global,m.aA.aU.set k t⟩⟩ (-1):=by
  obtain⟨⟨hh,h3,h9,h2,hr,hn⟩,hg,ho⟩:=hm
  have hk':k < m.aA.aU.length:=by omega
  have ht':t.aO.Sublist m.aA.aU[k].aO:=by rw [eW hk'];exact ht
  have hsub:(dS ⟨m.aA.Global,m.aA.aU.set k t⟩).Sublist (dS m.aA):=(List.Sublist.refl _).append (aB9 hk' ht')
  refine⟨⟨⟨hh,h3,by simpa using h9,fun s hs=>?_,fun x hx=>hr x (hsub.subset hx),hsub.nodup hn⟩,hg,fun j hj=>?_⟩,fun s hs _=>⟨?_,rfl,rfl⟩⟩
  · rcases List.mem_or_eq_of_mem_set hs with q | rfl
    · exact h2 s q
    · have:=ht'.length_le;have:=h2 _ (List.getElem_mem hk');omega
  · unfold yW
    simp only [GQ hk']
    split
    · rename_i e;subst e
      exact fun x hx=>ho j hj x (ht.subset hx)
    · exact ho j hj
  · rw [pD] at hs ⊢
    exact⟨hs.1,fun q=>hs.2.1 (hsub.subset q),hs.2.2⟩
theorem wI.aJN{k:Nat}(hk:k < 3){t:aG}(ht:t.aO.Sublist (iT m.aA.Global k)):sW m ⟨m.aC,⟨m.aA.Global.set k t,m.aA.aU⟩⟩ (-1):=by
  obtain⟨⟨hh,h3,h9,h2,hr,hn⟩,hg,ho⟩:=hm
  have hk':k < m.aA.Global.length:=by omega
  have ht':t.aO.Sublist m.aA.Global[k].aO:=by rw [eW hk'];exact ht
  have hsub:(dS ⟨m.aA.Global.set k t,m.aA.aU⟩).Sublist (dS m.aA):=(aB9 hk' ht').append (List.Sublist.refl _)
  refine⟨⟨⟨hh,by simpa using h3,h9,h2,fun x hx=>hr x (hsub.subset hx),hsub.nodup hn⟩,fun j hj=>?_,ho⟩,fun s hs _=>⟨?_,rfl,rfl⟩⟩
  · unfold E8
    simp only [GQ hk']
    split
    · rename_i e;subst e
      exact fun x hx=>hg j hj x (ht.subset hx)
    · exact hg j hj
  · rw [pD] at hs ⊢
    exact⟨hs.1,fun q=>hs.2.1 (hsub.subset q),hs.2.2⟩
theorem wI.aPQ{k:Nat}(hk:k < 9){xs:List Int}(hl:(iT m.aA.aU k).length+xs.length≤2)(hx:xs.Nodup)(hf:yV m.aC xs ((k % 3:Nat):Int))(hd:∀x∈xs,x∉dS m.aA)(hk':k < m.aA.aU.length) :
    wI ⟨m.aC,⟨m.aA.Global,m.aA.aU.set k ⟨m.aA.aU[k].aO++xs⟩⟩⟩∧∀s,s∉xs→jP m s=3→jP ⟨m.aC,⟨m.aA.Global,m.aA.aU.set k ⟨m.aA.aU[k].aO++xs⟩⟩⟩ s=3:=by
  obtain⟨⟨hh,h3,h9,h2,hr,hn⟩,hg,ho⟩:=hm
  have hmem:∀s,s∈dS ⟨m.aA.Global,m.aA.aU.set k ⟨m.aA.aU[k].aO++xs⟩⟩↔s∈dS m.aA∨s∈xs:=fun s=>by
    unfold dS;simp only [List.mem_append,RN hk'];rw [or_assoc]
  have hcl:∀x∈xs,0≤x∧x≤23:=fun x h=>by
    have:=(hf x h).1
    exact(DN (h:=m.aC) (s:=x) (by omega)).1
  refine⟨⟨⟨hh,h3,by simpa using h9,fun s hs=>?_,fun x hx=>?_,?_⟩,hg,fun j hj=>?_⟩,fun s hs h3=>?_⟩
  · rcases List.mem_or_eq_of_mem_set hs with q | rfl
    · exact h2 s q
    · rw [←eW hk'] at hl;simpa using hl
  · rcases(hmem x).1 hx with q | q
    · exact hr x q
    · exact hcl x q
  · have:=NH (q:=cJ m.aA.Global) (r:=[]) hk' (by simpa [dS] using hn) hx (by simpa [dS] using hd)
    simpa [dS] using this
  · unfold yW
    simp only [GQ hk']
    split
    · rename_i e;subst e
      intro x hx
      rcases List.mem_append.1 hx with q | q
      · rw [eW hk'] at q;exact ho j hj x q
      · exact hf x q
    · exact ho j hj
  · rw [pD] at h3 ⊢
    exact⟨h3.1,fun q=>(((hmem s).1 q).elim h3.2.1 hs),h3.2.2⟩
theorem wI.ZI{k:Nat}(hk:k < 3){xs:List Int}(hx:xs.Nodup)(hf:yV m.aC xs (k:Int))(hd:∀x∈xs,x∉dS m.aA)(hk':k < m.aA.Global.length) :
    wI ⟨m.aC,⟨m.aA.Global.set k ⟨m.aA.Global[k].aO++xs⟩,m.aA.aU⟩⟩∧∀s,s∉xs→jP m s=3→jP ⟨m.aC,⟨m.aA.Global.set k ⟨m.aA.Global[k].aO++xs⟩,m.aA.aU⟩⟩ s=3:=by
  obtain⟨⟨hh,h3,h9,h2,hr,hn⟩,hg,ho⟩:=hm
  have hmem:∀s,s∈dS ⟨m.aA.Global.set k ⟨m.aA.Global[k].aO++xs⟩,m.aA.aU⟩↔s∈dS m.aA∨s∈xs:=fun s=>by
    unfold dS;simp only [List.mem_append,RN hk'];rw [or_right_comm]
  have hcl:∀x∈xs,0≤x∧x≤23:=fun x h=>by
    have:=(hf x h).1
    exact(DN (h:=m.aC) (s:=x) (by omega)).1
  refine⟨⟨⟨hh,by simpa using h3,h9,h2,fun x hx=>?_,?_⟩,fun j hj=>?_,ho⟩,fun s hs h3=>?_⟩
  · rcases(hmem x).1 hx with q | q
    · exact hr x q
    · exact hcl x q
  · have:=NH (q:=[]) (r:=cJ m.aA.aU) hk' (by simpa [dS] using hn) hx (by simpa [dS] using hd)
    simpa [dS] using this
  · unfold E8
    simp only [GQ hk']
    split
    · rename_i e;subst e
      intro x hx
      rcases List.mem_append.1 hx with q | q
      · rw [eW hk'] at q;exact hg j hj x q
      · exact hf x q
    · exact hg j hj
  · rw [pD] at h3 ⊢
    exact⟨h3.1,fun q=>(((hmem s).1 q).elim h3.2.1 hs),h3.2.2⟩
theorem wI.NI{x:Int}(hx:x∈dS m.aA):0≤bL m.aC x∧l7 m.aC x≤6:=by
  obtain⟨⟨hh,h3,h9,h2,hr,hn⟩,hg,ho⟩:=hm
  have key:∀(l:List aG),x∈cJ l→∃k,k < l.length∧x∈iT l k:=fun l h=>by
    obtain⟨s,h1,h2⟩:=N4.1 h
    obtain⟨k,hk,rfl⟩:=List.mem_iff_getElem.1 h1
    exact⟨k,hk,by rw [←eW hk];exact h2⟩
  rcases List.mem_append.1 hx with q | q
  · obtain⟨k,hk,h⟩:=key _ q
    have:=hg k (by omega) x h
    exact⟨by omega,this.2⟩
  · obtain⟨k,hk,h⟩:=key _ q
    have:=ho k (by omega) x h
    exact⟨by omega,this.2⟩
theorem wI.heap{h':aC}(hh:S4 h')(hs:∀x∈dS m.aA,bL h' x=bL m.aC x∧l7 h' x=l7 m.aC x):wI ⟨h',m.aA⟩:=by
  obtain⟨⟨_,hl⟩,hg,ho⟩:=hm
  have key:∀(l:List aG) k x,x∈iT l k→x∈cJ l:=fun l k x h=>by
    unfold iT at h
    rw [List.getD_eq_getElem?_getD] at h
    cases hk:l[k]? with
    | none=>rw [hk] at h;simp at h
    | some s=>rw [hk] at h;exact N4.2 ⟨s,List.mem_of_getElem? hk,h⟩
  refine⟨⟨hh,hl⟩,fun k hk x hx=>?_,fun k hk x hx=>?_⟩
  · obtain⟨a,b⟩:=hs x (List.mem_append_left _ (key _ k x hx))
    show bL h' x=_∧l7 h' x≤6
    rw [a,b];exact hg k hk x hx
  · obtain⟨a,b⟩:=hs x (List.mem_append_right _ (key _ k x hx))
    show bL h' x=_∧l7 h' x≤6
    rw [a,b];exact ho k hk x hx
theorem wI.aUO{s g:Int}(hu:jP m s=3)(hg:1≤g∧g≤7):sW m ⟨⟨st4 m.aC.Bytes (fJ s (bL m.aC s)).toNat g,m.aC.Class⟩,m.aA⟩ s∧l7 ⟨st4 m.aC.Bytes (fJ s (bL m.aC s)).toNat g,m.aC.Class⟩ s=g:=by
  have hu':=pD.1 hu
  obtain⟨a,b⟩:=S4.aR8 hm.1.1 hu'.1 hg
  refine⟨⟨wI.heap hm a fun x hx=>⟨rfl,?_⟩,fun t ht hn=>?_⟩,by rw [b s hu'.1,if_pos rfl]⟩
  · rw [b x (wI.NI hm hx).1,if_neg (show ¬x=s from fun e=>hu'.2.1 (e ▸ hx))]
  · have ht':=pD.1 ht
    have e:l7 ⟨st4 m.aC.Bytes (fJ s (bL m.aC s)).toNat g,m.aC.Class⟩ t=l7 m.aC t:=by rw [b t ht'.1,if_neg hn]
    exact⟨pD.2 ⟨ht'.1,ht'.2.1,by simp only [e];exact ht'.2.2⟩,e,rfl⟩
theorem wI.aTX{p:Nat}(hp:p < 6)(hun:bQ m.aC p < 0){c:Int}(hc:0≤c∧c≤2){xs:List Int}(hxs:∀x∈xs,∃i,i < (cC c).toNat∧x=(p:Int) * 4+(i:Nat))(hx:xs.Nodup)(hk':c.toNat < m.aA.Global.length) :
    sW m ⟨⟨gB m.aC.Bytes p c (cC c).toNat,m.aC.Class.set p c⟩,⟨m.aA.Global.set c.toNat ⟨m.aA.Global[c.toNat].aO++xs⟩,m.aA.aU⟩⟩ (-1):=by
  obtain⟨a,b,d,e⟩:=S4.aTW hm.1.1 hp hun hc
  have h1:wI ⟨⟨gB m.aC.Bytes p c (cC c).toNat,m.aC.Class.set p c⟩,m.aA⟩:=wI.heap hm a fun x hx=>by
    obtain⟨q,r⟩:=d x (wI.NI hm hx).1
    exact⟨b x q,r⟩
  have hno:∀x∈xs,¬0≤bL m.aC x:=fun x h q=>by
    obtain⟨i,hi,rfl⟩:=hxs x h
    have h4:=lT c
    exact(d _ q).1 (by omega)
  obtain⟨f,g⟩:=wI.ZI h1 (k:=c.toNat) (by omega) hx (fun x h=>by
    obtain⟨i,hi,rfl⟩:=hxs x h
    have:=e i hi
    exact⟨by simp only [this.1];omega,by simp only [this.2];omega⟩) (fun x h q=>hno x h (wI.NI hm q).1) hk'
  refine⟨f,fun s hs _=>?_⟩
  have hs':=pD.1 hs
  obtain⟨q,r⟩:=d s hs'.1
  have h2:jP ⟨⟨gB m.aC.Bytes p c (cC c).toNat,m.aC.Class.set p c⟩,m.aA⟩ s=3:=pD.2 ⟨by simp only [b s q];exact hs'.1,hs'.2.1,by simp only [r];exact hs'.2.2⟩
  exact⟨g s (fun h=>hno s h hs'.1) h2,r,b s q⟩
end
end Go.Gv
end
noncomputable section
set_option linter.unusedVariables false
set_option linter.unusedSimpArgs false
set_option linter.unusedSectionVars false
namespace Go.Gv
theorem aSA{p n:Nat}{x:Int}(h:x∈gS p n):∃i,i < n∧x=(p:Int) * 4+(i:Nat):=by
  simp only [gS,List.mem_map,List.mem_range] at h
  obtain⟨i,h1,h2⟩:=h
  exact⟨i,h1,h2.symm⟩
theorem aNB(p n:Nat):(gS p n).Nodup:=by
  unfold gS
  rw [List.Nodup,List.pairwise_map]
  exact List.Pairwise.imp (fun h e=>h (by omega)) (List.nodup_range (n:=n))
theorem aNC{m:Mem}(hm:wI m){c:Int}(hc:0≤c∧c≤2) :
    ∃m' s,CB m c=some (m',s)∧CU m c=some (m',s)∧v5 m'∧(0≤s→eQ m'.aC∧0≤bL m'.aC s)∧sW m m' (-1):=by
  have hl:=hm.1.2
  have hcnt:=hl.count
  have hs:=hm.1.1.1
  have hsl:=hl.TG (by omega)
  have hp4:=lT c
  have hpp:0 < cC c:=lU.2 hc
  have hall:=nE m.aA
  have hsG:∀s∈m.aA.Global,s.aO.length≤24:=fun s h=>by have:=BD h;omega
  have hsO:∀s∈m.aA.aU,s.aO.length≤24:=fun s h=>by have:=BD h;omega
  have h3:=hl.1
  have h9:=hl.2.1
  have hcpl:=HP (l:=m.aA) (by omega) (by omega) (fun s h=>by have:=hsG s h;omega) (fun s h=>by have:=hsO s h;omega)
  unfold CB CU
  rcases aM9 hm.1.1 hc with ⟨e1,e2⟩ | ⟨p,hp,hun,e1,e2⟩
  · rw [e1,e2,hcpl]
    have h1:=hs.1;have h2:=hs.2.1
    exact⟨_,_,rfl,rfl,⟨by simp only;omega,by simp only;omega,by simp only;omega,by simp only;omega,by simp only;omega⟩,fun h=>absurd h (by omega),sW.refl hm _⟩
  · rw [e1,e2,hcpl]
    simp only [Option.bind_some,BR,BQ,BL,ZG]
    have hn:(((cC c).toNat:Int) == 0)=false:=by simpa using (by omega:¬((cC c).toNat:Int)=0)
    have hk:c.toNat < m.aA.Global.length:=by omega
    have hg0:=hsG _ (List.getElem_mem hk)
    have hx:idx m.aA.Global c=some m.aA.Global[c.toNat]:=pQ hc.1 (by omega)
    have hz:idx (gS p (cC c).toNat) 0=some ((p:Int) * 4):=by
      have:=aS (l:=gS p (cC c).toNat) (k:=0) (by rw [ZG];omega)
      rw [show((0:Nat):Int)=0 from rfl] at this
      rw [this];simp [gS]
    have hlen:(List.drop (1:Int).toNat (List.take (cC c).toNat (gS p (cC c).toNat))).length≤4:=by simp [ZG];omega
    simp only [hn,Bool.false_eq_true,if_false,hx,Option.bind_some,hz]
    rw [aR (by omega),aR (by omega)]
    have hcl:bQ ⟨gB m.aC.Bytes p c (cC c).toNat,m.aC.Class.set p c⟩ p=c:=by
      have h6:=hs.2.1
      unfold bQ;simp [List.getD_eq_getElem?_getD,List.getElem?_set,h6,hp]
    refine⟨_,_,rfl,rfl,⟨by simp only [HR];have:=hs.1;omega,by simp only [List.length_set];have:=hs.2.1;omega,by simp only [List.length_set];omega,by simp only;omega,?_⟩,fun _=>⟨⟨by simp only [HR];exact hs.1,by simp only [List.length_set];exact hs.2.1,aDU hs.2.2.1 p hc _,fun x hx=>?_⟩,?_⟩,?_⟩
    · rw [nE];simp only [PZ hk];omega
    · rcases List.mem_or_eq_of_mem_set hx with h | rfl
      · exact hs.2.2.2 x h
      · omega
    · unfold bL
      have e4:((p:Int) * 4 / 4).toNat=p:=by omega
      rw [e4]
      simp only [hcl]
      rw [if_pos ⟨by omega,by omega⟩];exact hc.1
    · exact wI.aTX hm hp hun hc (fun x hx=>aSA (List.mem_of_mem_take (List.mem_of_mem_drop hx))) ((aNB p _).sublist ((List.drop_sublist _ _).trans (List.take_sublist _ _))) hk
theorem aG0(n:Int):∃c,CA n=some c∧CR n=some c∧(c = -1∨(0≤c∧c≤2)):=by
  have s1:∀k,0≤k∧k≤2→gE n k=some (if 1≤n∧n≤kE k then .stop (Out.ret k) else .next (k+1)):=fun k hk=>by
    simp only [gE]
    rw [if_pos (by simp;omega),EW,Option.bind_some,cK,Option.bind_some,aV (by omega) (by omega)]
    by_cases q:1≤n∧n≤kE k
    · rw [decide_eq_true q,if_pos rfl,if_pos q]
    · rw [decide_eq_false q,if_neg (by simp),if_neg q]
  have s2:∀k,0≤k∧k≤2→gH n k=some (if 1≤n∧n≤kE k then .stop (Out.ret k) else .next (k+1)):=fun k hk=>by
    simp only [gH,uO]
    rw [if_pos (by simp;omega),M4,Option.bind_some,aV (by omega) (by omega)]
    by_cases q1:1≤n
    · by_cases q2:n≤kE k <;> simp [q1,q2]
    · simp [q1]
  have st:∀k,0≤k∧k≤2→1≤n∧n≤kE k→loop (gE n) k=some (Out.ret k)∧loop (gH n) k=some (Out.ret k):=fun k hk h=>
    ⟨bX (by rw [s1 k hk,if_pos h]),bX (by rw [s2 k hk,if_pos h])⟩
  have nx:∀k,0≤k∧k≤2→¬(1≤n∧n≤kE k)→loop (gE n) k=loop (gE n) (k+1)∧loop (gH n) k=loop (gH n) (k+1):=fun k hk h=>
    ⟨bS (by rw [s1 k hk,if_neg h]),bS (by rw [s2 k hk,if_neg h])⟩
  unfold CA CR
  by_cases q0:1≤n∧n≤kE 0
  · have:=st 0 (by omega) q0
    rw [this.1,this.2];exact⟨_,rfl,rfl,.inr (by omega)⟩
  · have h0:=nx 0 (by omega) q0
    rw [h0.1,h0.2,show(0:Int)+1=1 from rfl]
    by_cases q1:1≤n∧n≤kE 1
    · have:=st 1 (by omega) q1
      rw [this.1,this.2];exact⟨_,rfl,rfl,.inr (by omega)⟩
    · have h1:=nx 1 (by omega) q1
      rw [h1.1,h1.2,show(1:Int)+1=2 from rfl]
      by_cases q2:1≤n∧n≤kE 2
      · have:=st 2 (by omega) q2
        rw [this.1,this.2];exact⟨_,rfl,rfl,.inr (by omega)⟩
      · have h2:=nx 2 (by omega) q2
        rw [h2.1,h2.2,show(2:Int)+1=3 from rfl,bX (body:=gE n) (r:=Out.brk ()) (by simp [gE]),bX (body:=gH n) (r:=Out.brk ()) (by simp [gH])]
        exact⟨_,rfl,rfl,.inl rfl⟩
theorem aND{s:aG}(hl:s.aO.length≤1048576):∃t x,vS s=some (t,x)∧qM s=some (x,t)∧t.aO.length≤s.aO.length∧(0≤x→x∈s.aO)∧t.aO.Sublist s.aO:=by
  unfold vS qM G0
  rw [aV (by omega) (by omega)]
  by_cases q:s.aO.length=0
  · rw [if_pos (by simpa using q),if_pos (by simp;omega)]
    exact⟨_,_,rfl,rfl,Nat.le_refl _,fun h=>absurd h (by omega),List.Sublist.refl _⟩
  · have hx:idx s.aO ((s.aO.length:Int) - 1)=some (s.aO[s.aO.length - 1]'(by omega)):=by
      rw [show((s.aO.length:Int) - 1)=((s.aO.length - 1:Nat):Int) by omega,aS (by omega)]
    rw [if_neg (by simpa using q),if_neg (by simp;omega),aR (by omega),hx]
    simp only [Option.bind_some]
    rw [aR (by omega)]
    exact⟨_,_,rfl,rfl,by simp,fun _=>List.getElem_mem _,(List.drop_sublist _ _).trans (List.take_sublist _ _)⟩
theorem RO{w c:Int}(hw:0≤w∧w≤2)(hc:0≤c∧c≤2):qE w c=some (w * 3+c)∧EE w c=some (w * 3+c):=by
  have e:aH (aH (w * 3)+c)=w * 3+c:=by rw [aV (x:=w * 3) (by omega) (by omega),aV (by omega) (by omega)]
  constructor
  · unfold qE tD;rw [cK,cK,decide_eq_true hw,decide_eq_true hc,e];rfl
  · unfold EE z8;rw [gL,gK,decide_eq_true hw,decide_eq_true hc,e];rfl
theorem ZJ{l:List aG}{k:Nat}(hk:k < l.length){t:aG}(ht:t.aO.length≤l[k].aO.length):(cJ (l.set k t)).length≤(cJ l).length:=by
  rw [DS hk,BH hk];simp;omega
noncomputable section
variable {m:Mem} (hm:wI m)
include hm
theorem wI.facts:(dS m.aA).length≤24∧m.aA.Global.length=3∧m.aA.aU.length=9∧m.aC.Bytes.length=384∧m.aC.Class.length=6∧v5 m∧fQ m.aA=some m.aA∧hC m.aA=some true ∧
    (∀s∈m.aA.Global,s.aO.length≤24)∧(∀s∈m.aA.aU,s.aO.length≤24):=by
  have hl:=hm.1.2
  have hcnt:=hl.count
  have hall:=nE m.aA
  have hsG:∀s∈m.aA.Global,s.aO.length≤24:=fun s h=>by have:=BD h;omega
  have hsO:∀s∈m.aA.aU,s.aO.length≤24:=fun s h=>by have:=BD h;omega
  have h3:=hl.1;have h9:=hl.2.1
  have h1:=hm.1.1.1.1;have h2:=hm.1.1.1.2.1
  refine⟨hcnt,h3,h9,h1,h2,⟨by omega,by omega,by omega,by omega,by omega⟩,HP (by omega) (by omega) (fun s h=>by have:=hsG s h;omega) (fun s h=>by have:=hsO s h;omega),by rw [LG (by omega),decide_eq_true hl],hsG,hsO⟩
theorem aG1{w c:Int}(hw:0≤w∧w≤2)(hc:0≤c∧c≤2) :
    ∃l t x,idx m.aA.aU (w * 3+c)=some l∧vS l=some (t,x)∧CS m.aA w c=some (⟨m.aA.Global,m.aA.aU.set (w * 3+c).toNat t⟩,x) ∧
      v5 ⟨m.aC,⟨m.aA.Global,m.aA.aU.set (w * 3+c).toNat t⟩⟩∧(0≤x→0≤bL m.aC x)∧sW m ⟨m.aC,⟨m.aA.Global,m.aA.aU.set (w * 3+c).toNat t⟩⟩ (-1):=by
  obtain⟨hcnt,h3,h9,h1,h2,hsm,hcp,hlo,hsG,hsO⟩:=wI.facts hm
  have hk:(w * 3+c).toNat < m.aA.aU.length:=by omega
  have hx:idx m.aA.aU (w * 3+c)=some m.aA.aU[(w * 3+c).toNat]:=pQ (by omega) (by omega)
  have h24:=hsO _ (List.getElem_mem hk)
  obtain⟨t,x,e1,e2,ht,hmem,hsub⟩:=aND (s:=m.aA.aU[(w * 3+c).toNat]) (by omega)
  have hall:=nE m.aA
  refine⟨_,t,x,hx,e1,?_,⟨by simp only;omega,by simp only;omega,by simp only;omega,by simp only [List.length_set];omega,?_⟩,fun h0=>?_,wI.aR9 hm (by omega) (by rw [←eW hk];exact hsub)⟩
  · unfold CS uQ
    rw [hcp,(RO hw hc).2,hlo]
    simp only [Option.bind_some,Bool.not_true,Bool.false_eq_true,if_false]
    rw [decide_eq_false (by omega),if_neg (by simp),hx,Option.bind_some,e2];rfl
  · have:=ZJ hk ht
    rw [nE];simp only;omega
  · have:=hm.2.2 (w * 3+c).toNat (by omega) x (by rw [←eW hk];exact hmem h0)
    omega
theorem aBE{c:Int}(hc:0≤c∧c≤2) :
    ∃l t x,idx m.aA.Global c=some l∧vS l=some (t,x)∧uR m.aA c=some (⟨m.aA.Global.set c.toNat t,m.aA.aU⟩,x) ∧
      v5 ⟨m.aC,⟨m.aA.Global.set c.toNat t,m.aA.aU⟩⟩∧(0≤x→0≤bL m.aC x)∧sW m ⟨m.aC,⟨m.aA.Global.set c.toNat t,m.aA.aU⟩⟩ (-1):=by
  obtain⟨hcnt,h3,h9,h1,h2,hsm,hcp,hlo,hsG,hsO⟩:=wI.facts hm
  have hk:c.toNat < m.aA.Global.length:=by omega
  have hx:idx m.aA.Global c=some m.aA.Global[c.toNat]:=pQ (by omega) (by omega)
  have h24:=hsG _ (List.getElem_mem hk)
  obtain⟨t,x,e1,e2,ht,hmem,hsub⟩:=aND (s:=m.aA.Global[c.toNat]) (by omega)
  have hall:=nE m.aA
  refine⟨_,t,x,hx,e1,?_,⟨by simp only;omega,by simp only;omega,by simp only [List.length_set];omega,by simp only;omega,?_⟩,fun h0=>?_,wI.aJN hm (by omega) (by rw [←eW hk];exact hsub)⟩
  · unfold uR nW
    rw [hcp,hlo,gK,decide_eq_true hc]
    simp only [Option.bind_some,Bool.not_true,Bool.false_eq_true,if_false]
    rw [hx,Option.bind_some,e2];rfl
  · have:=ZJ hk ht
    rw [nE];simp only;omega
  · have:=hm.2.1 c.toNat (by omega) x (by rw [←eW hk];exact hmem h0)
    omega
theorem aPR{w h:Int}(hw:0≤w∧w≤2)(hv:BG m h):∃m',FN m w (h % 32)=some m'∧J0 m w h=some m'∧v5 m'∧sW m m' (h % 32):=by
  obtain⟨hcnt,h3,h9,h1,h2,hsm,hcp,hlo,hsG,hsO⟩:=wI.facts hm
  have hs:=hm.1.1.1
  have hh:=hv.1
  have hhm:=hh.mod
  have hcl:=GO hv.2.1
  have hgo:=KH hcl
  have hc2:0≤bL m.aC (h % 32)∧bL m.aC (h % 32)≤2:=by
    obtain⟨_,q,e⟩:=DN hcl
    rw [e];exact lU.1 (by omega)
  have hg6:1≤h / 32∧h / 32≤6:=by unfold pR at hh;omega
  have hbl:m.aC.Bytes.length≤maxLen:=by rw [h1];simp [maxLen]
  have hnot:h % 32∉dS m.aA:=fun q=>by
    have:=hv.2.1;unfold jP at this;rw [if_neg (by omega),if_pos q] at this;omega
  have hcpH:=KI (h:=m.aC) (by omega) (by omega)
  have eo:fJ (h % 32) (bL m.aC (h % 32))=(((fJ (h % 32) (bL m.aC (h % 32))).toNat:Nat):Int):=by omega
  have ew:aH (h / 32+1)=h / 32+1:=aV (by omega) (by omega)
  have ed:aH (Int.tdiv h 32)=h / 32:=by rw [BA (by unfold pR at hh;omega),aV (by omega) (by omega)]
  have hall:=nE m.aA
  obtain⟨hr1,hr2⟩:=wI.aUO hm hv.2.1 (g:=h / 32+1) (by omega)
  have hu:=pD.1 hv.2.1
  unfold FN J0 MO nX
  rw [hhm.1,lC hs,hcpH,yU hbl,decide_eq_true hs,i9 hs,ed,ew,hcp]
  simp only [Option.bind_some,Bool.not_true,Bool.false_eq_true,if_false,EG,xU,EF]
  rw [uF hs hcl,hv.2.2,dE,decide_eq_false (show ¬bL m.aC (h % 32) < 0 by omega),decide_eq_true (show 1≤h / 32+1∧h / 32+1≤7 by omega)]
  simp only [Option.bind_some,Bool.not_true,Bool.false_eq_true,if_false,uD,uE,ew]
  generalize hgn:(fJ (h % 32) (bL m.aC (h % 32))).toNat=a at eo
  rw [hgn] at hr1 hr2
  rw [eo,LI (by omega) (by omega) (by omega),O5 (by omega)]
  simp only [Option.bind_some]
  rw [NG (by omega) (by omega) (by omega)]
  simp only [Option.bind_some,D8,HD,ed,ew,hhm.1]
  by_cases q:h / 32+1≤6
  · have hk:(w * 3+bL m.aC (h % 32)).toNat < m.aA.aU.length:=by omega
    have hx:idx m.aA.aU (w * 3+bL m.aC (h % 32))=some m.aA.aU[(w * 3+bL m.aC (h % 32)).toNat]:=pQ (by omega) (by omega)
    have hk2:(bL m.aC (h % 32)).toNat < m.aA.Global.length:=by omega
    have hx2:idx m.aA.Global (bL m.aC (h % 32))=some m.aA.Global[(bL m.aC (h % 32)).toNat]:=pQ (by omega) (by omega)
    have b1:=hsO _ (List.getElem_mem hk)
    have b2:=hsG _ (List.getElem_mem hk2)
    rw [decide_eq_true q,if_pos rfl,if_pos rfl]
    unfold MA R8 sA
    rw [i9 hs,Option.bind_some,hcp,(RO hw hc2).1,(RO hw hc2).2,hlo,rG,decide_eq_true (show 0≤h % 32∧h % 32≤23 by omega),ND (by omega) (by simp only [maxLen];omega) (by simp only [maxLen];omega),decide_eq_false hnot]
    simp only [Option.bind_some,Bool.not_true,Bool.false_eq_true,if_false,hx,hx2]
    have nz:¬w * 3+bL m.aC (h % 32) < 0:=by omega
    simp only [decide_eq_false nz,Bool.false_eq_true,if_false]
    by_cases q2:m.aA.aU[(w * 3+bL m.aC (h % 32)).toNat].aO.length < 2
    · have y1:(m.aA.aU[(w * 3+bL m.aC (h % 32)).toNat].aO.length:Int) < 2:=by omega
      have y2:¬(2:Int)≤m.aA.aU[(w * 3+bL m.aC (h % 32)).toNat].aO.length:=by omega
      simp only [decide_eq_true y1,decide_eq_false y2,Bool.false_eq_true,if_false,if_true]
      rw [aR (by simp;omega),aR (by simp;omega)]
      refine⟨_,rfl,rfl,⟨by simp only [AX];omega,by simp only;omega,by simp only;omega,by simp only [List.length_set];omega,?_⟩,?_⟩
      · rw [nE];simp only [PZ hk];simp;omega
      · have hmod:((w * 3+bL m.aC (h % 32)).toNat % 3:Nat)=(bL m.aC (h % 32)).toNat:=by omega
        obtain⟨z1,z2⟩:=wI.aPQ hr1.1 (k:=(w * 3+bL m.aC (h % 32)).toNat) (by omega) (xs:=[h % 32]) (by simp only [←eW hk,List.length_cons,List.length_nil];omega) (by simp) (fun x hx=>by
          simp at hx;subst hx
          exact⟨by rw [hmod];show bL m.aC (h % 32)=_;omega,by rw [hr2];omega⟩) (fun x hx=>by simp at hx;subst hx;exact hnot) hk
        refine⟨z1,fun s h1 h2=>?_⟩
        obtain⟨y1,y2,y3⟩:=hr1.2 s h1 h2
        exact⟨z2 s (by simpa using h2) y1,y2,y3⟩
    · have y1:¬(m.aA.aU[(w * 3+bL m.aC (h % 32)).toNat].aO.length:Int) < 2:=by omega
      have y2:(2:Int)≤m.aA.aU[(w * 3+bL m.aC (h % 32)).toNat].aO.length:=by omega
      simp only [decide_eq_true y2,decide_eq_false y1,Bool.false_eq_true,if_false,if_true]
      rw [aR (by simp;omega),aR (by simp;omega)]
      refine⟨_,rfl,rfl,⟨by simp only [AX];omega,by simp only;omega,by simp only [List.length_set];omega,by simp only;omega,?_⟩,?_⟩
      · rw [nE];simp only [PZ hk2];simp;omega
      · obtain⟨z1,z2⟩:=wI.ZI hr1.1 (k:=(bL m.aC (h % 32)).toNat) (by omega) (xs:=[h % 32]) (by simp) (fun x hx=>by
          simp at hx;subst hx
          exact⟨by show bL m.aC (h % 32)=_;omega,by rw [hr2];omega⟩) (fun x hx=>by simp at hx;subst hx;exact hnot) hk2
        refine⟨z1,fun s h1 h2=>?_⟩
        obtain⟨y1,y2,y3⟩:=hr1.2 s h1 h2
        exact⟨z2 s (by simpa using h2) y1,y2,y3⟩
  · rw [decide_eq_false q,if_neg (by simp),if_neg (by simp)]
    refine⟨_,rfl,rfl,⟨by simp only [AX];omega,by simp only;omega,by simp only;omega,by simp only;omega,by rw [nE];simp only;omega⟩,hr1⟩
end
theorem alloc_eq{b:aB}(hm:wI b.Mem){w:Int}(hw:0≤w∧w≤2)(s:Sub) :
    ∃x y,zT b w s=some (x,y)∧nY s b w=some (y,x)∧∃m',x=⟨m',b.aD,b.aK,b.b9⟩∧v5 m'∧sW b.Mem m' (-1):=by
  have hsm:=(wI.facts hm).2.2.2.2.2.1
  have hs:=hm.1.1.1
  obtain⟨c,ec,ei,hcc⟩:=aG0 s.A
  unfold zT nY
  rw [ec,ei]
  simp only [Option.bind_some]
  by_cases c0:c < 0
  · simp only [decide_eq_true c0,if_true,bR,bA];exact⟨_,_,rfl,rfl,_,rfl,hsm,sW.refl hm _⟩
  have hc:0≤c∧c≤2:=by omega
  simp only [decide_eq_false c0,Bool.false_eq_true,if_false]
  have fin:∀(m':Mem) (x:Int),v5 m'→sW b.Mem m' (-1)→(0≤x→eQ m'.aC∧0≤bL m'.aC x) →
      ∃X Y,jV s x ⟨m',b.aD,b.aK,b.b9⟩=some (X,Y)∧fN s x ⟨m',b.aD,b.aK,b.b9⟩=some (Y,X)∧∃m',X=⟨m',b.aD,b.aK,b.b9⟩∧v5 m'∧sW b.Mem m' (-1):=by
    intro m' x hs' hst hx
    unfold jV fN
    simp only [rQ,JT,bR,bA]
    by_cases x0:0≤x
    · obtain⟨h,e1,e2⟩:=aJM (m:=m') (hx x0).1 (hx x0).2
      rw [decide_eq_false (show ¬x < 0 by omega),decide_eq_true x0]
      simp only [Bool.false_eq_true,if_false,if_true,e1,e2,Option.bind_some]
      exact⟨_,_,rfl,rfl,m',rfl,hs',hst⟩
    · rw [decide_eq_true (show x < 0 by omega),decide_eq_false x0]
      by_cases p3:s.Pc=3
      · simp only [p3,beq_self_eq_true,if_true,Bool.false_eq_true,if_false,Option.bind_some];exact⟨_,_,rfl,rfl,m',rfl,hs',hst⟩
      · have p3':(s.Pc == 3)=false:=by simpa using p3
        simp only [p3',if_true,Bool.false_eq_true,if_false,Option.bind_some];exact⟨_,_,rfl,rfl,m',rfl,hs',hst⟩
  by_cases p0:s.Pc=0
  · obtain⟨l,t,x,e1,e2,e3,h1,h2,h3⟩:=aG1 hm hw hc
    simp only [p0,beq_self_eq_true,if_true,(RO hw hc).1,Option.bind_some,e1,e2,e3]
    exact fin _ x h1 h3 (fun h=>⟨hs,h2 h⟩)
  · have p0':(s.Pc == 0)=false:=by simpa using p0
    simp only [p0',Bool.false_eq_true,if_false,rR,kH]
    obtain⟨l,t,x,e1,e2,e3,h1,h2,h3⟩:=aBE hm hc
    by_cases p1:s.Pc=1
    · simp only [p1,beq_self_eq_true,if_true,Option.bind_some,e1,e2,e3]
      exact fin _ x h1 h3 (fun h=>⟨hs,h2 h⟩)
    · have p1':(s.Pc == 1)=false:=by simpa using p1
      simp only [p1',Bool.false_eq_true,if_false]
      by_cases p3:s.Pc=3
      · simp only [p3,beq_self_eq_true,if_true,Option.bind_some,e1,e2,e3]
        exact fin _ x h1 h3 (fun h=>⟨hs,h2 h⟩)
      · have p3':(s.Pc == 3)=false:=by simpa using p3
        simp only [p3',Bool.false_eq_true,if_false]
        by_cases p2:s.Pc=2
        · obtain⟨m',x,e1,e2,h1,h2,h3⟩:=aNC hm hc
          simp only [p2,beq_self_eq_true,if_true,Option.bind_some,e1,e2]
          exact fin m' x h1 h3 h2
        · have p2':(s.Pc == 2)=false:=by simpa using p2
          simp only [p2',Bool.false_eq_true,if_false,bR,bA];exact⟨_,_,rfl,rfl,_,rfl,hsm,sW.refl hm _⟩
end Go.Gv
end
noncomputable section
set_option linter.unusedVariables false
set_option linter.unusedSimpArgs false
set_option linter.unusedSectionVars false
namespace Go.Gv
theorem aIS(r:bY)(e:Int):∃v,IC r e=some v∧IJ r e=some v:=by
  unfold IC IJ CE CY
  by_cases h:2≤e
  · simp only [decide_eq_true h,if_true];exact⟨_,rfl,rfl⟩
  · simp only [decide_eq_false h,Bool.false_eq_true,if_false];exact⟨_,rfl,rfl⟩
theorem aPS{b:aB}{w:Int}{l:aN}(hx:idx b.aK w=some l)(hl:l.Rows.length≤1000)(s:Sub) :
    (w6 l.Rows s.Row s.E=some (-1)∧lN s b w=(bA s 0).bind fun x=>some (x,b)) ∨
    ∃k,∃h:k < l.Rows.length,w6 l.Rows s.Row s.E=some (k:Int)∧lN s b w=some (⟨s.Kind,s.A,2,s.E,(k:Int),0,l.Rows[k].Handle,s.Out,s.Code,s.cH⟩,b):=by
  have key:∀d k,k+d=l.Rows.length →
      (loop (fS l.Rows s.E) (k:Int)=some (Out.brk ())∧loop (dL s b w) (k:Int)=some (Out.brk ())) ∨
      ∃j,∃h:j < l.Rows.length,loop (fS l.Rows s.E) (k:Int)=some (Out.ret (j:Int))∧loop (dL s b w) (k:Int)=some (Out.ret (⟨s.Kind,s.A,2,s.E,(j:Int),0,l.Rows[j].Handle,s.Out,s.Code,s.cH⟩,b)):=by
    intro d
    induction d with
    | zero =>
      intro k hk
      left
      exact⟨bX (by simp only [fS];rw [if_neg (by simp;omega)]),bX (by simp only [dL,hx,Option.bind_some];rw [if_neg (by simp;omega)])⟩
    | succ d ih =>
      intro k hk
      have hk':k < l.Rows.length:=by omega
      obtain⟨v,e1,e2⟩:=aIS l.Rows[k] s.E
      cases v with
      | true =>
        right
        refine⟨k,hk',bX ?_,bX ?_⟩
        · simp only [fS]
          rw [if_pos (by simp;omega),aS hk',Option.bind_some,e1];rfl
        · simp only [dL,hx,Option.bind_some]
          rw [if_pos (by simp;omega),aS hk',Option.bind_some,e2];rfl
      | false =>
        have n1:fS l.Rows s.E (k:Int)=some (.next ((k+1:Nat):Int)):=by
          simp only [fS]
          rw [if_pos (by simp;omega),aS hk',Option.bind_some,e1,Option.bind_some,aV (by omega) (by omega)];rfl
        have n2:dL s b w (k:Int)=some (.next ((k+1:Nat):Int)):=by
          simp only [dL,hx,Option.bind_some]
          rw [if_pos (by simp;omega),aS hk',Option.bind_some,e2,Option.bind_some,aV (by omega) (by omega)];rfl
        rw [bS n1,bS n2]
        exact ih (k+1) (by omega)
  unfold w6 lN
  have hst:∃i:Nat,(if 0 < s.Row then s.Row else 0)=(i:Int)∧(if s.Row < 0 then 0 else s.Row)=(i:Int):=by
    refine⟨s.Row.toNat,?_,?_⟩ <;> split <;> omega
  obtain⟨i,i1,i2⟩:=hst
  rw [i1,i2]
  by_cases hi:i≤l.Rows.length
  · rcases key (l.Rows.length - i) i (by omega) with ⟨a,c⟩ | ⟨j,hj,a,c⟩
    · left;rw [a,c];exact⟨rfl,rfl⟩
    · right;rw [a,c];exact⟨j,hj,rfl,rfl⟩
  · left
    rw [bX (body:=fS l.Rows s.E) (r:=Out.brk ()) (by simp only [fS];rw [if_neg (by simp;omega)]),
      bX (body:=dL s b w) (r:=Out.brk ()) (by simp only [dL,hx,Option.bind_some];rw [if_neg (by simp;omega)])]
    exact⟨rfl,rfl⟩
theorem del_eq{α:Type}{l:List α}{k:Nat}(h:k < l.length):((cL l k (l.drop (k+1))).take (k+(l.length - (k+1)))).drop 0=l.eraseIdx k:=by
  have h1:(l.take k).length=k:=by rw [List.length_take];omega
  have h2:(l.drop (k+1)).length=l.length - (k+1):=by simp
  unfold cL
  rw [List.drop_zero,List.eraseIdx_eq_take_drop_succ,List.take_of_length_le (l:=l.drop (k+1)) (by rw [h2];omega),←List.append_assoc]
  rw [show k+(l.length - (k+1))=(l.take k++l.drop (k+1)).length by rw [List.length_append,h1,h2]]
  exact List.take_left
theorem aG2{α:Type}{l:List α}{k:Nat}(h:k < l.length):l.Perm (l[k] :: l.eraseIdx k):=by
  have e:l=l.take k++l[k] :: l.drop (k+1):=by rw [←List.drop_eq_getElem_cons h,List.take_append_drop]
  rw [List.eraseIdx_eq_take_drop_succ]
  refine(List.Perm.of_eq e).trans ?_
  exact List.perm_middle
theorem BF.drop{b:List aN}(hL:BF b){w:Nat}(hw:w < b.length):∀k (hk:k < b[w].Rows.length),BF (b.set w ⟨b[w].Rows.eraseIdx k⟩)∧∀r∈cV (b.set w ⟨b[w].Rows.eraseIdx k⟩),r∈cV b∧r.Handle % 32≠b[w].Rows[k].Handle % 32:=by
  intro k hk
  have hsub:(cV (b.set w ⟨b[w].Rows.eraseIdx k⟩)).Sublist (cV b):=by
    rw [JC hw,GP hw]
    exact(List.Sublist.refl _).append ((List.eraseIdx_sublist _ _).append (List.Sublist.refl _))
  have hnd:=hL.2.2.2
  refine⟨⟨by simpa using hL.1,Nat.le_trans hsub.length_le hL.2.1,fun r hr=>hL.2.2.1 r (hsub.subset hr),(hsub.map BE).nodup hnd⟩,fun r hr=>⟨hsub.subset hr,?_⟩⟩
  have hp:(cV b).Perm (b[w].Rows[k] :: cV (b.set w ⟨b[w].Rows.eraseIdx k⟩)):=by
    rw [JC hw,GP hw]
    refine List.Perm.trans (List.Perm.append_left _ (List.Perm.append_right _ (aG2 hk))) ?_
    exact List.perm_middle
  have:=(hp.map BE).nodup_iff.1 hnd
  rw [List.map_cons,List.nodup_cons] at this
  exact fun e=>this.1 (List.mem_map.2 ⟨r,hr,e⟩)
theorem aG3{b:aB}(hb:HO b){w:Int}(hw:0≤w∧w≤2)(s:Sub) :
    ∃x y,uK b w s=some (x,y)∧lO s b w=some (y,x)∧∃m' L,x=⟨m',b.aD,L,b.b9⟩∧v5 m'∧wI m'∧BF L∧∀r∈cV L,BG m' r.Handle∧r.aJ≤b.aD.aJ:=by
  have hm:=hb.1.1
  have hL:=hb.1.2.2.1
  have hZ:=hb.1.2.2.2
  have hsm:=(wI.facts hm).2.2.2.2.2.1
  have hlen:w.toNat < b.aK.length:=by have:=hL.1;omega
  have hx:idx b.aK w=some b.aK[w.toNat]:=pQ hw.1 (by omega)
  have hrow:=hL.small.2.2.2 _ (List.getElem_mem hlen)
  have hmemL:b.aK[w.toNat]∈b.aK:=List.getElem_mem hlen
  have hset:=BF.drop hL hlen
  generalize b.aK[w.toNat]=l at hx hrow hset hmemL
  have done:∀y:Sub,∃x z,(some (b,y):Option (aB×Sub))=some (x,z)∧(some (y,b):Option (Sub×aB))=some (z,x)∧∃m' L,x=⟨m',b.aD,L,b.b9⟩∧v5 m'∧wI m'∧BF L∧∀r∈cV L,BG m' r.Handle∧r.aJ≤b.aD.aJ:=
    fun y=>⟨_,_,rfl,rfl,b.Mem,b.aK,rfl,hsm,hm,hL,hb.2⟩
  have hw1:aH ((l.Rows.length:Int) - 1)=(l.Rows.length:Int) - 1:=aV (by omega) (by omega)
  have hhas:A7 b.aK w s.Row=some (decide (0≤s.Row∧s.Row≤(l.Rows.length:Int) - 1)):=by
    unfold A7 xT
    rw [gL,decide_eq_true hw,Option.bind_some,if_pos rfl,hx,Option.bind_some,dE,hw1];rfl
  unfold uK lO
  rw [hhas,hx]
  simp only [Option.bind_some,bR,cK,hw1]
  have hat:∃a:Bool,(if decide (0≤s.Row∧s.Row≤(l.Rows.length:Int) - 1)=true then (idx l.Rows s.Row).bind fun x15=>d5 s b w (x15.Handle == s.H) else d5 s b w false)=d5 s b w a ∧
      (if (!decide (0≤s.Row∧s.Row≤(l.Rows.length:Int) - 1))=true then dP b s true else (idx l.Rows s.Row).bind fun x11=>dP b s (x11.Handle != s.H))=dP b s (!a) ∧
      (a=true→∃r,r∈l.Rows∧idx l.Rows s.Row=some r∧r.Handle=s.H∧0≤s.Row∧s.Row < l.Rows.length) ∧
      (a=false→∀f:bY→Option (aB×Sub),(if (!decide (0≤s.Row∧s.Row≤(l.Rows.length:Int) - 1))=true then dQ b w s l true else (idx l.Rows s.Row).bind fun x=>if (x.Handle != s.H)=true then dQ b w s l true else f x)=dQ b w s l true):=by
    by_cases q:0≤s.Row∧s.Row≤(l.Rows.length:Int) - 1
    · have hr:idx l.Rows s.Row=some (l.Rows[s.Row.toNat]'(by omega)):=pQ q.1 (by omega)
      by_cases q2:(l.Rows[s.Row.toNat]'(by omega)).Handle=s.H
      · refine⟨true,?_,?_,fun _=>⟨_,List.getElem_mem _,hr,q2,q.1,by omega⟩,fun h=>by cases h⟩
        · rw [decide_eq_true q,if_pos rfl,hr,Option.bind_some,q2,beq_self_eq_true]
        · rw [decide_eq_true q,if_neg (by simp),hr,Option.bind_some,q2,bne_self_eq_false];rfl
      · have n1:((l.Rows[s.Row.toNat]'(by omega)).Handle == s.H)=false:=by simpa using q2
        have n2:((l.Rows[s.Row.toNat]'(by omega)).Handle != s.H)=true:=by simpa using q2
        refine⟨false,?_,?_,(fun h=>by cases h),fun _ f=>?_⟩
        · rw [decide_eq_true q,if_pos rfl,hr,Option.bind_some,n1]
        · rw [decide_eq_true q,if_neg (by simp),hr,Option.bind_some,n2];rfl
        · rw [decide_eq_true q,if_neg (by simp),hr,Option.bind_some,n2,if_pos rfl]
    · refine⟨false,?_,?_,(fun h=>by cases h),fun _ f=>?_⟩
      · rw [decide_eq_false q,if_neg (by simp)]
      · rw [decide_eq_false q,if_pos (by simp)];rfl
      · rw [decide_eq_false q,if_pos (by simp)]
  obtain⟨a,ha1,ha2,ha3,ha4⟩:=hat
  rw [ha1,ha2]
  unfold d5
  by_cases p0:s.Pc=0
  · simp only [p0,beq_self_eq_true,if_true];exact done _
  have p0':(s.Pc == 0)=false:=by simpa using p0
  simp only [p0',Bool.false_eq_true,if_false]
  by_cases p1:s.Pc=1
  · simp only [p1,beq_self_eq_true,if_true]
    rcases aPS hx (by omega) s with ⟨e1,e2⟩ | ⟨k,hk,e1,e2⟩
    · rw [e1,e2,Option.bind_some,if_pos (by simp)];simp only [bA,p1,Option.bind_some];exact done _
    · rw [e1,e2,Option.bind_some,if_neg (by simp),aS hk];simp only [Option.bind_some];exact done _
  have p1':(s.Pc == 1)=false:=by simpa using p1
  simp only [p1',Bool.false_eq_true,if_false]
  by_cases p2:s.Pc=2
  · simp only [p2,beq_self_eq_true,if_true,gL,Option.bind_some]
    by_cases hB:0≤s.B∧s.B≤2
    · rw [decide_eq_true hB]
      simp only [Bool.not_true,Bool.false_eq_true,if_false,if_true]
      cases a with
      | true =>
        have hz:idx b.b9 s.B=some (b.b9[s.B.toNat]'(by have:=hZ.1;omega)):=pQ hB.1 (by have:=hZ.1;omega)
        simp only [dP,dD,Bool.not_true,Bool.false_eq_true,if_false,if_true,hz,Option.bind_some,nR]
        by_cases q:(b.b9[s.B.toNat]'(by have:=hZ.1;omega))=s.H
        · simp only [q,beq_self_eq_true,if_true];exact done _
        · have q':((b.b9[s.B.toNat]'(by have:=hZ.1;omega)) == s.H)=false:=by simpa using q
          simp only [q',Bool.false_eq_true,if_false]
          by_cases q3:aH (s.B+1)=3
          · simp only [q3,beq_self_eq_true,if_true];exact done _
          · have q3':(aH (s.B+1) == 3)=false:=by simpa using q3
            simp only [q3',Bool.false_eq_true,if_false];exact done _
      | false =>
        simp only [dP,dD,cP,bR,bA,Bool.not_false,if_true,Bool.false_eq_true,if_false,p2,show((2:Int) == 3)=false from rfl,Option.bind_some]
        exact done _
    · rw [decide_eq_false hB]
      simp only [dP,dD,cP,bR,bA,Bool.not_false,if_true,Bool.false_eq_true,if_false,p2,show((2:Int) == 3)=false from rfl,Option.bind_some]
      exact done _
  have p2':(s.Pc == 2)=false:=by simpa using p2
  simp only [p2',Bool.false_eq_true,if_false,dD]
  by_cases p3:s.Pc=3
  · simp only [p3,beq_self_eq_true,if_true]
    cases a with
    | false =>
      rw [ha4 rfl]
      simp only [dQ,cP,bR,bA,if_true,Bool.false_eq_true,if_false,Option.bind_some]
      exact done _
    | true =>
      obtain⟨r,hrm,hr,hrH,r0,r1⟩:=ha3 rfl
      obtain⟨v,e1,e2⟩:=aIS r s.E
      rw [decide_eq_true (show 0≤s.Row∧s.Row≤(l.Rows.length:Int) - 1 by omega)]
      simp only [Bool.not_true,Bool.false_eq_true,if_false,if_true,hr,Option.bind_some,hrH,bne_self_eq_false,hx,e1,e2]
      cases v with
      | false =>
        simp only [dQ,cP,bR,bA,Bool.not_false,if_true,Bool.false_eq_true,if_false,Option.bind_some]
        exact done _
      | true =>
        have hlive:BG b.Mem s.H:=by
          have:r∈cV b.aK:=List.mem_flatMap.2 ⟨l,hmemL,hrm⟩
          have:=(hb.2 r this).1
          rwa [hrH] at this
        obtain⟨m',f1,f2,f3,f4⟩:=aPR hm hw hlive
        have ew:aH (s.Row+1)=s.Row+1:=aV (by omega) (by omega)
        have hdrop:CZ b.aK w s.Row=some (b.aK.set w.toNat ⟨((cL l.Rows s.Row.toNat (l.Rows.drop (s.Row+1).toNat)).take (s.Row.toNat+(l.Rows.length - (s.Row+1).toNat))).drop 0⟩,true):=by
          unfold CZ uW
          rw [O3 hL.small.2.2.1 (fun s h=>by have:=hL.small.2.2.2 s h;omega),BT hL.small.1,decide_eq_true hL,hhas,decide_eq_true (show 0≤s.Row∧s.Row≤(l.Rows.length:Int) - 1 by omega)]
          simp only [Option.bind_some,Bool.not_true,Bool.false_eq_true,if_false,hx,ew]
          unfold vX
          rw [aR (by omega),if_neg (by simp;omega),aR (by omega),aR (by omega),aR (by omega),aR]
          · rfl
          · rw [dX (by omega)]
            simp only [List.drop_zero,List.length_take,dX (show s.Row.toNat≤l.Rows.length by omega)]
            omega
        simp only [dQ,cP,vT,ew,Bool.not_true,Bool.false_eq_true,if_false,if_true]
        rw [aR (by omega),aR (by omega),aR (by omega),eX,if_pos hlive.1,Option.bind_some,f1,f2,hdrop]
        have hk:s.Row.toNat < l.Rows.length:=by omega
        have eL:((cL l.Rows s.Row.toNat (l.Rows.drop (s.Row+1).toNat)).take (s.Row.toNat+(l.Rows.length - (s.Row+1).toNat))).drop 0=l.Rows.eraseIdx s.Row.toNat:=by
          rw [show(s.Row+1).toNat=s.Row.toNat+1 by omega];exact del_eq hk
        have er:l.Rows[s.Row.toNat]=r:=by
          have:=aS hk
          rw [show((s.Row.toNat:Nat):Int)=s.Row by omega,hr] at this
          exact(Option.some.inj this).symm
        rw [eL] at hdrop ⊢
        obtain⟨g1,g2⟩:=hset s.Row.toNat hk
        refine⟨_,_,rfl,rfl,m',_,rfl,f3,f4.1,g1,fun q hq=>?_⟩
        obtain⟨g3,g4⟩:=g2 q hq
        obtain⟨g5,g6⟩:=hb.2 q g3
        refine⟨f4.live g5 fun e=>?_,g6⟩
        rw [er,hrH] at g4
        exact g4 e
  · have p3':(s.Pc == 3)=false:=by simpa using p3
    simp only [p3',Bool.false_eq_true,if_false,cP,bA,Option.bind_some]
    exact done _
end Go.Gv
end
noncomputable section
set_option linter.unusedVariables false
set_option linter.unusedSimpArgs false
set_option linter.unusedSectionVars false
namespace Go.Gv
theorem step_eq{b:aB}(hb:HO b)(hs:aGU b){w:Int}(hw:0≤w∧w≤2)(s:Sub) :
    ∃x y,vU b w s=some (x,y)∧hU s b w=some (y,x)∧HO x:=by
  have hz:=hb.1.2.2.2.1
  have hl:=hb.1.2.2.1
  unfold vU hU
  cases hd:s.cH with
  | true=>exact⟨_,_,rfl,rfl,hb⟩
  | false =>
    simp only [Bool.false_eq_true,if_false]
    by_cases k1:s.Kind=1
    · obtain⟨x,y,e1,e2,m,rfl,h1,h2⟩:=alloc_eq hb.1.1 hw s
      simp only [k1,beq_self_eq_true,if_true,e1,e2,Option.bind_some]
      exact⟨_,_,rfl,rfl,⟨h2.1,hb.1.2⟩,fun r hr=>⟨h2.live (hb.2 r hr).1 (by have:=(hb.2 r hr).1.1;unfold pR at this;omega),(hb.2 r hr).2⟩⟩
    have k1':(s.Kind == 1)=false:=by simpa using k1
    simp only [k1',Bool.false_eq_true,if_false]
    by_cases k2:s.Kind=2
    · obtain⟨x,y,e1,e2,L,rfl,h1,h2⟩:=aJJ hb hs hw s
      simp only [k2,beq_self_eq_true,if_true,e1,e2,Option.bind_some]
      exact⟨_,_,rfl,rfl,⟨hb.1.1,hb.1.2.1,h1,hb.1.2.2.2⟩,h2⟩
    have k2':(s.Kind == 2)=false:=by simpa using k2
    simp only [k2',Bool.false_eq_true,if_false]
    by_cases k3:s.Kind=3
    · obtain⟨x,y,e1,e2,c,rfl,h1,h2⟩:=aGV hb.1.2.1 s
      simp only [k3,beq_self_eq_true,if_true,e1,e2,Option.bind_some]
      exact⟨_,_,rfl,rfl,⟨hb.1.1,h1,hb.1.2.2⟩,fun r hr=>⟨(hb.2 r hr).1,Int.le_trans (hb.2 r hr).2 h2⟩⟩
    have k3':(s.Kind == 3)=false:=by simpa using k3
    simp only [k3',Bool.false_eq_true,if_false]
    by_cases k4:s.Kind=4
    · obtain⟨x,y,e1,e2,m,L,rfl,h1,h2,h3,h4⟩:=aG3 hb hw s
      simp only [k4,beq_self_eq_true,if_true,e1,e2,Option.bind_some]
      exact⟨_,_,rfl,rfl,⟨h2,hb.1.2.1,h3,hb.1.2.2.2⟩,h4⟩
    have k4':(s.Kind == 4)=false:=by simpa using k4
    simp only [k4',Bool.false_eq_true,if_false]
    by_cases k5:s.Kind=5
    · obtain⟨x,y,e1,e2,c,rfl,h1,h2⟩:=aR7 hb.1.2.1 hw s
      simp only [k5,beq_self_eq_true,if_true,e1,e2,Option.bind_some]
      exact⟨_,_,rfl,rfl,⟨hb.1.1,h1,hb.1.2.2⟩,fun r hr=>⟨(hb.2 r hr).1,Int.le_trans (hb.2 r hr).2 h2⟩⟩
    have k5':(s.Kind == 5)=false:=by simpa using k5
    simp only [k5',Bool.false_eq_true,if_false,bR,bA,Option.bind_some]
    exact⟨_,_,rfl,rfl,hb⟩
theorem HO.small{b:aB}(hb:HO b):aGU b:=by
  have h1:=hb.1.2.1.2.1;have h2:=hb.1.2.2.1.1;have h3:=hb.1.2.2.1.2.1;have h4:=hb.1.2.2.2.1
  exact⟨(wI.facts hb.1.1).2.2.2.2.2.1,by omega,by omega,by omega,by omega⟩
end Go.Gv
end
noncomputable section
set_option linter.unusedVariables false
set_option linter.unusedSimpArgs false
set_option linter.unusedSectionVars false
namespace Go.Gv
theorem WB{b:List Int}{a:Nat}{n:Int}(h:a+4≤b.length){j:Nat}(hj:j < a∨a+4≤j):bt (HQ b a n) j=bt b j:=by
  unfold HQ
  rw [E2 (by simp;omega),E2 (by simp;omega),E2 (by simp;omega),E2 (by omega),if_neg (by omega),if_neg (by omega),if_neg (by omega),if_neg (by omega)]
theorem S4.put{h:aC}(hh:S4 h){s:Int}(hc:0≤bL h s){n:Int}(hn:0≤n∧n≤4294967295) :
    S4 ⟨HQ h.Bytes ((fJ s (bL h s)).toNat+4) n,h.Class⟩∧∀t,0≤bL h t→l7 ⟨HQ h.Bytes ((fJ s (bL h s)).toNat+4) n,h.Class⟩ t=l7 h t:=by
  obtain⟨hs,hp⟩:=hh
  have h384:=hs.1
  have hs':eQ ⟨HQ h.Bytes ((fJ s (bL h s)).toNat+4) n,h.Class⟩:=⟨by rw [RK];exact hs.1,hs.2.1,aJK hs.2.2.1 _ hn,hs.2.2.2⟩
  obtain⟨p,i,p6,hi,es,ec,eo,ep⟩:=E3 hc
  have hcl:0≤bQ h p∧bQ h p≤2:=lU.1 (by omega)
  have hroom:8+i * (aW (bQ h p)).toNat+8≤64∧∀j,j < (cC (bQ h p)).toNat→j * (aW (bQ h p)).toNat+4≤i * (aW (bQ h p)).toNat+4∨i * (aW (bQ h p)).toNat+12≤j * (aW (bQ h p)).toNat:=by
    generalize bQ h p=c at hi hcl
    rcases fO hcl with rfl | rfl | rfl
    · rw [show(cC 0).toNat=4 from rfl] at *;rw [show(aW 0).toNat=12 from rfl]
      exact⟨by omega,fun j hj=>by omega⟩
    · rw [show(cC 1).toNat=2 from rfl] at *;rw [show(aW 1).toNat=20 from rfl]
      exact⟨by omega,fun j hj=>by omega⟩
    · rw [show(cC 2).toNat=1 from rfl] at *;rw [show(aW 2).toNat=44 from rfl]
      exact⟨by omega,fun j hj=>by omega⟩
  have hgen:∀q j,q < 6→j < (cC (bQ h q)).toNat→ld (HQ h.Bytes ((fJ s (bL h s)).toNat+4) n) (q * 64+8+j * (aW (bQ h q)).toNat) 4=ld h.Bytes (q * 64+8+j * (aW (bQ h q)).toNat) 4:=fun q j hq hj=>by
    have hz:=sM hs hq rfl hj
    refine N5 (by omega) (by simp only [RK]) fun k k1 k2=>?_
    by_cases e:q=p
    · subst e
      have:=hroom.2 j hj
      exact WB (by omega) (by omega)
    · exact WB (by omega) (by omega)
  refine⟨⟨hs',fun q hq=>?_⟩,fun t ht=>?_⟩
  · rw [JD hs' hq]
    have hold:=(JD hs hq).1 (hp q hq)
    by_cases e:q=p
    · subst e
      have hcl':¬bQ h q < 0:=by omega
      unfold VM at hold ⊢
      have hcc:bQ ⟨HQ h.Bytes ((fJ s (bL h s)).toNat+4) n,h.Class⟩ q=bQ h q:=rfl
      rw [hcc]
      rw [if_neg hcl'] at hold ⊢
      obtain⟨⟨a1,a2,a3⟩,a4,a5⟩:=hold
      have bs:∀k,k < 8→bt (HQ h.Bytes ((fJ s (bL h s)).toNat+4) n) (q * 64+k)=bt h.Bytes (q * 64+k):=fun k hk=>WB (by omega) (by omega)
      have b0:=bs 0 (by omega);have b1:=bs 1 (by omega);have b2:=bs 2 (by omega)
      simp only [Nat.add_zero] at b0
      refine⟨⟨by rw [b0];exact a1,by rw [b1];exact a2,by rw [b2];exact a3⟩,fun k k3 k8=>by rw [bs k k8];exact a4 k k3 k8,fun j hj=>?_⟩
      rw [hgen q j hq hj];exact a5 j hj
    · refine VM.same hq hs (by simp only [RK]) rfl (fun k hk=>WB (by omega) (by omega)) hold
  · obtain⟨p',i',p6',hi',es',ec',eo',ep'⟩:=E3 ht
    have e2:bL ⟨HQ h.Bytes ((fJ s (bL h s)).toNat+4) n,h.Class⟩ t=bL h t:=rfl
    unfold l7
    rw [e2,eo']
    exact hgen p' i' p6' hi'
theorem wI.put{m:Mem}(hm:wI m){s:Int}(hc:0≤bL m.aC s){n:Int}(hn:0≤n∧n≤4294967295):sW m ⟨⟨HQ m.aC.Bytes ((fJ s (bL m.aC s)).toNat+4) n,m.aC.Class⟩,m.aA⟩ (-1):=by
  obtain⟨a,b⟩:=S4.put hm.1.1 hc hn
  refine⟨wI.heap hm a fun x hx=>⟨rfl,b x (wI.NI hm hx).1⟩,fun t ht _=>?_⟩
  have ht':=pD.1 ht
  have e:=b t ht'.1
  exact⟨pD.2 ⟨ht'.1,ht'.2.1,by simp only [e];exact ht'.2.2⟩,e,rfl⟩
theorem start_eq{h:aC}(hs:eQ h){s:Int}(hc:0≤bL h s):w7 s (bL h s)=some (fJ s (bL h s)+4)∧C1 s (bL h s)=some (fJ s (bL h s)+4):=by
  have hg:=KH hc
  unfold w7 C1
  rw [uD,uE,Option.bind_some,if_neg (by simp;omega),aV (by omega) (by omega)]
  exact⟨rfl,rfl⟩
theorem ZK{h:aC}(hs:eQ h){s:Int}(hc:0≤bL h s):sC h s 0 4=some (fJ s (bL h s)+4):=by
  have hg:=KH hc
  have hc2:0≤bL h s∧bL h s≤2:=by
    obtain⟨_,q,e⟩:=DN hc
    rw [e];exact lU.1 (by omega)
  have hz:8≤kE (bL h s)∧kE (bL h s)≤40:=by rcases fO hc2 with e | e | e <;> rw [e] <;> decide
  unfold sC J2
  rw [i9 hs,Option.bind_some,(start_eq hs hc).2,Option.bind_some,if_neg (by simp;omega),M4]
  simp only [Option.bind_some,dE]
  rw [aV (x:=fJ s (bL h s)+4+kE (bL h s)) (by omega) (by omega),aV (x:=fJ s (bL h s)+4+kE (bL h s) - (fJ s (bL h s)+4)) (by omega) (by omega),aV (x:=fJ s (bL h s)+4+kE (bL h s) - (fJ s (bL h s)+4) - 4) (by omega) (by omega),decide_eq_true (by omega),aV (by omega) (by omega)]
  simp
theorem aFM{n:Int}(hn:0≤n∧n≤65535):∃t:List UInt8,EA n 4=some t∧(t == [])=false:=by
  have st:∀(m:Int) (c:List UInt8) (i:Nat),c.length≤4→i < 4→0≤m→m≤4294967295→zV 4 (m,c,(i:Int))=some (.next (m / 256,[u8 (m % 256)]++c,((i+1:Nat):Int))):=fun m c i hc hi h0 h1=>by
    simp only [zV]
    rw [if_pos (by simp;omega),aR (by simp;omega),BC h0,BA h0,aV (x:=m / 256) (by omega) (by omega),aV (by omega) (by omega)];rfl
  unfold EA
  rw [cK]
  simp only [Option.bind_some,show(decide ((1:Int)≤4∧(4:Int)≤7))=true from rfl,Bool.not_true,Bool.false_eq_true,if_false,zW,decide_eq_false (show ¬n < 0 by omega)]
  rw [show(0:Int)=((0:Nat):Int) from rfl,bS (st n [] 0 (by simp) (by omega) hn.1 (by omega)),bS (st _ _ 1 (by simp) (by omega) (by omega) (by omega)),bS (st _ _ 2 (by simp) (by omega) (by omega) (by omega)),bS (st _ _ 3 (by simp) (by omega) (by omega) (by omega)),bX (by simp only [zV];rw [if_neg (by simp)])]
  simp only [Option.bind_some,OF,OE]
  rw [if_neg (by simp;omega)]
  exact⟨_,rfl,rfl⟩
theorem aG4{m:Mem}(hm:wI m){h n:Int}(hn:0≤n∧n≤65535):∃x c,CI m h 0 4 n=some (x,c)∧C2 m h 0 4 n=some (x,c)∧sW m x (-1)∧(c≠0→x=m):=by
  obtain⟨hcnt,h3,h9,h1,h2,hsm,hcp,hlo,hsG,hsO⟩:=wI.facts hm
  have hs:=hm.1.1.1
  have hbl:m.aC.Bytes.length≤maxLen:=by rw [h1];simp [maxLen]
  have hall:(dS m.aA).length≤1073741824:=by omega
  have hg:m.aA.Global.length≤maxLen:=by rw [h3];simp [maxLen]
  have ho:m.aA.aU.length≤maxLen:=by rw [h9];simp [maxLen]
  have hw4:hJ 4=some true:=by unfold hJ;rw [dE];rfl
  unfold CI C2 MD MP
  rw [aFI hsm,aFJ hsm,aA9 hbl hall,aBA hbl hall,decide_eq_true hm,cK,hw4,ZD ⟨hn.1,by omega⟩]
  simp only [Option.bind_some,Bool.not_true,Bool.false_eq_true,if_false,w9,xV,show(decide ((1:Int)≤4∧(4:Int)≤7))=true from rfl,LH hs hall hg ho,NF hs hall hg ho]
  by_cases hv:BG m h
  · have hh:=hv.1
    have hcl:=GO hv.2.1
    have hgo:=KH hcl
    have hc2:0≤bL m.aC (h % 32)∧bL m.aC (h % 32)≤2:=by
      obtain⟨_,q,e⟩:=DN hcl
      rw [e];exact lU.1 (by omega)
    have hz:8≤kE (bL m.aC (h % 32))∧kE (bL m.aC (h % 32))≤40:=by rcases fO hc2 with e | e | e <;> rw [e] <;> decide
    obtain⟨p,i,p6,hi,es,ec,eo,ep⟩:=E3 hcl
    have hroom:(fJ (h % 32) (bL m.aC (h % 32))).toNat+8≤384:=by
      rw [eo]
      have hcl':0≤bQ m.aC p∧bQ m.aC p≤2:=by rw [←ec];exact hc2
      generalize bQ m.aC p=c at hi hcl'
      rcases fO hcl' with rfl | rfl | rfl
      · rw [show(cC 0).toNat=4 from rfl] at hi;rw [show(aW 0).toNat=12 from rfl];omega
      · rw [show(cC 1).toNat=2 from rfl] at hi;rw [show(aW 1).toNat=20 from rfl];omega
      · rw [show(cC 2).toNat=1 from rfl] at hi;rw [show(aW 2).toNat=44 from rfl];omega
    simp only [decide_eq_true hv,Bool.not_true,Bool.false_eq_true,if_false,eX,if_pos hh,Option.bind_some,lC hs,EW,cK,hh.mod.1,ZK hs hcl]
    rw [aV (x:=kE (bL m.aC (h % 32)) - 1) (by omega) (by omega),decide_eq_true (show(0:Int)≤0∧(0:Int)≤kE (bL m.aC (h % 32)) - 1 by omega),aV (x:=kE (bL m.aC (h % 32)) - 0) (by omega) (by omega),decide_eq_false (show ¬kE (bL m.aC (h % 32)) - 0 < 4 by omega)]
    simp only [Bool.not_true,Bool.false_eq_true,if_false,w8,(start_eq hs hcl).1,Option.bind_some]
    rw [aV (x:=fJ (h % 32) (bL m.aC (h % 32))+4+0) (by omega) (by omega),Int.add_zero,decide_eq_false (show ¬fJ (h % 32) (bL m.aC (h % 32))+4 < 0 by omega)]
    have eo':fJ (h % 32) (bL m.aC (h % 32))+4=(((fJ (h % 32) (bL m.aC (h % 32))).toNat+4:Nat):Int):=by omega
    have hput:=wI.put hm hcl (n:=n) ⟨hn.1,by omega⟩
    have hspf:∃t:List UInt8,EA n 4=some t∧(t == [])=false:=aFM hn
    obtain⟨t,ht1,ht2⟩:=hspf
    have hld:jM m.aC.Bytes (((fJ (h % 32) (bL m.aC (h % 32))).toNat+4:Nat):Int) 4=some (ld m.aC.Bytes ((fJ (h % 32) (bL m.aC (h % 32))).toNat+4) 4):=vJ hs.2.2.1 (w:=4) (by omega) (by omega) (by omega)
    rw [eo',hld]
    simp only [Option.bind_some,Bool.false_eq_true,if_false,bne_self_eq_false,ht1,ht2,show(O4 n == [])=false from rfl]
    rw [aB6 (by omega) (by omega) ⟨hn.1,by omega⟩,ZE (by omega) (by omega) ⟨hn.1,by omega⟩]
    exact⟨_,_,rfl,rfl,hput,fun q=>absurd rfl q⟩
  · simp only [decide_eq_false hv,Bool.not_false,if_true,Option.bind_some,show((4:Int) != 0)=true from rfl]
    exact⟨_,_,rfl,rfl,sW.refl hm _,fun _=>rfl⟩
theorem aG5{b:aB}(hm:wI b.Mem)(h:Int):∃r,FW b.Mem.aC h 0 4=some r∧C3 b h 0 4=some r:=by
  have hs:=hm.1.1.1
  have h1:=hs.1
  have hbl:b.Mem.aC.Bytes.length≤maxLen:=by rw [h1];simp [maxLen]
  have hw4:hJ 4=some true:=by unfold hJ;rw [dE];rfl
  unfold FW C3 nX
  rw [fH,gZ,cK,hw4,yU hbl,decide_eq_true hs]
  simp only [Option.bind_some,xA,o5,show(decide ((1:Int)≤4∧(4:Int)≤7))=true from rfl,Bool.not_true,Bool.false_eq_true,if_false]
  by_cases hh:pR h
  · simp only [decide_eq_true hh,Bool.not_true,Bool.false_eq_true,if_false,eX,if_pos hh,Option.bind_some,lC hs,i9 hs,hh.mod.1]
    by_cases hcl:bL b.Mem.aC (h % 32) < 0
    · simp only [decide_eq_true hcl,if_true,mT];exact⟨_,rfl,rfl⟩
    · have hcl':0≤bL b.Mem.aC (h % 32):=by omega
      have hgo:=KH hcl'
      have hc2:0≤bL b.Mem.aC (h % 32)∧bL b.Mem.aC (h % 32)≤2:=by
        obtain⟨_,q,e⟩:=DN hcl'
        rw [e];exact lU.1 (by omega)
      have hz:8≤kE (bL b.Mem.aC (h % 32))∧kE (bL b.Mem.aC (h % 32))≤40:=by rcases fO hc2 with e | e | e <;> rw [e] <;> decide
      obtain⟨p,i,p6,hi,es,ec,eo,ep⟩:=E3 hcl'
      have hroom:(fJ (h % 32) (bL b.Mem.aC (h % 32))).toNat+8≤384:=by
        rw [eo]
        have hcl'':0≤bQ b.Mem.aC p∧bQ b.Mem.aC p≤2:=by rw [←ec];exact hc2
        generalize bQ b.Mem.aC p=c at hi hcl''
        rcases fO hcl'' with rfl | rfl | rfl
        · rw [show(cC 0).toNat=4 from rfl] at hi;rw [show(aW 0).toNat=12 from rfl];omega
        · rw [show(cC 1).toNat=2 from rfl] at hi;rw [show(aW 1).toNat=20 from rfl];omega
        · rw [show(cC 2).toNat=1 from rfl] at hi;rw [show(aW 2).toNat=44 from rfl];omega
      simp only [decide_eq_false hcl,Bool.false_eq_true,if_false,EW,cK,Option.bind_some,ZK hs hcl']
      rw [aV (x:=kE (bL b.Mem.aC (h % 32)) - 1) (by omega) (by omega),decide_eq_true (show(0:Int)≤0∧(0:Int)≤kE (bL b.Mem.aC (h % 32)) - 1 by omega),aV (x:=kE (bL b.Mem.aC (h % 32)) - 0) (by omega) (by omega),decide_eq_false (show ¬kE (bL b.Mem.aC (h % 32)) - 0 < 4 by omega)]
      simp only [Bool.not_true,Bool.false_eq_true,if_false,mT,eX,if_pos hh,(start_eq hs hcl').1,Option.bind_some]
      rw [aV (x:=fJ (h % 32) (bL b.Mem.aC (h % 32))+4+0) (by omega) (by omega),Int.add_zero,decide_eq_false (show ¬fJ (h % 32) (bL b.Mem.aC (h % 32))+4 < 0 by omega)]
      have eo':fJ (h % 32) (bL b.Mem.aC (h % 32))+4=(((fJ (h % 32) (bL b.Mem.aC (h % 32))).toNat+4:Nat):Int):=by omega
      have hld:jM b.Mem.aC.Bytes (((fJ (h % 32) (bL b.Mem.aC (h % 32))).toNat+4:Nat):Int) 4=some (ld b.Mem.aC.Bytes ((fJ (h % 32) (bL b.Mem.aC (h % 32))).toNat+4) 4):=vJ hs.2.2.1 (w:=4) (by omega) (by omega) (by omega)
      have hls:qI b.Mem.aC.Bytes (((fJ (h % 32) (bL b.Mem.aC (h % 32))).toNat+4:Nat):Int) 4=some (ld b.Mem.aC.Bytes ((fJ (h % 32) (bL b.Mem.aC (h % 32))).toNat+4) 4):=EY hs.2.2.1 (w:=4) (by omega) (by omega) (by omega)
      rw [eo',hld,hls]
      exact⟨_,rfl,rfl⟩
  · simp only [decide_eq_false hh,Bool.not_false,if_true];exact⟨_,rfl,rfl⟩
end Go.Gv
end
noncomputable section
set_option linter.unusedVariables false
set_option linter.unusedSimpArgs false
set_option linter.unusedSectionVars false
namespace Go.Gv
theorem aFN{l:List cX}(hl:l.length≤maxLen)(f:cX→Bool)(g:cX→Option Bool)(hg:∀x∈l,g x=some (f x)):jK l g=some (l.any f):=by
  obtain⟨o,e,h⟩:=JA l f (body:=jJ l g) (fun k hk=>by
    simp only [jJ]
    rw [if_pos (by simp;omega),aS hk,cY (eE hk hl)]
    simp only [Option.bind_some,hg _ (List.getElem_mem hk)]) (by simp [jJ])
  unfold jK sZ
  rw [e]
  cases o with
  | brk u=>simp only at h;simp [nU,xC,h]
  | ret r=>simp only at h;simp [nU,h]
theorem ZL{l:List Queue}(hl:l.length≤maxLen)(f:Queue→Bool)(g:Queue→Option Bool)(hg:∀x∈l,g x=some (f x)):gN l g=some (l.any f):=by
  obtain⟨o,e,h⟩:=JA l f (body:=gM l g) (fun k hk=>by
    simp only [gM]
    rw [if_pos (by simp;omega),aS hk,cY (eE hk hl)]
    simp only [Option.bind_some,hg _ (List.getElem_mem hk)]) (by simp [gM])
  unfold gN nT
  rw [e]
  cases o with
  | brk u=>simp only at h;simp [kL,sS,h]
  | ret r=>simp only at h;simp [kL,h]
def AY(k:Int):Prop:=k=1∨k=2∨k=3∨k=7
instance (k:Int):Decidable (AY k):=by unfold AY;infer_instance
def yX(o:cX):Prop:=(1≤o.Kind∧o.Kind≤7)∧(AY o.Kind∨o.Cell=0)∧(0≤o.Cell∧o.Cell≤1)∧if o.Kind=1 then (0≤o.dT∧o.dT≤100)∧0≤o.dV∧o.dV≤65535 else o.dT=0∧o.dV=0
instance (o:cX):Decidable (yX o):=by unfold yX;infer_instance
theorem hb0(x:Int):(x == 0)=decide (x=0):=by rw [Bool.eq_iff_iff];simp
theorem aG6:AY 1:=.inl rfl
theorem aJO(k:Int):wT k=some (decide (AY k)):=by
  unfold wT iL AY
  by_cases h1:k=1
  · simp [h1]
  · by_cases h2:k=2
    · simp [h2]
    · by_cases h3:k=3
      · simp [h3]
      · by_cases h7:k=7
        · simp [h7]
        · simp [h1,h2,h3,h7]
theorem aDW(o:cX):NY o=some (decide (yX o)):=by
  unfold NY wU B5 B6 yX
  rw [cK,aJO,cK,cK,cK]
  by_cases h1:1≤o.Kind∧o.Kind≤7
  · by_cases h2:AY o.Kind
    · by_cases h3:0≤o.Cell∧o.Cell≤1
      · by_cases h4:o.Kind=1
        · by_cases h5:0≤o.dT∧o.dT≤100 <;> simp [h1,h2,h3,h4,h5,aG6] <;> exact hb0 _
        · by_cases h5:o.dT=0 <;> simp [h1,h2,h3,h4,h5,aG6] <;> exact hb0 _
      · simp [h1,h2,h3]
    · by_cases h0:o.Cell=0
      · by_cases h4:o.Kind=1
        · exact absurd (.inl h4) h2
        · by_cases h5:o.dT=0 <;> simp [h1,h2,h0,h4,h5,aG6] <;> exact hb0 _
      · simp [h1,h2,h0]
  · simp [h1]
theorem aDX(o:cX):IF o=some (decide (yX o)):=by
  have key:∀x,lH o x=if 1≤o.Kind∧o.Kind≤7 then (if x then some (decide ((0≤o.Cell∧o.Cell≤1)∧if o.Kind=1 then (0≤o.dT∧o.dT≤100)∧0≤o.dV∧o.dV≤65535 else o.dT=0∧o.dV=0):Bool) else some (decide (o.Cell=0∧if o.Kind=1 then (0≤o.dT∧o.dT≤100)∧0≤o.dV∧o.dV≤65535 else o.dT=0∧o.dV=0))) else some false:=fun x=>by
    unfold lH xD CM CN
    rw [dE,dE,dE,dE]
    by_cases h1:1≤o.Kind∧o.Kind≤7
    · cases x
      · by_cases h0:o.Cell=0
        · by_cases h4:o.Kind=1
          · by_cases h5:0≤o.dT∧o.dT≤100 <;> simp [h1,h0,h4,h5,aG6] <;> exact hb0 _
          · by_cases h5:o.dT=0 <;> simp [h1,h0,h4,h5,aG6] <;> exact hb0 _
        · simp [h1,h0]
      · by_cases h3:0≤o.Cell∧o.Cell≤1
        · by_cases h4:o.Kind=1
          · by_cases h5:0≤o.dT∧o.dT≤100 <;> simp [h1,h3,h4,h5,aG6] <;> exact hb0 _
          · by_cases h5:o.dT=0 <;> simp [h1,h3,h4,h5,aG6] <;> exact hb0 _
        · simp [h1,h3]
    · simp [h1]
  have key2:IF o=lH o (decide (AY o.Kind)):=by
    unfold IF AY
    by_cases h1:o.Kind=1
    · simp [h1]
    · by_cases h2:o.Kind=2
      · simp [h2]
      · by_cases h3:o.Kind=3
        · simp [h3]
        · have h7:(o.Kind == 7)=decide (o.Kind=1∨o.Kind=2∨o.Kind=3∨o.Kind=7):=by rw [Bool.eq_iff_iff];simp [h1,h2,h3]
          rw [if_neg (by simpa using h1),if_neg (by simpa using h2),if_neg (by simpa using h3),h7]
  rw [key2,key]
  unfold yX
  by_cases h1:1≤o.Kind∧o.Kind≤7
  · by_cases h2:AY o.Kind
    · simp only [h1,h2,and_self,decide_true,if_true,true_or,true_and]
    · by_cases h0:o.Cell=0
      · simp [h1,h2,h0]
      · simp [h1,h2,h0]
  · simp [h1]
def aFO(l:List cX):Prop:=∀o∈l,yX o
instance (l:List cX):Decidable (aFO l):=by unfold aFO;infer_instance
def QOk(q:Queue):Prop:=q.fK.length≤12∧aFO q.fK
instance (q:Queue):Decidable (QOk q):=by unfold QOk;infer_instance
def P0(l:List Queue):Prop:=l.length=3∧∀q∈l,QOk q
instance (l:List Queue):Decidable (P0 l):=by unfold P0;infer_instance
theorem aDY{l:List Queue}(hl:l.length≤maxLen):B7 l=some (decide (P0 l)):=by
  unfold B7
  have inner:∀k (hk:k < l.length),l[k].fK.length≤12→loop (kO l (k:Int)) 0=some (if aFO l[k].fK then Out.brk () else Out.ret false):=by
    intro k hk h12
    have hb:∀j (hj:j < l[k].fK.length),kO l (k:Int) (j:Int)=if yX l[k].fK[j] then some (.next ((j+1:Nat):Int)) else some (.stop (Out.ret false)):=by
      intro j hj
      simp only [kO]
      rw [aS hk,Option.bind_some,if_pos (by simp;omega),Option.bind_some,aS hj,Option.bind_some,aDW,Option.bind_some,aV (by omega) (by omega)]
      by_cases q:yX l[k].fK[j] <;> simp [q]
    have:=lB (f:=kO l (k:Int)) l[k].fK (fun j=>(j:Int)) yX (Out.brk ()) (Out.ret false) (fun j hj hp=>by rw [hb j hj,if_pos hp]) (fun j hj hp=>by rw [hb j hj,if_neg hp]) (by
      simp only [kO]
      rw [aS hk,Option.bind_some,if_neg (by simp)])
    refine Eq.trans this ?_
    congr 1
  have hs:∀k (hk:k < l.length),kP l (k:Int)=if QOk l[k] then some (.next ((k+1:Nat):Int)) else some (.stop (Out.ret false)):=by
    intro k hk
    simp only [kP]
    rw [if_pos (by simp;omega),aS hk,Option.bind_some]
    by_cases h12:l[k].fK.length≤12
    · rw [if_neg (by simp;omega),inner k hk h12]
      by_cases q:aFO l[k].fK
      · rw [if_pos q,if_pos ⟨h12,q⟩]
        simp only [Option.bind_some,KP,KO]
        rw [cY (eE hk hl)]
      · rw [if_neg q,if_neg (fun a=>q a.2)];rfl
    · rw [if_pos (by simp;omega),if_neg (fun a=>h12 a.1)]
  have key:loop (kP l) 0=_:=lB (f:=kP l) l (fun k=>(k:Int)) QOk (Out.brk ()) (Out.ret false) (fun k hk hp=>by rw [hs k hk,if_pos hp]) (fun k hk hp=>by rw [hs k hk,if_neg hp]) (by simp [kP])
  rw [key]
  by_cases q:∀x∈l,QOk x
  · rw [if_pos q]
    simp only [Option.bind_some,KQ,KN]
    congr 1;rw [Bool.eq_iff_iff];simp only [beq_iff_eq,decide_eq_true_eq]
    exact⟨fun a=>⟨by omega,q⟩,fun a=>by have:=a.1;omega⟩
  · rw [if_neg q,decide_eq_false (show ¬P0 l from fun a=>q a.2)];rfl
theorem aDZ{l:List Queue}(hl:l.length≤maxLen)(hq:∀q∈l,q.fK.length≤maxLen):F5 l=some (decide (P0 l)):=by
  have e1:∀q∈l,z5 q=some (!decide (QOk q)):=by
    intro q hm
    unfold z5 rV
    have e:∀x∈q.fK,uN x=some (!decide (yX x)):=fun x _=>by
      unfold uN;rw [aDX];rfl
    rw [aFN (hq q hm) (fun x=>!decide (yX x)) _ e,N3]
    by_cases h:q.fK.length≤12
    · rw [if_neg (by simp;omega)]
      by_cases h2:∀x∈q.fK,yX x
      · rw [decide_eq_true h2,decide_eq_true (show QOk q from ⟨h,h2⟩)];rfl
      · rw [decide_eq_false h2,decide_eq_false (show ¬QOk q from fun a=>h2 a.2)];rfl
    · rw [if_pos (by simp;omega),decide_eq_false (show ¬QOk q from fun a=>h a.1)];rfl
  unfold F5 xE
  rw [ZL hl (fun q=>!decide (QOk q)) _ e1,N3]
  by_cases h:l.length=3
  · rw [if_pos (by simp;omega)]
    by_cases h2:∀x∈l,QOk x
    · rw [decide_eq_true h2,decide_eq_true (show P0 l from ⟨h,h2⟩)];rfl
    · rw [decide_eq_false h2,decide_eq_false (show ¬P0 l from fun a=>h2 a.2)];rfl
  · rw [if_neg (by simp;omega),decide_eq_false (show ¬P0 l from fun a=>h a.1)]
def aNE:bJ:=⟨false,⟨0,0,0,0⟩,0,0,⟨0,0,0,0,0,0,0,0,0,false⟩,0,0,0,0⟩
def JOk(j:bJ):Prop:=if j.kI then yX j.Op∧eY j.H∧eY j.Old else j=aNE
instance (j:bJ):Decidable (JOk j):=by unfold JOk;infer_instance
theorem ZM{j:bJ}(hb:j.kI=true):JOk j↔yX j.Op∧eY j.H∧eY j.Old:=by unfold JOk;rw [if_pos hb]
theorem aFP{j:bJ}(hb:j.kI=false):JOk j↔j=aNE:=by unfold JOk;rw [if_neg (by simp [hb])]
def WC(s:aI):Prop:=HO s.aB∧s.Cells.length=2∧s.aQ.length=3∧P0 s.aY∧(0≤s.aM∧s.aM≤1000000)∧(∀h∈s.Cells,eY h)∧∀j∈s.aQ,JOk j
instance (s:aI):Decidable (WC s):=by unfold WC;infer_instance
noncomputable section
variable {s:aI} (hf:s.aB.Mem.aC.Bytes.length≤maxLen∧(dS s.aB.Mem.aA).length≤1073741824∧s.aB.aD.aP.length≤maxLen∧s.aB.aK.length≤maxLen∧(cV s.aB.aK).length≤1073741824∧s.aB.b9.length≤maxLen) (ht:s.aY.length≤maxLen) (hq:∀q∈s.aY,q.fK.length≤maxLen) (hcl:s.Cells.length≤maxLen) (hjl:s.aQ.length≤maxLen)
include hf ht
include hq hcl hjl
end
end Go.Gv
end
noncomputable section
set_option linter.unusedVariables false
set_option linter.unusedSimpArgs false
set_option linter.unusedSectionVars false
namespace Go.Gv
theorem E4{α:Type}{l:List α}{w:Int}(h0:0≤w)(h1:w < l.length)(x:α):idx (l.set w.toNat x) w=some x:=by
  unfold idx
  rw [if_pos h0,List.getElem?_set_self (by omega)]
theorem eK{a b:Int}(h:¬a=b):(a == b)=false:=by simpa using h
theorem KK{a b:Int}(h:¬a=b):(a != b)=true:=by simpa using h
theorem aFQ{c:aD}(hc:RR c){w:Int}(hw:0≤w∧w≤2):∃r,EB c w=some r∧J4 c w=some r∧RR r.1∧r.1.aJ=c.aJ:=by
  obtain⟨p,hp,hpk⟩:=S5 hc hw
  unfold EB J4
  rw [AV hc.small.1,AW hc.small.1,vK,vL hc.small.2,gL,cK,decide_eq_true hc,decide_eq_true hw]
  simp only [Option.bind_some,Bool.not_true,Bool.false_eq_true,if_false,hp,tM,tV]
  cases p.On with
  | true =>
    simp only [Bool.not_true,Bool.false_eq_true,if_false]
    have h0:=hc.1
    exact⟨_,rfl,rfl,hc.aDQ ⟨by simp only;omega,by simp,fun _=>rfl⟩,rfl⟩
  | false=>simp only [Bool.not_false,if_true];exact⟨_,rfl,rfl,hc,rfl⟩
theorem NB.set{z:List Int}(hz:NB z)(k:Nat){h:Int}(hh:eY h):NB (z.set k h):=⟨by simpa using hz.1,fun q hq=>(List.mem_or_eq_of_mem_set hq).elim (hz.2 q) (fun e=>e ▸ hh)⟩
theorem aG7{z:List Int}(hz:NB z){w:Int}(hw:0≤w∧w≤2)(h:Int):∃r,CJ z w h=some r∧C5 z w h=some r∧NB r.1:=by
  have h3:=hz.1
  have hx:idx z w=some (z[w.toNat]'(by omega)):=pQ hw.1 (by omega)
  unfold CJ C5
  rw [JB (by omega),sN (by omega),O1 (by simp only [maxLen];omega),O2 (by simp only [maxLen];omega),decide_eq_true hz,cK,gL,decide_eq_true hw,fH,gZ]
  simp only [Option.bind_some,Bool.not_true,Bool.false_eq_true,if_false,oX,o7,hx]
  by_cases q:pR h
  · simp only [decide_eq_true q,Bool.not_true,Bool.false_eq_true,if_false];exact⟨_,rfl,rfl,hz.set _ (.inr q)⟩
  · simp only [decide_eq_false q,Bool.not_false,if_true];exact⟨_,rfl,rfl,hz⟩
theorem aNF{z:List Int}(hz:NB z){w:Int}(hw:0≤w∧w≤2):∃r,JW z w=some r∧J5 z w=some r∧NB r.1:=by
  have h3:=hz.1
  have hx:idx z w=some (z[w.toNat]'(by omega)):=pQ hw.1 (by omega)
  unfold JW J5
  rw [JB (by omega),sN (by omega),O1 (by simp only [maxLen];omega),O2 (by simp only [maxLen];omega),decide_eq_true hz,cK,gL,decide_eq_true hw]
  simp only [Option.bind_some,Bool.not_true,Bool.false_eq_true,if_false,tO,tW,hx]
  by_cases q:(z[w.toNat]'(by omega))=0
  · simp only [q,beq_self_eq_true,if_true];exact⟨_,rfl,rfl,hz⟩
  · simp only [eK q,Bool.false_eq_true,if_false];exact⟨_,rfl,rfl,hz.set _ (.inl rfl)⟩
theorem HO.clock{b:aB}(hb:HO b){cl:aD}(h:RR cl)(e:b.aD.aJ≤cl.aJ):HO ⟨b.Mem,cl,b.aK,b.b9⟩:=⟨⟨hb.1.1,h,hb.1.2.2⟩,fun r hr=>⟨(hb.2 r hr).1,Int.le_trans (hb.2 r hr).2 e⟩⟩
theorem HO.haz{b:aB}(hb:HO b){z:List Int}(h:NB z):HO ⟨b.Mem,b.aD,b.aK,z⟩:=⟨⟨hb.1.1,hb.1.2.1,hb.1.2.2.1,h⟩,hb.2⟩
theorem HO.mem{b:aB}(hb:HO b){m:Mem}(h:sW b.Mem m (-1)):HO ⟨m,b.aD,b.aK,b.b9⟩:=⟨⟨h.1,hb.1.2⟩,fun r hr=>⟨h.live (hb.2 r hr).1 (by have:=(hb.2 r hr).1.1;unfold pR at this;omega),(hb.2 r hr).2⟩⟩
theorem WC.put{s:aI}(hs:WC s){w:Int}{b:aB}(hb:HO b){c:List Int}(hc:c.length=2∧∀h∈c,eY h){j:bJ}(hj:JOk j)(l:List Ev):WC ⟨b,c,s.aQ.set w.toNat j,s.aY,l,s.aM⟩:=
  ⟨hb,hc.1,by simpa using hs.2.2.1,hs.2.2.2.1,hs.2.2.2.2.1,hc.2,fun q hq=>(List.mem_or_eq_of_mem_set hq).elim (hs.2.2.2.2.2.2 q) (fun e=>e ▸ hj)⟩
theorem cB{j:bJ}(h:j.kI=true)(h1:yX j.Op∧eY j.H∧eY j.Old):JOk j:=(ZM h).2 h1
noncomputable section
variable {s:aI} (hs:WC s) (hl:s.Log.length≤1000000000) {w:Int} (hw:0≤w∧w≤2) {j:bJ} (hj:idx s.aQ w=some j) (hb:j.kI=true) (hjo:yX j.Op∧eY j.H∧eY j.Old)
include hs hl hw hj hb hjo
theorem aSB(hk:j.Op.Kind=1):∃x,((FV s w j).bind fun q=>dI w q.1 q.2)=some x∧xZ s w=some x∧WC x∧x.Log.length≤s.Log.length+1:=by
  have h3:=hs.2.2.1
  have hset:∀x,idx (s.aQ.set w.toNat x) w=some x:=E4 hw.1 (by omega)
  have hn:∀(e:Ev) {α:Type} (k:Option α),need (s.Log.length + [e].length≤1073741824) k=k:=fun e _ k=>aR (by simp;omega) k
  have hcs:s.Cells.length=2∧∀h∈s.Cells,eY h:=⟨hs.2.1,hs.2.2.2.2.2.1⟩
  have hcell:idx s.Cells j.Op.Cell=some (s.Cells[j.Op.Cell.toNat]'(by have:=hjo.1.2.2.1;omega)):=pQ hjo.1.2.2.1.1 (by have:=hjo.1.2.2.1;omega)
  have hcm:eY (s.Cells[j.Op.Cell.toNat]'(by have:=hjo.1.2.2.1;omega)):=hcs.2 _ (List.getElem_mem _)
  generalize (s.Cells[j.Op.Cell.toNat]'(by have:=hjo.1.2.2.1;omega))=cell at hcell hcm
  have hval:0≤j.Op.dV∧j.Op.dV≤65535:=by have:=hjo.1.2.2.2;rw [if_pos hk] at this;exact this.2
  unfold FV xZ
  rw [hj]
  simp only [Option.bind_some,bH,bG,cM,dI,iF,gG]
  by_cases p0:j.Pc=0
  · obtain⟨x,y,e1,e2,hx⟩:=step_eq hs.1 hs.1.small hw j.Sub
    simp only [p0,beq_self_eq_true,if_true,e1,e2,Option.bind_some]
    cases hd:y.cH with
    | false=>simp only [Bool.not_false,if_true,Option.bind_some,hj];exact⟨_,rfl,rfl,hs.put hx hcs (by exact cB hb hjo) _,Nat.le_succ _⟩
    | true =>
      simp only [Bool.not_true,Bool.false_eq_true,if_false]
      by_cases c0:y.Code=0
      · simp only [c0,bne_self_eq_false,Bool.false_eq_true,if_false,fH,gZ,Option.bind_some]
        by_cases o0:pR y.Out
        · simp only [decide_eq_true o0,Bool.not_true,Bool.false_eq_true,if_false,Option.bind_some,hj];exact⟨_,rfl,rfl,hs.put hx hcs (by exact cB hb ⟨hjo.1,.inr o0,hjo.2.2⟩) _,Nat.le_succ _⟩
        · simp only [decide_eq_false o0,Bool.not_false,if_true,Option.bind_some,hj];exact⟨_,rfl,rfl,hs.put hx hcs (by exact cB hb hjo) _,Nat.le_succ _⟩
      · simp only [KK c0,if_true,Option.bind_some,hj];exact⟨_,rfl,rfl,hs.put hx hcs (by exact cB hb hjo) _,Nat.le_succ _⟩
  simp only [eK p0,Bool.false_eq_true,if_false]
  by_cases p1:j.Pc=1
  · obtain⟨x,c,e1,e2,h1,h2⟩:=aG4 hs.1.1.1 (h:=j.H) hval
    simp only [p1,beq_self_eq_true,if_true,e1,e2,Option.bind_some,xW,hj,bG,cM]
    by_cases c0:c=0
    · simp only [c0,bne_self_eq_false,Bool.false_eq_true,if_false,Option.bind_some,hj];exact⟨_,rfl,rfl,hs.put (hs.1.mem h1) hcs (by exact cB hb hjo) _,Nat.le_succ _⟩
    · have:=h2 c0
      subst this
      simp only [KK c0,if_true,Option.bind_some,hj];exact⟨_,rfl,rfl,hs.put hs.1 hcs (by exact cB hb hjo) _,Nat.le_succ _⟩
  simp only [eK p1,Bool.false_eq_true,if_false]
  by_cases p2:j.Pc=2
  · have hc2:(s.Cells.set j.Op.Cell.toNat j.H).length=2∧∀h∈s.Cells.set j.Op.Cell.toNat j.H,eY h:=⟨by simpa using hcs.1,fun q hq=>(List.mem_or_eq_of_mem_set hq).elim (hcs.2 q) (fun e=>e ▸ hjo.2.1)⟩
    simp only [p2,beq_self_eq_true,if_true,hcell,Option.bind_some,hset,hn,xY,cE,cS,xX,bG,cM,gG]
    by_cases c0:cell=0
    · simp only [c0,beq_self_eq_true,if_true,Option.bind_some,hj,List.set_set];exact⟨_,rfl,rfl,hs.put hs.1 hc2 (by exact cB hb ⟨hjo.1,hjo.2.1,.inl rfl⟩) _,by simp⟩
    · simp only [eK c0,Bool.false_eq_true,if_false,Option.bind_some,hj,List.set_set];exact⟨_,rfl,rfl,hs.put hs.1 hc2 (by exact cB hb ⟨hjo.1,hjo.2.1,hcm⟩) _,by simp⟩
  simp only [eK p2,Bool.false_eq_true,if_false]
  by_cases p3:j.Pc=3
  · obtain⟨x,y,e1,e2,hx⟩:=step_eq hs.1 hs.1.small hw j.Sub
    simp only [p3,beq_self_eq_true,if_true,e1,e2,Option.bind_some]
    cases hd:y.cH with
    | false=>simp only [Bool.not_false,if_true,Bool.false_eq_true,if_false,Option.bind_some,hj];exact⟨_,rfl,rfl,hs.put hx hcs (by exact cB hb hjo) _,Nat.le_succ _⟩
    | true=>simp only [Bool.not_true,if_true,Bool.false_eq_true,if_false,Option.bind_some,hj];exact⟨_,rfl,rfl,hs.put hx hcs (by exact cB hb hjo) _,Nat.le_succ _⟩
  simp only [eK p3,Bool.false_eq_true,if_false,Option.bind_some,hj]
  exact⟨_,rfl,rfl,hs.put hs.1 hcs (by exact cB hb hjo) _,Nat.le_succ _⟩
theorem get_eq(hk:j.Op.Kind=2):∃x,((FX s w j).bind fun q=>dI w q.1 q.2)=some x∧yA s w=some x∧WC x∧x.Log.length≤s.Log.length+1:=by
  have h3:=hs.2.2.1
  have hset:∀x,idx (s.aQ.set w.toNat x) w=some x:=E4 hw.1 (by omega)
  have hn:∀(e:Ev) {α:Type} (k:Option α),need (s.Log.length + [e].length≤1073741824) k=k:=fun e _ k=>aR (by simp;omega) k
  have hcs:s.Cells.length=2∧∀h∈s.Cells,eY h:=⟨hs.2.1,hs.2.2.2.2.2.1⟩
  have hcell:idx s.Cells j.Op.Cell=some (s.Cells[j.Op.Cell.toNat]'(by have:=hjo.1.2.2.1;omega)):=pQ hjo.1.2.2.1.1 (by have:=hjo.1.2.2.1;omega)
  have hcm:eY (s.Cells[j.Op.Cell.toNat]'(by have:=hjo.1.2.2.1;omega)):=hcs.2 _ (List.getElem_mem _)
  generalize (s.Cells[j.Op.Cell.toNat]'(by have:=hjo.1.2.2.1;omega))=cell at hcell hcm
  obtain⟨pn,hpn,_⟩:=S5 hs.1.1.2.1 hw
  unfold FX yA
  rw [hj]
  simp only [Option.bind_some,bH,bG,cM,dI]
  by_cases p0:j.Pc=0
  · obtain⟨x,y,e1,e2,hx⟩:=step_eq hs.1 hs.1.small hw j.Sub
    simp only [p0,beq_self_eq_true,if_true,e1,e2,Option.bind_some]
    cases hd:y.cH with
    | false=>simp only [Bool.not_false,if_true,Bool.false_eq_true,if_false,Option.bind_some,hj];exact⟨_,rfl,rfl,hs.put hx hcs (by exact cB hb hjo) _,Nat.le_succ _⟩
    | true=>simp only [Bool.not_true,if_true,Bool.false_eq_true,if_false,Option.bind_some,hj];exact⟨_,rfl,rfl,hs.put hx hcs (by exact cB hb hjo) _,Nat.le_succ _⟩
  simp only [eK p0,Bool.false_eq_true,if_false]
  by_cases p1:j.Pc=1
  · simp only [p1,beq_self_eq_true,if_true,hcell,Option.bind_some,jI,hn,qV,hj,cE,cS,hset]
    by_cases c0:cell=0
    · simp only [c0,beq_self_eq_true,if_true,Option.bind_some,hj,List.set_set];exact⟨_,rfl,rfl,hs.put hs.1 hcs (by exact cB hb ⟨hjo.1,.inl rfl,hjo.2.2⟩) _,by simp⟩
    · simp only [eK c0,Bool.false_eq_true,if_false,Option.bind_some,hj,List.set_set];exact⟨_,rfl,rfl,hs.put hs.1 hcs (by exact cB hb ⟨hjo.1,hcm,hjo.2.2⟩) _,by simp⟩
  simp only [eK p1,Bool.false_eq_true,if_false]
  by_cases p2:j.Pc=2
  · obtain⟨r,e1,e2⟩:=aG5 hs.1.1.1 j.H
    simp only [p2,beq_self_eq_true,if_true,nS,i6,hj,e1,e2,Option.bind_some,hset,List.set_set]
    exact⟨_,rfl,rfl,hs.put hs.1 hcs (by exact cB hb hjo) _,Nat.le_succ _⟩
  simp only [eK p2,Bool.false_eq_true,if_false]
  by_cases p3:j.Pc=3
  · simp only [p3,beq_self_eq_true,if_true,tL,jE,hj,hpn,Option.bind_some,cM,oB,gX,mU,bH]
    cases pn.On with
    | false=>simp only [Bool.false_eq_true,if_false,Option.bind_some,Bool.not_false,if_true,hj];exact⟨_,rfl,rfl,hs.put hs.1 hcs (by exact cB hb hjo) _,Nat.le_succ _⟩
    | true =>
      simp only [if_true,Option.bind_some]
      cases pn.d9 with
      | false=>simp only [Bool.false_eq_true,if_false,Option.bind_some,Bool.not_false,Bool.not_true,if_true,hj];exact⟨_,rfl,rfl,hs.put hs.1 hcs (by exact cB hb hjo) _,Nat.le_succ _⟩
      | true=>simp only [Bool.false_eq_true,if_false,Option.bind_some,Bool.not_false,Bool.not_true,if_true,hj];exact⟨_,rfl,rfl,hs.put hs.1 hcs (by exact cB hb hjo) _,Nat.le_succ _⟩
  simp only [eK p3,Bool.false_eq_true,if_false]
  by_cases p4:j.Pc=4
  · obtain⟨r,e1,e2,h1,h2⟩:=aFQ hs.1.1.2.1 hw
    simp only [p4,beq_self_eq_true,if_true,e1,e2,o6,Option.bind_some,hj]
    exact⟨_,rfl,rfl,hs.put (hs.1.clock h1 (by rw [h2];exact Int.le_refl _)) hcs (by exact cB hb hjo) _,Nat.le_succ _⟩
  simp only [eK p4,Bool.false_eq_true,if_false,Option.bind_some,hj]
  exact⟨_,rfl,rfl,hs.put hs.1 hcs (by exact cB hb hjo) _,Nat.le_succ _⟩
theorem aSC(hk:j.Op.Kind=3):∃x,((FY s w j).bind fun q=>dI w q.1 q.2)=some x∧yE s w=some x∧WC x∧x.Log.length≤s.Log.length+1:=by
  have h3:=hs.2.2.1
  have hset:∀x,idx (s.aQ.set w.toNat x) w=some x:=E4 hw.1 (by omega)
  have hn:∀(e:Ev) {α:Type} (k:Option α),need (s.Log.length + [e].length≤1073741824) k=k:=fun e _ k=>aR (by simp;omega) k
  have hcs:s.Cells.length=2∧∀h∈s.Cells,eY h:=⟨hs.2.1,hs.2.2.2.2.2.1⟩
  have hcell:idx s.Cells j.Op.Cell=some (s.Cells[j.Op.Cell.toNat]'(by have:=hjo.1.2.2.1;omega)):=pQ hjo.1.2.2.1.1 (by have:=hjo.1.2.2.1;omega)
  have hcm:eY (s.Cells[j.Op.Cell.toNat]'(by have:=hjo.1.2.2.1;omega)):=hcs.2 _ (List.getElem_mem _)
  generalize (s.Cells[j.Op.Cell.toNat]'(by have:=hjo.1.2.2.1;omega))=cell at hcell hcm
  unfold FY yE
  rw [hj]
  simp only [Option.bind_some,bH,bG,cM,dI,yC,yD]
  by_cases p0:j.Pc=0
  · simp only [p0,beq_self_eq_true,if_true,hcell,Option.bind_some,jI,hn,hj,cE,cS,hset]
    by_cases c0:cell=0
    · simp only [c0,beq_self_eq_true,if_true,Option.bind_some,hj,List.set_set,hn];exact⟨_,rfl,rfl,hs.put hs.1 hcs (by exact cB hb ⟨hjo.1,.inl rfl,hjo.2.2⟩) _,by simp⟩
    · simp only [eK c0,Bool.false_eq_true,if_false,Option.bind_some,hj,List.set_set];exact⟨_,rfl,rfl,hs.put hs.1 hcs (by exact cB hb ⟨hjo.1,hcm,hjo.2.2⟩) _,Nat.le_succ _⟩
  simp only [eK p0,Bool.false_eq_true,if_false]
  by_cases p1:j.Pc=1
  · obtain⟨r,e1,e2,h1⟩:=aG7 hs.1.1.2.2.2 hw j.H
    simp only [p1,beq_self_eq_true,if_true,e1,e2,Option.bind_some,hj]
    exact⟨_,rfl,rfl,hs.put (hs.1.haz h1) hcs (by exact cB hb hjo) _,Nat.le_succ _⟩
  simp only [eK p1,Bool.false_eq_true,if_false]
  by_cases p2:j.Pc=2
  · simp only [p2,beq_self_eq_true,if_true,hcell,Option.bind_some,jI,hn,hj,cE,cS]
    by_cases c0:cell=j.H
    · simp only [c0,bne_self_eq_false,Bool.false_eq_true,if_false,Option.bind_some,hj];exact⟨_,rfl,rfl,hs.put hs.1 hcs (by exact cB hb hjo) _,by simp⟩
    · simp only [KK c0,if_true,Option.bind_some,hj];exact⟨_,rfl,rfl,hs.put hs.1 hcs (by exact cB hb hjo) _,Nat.le_succ _⟩
  simp only [eK p2,Bool.false_eq_true,if_false]
  by_cases p3:j.Pc=3
  · obtain⟨r,e1,e2⟩:=aG5 hs.1.1.1 j.H
    simp only [p3,beq_self_eq_true,if_true,nS,i6,hj,e1,e2,Option.bind_some,hset,List.set_set]
    exact⟨_,rfl,rfl,hs.put hs.1 hcs (by exact cB hb hjo) _,Nat.le_succ _⟩
  simp only [eK p3,Bool.false_eq_true,if_false]
  by_cases p4:j.Pc=4
  · obtain⟨r,e1,e2,h1⟩:=aNF hs.1.1.2.2.2 hw
    simp only [p4,beq_self_eq_true,if_true,e1,e2,Option.bind_some,hj]
    exact⟨_,rfl,rfl,hs.put (hs.1.haz h1) hcs (by exact cB hb hjo) _,Nat.le_succ _⟩
  simp only [eK p4,Bool.false_eq_true,if_false,Option.bind_some,hj]
  exact⟨_,rfl,rfl,hs.put hs.1 hcs (by exact cB hb hjo) _,Nat.le_succ _⟩
theorem aPU(hk:j.Op.Kind=7):∃x,((CK s w j).bind fun q=>dI w q.1 q.2)=some x∧uX s w=some x∧WC x∧x.Log.length≤s.Log.length+1:=by
  have h3:=hs.2.2.1
  have hset:∀x,idx (s.aQ.set w.toNat x) w=some x:=E4 hw.1 (by omega)
  have hn:∀(e:Ev) {α:Type} (k:Option α),need (s.Log.length + [e].length≤1073741824) k=k:=fun e _ k=>aR (by simp;omega) k
  have hcs:s.Cells.length=2∧∀h∈s.Cells,eY h:=⟨hs.2.1,hs.2.2.2.2.2.1⟩
  have hcell:idx s.Cells j.Op.Cell=some (s.Cells[j.Op.Cell.toNat]'(by have:=hjo.1.2.2.1;omega)):=pQ hjo.1.2.2.1.1 (by have:=hjo.1.2.2.1;omega)
  have hcm:eY (s.Cells[j.Op.Cell.toNat]'(by have:=hjo.1.2.2.1;omega)):=hcs.2 _ (List.getElem_mem _)
  generalize (s.Cells[j.Op.Cell.toNat]'(by have:=hjo.1.2.2.1;omega))=cell at hcell hcm
  obtain⟨pn,hpn,_⟩:=S5 hs.1.1.2.1 hw
  unfold CK uX
  rw [hj,hpn]
  simp only [Option.bind_some,bH,bG,cM,dI,vY,oD,oC,hj]
  by_cases p0:j.Pc=0
  · simp only [p0,beq_self_eq_true,if_true]
    cases pn.On with
    | false=>simp only [Bool.not_false,if_true,Option.bind_some,hj];exact⟨_,rfl,rfl,hs.put hs.1 hcs (by exact cB hb hjo) _,Nat.le_succ _⟩
    | true =>
      simp only [Bool.not_true,Bool.false_eq_true,if_false]
      cases pn.d9 with
      | true=>simp only [if_true,Option.bind_some,hj];exact⟨_,rfl,rfl,hs.put hs.1 hcs (by exact cB hb hjo) _,Nat.le_succ _⟩
      | false =>
        simp only [Bool.false_eq_true,if_false,hcell,Option.bind_some,jI,hn,qV,hj,cE,cS,hset]
        by_cases c0:cell=0
        · simp only [c0,beq_self_eq_true,if_true,Option.bind_some,hj,List.set_set];exact⟨_,rfl,rfl,hs.put hs.1 hcs (by exact cB hb ⟨hjo.1,.inl rfl,hjo.2.2⟩) _,by simp⟩
        · simp only [eK c0,Bool.false_eq_true,if_false,Option.bind_some,hj,List.set_set];exact⟨_,rfl,rfl,hs.put hs.1 hcs (by exact cB hb ⟨hjo.1,hcm,hjo.2.2⟩) _,by simp⟩
  simp only [eK p0,Bool.false_eq_true,if_false,hj,Option.bind_some]
  by_cases p1:j.Pc=1
  · obtain⟨r,e1,e2⟩:=aG5 hs.1.1.1 j.H
    simp only [p1,beq_self_eq_true,if_true,nS,i6,hj,e1,e2,Option.bind_some,hset,List.set_set]
    exact⟨_,rfl,rfl,hs.put hs.1 hcs (by exact cB hb hjo) _,Nat.le_succ _⟩
  simp only [eK p1,Bool.false_eq_true,if_false]
  by_cases p2:j.Pc=2
  · simp only [p2,beq_self_eq_true,if_true,tL,jE,hj,hpn,Option.bind_some,cM,oB,gX,mU,bH]
    cases pn.On with
    | false=>simp only [Bool.false_eq_true,if_false,Option.bind_some,Bool.not_false,if_true,hj];exact⟨_,rfl,rfl,hs.put hs.1 hcs (by exact cB hb hjo) _,Nat.le_succ _⟩
    | true =>
      simp only [if_true,Option.bind_some]
      cases pn.d9 with
      | false=>simp only [Bool.false_eq_true,if_false,Option.bind_some,Bool.not_false,Bool.not_true,if_true,hj];exact⟨_,rfl,rfl,hs.put hs.1 hcs (by exact cB hb hjo) _,Nat.le_succ _⟩
      | true=>simp only [Bool.false_eq_true,if_false,Option.bind_some,Bool.not_false,Bool.not_true,if_true,hj];exact⟨_,rfl,rfl,hs.put hs.1 hcs (by exact cB hb hjo) _,Nat.le_succ _⟩
  simp only [eK p2,Bool.false_eq_true,if_false,Option.bind_some,hj]
  exact⟨_,rfl,rfl,hs.put hs.1 hcs (by exact cB hb hjo) _,Nat.le_succ _⟩
theorem aNG(hk:j.Op.Kind=4∨j.Op.Kind=5∨j.Op.Kind=6):∃x,((zY s w j).bind fun q=>dI w q.1 q.2)=some x∧sE s w=some x∧WC x∧x.Log.length≤s.Log.length+1:=by
  have h3:=hs.2.2.1
  have hset:∀x,idx (s.aQ.set w.toNat x) w=some x:=E4 hw.1 (by omega)
  have hcs:s.Cells.length=2∧∀h∈s.Cells,eY h:=⟨hs.2.1,hs.2.2.2.2.2.1⟩
  obtain⟨x,y,e1,e2,hx⟩:=step_eq hs.1 hs.1.small hw j.Sub
  unfold zY sE
  rw [hj]
  simp only [Option.bind_some,bH,bG,cM,dI,iF,gG,rU,jX,mL,mH,mK,mJ,mI,hj,e1,e2]
  rcases hk with k4 | k5 | k6
  · simp only [k4,show((4:Int) == 6)=false from rfl,show((4:Int) == 5)=false from rfl,show((4:Int) == 4)=true from rfl,Bool.false_eq_true,if_false,if_true]
    by_cases p0:j.Pc=0
    · simp only [p0,bne_self_eq_false,beq_self_eq_true,Bool.false_eq_true,if_false,if_true]
      cases hd:y.cH with
      | false=>simp only [Bool.not_false,if_true,Bool.false_eq_true,if_false,Option.bind_some,hj];exact⟨_,rfl,rfl,hs.put hx hcs (by exact cB hb hjo) _,Nat.le_succ _⟩
      | true=>simp only [Bool.not_true,if_true,Bool.false_eq_true,if_false,Option.bind_some,hj];exact⟨_,rfl,rfl,hs.put hx hcs (by exact cB hb hjo) _,Nat.le_succ _⟩
    · simp only [KK p0,eK p0,Bool.false_eq_true,if_false,if_true]
      by_cases p1:j.Pc=1
      · simp only [p1,bne_self_eq_false,beq_self_eq_true,Bool.false_eq_true,if_false,if_true,show((1:Int) == 0)=false from rfl]
        cases hd:y.cH with
        | false=>simp only [Bool.not_false,if_true,Bool.false_eq_true,if_false,Option.bind_some,hj];exact⟨_,rfl,rfl,hs.put hx hcs (by exact cB hb hjo) _,Nat.le_succ _⟩
        | true=>simp only [Bool.not_true,if_true,Bool.false_eq_true,if_false,Option.bind_some,hj];exact⟨_,rfl,rfl,hs.put hx hcs (by exact cB hb hjo) _,Nat.le_succ _⟩
      · simp only [KK p1,eK p1,Bool.false_eq_true,if_false,if_true,Option.bind_some,hj]
        exact⟨_,rfl,rfl,hs.put hs.1 hcs (by exact cB hb hjo) _,Nat.le_succ _⟩
  · simp only [k5,show((5:Int) == 6)=false from rfl,show((5:Int) == 5)=true from rfl,show((5:Int) == 4)=false from rfl,Bool.false_eq_true,if_false,if_true]
    by_cases p0:j.Pc=0
    · simp only [p0,bne_self_eq_false,beq_self_eq_true,Bool.false_eq_true,if_false,if_true]
      cases hd:y.cH with
      | false=>simp only [Bool.not_false,if_true,Bool.false_eq_true,if_false,Option.bind_some,hj];exact⟨_,rfl,rfl,hs.put hx hcs (by exact cB hb hjo) _,Nat.le_succ _⟩
      | true=>simp only [Bool.not_true,if_true,Bool.false_eq_true,if_false,Option.bind_some,hj];exact⟨_,rfl,rfl,hs.put hx hcs (by exact cB hb hjo) _,Nat.le_succ _⟩
    · simp only [KK p0,eK p0,Bool.false_eq_true,if_false,if_true]
      by_cases p1:j.Pc=1
      · simp only [p1,bne_self_eq_false,Bool.false_eq_true,if_false,if_true,Option.bind_some,hj]
        exact⟨_,rfl,rfl,hs.put hs.1 hcs (by exact cB hb hjo) _,Nat.le_succ _⟩
      · simp only [KK p1,if_true,Option.bind_some,hj]
        exact⟨_,rfl,rfl,hs.put hs.1 hcs (by exact cB hb hjo) _,Nat.le_succ _⟩
  · simp only [k6,beq_self_eq_true,show((6:Int) == 5)=false from rfl,show((6:Int) == 4)=false from rfl,Bool.false_eq_true,if_false,if_true]
    by_cases p0:j.Pc=0
    · obtain⟨r,f1,f2,h1,h2⟩:=aFQ hs.1.1.2.1 hw
      simp only [p0,beq_self_eq_true,if_true,f1,f2,o6,Option.bind_some]
      cases hr:r.2 with
      | false=>simp only [Bool.not_false,if_true,Option.bind_some,hj];exact⟨_,rfl,rfl,hs.put (hs.1.clock h1 (by rw [h2];exact Int.le_refl _)) hcs (by exact cB hb hjo) _,Nat.le_succ _⟩
      | true=>simp only [Bool.not_true,Bool.false_eq_true,if_false,Option.bind_some,hj];exact⟨_,rfl,rfl,hs.put (hs.1.clock h1 (by rw [h2];exact Int.le_refl _)) hcs (by exact cB hb hjo) _,Nat.le_succ _⟩
    · simp only [eK p0,Bool.false_eq_true,if_false,Option.bind_some,hj]
      exact⟨_,rfl,rfl,hs.put hs.1 hcs (by exact cB hb hjo) _,Nat.le_succ _⟩
end
theorem aG8{l:List cX}(h:0 < l.length)(hl:l.length≤1000):rW l 0 1=some (l.drop 1):=by
  have e:=del_eq (l:=l) (k:=0) h
  unfold rW
  rw [aR (by omega),if_neg (by simp),aR (by omega),aR (by omega),aR (by omega),aR]
  · simp only [Int.toNat_zero,Int.toNat_one] at e ⊢
    rw [Nat.zero_add] at e
    rw [Nat.zero_add,e,List.eraseIdx_zero,List.drop_one]
  · rw [dX (by omega)]
    simp only [List.drop_zero,List.length_take,dX (show(0:Int).toNat≤l.length by simp)]
    omega
theorem ZN{o:cX}(ho:yX o)(ser pc:Int)(sub:Sub)(code:Int):JOk ⟨true,o,ser,pc,sub,0,0,0,code⟩:=(ZM rfl).2 ⟨ho,.inl rfl,.inl rfl⟩
theorem aNH{s:aI}(hs:WC s)(hl:s.Log.length≤1000000000){w:Int}(hw:0≤w∧w≤2){j:bJ}(hj:idx s.aQ w=some j):∃x,zQ s w=some x∧rX s w=some x∧WC x∧x.Log.length≤s.Log.length+1:=by
  have h3:=hs.2.2.1
  have ht:=hs.2.2.2.1
  have hser:=hs.2.2.2.2.1
  have hset:∀x,idx (s.aQ.set w.toNat x) w=some x:=E4 hw.1 (by omega)
  have hn:∀(e:Ev) {α:Type} (k:Option α),need (s.Log.length + [e].length≤1073741824) k=k:=fun e _ k=>aR (by simp;omega) k
  have hq:idx s.aY w=some (s.aY[w.toNat]'(by have:=ht.1;omega)):=pQ hw.1 (by have:=ht.1;omega)
  have hqk:QOk (s.aY[w.toNat]'(by have:=ht.1;omega)):=ht.2 _ (List.getElem_mem _)
  generalize (s.aY[w.toNat]'(by have:=ht.1;omega))=q at hq hqk
  obtain⟨pn,hpn,_⟩:=S5 hs.1.1.2.1 hw
  have ew:aH (s.aM+1)=s.aM+1:=aV (by omega) (by omega)
  unfold zQ rX
  rw [hq]
  simp only [Option.bind_some,rM,mB]
  by_cases l0:q.fK.length=0
  · simp only [show((q.fK.length:Int) == 0)=true by rw [l0];rfl,if_true]
    exact⟨_,rfl,rfl,hs,Nat.le_succ _⟩
  · simp only [show((q.fK.length:Int) == 0)=false from eK (by omega),Bool.false_eq_true,if_false]
    by_cases s0:s.aM=1000000
    · simp only [s0,beq_self_eq_true,if_true]
      exact⟨_,rfl,rfl,hs,Nat.le_succ _⟩
    · simp only [eK s0,Bool.false_eq_true,if_false,hq,Option.bind_some]
      have hx:idx q.fK 0=some (q.fK[0]'(by omega)):=by have:=aS (l:=q.fK) (k:=0) (by omega);simpa using this
      have ho:yX (q.fK[0]'(by omega)):=hqk.2 _ (List.getElem_mem _)
      have h12:=hqk.1
      have hdel:=aG8 (l:=q.fK) (by omega) (by omega)
      generalize (q.fK[0]'(by omega))=o at hx ho
      have etk:(q.fK.take q.fK.length).drop (1:Int).toNat=q.fK.drop 1:=by rw [List.take_length];rfl
      have hT:P0 (s.aY.set w.toNat ⟨q.fK.drop 1⟩):=⟨by simpa using ht.1,fun z hz=>(List.mem_or_eq_of_mem_set hz).elim (ht.2 z) (fun e=>by
        subst e
        exact⟨by simp only [List.length_drop];omega,fun a ha=>hqk.2 a (List.mem_of_mem_drop ha)⟩)⟩
      have fin:∀(jb:bJ) (l:List Ev),JOk jb→WC ⟨s.aB,s.Cells,s.aQ.set w.toNat jb,s.aY.set w.toNat ⟨q.fK.drop 1⟩,l,s.aM+1⟩:=fun jb l hjb=>
        ⟨hs.1,hs.2.1,by simpa using h3,hT,by simp only;omega,hs.2.2.2.2.2.1,fun z hz=>(List.mem_or_eq_of_mem_set hz).elim (hs.2.2.2.2.2.2 z) (fun e=>e ▸ hjb)⟩
      simp only [hx,hdel,Option.bind_some,iF,gG,ew]
      rw [aR (by omega)]
      by_cases k1:o.Kind=1
      · simp only [k1,beq_self_eq_true,if_true,dZ,c9,hj,cE,cS,Option.bind_some,hset,hn,etk,ew]
        exact⟨_,rfl,rfl,fin _ _ (ZN ho _ _ _ _),by simp⟩
      simp only [eK k1,Bool.false_eq_true,if_false]
      have pin:∀z,z=true→∃x,jU s w q o z=some x∧gD s w o (q.fK.drop 1) z=some x∧WC x∧x.Log.length≤s.Log.length+1:=fun z hz=>by
        subst hz
        simp only [jU,gD,if_true,iF,gG,hpn,Option.bind_some,bG]
        cases pn.On with
        | true =>
          simp only [if_true,dZ,c9,hj,cE,cS,Option.bind_some,hset,hn,etk,ew]
          exact⟨_,rfl,rfl,fin _ _ (ZN ho _ _ _ _),by simp⟩
        | false =>
          simp only [Bool.false_eq_true,if_false,dZ,c9,hj,cE,cS,Option.bind_some,hset,hn,etk,ew]
          exact⟨_,rfl,rfl,fin _ _ (ZN ho _ _ _ _),by simp⟩
      by_cases k2:o.Kind=2
      · simp only [k2,beq_self_eq_true,if_true];exact pin true rfl
      simp only [eK k2,Bool.false_eq_true,if_false]
      by_cases k5:o.Kind=5
      · simp only [k5,beq_self_eq_true];exact pin true rfl
      simp only [eK k5,jU,gD,Bool.false_eq_true,if_false,iF,gG,Option.bind_some]
      by_cases k4:o.Kind=4
      · simp only [k4,beq_self_eq_true,if_true,dZ,c9,hj,cE,cS,Option.bind_some,hset,hn,etk,ew]
        exact⟨_,rfl,rfl,fin _ _ (ZN ho _ _ _ _),by simp⟩
      · simp only [eK k4,Bool.false_eq_true,if_false,dZ,c9,hj,cE,cS,Option.bind_some,hset,hn,etk,ew]
        exact⟨_,rfl,rfl,fin _ _ (ZN ho _ _ _ _),by simp⟩
theorem aD0{s:aI}(hs:WC s)(hl:s.Log.length≤1000000000){w:Int}(hw:0≤w∧w≤2):∃x,JX s w=some x∧uY s w=some x∧WC x∧x.Log.length≤s.Log.length+1:=by
  have h3:=hs.2.2.1
  have hset:∀x,idx (s.aQ.set w.toNat x) w=some x:=E4 hw.1 (by omega)
  have hn:∀(e:Ev) {α:Type} (k:Option α),need (s.Log.length + [e].length≤1073741824) k=k:=fun e _ k=>aR (by simp;omega) k
  have hj:idx s.aQ w=some (s.aQ[w.toNat]'(by omega)):=pQ hw.1 (by omega)
  have hjk:JOk (s.aQ[w.toNat]'(by omega)):=hs.2.2.2.2.2.2 _ (List.getElem_mem _)
  generalize (s.aQ[w.toNat]'(by omega))=j at hj hjk
  unfold JX uY
  rw [hj]
  simp only [Option.bind_some]
  cases hb:j.kI with
  | false =>
    obtain⟨x,e1,e2,e3,e4⟩:=aNH hs hl hw hj
    simp only [Bool.not_false,if_true,e1,e2,Option.bind_some]
    exact⟨_,rfl,rfl,e3,e4⟩
  | true =>
    have hjo:=(ZM hb).1 hjk
    simp only [Bool.not_true,Bool.false_eq_true,if_false]
    by_cases p9:j.Pc=9
    · simp only [p9,beq_self_eq_true,if_true,hn,cE,cS,hj,Option.bind_some]
      exact⟨_,rfl,rfl,hs.put hs.1 ⟨hs.2.1,hs.2.2.2.2.2.1⟩ ((aFP rfl).2 rfl) _,by simp⟩
    simp only [eK p9,Bool.false_eq_true,if_false]
    have close:∀{A B:Option aI} {x:aI},A=some x→B=some x→WC x→x.Log.length≤s.Log.length+1→∃x,A=some x∧(B.bind fun z=>some z)=some x∧WC x∧x.Log.length≤s.Log.length+1:=fun h1 h2 h3 h4=>⟨_,h1,by rw [h2];rfl,h3,h4⟩
    by_cases k1:j.Op.Kind=1
    · obtain⟨x,e1,e2,e3,e4⟩:=aSB hs hl hw hj hb hjo k1
      simp only [k1,beq_self_eq_true,if_true];exact close e1 e2 e3 e4
    simp only [eK k1,Bool.false_eq_true,if_false]
    by_cases k2:j.Op.Kind=2
    · obtain⟨x,e1,e2,e3,e4⟩:=get_eq hs hl hw hj hb hjo k2
      simp only [k2,beq_self_eq_true,if_true];exact close e1 e2 e3 e4
    simp only [eK k2,Bool.false_eq_true,if_false]
    by_cases k3:j.Op.Kind=3
    · obtain⟨x,e1,e2,e3,e4⟩:=aSC hs hl hw hj hb hjo k3
      simp only [k3,beq_self_eq_true,if_true];exact close e1 e2 e3 e4
    simp only [eK k3,Bool.false_eq_true,if_false]
    by_cases k7:j.Op.Kind=7
    · obtain⟨x,e1,e2,e3,e4⟩:=aPU hs hl hw hj hb hjo k7
      simp only [k7,beq_self_eq_true,if_true];exact close e1 e2 e3 e4
    simp only [eK k7,Bool.false_eq_true,if_false]
    have hkr:=hjo.1.1
    obtain⟨x,e1,e2,e3,e4⟩:=aNG hs hl hw hj hb hjo (by omega)
    exact close e1 e2 e3 e4
end Go.Gv
end
