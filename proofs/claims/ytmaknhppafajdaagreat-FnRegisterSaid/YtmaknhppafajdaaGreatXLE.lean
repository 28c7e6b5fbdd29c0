import Derived.Test.YtmaknhppafajdaaGreatXLD
set_option linter.unusedVariables false
set_option linter.unusedSimpArgs false
set_option linter.unusedSectionVars false
set_option linter.constructorNameAsVariable false
set_option linter.unnecessarySimpa false
noncomputable section
namespace Go.Gv
def dA(l:List aR):List Int:=l.flatMap aR.aS
def dM(l:aD):List Int:=dA l.Global++dA l.cT
def LOk(l:aD):Prop:=l.Global.length=3∧l.cT.length=9∧(∀s∈l.cT,s.aS.length≤2)∧(∀x∈dM l,0≤x∧x≤23)∧(dM l).Nodup
instance (l:aD):Decidable (LOk l):=by unfold LOk;infer_instance
theorem O1{l:List aR}{k:Nat}(h:k < l.length):dA (l.take (k+1))=dA (l.take k)++l[k].aS:=by
  unfold dA
  rw [List.take_succ_eq_append_getElem h,List.flatMap_append];simp
theorem aK4(l:List aR)(k:Nat):(dA (l.take k)).length≤(dA l).length:=by
  have:dA l=dA (l.take k)++dA (l.drop k):=by
    unfold dA;rw [←List.flatMap_append,List.take_append_drop]
  rw [this];simp
theorem TN(l:List aR){k:Nat}(h:k < l.length):l[k].aS.length≤(dA l).length:=by
  have h1:=aK4 l (k+1)
  rw [O1 h] at h1
  simp at h1;omega
theorem VV{l:aD}(h:(dM l).length≤1073741824)(hg:l.Global.length≤maxLen)(ho:l.cT.length≤maxLen):KD l=some (dM l):=by
  have hsum:(dA l.Global).length+(dA l.cT).length≤1073741824:=by simpa [dM] using h
  unfold KD
  have k1:loop (z8 l) ([],0)=some (dA l.Global):=by
    refine iQ (f:=z8 l) l.Global.length (fun k=>(dA (l.Global.take k),(k:Int))) _ (fun k hk=>?_) ?_
    · have h1:=aK4 l.Global (k+1)
      rw [O1 hk] at h1
      simp only [z8]
      rw [if_pos (by simp;omega),aV hk]
      simp only [aG]
      rw [aQ (by simp at h1;omega),O1 hk,i5 (nU hk hg)]
    · simp [z8]
  rw [k1]
  simp only [aG,VE,VD]
  have k2:loop (z7 l) (dA l.Global,0)=some (dM l):=by
    have:=iQ (f:=z7 l) l.cT.length (fun k=>(dA l.Global++dA (l.cT.take k),(k:Int))) (dM l) (fun k hk=>?_) ?_
    · simpa [dA] using this
    · have h1:=aK4 l.cT (k+1)
      rw [O1 hk] at h1
      simp only [z7]
      rw [if_pos (by simp;omega),aV hk]
      simp only [aG]
      rw [aQ (by simp at h1 ⊢;omega),O1 hk,i5 (nU hk ho),List.append_assoc]
    · simp [z7,dM]
  rw [k2];rfl
theorem NJ{l:List Int}(hl:l.length≤maxLen)(x:Int):FG l x=some (decide (x∈l)):=by
  unfold FG
  have key:loop (uH l x) 0=some (if ∀y∈l,y≠x then Out.brk () else Out.ret true):=by
    refine jO (f:=uH l x) l (fun k=>(k:Int)) (fun y=>y≠x) _ _ (fun k h hp=>?_) (fun k h hp=>?_) ?_
    · simp only [uH]
      rw [if_pos (by simp;omega),aV h,i5 (nU h hl)]
      have:(l[k] == x)=false:=by simpa using hp
      simp only [aG,this,aP,if_false]
    · simp only [uH]
      rw [if_pos (by simp;omega),aV h]
      have:(l[k] == x)=true:=by simpa using hp
      simp only [aG,this,if_true]
    · simp [uH]
  rw [key]
  by_cases h:x∈l
  · rw [if_neg (fun q=>q x h rfl),bA h];rfl
  · rw [if_pos (fun y hy (e:y=x)=>h (e ▸ hy)),bP h];rfl
theorem QB(l:List Int):l.Nodup↔∀k (h:k < l.length),l[k]∉l.take k:=by
  unfold List.Nodup
  rw [List.pairwise_iff_getElem]
  constructor
  · intro h k hk hm
    obtain⟨i,hi,he⟩:=List.mem_take_iff_getElem.1 hm
    exact h i k (by omega) hk (by omega) he
  · intro h i j hi hj hij he
    exact h j hj (List.mem_take_iff_getElem.2 ⟨i,by omega,he⟩)
theorem aB0{l:aD}(h:(dM l).length≤1073741824):I7 l=some (decide (LOk l)):=by
  unfold I7 BH
  by_cases hg:l.Global.length=3
  · by_cases ho:l.cT.length=9
    · have n1:((l.Global.length:Int) != 3)=false:=by simp;omega
      have n2:((l.cT.length:Int) != 9)=false:=by simp;omega
      simp only [n1,n2,aP,if_false]
      have k1:loop (oF l) 0=some (if ∀s∈l.cT,s.aS.length≤2 then Out.brk () else Out.ret false):=by
        refine jO (f:=oF l) l.cT (fun k=>(k:Int)) (fun s=>s.aS.length≤2) _ _ (fun k hk hp=>?_) (fun k hk hp=>?_) ?_
        · simp only [oF]
          rw [if_pos (by simp;omega),aV hk,aN (by omega) (by omega)]
          simp only [aG]
          rw [if_neg (by simp;omega)];rfl
        · simp only [oF]
          rw [if_pos (by simp;omega),aV hk]
          simp only [aG]
          rw [if_pos (by simp;omega)]
        · simp [oF]
      rw [k1]
      by_cases h2:∀s∈l.cT,s.aS.length≤2
      · rw [if_pos h2]
        simp only [aG,Q6,Q5]
        rw [VV h (by rw [hg];simp [maxLen]) (by rw [ho];simp [maxLen])]
        simp only [aG]
        have k2:loop (oE (dM l)) 0=some (if ∀k,k < (dM l).length→(0≤(dM l).getD k 0∧(dM l).getD k 0≤23)∧(dM l).getD k 0∉(dM l).take k then Out.brk () else Out.ret false):=by
          have hst:∀k,k < (dM l).length→oE (dM l) (k:Int)=if (0≤(dM l).getD k 0∧(dM l).getD k 0≤23)∧(dM l).getD k 0∉(dM l).take k then some (.next ((k+1:Nat):Int)) else some (.stop (Out.ret false)):=by
            intro k hk
            have e:(dM l).getD k 0=(dM l)[k]:=by rw [List.getD_eq_getElem?_getD,List.getElem?_eq_getElem hk];rfl
            rw [e]
            simp only [oE]
            rw [if_pos (by simp;omega),aV hk]
            simp only [aG,cE,BG]
            by_cases q:0≤(dM l)[k]∧(dM l)[k]≤23
            · rw [bA q]
              simp only [dT,aP,if_false,Int.toNat_natCast,List.drop_zero]
              rw [aQ (by omega),NJ (by simp [maxLen];omega),aN (by omega) (by omega)]
              by_cases q2:(dM l)[k]∈(dM l).take k
              · rw [if_neg (fun x=>x.2 q2),bA q2];rfl
              · rw [if_pos ⟨q,q2⟩,bP q2];rfl
            · rw [bP q];simp only [iF,if_true];rw [if_neg (fun x=>q x.1)]
          refine wZ (f:=oE (dM l)) (dM l).length (fun k=>(k:Int)) (fun k=>(0≤(dM l).getD k 0∧(dM l).getD k 0≤23)∧(dM l).getD k 0∉(dM l).take k) _ _ (fun k hk hx=>?_) (fun k hk hx=>?_) ?_
          · rw [hst k hk,if_pos hx]
          · rw [hst k hk,if_neg hx]
          · simp [oE]
        rw [k2]
        have hiff:LOk l↔∀k,k < (dM l).length→(0≤(dM l).getD k 0∧(dM l).getD k 0≤23)∧(dM l).getD k 0∉(dM l).take k:=by
          have e:∀k (hk:k < (dM l).length),(dM l).getD k 0=(dM l)[k]:=fun k hk=>by rw [List.getD_eq_getElem?_getD,List.getElem?_eq_getElem hk];rfl
          constructor
          · rintro⟨_,_,_,q1,q2⟩ k hk
            rw [e k hk]
            exact⟨q1 _ (List.getElem_mem hk),(QB _).1 q2 k hk⟩
          · intro q
            refine⟨hg,ho,h2,fun x hx=>?_,(QB _).2 fun k hk=>?_⟩
            · obtain⟨k,hk,rfl⟩:=List.mem_iff_getElem.1 hx
              have:=(q k hk).1;rw [e k hk] at this;exact this
            · have:=(q k hk).2;rw [e k hk] at this;exact this
        by_cases q:LOk l
        · rw [if_pos (hiff.1 q),bA q];rfl
        · rw [if_neg (fun x=>q (hiff.2 x)),bP q];rfl
      · rw [if_neg h2,bP (fun q:LOk l=>h2 q.2.2.1)];rfl
    · have n1:((l.Global.length:Int) != 3)=false:=by simp;omega
      have n2:((l.cT.length:Int) != 9)=true:=by simp;omega
      simp only [n1,n2,aP,if_false,if_true]
      rw [bP (fun q:LOk l=>ho q.2.1)]
  · have n1:((l.Global.length:Int) != 3)=true:=by simp;omega
    simp only [n1,if_true]
    rw [bP (fun q:LOk l=>hg q.1)]
def AQ:List Bool→List Int→Option (List Bool)
  | met,[]=>some met
  | met,x :: r=>if (0≤x∧x≤23)∧met.getD x.toNat true=false then AQ (met.set x.toNat true) r else none
theorem aJM:∀{xs:List Int} {met m:List Bool},AQ met xs=some m→m.length=met.length
  | [],met,m,h=>by simp [AQ] at h;rw [h]
  | x :: r, met, m, h => by
    simp only [AQ] at h
    split at h
    · have:=aJM h;simpa using this
    · cases h
theorem X7:∀(a b:List Int) (met:List Bool),AQ met (a++b)=(AQ met a).bind fun m=>AQ m b
  | [],b,met=>rfl
  | x :: r, b, met => by
    simp only [List.cons_append,AQ]
    split
    · exact X7 r b _
    · rfl
theorem WW:∀(xs:List Int) (met:List Bool),met.length=24→((AQ met xs).isSome=true↔(∀x∈xs,0≤x∧x≤23)∧xs.Nodup∧∀x∈xs,met.getD x.toNat true=false)
  | [],met,hm=>by simp [AQ]
  | x :: r, met, hm => by
    simp only [AQ]
    by_cases h:(0≤x∧x≤23)∧met.getD x.toNat true=false
    · rw [if_pos h,WW r _ (by simpa using hm)]
      have hset:∀y,0≤y∧y≤23→(((met.set x.toNat true).getD y.toNat true=false)↔(y≠x∧met.getD y.toNat true=false)):=by
        intro y hy
        rw [List.getD_eq_getElem?_getD,List.getD_eq_getElem?_getD]
        by_cases e:y=x
        · subst e;rw [List.getElem?_set_self (by omega)];simp
        · rw [List.getElem?_set_ne (by omega)];simp [e]
      constructor
      · rintro⟨q1,q2,q3⟩
        refine⟨fun y hy=>?_,List.nodup_cons.2 ⟨fun hx=>?_,q2⟩,fun y hy=>?_⟩
        · rcases List.mem_cons.1 hy with rfl | hy
          · exact h.1
          · exact q1 y hy
        · exact((hset x h.1).1 (q3 x hx)).1 rfl
        · rcases List.mem_cons.1 hy with rfl | hy
          · exact h.2
          · exact((hset y (q1 y hy)).1 (q3 y hy)).2
      · rintro⟨q1,q2,q3⟩
        have q2:=List.nodup_cons.1 q2
        refine⟨fun y hy=>q1 y (List.mem_cons_of_mem _ hy),q2.2,fun y hy=>(hset y (q1 y (List.mem_cons_of_mem _ hy))).2 ⟨fun e=>q2.1 (e ▸ hy),q3 y (List.mem_cons_of_mem _ hy)⟩⟩
    · rw [if_neg h]
      constructor
      · intro q;cases q
      · rintro⟨q1,q2,q3⟩
        exact(h ⟨q1 x List.mem_cons_self,q3 x List.mem_cons_self⟩).elim
def aK5:Option (List Bool)→Out (List Bool) Bool
  | some m=>.brk m
  | none=>.ret false
theorem a6C{s:aR}(hl:s.aS.length≤maxLen):∀d k (met:List Bool),k+d=s.aS.length→met.length=24→loop (lU s) ((k:Int),met)=some (aK5 (AQ met (s.aS.drop k))):=by
  intro d
  induction d with
  | zero =>
    intro k met hk hm
    rw [bU (r:=Out.brk met) (by simp [lU];omega),List.drop_eq_nil_of_le (by omega)];rfl
  | succ d ih =>
    intro k met hk hm
    have hk':k < s.aS.length:=by omega
    have hd:s.aS.drop k=s.aS[k] :: s.aS.drop (k+1):=List.drop_eq_getElem_cons hk'
    have hst:lU s ((k:Int),met)=if (0≤s.aS[k]∧s.aS[k]≤23)∧met.getD s.aS[k].toNat true=false then some (.next (((k+1:Nat):Int),met.set s.aS[k].toNat true)) else some (.stop (Out.ret false)):=by
      simp only [lU]
      rw [if_pos (by simp;omega),aV hk']
      simp only [aG,xA]
      generalize s.aS[k]=x
      by_cases q:0≤x∧x≤23
      · obtain⟨j,rfl⟩:=Int.eq_ofNat_of_zero_le q.1
        have hj:j < met.length:=by omega
        have e:met.getD j true=met[j]:=by rw [List.getD_eq_getElem?_getD,List.getElem?_eq_getElem hj];rfl
        simp only [q,and_self,decide_true,dT,aP,if_false,oA,Int.toNat_natCast,true_and,e]
        rw [aQ (by omega),aV hj]
        simp only [aG]
        cases met[j]
        · simp only [aP,if_false,if_true]
          rw [aQ (by omega),i5 (nU hk' hl)]
        · simp
      · rw [bP q];simp only [iF,if_true,oA];rw [if_neg (fun x=>q x.1)]
    rw [hd,AQ]
    by_cases q:(0≤s.aS[k]∧s.aS[k]≤23)∧met.getD s.aS[k].toNat true=false
    · rw [if_pos q] at hst ⊢
      rw [bV hst,ih (k+1) _ (by omega) (by simpa using hm)]
    · rw [if_neg q] at hst ⊢
      rw [bU hst];rfl
def aAK(l:List aR):Prop:=∀s∈l,s.aS.length≤2
instance (l:List aR):Decidable (aAK l):=by unfold aAK;infer_instance
theorem a6D{l:aD}(ho:l.cT.length=9)(hn:(l.cT++l.Global).length≤1000)(hs:∀s∈l.cT++l.Global,s.aS.length≤maxLen):∀d k (met:List Bool),k+d=(l.cT++l.Global).length→met.length=24 →
    loop (lW l) ((k:Int),met)=some (if aAK (((l.cT++l.Global).drop k).take (9 - k))∧(AQ met (dA ((l.cT++l.Global).drop k))).isSome=true then Out.brk () else Out.ret false):=by
  intro d
  induction d with
  | zero =>
    intro k met hk hm
    rw [List.drop_eq_nil_of_le (by omega),if_pos ⟨by simp [aAK],rfl⟩]
    refine bU ?_
    simp only [lW]
    rw [if_neg (by simp;simp at hk;omega)]
  | succ d ih =>
    intro k met hk hm
    have hk':k < (l.cT++l.Global).length:=by omega
    have hd:(l.cT++l.Global).drop k=(l.cT++l.Global)[k] :: (l.cT++l.Global).drop (k+1):=List.drop_eq_getElem_cons hk'
    have hsk:=hs _ (List.getElem_mem hk')
    have hf:dA ((l.cT++l.Global).drop k)=(l.cT++l.Global)[k].aS++dA ((l.cT++l.Global).drop (k+1)):=by unfold dA;rw [hd,List.flatMap_cons]
    have hin:∀b:Bool,lV (k:Int) met (l.cT++l.Global)[k] b=if b then some (.stop (Out.ret false)) else (match AQ met (l.cT++l.Global)[k].aS with | some m=>some (.next (((k+1:Nat):Int),m)) | none=>some (.stop (Out.ret false))):=by
      intro b
      have h4:=a6C hsk _ 0 met (Nat.zero_add _) hm
      rw [show((0:Nat):Int)=0 from rfl,List.drop_zero] at h4
      unfold lV
      rw [h4]
      cases b
      · simp only [aP,if_false,aG]
        cases AQ met (l.cT++l.Global)[k].aS with
        | none=>rfl
        | some m=>simp only [aK5,QY,A4];rw [aN (by omega) (by omega)];rfl
      · rfl
    have hst:lW l ((k:Int),met)=lV (k:Int) met (l.cT++l.Global)[k] (decide (k < 9∧2 < (l.cT++l.Global)[k].aS.length)):=by
      simp only [lW]
      rw [if_pos (by simp;simp at hk';omega),aV hk']
      simp only [aG]
      by_cases h9:k < 9
      · rw [if_pos (by simp;omega)]
        congr 1
        rw [Bool.eq_iff_iff];simp only [decide_eq_true_eq];omega
      · rw [if_neg (by simp;omega),bP (by omega)]
    rw [hin] at hst
    by_cases h2:k < 9∧2 < (l.cT++l.Global)[k].aS.length
    · rw [bA h2] at hst
      simp only [if_true] at hst
      rw [bU hst,if_neg]
      rintro⟨q,_⟩
      have e:9 - k=(9 - (k+1))+1:=by omega
      rw [hd,e,List.take_succ_cons] at q
      have:=q _ List.mem_cons_self
      omega
    · rw [bP h2] at hst
      simp only [aP,if_false] at hst
      have hcond:aAK (((l.cT++l.Global).drop k).take (9 - k))↔aAK (((l.cT++l.Global).drop (k+1)).take (9 - (k+1))):=by
        unfold aAK
        by_cases h9:k < 9
        · have e:9 - k=(9 - (k+1))+1:=by omega
          rw [hd,e,List.take_succ_cons,List.forall_mem_cons]
          exact⟨fun q=>q.2,fun q=>⟨by omega,q⟩⟩
        · have e:9 - k=0:=by omega
          have e':9 - (k+1)=0:=by omega
          rw [e,e'];simp
      rw [hf,X7]
      cases hg:AQ met (l.cT++l.Global)[k].aS with
      | none =>
        rw [hg] at hst
        rw [bU hst,if_neg (by simp)]
      | some m =>
        rw [hg] at hst
        rw [bV hst,ih (k+1) m (by omega) (by rw [aJM hg];exact hm)]
        simp only [aG,hcond]
theorem RK{l:aD}(h:(dM l).length≤1073741824):kQ l=some (decide (LOk l)):=by
  unfold kQ tH
  by_cases hg:l.Global.length=3
  · by_cases ho:l.cT.length=9
    · have n1:((l.Global.length:Int) != 3)=false:=by simp;omega
      have n2:((l.cT.length:Int) != 9)=false:=by simp;omega
      simp only [n1,n2,aP,if_false]
      rw [aQ (by omega)]
      have hsl:∀s∈l.cT++l.Global,s.aS.length≤maxLen:=by
        intro s hm
        have hsum:(dA l.Global).length+(dA l.cT).length≤1073741824:=by simpa [dM] using h
        have hb:(1073741824:Nat)≤maxLen:=by simp [maxLen]
        rcases List.mem_append.1 hm with hm | hm
        · obtain⟨k,hk,rfl⟩:=List.mem_iff_getElem.1 hm
          have:=TN l.cT hk;omega
        · obtain⟨k,hk,rfl⟩:=List.mem_iff_getElem.1 hm
          have:=TN l.Global hk;omega
      have key:=a6D ho (by simp;omega) hsl (l.cT++l.Global).length 0 [false,false,false,false,false,false,false,false,false,false,false,false,false,false,false,false,false,false,false,false,false,false,false,false] (by omega) rfl
      rw [show((0:Nat):Int)=0 from rfl,List.drop_zero,Nat.sub_zero] at key
      rw [key]
      have et:(l.cT++l.Global).take 9=l.cT:=by rw [←ho];simp
      have ef:dA (l.cT++l.Global)=dA l.cT++dA l.Global:=by simp [dA]
      have hm0:∀j:Nat,j < 24→[false,false,false,false,false,false,false,false,false,false,false,false,false,false,false,false,false,false,false,false,false,false,false,false].getD j true=false:=by decide
      have hiff:LOk l↔aAK ((l.cT++l.Global).take 9)∧(AQ [false,false,false,false,false,false,false,false,false,false,false,false,false,false,false,false,false,false,false,false,false,false,false,false] (dA (l.cT++l.Global))).isSome=true:=by
        rw [WW _ _ rfl,et,ef]
        have hp:(dA l.cT++dA l.Global).Perm (dM l):=List.perm_append_comm
        constructor
        · rintro⟨_,_,q1,q2,q3⟩
          exact⟨q1,fun x hx=>q2 x (hp.mem_iff.1 hx),hp.nodup_iff.2 q3,fun x hx=>hm0 _ (by have:=q2 x (hp.mem_iff.1 hx);omega)⟩
        · rintro⟨q1,q2,q3,_⟩
          exact⟨hg,ho,q1,fun x hx=>q2 x (hp.mem_iff.2 hx),hp.nodup_iff.1 q3⟩
      by_cases q:LOk l
      · rw [if_pos (hiff.1 q),bA q];rfl
      · rw [if_neg (fun x=>q (hiff.2 x)),bP q];rfl
    · have n1:((l.Global.length:Int) != 3)=false:=by simp;omega
      have n2:((l.cT.length:Int) != 9)=true:=by simp;omega
      simp only [n1,n2,aP,if_false,if_true]
      rw [bP (fun q:LOk l=>ho q.2.1)]
  · have n1:((l.Global.length:Int) != 3)=true:=by simp;omega
    simp only [n1,if_true]
    rw [bP (fun q:LOk l=>hg q.1)]
end Go.Gv
end
noncomputable section
namespace Go.Gv
def EK(h:aE)(l:List Int)(c:Int):Prop:=∀x∈l,aX h x=c∧iI h x≤6
instance (h:aE) (l:List Int) (c:Int):Decidable (EK h l c):=by unfold EK;infer_instance
theorem O2{h:aE}(hs:fZ h){l:List Int}(hl:l.length≤maxLen){c:Int}(hc:0≤c):z9 h l c=some (decide (EK h l c)):=by
  unfold z9
  have key:loop (m6 h l c) 0=some (if ∀x∈l,aX h x=c∧iI h x≤6 then Out.brk () else Out.ret false):=by
    have hst:∀k (hk:k < l.length),m6 h l c (k:Int)=if aX h l[k]=c∧iI h l[k]≤6 then some (.next ((k+1:Nat):Int)) else some (.stop (Out.ret false)):=by
      intro k hk
      simp only [m6]
      rw [if_pos (by simp;omega),aV hk]
      generalize l[k]=x
      simp only [aG,i9 hs,xY]
      by_cases q:aX h x=c
      · have n1:(aX h x != c)=false:=by simp only [bne_eq_false_iff_eq];exact q
        simp only [n1,aP,if_false,pX hs (show 0≤aX h x by omega),aG,i5 (nU hk hl)]
        by_cases q2:iI h x≤6
        · rw [if_neg (by simp;omega),if_pos ⟨q,q2⟩]
        · rw [if_pos (by simp;omega),if_neg (fun x=>q2 x.2)]
      · have n1:(aX h x != c)=true:=by simp only [bne_iff_ne];exact q
        simp only [n1,if_true]
        rw [if_neg (fun x=>q x.1)]
    refine jO (f:=m6 h l c) l (fun k=>(k:Int)) (fun x=>aX h x=c∧iI h x≤6) _ _ (fun k hk hp=>?_) (fun k hk hp=>?_) ?_
    · rw [hst k hk,if_pos hp]
    · rw [hst k hk,if_neg hp]
    · simp [m6]
  rw [key]
  by_cases q:∀x∈l,aX h x=c∧iI h x≤6
  · rw [if_pos q,bA (show EK h l c from q)];rfl
  · rw [if_neg q,bP (show ¬EK h l c from q)];rfl
theorem O3{h:aE}(hs:fZ h){s:aR}(hl:s.aS.length≤maxLen){c:Int}(hc:0≤c):zR h s c=some (decide (EK h s.aS c)):=by
  unfold zR
  have key:loop (m3 h s c) 0=some (if ∀x∈s.aS,aX h x=c∧iI h x≤6 then Out.brk () else Out.ret false):=by
    have hst:∀k (hk:k < s.aS.length),m3 h s c (k:Int)=if aX h s.aS[k]=c∧iI h s.aS[k]≤6 then some (.next ((k+1:Nat):Int)) else some (.stop (Out.ret false)):=by
      intro k hk
      simp only [m3]
      rw [if_pos (by simp;omega),aV hk]
      generalize s.aS[k]=x
      simp only [aG,l8 hs,xL]
      by_cases q:aX h x=c
      · have n1:(aX h x != c)=false:=by simp only [bne_eq_false_iff_eq];exact q
        simp only [n1,aP,if_false,GV hs (show 0≤aX h x by omega),aG,i5 (nU hk hl)]
        by_cases q2:iI h x≤6
        · rw [if_neg (by simp;omega),if_pos ⟨q,q2⟩]
        · rw [if_pos (by simp;omega),if_neg (fun x=>q2 x.2)]
      · have n1:(aX h x != c)=true:=by simp only [bne_iff_ne];exact q
        simp only [n1,if_true]
        rw [if_neg (fun x=>q x.1)]
    refine jO (f:=m3 h s c) s.aS (fun k=>(k:Int)) (fun x=>aX h x=c∧iI h x≤6) _ _ (fun k hk hp=>?_) (fun k hk hp=>?_) ?_
    · rw [hst k hk,if_pos hp]
    · rw [hst k hk,if_neg hp]
    · simp [m3]
  rw [key]
  by_cases q:∀x∈s.aS,aX h x=c∧iI h x≤6
  · rw [if_pos q,bA (show EK h s.aS c from q)];rfl
  · rw [if_neg q,bP (show ¬EK h s.aS c from q)];rfl
def d4(l:List aR)(k:Nat):List Int:=(l.getD k ⟨[]⟩).aS
theorem dV{l:List aR}{k:Nat}(h:k < l.length):l[k].aS=d4 l k:=by
  unfold d4;rw [List.getD_eq_getElem?_getD,List.getElem?_eq_getElem h];rfl
def LL(m:Mem)(k:Nat):Prop:=EK m.aE (d4 m.aD.Global k) (k:Int)
def EL(m:Mem)(k:Nat):Prop:=EK m.aE (d4 m.aD.cT k) ((k % 3:Nat):Int)
instance (m:Mem) (k:Nat):Decidable (LL m k):=by unfold LL;infer_instance
instance (m:Mem) (k:Nat):Decidable (EL m k):=by unfold EL;infer_instance
instance (m:Mem):Decidable (∀k,k < 3→LL m k):=Nat.decidableBallLT 3 fun k _=>LL m k
instance (m:Mem):Decidable (∀k,k < 9→EL m k):=Nat.decidableBallLT 9 fun k _=>EL m k
instance (m:Mem) (c:Nat):Decidable (∀w,w < 3→EL m (w * 3+c)):=Nat.decidableBallLT 3 fun w _=>EL m (w * 3+c)
instance (m:Mem):Decidable (∀k,k < 3→LL m k∧∀w,w < 3→EL m (w * 3+k)):=Nat.decidableBallLT 3 fun k _=>LL m k∧∀w,w < 3→EL m (w * 3+k)
def mW(m:Mem):Prop:=(VU m.aE∧LOk m.aD)∧(∀k,k < 3→LL m k)∧∀k,k < 9→EL m k
instance (m:Mem):Decidable (mW m):=by unfold mW;infer_instance
theorem LOk.VW{l:aD}(h:LOk l)(hb:(dM l).length≤1073741824):(∀s∈l.Global,s.aS.length≤1073741824)∧∀s∈l.cT,s.aS.length≤1073741824:=by
  have hsum:(dA l.Global).length+(dA l.cT).length≤1073741824:=by simpa [dM] using hb
  constructor
  · intro s hm
    obtain⟨k,hk,rfl⟩:=List.mem_iff_getElem.1 hm
    have:=TN l.Global hk;omega
  · intro s hm
    obtain⟨k,hk,rfl⟩:=List.mem_iff_getElem.1 hm
    have:=TN l.cT hk;omega
theorem aR8{m:Mem}:(∀k,k < 3→LL m k∧∀w,w < 3→EL m (w * 3+k))↔(∀k,k < 3→LL m k)∧∀k,k < 9→EL m k:=by
  constructor
  · intro h
    refine⟨fun k hk=>(h k hk).1,fun k hk=>?_⟩
    have:=(h (k % 3) (by omega)).2 (k / 3) (by omega)
    have e:k / 3 * 3+k % 3=k:=by omega
    rwa [e] at this
  · rintro⟨h1,h2⟩ k hk
    exact⟨h1 k hk,fun w hw=>h2 _ (by omega)⟩
theorem NM{m:Mem}(hb:m.aE.Bytes.length≤maxLen)(hl:(dM m.aD).length≤1073741824):KE m=some (decide (mW m)):=by
  unfold KE GH
  rw [aFQ hb,aB0 hl]
  by_cases h1:VU m.aE
  · by_cases h2:LOk m.aD
    · have hmx:(1073741824:Nat)≤maxLen:=by simp [maxLen]
      have hsl:=LOk.VW h2 hl
      simp only [bA h1,bA h2,aG,dT,aP,if_false]
      have k3:∀c:Nat,c < 3→loop (AB m (c:Int)) 0=some (if ∀w,w < 3→EL m (w * 3+c) then Out.brk () else Out.ret false):=by
        intro c hc
        have hst:∀w:Nat,w < 3→AB m (c:Int) (w:Int)=if EL m (w * 3+c) then some (.next ((w+1:Nat):Int)) else some (.stop (Out.ret false)):=by
          intro w hw
          have hk:w * 3+c < m.aD.cT.length:=by rw [h2.2.1];omega
          have e:wM (w:Int) (c:Int)=some ((w * 3+c:Nat):Int):=by
            unfold wM AA
            rw [cE,cE,bA (by omega),bA (by omega)]
            simp only [aG,dT,aP,if_false]
            rw [aN (x:=(w:Int) * 3) (by omega) (by omega),aN (by omega) (by omega)];rfl
          have hlen:=hsl.2 _ (List.getElem_mem hk)
          simp only [AB]
          rw [if_pos (by simp;omega),e]
          simp only [aG,aV hk]
          rw [O2 h1.1 (by omega) (by omega),dV hk]
          have em:(w * 3+c) % 3=c:=by omega
          have ho:EL m (w * 3+c)↔EK m.aE (d4 m.aD.cT (w * 3+c)) (c:Int):=by unfold EL;rw [em]
          rw [aN (by omega) (by omega)]
          by_cases q:EL m (w * 3+c)
          · rw [if_pos q,bA (ho.1 q)];rfl
          · rw [if_neg q,bP (fun x=>q (ho.2 x))];rfl
        refine wZ (f:=AB m (c:Int)) 3 (fun k=>(k:Int)) (fun w=>EL m (w * 3+c)) _ _ (fun k hk hx=>?_) (fun k hk hx=>?_) ?_
        · rw [hst k hk,if_pos hx]
        · rw [hst k hk,if_neg hx]
        · rfl
      have k2:loop (AD m) 0=some (if ∀k,k < 3→LL m k∧∀w,w < 3→EL m (w * 3+k) then Out.brk () else Out.ret false):=by
        have hst:∀c:Nat,c < 3→AD m (c:Int)=if LL m c∧∀w,w < 3→EL m (w * 3+c) then some (.next ((c+1:Nat):Int)) else some (.stop (Out.ret false)):=by
          intro c hc
          have hk:c < m.aD.Global.length:=by rw [h2.1];omega
          have hlen:=hsl.1 _ (List.getElem_mem hk)
          simp only [AD]
          rw [if_pos (by simp;omega)]
          simp only [aG,aV hk]
          rw [O2 h1.1 (by omega) (by omega),dV hk,k3 c hc]
          by_cases q:LL m c
          · have q':EK m.aE (d4 m.aD.Global c) (c:Int):=q
            rw [bA q']
            simp only [aG,dT,aP,if_false]
            by_cases q2:∀w,w < 3→EL m (w * 3+c)
            · rw [if_pos q2,if_pos ⟨q,q2⟩]
              simp only [VG,VF]
              rw [aN (by omega) (by omega)];rfl
            · rw [if_neg q2,if_neg (fun x=>q2 x.2)];rfl
          · have q':¬EK m.aE (d4 m.aD.Global c) (c:Int):=q
            rw [bP q',if_neg (fun x:LL m c∧_=>q x.1)];rfl
        refine wZ (f:=AD m) 3 (fun k=>(k:Int)) (fun k=>LL m k∧∀w,w < 3→EL m (w * 3+k)) _ _ (fun k hk hx=>?_) (fun k hk hx=>?_) ?_
        · rw [hst k hk,if_pos hx]
        · rw [hst k hk,if_neg hx]
        · rfl
      rw [k2]
      by_cases q:∀k,k < 3→LL m k∧∀w,w < 3→EL m (w * 3+k)
      · rw [if_pos q,bA (show mW m from ⟨⟨h1,h2⟩,aR8.1 q⟩)];rfl
      · rw [if_neg q,bP (fun x:mW m=>q (aR8.2 x.2))];rfl
    · rw [bP (fun q:mW m=>h2 q.1.2),bA h1,bP h2];rfl
  · rw [bP (fun q:mW m=>h1 q.1.1),bP h1];rfl
theorem VX{m:Mem}(hb:m.aE.Bytes.length≤maxLen)(hl:(dM m.aD).length≤1073741824):J5 m=some (decide (mW m)):=by
  unfold J5 F7
  rw [KR hb,RK hl]
  by_cases h1:VU m.aE
  · by_cases h2:LOk m.aD
    · have hmx:(1073741824:Nat)≤maxLen:=by simp [maxLen]
      have hsl:=LOk.VW h2 hl
      simp only [bA h1,bA h2,aG,dT,aP,if_false]
      have k3:loop (uE m) 0=some (if ∀k,k < 9→EL m k then Out.brk () else Out.ret false):=by
        have hst:∀w:Nat,w < 9→uE m (w:Int)=if EL m w then some (.next ((w+1:Nat):Int)) else some (.stop (Out.ret false)):=by
          intro w hw
          have hk:w < m.aD.cT.length:=by rw [h2.2.1];omega
          have hlen:=hsl.2 _ (List.getElem_mem hk)
          have em:Int.tmod (w:Int) 3=((w % 3:Nat):Int):=by rw [jX (by omega)];omega
          simp only [uE]
          rw [if_pos (by simp;omega)]
          simp only [aG,aV hk,em]
          rw [O3 h1.1 (by omega) (by omega),dV hk,aN (by omega) (by omega)]
          by_cases q:EL m w
          · rw [if_pos q,bA (show EK m.aE (d4 m.aD.cT w) ((w % 3:Nat):Int) from q)];rfl
          · rw [if_neg q,bP (show ¬EK m.aE (d4 m.aD.cT w) ((w % 3:Nat):Int) from q)];rfl
        refine wZ (f:=uE m) 9 (fun k=>(k:Int)) (fun w=>EL m w) _ _ (fun k hk hx=>?_) (fun k hk hx=>?_) ?_
        · rw [hst k hk,if_pos hx]
        · rw [hst k hk,if_neg hx]
        · simp [uE,h2.2.1]
      have k2:loop (uF m) 0=some (if ∀k,k < 3→LL m k then Out.brk () else Out.ret false):=by
        have hst:∀w:Nat,w < 3→uF m (w:Int)=if LL m w then some (.next ((w+1:Nat):Int)) else some (.stop (Out.ret false)):=by
          intro w hw
          have hk:w < m.aD.Global.length:=by rw [h2.1];omega
          have hlen:=hsl.1 _ (List.getElem_mem hk)
          simp only [uF]
          rw [if_pos (by simp;omega)]
          simp only [aG,aV hk]
          rw [O3 h1.1 (by omega) (by omega),dV hk,aN (by omega) (by omega)]
          by_cases q:LL m w
          · rw [if_pos q,bA (show EK m.aE (d4 m.aD.Global w) (w:Int) from q)];rfl
          · rw [if_neg q,bP (show ¬EK m.aE (d4 m.aD.Global w) (w:Int) from q)];rfl
        refine wZ (f:=uF m) 3 (fun k=>(k:Int)) (fun w=>LL m w) _ _ (fun k hk hx=>?_) (fun k hk hx=>?_) ?_
        · rw [hst k hk,if_pos hx]
        · rw [hst k hk,if_neg hx]
        · simp [uF,h2.1]
      rw [k2]
      by_cases q:∀k,k < 3→LL m k
      · rw [if_pos q]
        simp only [aG,VC,VB]
        rw [k3]
        by_cases q2:∀k,k < 9→EL m k
        · rw [if_pos q2,bA (show mW m from ⟨⟨h1,h2⟩,q,q2⟩)];rfl
        · rw [if_neg q2,bP (fun x:mW m=>q2 x.2.2)];rfl
      · rw [if_neg q,bP (fun x:mW m=>q x.2.1)];rfl
    · rw [bP (fun q:mW m=>h2 q.1.2),bA h1,bP h2];rfl
  · rw [bP (fun q:mW m=>h1 q.1.1),bP h1];rfl
end Go.Gv
end
noncomputable section
namespace Go.Gv
theorem AR{l:List aR}{s:aR}(h:s∈l):s.aS.length≤(dA l).length:=by
  obtain⟨k,hk,rfl⟩:=List.mem_iff_getElem.1 h
  exact TN l hk
theorem pL(l:aD):(dM l).length=(dA l.Global).length+(dA l.cT).length:=by simp [dM]
def sY(m:Mem):Prop:=m.aE.Bytes.length≤1048576∧m.aE.Class.length≤1048576∧m.aD.Global.length≤1048576∧m.aD.cT.length≤1048576∧(dM m.aD).length≤1048576
theorem sY.VW{m:Mem}(h:sY m):(∀s∈m.aD.Global,s.aS.length≤1048576)∧∀s∈m.aD.cT,s.aS.length≤1048576:=by
  have:=pL m.aD
  have h5:=h.2.2.2.2
  exact⟨fun s hm=>by have:=AR hm;omega,fun s hm=>by have:=AR hm;omega⟩
end Go.Gv
end
noncomputable section
namespace Go.Gv
def POk(e:Int)(p:qA):Prop:=(0≤p.aJ∧p.aJ≤e)∧(0≤p.Seen∧p.Seen≤2)∧(p.On=false→p=⟨false,0,false,0⟩)
instance (e:Int) (p:qA):Decidable (POk e p):=by unfold POk;infer_instance
def JX(c:aC):Prop:=(0≤c.aJ∧c.aJ≤100000)∧c.cK.length=3∧∀p∈c.cK,POk c.aJ p
instance (c:aC):Decidable (JX c):=by unfold JX;infer_instance
theorem jA(c:aC):pJ c=some (decide (JX c)):=by
  unfold pJ
  rw [cE]
  by_cases h1:0≤c.aJ∧c.aJ≤100000
  · by_cases h2:c.cK.length=3
    · simp only [aG,h1,h2,oH]
      have key:∀k:Nat,k≤3→loop (tQ c) (k:Int)=some (if ∀p∈c.cK.drop k,POk c.aJ p then Out.brk () else Out.ret false):=by
        refine aJ8 3 _ fun k hk=>?_
        by_cases h3:k < 3
        · have hd:c.cK.drop k=c.cK[k] :: c.cK.drop (k+1):=List.drop_eq_getElem_cons (by omega)
          simp only [tQ]
          rw [if_pos (by simp;omega),aV (by omega)]
          simp only [aG,cE,l5,hd]
          rw [i5 (by simp [maxLen];omega)]
          generalize c.cK[k]=p
          have hp:POk c.aJ p↔decide (0≤p.aJ∧p.aJ≤c.aJ)=true∧decide (0≤p.Seen∧p.Seen≤2)=true∧(p.On=false→decide (p=⟨false,0,false,0⟩)=true):=by simp only [POk,decide_eq_true_eq]
          simp only [List.forall_mem_cons,hp]
          generalize decide (0≤p.aJ∧p.aJ≤c.aJ)=b1
          generalize decide (0≤p.Seen∧p.Seen≤2)=b2
          generalize decide (p=⟨false,0,false,0⟩)=b3
          generalize p.On=b4
          cases b1 <;> cases b2 <;> cases b3 <;> cases b4 <;> simp [h3]
        · left
          obtain rfl:k=3:=by omega
          simp [tQ,List.drop_eq_nil_of_le (show c.cK.length≤3 by omega)]
      have:=key 0 (by omega)
      simp only [Int.ofNat_zero,List.drop_zero] at this
      have e:decide (JX c)=if ∀p∈c.cK,POk c.aJ p then true else false:=by
        have:JX c↔∀p∈c.cK,POk c.aJ p:=⟨fun h=>h.2.2,fun h=>⟨h1,h2,h⟩⟩
        simp [this]
      rw [e]
      simp only [Int.cast_ofNat_Int] at *
      have t0:loop (tQ c) 0=_:=this
      by_cases h5:∀p∈c.cK,POk c.aJ p
      · rw [if_pos h5] at t0 ⊢;rw [t0];simp [HY,Q7]
      · rw [if_neg h5] at t0 ⊢;rw [t0];simp [HY]
    · simp [h1,h2,oH,JX]
      omega
  · simp [h1,oH,JX]
theorem aNG(p:qA)(c:aC):vY p c=some (!decide (POk c.aJ p)):=by
  unfold vY lL
  rw [eG,eG]
  have hp:decide (POk c.aJ p)=(decide (0≤p.aJ∧p.aJ≤c.aJ) && (decide (0≤p.Seen∧p.Seen≤2) && (p.On || decide (p=⟨false,0,false,0⟩)))):=by
    rw [Bool.eq_iff_iff];simp only [POk,decide_eq_true_eq,Bool.and_eq_true,Bool.or_eq_true]
    by_cases h:p.On=true
    · simp [h]
    · simp [(by simpa using h:p.On=false)]
  rw [hp]
  generalize decide (0≤p.aJ∧p.aJ≤c.aJ)=b1
  generalize decide (0≤p.Seen∧p.Seen≤2)=b2
  generalize decide (p=⟨false,0,false,0⟩)=b3
  generalize p.On=b4
  cases b1 <;> cases b2 <;> cases b3 <;> cases b4 <;> rfl
theorem aK7{l:List qA}(hl:l.length≤maxLen)(f:qA→Bool):lK l (fun x=>some (f x))=some (l.any f):=by
  unfold lK vX
  have key:∀k:Nat,k≤l.length→loop (jG l (fun x=>some (f x))) (k:Int)=some (if (l.drop k).any f then Out.ret ((k+(l.drop k).findIdx f:Nat):Int) else Out.brk ()):=by
    refine aJ8 l.length _ fun k hk=>?_
    by_cases h3:k < l.length
    · have hd:l.drop k=l[k] :: l.drop (k+1):=List.drop_eq_getElem_cons h3
      simp only [jG]
      rw [if_pos (by simp;omega),aV h3,i5 (nU h3 hl),hd]
      simp only [aG,List.any_cons,List.findIdx_cons]
      by_cases h4:f l[k]=true
      · left;simp [h4]
      · right
        have h4:f l[k]=false:=by simpa using h4
        refine⟨h3,by simp [h4],?_⟩
        simp only [h4,Bool.false_or,cond_false]
        congr 2;omega
    · left
      obtain rfl:k=l.length:=by omega
      simp [jG]
  have t0:loop (jG l (fun x=>some (f x))) 0=_:=key 0 (by omega)
  rw [t0]
  simp only [List.drop_zero]
  by_cases h:l.any f=true
  · simp [h,qY]
  · have h:l.any f=false:=by simpa using h
    simp [h,qY,CF]
theorem tX{c:aC}(hc:c.cK.length≤maxLen):pB c=some (decide (JX c)):=by
  unfold pB tI
  rw [eG]
  have e:(fun y0=>vY y0 c)=fun y0=>some (!decide (POk c.aJ y0)):=funext fun y=>aNG y c
  rw [e,aK7 hc]
  by_cases h1:0≤c.aJ∧c.aJ≤100000
  · by_cases h2:c.cK.length=3
    · have:JX c↔∀p∈c.cK,POk c.aJ p:=⟨fun h=>h.2.2,fun h=>⟨h1,h2,h⟩⟩
      have e2:(c.cK.any fun y0=>!decide (POk c.aJ y0))=!decide (∀p∈c.cK,POk c.aJ p):=by
        rw [Bool.eq_iff_iff];simp
      simp [h1,h2,this,e2]
    · have:¬(c.cK.length:Int)=3:=by omega
      simp [h1,this,h2,JX]
  · simp [h1,JX]
end Go.Gv
end
noncomputable section
namespace Go.Gv
def bH(l:List bB):List dO:=l.flatMap bB.Rows
theorem KS{l:List bB}{k:Nat}(h:k < l.length):bH (l.take (k+1))=bH (l.take k)++l[k].Rows:=by
  unfold bH
  rw [List.take_succ_eq_append_getElem h,List.flatMap_append];simp
theorem aFR(l:List bB)(k:Nat):(bH (l.take k)).length≤(bH l).length:=by
  have:bH l=bH (l.take k)++bH (l.drop k):=by
    unfold bH;rw [←List.flatMap_append,List.take_append_drop]
  rw [this];simp
theorem aS7(l:List bB){k:Nat}(h:k < l.length):l[k].Rows.length≤(bH l).length:=by
  have h1:=aFR l (k+1)
  rw [KS h] at h1
  simp at h1;omega
theorem O4{l:List bB}{s:bB}(h:s∈l):s.Rows.length≤(bH l).length:=by
  obtain⟨k,hk,rfl⟩:=List.mem_iff_getElem.1 h
  exact aS7 l hk
theorem EM{l:List bB}(h:(bH l).length≤1073741824)(hl:l.length≤maxLen):wF l=some (bH l):=by
  unfold wF
  have k1:loop (wE l) ([],0)=some (bH l):=by
    refine iQ (f:=wE l) l.length (fun k=>(bH (l.take k),(k:Int))) _ (fun k hk=>?_) ?_
    · have h1:=aFR l (k+1)
      rw [KS hk] at h1
      simp only [wE]
      rw [if_pos (by simp;omega),aV hk]
      simp only [aG]
      rw [aQ (by simp at h1;omega),KS hk,i5 (nU hk hl)]
    · simp [wE]
  rw [k1];rfl
def j7(h:Int):Prop:=(32≤h∧h≤223)∧h % 32 < 24
instance (h:Int):Decidable (j7 h):=by unfold j7;infer_instance
theorem eM(h:Int):iC h=some (decide (j7 h)):=by
  unfold iC xZ j7
  rw [cE]
  by_cases q:32≤h∧h≤223
  · simp [q,jX (show 0≤h by omega)]
  · simp [q]
theorem jP(h:Int):iB h=some (decide (j7 h)):=by
  unfold iB m4 j7
  rw [eG]
  by_cases q:32≤h∧h≤223
  · simp [q,jX (show 0≤h by omega)]
  · simp [q]
theorem j7.mod{h:Int}(q:j7 h):Int.tmod h 32=h % 32∧0≤h % 32∧h % 32≤23:=by
  unfold j7 at q
  exact⟨jX (by omega),by omega,by omega⟩
theorem dR(h:Int):fN h=some (if j7 h then h % 32 else -1):=by
  unfold fN
  rw [eM]
  by_cases q:j7 h
  · simp [q,q.mod.1]
  · simp [q]
def AS(r:dO):Prop:=j7 r.Handle∧0≤r.aJ∧r.aJ≤100000
instance (r:dO):Decidable (AS r):=by unfold AS;infer_instance
def lQ(r:dO):Int:=r.Handle % 32
def pM(l:List bB):Prop:=l.length=3∧(bH l).length≤24∧(∀r∈bH l,AS r)∧((bH l).map lQ).Nodup
instance (l:List bB):Decidable (pM l):=by unfold pM;infer_instance
def rowAt(l:List dO)(k:Nat):dO:=l.getD k ⟨0,0⟩
theorem UT{l:List dO}{k:Nat}(h:k < l.length):rowAt l k=l[k]:=by
  unfold rowAt;rw [List.getD_eq_getElem?_getD,List.getElem?_eq_getElem h];rfl
theorem aB1{l:List bB}(h:(bH l).length≤1073741824)(hl:l.length≤maxLen):I9 l=some (decide (pM l)):=by
  unfold I9 BI
  rw [EM h hl]
  simp only [aG]
  by_cases h3:l.length=3
  · have n1:((l.length:Int) != 3)=false:=by simp;omega
    simp only [n1,aP,if_false]
    by_cases h24:(bH l).length≤24
    · rw [if_neg (by simp;omega)]
      have hst:∀k,k < (bH l).length→tS (bH l) (((bH l).take k).map lQ,(k:Int))=if AS (rowAt (bH l) k)∧lQ (rowAt (bH l) k)∉((bH l).take k).map lQ then some (.next (((bH l).take (k+1)).map lQ,((k+1:Nat):Int))) else some (.stop (Out.ret false)):=by
        intro k hk
        simp only [tS,tR]
        rw [if_pos (by simp;omega),aV hk,UT hk]
        simp only [aG,dR,cE]
        by_cases q:j7 (bH l)[k].Handle
        · have hm:=q.mod
          rw [if_pos q,if_neg (by simp;omega)]
          by_cases q2:0≤(bH l)[k].aJ∧(bH l)[k].aJ≤100000
          · rw [bA q2]
            simp only [dT,aP,if_false]
            rw [NJ (by simp [maxLen];omega)]
            simp only [aG]
            by_cases q3:(bH l)[k].Handle % 32∈((bH l).take k).map lQ
            · rw [bA q3];simp only [if_true];rw [if_neg (show ¬(AS (bH l)[k]∧lQ (bH l)[k]∉((bH l).take k).map lQ) from fun x=>x.2 q3)]
            · rw [bP q3]
              simp only [aP,if_false]
              rw [if_pos (show AS (bH l)[k]∧lQ (bH l)[k]∉((bH l).take k).map lQ from ⟨⟨q,q2⟩,q3⟩),aQ (by simp;omega),aN (by omega) (by omega),map_take _ hk];rfl
          · rw [bP q2]
            simp only [iF,if_true]
            rw [if_neg (fun x:AS _∧_=>q2 x.1.2)]
        · rw [if_neg q,if_pos (by simp),if_neg (fun x:AS _∧_=>q x.1.1)];rfl
      have key:=wZ (f:=tS (bH l)) (bH l).length (fun k=>(((bH l).take k).map lQ,(k:Int))) (fun k=>AS (rowAt (bH l) k)∧lQ (rowAt (bH l) k)∉((bH l).take k).map lQ) (Out.brk ()) (Out.ret false) (fun k hk hx=>by rw [hst k hk,if_pos hx]) (fun k hk hx=>by rw [hst k hk,if_neg hx]) (by simp [tS])
      rw [List.take_zero,List.map_nil,show((0:Nat):Int)=0 from rfl] at key
      rw [key]
      have hiff:pM l↔∀k,k < (bH l).length→AS (rowAt (bH l) k)∧lQ (rowAt (bH l) k)∉((bH l).take k).map lQ:=by
        constructor
        · rintro⟨_,_,q1,q2⟩ k hk
          rw [UT hk]
          refine⟨q1 _ (List.getElem_mem hk),?_⟩
          have:=(QB _).1 q2 k (by simpa using hk)
          rw [List.getElem_map,←List.map_take] at this
          exact this
        · intro q
          refine⟨h3,h24,fun x hx=>?_,(QB _).2 fun k hk=>?_⟩
          · obtain⟨k,hk,rfl⟩:=List.mem_iff_getElem.1 hx
            have:=(q k hk).1;rw [UT hk] at this;exact this
          · have hk':k < (bH l).length:=by simpa using hk
            have:=(q k hk').2;rw [UT hk'] at this
            rw [List.getElem_map,←List.map_take];exact this
      by_cases q:pM l
      · rw [if_pos (hiff.1 q),bA q];rfl
      · rw [if_neg (fun x=>q (hiff.2 x)),bP q];rfl
    · rw [if_pos (by simp;omega),bP (fun q:pM l=>h24 q.2.1)]
  · have n1:((l.length:Int) != 3)=true:=by simp;omega
    simp only [n1,if_true]
    rw [bP (fun q:pM l=>h3 q.1)]
def goR:List Bool→List dO→Option (List Bool)
  | met,[]=>some met
  | met,r :: t=>if AS r∧met.getD (lQ r).toNat true=false then goR (met.set (lQ r).toNat true) t else none
theorem aR9:∀{xs:List dO} {met m:List Bool},goR met xs=some m→m.length=met.length
  | [],met,m,h=>by simp [goR] at h;rw [h]
  | x :: r, met, m, h => by
    simp only [goR] at h
    split at h
    · have:=aR9 h;simpa using this
    · cases h
theorem aFS:∀(a b:List dO) (met:List Bool),goR met (a++b)=(goR met a).bind fun m=>goR m b
  | [],b,met=>rfl
  | x :: r, b, met => by
    simp only [List.cons_append,goR]
    split
    · exact aFS r b _
    · rfl
theorem aNH:∀(xs:List dO) (met:List Bool),(goR met xs).isSome=true↔(∀r∈xs,AS r)∧(AQ met (xs.map lQ)).isSome=true
  | [],met=>by simp [goR,AQ]
  | x :: r, met => by
    simp only [goR,List.map_cons,AQ]
    by_cases h:AS x
    · have hm:=h.1.mod
      have hs:0≤lQ x∧lQ x≤23:=hm.2
      by_cases h2:met.getD (lQ x).toNat true=false
      · rw [if_pos ⟨h,h2⟩,if_pos ⟨hs,h2⟩,aNH r _]
        simp [h]
      · rw [if_neg (fun q=>h2 q.2),if_neg (fun q=>h2 q.2)];simp
    · rw [if_neg (fun q=>h q.1)]
      constructor
      · intro q;cases q
      · rintro⟨q,_⟩;exact(h (q x List.mem_cons_self)).elim
theorem aS8{s:bB}(hl:s.Rows.length≤maxLen):∀d k (met:List Bool),k+d=s.Rows.length→met.length=24→loop (lX s) ((k:Int),met)=some (aK5 (goR met (s.Rows.drop k))):=by
  intro d
  induction d with
  | zero =>
    intro k met hk hm
    rw [bU (r:=Out.brk met) (by simp [lX];omega),List.drop_eq_nil_of_le (by omega)];rfl
  | succ d ih =>
    intro k met hk hm
    have hk':k < s.Rows.length:=by omega
    have hd:s.Rows.drop k=s.Rows[k] :: s.Rows.drop (k+1):=List.drop_eq_getElem_cons hk'
    have hst:lX s ((k:Int),met)=if AS s.Rows[k]∧met.getD (lQ s.Rows[k]).toNat true=false then some (.next (((k+1:Nat):Int),met.set (lQ s.Rows[k]).toNat true)) else some (.stop (Out.ret false)):=by
      simp only [lX]
      rw [if_pos (by simp;omega),aV hk']
      simp only [aG,jP,eG]
      generalize s.Rows[k]=x
      by_cases q:j7 x.Handle
      · by_cases q2:0≤x.aJ∧x.aJ≤100000
        · have hm2:=q.mod
          obtain⟨j,hj0⟩:=Int.eq_ofNat_of_zero_le hm2.2.1
          have hj:j < met.length:=by omega
          have e:met.getD j true=met[j]:=by rw [List.getD_eq_getElem?_getD,List.getElem?_eq_getElem hj];rfl
          have hr:AS x:=⟨q,q2⟩
          simp only [q,q2,and_self,decide_true,dT,aP,if_false,j8,hm2.1,hj0,Int.toNat_natCast,hr,true_and,lQ,e]
          rw [aQ (by omega),aV hj]
          simp only [aG]
          cases met[j]
          · simp only [aP,if_false,if_true]
            rw [aQ (by omega),i5 (nU hk' hl)]
          · simp
        · rw [bA q,bP q2];simp only [dT,iF,aP,if_false,if_true,j8];rw [if_neg (fun y:AS x∧_=>q2 y.1.2)]
      · rw [bP q];simp only [iF,if_true,j8];rw [if_neg (fun y:AS x∧_=>q y.1.1)]
    rw [hd,goR]
    by_cases q:AS s.Rows[k]∧met.getD (lQ s.Rows[k]).toNat true=false
    · rw [if_pos q] at hst ⊢
      rw [bV hst,ih (k+1) _ (by omega) (by simpa using hm)]
    · rw [if_neg q] at hst ⊢
      rw [bU hst];rfl
theorem aS9{l:List bB}(hn:l.length≤1000)(hs:∀s∈l,s.Rows.length≤maxLen):∀d k (met:List Bool),k+d=l.length→met.length=24 →
    loop (lY l) ((k:Int),met)=some (if (goR met (bH (l.drop k))).isSome=true then Out.brk () else Out.ret false):=by
  intro d
  induction d with
  | zero =>
    intro k met hk hm
    rw [List.drop_eq_nil_of_le (by omega),if_pos (show(goR met (bH [])).isSome=true from rfl)]
    refine bU ?_
    simp only [lY]
    rw [if_neg (by simp;omega)]
  | succ d ih =>
    intro k met hk hm
    have hk':k < l.length:=by omega
    have hd:l.drop k=l[k] :: l.drop (k+1):=List.drop_eq_getElem_cons hk'
    have hsk:=hs _ (List.getElem_mem hk')
    have hf:bH (l.drop k)=l[k].Rows++bH (l.drop (k+1)):=by unfold bH;rw [hd,List.flatMap_cons]
    have h4:=aS8 hsk _ 0 met (Nat.zero_add _) hm
    rw [show((0:Nat):Int)=0 from rfl,List.drop_zero] at h4
    have hst:lY l ((k:Int),met)=(match goR met l[k].Rows with | some m=>some (.next (((k+1:Nat):Int),m)) | none=>some (.stop (Out.ret false))):=by
      simp only [lY]
      rw [if_pos (by simp;omega),aV hk']
      simp only [aG]
      rw [h4]
      cases goR met l[k].Rows with
      | none=>rfl
      | some m=>simp only [aG,aK5,QZ,A7];rw [aN (by omega) (by omega)];rfl
    rw [hf,aFS]
    cases hg:goR met l[k].Rows with
    | none =>
      rw [hg] at hst
      rw [bU hst,if_neg (by simp)]
    | some m =>
      rw [hg] at hst
      rw [bV hst,ih (k+1) m (by omega) (by rw [aR9 hg];exact hm)]
      simp only [aG]
theorem X8{l:List bB}(hn:l.length≤1000)(h:(bH l).length≤1073741824):vZ l=some ((bH l).length:Int):=by
  unfold vZ
  have key:loop (jU l) (0,0)=some ((bH l).length:Int):=by
    refine iQ (f:=jU l) l.length (fun k=>(((bH (l.take k)).length:Int),(k:Int))) _ (fun k hk=>?_) ?_
    · have h1:=aFR l (k+1)
      rw [KS hk,List.length_append] at h1
      simp only [jU]
      rw [if_pos (by simp;omega),aV hk]
      simp only [aG]
      rw [aN (by omega) (by omega),aN (by omega) (by omega),KS hk,List.length_append]
      simp
    · simp [jU]
  rw [key];rfl
theorem BR{l:List bB}(h:(bH l).length≤1073741824):mK l=some (decide (pM l)):=by
  unfold mK
  by_cases h3:l.length=3
  · have n1:((l.length:Int) != 3)=false:=by simp;omega
    have hb:(1073741824:Nat)≤maxLen:=by simp [maxLen]
    simp only [n1,aP,if_false]
    have key:=aS9 (l:=l) (by omega) (fun s hs=>by have:=O4 hs;omega) l.length 0 [false,false,false,false,false,false,false,false,false,false,false,false,false,false,false,false,false,false,false,false,false,false,false,false] (by omega) rfl
    rw [show((0:Nat):Int)=0 from rfl,List.drop_zero] at key
    rw [key]
    have hm0:∀j:Nat,j < 24→[false,false,false,false,false,false,false,false,false,false,false,false,false,false,false,false,false,false,false,false,false,false,false,false].getD j true=false:=by decide
    have hiff:pM l↔(bH l).length≤24∧(goR [false,false,false,false,false,false,false,false,false,false,false,false,false,false,false,false,false,false,false,false,false,false,false,false] (bH l)).isSome=true:=by
      rw [aNH,WW _ _ rfl]
      have hr:(∀r∈bH l,AS r)→∀x∈(bH l).map lQ,0≤x∧x≤23:=by
        intro q x hx
        obtain⟨r,hr,rfl⟩:=List.mem_map.1 hx
        exact(q r hr).1.mod.2
      constructor
      · rintro⟨_,q1,q2,q3⟩
        exact⟨q1,q2,hr q2,q3,fun x hx=>hm0 _ (by have:=hr q2 x hx;omega)⟩
      · rintro⟨q1,q2,_,q3,_⟩
        exact⟨h3,q1,q2,q3⟩
    by_cases q:(goR [false,false,false,false,false,false,false,false,false,false,false,false,false,false,false,false,false,false,false,false,false,false,false,false] (bH l)).isSome=true
    · rw [if_pos q]
      simp only [aG,Q0,A6]
      rw [X8 (by omega) h]
      simp only [aG]
      congr 1
      rw [Bool.eq_iff_iff];simp only [decide_eq_true_eq]
      rw [hiff]
      exact⟨fun a=>⟨by omega,q⟩,fun a=>by omega⟩
    · rw [if_neg q,bP (fun x=>q (hiff.1 x).2)];rfl
  · have n1:((l.length:Int) != 3)=true:=by simp;omega
    simp only [n1,if_true]
    rw [bP (fun q:pM l=>h3 q.1)]
def dC(h:Int):Prop:=h=0∨j7 h
instance (h:Int):Decidable (dC h):=by unfold dC;infer_instance
def JJ(z:List Int):Prop:=z.length=3∧∀h∈z,dC h
instance (z:List Int):Decidable (JJ z):=by unfold JJ;infer_instance
theorem AT{z:List Int}(hl:z.length≤maxLen):FH z=some (decide (JJ z)):=by
  unfold FH
  have hst:∀k (hk:k < z.length),AE z (k:Int)=if dC z[k] then some (.next ((k+1:Nat):Int)) else some (.stop (Out.ret false)):=by
    intro k hk
    simp only [AE,GI]
    rw [if_pos (by simp;omega),aV hk,i5 (nU hk hl)]
    simp only [aG,eM]
    generalize z[k]=x
    by_cases q:x=0
    · have n:(x != 0)=false:=by simp only [bne_eq_false_iff_eq];exact q
      rw [n,if_pos (show dC x from .inl q)];rfl
    · have n:(x != 0)=true:=by simp only [bne_iff_ne];exact q
      by_cases q2:j7 x
      · rw [n,bA q2,if_pos (show dC x from .inr q2)];rfl
      · rw [n,bP q2,if_neg (fun a:dC x=>a.elim q q2)];rfl
  have key:=jO (f:=AE z) z (fun k=>(k:Int)) dC (Out.brk ()) (Out.ret false) (fun k hk hx=>by rw [hst k hk,if_pos hx]) (fun k hk hx=>by rw [hst k hk,if_neg hx]) (by simp [AE])
  rw [show((0:Nat):Int)=0 from rfl] at key
  rw [key]
  by_cases q:∀x∈z,dC x
  · rw [if_pos q]
    have:JJ z↔z.length=3:=⟨fun a=>a.1,fun a=>⟨a,q⟩⟩
    simp only [aG,VI,VH,this]
    congr 1;rw [Bool.eq_iff_iff];simp only [beq_iff_eq,decide_eq_true_eq];omega
  · rw [if_neg q,bP (fun a:JJ z=>q a.2)];rfl
theorem NN{z:List Int}(hl:z.length≤maxLen):FE z=some (decide (JJ z)):=by
  unfold FE F8
  have e:(fun y0=>IN y0)=fun y:Int=>some (!decide (dC y)):=by
    funext y
    unfold IN rU v5
    rw [jP]
    by_cases q:y=0
    · have n:(y == 0)=true:=by simp only [beq_iff_eq];exact q
      rw [n,bA (show dC y from .inl q)];rfl
    · have n:(y == 0)=false:=by simp only [beq_eq_false_iff_ne];exact q
      by_cases q2:j7 y
      · rw [n,bA q2,bA (show dC y from .inr q2)];rfl
      · rw [n,bP q2,bP (fun a:dC y=>a.elim q q2)];rfl
  rw [e,EI hl,GS]
  by_cases h3:z.length=3
  · have n:((z.length:Int) == 3)=true:=by simp;omega
    have:JJ z↔∀h∈z,dC h:=⟨fun a=>a.2,fun a=>⟨h3,a⟩⟩
    simp only [n,if_true,aG,Bool.not_not,this]
  · have n:((z.length:Int) == 3)=false:=by simp;omega
    simp only [n,aP,if_false]
    rw [bP (fun a:JJ z=>h3 a.1)]
end Go.Gv
end
noncomputable section
namespace Go.Gv
theorem KT{α:Type}(l:List α)(f:α→Bool){body:Int→Option (Step Int (Out Unit Int))}(hb:∀k (hk:k < l.length),body (k:Int)=if f l[k] then some (.stop (.ret (k:Int))) else some (.next ((k+1:Nat):Int)))(he:body (l.length:Int)=some (.stop (.brk ()))) :
    ∃o,loop body 0=some o∧match o with | .brk _=>l.any f=false | .ret r=>0≤r∧l.any f=true:=by
  have key:=aS5 (f:=body) l.length (fun k=>(k:Int)) (fun k=>if (l.drop k).any f then Out.ret ((k+(l.drop k).findIdx f:Nat):Int) else Out.brk ()) (fun k hk=>by
    by_cases h:k < l.length
    · have hd:l.drop k=l[k] :: l.drop (k+1):=List.drop_eq_getElem_cons h
      rw [hb k h,hd]
      simp only [List.any_cons,List.findIdx_cons]
      by_cases h4:f l[k]=true
      · left;simp [h4]
      · right
        have h4:f l[k]=false:=by simpa using h4
        refine⟨h,by simp [h4],?_⟩
        simp only [h4,Bool.false_or,cond_false]
        congr 2;omega
    · left
      obtain rfl:k=l.length:=by omega
      rw [he];simp) 0 (Nat.zero_le _)
  rw [show((0:Nat):Int)=0 from rfl,List.drop_zero] at key
  refine⟨_,key,?_⟩
  by_cases h:l.any f=true
  · rw [if_pos h];exact⟨by omega,h⟩
  · rw [if_neg h];simpa using h
theorem VY{l:List dO}(hl:l.length≤maxLen)(f:dO→Bool):iY l (fun x=>some (f x))=some (l.any f):=by
  obtain⟨o,e,h⟩:=KT l f (body:=kR l (fun x=>some (f x))) (fun k hk=>by
    simp only [kR]
    rw [if_pos (by simp;omega),aV hk,i5 (nU hk hl)];rfl) (by simp [kR])
  unfold iY uR
  rw [e]
  cases o with
  | brk u=>simp only at h;simp [pT,zT,h]
  | ret r=>simp only at h;simp [pT,h]
theorem TO{l:List bB}(hl:l.length≤maxLen)(f:bB→Bool)(g:bB→Option Bool)(hg:∀x∈l,g x=some (f x)):iL l g=some (l.any f):=by
  obtain⟨o,e,h⟩:=KT l f (body:=kH l g) (fun k hk=>by
    simp only [kH]
    rw [if_pos (by simp;omega),aV hk,i5 (nU hk hl)]
    simp only [aG,hg _ (List.getElem_mem hk)]) (by simp [kH])
  unfold iL sA
  rw [e]
  cases o with
  | brk u=>simp only at h;simp [nW,yY,h]
  | ret r=>simp only at h;simp [nW,h]
theorem TP{l:List aR}(hl:l.length≤maxLen)(f:aR→Bool)(g:aR→Option Bool)(hg:∀x∈l,g x=some (f x)):iM l g=some (l.any f):=by
  obtain⟨o,e,h⟩:=KT l f (body:=kI l g) (fun k hk=>by
    simp only [kI]
    rw [if_pos (by simp;omega),aV hk,i5 (nU hk hl)]
    simp only [aG,hg _ (List.getElem_mem hk)]) (by simp [kI])
  unfold iM sB
  rw [e]
  cases o with
  | brk u=>simp only at h;simp [nX,yZ,h]
  | ret r=>simp only at h;simp [nX,h]
theorem contains_eq{l:List Int}(hl:l.length≤maxLen)(v:Int):qE l v=some (decide (v∈l)):=by
  obtain⟨o,e,h⟩:=KT l (fun x=>v == x) (body:=eY l v) (fun k hk=>by
    simp only [eY]
    rw [if_pos (by simp;omega),aV hk,i5 (nU hk hl)];rfl) (by simp [eY])
  have ha:l.any (fun x=>v == x)=decide (v∈l):=by
    rw [Bool.eq_iff_iff];simp
  rw [ha] at h
  unfold qE m5
  rw [e]
  cases o with
  | brk u=>simp only at h;simp [qD,ID,h]
  | ret r=>simp only at h;simp [qD,h]
theorem UU{l:List aR}{x:Int}:x∈dA l↔∃s∈l,x∈s.aS:=List.mem_flatMap
noncomputable section
variable {m:Mem} (hsh:fZ m.aE) (hl:(dM m.aD).length≤1073741824) (hg:m.aD.Global.length≤maxLen) (ho:m.aD.cT.length≤maxLen)
include hl hg ho
theorem aFT(s:Int):L7 m.aD s=some (decide (s∈dM m.aD)):=by
  have hb:(1073741824:Nat)≤maxLen:=by simp [maxLen]
  unfold L7
  rw [VV hl hg ho]
  simp only [aG]
  rw [NJ (by omega)];rfl
theorem TQ(s:Int):HA m.aD s=some (decide (s∈dM m.aD)):=by
  have hb:(1073741824:Nat)≤maxLen:=by simp [maxLen]
  have hal:=pL m.aD
  have e1:∀x∈m.aD.Global,pU x s=some (decide (s∈x.aS)):=fun x hx=>by
    have:=AR hx
    unfold pU;rw [contains_eq (by omega)];rfl
  have e2:∀x∈m.aD.cT,pU x s=some (decide (s∈x.aS)):=fun x hx=>by
    have:=AR hx
    unfold pU;rw [contains_eq (by omega)];rfl
  unfold HA C7
  rw [TP hg (fun x=>decide (s∈x.aS)) _ e1,TP ho (fun x=>decide (s∈x.aS)) _ e2]
  have a1:(m.aD.Global.any fun x=>decide (s∈x.aS))=decide (s∈dA m.aD.Global):=by
    rw [Bool.eq_iff_iff];simp [UU]
  have a2:(m.aD.cT.any fun x=>decide (s∈x.aS))=decide (s∈dA m.aD.cT):=by
    rw [Bool.eq_iff_iff];simp [UU]
  rw [a1,a2]
  simp only [aG,dM,List.mem_append]
  by_cases q:s∈dA m.aD.Global <;> simp [q]
def eQ(m:Mem)(s:Int):Int:=if aX m.aE s < 0 then 0 else if s∈dM m.aD then 1 else if 6 < iI m.aE s then 2 else 3
include hsh
theorem aB2(s:Int):I8 m s=some (eQ m s):=by
  unfold I8 eQ
  rw [i9 hsh,aFT hl hg ho]
  simp only [aG]
  by_cases q:aX m.aE s < 0
  · simp [q]
  · rw [pX hsh (by omega)]
    by_cases q2:s∈dM m.aD
    · simp [q,q2]
    · by_cases q3:6 < iI m.aE s <;> simp [q,q2,q3]
theorem aB3(s:Int):IP m s=some (eQ m s):=by
  unfold IP eQ
  rw [l8 hsh,TQ hl hg ho]
  simp only [aG]
  by_cases q:aX m.aE s < 0
  · simp [q]
  · rw [GV hsh (by omega)]
    by_cases q2:s∈dM m.aD
    · simp [q,q2]
    · by_cases q3:6 < iI m.aE s <;> simp [q,q2,q3]
def g9(m:Mem)(h:Int):Prop:=j7 h∧eQ m (h % 32)=3∧iI m.aE (h % 32)=h / 32
instance (m:Mem) (h:Int):Decidable (g9 m h):=by unfold g9;infer_instance
omit hl hg ho hsh in
theorem iA{m:Mem}{s:Int}(h:eQ m s=3):0≤aX m.aE s:=by
  unfold eQ at h
  split at h
  · omega
  · omega
theorem oT(h:Int):sK m h=some (decide (g9 m h)):=by
  unfold sK tP
  rw [eM,dR]
  by_cases q:j7 h
  · have hm:=q.mod
    rw [bA q,if_pos q]
    simp only [aG,if_true,aB2 hsh hl hg ho]
    by_cases q2:eQ m (h % 32)=3
    · have n:(eQ m (h % 32) == 3)=true:=by simpa using q2
      have eg:DP h=some (h / 32):=by
        unfold DP
        unfold j7 at q
        rw [eM,bA (show j7 h from q),HL (by omega),aN (by omega) (by omega)];rfl
      rw [n,pX hsh (iA q2),eg]
      simp only [if_true,aG]
      congr 1;rw [Bool.eq_iff_iff];simp only [beq_iff_eq,decide_eq_true_eq]
      exact⟨fun a=>⟨q,q2,a⟩,fun a=>a.2.2⟩
    · have n:(eQ m (h % 32) == 3)=false:=by simpa using q2
      rw [n,bP (fun a:g9 m h=>q2 a.2.1)];rfl
  · rw [bP q,bP (fun a:g9 m h=>q a.1)];rfl
theorem KU(h:Int):CG m h=some (decide (g9 m h)):=by
  unfold CG v7
  rw [jP]
  by_cases q:j7 h
  · have hm:=q.mod
    rw [bA q,hm.1]
    simp only [aG,if_true,aB3 hsh hl hg ho]
    by_cases q2:eQ m (h % 32)=3
    · have n:(eQ m (h % 32) == 3)=true:=by simpa using q2
      have eg:aY (Int.tdiv h 32)=h / 32:=by
        unfold j7 at q
        rw [HL (by omega),aN (by omega) (by omega)]
      rw [n,GV hsh (iA q2),eg]
      simp only [if_true,aG]
      congr 1;rw [Bool.eq_iff_iff];simp only [beq_iff_eq,decide_eq_true_eq]
      exact⟨fun a=>⟨q,q2,a⟩,fun a=>a.2.2⟩
    · have n:(eQ m (h % 32) == 3)=false:=by simpa using q2
      rw [n,bP (fun a:g9 m h=>q2 a.2.1)];rfl
  · rw [bP q,bP (fun a:g9 m h=>q a.1)];rfl
end
def yJ(b:aA)(r:dO):Prop:=g9 b.Mem r.Handle∧r.aJ≤b.aC.aJ
instance (b:aA) (r:dO):Decidable (yJ b r):=by unfold yJ;infer_instance
def mR(b:aA):Prop:=(mW b.Mem∧JX b.aC∧pM b.aM∧JJ b.mP)∧∀r∈bH b.aM,yJ b r
instance (b:aA):Decidable (mR b):=by unfold mR;infer_instance
def NO(b:aA):Prop:=sY b.Mem∧b.aC.cK.length≤1048576∧b.aM.length≤1048576∧(bH b.aM).length≤1048576∧b.mP.length≤1048576
theorem NO.rows{b:aA}(h:NO b):∀s∈b.aM,s.Rows.length≤1048576:=fun s hs=>by
  have:=O4 hs;have:=h.2.2.2.1;omega
noncomputable section
variable {b:aA} (hf:b.Mem.aE.Bytes.length≤maxLen∧(dM b.Mem.aD).length≤1073741824∧b.aC.cK.length≤maxLen∧b.aM.length≤maxLen∧(bH b.aM).length≤1073741824∧b.mP.length≤maxLen)
include hf
theorem aFU:L8 b=some (decide (mR b)):=by
  obtain⟨f1,f2,f3,f4,f5,f6⟩:=hf
  unfold L8 rI
  rw [NM f1 f2,jA,aB1 f5 f4,AT f6]
  by_cases q1:mW b.Mem
  · by_cases q2:JX b.aC
    · by_cases q3:pM b.aM
      · by_cases q4:JJ b.mP
        · have hg:b.Mem.aD.Global.length≤maxLen:=by rw [q1.1.2.1];simp [maxLen]
          have ho:b.Mem.aD.cT.length≤maxLen:=by rw [q1.1.2.2.1];simp [maxLen]
          have hmx:(1073741824:Nat)≤maxLen:=by simp [maxLen]
          simp only [bA q1,bA q2,bA q3,bA q4,aG,dT,aP,if_false]
          rw [EM f5 f4]
          simp only [aG]
          have hst:∀k (hk:k < (bH b.aM).length),wN b (bH b.aM) (k:Int)=if yJ b (bH b.aM)[k] then some (.next ((k+1:Nat):Int)) else some (.stop (Out.ret false)):=by
            intro k hk
            simp only [wN,DQ]
            rw [if_pos (by simp;omega),aV hk,i5 (show k < maxLen by omega)]
            generalize (bH b.aM)[k]=r
            simp only [aG,oT q1.1.1.1 f2 hg ho]
            by_cases a1:g9 b.Mem r.Handle
            · rw [bA a1]
              simp only [dT,aP,if_false]
              by_cases a2:r.aJ≤b.aC.aJ
              · rw [if_neg (by simp;omega),if_pos ⟨a1,a2⟩]
              · rw [if_pos (by simp;omega),if_neg (fun x=>a2 x.2)]
            · rw [bP a1]
              simp only [iF,if_true]
              rw [if_neg (fun x=>a1 x.1)]
          have key:=jO (f:=wN b (bH b.aM)) (bH b.aM) (fun k=>(k:Int)) (yJ b) (Out.brk ()) (Out.ret false) (fun k hk hx=>by rw [hst k hk,if_pos hx]) (fun k hk hx=>by rw [hst k hk,if_neg hx]) (by simp [wN])
          rw [show((0:Nat):Int)=0 from rfl] at key
          rw [key]
          by_cases q:∀r∈bH b.aM,yJ b r
          · rw [if_pos q,bA (show mR b from ⟨⟨q1,q2,q3,q4⟩,q⟩)];rfl
          · rw [if_neg q,bP (fun x:mR b=>q x.2)];rfl
        · rw [bP (fun x:mR b=>q4 x.1.2.2.2),bA q1,bA q2,bA q3,bP q4];rfl
      · rw [bP (fun x:mR b=>q3 x.1.2.2.1),bA q1,bA q2,bP q3];rfl
    · rw [bP (fun x:mR b=>q2 x.1.2.1),bA q1,bP q2];rfl
  · rw [bP (fun x:mR b=>q1 x.1.1),bP q1];rfl
theorem aFV:LY b=some (decide (mR b)):=by
  obtain⟨f1,f2,f3,f4,f5,f6⟩:=hf
  unfold LY qZ
  rw [VX f1 f2,tX f3,BR f5,NN f6]
  by_cases q1:mW b.Mem
  · by_cases q2:JX b.aC
    · by_cases q3:pM b.aM
      · by_cases q4:JJ b.mP
        · have hg:b.Mem.aD.Global.length≤maxLen:=by rw [q1.1.2.1];simp [maxLen]
          have ho:b.Mem.aD.cT.length≤maxLen:=by rw [q1.1.2.2.1];simp [maxLen]
          have hmx:(1073741824:Nat)≤maxLen:=by simp [maxLen]
          simp only [bA q1,bA q2,bA q3,bA q4,aG,dT,aP,if_false]
          have e1:(fun y0=>A8 y0 b)=fun r:dO=>some (!decide (yJ b r)):=by
            funext r
            unfold A8 sC
            rw [KU q1.1.1.1 f2 hg ho]
            by_cases a1:g9 b.Mem r.Handle
            · by_cases a2:r.aJ≤b.aC.aJ
              · rw [bA a1,bA (show yJ b r from ⟨a1,a2⟩),bP (show ¬b.aC.aJ < r.aJ by omega)];rfl
              · rw [bA a1,bP (fun x:yJ b r=>a2 x.2),bA (show b.aC.aJ < r.aJ by omega)];rfl
            · rw [bP a1,bP (fun x:yJ b r=>a1 x.1)];rfl
          have e2:∀l∈b.aM,(fun y0=>F9 y0 b) l=some (!decide (∀r∈l.Rows,yJ b r)):=fun l hl=>by
            have:=O4 hl
            simp only [F9]
            rw [e1,VY (by omega),GS];rfl
          rw [TO f4 _ _ e2,GS]
          have hiff:mR b↔∀l∈b.aM,∀r∈l.Rows,yJ b r:=by
            constructor
            · intro x l hl r hr
              exact x.2 r (List.mem_flatMap.2 ⟨l,hl,hr⟩)
            · intro x
              refine⟨⟨q1,q2,q3,q4⟩,fun r hr=>?_⟩
              obtain⟨l,hl,hr⟩:=List.mem_flatMap.1 hr
              exact x l hl r hr
          simp only [aG,Bool.not_not,hiff]
        · rw [bP (fun x:mR b=>q4 x.1.2.2.2),bA q1,bA q2,bA q3,bP q4];rfl
      · rw [bP (fun x:mR b=>q3 x.1.2.2.1),bA q1,bA q2,bP q3];rfl
    · rw [bP (fun x:mR b=>q2 x.1.2.1),bA q1,bP q2];rfl
  · rw [bP (fun x:mR b=>q1 x.1.1),bP q1];rfl
end
end Go.Gv
end
noncomputable section
namespace Go.Gv
theorem X9{α:Type}{f:(List α×Int)→Option (Step (List α×Int) (List α))}(l:List α)
    (h:∀k (hk:k < l.length),f (l.take k,(k:Int))=some (.next (l.take k ++ [l[k]],((k+1:Nat):Int)))) (he:f (l,(l.length:Int))=some (.stop l)):loop f ([],0)=some l:=by
  have:=iQ (f:=f) l.length (fun k=>(l.take k,(k:Int))) l (fun k hk=>by rw [h k hk,List.take_succ_eq_append_getElem hk]) (by rw [List.take_length];exact he)
  simpa using this
theorem aJO{α:Type}{f:(Int×List α)→Option (Step (Int×List α) (List α))}(l:List α)
    (h:∀k (hk:k < l.length),f ((k:Int),l.take k)=some (.next (((k+1:Nat):Int),l.take k ++ [l[k]]))) (he:f ((l.length:Int),l)=some (.stop l)):loop f (0,[])=some l:=by
  have:=iQ (f:=f) l.length (fun k=>((k:Int),l.take k)) l (fun k hk=>by rw [h k hk,List.take_succ_eq_append_getElem hk]) (by rw [List.take_length];exact he)
  simpa using this
theorem FN{l:List Int}(h:l.length≤1073741824):wP l=some l:=by
  unfold wP;rw [aQ (by simpa using h)];rfl
theorem pN{l:List Int}(h:l.length≤1073741824):fV l=some l:=by
  unfold fV;rw [aQ (by simpa using h)];rfl
theorem aK8{l:List qA}(h:l.length≤1073741824):xJ l=some l:=by
  unfold xJ;rw [aQ (by simpa using h)];rfl
theorem aIG{l:List dO}(h:l.length≤1073741824):vB l=some l:=by
  unfold vB;rw [aQ (by simpa using h)];rfl
theorem aJP{l:List aR}(hl:l.length≤1048576)(hs:∀s∈l,s.aS.length≤1048576):L9 l=some l:=by
  unfold L9
  rw [X9 l]
  · rfl
  · intro k hk
    have:=hs _ (List.getElem_mem hk)
    simp only [KF]
    rw [if_pos (by simp;omega),aV hk]
    simp only [aG]
    rw [FN (by omega),aG,aQ (by simp;omega),aN (by omega) (by omega)];rfl
  · simp [KF]
theorem aIH{l:aD}(h1:l.Global.length≤1048576)(h2:l.cT.length≤1048576)(h3:∀s∈l.Global,s.aS.length≤1048576)(h4:∀s∈l.cT,s.aS.length≤1048576):SZ l=some l:=by
  unfold SZ;rw [aJP h1 h3,aJP h2 h4];rfl
theorem NP{l:aD}(h1:l.Global.length≤1048576)(h2:l.cT.length≤1048576)(h3:∀s∈l.Global,s.aS.length≤1048576)(h4:∀s∈l.cT,s.aS.length≤1048576):iX l=some l:=by
  unfold iX
  rw [aJO l.Global]
  · simp only [aG,LW,LV]
    rw [aJO l.cT]
    · rfl
    · intro k hk
      have:=h4 _ (List.getElem_mem hk)
      simp only [CV]
      rw [if_pos (by simp;omega),aV hk]
      simp only [aG]
      rw [pN (by omega),aG,aQ (by simp;omega),CU,aN (by omega) (by omega)];rfl
    · simp [CV]
  · intro k hk
    have:=h3 _ (List.getElem_mem hk)
    simp only [CY]
    rw [if_pos (by simp;omega),aV hk]
    simp only [aG]
    rw [pN (by omega),aG,aQ (by simp;omega),CX,aN (by omega) (by omega)];rfl
  · simp [CY]
theorem aK9{h:aE}(h1:h.Bytes.length≤1048576)(h2:h.Class.length≤1048576):SY h=some h:=by
  unfold SY;rw [FN (by omega),FN (by omega)];rfl
theorem QC{h:aE}(h1:h.Bytes.length≤1048576)(h2:h.Class.length≤1048576):uC h=some h:=by
  unfold uC;rw [pN (by omega),pN (by omega)];rfl
theorem aAL{m:Mem}(h:sY m):S1 m=some m:=by
  have a:=aK9 h.1 h.2.1
  have b:=aIH h.2.2.1 h.2.2.2.1 h.VW.1 h.VW.2
  unfold S1;rw [a,b];rfl
theorem aAM{m:Mem}(h:sY m):CZ m=some m:=by
  have a:=QC h.1 h.2.1
  have b:=NP h.2.2.1 h.2.2.2.1 h.VW.1 h.VW.2
  unfold CZ;rw [a,b];rfl
theorem mX{c:aC}(h:c.cK.length≤1048576):yD c=some c:=by
  unfold yD;rw [aQ (by simp;omega)];rfl
theorem AU{c:aC}(h:c.cK.length≤1048576):k9 c=some c:=by
  unfold k9;rw [aK8 (by omega)];rfl
theorem NQ{l:List bB}(hl:l.length≤1048576)(hs:∀s∈l,s.Rows.length≤1048576):lA l=some l:=by
  unfold lA
  rw [X9 l]
  · rfl
  · intro k hk
    have:=hs _ (List.getElem_mem hk)
    simp only [C0]
    rw [if_pos (by simp;omega),aV hk]
    simp only [aG]
    rw [aIG (by omega),aG,aQ (by simp;omega),aN (by omega) (by omega)];rfl
  · simp [C0]
theorem aLA{b:aA}(h:NO b):FY b=some b:=by
  have m:=aAM h.1
  have c:=AU h.2.1
  have l:=NQ h.2.2.1 h.rows
  have:=h.2.2.2.2
  unfold FY;rw [m,c,l,pN (by omega)];rfl
end Go.Gv
end
noncomputable section
namespace Go.Gv
theorem kC(w:Int):fF w=some (decide (0≤w∧w≤2)):=by
  unfold fF;rw [eG];rfl
noncomputable section
variable {c:aC} (hc:JX c) {w:Int} (hw:0≤w∧w≤2)
include hc
theorem JX.small:c.cK.length≤1048576∧c.cK.length≤maxLen:=by
  have:=hc.2.1;simp only [maxLen];omega
theorem JX.aLB{k:Nat}{p:qA}(hp:POk c.aJ p):JX ⟨c.aJ,c.cK.set k p⟩:=⟨hc.1,by simpa using hc.2.1,fun q hq=>(List.mem_or_eq_of_mem_set hq).elim (hc.2.2 q) (fun e=>e ▸ hp)⟩
theorem JX.a6E(h:c.aJ+1≤100000):JX ⟨c.aJ+1,c.cK⟩:=by
  have h1:=hc.1
  exact⟨⟨by simp only;omega,h⟩,hc.2.1,fun q hq=>by
    obtain⟨a,b,d⟩:=hc.2.2 q hq
    exact⟨⟨a.1,by simp only;omega⟩,b,d⟩⟩
include hw
theorem ZU:∃p,idx c.cK w=some p∧POk c.aJ p:=by
  have h3:=hc.2.1
  rw [fL hw.1 (by omega)]
  exact⟨_,rfl,hc.2.2 _ (List.getElem_mem _)⟩
theorem aTA(e:Int):∃r,HE c w e=some r∧L4 c w e=some r∧JX r.1∧r.1.aJ=c.aJ:=by
  obtain⟨p,hp,h1,⟨hs0,hs1⟩,h2⟩:=ZU hc hw
  have h3:=hc.2.1
  unfold HE L4
  rw [mX hc.small.1,AU hc.small.1,jA,tX hc.small.2,kC,cE,bA hc,bA hw]
  simp only [aG,dT,aP,if_false,D0,DC,hp]
  cases h4:p.On
  · exact⟨_,rfl,rfl,hc,rfl⟩
  · cases h5:p.dJ
    · by_cases h6:p.aJ=e
      · simp only [rK,rC,h6,beq_self_eq_true,if_true,dT,aP,if_false]
        exact⟨_,rfl,rfl,hc,rfl⟩
      · have h6':(p.aJ == e)=false:=by simpa using h6
        simp only [rK,rC,h6',dT,aP,if_false,hp,aG]
        by_cases h7:p.Seen=2
        · simp only [h7,beq_self_eq_true,if_true,show ¬((2:Int) < 2) by omega,decide_false,aP,if_false]
          exact⟨_,rfl,rfl,hc.aLB ⟨h1,by simp,fun q=>by simp [h4] at q⟩,rfl⟩
        · have h7':(p.Seen == 2)=false:=by simpa using h7
          simp only [h7',show p.Seen < 2 by omega,decide_true,if_true,aP,if_false]
          have hw7:aY (p.Seen+1)=p.Seen+1:=aN (by omega) (by omega)
          exact⟨_,rfl,rfl,hc.aLB ⟨h1,by simp only [hw7];omega,fun q=>by simp [h4] at q⟩,rfl⟩
    · exact⟨_,rfl,rfl,hc,rfl⟩
theorem aW1(e:Int):∃r,KJ c w e=some r∧PR c w e=some r∧(JX r.1∧r.1.aJ=c.aJ)∧(r.2=false→r.1=c):=by
  obtain⟨p,hp,hpk⟩:=ZU hc hw
  have h3:=hc.2.1
  unfold KJ PR
  rw [mX hc.small.1,AU hc.small.1,jA,tX hc.small.2,kC,cE,cE,eG,bA hc,bA hw]
  simp only [aG,dT,aP,if_false,AH,zX,hp]
  by_cases h:0≤e∧e≤c.aJ
  · simp only [bA h,dT,aP,if_false]
    exact⟨_,rfl,rfl,⟨hc.aLB ⟨h,by simp,fun q=>by cases q⟩,rfl⟩,fun q=>by cases q⟩
  · simp only [bP h,iF,if_true]
    exact⟨_,rfl,rfl,⟨hc,rfl⟩,fun _=>rfl⟩
omit hw in
theorem a0M(e:Int):∃r,ON c e=some r∧UR c e=some r∧JX r.1∧c.aJ≤r.1.aJ:=by
  have h3:=hc.2.1
  unfold ON UR
  rw [mX hc.small.1,AU hc.small.1,jA,tX hc.small.2,bA hc]
  simp only [aG,dT,aP,if_false,D1,DD]
  by_cases h:c.aJ=e
  · subst h
    simp only [bne_self_eq_false,aP,if_false]
    by_cases h:c.aJ=100000
    · simp only [h,beq_self_eq_true,if_true];exact⟨_,rfl,rfl,hc,by simp [h]⟩
    · have h':(c.aJ == 100000)=false:=by simpa using h
      have hE:=hc.1
      have hw7:aY (c.aJ+1)=c.aJ+1:=aN (by omega) (by omega)
      simp only [h',aP,if_false,hw7];exact⟨_,rfl,rfl,hc.a6E (by omega),by simp only;omega⟩
  · have h':(c.aJ != e)=true:=by simpa using h
    simp only [h',if_true];exact⟨_,rfl,rfl,hc,Int.le_refl _⟩
end
theorem a35{b:aA}(hc:JX b.aC){w:Int}(hw:0≤w∧w≤2)(s:Sub) :
    ∃x y,HF b w s=some (x,y)∧xS s b w=some (y,x)∧∃cl,x=⟨b.Mem,cl,b.aM,b.mP⟩∧JX cl∧b.aC.aJ≤cl.aJ:=by
  obtain⟨r,e1,e2,h3,h4⟩:=aW1 hc hw s.E
  unfold HF xS
  rw [e1,e2]
  simp only [bR,bM,zF,aG]
  by_cases p0:s.Pc=0
  · simp only [p0,beq_self_eq_true,if_true];exact⟨_,_,rfl,rfl,_,rfl,hc,by omega⟩
  · have p0':(s.Pc == 0)=false:=by simpa using p0
    simp only [p0',aP,if_false]
    by_cases p1:s.Pc=1
    · simp only [p1,beq_self_eq_true,if_true]
      cases h:r.2
      · rw [h4 h];exact⟨_,_,rfl,rfl,_,rfl,hc,by omega⟩
      · exact⟨_,_,rfl,rfl,_,rfl,h3.1,by rw [h3.2];exact Int.le_refl _⟩
    · have p1':(s.Pc == 1)=false:=by simpa using p1
      simp only [p1',aP,if_false]
      by_cases p2:s.Pc=2
      · simp only [p2,beq_self_eq_true,if_true]
        by_cases q:b.aC.aJ=s.E
        · simp only [q,beq_self_eq_true,if_true];exact⟨_,_,rfl,rfl,_,rfl,hc,by omega⟩
        · have q':(b.aC.aJ == s.E)=false:=by simpa using q
          simp only [q',aP,if_false];exact⟨_,_,rfl,rfl,_,rfl,hc,by omega⟩
      · have p2':(s.Pc == 2)=false:=by simpa using p2
        simp only [p2',aP,if_false];exact⟨_,_,rfl,rfl,_,rfl,hc,by omega⟩
theorem aPW{b:aA}(hc:JX b.aC)(s:Sub) :
    ∃x y,tU b s=some (x,y)∧pD s b=some (y,x)∧∃cl,x=⟨b.Mem,cl,b.aM,b.mP⟩∧JX cl∧b.aC.aJ≤cl.aJ:=by
  obtain⟨r2,e3,e4,h4⟩:=a0M hc s.E
  unfold tU pD lO
  rw [e3,e4,cE,kC]
  simp only [bR,bM,sO,sP,lN,aG]
  by_cases p0:s.Pc=0
  · simp only [p0,beq_self_eq_true,if_true];exact⟨_,_,rfl,rfl,_,rfl,hc,by omega⟩
  · have p0':(s.Pc == 0)=false:=by simpa using p0
    simp only [p0',aP,if_false]
    by_cases p1:s.Pc=1
    · simp only [p1,beq_self_eq_true,if_true,show((1:Int) == 2)=false from rfl,aP,if_false]
      by_cases hB:0≤s.B∧s.B≤2
      · obtain⟨r,e1,e2,h3,h3'⟩:=aTA hc hB s.E
        simp only [bA hB,dT,aP,if_false,if_true,e1,e2,aG]
        cases h:r.2
        · exact⟨_,_,rfl,rfl,_,rfl,h3,by rw [h3'];exact Int.le_refl _⟩
        · by_cases q:aY (s.B+1)=3
          · simp only [q,beq_self_eq_true,if_true,dT,aP,if_false];exact⟨_,_,rfl,rfl,_,rfl,h3,by rw [h3'];exact Int.le_refl _⟩
          · have q':(aY (s.B+1) == 3)=false:=by simpa using q
            simp only [q',dT,aP,if_false];exact⟨_,_,rfl,rfl,_,rfl,h3,by rw [h3'];exact Int.le_refl _⟩
      · simp only [bP hB,iF,aP,if_false,if_true]
        exact⟨_,_,rfl,rfl,_,rfl,hc,by omega⟩
    · have p1':(s.Pc == 1)=false:=by simpa using p1
      simp only [p1',aP,if_false]
      by_cases p2:s.Pc=2
      · simp only [p2,beq_self_eq_true,if_true]
        cases h:r2.2
        · simp only [aP,if_false];exact⟨_,_,rfl,rfl,_,rfl,h4⟩
        · simp only [if_true];exact⟨_,_,rfl,rfl,_,rfl,h4⟩
      · have p2':(s.Pc == 2)=false:=by simpa using p2
        simp only [p2',aP,if_false];exact⟨_,_,rfl,rfl,_,rfl,hc,by omega⟩
end Go.Gv
end
noncomputable section
namespace Go.Gv
theorem aPX:∀(n:Nat) (l:List Int),l.Nodup→(∀x∈l,0≤x∧x < (n:Int))→l.length≤n
  | 0, l, _, h => by
    cases l with
    | nil=>simp
    | cons a t=>have:=h a (by simp);omega
  | n + 1, l, hn, h => by
    have ih:=aPX n (l.erase (n:Int)) (hn.erase _) (fun x hx=>by
      have h1:=(hn.mem_erase_iff).1 hx
      have h2:=h x h1.2
      have:=h1.1
      omega)
    have:=List.length_erase (a:=(n:Int)) (l:=l)
    split at this <;> omega
theorem aLC(a b:List bB):bH (a++b)=bH a++bH b:=by simp [bH]
theorem aLD(a b:List aR):dA (a++b)=dA a++dA b:=by simp [dA]
theorem FO{l:List bB}{k:Nat}(hk:k < l.length)(x:bB):bH (l.set k x)=bH (l.take k)++(x.Rows++bH (l.drop (k+1))):=by
  rw [List.set_eq_take_append_cons_drop,if_pos hk,aLC];simp [bH]
theorem CK{l:List bB}{k:Nat}(hk:k < l.length):bH l=bH (l.take k)++(l[k].Rows++bH (l.drop (k+1))):=by
  conv=>lhs;rw [←List.set_getElem_self hk,FO hk]
theorem FP{l:List aR}{k:Nat}(hk:k < l.length)(x:aR):dA (l.set k x)=dA (l.take k)++(x.aS++dA (l.drop (k+1))):=by
  rw [List.set_eq_take_append_cons_drop,if_pos hk,aLD];simp [dA]
theorem CL{l:List aR}{k:Nat}(hk:k < l.length):dA l=dA (l.take k)++(l[k].aS++dA (l.drop (k+1))):=by
  conv=>lhs;rw [←List.set_getElem_self hk,FP hk]
def E5(l:List bB)(s:Int):Prop:=∃r∈bH l,j7 r.Handle∧r.Handle % 32=s
instance (l:List bB) (s:Int):Decidable (E5 l s):=by unfold E5;infer_instance
noncomputable section
variable {l:List bB} (hl:pM l)
include hl
theorem pM.small:(bH l).length≤1073741824∧l.length≤maxLen∧l.length≤1048576∧∀s∈l,s.Rows.length≤24:=by
  have:=hl.1;have h2:=hl.2.1
  refine⟨by omega,by simp only [maxLen];omega,by omega,fun s hs=>?_⟩
  have:=O4 hs;omega
theorem RL(s:Int):PZ l s=some (decide (E5 l s)):=by
  have hm:=hl.small
  unfold PZ
  rw [EM hm.1 hm.2.1,aG]
  have key:=jO (f:=oO s (bH l)) (bH l) (fun k=>(k:Int)) (fun r=>¬(j7 r.Handle∧r.Handle % 32=s)) (Out.brk ()) (Out.ret true)
    (fun k hk hp=>by
      have hk':=hl.2.1
      simp only [oO,BM]
      rw [if_pos (by simp;omega),aV hk,i5 (show k < maxLen by simp only [maxLen];omega)]
      simp only [aG,eM,dR]
      by_cases q:j7 (bH l)[k].Handle
      · have:((bH l)[k].Handle % 32 == s)=false:=by simpa using fun a=>hp ⟨q,a⟩
        simp [q,this]
      · simp [q])
    (fun k hk hp=>by
      have hp:=Classical.not_not.1 hp
      simp only [oO,BM]
      rw [if_pos (by simp;omega),aV hk]
      simp [eM,dR,hp.1,hp.2])
    (by simp [oO])
  have key':loop (oO s (bH l)) 0=_:=key
  rw [key']
  by_cases q:E5 l s
  · rw [if_neg (fun a=>by obtain⟨r,hr,e⟩:=q;exact a r hr e),bA q];rfl
  · rw [if_pos (fun r hr e=>q ⟨r,hr,e⟩),bP q];rfl
theorem aB4(s:Int):IV l s=some (decide (E5 l s)):=by
  have hm:=hl.small
  unfold IV
  have e1:∀(r:dO),rB r s=some (decide (j7 r.Handle∧r.Handle % 32=s)):=by
    intro r
    unfold rB qG
    rw [jP]
    by_cases q:j7 r.Handle
    · rw [q.mod.1];simp [q];rfl
    · simp [q]
  have e2:∀x∈l,DB x s=some (x.Rows.any fun r=>decide (j7 r.Handle∧r.Handle % 32=s)):=by
    intro x hx
    unfold DB
    have:x.Rows.length≤maxLen:=by have:=hm.2.2.2 x hx;simp only [maxLen];omega
    rw [show(fun y0=>rB y0 s)=fun r=>some (decide (j7 r.Handle∧r.Handle % 32=s)) from funext e1,VY this];rfl
  rw [TO hm.2.1 (fun x=>x.Rows.any fun r=>decide (j7 r.Handle∧r.Handle % 32=s)) _ e2]
  simp only [aG]
  congr 1
  rw [Bool.eq_iff_iff,decide_eq_true_iff]
  simp only [List.any_eq_true,decide_eq_true_eq,E5,bH,List.mem_flatMap]
  constructor
  · rintro⟨x,hx,r,hr,h⟩;exact⟨r,⟨x,hx,hr⟩,h⟩
  · rintro⟨r,⟨x,hx,hr⟩,h⟩;exact⟨x,hx,r,hr,h⟩
theorem pM.more{k:Nat}(hk:k < l.length){r:dO}(hr:AS r)(hn:¬E5 l (r.Handle % 32)):pM (l.set k ⟨l[k].Rows ++ [r]⟩):=by
  have e:=FO hk (⟨l[k].Rows ++ [r]⟩:bB)
  have p:(bH (l.set k ⟨l[k].Rows ++ [r]⟩)).Perm (r :: bH l):=by
    rw [e,CK hk]
    refine List.Perm.trans ?_ List.perm_middle
    simp only [List.append_assoc]
    exact List.Perm.append_left _ (by simp only [List.singleton_append];exact(List.perm_middle (l₁:=l[k].Rows) (l₂:=bH (l.drop (k+1))) (a:=r)))
  have h1:∀x∈bH (l.set k ⟨l[k].Rows ++ [r]⟩),AS x:=fun x hx=>by
    rcases List.mem_cons.1 (p.mem_iff.1 hx) with rfl | h
    · exact hr
    · exact hl.2.2.1 x h
  have h2:((bH (l.set k ⟨l[k].Rows ++ [r]⟩)).map lQ).Nodup:=by
    refine(List.Perm.nodup_iff (p.map lQ)).2 ?_
    rw [List.map_cons,List.nodup_cons]
    refine⟨fun h=>hn ?_,hl.2.2.2⟩
    obtain⟨x,hx,e⟩:=List.mem_map.1 h
    exact⟨x,hx,(hl.2.2.1 x hx).1,e⟩
  refine⟨by simpa using hl.1,?_,h1,h2⟩
  have:=aPX 24 _ h2 (fun x hx=>by
    obtain⟨y,hy,rfl⟩:=List.mem_map.1 hx
    have:=(h1 y hy).1.mod
    unfold lQ;omega)
  simpa using this
end
theorem aTB{b:aA}(hb:mR b)(hs:NO b){w:Int}(hw:0≤w∧w≤2)(s:Sub) :
    ∃x y,wQ b w s=some (x,y)∧qH s b w=some (y,x)∧∃L,x=⟨b.Mem,b.aC,L,b.mP⟩∧pM L∧∀r∈bH L,yJ b r:=by
  have hL:=hb.1.2.2.1
  have hm:=hb.1.1
  have hlen:w.toNat < b.aM.length:=by have:=hL.1;omega
  have hx:idx b.aM w=some b.aM[w.toNat]:=fL hw.1 (by omega)
  have hg:b.Mem.aD.Global.length≤maxLen:=by rw [hm.1.2.1];simp [maxLen]
  have ho:b.Mem.aD.cT.length≤maxLen:=by rw [hm.1.2.2.1];simp [maxLen]
  have hall:(dM b.Mem.aD).length≤1073741824:=by have:=hs.1.2.2.2.2;omega
  have hrow:=hL.small.2.2.2 _ (List.getElem_mem hlen)
  have he:=hb.1.2.1.1
  unfold wQ qH mM
  rw [cE,eG,oT hm.1.1.1 hall hg ho,KU hm.1.1.1 hall hg ho,dR]
  simp only [bR,bM,aG,vD,DZ,mL]
  by_cases p0:s.Pc=0
  · simp only [p0,beq_self_eq_true,if_true];exact⟨_,_,rfl,rfl,_,rfl,hL,hb.2⟩
  · have p0' : (s.Pc == 0) = false := by simpa using p0
    simp only [p0',aP,if_false]
    by_cases p1:s.Pc=1
    · simp only [p1,beq_self_eq_true,bne_self_eq_false,aP,if_false,if_true]
      by_cases q1:0≤s.E∧s.E≤b.aC.aJ
      · simp only [bA q1,dT,aP,if_false]
        by_cases q2:g9 b.Mem s.A
        · have hh:=q2.1
          simp only [bA q2,dT,aP,if_false,if_pos hh,hh.mod.1,RL hL,aB4 hL,aG]
          by_cases q3:E5 b.aM (s.A % 32)
          · simp only [bA q3,if_true];exact⟨_,_,rfl,rfl,_,rfl,hL,hb.2⟩
          · have hmore:=hL.more hlen (r:=⟨s.A,s.E⟩) ⟨hh,q1.1,by simp only;omega⟩ q3
            have e:GF b.aM w s.A s.E=some (b.aM.set w.toNat ⟨b.aM[w.toNat].Rows ++ [⟨s.A,s.E⟩]⟩,true):=by
              unfold GF xQ
              rw [BR hL.small.1,kC,NQ hL.small.2.2.1 (fun s h=>by have:=hL.small.2.2.2 s h;omega)]
              simp only [bA hL,bA hw,aG,dT,aP,if_false,hx]
              rw [aQ (by simp;omega),BR hmore.small.1,bA hmore];rfl
            simp only [bP q3,aP,if_false,hx,e,aG]
            rw [aQ (by simp;omega)]
            refine⟨_,_,rfl,rfl,_,rfl,hmore,fun r hr=>?_⟩
            rw [FO hlen] at hr
            have hsp:=CK hlen
            rcases List.mem_append.1 hr with h | h
            · exact hb.2 r (by rw [hsp];exact List.mem_append_left _ h)
            · rcases List.mem_append.1 h with h | h
              · rcases List.mem_append.1 h with h | h
                · exact hb.2 r (by rw [hsp];exact List.mem_append_right _ (List.mem_append_left _ h))
                · simp at h;subst h;exact⟨q2,q1.2⟩
              · exact hb.2 r (by rw [hsp];exact List.mem_append_right _ (List.mem_append_right _ h))
        · simp only [bP q2,iF,if_true];exact⟨_,_,rfl,rfl,_,rfl,hL,hb.2⟩
      · simp only [bP q1,iF,if_true];exact⟨_,_,rfl,rfl,_,rfl,hL,hb.2⟩
    · have p1':(s.Pc == 1)=false:=by simpa using p1
      have p1'':(s.Pc != 1)=true:=by simpa using p1
      simp only [p1',p1'',aP,if_false,if_true];exact⟨_,_,rfl,rfl,_,rfl,hL,hb.2⟩
end Go.Gv
end
noncomputable section
namespace Go.Gv
def ZV(b:List Int)(a:Nat)(n:Int):List Int:=(((b.set a 0).set (a+1) 0).set (a+2) 0).set (a+3) n
theorem EN(b:List Int)(a:Nat)(n:Int):(ZV b a n).length=b.length:=by simp [ZV]
theorem aNI{b:List Int}(h:vJ b)(a:Nat){n:Int}(hn:0≤n∧n≤255):vJ (ZV b a n):=by
  have key:∀{l:List Int} (i:Nat) (v:Int),vJ l→0≤v∧v≤255→vJ (l.set i v):=fun i v hl hv x hx=>by
    rcases List.mem_or_eq_of_mem_set hx with h | rfl
    · exact hl x h
    · exact hv
  exact key _ _ (key _ _ (key _ _ (key _ _ h (by omega)) (by omega)) (by omega)) hn
theorem aW2{n:Int}(hn:0≤n∧n≤255):((u8 n).toNat:Int)=n:=by
  obtain⟨m,rfl⟩:=Int.eq_ofNat_of_zero_le hn.1
  unfold u8
  rw [UInt8.toNat_ofNat'];omega
theorem YA{l:List Int}(i:Nat){v:Int}(hl:vJ l)(hv:0≤v∧v≤255):vJ (l.set i v):=fun x hx=>by
  rcases List.mem_or_eq_of_mem_set hx with h | rfl
  · exact hl x h
  · exact hv
def EO(b:List Int)(a:Nat)(n:Int):List Int:=(((b.set a (n / 16777216)).set (a+1) (n / 65536 % 256)).set (a+2) (n / 256 % 256)).set (a+3) (n % 256)
theorem O5(b:List Int)(a:Nat)(n:Int):(EO b a n).length=b.length:=by simp [EO]
theorem aTC{b:List Int}(h:vJ b)(a:Nat){n:Int}(hn:0≤n∧n≤4294967295):vJ (EO b a n):=by
  unfold EO
  exact YA _ (YA _ (YA _ (YA _ h (by omega)) (by omega)) (by omega)) (by omega)
theorem aTD(b:List Int)(a:Nat)(x y z u:Int):(((b.set (a+3) u).set (a+2) z).set (a+1) y).set a x=(((b.set a x).set (a+1) y).set (a+2) z).set (a+3) u:=by
  refine List.ext_getElem (by simp) fun j h1 h2=>?_
  simp only [List.getElem_set]
  by_cases j0:a=j
  · subst j0;simp
  · by_cases j1:a+1=j
    · subst j1;simp
    · by_cases j2:a+2=j
      · subst j2;simp
      · by_cases j3:a+3=j
        · subst j3;simp
        · simp [j0,j1,j2,j3]
theorem ZW{b:List Int}{a:Nat}(h:a+4≤b.length)(hl:b.length≤100000){n:Int}(hn:0≤n∧n≤4294967295):yA b (a:Int) 4 n=some (EO b a n):=by
  have st:∀(c:List Int) (m:Int) (i:Nat),c.length=b.length→0≤m→m≤4294967295→i < 4→BK (a:Int) (c,m,(i:Int))=some (.next (c.set (a+i) (m % 256),m / 256,(i:Int) - 1)):=fun c m i hc h0 h1 hi=>by
    simp only [BK]
    rw [if_pos (by simp),aN (x:=(a:Int)+i) (by omega) (by omega),show(a:Int)+i=((a+i:Nat):Int) by omega,aV (by omega),aG,jX h0,HL h0,aN (x:=m / 256) (by omega) (by omega),aN (x:=(i:Int) - 1) (by omega) (by omega),Int.toNat_natCast]
  unfold yA
  rw [show aY (4 - 1)=((3:Nat):Int) from by rw [aN (by omega) (by omega)];rfl]
  rw [bV (st b n 3 rfl hn.1 hn.2 (by omega)),show((3:Nat):Int) - 1=((2:Nat):Int) by rfl,
    bV (st _ _ 2 (by simp) (by omega) (by omega) (by omega)),show((2:Nat):Int) - 1=((1:Nat):Int) by rfl,
    bV (st _ _ 1 (by simp) (by omega) (by omega) (by omega)),show((1:Nat):Int) - 1=((0:Nat):Int) by rfl,
    bV (st _ _ 0 (by simp) (by omega) (by omega) (by omega)),bU (r:=EO b a n)]
  · rfl
  · simp only [BK]
    rw [if_neg (by simp)]
    have e1:n / 256 / 256=n / 65536:=by omega
    have e2:n / 256 / 256 / 256=n / 16777216:=by omega
    have e3:n / 16777216 % 256=n / 16777216:=by omega
    rw [e1,show n / 65536 / 256=n / 16777216 by omega,e3]
    unfold EO
    simp only [Nat.add_zero]
    rw [aTD]
def VZ(n:Int):List UInt8:=[u8 (n / 16777216),u8 (n / 65536),u8 (n / 256),u8 n]
theorem aFW{n:Int}(hn:0≤n∧n≤4294967295):BW n 4=some (VZ n):=by
  have hw:kS 4=some true:=by unfold kS;rw [eG];rfl
  unfold BW
  rw [hw]
  have e1:IntKind.u64.wrap (aY (8 * 4))=32:=by decide
  have e2:aI6 .i64 1 32=4294967296:=by decide
  simp only [aG,dT,aP,if_false,e1,e2]
  rw [if_neg (by simp;omega),aQ (by omega),bP (by omega)]
  simp only [zV,aP,if_false]
  rw [aQ (by omega),show aY (4 - 1)=((3:Nat):Int) from by rw [aN (by omega) (by omega)];rfl]
  have st:∀(m:Int) (c:List UInt8) (i:Nat),i < c.length→i < 4→0≤m→GB (m,c,(i:Int))=some (.next (m / 256,c.set i (u8 m),(i:Int) - 1)):=fun m c i hc hi h0=>by
    simp only [GB]
    rw [if_pos (by simp),aV hc,aG,show(8:Int)=((8:Nat):Int) from rfl,a0K h0 (by omega),aN (by omega) (by omega),Int.toNat_natCast];rfl
  rw [bV (st n _ 3 (by simp) (by omega) hn.1),show((3:Nat):Int) - 1=((2:Nat):Int) by rfl,
    bV (st _ _ 2 (by simp) (by omega) (by omega)),show((2:Nat):Int) - 1=((1:Nat):Int) by rfl,
    bV (st _ _ 1 (by simp) (by omega) (by omega)),show((1:Nat):Int) - 1=((0:Nat):Int) by rfl,
    bV (st _ _ 0 (by simp) (by omega) (by omega)),bU (r:=VZ n)]
  · rfl
  · simp only [GB]
    rw [if_neg (by simp)]
    have e1:n / 256 / 256=n / 65536:=by omega
    rw [e1,show n / 65536 / 256=n / 16777216 by omega]
    rfl
theorem aLE{n:Int}(hn:0≤n):((u8 n).toNat:Int)=n % 256:=by
  have:u8 n=u8 (n % 256):=by
    unfold u8
    congr 1
    omega
  rw [this,aW2 (by omega)]
theorem aFX{b:List Int}{a:Nat}(h:a+4≤b.length)(hl:b.length≤100000){n:Int}(hn:0≤n∧n≤4294967295):wB b (a:Int) (VZ n)=some (EO b a n):=by
  have st:∀(c:List Int) (i:Nat) (v:UInt8),c.length=b.length→i < 4→idx (VZ n) (i:Int)=some v→C9 b (a:Int) (VZ n) (c,(i:Int))=some (.next (c.set (a+i) (v.toNat:Int),((i+1:Nat):Int))):=fun c i v hc hi hv=>by
    simp only [C9]
    rw [aQ hc,if_pos (by simp [VZ];omega),hv,aG,aN (x:=(a:Int)+i) (by omega) (by omega),show(a:Int)+i=((a+i:Nat):Int) by omega,aV (by omega),aG,aN (by omega) (by omega),Int.toNat_natCast];rfl
  unfold wB
  rw [show(0:Int)=((0:Nat):Int) from rfl,bV (st b 0 _ rfl (by omega) rfl),bV (st _ 1 _ (by simp) (by omega) rfl),bV (st _ 2 _ (by simp) (by omega) rfl),bV (st _ 3 _ (by simp) (by omega) rfl),bU (r:=EO b a n)]
  · simp only [aG,SL,SK]
    rw [aQ (O5 b a n)]
  · simp only [C9]
    rw [aQ (by simp),if_neg (by simp [VZ])]
    simp only [aLE hn.1,aLE (show 0≤n / 16777216 by omega),aLE (show 0≤n / 65536 by omega),aLE (show 0≤n / 256 by omega)]
    rw [show n / 16777216 % 256=n / 16777216 by omega]
    rfl
theorem aW3{b:List Int}{a:Nat}{n:Int}(hn:0≤n∧n≤255):EO b a n=ZV b a n:=by
  unfold EO ZV
  rw [show n / 16777216=0 by omega,show n / 65536 % 256=0 by omega,show n / 256 % 256=0 by omega,show n % 256=n by omega]
theorem H4{b:List Int}{a:Nat}(h:a+4≤b.length)(hl:b.length≤100000){n:Int}(hn:0≤n∧n≤255):yA b (a:Int) 4 n=some (ZV b a n):=by
  rw [ZW h hl ⟨hn.1,by omega⟩,aW3 hn]
theorem a6F{n:Int}(hn:0≤n∧n≤255):VZ n=[0,0,0,u8 n]:=by
  unfold VZ
  rw [show n / 16777216=0 by omega,show n / 65536=0 by omega,show n / 256=0 by omega];rfl
theorem V1{n:Int}(hn:0≤n∧n≤255):BW n 4=some [0,0,0,u8 n]:=by
  rw [aFW ⟨hn.1,by omega⟩,a6F hn]
theorem TR{b:List Int}{a:Nat}(h:a+4≤b.length)(hl:b.length≤100000){n:Int}(hn:0≤n∧n≤255):wB b (a:Int) [0,0,0,u8 n]=some (ZV b a n):=by
  rw [←a6F hn,aFX h hl ⟨hn.1,by omega⟩,aW3 hn]
end Go.Gv
end
noncomputable section
namespace Go.Gv
theorem a2M{x y z:Int}:∀(a:Nat) (l:List Int),a+3≤l.length→dQ l a [x,y,z]=((l.set a x).set (a+1) y).set (a+2) z
  | 0, l, h => by
    match l,h with
    | _ :: _ :: _ :: t,_=>simp [dQ]
  | a + 1, l, h => by
    match l,h with
    | u :: t, h =>
      have ih:=a2M (x:=x) (y:=y) (z:=z) a t (by simp at h;omega)
      simp only [List.set_cons_succ,←ih]
      simp [dQ,Nat.add_right_comm]
def aW4(p k:Nat)(c:Int):Nat:=(eJ ((p:Int) * 4+k) c).toNat
def gB(b:List Int)(p:Nat)(c:Int):Nat→List Int
  | 0=>((b.set (p * 64) 171).set (p * 64+1) c).set (p * 64+2) (b9 c)
  | k+1=>ZV (gB b p c k) (aW4 p k c) 1
theorem KV(b:List Int)(p:Nat)(c:Int):∀k,(gB b p c k).length=b.length
  | 0=>by simp [gB]
  | k+1=>by rw [gB,EN,KV b p c k]
theorem aFY{l:List Int}(i:Nat){v:Int}(hl:vJ l)(hv:0≤v∧v≤255):vJ (l.set i v):=fun x hx=>by
  rcases List.mem_or_eq_of_mem_set hx with h | rfl
  · exact hl x h
  · exact hv
theorem aLF{b:List Int}(hb:vJ b)(p:Nat){c:Int}(hc:0≤c∧c≤2):∀k,vJ (gB b p c k)
  | 0 => by
    have:=mQ c
    exact aFY _ (aFY _ (aFY _ hb (by omega)) (by omega)) (by omega)
  | k+1=>aNI (aLF hb p hc k) _ (by omega)
def gS(p:Nat)(n:Nat):List Int:=(List.range n).map fun(i:Nat)=>(p:Int) * 4+(i:Int)
theorem KW(p n:Nat):(gS p n).length=n:=by simp [gS]
theorem aSA(p n:Nat):gS p (n+1)=gS p n ++ [(p:Int) * 4+(n:Int)]:=by simp [gS,List.range_succ]
theorem aLG{p k:Nat}{c:Int}(hp:p < 6)(hk:(k:Int) < b9 c):eJ ((p:Int) * 4+k) c=(aW4 p k c:Int)∧aW4 p k c+4≤384:=by
  have h4:=mQ c
  have hm:=KP (c:=c) (i:=(k:Int)) (by omega) hk
  have hst:4≤aU c:=by
    have:0≤c∧c≤2:=hY.1 (by omega)
    rcases fY this with e | e | e <;> rw [e] <;> decide
  have e:eJ ((p:Int) * 4+k) c=(p:Int) * 64+8+(k:Int) * aU c:=by
    unfold eJ
    rw [if_pos ⟨by omega,by omega⟩,show((p:Int) * 4+k) / 4=p by omega,show((p:Int) * 4+k) % 4=k by omega]
  unfold aW4
  rw [e];omega
theorem aJQ{p k:Nat}(hp:p < 6)(hk:k < 4):rV (p:Int) (k:Int)=some ((p:Int) * 4+k)∧LZ (p:Int) (k:Int)=some ((p:Int) * 4+k):=by
  have a:0≤(p:Int)∧(p:Int)≤5:=by omega
  have b:0≤(k:Int)∧(k:Int)≤3:=by omega
  have e1:aY ((p:Int) * 4)=(p:Int) * 4:=aN (by omega) (by omega)
  have e2:aY ((p:Int) * 4+k)=(p:Int) * 4+k:=aN (by omega) (by omega)
  constructor
  · unfold rV wJ;rw [cE,cE,bA a,bA b,e1,e2];rfl
  · unfold LZ DA;rw [eG,eG,bA a,bA b,e1,e2];rfl
noncomputable section
variable {b:List Int} (hb:b.length=384) {p:Nat} (hp:p < 6) {c:Int} (hc:0≤c∧c≤2)
include hb hp hc
theorem aFZ:loop (BL c (p:Int)) ([],0,gB b p c 0)=some (gS p (b9 c).toNat,gB b p c (b9 c).toNat):=by
  have h4:=mQ c
  refine iQ (b9 c).toNat (fun k=>(gS p k,(k:Int),gB b p c k)) _ (fun k hk=>?_) ?_
  · have ho:=aLG (c:=c) hp (k:=k) (by omega)
    simp only [BL,RF,iD,aG]
    rw [if_pos (by simp;omega),(aJQ hp (by omega)).1]
    simp only [aG,uJ,ho.1]
    rw [H4 (by rw [KV];omega) (by rw [KV];omega) (by omega)]
    simp only [aG]
    rw [aQ (by rw [KW];simp;omega),aN (by omega) (by omega),aSA];rfl
  · simp only [BL,iD,aG]
    rw [if_neg (by simp;omega)]
theorem aPY:loop (GC c (p:Int) (b9 c)) ([],0,gB b p c 0)=some (gS p (b9 c).toNat,gB b p c (b9 c).toNat):=by
  have h4:=mQ c
  refine iQ (b9 c).toNat (fun k=>(gS p k,(k:Int),gB b p c k)) _ (fun k hk=>?_) ?_
  · have ho:=aLG (c:=c) hp (k:=k) (by omega)
    simp only [GC,MU]
    rw [if_pos (by simp;omega),(aJQ hp (by omega)).2]
    simp only [aG,AP,ho.1]
    rw [V1 (by omega),aG,TR (by rw [KV];omega) (by rw [KV];omega) (by omega)]
    simp only [aG]
    rw [aQ (by rw [KW];simp;omega),aN (by omega) (by omega),aSA];rfl
  · simp only [GC]
    rw [if_neg (by simp;omega)]
end
theorem aW5{h:aE}(hh:VU h){c:Int}(hc:0≤c∧c≤2) :
    (sM h c=some (h,[])∧FF h c=some (h,[])) ∨
    ∃p,p < 6∧bZ h p < 0∧sM h c=some (⟨gB h.Bytes p c (b9 c).toNat,h.Class.set p c⟩,gS p (b9 c).toNat)∧FF h c=some (⟨gB h.Bytes p c (b9 c).toNat,h.Class.set p c⟩,gS p (b9 c).toNat):=by
  have hs:=hh.1
  have h6:=hs.2.1
  have h384:=hs.1
  have hp4:=mQ c
  have hcp:=QC (h:=h) (by omega) (by omega)
  have hne:∀j (hj:j < 6),j < h.Class.findIdx (fun x=>decide (x = -1))→h.Class[j]≠-1:=fun j hj hlt=>by
    have:=List.not_of_lt_findIdx hlt
    simpa using this
  generalize hq:h.Class.findIdx (fun x=>decide (x = -1))=q at hne
  have hq6:q≤6:=by rw [←hq,←h6];exact List.findIdx_le_length
  have s1:∀k (hk:k < q),fB h c (k:Int)=some (.next ((k+1:Nat):Int)):=fun k hk=>by
    have:=hne k (by omega) hk
    have n:(h.Class[k] != -1)=true:=by simpa using this
    simp only [fB,HZ]
    rw [if_pos (by simp;omega),aV (by omega),aG,n,if_pos rfl,aN (by omega) (by omega)];rfl
  have s2:∀k (hk:k < q),eY h.Class (-1) (k:Int)=some (.next ((k+1:Nat):Int)):=fun k hk=>by
    have:=hne k (by omega) hk
    have n:((-1:Int) == h.Class[k])=false:=by simpa using fun a=>this a.symm
    simp only [eY]
    rw [if_pos (by simp;omega),aV (by omega),aG,n,aN (by omega) (by omega)];rfl
  have hm:h.Bytes.length≤maxLen:=by rw [h384];simp [maxLen]
  by_cases h5:q=6
  · left
    have a1:loop (fB h c) 0=some (Out.brk ()):=iQ q (fun k=>(k:Int)) _ s1 (by simp only [fB];rw [if_neg (by simp;omega)])
    have a2:loop (eY h.Class (-1)) 0=some (Out.brk ()):=iQ q (fun k=>(k:Int)) _ s2 (by simp only [eY];rw [if_neg (by simp;omega)])
    constructor
    · unfold sM;rw [a1];rfl
    · unfold FF m5
      rw [a2,hcp,KR hm,kB,bA hh,bA hc];rfl
  · right
    have hq5:q < 6:=by omega
    have he:h.Class[q] = -1:=by
      have:=List.findIdx_getElem (xs:=h.Class) (p:=fun x=>decide (x = -1)) (w:=by rw [hq];omega)
      simp only [hq,decide_eq_true_eq] at this
      exact this
    refine⟨q,hq5,by rw [←US hs hq5,he];omega,?_,?_⟩
    · have a1:loop (fB h c) 0=some (Out.ret (⟨gB h.Bytes q c (b9 c).toNat,h.Class.set q c⟩,gS q (b9 c).toNat)):=iQ q (fun k=>(k:Int)) _ s1 (by
        have e0:aY ((q:Int) * 64)=((q * 64:Nat):Int):=by rw [aN (by omega) (by omega)];omega
        have e1:aY (((q * 64:Nat):Int)+1)=((q * 64+1:Nat):Int):=by rw [aN (by omega) (by omega)];omega
        have e2:aY (((q * 64:Nat):Int)+2)=((q * 64+2:Nat):Int):=by rw [aN (by omega) (by omega)];omega
        have n:(h.Class[q] != -1)=false:=by simpa using he
        simp only [fB,e0,e1,e2,Int.toNat_natCast]
        rw [if_pos (by simp;omega),aV (by omega),aG,n,if_neg (by simp),aV (by omega),aG,aV (by simp;omega),aG,iD,aG,aV (by simp;omega),aG]
        have:=aFZ h384 hq5 hc
        simp only [gB] at this
        rw [this];rfl)
      unfold sM;rw [a1];rfl
    · have a2:loop (eY h.Class (-1)) 0=some (Out.ret (q:Int)):=iQ q (fun k=>(k:Int)) _ s2 (by
        have n:((-1:Int) == h.Class[q])=true:=by rw [he];rfl
        simp only [eY]
        rw [if_pos (by simp;omega),aV (by omega),aG,n];rfl)
      unfold FF m5
      rw [a2,hcp,KR hm,kB,bA hh,bA hc]
      have e0:aY ((q:Int) * 64)=((q * 64:Nat):Int):=by rw [aN (by omega) (by omega)];omega
      simp only [aG,qD,dT,aP,if_false,zW,e0,BP,MV,Int.toNat_natCast]
      rw [bP (by omega),if_neg (by simp),aV (by omega),aG,aQ (by omega),a2M _ _ (by omega)]
      have:=aPY h384 hq5 hc
      simp only [gB] at this
      rw [this];rfl
theorem LOk.count{l:aD}(h:LOk l):(dM l).length≤24:=aPX 24 _ h.2.2.2.2 (fun x hx=>by have:=h.2.2.2.1 x hx;omega)
theorem aTE{m:Mem}(hs:fZ m.aE){s:Int}(hc:0≤aX m.aE s):∃h,AF m s=some h∧GD m s=some h:=by
  unfold AF GD M6 MW yC xO
  rw [pX hs hc,GV hs hc,aG,aG,cE,cE,xA,eG]
  have h1:=(qO hc).1
  simp only [bA h1,aG,dT,aP,if_false]
  by_cases q:1≤iI m.aE s∧iI m.aE s≤6
  · simp only [bA q,dT,aP,if_false];exact⟨_,rfl,rfl⟩
  · simp only [bP q,iF,if_true];exact⟨_,rfl,rfl⟩
theorem WX{l:List aR}{k:Nat}(hk:k < l.length)(t:List Int):(dA (l.set k ⟨l[k].aS++t⟩)).length=(dA l).length+t.length:=by
  rw [FP hk,CL hk];simp;omega
end Go.Gv
end
noncomputable section
namespace Go.Gv
def bt(b:List Int)(i:Nat):Int:=b.getD i 0
theorem aF0{b:List Int}{i:Nat}(h:i < b.length):b[i]=bt b i:=by
  unfold bt;rw [List.getD_eq_getElem?_getD,List.getElem?_eq_getElem h];rfl
theorem ld4{b:List Int}{a:Nat}(h:a+4≤b.length):ld b a 4=((bt b a * 256+bt b (a+1)) * 256+bt b (a+2)) * 256+bt b (a+3):=by
  unfold ld
  rw [List.drop_eq_getElem_cons (by omega),List.drop_eq_getElem_cons (by omega),List.drop_eq_getElem_cons (by omega),List.drop_eq_getElem_cons (by omega)]
  simp only [List.take_succ_cons,List.take_zero,ldF,List.foldl_cons,List.foldl_nil,aF0 (b:=b) (i:=a) (by omega),aF0 (b:=b) (i:=a+1) (by omega),aF0 (b:=b) (i:=a+1+1) (by omega),aF0 (b:=b) (i:=a+1+1+1) (by omega)]
  simp only [Nat.add_assoc,Nat.reduceAdd];omega
theorem B7{b:List Int}{i j:Nat}{v:Int}(hi:i < b.length):bt (b.set i v) j=if j=i then v else bt b j:=by
  unfold bt
  rw [List.getD_eq_getElem?_getD,List.getD_eq_getElem?_getD,List.getElem?_set]
  by_cases h:i=j
  · subst h;simp [hi]
  · have h':¬j=i:=fun q=>h q.symm
    simp [h,h']
theorem xB{b:List Int}{a:Nat}{n:Int}(h:a+4≤b.length)(j:Nat):bt (ZV b a n) j=if j=a+3 then n else if a≤j∧j < a+3 then 0 else bt b j:=by
  unfold ZV
  rw [B7 (by simp;omega),B7 (by simp;omega),B7 (by simp;omega),B7 (by omega)]
  by_cases h1:j=a+3
  · simp [h1]
  · rw [if_neg h1,if_neg h1]
    by_cases h2:a≤j∧j < a+3
    · rw [if_pos h2]
      by_cases h3:j=a+2
      · simp [h3]
      · rw [if_neg h3]
        by_cases h4:j=a+1
        · simp [h4]
        · rw [if_neg h4,if_pos (by omega)]
    · rw [if_neg h2,if_neg (by omega),if_neg (by omega),if_neg (by omega)]
theorem aPZ{b:List Int}{a:Nat}{n:Int}(h:a+4≤b.length):ld (ZV b a n) a 4=n:=by
  rw [ld4 (by rw [EN];exact h),xB h,xB h,xB h,xB h,if_neg (by omega),if_pos (by omega),if_neg (by omega),if_pos (by omega),if_neg (by omega),if_pos (by omega),if_pos rfl]
  omega
theorem JK{b b':List Int}{a:Nat}(h:a+4≤b.length)(hl:b'.length=b.length)(hs:∀j,a≤j→j < a+4→bt b' j=bt b j):ld b' a 4=ld b a 4:=by
  rw [ld4 (by omega),ld4 h,hs a (by omega) (by omega),hs (a+1) (by omega) (by omega),hs (a+2) (by omega) (by omega),hs (a+3) (by omega) (by omega)]
def ZX(h:aE)(p:Nat):Prop:=
  if bZ h p < 0 then ∀k,k < 64→bt h.Bytes (p * 64+k)=0
  else ((bt h.Bytes (p * 64)=171∧bt h.Bytes (p * 64+1)=bZ h p∧bt h.Bytes (p * 64+2)=b9 (bZ h p))∧(∀k,3≤k→k < 8→bt h.Bytes (p * 64+k)=0)∧∀i,i < (b9 (bZ h p)).toNat→1≤ld h.Bytes (p * 64+8+i * (aU (bZ h p)).toNat) 4∧ld h.Bytes (p * 64+8+i * (aU (bZ h p)).toNat) 4≤7)
theorem aJR{h:aE}(hs:fZ h){p:Nat}(hp:p < 6){k:Nat}(hk:k < 64):(eD h p).getD k 0=bt h.Bytes (p * 64+k):=by
  rw [←aJL hs hp hk,aF0 (by have:=hs.1;omega)]
theorem YB{l:List Int}{x:Int}:x∈l↔∃k,k < l.length∧l.getD k 0=x:=by
  rw [List.mem_iff_getElem]
  constructor
  · rintro⟨k,hk,e⟩
    exact⟨k,hk,by rw [List.getD_eq_getElem?_getD,List.getElem?_eq_getElem hk];exact e⟩
  · rintro⟨k,hk,e⟩
    exact⟨k,hk,by rw [List.getD_eq_getElem?_getD,List.getElem?_eq_getElem hk] at e;exact e⟩
theorem KX{h:aE}(hs:fZ h){p:Nat}(hp:p < 6):nK h p↔ZX h p:=by
  unfold nK ZX
  have hl:=KQ hs hp
  split
  · constructor
    · intro q k hk
      rw [←aJR hs hp hk]
      exact q _ (YB.2 ⟨k,by omega,rfl⟩)
    · intro q x hx
      obtain⟨k,hk,rfl⟩:=YB.1 hx
      rw [aJR hs hp (by omega)];exact q k (by omega)
  · rw [aJR hs hp (by omega),aJR hs hp (by omega),aJR hs hp (by omega)]
    have e:(∀x∈((eD h p).drop 3).take 5,x=0)↔∀k,3≤k→k < 8→bt h.Bytes (p * 64+k)=0:=by
      have g:∀j,j < 5→(((eD h p).drop 3).take 5).getD j 0=bt h.Bytes (p * 64+(3+j)):=fun j hj=>by
        rw [←aJR hs hp (by omega),List.getD_eq_getElem?_getD,List.getD_eq_getElem?_getD,List.getElem?_take,if_pos hj,List.getElem?_drop]
      constructor
      · intro q k h3 h8
        have:=q _ (YB.2 ⟨k - 3,by simp [hl];omega,rfl⟩)
        rw [g _ (by omega)] at this
        rw [show 3+(k - 3)=k by omega] at this;exact this
      · intro q x hx
        obtain⟨k,hk,rfl⟩:=YB.1 hx
        simp [hl] at hk
        rw [g _ hk];exact q _ (by omega) (by omega)
    rw [e];rfl
theorem ZX.same{h h':aE}{p:Nat}(hp:p < 6)(hs:fZ h)(hl:h'.Bytes.length=h.Bytes.length)(hc:bZ h' p=bZ h p)(hb:∀k,k < 64→bt h'.Bytes (p * 64+k)=bt h.Bytes (p * 64+k))(q:ZX h p):ZX h' p:=by
  have h1:=hs.1
  unfold ZX at q ⊢
  rw [hc]
  split
  · rename_i q0;rw [if_pos q0] at q
    exact fun k hk=>by rw [hb k hk];exact q k hk
  · rename_i q0;rw [if_neg q0] at q
    obtain⟨⟨a1,a2,a3⟩,a4,a5⟩:=q
    have b0:=hb 0 (by omega);have b1:=hb 1 (by omega);have b2:=hb 2 (by omega)
    simp only [Nat.add_zero] at b0
    refine⟨⟨by rw [b0];exact a1,by rw [b1];exact a2,by rw [b2];exact a3⟩,fun k k3 k8=>by rw [hb k (by omega)];exact a4 k k3 k8,fun i hi=>?_⟩
    have hz:=uK hs hp (c:=bZ h p) rfl hi
    rw [JK (b:=h.Bytes) (by omega) hl fun j j1 j2=>by
      have:=hb (j - p * 64) (by omega)
      rw [show p * 64+(j - p * 64)=j by omega] at this;exact this]
    exact a5 i hi
theorem tY{h:aE}{s:Int}(hc:0≤aX h s):∃p i,p < 6∧i < (b9 (bZ h p)).toNat∧s=(p:Int) * 4+i∧aX h s=bZ h p∧(eJ s (aX h s)).toNat=p * 64+8+i * (aU (bZ h p)).toNat∧(s / 4).toNat=p:=by
  obtain⟨h1,h2,h3⟩:=qO hc
  have hle:=mQ (bZ h (s / 4).toNat)
  refine⟨(s / 4).toNat,(s % 4).toNat,by omega,by omega,by omega,h3,?_,rfl⟩
  rw [h3]
  unfold eJ
  rw [if_pos ⟨h1,by omega⟩]
  have hst:=(WV (bZ h (s / 4).toNat)).1
  have e:s % 4 * aU (bZ h (s / 4).toNat)=(((s % 4).toNat * (aU (bZ h (s / 4).toNat)).toNat:Nat):Int):=by
    rw [Int.natCast_mul,Int.toNat_of_nonneg (by omega),Int.toNat_of_nonneg hst]
  omega
theorem QD{c:Int}{i j:Nat}(hi:i < (b9 c).toNat)(hj:j < (b9 c).toNat)(hn:i≠j):i * (aU c).toNat+4≤j * (aU c).toNat∨j * (aU c).toNat+4≤i * (aU c).toNat:=by
  have hc:0≤c∧c≤2:=hY.1 (by omega)
  have h12:12≤(aU c).toNat:=by rcases fY hc with rfl | rfl | rfl <;> decide
  rcases Nat.lt_or_gt_of_ne hn with q | q
  · left
    have:(i+1) * (aU c).toNat≤j * (aU c).toNat:=Nat.mul_le_mul_right _ q
    rw [Nat.add_mul] at this;omega
  · right
    have:(j+1) * (aU c).toNat≤i * (aU c).toNat:=Nat.mul_le_mul_right _ q
    rw [Nat.add_mul] at this;omega
theorem VU.aW6{h:aE}(hh:VU h){s g:Int}(hc:0≤aX h s)(hg:1≤g∧g≤7) :
    VU ⟨ZV h.Bytes (eJ s (aX h s)).toNat g,h.Class⟩∧∀t,0≤aX h t→iI ⟨ZV h.Bytes (eJ s (aX h s)).toNat g,h.Class⟩ t=if t=s then g else iI h t:=by
  obtain⟨hs,hp⟩:=hh
  have h384:=hs.1
  have hs':fZ ⟨ZV h.Bytes (eJ s (aX h s)).toNat g,h.Class⟩:=⟨by rw [EN];exact hs.1,hs.2.1,aNI hs.2.2.1 _ (by omega),hs.2.2.2⟩
  obtain⟨p,i,p6,hi,es,ec,eo,ep⟩:=tY hc
  have hz:=uK hs p6 rfl hi
  have h4:=mQ (bZ h p)
  refine⟨⟨hs',fun q hq=>?_⟩,fun t ht=>?_⟩
  · rw [KX hs' hq]
    have hold:=(KX hs hq).1 (hp q hq)
    by_cases e:q=p
    · subst e
      have hpos:0 < b9 (bZ h q):=by omega
      have hcl:¬bZ h q < 0:=by have:=hY.1 hpos;omega
      unfold ZX at hold ⊢
      have hcl':bZ ⟨ZV h.Bytes (eJ s (aX h s)).toNat g,h.Class⟩ q=bZ h q:=rfl
      rw [hcl']
      rw [if_neg hcl] at hold ⊢
      obtain⟨⟨a1,a2,a3⟩,a4,a5⟩:=hold
      have bs:∀k,k < 8→bt (ZV h.Bytes (eJ s (aX h s)).toNat g) (q * 64+k)=bt h.Bytes (q * 64+k):=fun k hk=>by
        rw [xB (by omega),if_neg (by omega),if_neg (by omega)]
      have b0:=bs 0 (by omega);have b1:=bs 1 (by omega);have b2:=bs 2 (by omega)
      simp only [Nat.add_zero] at b0
      refine⟨⟨by rw [b0];exact a1,by rw [b1];exact a2,by rw [b2];exact a3⟩,fun k k3 k8=>by rw [bs k k8];exact a4 k k3 k8,fun j hj=>?_⟩
      have hzj:=uK hs p6 rfl hj
      by_cases ej:j=i
      · subst ej
        simp only [eo]
        rw [aPZ (by omega)];exact hg
      · rw [JK (b:=h.Bytes) (by omega) (by simp only [EN]) fun k k1 k2=>?_]
        · exact a5 j hj
        · simp only [eo]
          have:=QD hi hj (fun q=>ej q.symm)
          rw [xB (by omega),if_neg (by omega),if_neg (by omega)]
    · refine ZX.same hq hs (by simp only [EN]) rfl (fun k hk=>?_) hold
      rw [xB (by omega),if_neg (by omega),if_neg (by omega)]
  · have e2:aX ⟨ZV h.Bytes (eJ s (aX h s)).toNat g,h.Class⟩ t=aX h t:=rfl
    unfold iI
    rw [e2]
    by_cases e:t=s
    · subst e;rw [if_pos rfl];simp only;rw [aPZ (by omega)]
    · rw [if_neg e]
      obtain⟨p',i',p6',hi',es',ec',eo',ep'⟩:=tY ht
      have hz':=uK hs p6' rfl hi'
      rw [JK (b:=h.Bytes) (by omega) (by simp only [EN]) fun k k1 k2=>?_]
      simp only
      by_cases ee:p'=p
      · subst ee
        have:=QD hi hi' (fun q=>e (by rw [es,es',q]))
        rw [xB (by omega),if_neg (by omega),if_neg (by omega)]
      · have h4':=mQ (bZ h p')
        rw [xB (by omega),if_neg (by omega),if_neg (by omega)]
theorem aDF{p k:Nat}{c:Int}(hp:p < 6)(hk:(k:Int) < b9 c):aW4 p k c=p * 64+8+k * (aU c).toNat∧8+k * (aU c).toNat+4≤64:=by
  have hc:0≤c∧c≤2:=hY.1 (by omega)
  have h1:=aLG (c:=c) hp hk
  have hle:=mQ c
  have e:=h1.1
  unfold eJ at e
  rw [if_pos (by omega)] at e
  have e1:((p:Int) * 4+k) / 4=p:=by omega
  have e2:((p:Int) * 4+k) % 4=k:=by omega
  rw [e1,e2] at e
  rcases fY hc with rfl | rfl | rfl
  · rw [show aU 0=12 from rfl] at e ⊢
    rw [show b9 0=4 from rfl] at hk
    rw [show(12:Int).toNat=12 from rfl]
    omega
  · rw [show aU 1=20 from rfl] at e ⊢
    rw [show b9 1=2 from rfl] at hk
    rw [show(20:Int).toNat=20 from rfl]
    omega
  · rw [show aU 2=44 from rfl] at e ⊢
    rw [show b9 2=1 from rfl] at hk
    rw [show(44:Int).toNat=44 from rfl]
    omega
theorem aW7{b:List Int}{p:Nat}{c:Int}(hl:b.length=384)(hp:p < 6)(hc:0≤c∧c≤2):∀k:Nat,(k:Int)≤b9 c→∀j,(j < p * 64∨p * 64+64≤j→bt (gB b p c k) j=bt b j)∧(3≤j→j < 8→bt (gB b p c k) (p * 64+j)=bt b (p * 64+j))∧bt (gB b p c k) (p * 64)=171∧bt (gB b p c k) (p * 64+1)=c∧bt (gB b p c k) (p * 64+2)=b9 c
  | 0, hk, j => by
    have key:∀i,bt (gB b p c 0) i=if i=p * 64+2 then b9 c else if i=p * 64+1 then c else if i=p * 64 then 171 else bt b i:=fun i=>by
      unfold gB
      rw [B7 (by simp;omega),B7 (by simp;omega),B7 (by omega)]
    refine⟨fun h=>?_,fun h1 h2=>?_,?_,?_,?_⟩
    · rw [key,if_neg (by omega),if_neg (by omega),if_neg (by omega)]
    · rw [key,if_neg (by omega),if_neg (by omega),if_neg (by omega)]
    · rw [key,if_neg (by omega),if_neg (by omega),if_pos rfl]
    · rw [key,if_neg (by omega),if_pos rfl]
    · rw [key,if_pos rfl]
  | k + 1, hk, j => by
    have ih:=aW7 hl hp hc k (by omega)
    have hoff:=aDF (c:=c) hp (by omega:(k:Int) < b9 c)
    have hbl:=KV b p c k
    unfold gB
    refine⟨fun h=>?_,fun h1 h2=>?_,?_,?_,?_⟩
    · rw [xB (by omega),if_neg (by omega),if_neg (by omega)];exact(ih j).1 h
    · rw [xB (by omega),if_neg (by omega),if_neg (by omega)];exact(ih j).2.1 h1 h2
    · rw [xB (by omega),if_neg (by omega),if_neg (by omega)];exact(ih j).2.2.1
    · rw [xB (by omega),if_neg (by omega),if_neg (by omega)];exact(ih j).2.2.2.1
    · rw [xB (by omega),if_neg (by omega),if_neg (by omega)];exact(ih j).2.2.2.2
theorem aW8{b:List Int}{p:Nat}{c:Int}(hl:b.length=384)(hp:p < 6):∀k:Nat,(k:Int)≤b9 c→∀i,i < k→ld (gB b p c k) (p * 64+8+i * (aU c).toNat) 4=1
  | 0,_,i,h=>absurd h (by omega)
  | k + 1, hk, i, h => by
    have hbl:=KV b p c k
    have ho:=aDF (c:=c) hp (by omega:(k:Int) < b9 c)
    unfold gB
    by_cases e:i=k
    · subst e;rw [←ho.1];exact aPZ (by omega)
    · have hoi:=aDF (c:=c) hp (by omega:(i:Int) < b9 c)
      have ha:=QD (c:=c) (i:=i) (j:=k) (by omega) (by omega) e
      rw [JK (b:=gB b p c k) (by omega) (by rw [EN]) fun j j1 j2=>by rw [xB (by omega),if_neg (by omega),if_neg (by omega)]]
      exact aW8 hl hp k (by omega) i (by omega)
theorem TS{h:aE}(hs:fZ h){B:List Int}{p q:Nat}(hq:q < 6){c:Int}:bZ ⟨B,h.Class.set p c⟩ q=if q=p then c else bZ h q:=by
  have h6:=hs.2.1
  unfold bZ
  rw [List.getD_eq_getElem?_getD,List.getD_eq_getElem?_getD,List.getElem?_set]
  by_cases e:p=q
  · subst e;simp [h6,hq]
  · have e':¬q=p:=fun z=>e z.symm
    simp [e,e']
theorem VU.a2N{h:aE}(hh:VU h){p:Nat}(hp:p < 6)(hun:bZ h p < 0){c:Int}(hc:0≤c∧c≤2) :
    VU ⟨gB h.Bytes p c (b9 c).toNat,h.Class.set p c⟩∧(∀t,(t / 4).toNat≠p→aX ⟨gB h.Bytes p c (b9 c).toNat,h.Class.set p c⟩ t=aX h t)∧(∀t,0≤aX h t→(t / 4).toNat≠p∧iI ⟨gB h.Bytes p c (b9 c).toNat,h.Class.set p c⟩ t=iI h t) ∧
      ∀i,i < (b9 c).toNat→aX ⟨gB h.Bytes p c (b9 c).toNat,h.Class.set p c⟩ ((p:Int) * 4+i)=c∧iI ⟨gB h.Bytes p c (b9 c).toNat,h.Class.set p c⟩ ((p:Int) * 4+i)=1:=by
  obtain⟨hs,hpg⟩:=hh
  have h384:=hs.1
  have hle:=mQ c
  have hpn:((b9 c).toNat:Int)≤b9 c:=by omega
  have hb:=aW7 h384 hp hc (b9 c).toNat hpn
  have hbl:=KV h.Bytes p c (b9 c).toNat
  have hs':fZ ⟨gB h.Bytes p c (b9 c).toNat,h.Class.set p c⟩:=⟨by simp only [hbl];exact h384,by simp only [List.length_set];exact hs.2.1,aLF hs.2.2.1 p hc _,fun x hx=>by
    rcases List.mem_or_eq_of_mem_set hx with q | rfl
    · exact hs.2.2.2 x q
    · omega⟩
  have hcls:∀t:Int,(t / 4).toNat≠p→aX ⟨gB h.Bytes p c (b9 c).toNat,h.Class.set p c⟩ t=aX h t:=fun t ht=>by
    unfold aX
    by_cases q:0≤t∧t≤23
    · rw [TS hs (by omega),if_neg ht]
    · rw [if_neg (fun z=>q z.1),if_neg (fun z=>q z.1)]
  refine⟨⟨hs',fun q hq=>?_⟩,hcls,fun t ht=>?_,fun i hi=>?_⟩
  · rw [KX hs' hq]
    have hold:=(KX hs hq).1 (hpg q hq)
    by_cases e:q=p
    · subst e
      unfold ZX at hold ⊢
      rw [if_pos hun] at hold
      rw [TS hs hq,if_pos rfl,if_neg (by omega)]
      refine⟨(hb 0).2.2,fun k k3 k8=>?_,fun i hi=>?_⟩
      · simp only;rw [(hb k).2.1 k3 k8];exact hold k (by omega)
      · simp only;rw [aW8 h384 hp _ hpn i hi];omega
    · refine ZX.same hq hs (by simp only [hbl]) (by rw [TS hs hq,if_neg e]) (fun k hk=>?_) hold
      exact(hb _).1 (by omega)
  · obtain⟨p',i',p6',hi',es',ec',eo',ep'⟩:=tY ht
    have hne:(t / 4).toNat≠p:=fun z=>by rw [ec',←ep',z] at ht;omega
    refine⟨hne,?_⟩
    have hz':=uK hs p6' rfl hi'
    unfold iI
    rw [hcls t hne,JK (b:=h.Bytes) (by omega) (by simp only [hbl]) fun k k1 k2=>(hb k).1 (by omega)]
  · have e1:((p:Int) * 4+i) / 4=p:=by omega
    have e2:((p:Int) * 4+i) % 4=i:=by omega
    have ec:aX ⟨gB h.Bytes p c (b9 c).toNat,h.Class.set p c⟩ ((p:Int) * 4+i)=c:=by
      unfold aX
      rw [e1,e2,Int.toNat_natCast,TS hs hp,if_pos rfl,if_pos (by omega)]
    refine⟨ec,?_⟩
    unfold iI
    rw [ec]
    have ho:=aDF (c:=c) hp (by omega:(i:Int) < b9 c)
    have:(eJ ((p:Int) * 4+i) c).toNat=p * 64+8+i * (aU c).toNat:=ho.1
    rw [this]
    exact aW8 h384 hp _ hpn i hi
def y7(m m':Mem)(k:Int):Prop:=mW m'∧∀s,eQ m s=3→s≠k→eQ m' s=3∧iI m'.aE s=iI m.aE s∧aX m'.aE s=aX m.aE s
theorem y7.refl{m:Mem}(h:mW m)(k:Int):y7 m m k:=⟨h,fun _ h _=>⟨h,rfl,rfl⟩⟩
theorem y7.live{m m':Mem}{k h:Int}(q:y7 m m' k)(hl:g9 m h)(hn:h % 32≠k):g9 m' h:=by
  obtain⟨h1,h2,h3⟩:=hl
  obtain⟨a,b,_⟩:=q.2 _ h2 hn
  exact⟨h1,a,by rw [b];exact h3⟩
theorem MH{l:List aR}{k j:Nat}(hk:k < l.length){t:aR}:d4 (l.set k t) j=if j=k then t.aS else d4 l j:=by
  unfold d4
  rw [List.getD_eq_getElem?_getD,List.getD_eq_getElem?_getD,List.getElem?_set]
  by_cases e:k=j
  · subst e;simp [hk]
  · have e':¬j=k:=fun z=>e z.symm
    simp [e,e']
theorem aJS{l:List aR}{k:Nat}(hk:k < l.length){t:aR}(ht:t.aS.Sublist l[k].aS):(dA (l.set k t)).Sublist (dA l):=by
  rw [FP hk,CL hk]
  exact(List.Sublist.refl _).append (ht.append (List.Sublist.refl _))
theorem EP{l:List aR}{k:Nat}(hk:k < l.length){xs:List Int}{s:Int}:s∈dA (l.set k ⟨l[k].aS++xs⟩)↔s∈dA l∨s∈xs:=by
  rw [FP hk,CL hk]
  simp only [List.mem_append]
  constructor
  · rintro(h | (h | h) | h)
    · exact .inl (.inl h)
    · exact .inl (.inr (.inl h))
    · exact .inr h
    · exact .inl (.inr (.inr h))
  · rintro((h | h | h) | h)
    · exact .inl h
    · exact .inr (.inl (.inl h))
    · exact .inr (.inr h)
    · exact .inr (.inl (.inr h))
theorem TU{l:List aR}{k:Nat}(hk:k < l.length){xs r q:List Int}(h:(q++(dA l++r)).Nodup)(hx:xs.Nodup)(hd:∀x∈xs,x∉q++(dA l++r)):(q++(dA (l.set k ⟨l[k].aS++xs⟩)++r)).Nodup:=by
  have hp:(q++(dA (l.set k ⟨l[k].aS++xs⟩)++r)).Perm (xs++(q++(dA l++r))):=by
    rw [FP hk,CL hk]
    have e1:q++(dA (l.take k)++(l[k].aS++xs++dA (l.drop (k+1)))++r)=(q++dA (l.take k)++l[k].aS)++(xs++(dA (l.drop (k+1))++r)):=by simp
    have e2:xs++(q++(dA (l.take k)++(l[k].aS++dA (l.drop (k+1)))++r))=xs++((q++dA (l.take k)++l[k].aS)++(dA (l.drop (k+1))++r)):=by simp
    rw [e1,e2]
    exact List.perm_append_comm_assoc _ _ _
  rw [hp.nodup_iff,List.nodup_append]
  exact⟨hx,h,fun a ha b hb e=>hd a ha (e ▸ hb)⟩
theorem gX{m:Mem}{s:Int}:eQ m s=3↔0≤aX m.aE s∧s∉dM m.aD∧iI m.aE s≤6:=by
  unfold eQ
  constructor
  · intro h
    split at h
    · omega
    · split at h
      · omega
      · split at h
        · omega
        · exact⟨by omega,by assumption,by omega⟩
  · rintro⟨a,b,c⟩
    rw [if_neg (by omega),if_neg b,if_neg (by omega)]
noncomputable section
variable {m:Mem} (hm:mW m)
include hm
theorem mW.a36{k:Nat}(hk:k < 9){t:aR}(ht:t.aS.Sublist (d4 m.aD.cT k)):y7 m ⟨m.aE,⟨m.aD.Global,m.aD.cT.set k t⟩⟩ (-1):=by
  obtain⟨⟨hh,h3,h9,h2,hr,hn⟩,hg,ho⟩:=hm
  have hk':k < m.aD.cT.length:=by omega
  have ht':t.aS.Sublist m.aD.cT[k].aS:=by rw [dV hk'];exact ht
  have hsub:(dM ⟨m.aD.Global,m.aD.cT.set k t⟩).Sublist (dM m.aD):=(List.Sublist.refl _).append (aJS hk' ht')
  refine⟨⟨⟨hh,h3,by simpa using h9,fun s hs=>?_,fun x hx=>hr x (hsub.subset hx),hsub.nodup hn⟩,hg,fun j hj=>?_⟩,fun s hs _=>⟨?_,rfl,rfl⟩⟩
  · rcases List.mem_or_eq_of_mem_set hs with q | rfl
    · exact h2 s q
    · have:=ht'.length_le;have:=h2 _ (List.getElem_mem hk');omega
  · unfold EL
    simp only [MH hk']
    split
    · rename_i e;subst e
      exact fun x hx=>ho j hj x (ht.subset hx)
    · exact ho j hj
  · rw [gX] at hs ⊢
    exact⟨hs.1,fun q=>hs.2.1 (hsub.subset q),hs.2.2⟩
theorem mW.aTF{k:Nat}(hk:k < 3){t:aR}(ht:t.aS.Sublist (d4 m.aD.Global k)):y7 m ⟨m.aE,⟨m.aD.Global.set k t,m.aD.cT⟩⟩ (-1):=by
  obtain⟨⟨hh,h3,h9,h2,hr,hn⟩,hg,ho⟩:=hm
  have hk':k < m.aD.Global.length:=by omega
  have ht':t.aS.Sublist m.aD.Global[k].aS:=by rw [dV hk'];exact ht
  have hsub:(dM ⟨m.aD.Global.set k t,m.aD.cT⟩).Sublist (dM m.aD):=(aJS hk' ht').append (List.Sublist.refl _)
  refine⟨⟨⟨hh,by simpa using h3,h9,h2,fun x hx=>hr x (hsub.subset hx),hsub.nodup hn⟩,fun j hj=>?_,ho⟩,fun s hs _=>⟨?_,rfl,rfl⟩⟩
  · unfold LL
    simp only [MH hk']
    split
    · rename_i e;subst e
      exact fun x hx=>hg j hj x (ht.subset hx)
    · exact hg j hj
  · rw [gX] at hs ⊢
    exact⟨hs.1,fun q=>hs.2.1 (hsub.subset q),hs.2.2⟩
theorem mW.a0N{k:Nat}(hk:k < 9){xs:List Int}(hl:(d4 m.aD.cT k).length+xs.length≤2)(hx:xs.Nodup)(hf:EK m.aE xs ((k % 3:Nat):Int))(hd:∀x∈xs,x∉dM m.aD)(hk':k < m.aD.cT.length) :
    mW ⟨m.aE,⟨m.aD.Global,m.aD.cT.set k ⟨m.aD.cT[k].aS++xs⟩⟩⟩∧∀s,s∉xs→eQ m s=3→eQ ⟨m.aE,⟨m.aD.Global,m.aD.cT.set k ⟨m.aD.cT[k].aS++xs⟩⟩⟩ s=3:=by
  obtain⟨⟨hh,h3,h9,h2,hr,hn⟩,hg,ho⟩:=hm
  have hmem:∀s,s∈dM ⟨m.aD.Global,m.aD.cT.set k ⟨m.aD.cT[k].aS++xs⟩⟩↔s∈dM m.aD∨s∈xs:=fun s=>by
    unfold dM;simp only [List.mem_append,EP hk'];rw [or_assoc]
  have hcl:∀x∈xs,0≤x∧x≤23:=fun x h=>by
    have:=(hf x h).1
    exact(qO (h:=m.aE) (s:=x) (by omega)).1
  refine⟨⟨⟨hh,h3,by simpa using h9,fun s hs=>?_,fun x hx=>?_,?_⟩,hg,fun j hj=>?_⟩,fun s hs h3=>?_⟩
  · rcases List.mem_or_eq_of_mem_set hs with q | rfl
    · exact h2 s q
    · rw [←dV hk'] at hl;simpa using hl
  · rcases(hmem x).1 hx with q | q
    · exact hr x q
    · exact hcl x q
  · have:=TU (q:=dA m.aD.Global) (r:=[]) hk' (by simpa [dM] using hn) hx (by simpa [dM] using hd)
    simpa [dM] using this
  · unfold EL
    simp only [MH hk']
    split
    · rename_i e;subst e
      intro x hx
      rcases List.mem_append.1 hx with q | q
      · rw [dV hk'] at q;exact ho j hj x q
      · exact hf x q
    · exact ho j hj
  · rw [gX] at h3 ⊢
    exact⟨h3.1,fun q=>(((hmem s).1 q).elim h3.2.1 hs),h3.2.2⟩
theorem mW.aF1{k:Nat}(hk:k < 3){xs:List Int}(hx:xs.Nodup)(hf:EK m.aE xs (k:Int))(hd:∀x∈xs,x∉dM m.aD)(hk':k < m.aD.Global.length) :
    mW ⟨m.aE,⟨m.aD.Global.set k ⟨m.aD.Global[k].aS++xs⟩,m.aD.cT⟩⟩∧∀s,s∉xs→eQ m s=3→eQ ⟨m.aE,⟨m.aD.Global.set k ⟨m.aD.Global[k].aS++xs⟩,m.aD.cT⟩⟩ s=3:=by
  obtain⟨⟨hh,h3,h9,h2,hr,hn⟩,hg,ho⟩:=hm
  have hmem:∀s,s∈dM ⟨m.aD.Global.set k ⟨m.aD.Global[k].aS++xs⟩,m.aD.cT⟩↔s∈dM m.aD∨s∈xs:=fun s=>by
    unfold dM;simp only [List.mem_append,EP hk'];rw [or_right_comm]
  have hcl:∀x∈xs,0≤x∧x≤23:=fun x h=>by
    have:=(hf x h).1
    exact(qO (h:=m.aE) (s:=x) (by omega)).1
  refine⟨⟨⟨hh,by simpa using h3,h9,h2,fun x hx=>?_,?_⟩,fun j hj=>?_,ho⟩,fun s hs h3=>?_⟩
  · rcases(hmem x).1 hx with q | q
    · exact hr x q
    · exact hcl x q
  · have:=TU (q:=[]) (r:=dA m.aD.cT) hk' (by simpa [dM] using hn) hx (by simpa [dM] using hd)
    simpa [dM] using this
  · unfold LL
    simp only [MH hk']
    split
    · rename_i e;subst e
      intro x hx
      rcases List.mem_append.1 hx with q | q
      · rw [dV hk'] at q;exact hg j hj x q
      · exact hf x q
    · exact hg j hj
  · rw [gX] at h3 ⊢
    exact⟨h3.1,fun q=>(((hmem s).1 q).elim h3.2.1 hs),h3.2.2⟩
theorem mW.nY{x:Int}(hx:x∈dM m.aD):0≤aX m.aE x∧iI m.aE x≤6:=by
  obtain⟨⟨hh,h3,h9,h2,hr,hn⟩,hg,ho⟩:=hm
  have key:∀(l:List aR),x∈dA l→∃k,k < l.length∧x∈d4 l k:=fun l h=>by
    obtain⟨s,h1,h2⟩:=UU.1 h
    obtain⟨k,hk,rfl⟩:=List.mem_iff_getElem.1 h1
    exact⟨k,hk,by rw [←dV hk];exact h2⟩
  rcases List.mem_append.1 hx with q | q
  · obtain⟨k,hk,h⟩:=key _ q
    have:=hg k (by omega) x h
    exact⟨by omega,this.2⟩
  · obtain⟨k,hk,h⟩:=key _ q
    have:=ho k (by omega) x h
    exact⟨by omega,this.2⟩
theorem mW.heap{h':aE}(hh:VU h')(hs:∀x∈dM m.aD,aX h' x=aX m.aE x∧iI h' x=iI m.aE x):mW ⟨h',m.aD⟩:=by
  obtain⟨⟨_,hl⟩,hg,ho⟩:=hm
  have key:∀(l:List aR) k x,x∈d4 l k→x∈dA l:=fun l k x h=>by
    unfold d4 at h
    rw [List.getD_eq_getElem?_getD] at h
    cases hk:l[k]? with
    | none=>rw [hk] at h;simp at h
    | some s=>rw [hk] at h;exact UU.2 ⟨s,List.mem_of_getElem? hk,h⟩
  refine⟨⟨hh,hl⟩,fun k hk x hx=>?_,fun k hk x hx=>?_⟩
  · obtain⟨a,b⟩:=hs x (List.mem_append_left _ (key _ k x hx))
    show aX h' x=_∧iI h' x≤6
    rw [a,b];exact hg k hk x hx
  · obtain⟨a,b⟩:=hs x (List.mem_append_right _ (key _ k x hx))
    show aX h' x=_∧iI h' x≤6
    rw [a,b];exact ho k hk x hx
theorem mW.a7W{s g:Int}(hu:eQ m s=3)(hg:1≤g∧g≤7):y7 m ⟨⟨ZV m.aE.Bytes (eJ s (aX m.aE s)).toNat g,m.aE.Class⟩,m.aD⟩ s∧iI ⟨ZV m.aE.Bytes (eJ s (aX m.aE s)).toNat g,m.aE.Class⟩ s=g:=by
  have hu':=gX.1 hu
  obtain⟨a,b⟩:=VU.aW6 hm.1.1 hu'.1 hg
  refine⟨⟨mW.heap hm a fun x hx=>⟨rfl,?_⟩,fun t ht hn=>?_⟩,by rw [b s hu'.1,if_pos rfl]⟩
  · rw [b x (mW.nY hm hx).1,if_neg (show ¬x=s from fun e=>hu'.2.1 (e ▸ hx))]
  · have ht':=gX.1 ht
    have e:iI ⟨ZV m.aE.Bytes (eJ s (aX m.aE s)).toNat g,m.aE.Class⟩ t=iI m.aE t:=by rw [b t ht'.1,if_neg hn]
    exact⟨gX.2 ⟨ht'.1,ht'.2.1,by simp only [e];exact ht'.2.2⟩,e,rfl⟩
theorem mW.a6G{p:Nat}(hp:p < 6)(hun:bZ m.aE p < 0){c:Int}(hc:0≤c∧c≤2){xs:List Int}(hxs:∀x∈xs,∃i,i < (b9 c).toNat∧x=(p:Int) * 4+(i:Nat))(hx:xs.Nodup)(hk':c.toNat < m.aD.Global.length) :
    y7 m ⟨⟨gB m.aE.Bytes p c (b9 c).toNat,m.aE.Class.set p c⟩,⟨m.aD.Global.set c.toNat ⟨m.aD.Global[c.toNat].aS++xs⟩,m.aD.cT⟩⟩ (-1):=by
  obtain⟨a,b,d,e⟩:=VU.a2N hm.1.1 hp hun hc
  have h1:mW ⟨⟨gB m.aE.Bytes p c (b9 c).toNat,m.aE.Class.set p c⟩,m.aD⟩:=mW.heap hm a fun x hx=>by
    obtain⟨q,r⟩:=d x (mW.nY hm hx).1
    exact⟨b x q,r⟩
  have hno:∀x∈xs,¬0≤aX m.aE x:=fun x h q=>by
    obtain⟨i,hi,rfl⟩:=hxs x h
    have h4:=mQ c
    exact(d _ q).1 (by omega)
  obtain⟨f,g⟩:=mW.aF1 h1 (k:=c.toNat) (by omega) hx (fun x h=>by
    obtain⟨i,hi,rfl⟩:=hxs x h
    have:=e i hi
    exact⟨by simp only [this.1];omega,by simp only [this.2];omega⟩) (fun x h q=>hno x h (mW.nY hm q).1) hk'
  refine⟨f,fun s hs _=>?_⟩
  have hs':=gX.1 hs
  obtain⟨q,r⟩:=d s hs'.1
  have h2:eQ ⟨⟨gB m.aE.Bytes p c (b9 c).toNat,m.aE.Class.set p c⟩,m.aD⟩ s=3:=gX.2 ⟨by simp only [b s q];exact hs'.1,hs'.2.1,by simp only [r];exact hs'.2.2⟩
  exact⟨g s (fun h=>hno s h hs'.1) h2,r,b s q⟩
end
end Go.Gv
end
noncomputable section
namespace Go.Gv
theorem aW9{p n:Nat}{x:Int}(h:x∈gS p n):∃i,i < n∧x=(p:Int) * 4+(i:Nat):=by
  simp only [gS,List.mem_map,List.mem_range] at h
  obtain⟨i,h1,h2⟩:=h
  exact⟨i,h1,h2.symm⟩
theorem aNJ(p n:Nat):(gS p n).Nodup:=by
  unfold gS
  rw [List.Nodup,List.pairwise_map]
  exact List.Pairwise.imp (fun h e=>h (by omega)) (List.nodup_range (n:=n))
theorem aNK{m:Mem}(hm:mW m){c:Int}(hc:0≤c∧c≤2) :
    ∃m' s,DY m c=some (m',s)∧IU m c=some (m',s)∧sY m'∧(0≤s→fZ m'.aE∧0≤aX m'.aE s)∧y7 m m' (-1):=by
  have hl:=hm.1.2
  have hcnt:=hl.count
  have hs:=hm.1.1.1
  have hsl:=hl.VW (by omega)
  have hp4:=mQ c
  have hpp:0 < b9 c:=hY.2 hc
  have hall:=pL m.aD
  have hsG:∀s∈m.aD.Global,s.aS.length≤24:=fun s h=>by have:=AR h;omega
  have hsO:∀s∈m.aD.cT,s.aS.length≤24:=fun s h=>by have:=AR h;omega
  have h3:=hl.1
  have h9:=hl.2.1
  have hcpl:=NP (l:=m.aD) (by omega) (by omega) (fun s h=>by have:=hsG s h;omega) (fun s h=>by have:=hsO s h;omega)
  unfold DY IU
  rcases aW5 hm.1.1 hc with ⟨e1,e2⟩ | ⟨p,hp,hun,e1,e2⟩
  · rw [e1,e2,hcpl]
    have h1:=hs.1;have h2:=hs.2.1
    exact⟨_,_,rfl,rfl,⟨by simp only;omega,by simp only;omega,by simp only;omega,by simp only;omega,by simp only;omega⟩,fun h=>absurd h (by omega),y7.refl hm _⟩
  · rw [e1,e2,hcpl]
    simp only [aG,HW,HV,H0,KW]
    have hn:(((b9 c).toNat:Int) == 0)=false:=by simpa using (by omega:¬((b9 c).toNat:Int)=0)
    have hk:c.toNat < m.aD.Global.length:=by omega
    have hg0:=hsG _ (List.getElem_mem hk)
    have hx:idx m.aD.Global c=some m.aD.Global[c.toNat]:=fL hc.1 (by omega)
    have hz:idx (gS p (b9 c).toNat) 0=some ((p:Int) * 4):=by
      have:=aV (l:=gS p (b9 c).toNat) (k:=0) (by rw [KW];omega)
      rw [show((0:Nat):Int)=0 from rfl] at this
      rw [this];simp [gS]
    have hlen:(List.drop (1:Int).toNat (List.take (b9 c).toNat (gS p (b9 c).toNat))).length≤4:=by simp [KW];omega
    simp only [hn,aP,if_false,hx,aG,hz]
    rw [aQ (by omega),aQ (by omega)]
    have hcl:bZ ⟨gB m.aE.Bytes p c (b9 c).toNat,m.aE.Class.set p c⟩ p=c:=by
      have h6:=hs.2.1
      unfold bZ;simp [List.getD_eq_getElem?_getD,List.getElem?_set,h6,hp]
    refine⟨_,_,rfl,rfl,⟨by simp only [KV];have:=hs.1;omega,by simp only [List.length_set];have:=hs.2.1;omega,by simp only [List.length_set];omega,by simp only;omega,?_⟩,fun _=>⟨⟨by simp only [KV];exact hs.1,by simp only [List.length_set];exact hs.2.1,aLF hs.2.2.1 p hc _,fun x hx=>?_⟩,?_⟩,?_⟩
    · rw [pL];simp only [WX hk];omega
    · rcases List.mem_or_eq_of_mem_set hx with h | rfl
      · exact hs.2.2.2 x h
      · omega
    · unfold aX
      have e4:((p:Int) * 4 / 4).toNat=p:=by omega
      rw [e4]
      simp only [hcl]
      rw [if_pos ⟨by omega,by omega⟩];exact hc.1
    · exact mW.a6G hm hp hun hc (fun x hx=>aW9 (List.mem_of_mem_take (List.mem_of_mem_drop hx))) ((aNJ p _).sublist ((List.drop_sublist _ _).trans (List.take_sublist _ _))) hk
theorem aP0(n:Int):∃c,DX n=some c∧IS n=some c∧(c = -1∨(0≤c∧c≤2)):=by
  have s1:∀k,0≤k∧k≤2→fO n k=some (if 1≤n∧n≤gW k then .stop (Out.ret k) else .next (k+1)):=fun k hk=>by
    simp only [fO]
    rw [if_pos (by simp;omega),rP,aG,cE,aG,aN (by omega) (by omega)]
    by_cases q:1≤n∧n≤gW k
    · rw [bA q,if_pos rfl,if_pos q]
    · rw [bP q,if_neg (by simp),if_neg q]
  have s2:∀k,0≤k∧k≤2→kA n k=some (if 1≤n∧n≤gW k then .stop (Out.ret k) else .next (k+1)):=fun k hk=>by
    simp only [kA,A9]
    rw [if_pos (by simp;omega),TF,aG,aN (by omega) (by omega)]
    by_cases q1:1≤n
    · by_cases q2:n≤gW k <;> simp [q1,q2]
    · simp [q1]
  have st:∀k,0≤k∧k≤2→1≤n∧n≤gW k→loop (fO n) k=some (Out.ret k)∧loop (kA n) k=some (Out.ret k):=fun k hk h=>
    ⟨bU (by rw [s1 k hk,if_pos h]),bU (by rw [s2 k hk,if_pos h])⟩
  have nx:∀k,0≤k∧k≤2→¬(1≤n∧n≤gW k)→loop (fO n) k=loop (fO n) (k+1)∧loop (kA n) k=loop (kA n) (k+1):=fun k hk h=>
    ⟨bV (by rw [s1 k hk,if_neg h]),bV (by rw [s2 k hk,if_neg h])⟩
  unfold DX IS
  by_cases q0:1≤n∧n≤gW 0
  · have:=st 0 (by omega) q0
    rw [this.1,this.2];exact⟨_,rfl,rfl,.inr (by omega)⟩
  · have h0:=nx 0 (by omega) q0
    rw [h0.1,h0.2,show(0:Int)+1=1 from rfl]
    by_cases q1:1≤n∧n≤gW 1
    · have:=st 1 (by omega) q1
      rw [this.1,this.2];exact⟨_,rfl,rfl,.inr (by omega)⟩
    · have h1:=nx 1 (by omega) q1
      rw [h1.1,h1.2,show(1:Int)+1=2 from rfl]
      by_cases q2:1≤n∧n≤gW 2
      · have:=st 2 (by omega) q2
        rw [this.1,this.2];exact⟨_,rfl,rfl,.inr (by omega)⟩
      · have h2:=nx 2 (by omega) q2
        rw [h2.1,h2.2,show(2:Int)+1=3 from rfl,bU (body:=fO n) (r:=Out.brk ()) (by simp [fO]),bU (body:=kA n) (r:=Out.brk ()) (by simp [kA])]
        exact⟨_,rfl,rfl,.inl rfl⟩
theorem aXA{s:aR}(hl:s.aS.length≤1048576):∃t x,sN s=some (t,x)∧wA s=some (x,t)∧t.aS.length≤s.aS.length∧(0≤x→x∈s.aS)∧t.aS.Sublist s.aS:=by
  unfold sN wA M5
  rw [aN (by omega) (by omega)]
  by_cases q:s.aS.length=0
  · rw [if_pos (by simpa using q),if_pos (by simp;omega)]
    exact⟨_,_,rfl,rfl,Nat.le_refl _,fun h=>absurd h (by omega),List.Sublist.refl _⟩
  · have hx:idx s.aS ((s.aS.length:Int) - 1)=some (s.aS[s.aS.length - 1]'(by omega)):=by
      rw [show((s.aS.length:Int) - 1)=((s.aS.length - 1:Nat):Int) by omega,aV (by omega)]
    rw [if_neg (by simpa using q),if_neg (by simp;omega),aQ (by omega),hx]
    simp only [aG]
    rw [aQ (by omega)]
    exact⟨_,_,rfl,rfl,by simp,fun _=>List.getElem_mem _,(List.drop_sublist _ _).trans (List.take_sublist _ _)⟩
theorem O6{w c:Int}(hw:0≤w∧w≤2)(hc:0≤c∧c≤2):wM w c=some (w * 3+c)∧J6 w c=some (w * 3+c):=by
  have e:aY (aY (w * 3)+c)=w * 3+c:=by rw [aN (x:=w * 3) (by omega) (by omega),aN (by omega) (by omega)]
  constructor
  · unfold wM AA;rw [cE,cE,bA hw,bA hc,e];rfl
  · unfold J6 GA;rw [kC,kB,bA hw,bA hc,e];rfl
theorem aF2{l:List aR}{k:Nat}(hk:k < l.length){t:aR}(ht:t.aS.length≤l[k].aS.length):(dA (l.set k t)).length≤(dA l).length:=by
  rw [FP hk,CL hk];simp;omega
noncomputable section
variable {m:Mem} (hm:mW m)
include hm
theorem mW.facts:(dM m.aD).length≤24∧m.aD.Global.length=3∧m.aD.cT.length=9∧m.aE.Bytes.length=384∧m.aE.Class.length=6∧sY m∧iX m.aD=some m.aD∧kQ m.aD=some true ∧
    (∀s∈m.aD.Global,s.aS.length≤24)∧(∀s∈m.aD.cT,s.aS.length≤24):=by
  have hl:=hm.1.2
  have hcnt:=hl.count
  have hall:=pL m.aD
  have hsG:∀s∈m.aD.Global,s.aS.length≤24:=fun s h=>by have:=AR h;omega
  have hsO:∀s∈m.aD.cT,s.aS.length≤24:=fun s h=>by have:=AR h;omega
  have h3:=hl.1;have h9:=hl.2.1
  have h1:=hm.1.1.1.1;have h2:=hm.1.1.1.2.1
  refine⟨hcnt,h3,h9,h1,h2,⟨by omega,by omega,by omega,by omega,by omega⟩,NP (by omega) (by omega) (fun s h=>by have:=hsG s h;omega) (fun s h=>by have:=hsO s h;omega),by rw [RK (by omega),bA hl],hsG,hsO⟩
theorem aF3{w c:Int}(hw:0≤w∧w≤2)(hc:0≤c∧c≤2) :
    ∃l t x,idx m.aD.cT (w * 3+c)=some l∧sN l=some (t,x)∧IT m.aD w c=some (⟨m.aD.Global,m.aD.cT.set (w * 3+c).toNat t⟩,x) ∧
      sY ⟨m.aE,⟨m.aD.Global,m.aD.cT.set (w * 3+c).toNat t⟩⟩∧(0≤x→0≤aX m.aE x)∧y7 m ⟨m.aE,⟨m.aD.Global,m.aD.cT.set (w * 3+c).toNat t⟩⟩ (-1):=by
  obtain⟨hcnt,h3,h9,h1,h2,hsm,hcp,hlo,hsG,hsO⟩:=mW.facts hm
  have hk:(w * 3+c).toNat < m.aD.cT.length:=by omega
  have hx:idx m.aD.cT (w * 3+c)=some m.aD.cT[(w * 3+c).toNat]:=fL (by omega) (by omega)
  have h24:=hsO _ (List.getElem_mem hk)
  obtain⟨t,x,e1,e2,ht,hmem,hsub⟩:=aXA (s:=m.aD.cT[(w * 3+c).toNat]) (by omega)
  have hall:=pL m.aD
  refine⟨_,t,x,hx,e1,?_,⟨by simp only;omega,by simp only;omega,by simp only;omega,by simp only [List.length_set];omega,?_⟩,fun h0=>?_,mW.a36 hm (by omega) (by rw [←dV hk];exact hsub)⟩
  · unfold IT BA
    rw [hcp,(O6 hw hc).2,hlo]
    simp only [aG,dT,aP,if_false]
    rw [bP (by omega),if_neg (by simp),hx,aG,e2];rfl
  · have:=aF2 hk ht
    rw [pL];simp only;omega
  · have:=hm.2.2 (w * 3+c).toNat (by omega) x (by rw [←dV hk];exact hmem h0)
    omega
theorem V2{c:Int}(hc:0≤c∧c≤2) :
    ∃l t x,idx m.aD.Global c=some l∧sN l=some (t,x)∧BC m.aD c=some (⟨m.aD.Global.set c.toNat t,m.aD.cT⟩,x) ∧
      sY ⟨m.aE,⟨m.aD.Global.set c.toNat t,m.aD.cT⟩⟩∧(0≤x→0≤aX m.aE x)∧y7 m ⟨m.aE,⟨m.aD.Global.set c.toNat t,m.aD.cT⟩⟩ (-1):=by
  obtain⟨hcnt,h3,h9,h1,h2,hsm,hcp,hlo,hsG,hsO⟩:=mW.facts hm
  have hk:c.toNat < m.aD.Global.length:=by omega
  have hx:idx m.aD.Global c=some m.aD.Global[c.toNat]:=fL (by omega) (by omega)
  have h24:=hsG _ (List.getElem_mem hk)
  obtain⟨t,x,e1,e2,ht,hmem,hsub⟩:=aXA (s:=m.aD.Global[c.toNat]) (by omega)
  have hall:=pL m.aD
  refine⟨_,t,x,hx,e1,?_,⟨by simp only;omega,by simp only;omega,by simp only [List.length_set];omega,by simp only;omega,?_⟩,fun h0=>?_,mW.aTF hm (by omega) (by rw [←dV hk];exact hsub)⟩
  · unfold BC sD
    rw [hcp,hlo,kB,bA hc]
    simp only [aG,dT,aP,if_false]
    rw [hx,aG,e2];rfl
  · have:=aF2 hk ht
    rw [pL];simp only;omega
  · have:=hm.2.1 c.toNat (by omega) x (by rw [←dV hk];exact hmem h0)
    omega
theorem a0O{w h:Int}(hw:0≤w∧w≤2)(hv:g9 m h):∃m',HD m w (h % 32)=some m'∧PQ m w h=some m'∧sY m'∧y7 m m' (h % 32):=by
  obtain⟨hcnt,h3,h9,h1,h2,hsm,hcp,hlo,hsG,hsO⟩:=mW.facts hm
  have hs:=hm.1.1.1
  have hh:=hv.1
  have hhm:=hh.mod
  have hcl:=iA hv.2.1
  have hgo:=GU hcl
  have hc2:0≤aX m.aE (h % 32)∧aX m.aE (h % 32)≤2:=by
    obtain⟨_,q,e⟩:=qO hcl
    rw [e];exact hY.1 (by omega)
  have hg6:1≤h / 32∧h / 32≤6:=by unfold j7 at hh;omega
  have hbl:m.aE.Bytes.length≤maxLen:=by rw [h1];simp [maxLen]
  have hnot:h % 32∉dM m.aD:=fun q=>by
    have:=hv.2.1;unfold eQ at this;rw [if_neg (by omega),if_pos q] at this;omega
  have hcpH:=QC (h:=m.aE) (by omega) (by omega)
  have eo:eJ (h % 32) (aX m.aE (h % 32))=(((eJ (h % 32) (aX m.aE (h % 32))).toNat:Nat):Int):=by omega
  have ew:aY (h / 32+1)=h / 32+1:=aN (by omega) (by omega)
  have ed:aY (Int.tdiv h 32)=h / 32:=by rw [HL (by unfold j7 at hh;omega),aN (by omega) (by omega)]
  have hall:=pL m.aD
  obtain⟨hr1,hr2⟩:=mW.a7W hm hv.2.1 (g:=h / 32+1) (by omega)
  have hu:=gX.1 hv.2.1
  unfold HD PQ SN r9
  rw [hhm.1,i9 hs,hcpH,EJ hbl,bA hs,l8 hs,ed,ew,hcp]
  simp only [aG,dT,aP,if_false,J8,DF,J7]
  rw [pX hs hcl,hv.2.2,eG,bP (show ¬aX m.aE (h % 32) < 0 by omega),bA (show 1≤h / 32+1∧h / 32+1≤7 by omega)]
  simp only [aG,dT,aP,if_false,uJ,AP,ew]
  generalize hgn:(eJ (h % 32) (aX m.aE (h % 32))).toNat=a at eo
  rw [hgn] at hr1 hr2
  rw [eo,H4 (by omega) (by omega) (by omega),V1 (by omega)]
  simp only [aG]
  rw [TR (by omega) (by omega) (by omega)]
  simp only [aG,KI,MY,ed,ew,hhm.1]
  by_cases q:h / 32+1≤6
  · have hk:(w * 3+aX m.aE (h % 32)).toNat < m.aD.cT.length:=by omega
    have hx:idx m.aD.cT (w * 3+aX m.aE (h % 32))=some m.aD.cT[(w * 3+aX m.aE (h % 32)).toNat]:=fL (by omega) (by omega)
    have hk2:(aX m.aE (h % 32)).toNat < m.aD.Global.length:=by omega
    have hx2:idx m.aD.Global (aX m.aE (h % 32))=some m.aD.Global[(aX m.aE (h % 32)).toNat]:=fL (by omega) (by omega)
    have b1:=hsO _ (List.getElem_mem hk)
    have b2:=hsG _ (List.getElem_mem hk2)
    rw [bA q,if_pos rfl,if_pos rfl]
    unfold S6 ZF xR
    rw [l8 hs,aG,hcp,(O6 hw hc2).1,(O6 hw hc2).2,hlo,xA,bA (show 0≤h % 32∧h % 32≤23 by omega),TQ (by omega) (by simp only [maxLen];omega) (by simp only [maxLen];omega),bP hnot]
    simp only [aG,dT,aP,if_false,hx,hx2]
    have nz:¬w * 3+aX m.aE (h % 32) < 0:=by omega
    simp only [bP nz,aP,if_false]
    by_cases q2:m.aD.cT[(w * 3+aX m.aE (h % 32)).toNat].aS.length < 2
    · have y1:(m.aD.cT[(w * 3+aX m.aE (h % 32)).toNat].aS.length:Int) < 2:=by omega
      have y2:¬(2:Int)≤m.aD.cT[(w * 3+aX m.aE (h % 32)).toNat].aS.length:=by omega
      simp only [bA y1,bP y2,aP,if_false,if_true]
      rw [aQ (by simp;omega),aQ (by simp;omega)]
      refine⟨_,rfl,rfl,⟨by simp only [EN];omega,by simp only;omega,by simp only;omega,by simp only [List.length_set];omega,?_⟩,?_⟩
      · rw [pL];simp only [WX hk];simp;omega
      · have hmod:((w * 3+aX m.aE (h % 32)).toNat % 3:Nat)=(aX m.aE (h % 32)).toNat:=by omega
        obtain⟨z1,z2⟩:=mW.a0N hr1.1 (k:=(w * 3+aX m.aE (h % 32)).toNat) (by omega) (xs:=[h % 32]) (by simp only [←dV hk,List.length_cons,List.length_nil];omega) (by simp) (fun x hx=>by
          simp at hx;subst hx
          exact⟨by rw [hmod];show aX m.aE (h % 32)=_;omega,by rw [hr2];omega⟩) (fun x hx=>by simp at hx;subst hx;exact hnot) hk
        refine⟨z1,fun s h1 h2=>?_⟩
        obtain⟨y1,y2,y3⟩:=hr1.2 s h1 h2
        exact⟨z2 s (by simpa using h2) y1,y2,y3⟩
    · have y1:¬(m.aD.cT[(w * 3+aX m.aE (h % 32)).toNat].aS.length:Int) < 2:=by omega
      have y2:(2:Int)≤m.aD.cT[(w * 3+aX m.aE (h % 32)).toNat].aS.length:=by omega
      simp only [bA y2,bP y1,aP,if_false,if_true]
      rw [aQ (by simp;omega),aQ (by simp;omega)]
      refine⟨_,rfl,rfl,⟨by simp only [EN];omega,by simp only;omega,by simp only [List.length_set];omega,by simp only;omega,?_⟩,?_⟩
      · rw [pL];simp only [WX hk2];simp;omega
      · obtain⟨z1,z2⟩:=mW.aF1 hr1.1 (k:=(aX m.aE (h % 32)).toNat) (by omega) (xs:=[h % 32]) (by simp) (fun x hx=>by
          simp at hx;subst hx
          exact⟨by show aX m.aE (h % 32)=_;omega,by rw [hr2];omega⟩) (fun x hx=>by simp at hx;subst hx;exact hnot) hk2
        refine⟨z1,fun s h1 h2=>?_⟩
        obtain⟨y1,y2,y3⟩:=hr1.2 s h1 h2
        exact⟨z2 s (by simpa using h2) y1,y2,y3⟩
  · rw [bP q,if_neg (by simp),if_neg (by simp)]
    refine⟨_,rfl,rfl,⟨by simp only [EN];omega,by simp only;omega,by simp only;omega,by simp only;omega,by rw [pL];simp only;omega⟩,hr1⟩
end
theorem alloc_eq{b:aA}(hm:mW b.Mem){w:Int}(hw:0≤w∧w≤2)(s:Sub) :
    ∃x y,AG b w s=some (x,y)∧sG s b w=some (y,x)∧∃m',x=⟨m',b.aC,b.aM,b.mP⟩∧sY m'∧y7 b.Mem m' (-1):=by
  have hsm:=(mW.facts hm).2.2.2.2.2.1
  have hs:=hm.1.1.1
  obtain⟨c,ec,ei,hcc⟩:=aP0 s.A
  unfold AG sG
  rw [ec,ei]
  simp only [aG]
  by_cases c0:c < 0
  · simp only [bA c0,if_true,bR,bM];exact⟨_,_,rfl,rfl,_,rfl,hsm,y7.refl hm _⟩
  have hc:0≤c∧c≤2:=by omega
  simp only [bP c0,aP,if_false]
  have fin:∀(m':Mem) (x:Int),sY m'→y7 b.Mem m' (-1)→(0≤x→fZ m'.aE∧0≤aX m'.aE x) →
      ∃X Y,jI s x ⟨m',b.aC,b.aM,b.mP⟩=some (X,Y)∧iU s x ⟨m',b.aC,b.aM,b.mP⟩=some (Y,X)∧∃m',X=⟨m',b.aC,b.aM,b.mP⟩∧sY m'∧y7 b.Mem m' (-1):=by
    intro m' x hs' hst hx
    unfold jI iU
    simp only [yE,PY,bR,bM]
    by_cases x0:0≤x
    · obtain⟨h,e1,e2⟩:=aTE (m:=m') (hx x0).1 (hx x0).2
      rw [bP (show ¬x < 0 by omega),bA x0]
      simp only [aP,if_false,if_true,e1,e2,aG]
      exact⟨_,_,rfl,rfl,m',rfl,hs',hst⟩
    · rw [bA (show x < 0 by omega),bP x0]
      by_cases p3:s.Pc=3
      · simp only [p3,beq_self_eq_true,if_true,aP,if_false,aG];exact⟨_,_,rfl,rfl,m',rfl,hs',hst⟩
      · have p3':(s.Pc == 3)=false:=by simpa using p3
        simp only [p3',if_true,aP,if_false,aG];exact⟨_,_,rfl,rfl,m',rfl,hs',hst⟩
  by_cases p0:s.Pc=0
  · obtain⟨l,t,x,e1,e2,e3,h1,h2,h3⟩:=aF3 hm hw hc
    simp only [p0,beq_self_eq_true,if_true,(O6 hw hc).1,aG,e1,e2,e3]
    exact fin _ x h1 h3 (fun h=>⟨hs,h2 h⟩)
  · have p0':(s.Pc == 0)=false:=by simpa using p0
    simp only [p0',aP,if_false,yF,nO]
    obtain⟨l,t,x,e1,e2,e3,h1,h2,h3⟩:=V2 hm hc
    by_cases p1:s.Pc=1
    · simp only [p1,beq_self_eq_true,if_true,aG,e1,e2,e3]
      exact fin _ x h1 h3 (fun h=>⟨hs,h2 h⟩)
    · have p1':(s.Pc == 1)=false:=by simpa using p1
      simp only [p1',aP,if_false]
      by_cases p3:s.Pc=3
      · simp only [p3,beq_self_eq_true,if_true,aG,e1,e2,e3]
        exact fin _ x h1 h3 (fun h=>⟨hs,h2 h⟩)
      · have p3':(s.Pc == 3)=false:=by simpa using p3
        simp only [p3',aP,if_false]
        by_cases p2:s.Pc=2
        · obtain⟨m',x,e1,e2,h1,h2,h3⟩:=aNK hm hc
          simp only [p2,beq_self_eq_true,if_true,aG,e1,e2]
          exact fin m' x h1 h3 h2
        · have p2':(s.Pc == 2)=false:=by simpa using p2
          simp only [p2',aP,if_false,bR,bM];exact⟨_,_,rfl,rfl,_,rfl,hsm,y7.refl hm _⟩
end Go.Gv
end
noncomputable section
namespace Go.Gv
theorem aSB(r:dO)(e:Int):∃v,JW r e=some v∧OJ r e=some v:=by
  unfold JW OJ JF IW
  by_cases h:2≤e
  · simp only [bA h,if_true];exact⟨_,rfl,rfl⟩
  · simp only [bP h,aP,if_false];exact⟨_,rfl,rfl⟩
theorem a0P{b:aA}{w:Int}{l:bB}(hx:idx b.aM w=some l)(hl:l.Rows.length≤1000)(s:Sub) :
    (yG l.Rows s.Row s.E=some (-1)∧pE s b w=(bM s 0).bind fun x=>some (x,b)) ∨
    ∃k,∃h:k < l.Rows.length,yG l.Rows s.Row s.E=some (k:Int)∧pE s b w=some (⟨s.Kind,s.A,2,s.E,(k:Int),0,l.Rows[k].Handle,s.Out,s.Code,s.cW⟩,b):=by
  have key:∀d k,k+d=l.Rows.length →
      (loop (eO l.Rows s.E) (k:Int)=some (Out.brk ())∧loop (fD s b w) (k:Int)=some (Out.brk ())) ∨
      ∃j,∃h:j < l.Rows.length,loop (eO l.Rows s.E) (k:Int)=some (Out.ret (j:Int))∧loop (fD s b w) (k:Int)=some (Out.ret (⟨s.Kind,s.A,2,s.E,(j:Int),0,l.Rows[j].Handle,s.Out,s.Code,s.cW⟩,b)):=by
    intro d
    induction d with
    | zero =>
      intro k hk
      left
      exact⟨bU (by simp only [eO];rw [if_neg (by simp;omega)]),bU (by simp only [fD,hx,aG];rw [if_neg (by simp;omega)])⟩
    | succ d ih =>
      intro k hk
      have hk':k < l.Rows.length:=by omega
      obtain⟨v,e1,e2⟩:=aSB l.Rows[k] s.E
      cases v with
      | true =>
        right
        refine⟨k,hk',bU ?_,bU ?_⟩
        · simp only [eO]
          rw [if_pos (by simp;omega),aV hk',aG,e1];rfl
        · simp only [fD,hx,aG]
          rw [if_pos (by simp;omega),aV hk',aG,e2];rfl
      | false =>
        have n1:eO l.Rows s.E (k:Int)=some (.next ((k+1:Nat):Int)):=by
          simp only [eO]
          rw [if_pos (by simp;omega),aV hk',aG,e1,aG,aN (by omega) (by omega)];rfl
        have n2:fD s b w (k:Int)=some (.next ((k+1:Nat):Int)):=by
          simp only [fD,hx,aG]
          rw [if_pos (by simp;omega),aV hk',aG,e2,aG,aN (by omega) (by omega)];rfl
        rw [bV n1,bV n2]
        exact ih (k+1) (by omega)
  unfold yG pE
  have hst:∃i:Nat,(if 0 < s.Row then s.Row else 0)=(i:Int)∧(if s.Row < 0 then 0 else s.Row)=(i:Int):=by
    refine⟨s.Row.toNat,?_,?_⟩ <;> split <;> omega
  obtain⟨i,i1,i2⟩:=hst
  rw [i1,i2]
  by_cases hi:i≤l.Rows.length
  · rcases key (l.Rows.length - i) i (by omega) with ⟨a,c⟩ | ⟨j,hj,a,c⟩
    · left;rw [a,c];exact⟨rfl,rfl⟩
    · right;rw [a,c];exact⟨j,hj,rfl,rfl⟩
  · left
    rw [bU (body:=eO l.Rows s.E) (r:=Out.brk ()) (by simp only [eO];rw [if_neg (by simp;omega)]),
      bU (body:=fD s b w) (r:=Out.brk ()) (by simp only [fD,hx,aG];rw [if_neg (by simp;omega)])]
    exact⟨rfl,rfl⟩
theorem del_eq{α:Type}{l:List α}{k:Nat}(h:k < l.length):((dQ l k (l.drop (k+1))).take (k+(l.length - (k+1)))).drop 0=l.eraseIdx k:=by
  have h1:(l.take k).length=k:=by rw [List.length_take];omega
  have h2:(l.drop (k+1)).length=l.length - (k+1):=by simp
  unfold dQ
  rw [List.drop_zero,List.eraseIdx_eq_take_drop_succ,List.take_of_length_le (l:=l.drop (k+1)) (by rw [h2];omega),←List.append_assoc]
  rw [show k+(l.length - (k+1))=(l.take k++l.drop (k+1)).length by rw [List.length_append,h1,h2]]
  exact List.take_left
theorem aF4{α:Type}{l:List α}{k:Nat}(h:k < l.length):l.Perm (l[k] :: l.eraseIdx k):=by
  have e:l=l.take k++l[k] :: l.drop (k+1):=by rw [←List.drop_eq_getElem_cons h,List.take_append_drop]
  rw [List.eraseIdx_eq_take_drop_succ]
  refine(List.Perm.of_eq e).trans ?_
  exact List.perm_middle
theorem pM.drop{b:List bB}(hL:pM b){w:Nat}(hw:w < b.length):∀k (hk:k < b[w].Rows.length),pM (b.set w ⟨b[w].Rows.eraseIdx k⟩)∧∀r∈bH (b.set w ⟨b[w].Rows.eraseIdx k⟩),r∈bH b∧r.Handle % 32≠b[w].Rows[k].Handle % 32:=by
  intro k hk
  have hsub:(bH (b.set w ⟨b[w].Rows.eraseIdx k⟩)).Sublist (bH b):=by
    rw [FO hw,CK hw]
    exact(List.Sublist.refl _).append ((List.eraseIdx_sublist _ _).append (List.Sublist.refl _))
  have hnd:=hL.2.2.2
  refine⟨⟨by simpa using hL.1,Nat.le_trans hsub.length_le hL.2.1,fun r hr=>hL.2.2.1 r (hsub.subset hr),(hsub.map lQ).nodup hnd⟩,fun r hr=>⟨hsub.subset hr,?_⟩⟩
  have hp:(bH b).Perm (b[w].Rows[k] :: bH (b.set w ⟨b[w].Rows.eraseIdx k⟩)):=by
    rw [FO hw,CK hw]
    refine List.Perm.trans (List.Perm.append_left _ (List.Perm.append_right _ (aF4 hk))) ?_
    exact List.perm_middle
  have:=(hp.map lQ).nodup_iff.1 hnd
  rw [List.map_cons,List.nodup_cons] at this
  exact fun e=>this.1 (List.mem_map.2 ⟨r,hr,e⟩)
theorem aP1{b:aA}(hb:mR b){w:Int}(hw:0≤w∧w≤2)(s:Sub) :
    ∃x y,tV b w s=some (x,y)∧pG s b w=some (y,x)∧∃m' L,x=⟨m',b.aC,L,b.mP⟩∧sY m'∧mW m'∧pM L∧∀r∈bH L,g9 m' r.Handle∧r.aJ≤b.aC.aJ:=by
  have hm:=hb.1.1
  have hL:=hb.1.2.2.1
  have hZ:=hb.1.2.2.2
  have hsm:=(mW.facts hm).2.2.2.2.2.1
  have hlen:w.toNat < b.aM.length:=by have:=hL.1;omega
  have hx:idx b.aM w=some b.aM[w.toNat]:=fL hw.1 (by omega)
  have hrow:=hL.small.2.2.2 _ (List.getElem_mem hlen)
  have hmemL:b.aM[w.toNat]∈b.aM:=List.getElem_mem hlen
  have hset:=pM.drop hL hlen
  generalize b.aM[w.toNat]=l at hx hrow hset hmemL
  have done:∀y:Sub,∃x z,(some (b,y):Option (aA×Sub))=some (x,z)∧(some (y,b):Option (Sub×aA))=some (z,x)∧∃m' L,x=⟨m',b.aC,L,b.mP⟩∧sY m'∧mW m'∧pM L∧∀r∈bH L,g9 m' r.Handle∧r.aJ≤b.aC.aJ:=
    fun y=>⟨_,_,rfl,rfl,b.Mem,b.aM,rfl,hsm,hm,hL,hb.2⟩
  have hw1:aY ((l.Rows.length:Int) - 1)=(l.Rows.length:Int) - 1:=aN (by omega) (by omega)
  have hhas:HB b.aM w s.Row=some (decide (0≤s.Row∧s.Row≤(l.Rows.length:Int) - 1)):=by
    unfold HB DE
    rw [kC,bA hw,aG,if_pos rfl,hx,aG,eG,hw1];rfl
  unfold tV pG
  rw [hhas,hx]
  simp only [aG,bR,cE,hw1]
  have hat:∃a:Bool,(if decide (0≤s.Row∧s.Row≤(l.Rows.length:Int) - 1)=true then (idx l.Rows s.Row).bind fun x15=>fW s b w (x15.Handle == s.H) else fW s b w false)=fW s b w a ∧
      (if (!decide (0≤s.Row∧s.Row≤(l.Rows.length:Int) - 1))=true then fG b s true else (idx l.Rows s.Row).bind fun x11=>fG b s (x11.Handle != s.H))=fG b s (!a) ∧
      (a=true→∃r,r∈l.Rows∧idx l.Rows s.Row=some r∧r.Handle=s.H∧0≤s.Row∧s.Row < l.Rows.length) ∧
      (a=false→∀f:dO→Option (aA×Sub),(if (!decide (0≤s.Row∧s.Row≤(l.Rows.length:Int) - 1))=true then fH b w s l true else (idx l.Rows s.Row).bind fun x=>if (x.Handle != s.H)=true then fH b w s l true else f x)=fH b w s l true):=by
    by_cases q:0≤s.Row∧s.Row≤(l.Rows.length:Int) - 1
    · have hr:idx l.Rows s.Row=some (l.Rows[s.Row.toNat]'(by omega)):=fL q.1 (by omega)
      by_cases q2:(l.Rows[s.Row.toNat]'(by omega)).Handle=s.H
      · refine⟨true,?_,?_,fun _=>⟨_,List.getElem_mem _,hr,q2,q.1,by omega⟩,fun h=>by cases h⟩
        · rw [bA q,if_pos rfl,hr,aG,q2,beq_self_eq_true]
        · rw [bA q,if_neg (by simp),hr,aG,q2,bne_self_eq_false];rfl
      · have n1:((l.Rows[s.Row.toNat]'(by omega)).Handle == s.H)=false:=by simpa using q2
        have n2:((l.Rows[s.Row.toNat]'(by omega)).Handle != s.H)=true:=by simpa using q2
        refine⟨false,?_,?_,(fun h=>by cases h),fun _ f=>?_⟩
        · rw [bA q,if_pos rfl,hr,aG,n1]
        · rw [bA q,if_neg (by simp),hr,aG,n2];rfl
        · rw [bA q,if_neg (by simp),hr,aG,n2,if_pos rfl]
    · refine⟨false,?_,?_,(fun h=>by cases h),fun _ f=>?_⟩
      · rw [bP q,if_neg (by simp)]
      · rw [bP q,if_pos (by simp)];rfl
      · rw [bP q,if_pos (by simp)]
  obtain⟨a,ha1,ha2,ha3,ha4⟩:=hat
  rw [ha1,ha2]
  unfold fW
  by_cases p0:s.Pc=0
  · simp only [p0,beq_self_eq_true,if_true];exact done _
  have p0':(s.Pc == 0)=false:=by simpa using p0
  simp only [p0',aP,if_false]
  by_cases p1:s.Pc=1
  · simp only [p1,beq_self_eq_true,if_true]
    rcases a0P hx (by omega) s with ⟨e1,e2⟩ | ⟨k,hk,e1,e2⟩
    · rw [e1,e2,aG,if_pos (by simp)];simp only [bM,p1,aG];exact done _
    · rw [e1,e2,aG,if_neg (by simp),aV hk];simp only [aG];exact done _
  have p1':(s.Pc == 1)=false:=by simpa using p1
  simp only [p1',aP,if_false]
  by_cases p2:s.Pc=2
  · simp only [p2,beq_self_eq_true,if_true,kC,aG]
    by_cases hB:0≤s.B∧s.B≤2
    · rw [bA hB]
      simp only [dT,aP,if_false,if_true]
      cases a with
      | true =>
        have hz:idx b.mP s.B=some (b.mP[s.B.toNat]'(by have:=hZ.1;omega)):=fL hB.1 (by have:=hZ.1;omega)
        simp only [fG,eU,dT,aP,if_false,if_true,hz,aG,sQ]
        by_cases q:(b.mP[s.B.toNat]'(by have:=hZ.1;omega))=s.H
        · simp only [q,beq_self_eq_true,if_true];exact done _
        · have q':((b.mP[s.B.toNat]'(by have:=hZ.1;omega)) == s.H)=false:=by simpa using q
          simp only [q',aP,if_false]
          by_cases q3:aY (s.B+1)=3
          · simp only [q3,beq_self_eq_true,if_true];exact done _
          · have q3':(aY (s.B+1) == 3)=false:=by simpa using q3
            simp only [q3',aP,if_false];exact done _
      | false =>
        simp only [fG,eU,dX,bR,bM,iF,if_true,aP,if_false,p2,show((2:Int) == 3)=false from rfl,aG]
        exact done _
    · rw [bP hB]
      simp only [fG,eU,dX,bR,bM,iF,if_true,aP,if_false,p2,show((2:Int) == 3)=false from rfl,aG]
      exact done _
  have p2':(s.Pc == 2)=false:=by simpa using p2
  simp only [p2',aP,if_false,eU]
  by_cases p3:s.Pc=3
  · simp only [p3,beq_self_eq_true,if_true]
    cases a with
    | false =>
      rw [ha4 rfl]
      simp only [fH,dX,bR,bM,if_true,aP,if_false,aG]
      exact done _
    | true =>
      obtain⟨r,hrm,hr,hrH,r0,r1⟩:=ha3 rfl
      obtain⟨v,e1,e2⟩:=aSB r s.E
      rw [bA (show 0≤s.Row∧s.Row≤(l.Rows.length:Int) - 1 by omega)]
      simp only [dT,aP,if_false,if_true,hr,aG,hrH,bne_self_eq_false,hx,e1,e2]
      cases v with
      | false =>
        simp only [fH,dX,bR,bM,iF,if_true,aP,if_false,aG]
        exact done _
      | true =>
        have hlive:g9 b.Mem s.H:=by
          have:r∈bH b.aM:=List.mem_flatMap.2 ⟨l,hmemL,hrm⟩
          have:=(hb.2 r this).1
          rwa [hrH] at this
        obtain⟨m',f1,f2,f3,f4⟩:=a0O hm hw hlive
        have ew:aY (s.Row+1)=s.Row+1:=aN (by omega) (by omega)
        have hdrop:IX b.aM w s.Row=some (b.aM.set w.toNat ⟨((dQ l.Rows s.Row.toNat (l.Rows.drop (s.Row+1).toNat)).take (s.Row.toNat+(l.Rows.length - (s.Row+1).toNat))).drop 0⟩,true):=by
          unfold IX BD
          rw [NQ hL.small.2.2.1 (fun s h=>by have:=hL.small.2.2.2 s h;omega),BR hL.small.1,bA hL,hhas,bA (show 0≤s.Row∧s.Row≤(l.Rows.length:Int) - 1 by omega)]
          simp only [aG,dT,aP,if_false,hx,ew]
          unfold BX
          rw [aQ (by omega),if_neg (by simp;omega),aQ (by omega),aQ (by omega),aQ (by omega),aQ]
          · rfl
          · rw [e9 (by omega)]
            simp only [List.drop_zero,List.length_take,e9 (show s.Row.toNat≤l.Rows.length by omega)]
            omega
        simp only [fH,dX,B4,ew,dT,aP,if_false,if_true]
        rw [aQ (by omega),aQ (by omega),aQ (by omega),dR,if_pos hlive.1,aG,f1,f2,hdrop]
        have hk:s.Row.toNat < l.Rows.length:=by omega
        have eL:((dQ l.Rows s.Row.toNat (l.Rows.drop (s.Row+1).toNat)).take (s.Row.toNat+(l.Rows.length - (s.Row+1).toNat))).drop 0=l.Rows.eraseIdx s.Row.toNat:=by
          rw [show(s.Row+1).toNat=s.Row.toNat+1 by omega];exact del_eq hk
        have er:l.Rows[s.Row.toNat]=r:=by
          have:=aV hk
          rw [show((s.Row.toNat:Nat):Int)=s.Row by omega,hr] at this
          exact(Option.some.inj this).symm
        rw [eL] at hdrop ⊢
        obtain⟨g1,g2⟩:=hset s.Row.toNat hk
        refine⟨_,_,rfl,rfl,m',_,rfl,f3,f4.1,g1,fun q hq=>?_⟩
        obtain⟨g3,g4⟩:=g2 q hq
        obtain⟨g5,g6⟩:=hb.2 q g3
        refine⟨f4.live g5 fun e=>?_,g6⟩
        rw [er,hrH] at g4
        exact g4 e
  · have p3':(s.Pc == 3)=false:=by simpa using p3
    simp only [p3',aP,if_false,dX,bM,aG]
    exact done _
end Go.Gv
end
noncomputable section
namespace Go.Gv
theorem NO.fits{b:aA}(h:NO b):b.Mem.aE.Bytes.length≤maxLen∧(dM b.Mem.aD).length≤1073741824∧b.aC.cK.length≤maxLen∧b.aM.length≤maxLen∧(bH b.aM).length≤1073741824∧b.mP.length≤maxLen:=by
  have hb:(1048576:Nat)≤maxLen:=by simp [maxLen]
  have g1:=h.1.1;have g2:=h.1.2.2.2.2;have g3:=h.2.1;have g4:=h.2.2.1;have g5:=h.2.2.2.1;have g6:=h.2.2.2.2
  exact⟨by omega,by omega,by omega,by omega,by omega,by omega⟩
theorem step_eq{b:aA}(hb:mR b)(hs:NO b){w:Int}(hw:0≤w∧w≤2)(s:Sub) :
    ∃x y,wR b w s=some (x,y)∧kT s b w=some (y,x)∧mR x:=by
  have hz:=hb.1.2.2.2.1
  have hl:=hb.1.2.2.1
  unfold wR kT
  cases hd:s.cW with
  | true=>exact⟨_,_,rfl,rfl,hb⟩
  | false =>
    simp only [aP,if_false]
    by_cases k1:s.Kind=1
    · obtain⟨x,y,e1,e2,m,rfl,h1,h2⟩:=alloc_eq hb.1.1 hw s
      simp only [k1,beq_self_eq_true,if_true,e1,e2,aG]
      exact⟨_,_,rfl,rfl,⟨h2.1,hb.1.2⟩,fun r hr=>⟨h2.live (hb.2 r hr).1 (by have:=(hb.2 r hr).1.1;unfold j7 at this;omega),(hb.2 r hr).2⟩⟩
    have k1':(s.Kind == 1)=false:=by simpa using k1
    simp only [k1',aP,if_false]
    by_cases k2:s.Kind=2
    · obtain⟨x,y,e1,e2,L,rfl,h1,h2⟩:=aTB hb hs hw s
      simp only [k2,beq_self_eq_true,if_true,e1,e2,aG]
      exact⟨_,_,rfl,rfl,⟨hb.1.1,hb.1.2.1,h1,hb.1.2.2.2⟩,h2⟩
    have k2':(s.Kind == 2)=false:=by simpa using k2
    simp only [k2',aP,if_false]
    by_cases k3:s.Kind=3
    · obtain⟨x,y,e1,e2,c,rfl,h1,h2⟩:=aPW hb.1.2.1 s
      simp only [k3,beq_self_eq_true,if_true,e1,e2,aG]
      exact⟨_,_,rfl,rfl,⟨hb.1.1,h1,hb.1.2.2⟩,fun r hr=>⟨(hb.2 r hr).1,Int.le_trans (hb.2 r hr).2 h2⟩⟩
    have k3':(s.Kind == 3)=false:=by simpa using k3
    simp only [k3',aP,if_false]
    by_cases k4:s.Kind=4
    · obtain⟨x,y,e1,e2,m,L,rfl,h1,h2,h3,h4⟩:=aP1 hb hw s
      simp only [k4,beq_self_eq_true,if_true,e1,e2,aG]
      exact⟨_,_,rfl,rfl,⟨h2,hb.1.2.1,h3,hb.1.2.2.2⟩,h4⟩
    have k4':(s.Kind == 4)=false:=by simpa using k4
    simp only [k4',aP,if_false]
    by_cases k5:s.Kind=5
    · obtain⟨x,y,e1,e2,c,rfl,h1,h2⟩:=a35 hb.1.2.1 hw s
      simp only [k5,beq_self_eq_true,if_true,e1,e2,aG]
      exact⟨_,_,rfl,rfl,⟨hb.1.1,h1,hb.1.2.2⟩,fun r hr=>⟨(hb.2 r hr).1,Int.le_trans (hb.2 r hr).2 h2⟩⟩
    have k5':(s.Kind == 5)=false:=by simpa using k5
    simp only [k5',aP,if_false,bR,bM,aG]
    exact⟨_,_,rfl,rfl,hb⟩
theorem mR.small{b:aA}(hb:mR b):NO b:=by
  have h1:=hb.1.2.1.2.1;have h2:=hb.1.2.2.1.1;have h3:=hb.1.2.2.1.2.1;have h4:=hb.1.2.2.2.1
  exact⟨(mW.facts hb.1.1).2.2.2.2.2.1,by omega,by omega,by omega,by omega⟩
end Go.Gv
end
noncomputable section
namespace Go.Gv
theorem YC{b:List Int}{a:Nat}{n:Int}(h:a+4≤b.length){j:Nat}(hj:j < a∨a+4≤j):bt (EO b a n) j=bt b j:=by
  unfold EO
  rw [B7 (by simp;omega),B7 (by simp;omega),B7 (by simp;omega),B7 (by omega),if_neg (by omega),if_neg (by omega),if_neg (by omega),if_neg (by omega)]
theorem VU.put{h:aE}(hh:VU h){s:Int}(hc:0≤aX h s){n:Int}(hn:0≤n∧n≤4294967295) :
    VU ⟨EO h.Bytes ((eJ s (aX h s)).toNat+4) n,h.Class⟩∧∀t,0≤aX h t→iI ⟨EO h.Bytes ((eJ s (aX h s)).toNat+4) n,h.Class⟩ t=iI h t:=by
  obtain⟨hs,hp⟩:=hh
  have h384:=hs.1
  have hs':fZ ⟨EO h.Bytes ((eJ s (aX h s)).toNat+4) n,h.Class⟩:=⟨by rw [O5];exact hs.1,hs.2.1,aTC hs.2.2.1 _ hn,hs.2.2.2⟩
  obtain⟨p,i,p6,hi,es,ec,eo,ep⟩:=tY hc
  have hcl:0≤bZ h p∧bZ h p≤2:=hY.1 (by omega)
  have hroom:8+i * (aU (bZ h p)).toNat+8≤64∧∀j,j < (b9 (bZ h p)).toNat→j * (aU (bZ h p)).toNat+4≤i * (aU (bZ h p)).toNat+4∨i * (aU (bZ h p)).toNat+12≤j * (aU (bZ h p)).toNat:=by
    generalize bZ h p=c at hi hcl
    rcases fY hcl with rfl | rfl | rfl
    · rw [show(b9 0).toNat=4 from rfl] at *;rw [show(aU 0).toNat=12 from rfl]
      exact⟨by omega,fun j hj=>by omega⟩
    · rw [show(b9 1).toNat=2 from rfl] at *;rw [show(aU 1).toNat=20 from rfl]
      exact⟨by omega,fun j hj=>by omega⟩
    · rw [show(b9 2).toNat=1 from rfl] at *;rw [show(aU 2).toNat=44 from rfl]
      exact⟨by omega,fun j hj=>by omega⟩
  have hgen:∀q j,q < 6→j < (b9 (bZ h q)).toNat→ld (EO h.Bytes ((eJ s (aX h s)).toNat+4) n) (q * 64+8+j * (aU (bZ h q)).toNat) 4=ld h.Bytes (q * 64+8+j * (aU (bZ h q)).toNat) 4:=fun q j hq hj=>by
    have hz:=uK hs hq rfl hj
    refine JK (by omega) (by simp only [O5]) fun k k1 k2=>?_
    by_cases e:q=p
    · subst e
      have:=hroom.2 j hj
      exact YC (by omega) (by omega)
    · exact YC (by omega) (by omega)
  refine⟨⟨hs',fun q hq=>?_⟩,fun t ht=>?_⟩
  · rw [KX hs' hq]
    have hold:=(KX hs hq).1 (hp q hq)
    by_cases e:q=p
    · subst e
      have hcl':¬bZ h q < 0:=by omega
      unfold ZX at hold ⊢
      have hcc:bZ ⟨EO h.Bytes ((eJ s (aX h s)).toNat+4) n,h.Class⟩ q=bZ h q:=rfl
      rw [hcc]
      rw [if_neg hcl'] at hold ⊢
      obtain⟨⟨a1,a2,a3⟩,a4,a5⟩:=hold
      have bs:∀k,k < 8→bt (EO h.Bytes ((eJ s (aX h s)).toNat+4) n) (q * 64+k)=bt h.Bytes (q * 64+k):=fun k hk=>YC (by omega) (by omega)
      have b0:=bs 0 (by omega);have b1:=bs 1 (by omega);have b2:=bs 2 (by omega)
      simp only [Nat.add_zero] at b0
      refine⟨⟨by rw [b0];exact a1,by rw [b1];exact a2,by rw [b2];exact a3⟩,fun k k3 k8=>by rw [bs k k8];exact a4 k k3 k8,fun j hj=>?_⟩
      rw [hgen q j hq hj];exact a5 j hj
    · refine ZX.same hq hs (by simp only [O5]) rfl (fun k hk=>YC (by omega) (by omega)) hold
  · obtain⟨p',i',p6',hi',es',ec',eo',ep'⟩:=tY ht
    have e2:aX ⟨EO h.Bytes ((eJ s (aX h s)).toNat+4) n,h.Class⟩ t=aX h t:=rfl
    unfold iI
    rw [e2,eo']
    exact hgen p' i' p6' hi'
theorem mW.put{m:Mem}(hm:mW m){s:Int}(hc:0≤aX m.aE s){n:Int}(hn:0≤n∧n≤4294967295):y7 m ⟨⟨EO m.aE.Bytes ((eJ s (aX m.aE s)).toNat+4) n,m.aE.Class⟩,m.aD⟩ (-1):=by
  obtain⟨a,b⟩:=VU.put hm.1.1 hc hn
  refine⟨mW.heap hm a fun x hx=>⟨rfl,b x (mW.nY hm hx).1⟩,fun t ht _=>?_⟩
  have ht':=gX.1 ht
  have e:=b t ht'.1
  exact⟨gX.2 ⟨ht'.1,ht'.2.1,by simp only [e];exact ht'.2.2⟩,e,rfl⟩
theorem start_eq{h:aE}(hs:fZ h){s:Int}(hc:0≤aX h s):JC s (aX h s)=some (eJ s (aX h s)+4)∧IY s (aX h s)=some (eJ s (aX h s)+4):=by
  have hg:=GU hc
  unfold JC IY
  rw [uJ,AP,aG,if_neg (by simp;omega),aN (by omega) (by omega)]
  exact⟨rfl,rfl⟩
theorem aF5{h:aE}(hs:fZ h){s:Int}(hc:0≤aX h s):xU h s 0 4=some (eJ s (aX h s)+4):=by
  have hg:=GU hc
  have hc2:0≤aX h s∧aX h s≤2:=by
    obtain⟨_,q,e⟩:=qO hc
    rw [e];exact hY.1 (by omega)
  have hz:8≤gW (aX h s)∧gW (aX h s)≤40:=by rcases fY hc2 with e | e | e <;> rw [e] <;> decide
  unfold xU PT
  rw [l8 hs,aG,(start_eq hs hc).2,aG,if_neg (by simp;omega),TF]
  simp only [aG,eG]
  rw [aN (x:=eJ s (aX h s)+4+gW (aX h s)) (by omega) (by omega),aN (x:=eJ s (aX h s)+4+gW (aX h s) - (eJ s (aX h s)+4)) (by omega) (by omega),aN (x:=eJ s (aX h s)+4+gW (aX h s) - (eJ s (aX h s)+4) - 4) (by omega) (by omega),bA (by omega),aN (by omega) (by omega)]
  simp
theorem aAN{n:Int}(hn:0≤n∧n≤65535):∃t:List UInt8,PX n 4=some t∧(t == [])=false:=by
  have st:∀(m:Int) (c:List UInt8) (i:Nat),c.length≤4→i < 4→0≤m→m≤4294967295→GJ 4 (m,c,(i:Int))=some (.next (m / 256,[u8 (m % 256)]++c,((i+1:Nat):Int))):=fun m c i hc hi h0 h1=>by
    simp only [GJ]
    rw [if_pos (by simp;omega),aQ (by simp;omega),jX h0,HL h0,aN (x:=m / 256) (by omega) (by omega),aN (by omega) (by omega)];rfl
  unfold PX
  rw [cE]
  simp only [aG,show(decide ((1:Int)≤4∧(4:Int)≤7))=true from rfl,dT,aP,if_false,M3,bP (show ¬n < 0 by omega)]
  rw [show(0:Int)=((0:Nat):Int) from rfl,bV (st n [] 0 (by simp) (by omega) hn.1 (by omega)),bV (st _ _ 1 (by simp) (by omega) (by omega) (by omega)),bV (st _ _ 2 (by simp) (by omega) (by omega) (by omega)),bV (st _ _ 3 (by simp) (by omega) (by omega) (by omega)),bU (by simp only [GJ];rw [if_neg (by simp)])]
  simp only [aG,VK,VJ]
  rw [if_neg (by simp;omega)]
  exact⟨_,rfl,rfl⟩
theorem aP2{m:Mem}(hm:mW m){h n:Int}(hn:0≤n∧n≤65535):∃x c,DW m h 0 4 n=some (x,c)∧IZ m h 0 4 n=some (x,c)∧y7 m x (-1)∧(c≠0→x=m):=by
  obtain⟨hcnt,h3,h9,h1,h2,hsm,hcp,hlo,hsG,hsO⟩:=mW.facts hm
  have hs:=hm.1.1.1
  have hbl:m.aE.Bytes.length≤maxLen:=by rw [h1];simp [maxLen]
  have hall:(dM m.aD).length≤1073741824:=by omega
  have hg:m.aD.Global.length≤maxLen:=by rw [h3];simp [maxLen]
  have ho:m.aD.cT.length≤maxLen:=by rw [h9];simp [maxLen]
  have hw4:kS 4=some true:=by unfold kS;rw [eG];rfl
  unfold DW IZ S2 SO
  rw [aAL hsm,aAM hsm,NM hbl hall,VX hbl hall,bA hm,cE,hw4,aFW ⟨hn.1,by omega⟩]
  simp only [aG,dT,aP,if_false,DV,DG,show(decide ((1:Int)≤4∧(4:Int)≤7))=true from rfl,oT hs hall hg ho,KU hs hall hg ho]
  by_cases hv:g9 m h
  · have hh:=hv.1
    have hcl:=iA hv.2.1
    have hgo:=GU hcl
    have hc2:0≤aX m.aE (h % 32)∧aX m.aE (h % 32)≤2:=by
      obtain⟨_,q,e⟩:=qO hcl
      rw [e];exact hY.1 (by omega)
    have hz:8≤gW (aX m.aE (h % 32))∧gW (aX m.aE (h % 32))≤40:=by rcases fY hc2 with e | e | e <;> rw [e] <;> decide
    obtain⟨p,i,p6,hi,es,ec,eo,ep⟩:=tY hcl
    have hroom:(eJ (h % 32) (aX m.aE (h % 32))).toNat+8≤384:=by
      rw [eo]
      have hcl':0≤bZ m.aE p∧bZ m.aE p≤2:=by rw [←ec];exact hc2
      generalize bZ m.aE p=c at hi hcl'
      rcases fY hcl' with rfl | rfl | rfl
      · rw [show(b9 0).toNat=4 from rfl] at hi;rw [show(aU 0).toNat=12 from rfl];omega
      · rw [show(b9 1).toNat=2 from rfl] at hi;rw [show(aU 1).toNat=20 from rfl];omega
      · rw [show(b9 2).toNat=1 from rfl] at hi;rw [show(aU 2).toNat=44 from rfl];omega
    simp only [bA hv,dT,aP,if_false,dR,if_pos hh,aG,i9 hs,rP,cE,hh.mod.1,aF5 hs hcl]
    rw [aN (x:=gW (aX m.aE (h % 32)) - 1) (by omega) (by omega),bA (show(0:Int)≤0∧(0:Int)≤gW (aX m.aE (h % 32)) - 1 by omega),aN (x:=gW (aX m.aE (h % 32)) - 0) (by omega) (by omega),bP (show ¬gW (aX m.aE (h % 32)) - 0 < 4 by omega)]
    simp only [dT,aP,if_false,DU,(start_eq hs hcl).1,aG]
    rw [aN (x:=eJ (h % 32) (aX m.aE (h % 32))+4+0) (by omega) (by omega),Int.add_zero,bP (show ¬eJ (h % 32) (aX m.aE (h % 32))+4 < 0 by omega)]
    have eo':eJ (h % 32) (aX m.aE (h % 32))+4=(((eJ (h % 32) (aX m.aE (h % 32))).toNat+4:Nat):Int):=by omega
    have hput:=mW.put hm hcl (n:=n) ⟨hn.1,by omega⟩
    have hspf:∃t:List UInt8,PX n 4=some t∧(t == [])=false:=aAN hn
    obtain⟨t,ht1,ht2⟩:=hspf
    have hld:mI m.aE.Bytes (((eJ (h % 32) (aX m.aE (h % 32))).toNat+4:Nat):Int) 4=some (ld m.aE.Bytes ((eJ (h % 32) (aX m.aE (h % 32))).toNat+4) 4):=BQ hs.2.2.1 (w:=4) (by omega) (by omega) (by omega)
    rw [eo',hld]
    simp only [aG,aP,if_false,bne_self_eq_false,ht1,ht2,show(VZ n == [])=false from rfl]
    rw [ZW (by omega) (by omega) ⟨hn.1,by omega⟩,aFX (by omega) (by omega) ⟨hn.1,by omega⟩]
    exact⟨_,_,rfl,rfl,hput,fun q=>absurd rfl q⟩
  · simp only [bP hv,iF,if_true,aG,show((4:Int) != 0)=true from rfl]
    exact⟨_,_,rfl,rfl,y7.refl hm _,fun _=>rfl⟩
theorem aP3{b:aA}(hm:mW b.Mem)(h:Int):∃r,MF b.Mem.aE h 0 4=some r∧I0 b h 0 4=some r:=by
  have hs:=hm.1.1.1
  have h1:=hs.1
  have hbl:b.Mem.aE.Bytes.length≤maxLen:=by rw [h1];simp [maxLen]
  have hw4:kS 4=some true:=by unfold kS;rw [eG];rfl
  unfold MF I0 r9
  rw [eM,jP,cE,hw4,EJ hbl,bA hs]
  simp only [aG,D6,tJ,show(decide ((1:Int)≤4∧(4:Int)≤7))=true from rfl,dT,aP,if_false]
  by_cases hh:j7 h
  · simp only [bA hh,dT,aP,if_false,dR,if_pos hh,aG,i9 hs,l8 hs,hh.mod.1]
    by_cases hcl:aX b.Mem.aE (h % 32) < 0
    · simp only [bA hcl,if_true,nI];exact⟨_,rfl,rfl⟩
    · have hcl':0≤aX b.Mem.aE (h % 32):=by omega
      have hgo:=GU hcl'
      have hc2:0≤aX b.Mem.aE (h % 32)∧aX b.Mem.aE (h % 32)≤2:=by
        obtain⟨_,q,e⟩:=qO hcl'
        rw [e];exact hY.1 (by omega)
      have hz:8≤gW (aX b.Mem.aE (h % 32))∧gW (aX b.Mem.aE (h % 32))≤40:=by rcases fY hc2 with e | e | e <;> rw [e] <;> decide
      obtain⟨p,i,p6,hi,es,ec,eo,ep⟩:=tY hcl'
      have hroom:(eJ (h % 32) (aX b.Mem.aE (h % 32))).toNat+8≤384:=by
        rw [eo]
        have hcl'':0≤bZ b.Mem.aE p∧bZ b.Mem.aE p≤2:=by rw [←ec];exact hc2
        generalize bZ b.Mem.aE p=c at hi hcl''
        rcases fY hcl'' with rfl | rfl | rfl
        · rw [show(b9 0).toNat=4 from rfl] at hi;rw [show(aU 0).toNat=12 from rfl];omega
        · rw [show(b9 1).toNat=2 from rfl] at hi;rw [show(aU 1).toNat=20 from rfl];omega
        · rw [show(b9 2).toNat=1 from rfl] at hi;rw [show(aU 2).toNat=44 from rfl];omega
      simp only [bP hcl,aP,if_false,rP,cE,aG,aF5 hs hcl']
      rw [aN (x:=gW (aX b.Mem.aE (h % 32)) - 1) (by omega) (by omega),bA (show(0:Int)≤0∧(0:Int)≤gW (aX b.Mem.aE (h % 32)) - 1 by omega),aN (x:=gW (aX b.Mem.aE (h % 32)) - 0) (by omega) (by omega),bP (show ¬gW (aX b.Mem.aE (h % 32)) - 0 < 4 by omega)]
      simp only [dT,aP,if_false,nI,dR,if_pos hh,(start_eq hs hcl').1,aG]
      rw [aN (x:=eJ (h % 32) (aX b.Mem.aE (h % 32))+4+0) (by omega) (by omega),Int.add_zero,bP (show ¬eJ (h % 32) (aX b.Mem.aE (h % 32))+4 < 0 by omega)]
      have eo':eJ (h % 32) (aX b.Mem.aE (h % 32))+4=(((eJ (h % 32) (aX b.Mem.aE (h % 32))).toNat+4:Nat):Int):=by omega
      have hld:mI b.Mem.aE.Bytes (((eJ (h % 32) (aX b.Mem.aE (h % 32))).toNat+4:Nat):Int) 4=some (ld b.Mem.aE.Bytes ((eJ (h % 32) (aX b.Mem.aE (h % 32))).toNat+4) 4):=BQ hs.2.2.1 (w:=4) (by omega) (by omega) (by omega)
      have hls:wH b.Mem.aE.Bytes (((eJ (h % 32) (aX b.Mem.aE (h % 32))).toNat+4:Nat):Int) 4=some (ld b.Mem.aE.Bytes ((eJ (h % 32) (aX b.Mem.aE (h % 32))).toNat+4) 4):=EH hs.2.2.1 (w:=4) (by omega) (by omega) (by omega)
      rw [eo',hld,hls]
      exact⟨_,rfl,rfl⟩
  · simp only [bP hh,iF,if_true];exact⟨_,rfl,rfl⟩
end Go.Gv
end
noncomputable section
namespace Go.Gv
theorem aNL{l:List bK}(hl:l.length≤maxLen)(f:bK→Bool)(g:bK→Option Bool)(hg:∀x∈l,g x=some (f x)):mH l g=some (l.any f):=by
  obtain⟨o,e,h⟩:=KT l f (body:=mG l g) (fun k hk=>by
    simp only [mG]
    rw [if_pos (by simp;omega),aV hk,i5 (nU hk hl)]
    simp only [aG,hg _ (List.getElem_mem hk)]) (by simp [mG])
  unfold mH zE
  rw [e]
  cases o with
  | brk u=>simp only at h;simp [rY,C1,h]
  | ret r=>simp only at h;simp [rY,h]
theorem TV{l:List Queue}(hl:l.length≤maxLen)(f:Queue→Bool)(g:Queue→Option Bool)(hg:∀x∈l,g x=some (f x)):iK l g=some (l.any f):=by
  obtain⟨o,e,h⟩:=KT l f (body:=kG l g) (fun k hk=>by
    simp only [kG]
    rw [if_pos (by simp;omega),aV hk,i5 (nU hk hl)]
    simp only [aG,hg _ (List.getElem_mem hk)]) (by simp [kG])
  unfold iK rX
  rw [e]
  cases o with
  | brk u=>simp only at h;simp [nV,yX,h]
  | ret r=>simp only at h;simp [nV,h]
theorem YD{l:List bD}(hl:l.length≤maxLen)(f:bD→Bool)(g:bD→Option Bool)(hg:∀x∈l,g x=some (f x)):jH l g=some (l.any f):=by
  obtain⟨o,e,h⟩:=KT l f (body:=lM l g) (fun k hk=>by
    simp only [lM]
    rw [if_pos (by simp;omega),aV hk,i5 (nU hk hl)]
    simp only [aG,hg _ (List.getElem_mem hk)]) (by simp [lM])
  unfold jH v9
  rw [e]
  cases o with
  | brk u=>simp only at h;simp [rA,CH,h]
  | ret r=>simp only at h;simp [rA,h]
def ER(k:Int):Prop:=k=1∨k=2∨k=3∨k=7
instance (k:Int):Decidable (ER k):=by unfold ER;infer_instance
def jY(o:bK):Prop:=(1≤o.Kind∧o.Kind≤7)∧(ER o.Kind∨o.Cell=0)∧(0≤o.Cell∧o.Cell≤1)∧if o.Kind=1 then (0≤o.gP∧o.gP≤100)∧0≤o.dK∧o.dK≤65535 else o.gP=0∧o.dK=0
instance (o:bK):Decidable (jY o):=by unfold jY;infer_instance
theorem hb0(x:Int):(x == 0)=decide (x=0):=by rw [Bool.eq_iff_iff];simp
theorem aP4:ER 1:=.inl rfl
theorem aJT(k:Int):wO k=some (decide (ER k)):=by
  unfold wO lP ER
  by_cases h1:k=1
  · simp [h1]
  · by_cases h2:k=2
    · simp [h2]
    · by_cases h3:k=3
      · simp [h3]
      · by_cases h7:k=7
        · simp [h7]
        · simp [h1,h2,h3,h7]
theorem YE(o:bK):JV o=some (decide (jY o)):=by
  unfold JV DR JA JB jY
  rw [cE,aJT,cE,cE,cE]
  by_cases h1:1≤o.Kind∧o.Kind≤7
  · by_cases h2:ER o.Kind
    · by_cases h3:0≤o.Cell∧o.Cell≤1
      · by_cases h4:o.Kind=1
        · by_cases h5:0≤o.gP∧o.gP≤100 <;> simp [h1,h2,h3,h4,h5,aP4] <;> exact hb0 _
        · by_cases h5:o.gP=0 <;> simp [h1,h2,h3,h4,h5,aP4] <;> exact hb0 _
      · simp [h1,h2,h3]
    · by_cases h0:o.Cell=0
      · by_cases h4:o.Kind=1
        · exact absurd (.inl h4) h2
        · by_cases h5:o.gP=0 <;> simp [h1,h2,h0,h4,h5,aP4] <;> exact hb0 _
      · simp [h1,h2,h0]
  · simp [h1]
theorem YF(o:bK):JU o=some (decide (jY o)):=by
  have key:∀x,o8 o x=if 1≤o.Kind∧o.Kind≤7 then (if x then some (decide ((0≤o.Cell∧o.Cell≤1)∧if o.Kind=1 then (0≤o.gP∧o.gP≤100)∧0≤o.dK∧o.dK≤65535 else o.gP=0∧o.dK=0):Bool) else some (decide (o.Cell=0∧if o.Kind=1 then (0≤o.gP∧o.gP≤100)∧0≤o.dK∧o.dK≤65535 else o.gP=0∧o.dK=0))) else some false:=fun x=>by
    unfold o8 C2 IK IL
    rw [eG,eG,eG,eG]
    by_cases h1:1≤o.Kind∧o.Kind≤7
    · cases x
      · by_cases h0:o.Cell=0
        · by_cases h4:o.Kind=1
          · by_cases h5:0≤o.gP∧o.gP≤100 <;> simp [h1,h0,h4,h5,aP4] <;> exact hb0 _
          · by_cases h5:o.gP=0 <;> simp [h1,h0,h4,h5,aP4] <;> exact hb0 _
        · simp [h1,h0]
      · by_cases h3:0≤o.Cell∧o.Cell≤1
        · by_cases h4:o.Kind=1
          · by_cases h5:0≤o.gP∧o.gP≤100 <;> simp [h1,h3,h4,h5,aP4] <;> exact hb0 _
          · by_cases h5:o.gP=0 <;> simp [h1,h3,h4,h5,aP4] <;> exact hb0 _
        · simp [h1,h3]
    · simp [h1]
  have key2:JU o=o8 o (decide (ER o.Kind)):=by
    unfold JU ER
    by_cases h1:o.Kind=1
    · simp [h1]
    · by_cases h2:o.Kind=2
      · simp [h2]
      · by_cases h3:o.Kind=3
        · simp [h3]
        · have h7:(o.Kind == 7)=decide (o.Kind=1∨o.Kind=2∨o.Kind=3∨o.Kind=7):=by rw [Bool.eq_iff_iff];simp [h1,h2,h3]
          rw [if_neg (by simpa using h1),if_neg (by simpa using h2),if_neg (by simpa using h3),h7]
  rw [key2,key]
  unfold jY
  by_cases h1:1≤o.Kind∧o.Kind≤7
  · by_cases h2:ER o.Kind
    · simp only [h1,h2,and_self,decide_true,if_true,true_or,true_and]
    · by_cases h0:o.Cell=0
      · simp [h1,h2,h0]
      · simp [h1,h2,h0]
  · simp [h1]
theorem YG(h:Int):i7 h=some (decide (dC h)):=by
  unfold i7 BJ dC
  rw [eM]
  by_cases q:h=0 <;> simp [q]
theorem QE(h:Int):rU h=some (decide (dC h)):=by
  unfold rU v5 dC
  rw [jP]
  by_cases q:h=0 <;> simp [q]
def aNM(l:List bK):Prop:=∀o∈l,jY o
instance (l:List bK):Decidable (aNM l):=by unfold aNM;infer_instance
def QOk(q:Queue):Prop:=q.fM.length≤12∧aNM q.fM
instance (q:Queue):Decidable (QOk q):=by unfold QOk;infer_instance
def ES(l:List Queue):Prop:=l.length=3∧∀q∈l,QOk q
instance (l:List Queue):Decidable (ES l):=by unfold ES;infer_instance
theorem YH{l:List Queue}(hl:l.length≤maxLen):DS l=some (decide (ES l)):=by
  unfold DS
  have inner:∀k (hk:k < l.length),l[k].fM.length≤12→loop (oJ l (k:Int)) 0=some (if aNM l[k].fM then Out.brk () else Out.ret false):=by
    intro k hk h12
    have hb:∀j (hj:j < l[k].fM.length),oJ l (k:Int) (j:Int)=if jY l[k].fM[j] then some (.next ((j+1:Nat):Int)) else some (.stop (Out.ret false)):=by
      intro j hj
      simp only [oJ]
      rw [aV hk,aG,if_pos (by simp;omega),aG,aV hj,aG,YE,aG,aN (by omega) (by omega)]
      by_cases q:jY l[k].fM[j] <;> simp [q]
    have:=jO (f:=oJ l (k:Int)) l[k].fM (fun j=>(j:Int)) jY (Out.brk ()) (Out.ret false) (fun j hj hp=>by rw [hb j hj,if_pos hp]) (fun j hj hp=>by rw [hb j hj,if_neg hp]) (by
      simp only [oJ]
      rw [aV hk,aG,if_neg (by simp)])
    refine Eq.trans this ?_
    congr 1
  have hs:∀k (hk:k < l.length),oK l (k:Int)=if QOk l[k] then some (.next ((k+1:Nat):Int)) else some (.stop (Out.ret false)):=by
    intro k hk
    simp only [oK]
    rw [if_pos (by simp;omega),aV hk,aG]
    by_cases h12:l[k].fM.length≤12
    · rw [if_neg (by simp;omega),inner k hk h12]
      by_cases q:aNM l[k].fM
      · rw [if_pos q,if_pos ⟨h12,q⟩]
        simp only [aG,RB,Q9]
        rw [i5 (nU hk hl)]
      · rw [if_neg q,if_neg (fun a=>q a.2)];rfl
    · rw [if_pos (by simp;omega),if_neg (fun a=>h12 a.1)]
  have key:loop (oK l) 0=_:=jO (f:=oK l) l (fun k=>(k:Int)) QOk (Out.brk ()) (Out.ret false) (fun k hk hp=>by rw [hs k hk,if_pos hp]) (fun k hk hp=>by rw [hs k hk,if_neg hp]) (by simp [oK])
  rw [key]
  by_cases q:∀x∈l,QOk x
  · rw [if_pos q]
    simp only [aG,RC,Q8]
    congr 1;rw [Bool.eq_iff_iff];simp only [beq_iff_eq,decide_eq_true_eq]
    exact⟨fun a=>⟨by omega,q⟩,fun a=>by have:=a.1;omega⟩
  · rw [if_neg q,bP (show ¬ES l from fun a=>q a.2)];rfl
theorem YI{l:List Queue}(hl:l.length≤maxLen)(hq:∀q∈l,q.fM.length≤maxLen):G6 l=some (decide (ES l)):=by
  have e1:∀q∈l,FZ q=some (!decide (QOk q)):=by
    intro q hm
    unfold FZ xK
    have e:∀x∈q.fM,A2 x=some (!decide (jY x)):=fun x _=>by
      unfold A2;rw [YF];rfl
    rw [aNL (hq q hm) (fun x=>!decide (jY x)) _ e,GS]
    by_cases h:q.fM.length≤12
    · rw [if_neg (by simp;omega)]
      by_cases h2:∀x∈q.fM,jY x
      · rw [bA h2,bA (show QOk q from ⟨h,h2⟩)];rfl
      · rw [bP h2,bP (show ¬QOk q from fun a=>h2 a.2)];rfl
    · rw [if_pos (by simp;omega),bP (show ¬QOk q from fun a=>h a.1)];rfl
  unfold G6 C3
  rw [TV hl (fun q=>!decide (QOk q)) _ e1,GS]
  by_cases h:l.length=3
  · rw [if_pos (by simp;omega)]
    by_cases h2:∀x∈l,QOk x
    · rw [bA h2,bA (show ES l from ⟨h,h2⟩)];rfl
    · rw [bP h2,bP (show ¬ES l from fun a=>h2 a.2)];rfl
  · rw [if_neg (by simp;omega),bP (show ¬ES l from fun a=>h a.1)]
def kD:bD:=⟨false,⟨0,0,0,0⟩,0,0,⟨0,0,0,0,0,0,0,0,0,false⟩,0,0,0,0⟩
def JOk(j:bD):Prop:=if j.cY then jY j.Op∧dC j.H∧dC j.Old else j=kD
instance (j:bD):Decidable (JOk j):=by unfold JOk;infer_instance
theorem AV{j:bD}(hb:j.cY=true):JOk j↔jY j.Op∧dC j.H∧dC j.Old:=by unfold JOk;rw [if_pos hb]
theorem TW{j:bD}(hb:j.cY=false):JOk j↔j=kD:=by unfold JOk;rw [if_neg (by simp [hb])]
theorem aNN(j:bD):PO j=some (decide (JOk j)):=by
  unfold PO zU
  rw [YF,QE,QE]
  cases hb:j.cY
  · rw [show decide (JOk j)=decide (j=kD) from decide_eq_decide.2 (TW hb)];rfl
  · rw [show decide (JOk j)=decide (jY j.Op∧dC j.H∧dC j.Old) from decide_eq_decide.2 (AV hb)]
    by_cases h1:jY j.Op
    · by_cases h2:dC j.H <;> simp [h1,h2]
    · simp [h1]
def mY(s:aB):Prop:=mR s.aA∧s.Cells.length=2∧s.aT.length=3∧ES s.aZ∧(0≤s.aI∧s.aI≤1000000)∧(∀h∈s.Cells,dC h)∧∀j∈s.aT,JOk j
instance (s:aB):Decidable (mY s):=by unfold mY;infer_instance
noncomputable section
variable {s:aB} (hf:s.aA.Mem.aE.Bytes.length≤maxLen∧(dM s.aA.Mem.aD).length≤1073741824∧s.aA.aC.cK.length≤maxLen∧s.aA.aM.length≤maxLen∧(bH s.aA.aM).length≤1073741824∧s.aA.mP.length≤maxLen) (ht:s.aZ.length≤maxLen) (hq:∀q∈s.aZ,q.fM.length≤maxLen) (hcl:s.Cells.length≤maxLen) (hjl:s.aT.length≤maxLen)
include hf ht
theorem aB5:sL s=some (decide (mY s)):=by
  unfold sL l7
  rw [aFU hf,YH ht,cE]
  by_cases h1:mR s.aA
  · by_cases h2:s.Cells.length=2
    · by_cases h3:s.aT.length=3
      · by_cases h4:ES s.aZ
        · by_cases h5:0≤s.aI∧s.aI≤1000000
          · have c2:((s.Cells.length:Int) != 2)=false:=by simp;omega
            have c3:((s.aT.length:Int) != 3)=false:=by simp;omega
            simp only [bA h1,bA h4,bA h5,c2,c3,aG,dT,aP,if_false]
            have k2:loop (oN s) 0=some (if ∀h∈s.Cells,dC h then Out.brk () else Out.ret false):=by
              have hb:∀k (hk:k < s.Cells.length),oN s (k:Int)=if dC s.Cells[k] then some (.next ((k+1:Nat):Int)) else some (.stop (Out.ret false)):=fun k hk=>by
                simp only [oN]
                rw [if_pos (by simp;omega),aV hk,aG,YG,aG,aN (by omega) (by omega)]
                by_cases q:dC s.Cells[k] <;> simp [q]
              exact jO (f:=oN s) s.Cells (fun k=>(k:Int)) dC _ _ (fun k hk hp=>by rw [hb k hk,if_pos hp]) (fun k hk hp=>by rw [hb k hk,if_neg hp]) (by simp [oN,h2])
            have k3:loop (oL s) 0=some (if ∀j∈s.aT,JOk j then Out.brk () else Out.ret false):=by
              have hb:∀k (hk:k < s.aT.length),oL s (k:Int)=if JOk s.aT[k] then some (.next ((k+1:Nat):Int)) else some (.stop (Out.ret false)):=fun k hk=>by
                simp only [oL]
                rw [if_pos (by simp;omega),aV hk]
                generalize s.aT[k]=j
                simp only [aG,fA,YE,YG,aN (show -9223372036854775808≤(k:Int)+1 by omega) (show(k:Int)+1≤9223372036854775807 by omega)]
                cases hb:j.cY
                · by_cases e:j=kD
                  · have a1:dC j.H:=by rw [e];exact .inl rfl
                    have a2:dC j.Old:=by rw [e];exact .inl rfl
                    have e':j=(⟨false,(⟨0,0,0,0⟩:bK),0,0,(⟨0,0,0,0,0,0,0,0,0,false⟩:Sub),0,0,0,0⟩:bD):=e
                    simp only [iF,if_true,bA e',dT,aP,if_false,bA a1,bA a2,if_pos ((TW hb).2 e)];rfl
                  · have e':¬j=(⟨false,(⟨0,0,0,0⟩:bK),0,0,(⟨0,0,0,0,0,0,0,0,0,false⟩:Sub),0,0,0,0⟩:bD):=e
                    simp only [iF,if_true,bP e',aP,if_false,if_neg (fun q=>e ((TW hb).1 q))]
                · by_cases a0:jY j.Op
                  · by_cases a1:dC j.H
                    · by_cases a2:dC j.Old <;> simp [a0,a1,a2,AV hb]
                    · simp [a0,a1,AV hb]
                  · simp [a0,AV hb]
              exact jO (f:=oL s) s.aT (fun k=>(k:Int)) JOk _ _ (fun k hk hp=>by rw [hb k hk,if_pos hp]) (fun k hk hp=>by rw [hb k hk,if_neg hp]) (by simp [oL,h3])
            rw [k2]
            by_cases q2:∀h∈s.Cells,dC h
            · rw [if_pos q2]
              simp only [aG,RE,RD]
              rw [k3]
              by_cases q3:∀j∈s.aT,JOk j
              · rw [if_pos q3,bA (show mY s from ⟨h1,h2,h3,h4,h5,q2,q3⟩)];rfl
              · rw [if_neg q3,bP (fun a:mY s=>q3 a.2.2.2.2.2.2)];rfl
            · rw [if_neg q2,bP (fun a:mY s=>q2 a.2.2.2.2.2.1)];rfl
          · rw [bP (fun a:mY s=>h5 a.2.2.2.2.1)]
            simp [h1,h2,h3,h4,h5]
        · rw [bP (fun a:mY s=>h4 a.2.2.2.1)]
          simp [h1,h2,h3,h4]
      · rw [bP (fun a:mY s=>h3 a.2.2.1)]
        have c3:((s.aT.length:Int) != 3)=true:=by simp;omega
        simp [h1,h2,h3,c3]
    · rw [bP (fun a:mY s=>h2 a.2.1)]
      have c2:((s.Cells.length:Int) != 2)=true:=by simp;omega
      simp [h1,h2,c2]
  · rw [bP (fun a:mY s=>h1 a.1)];simp [h1]
include hq hcl hjl
theorem aB6:pC s=some (decide (mY s)):=by
  have e1:v8=fun x=>some (!decide (dC x)):=funext fun x=>by unfold v8;rw [QE];rfl
  have e2:∀x∈s.aT,C8 x=some (!decide (JOk x)):=fun x _=>by unfold C8;rw [aNN];rfl
  unfold pC i6
  rw [aFV hf,YI ht hq,eG,show(fun y0=>v8 y0)=fun x=>some (!decide (dC x)) from e1,EI hcl,GS,YD hjl _ _ e2,GS]
  by_cases h1:mR s.aA
  · by_cases h2:s.Cells.length=2
    · by_cases h3:s.aT.length=3
      · have c2:((s.Cells.length:Int) == 2)=true:=by simp;omega
        have c3:((s.aT.length:Int) == 3)=true:=by simp;omega
        by_cases h4:ES s.aZ
        · by_cases h5:0≤s.aI∧s.aI≤1000000
          · by_cases q2:∀h∈s.Cells,dC h
            · by_cases q3:∀j∈s.aT,JOk j
              · rw [bA (show mY s from ⟨h1,h2,h3,h4,h5,q2,q3⟩)]
                simp only [bA h1,bA h4,bA h5,bA q2,bA q3,c2,c3,aG,dT,iF,aP,if_false,if_true]
              · rw [bP (fun a:mY s=>q3 a.2.2.2.2.2.2)]
                simp only [bA h1,bA h4,bA h5,bA q2,bP q3,c2,c3,aG,dT,iF,aP,if_false,if_true]
            · rw [bP (fun a:mY s=>q2 a.2.2.2.2.2.1)]
              simp only [bA h1,bA h4,bA h5,bP q2,c2,c3,aG,dT,iF,aP,if_false,if_true]
          · rw [bP (fun a:mY s=>h5 a.2.2.2.2.1)]
            simp only [bA h1,bA h4,bP h5,c2,c3,aG,aP,if_false,if_true]
        · rw [bP (fun a:mY s=>h4 a.2.2.2.1)]
          simp only [bA h1,bP h4,c2,c3,aG,aP,if_false,if_true]
      · rw [bP (fun a:mY s=>h3 a.2.2.1)]
        have c2:((s.Cells.length:Int) == 2)=true:=by simp;omega
        have c3:((s.aT.length:Int) == 3)=false:=by simp;omega
        simp only [bA h1,c2,c3,aG,aP,if_false,if_true]
    · rw [bP (fun a:mY s=>h2 a.2.1)]
      have c2:((s.Cells.length:Int) == 2)=false:=by simp;omega
      simp only [bA h1,c2,aG,aP,if_false,if_true]
  · rw [bP (fun a:mY s=>h1 a.1)];simp only [bP h1,aG,aP,if_false]
end
end Go.Gv
end
noncomputable section
namespace Go.Gv
theorem KY{α:Type}{l:List α}{w:Int}(h0:0≤w)(h1:w < l.length)(x:α):idx (l.set w.toNat x) w=some x:=by
  unfold idx
  rw [if_pos h0,List.getElem?_set_self (by omega)]
theorem gQ{a b:Int}(h:¬a=b):(a == b)=false:=by simpa using h
theorem QF{a b:Int}(h:¬a=b):(a != b)=true:=by simpa using h
theorem aNO{c:aC}(hc:JX c){w:Int}(hw:0≤w∧w≤2):∃r,FI c w=some r∧PU c w=some r∧JX r.1∧r.1.aJ=c.aJ:=by
  obtain⟨p,hp,hpk⟩:=ZU hc hw
  unfold FI PU
  rw [mX hc.small.1,AU hc.small.1,jA,tX hc.small.2,kC,cE,bA hc,bA hw]
  simp only [aG,dT,aP,if_false,hp,AI,zY]
  cases p.On with
  | true =>
    simp only [dT,aP,if_false]
    have h0:=hc.1
    exact⟨_,rfl,rfl,hc.aLB ⟨by simp only;omega,by simp,fun _=>rfl⟩,rfl⟩
  | false=>simp only [iF,if_true];exact⟨_,rfl,rfl,hc,rfl⟩
theorem JJ.set{z:List Int}(hz:JJ z)(k:Nat){h:Int}(hh:dC h):JJ (z.set k h):=⟨by simpa using hz.1,fun q hq=>(List.mem_or_eq_of_mem_set hq).elim (hz.2 q) (fun e=>e ▸ hh)⟩
theorem aP5{z:List Int}(hz:JJ z){w:Int}(hw:0≤w∧w≤2)(h:Int):∃r,D2 z w h=some r∧I1 z w h=some r∧JJ r.1:=by
  have h3:=hz.1
  have hx:idx z w=some (z[w.toNat]'(by omega)):=fL hw.1 (by omega)
  unfold D2 I1
  rw [FN (by omega),pN (by omega),AT (by simp only [maxLen];omega),NN (by simp only [maxLen];omega),bA hz,cE,kC,bA hw,eM,jP]
  simp only [aG,dT,aP,if_false,tW,tL,hx]
  by_cases q:j7 h
  · simp only [bA q,dT,aP,if_false];exact⟨_,rfl,rfl,hz.set _ (.inr q)⟩
  · simp only [bP q,iF,if_true];exact⟨_,rfl,rfl,hz⟩
theorem aXB{z:List Int}(hz:JJ z){w:Int}(hw:0≤w∧w≤2):∃r,KK z w=some r∧PW z w=some r∧JJ r.1:=by
  have h3:=hz.1
  have hx:idx z w=some (z[w.toNat]'(by omega)):=fL hw.1 (by omega)
  unfold KK PW
  rw [FN (by omega),pN (by omega),AT (by simp only [maxLen];omega),NN (by simp only [maxLen];omega),bA hz,cE,kC,bA hw]
  simp only [aG,dT,aP,if_false,AJ,zZ,hx]
  by_cases q:(z[w.toNat]'(by omega))=0
  · simp only [q,beq_self_eq_true,if_true];exact⟨_,rfl,rfl,hz⟩
  · simp only [gQ q,aP,if_false];exact⟨_,rfl,rfl,hz.set _ (.inl rfl)⟩
theorem mR.clock{b:aA}(hb:mR b){cl:aC}(h:JX cl)(e:b.aC.aJ≤cl.aJ):mR ⟨b.Mem,cl,b.aM,b.mP⟩:=⟨⟨hb.1.1,h,hb.1.2.2⟩,fun r hr=>⟨(hb.2 r hr).1,Int.le_trans (hb.2 r hr).2 e⟩⟩
theorem mR.haz{b:aA}(hb:mR b){z:List Int}(h:JJ z):mR ⟨b.Mem,b.aC,b.aM,z⟩:=⟨⟨hb.1.1,hb.1.2.1,hb.1.2.2.1,h⟩,hb.2⟩
theorem mR.mem{b:aA}(hb:mR b){m:Mem}(h:y7 b.Mem m (-1)):mR ⟨m,b.aC,b.aM,b.mP⟩:=⟨⟨h.1,hb.1.2⟩,fun r hr=>⟨h.live (hb.2 r hr).1 (by have:=(hb.2 r hr).1.1;unfold j7 at this;omega),(hb.2 r hr).2⟩⟩
theorem mY.put{s:aB}(hs:mY s){w:Int}{b:aA}(hb:mR b){c:List Int}(hc:c.length=2∧∀h∈c,dC h){j:bD}(hj:JOk j)(l:List Ev):mY ⟨b,c,s.aT.set w.toNat j,s.aZ,l,s.aI⟩:=
  ⟨hb,hc.1,by simpa using hs.2.2.1,hs.2.2.2.1,hs.2.2.2.2.1,hc.2,fun q hq=>(List.mem_or_eq_of_mem_set hq).elim (hs.2.2.2.2.2.2 q) (fun e=>e ▸ hj)⟩
theorem dI{j:bD}(h:j.cY=true)(h1:jY j.Op∧dC j.H∧dC j.Old):JOk j:=(AV h).2 h1
noncomputable section
variable {s:aB} (hs:mY s) (hl:s.Log.length≤1000000000) {w:Int} (hw:0≤w∧w≤2) {j:bD} (hj:idx s.aT w=some j) (hb:j.cY=true) (hjo:jY j.Op∧dC j.H∧dC j.Old)
include hs hl hw hj hb hjo
theorem a38(hk:j.Op.Kind=1):∃x,((HH s w j).bind fun q=>cZ w q.1 q.2)=some x∧DK s w=some x∧mY x∧x.Log.length≤s.Log.length+1:=by
  have h3:=hs.2.2.1
  have hset:∀x,idx (s.aT.set w.toNat x) w=some x:=KY hw.1 (by omega)
  have hn:∀(e:Ev) {α:Type} (k:Option α),need (s.Log.length + [e].length≤1073741824) k=k:=fun e _ k=>aQ (by simp;omega) k
  have hcs:s.Cells.length=2∧∀h∈s.Cells,dC h:=⟨hs.2.1,hs.2.2.2.2.2.1⟩
  have hcell:idx s.Cells j.Op.Cell=some (s.Cells[j.Op.Cell.toNat]'(by have:=hjo.1.2.2.1;omega)):=fL hjo.1.2.2.1.1 (by have:=hjo.1.2.2.1;omega)
  have hcm:dC (s.Cells[j.Op.Cell.toNat]'(by have:=hjo.1.2.2.1;omega)):=hcs.2 _ (List.getElem_mem _)
  generalize (s.Cells[j.Op.Cell.toNat]'(by have:=hjo.1.2.2.1;omega))=cell at hcell hcm
  have hval:0≤j.Op.dK∧j.Op.dK≤65535:=by have:=hjo.1.2.2.2;rw [if_pos hk] at this;exact this.2
  unfold HH DK
  rw [hj]
  simp only [aG,bI,bT,dU,cZ,hU,j9]
  by_cases p0:j.Pc=0
  · obtain⟨x,y,e1,e2,hx⟩:=step_eq hs.1 hs.1.small hw j.Sub
    simp only [p0,beq_self_eq_true,if_true,e1,e2,aG]
    cases hd:y.cW with
    | false=>simp only [iF,if_true,aG,hj];exact⟨_,rfl,rfl,hs.put hx hcs (by exact dI hb hjo) _,Nat.le_succ _⟩
    | true =>
      simp only [dT,aP,if_false]
      by_cases c0:y.Code=0
      · simp only [c0,bne_self_eq_false,aP,if_false,eM,jP,aG]
        by_cases o0:j7 y.Out
        · simp only [bA o0,dT,aP,if_false,aG,hj];exact⟨_,rfl,rfl,hs.put hx hcs (by exact dI hb ⟨hjo.1,.inr o0,hjo.2.2⟩) _,Nat.le_succ _⟩
        · simp only [bP o0,iF,if_true,aG,hj];exact⟨_,rfl,rfl,hs.put hx hcs (by exact dI hb hjo) _,Nat.le_succ _⟩
      · simp only [QF c0,if_true,aG,hj];exact⟨_,rfl,rfl,hs.put hx hcs (by exact dI hb hjo) _,Nat.le_succ _⟩
  simp only [gQ p0,aP,if_false]
  by_cases p1:j.Pc=1
  · obtain⟨x,c,e1,e2,h1,h2⟩:=aP2 hs.1.1.1 (h:=j.H) hval
    simp only [p1,beq_self_eq_true,if_true,e1,e2,aG,DH,hj,bT,dU]
    by_cases c0:c=0
    · simp only [c0,bne_self_eq_false,aP,if_false,aG,hj];exact⟨_,rfl,rfl,hs.put (hs.1.mem h1) hcs (by exact dI hb hjo) _,Nat.le_succ _⟩
    · have:=h2 c0
      subst this
      simp only [QF c0,if_true,aG,hj];exact⟨_,rfl,rfl,hs.put hs.1 hcs (by exact dI hb hjo) _,Nat.le_succ _⟩
  simp only [gQ p1,aP,if_false]
  by_cases p2:j.Pc=2
  · have hc2:(s.Cells.set j.Op.Cell.toNat j.H).length=2∧∀h∈s.Cells.set j.Op.Cell.toNat j.H,dC h:=⟨by simpa using hcs.1,fun q hq=>(List.mem_or_eq_of_mem_set hq).elim (hcs.2 q) (fun e=>e ▸ hjo.2.1)⟩
    simp only [p2,beq_self_eq_true,if_true,hcell,aG,hset,hn,DJ,dP,dY,DI,bT,dU,j9]
    by_cases c0:cell=0
    · simp only [c0,beq_self_eq_true,if_true,aG,hj,List.set_set];exact⟨_,rfl,rfl,hs.put hs.1 hc2 (by exact dI hb ⟨hjo.1,hjo.2.1,.inl rfl⟩) _,by simp⟩
    · simp only [gQ c0,aP,if_false,aG,hj,List.set_set];exact⟨_,rfl,rfl,hs.put hs.1 hc2 (by exact dI hb ⟨hjo.1,hjo.2.1,hcm⟩) _,by simp⟩
  simp only [gQ p2,aP,if_false]
  by_cases p3:j.Pc=3
  · obtain⟨x,y,e1,e2,hx⟩:=step_eq hs.1 hs.1.small hw j.Sub
    simp only [p3,beq_self_eq_true,if_true,e1,e2,aG]
    cases hd:y.cW with
    | false=>simp only [iF,if_true,aP,if_false,aG,hj];exact⟨_,rfl,rfl,hs.put hx hcs (by exact dI hb hjo) _,Nat.le_succ _⟩
    | true=>simp only [dT,if_true,aP,if_false,aG,hj];exact⟨_,rfl,rfl,hs.put hx hcs (by exact dI hb hjo) _,Nat.le_succ _⟩
  simp only [gQ p3,aP,if_false,aG,hj]
  exact⟨_,rfl,rfl,hs.put hs.1 hcs (by exact dI hb hjo) _,Nat.le_succ _⟩
theorem get_eq(hk:j.Op.Kind=2):∃x,((HI s w j).bind fun q=>cZ w q.1 q.2)=some x∧DL s w=some x∧mY x∧x.Log.length≤s.Log.length+1:=by
  have h3:=hs.2.2.1
  have hset:∀x,idx (s.aT.set w.toNat x) w=some x:=KY hw.1 (by omega)
  have hn:∀(e:Ev) {α:Type} (k:Option α),need (s.Log.length + [e].length≤1073741824) k=k:=fun e _ k=>aQ (by simp;omega) k
  have hcs:s.Cells.length=2∧∀h∈s.Cells,dC h:=⟨hs.2.1,hs.2.2.2.2.2.1⟩
  have hcell:idx s.Cells j.Op.Cell=some (s.Cells[j.Op.Cell.toNat]'(by have:=hjo.1.2.2.1;omega)):=fL hjo.1.2.2.1.1 (by have:=hjo.1.2.2.1;omega)
  have hcm:dC (s.Cells[j.Op.Cell.toNat]'(by have:=hjo.1.2.2.1;omega)):=hcs.2 _ (List.getElem_mem _)
  generalize (s.Cells[j.Op.Cell.toNat]'(by have:=hjo.1.2.2.1;omega))=cell at hcell hcm
  obtain⟨pn,hpn,_⟩:=ZU hs.1.1.2.1 hw
  unfold HI DL
  rw [hj]
  simp only [aG,bI,bT,dU,cZ]
  by_cases p0:j.Pc=0
  · obtain⟨x,y,e1,e2,hx⟩:=step_eq hs.1 hs.1.small hw j.Sub
    simp only [p0,beq_self_eq_true,if_true,e1,e2,aG]
    cases hd:y.cW with
    | false=>simp only [iF,if_true,aP,if_false,aG,hj];exact⟨_,rfl,rfl,hs.put hx hcs (by exact dI hb hjo) _,Nat.le_succ _⟩
    | true=>simp only [dT,if_true,aP,if_false,aG,hj];exact⟨_,rfl,rfl,hs.put hx hcs (by exact dI hb hjo) _,Nat.le_succ _⟩
  simp only [gQ p0,aP,if_false]
  by_cases p1:j.Pc=1
  · simp only [p1,beq_self_eq_true,if_true,hcell,aG,jV,hn,wC,hj,dP,dY,hset]
    by_cases c0:cell=0
    · simp only [c0,beq_self_eq_true,if_true,aG,hj,List.set_set];exact⟨_,rfl,rfl,hs.put hs.1 hcs (by exact dI hb ⟨hjo.1,.inl rfl,hjo.2.2⟩) _,by simp⟩
    · simp only [gQ c0,aP,if_false,aG,hj,List.set_set];exact⟨_,rfl,rfl,hs.put hs.1 hcs (by exact dI hb ⟨hjo.1,hcm,hjo.2.2⟩) _,by simp⟩
  simp only [gQ p1,aP,if_false]
  by_cases p2:j.Pc=2
  · obtain⟨r,e1,e2⟩:=aP3 hs.1.1.1 j.H
    simp only [p2,beq_self_eq_true,if_true,pK,lZ,hj,e1,e2,aG,hset,List.set_set]
    exact⟨_,rfl,rfl,hs.put hs.1 hcs (by exact dI hb hjo) _,Nat.le_succ _⟩
  simp only [gQ p2,aP,if_false]
  by_cases p3:j.Pc=3
  · simp only [p3,beq_self_eq_true,if_true,uI,mC,hj,hpn,aG,dU,sH,kJ,m7,bI]
    cases pn.On with
    | false=>simp only [aP,if_false,aG,iF,if_true,hj];exact⟨_,rfl,rfl,hs.put hs.1 hcs (by exact dI hb hjo) _,Nat.le_succ _⟩
    | true =>
      simp only [if_true,aG]
      cases pn.dJ with
      | false=>simp only [aP,if_false,aG,iF,dT,if_true,hj];exact⟨_,rfl,rfl,hs.put hs.1 hcs (by exact dI hb hjo) _,Nat.le_succ _⟩
      | true=>simp only [aP,if_false,aG,iF,dT,if_true,hj];exact⟨_,rfl,rfl,hs.put hs.1 hcs (by exact dI hb hjo) _,Nat.le_succ _⟩
  simp only [gQ p3,aP,if_false]
  by_cases p4:j.Pc=4
  · obtain⟨r,e1,e2,h1,h2⟩:=aNO hs.1.1.2.1 hw
    simp only [p4,beq_self_eq_true,if_true,e1,e2,tK,aG,hj]
    exact⟨_,rfl,rfl,hs.put (hs.1.clock h1 (by rw [h2];exact Int.le_refl _)) hcs (by exact dI hb hjo) _,Nat.le_succ _⟩
  simp only [gQ p4,aP,if_false,aG,hj]
  exact⟨_,rfl,rfl,hs.put hs.1 hcs (by exact dI hb hjo) _,Nat.le_succ _⟩
theorem a39(hk:j.Op.Kind=3):∃x,((HJ s w j).bind fun q=>cZ w q.1 q.2)=some x∧DO s w=some x∧mY x∧x.Log.length≤s.Log.length+1:=by
  have h3:=hs.2.2.1
  have hset:∀x,idx (s.aT.set w.toNat x) w=some x:=KY hw.1 (by omega)
  have hn:∀(e:Ev) {α:Type} (k:Option α),need (s.Log.length + [e].length≤1073741824) k=k:=fun e _ k=>aQ (by simp;omega) k
  have hcs:s.Cells.length=2∧∀h∈s.Cells,dC h:=⟨hs.2.1,hs.2.2.2.2.2.1⟩
  have hcell:idx s.Cells j.Op.Cell=some (s.Cells[j.Op.Cell.toNat]'(by have:=hjo.1.2.2.1;omega)):=fL hjo.1.2.2.1.1 (by have:=hjo.1.2.2.1;omega)
  have hcm:dC (s.Cells[j.Op.Cell.toNat]'(by have:=hjo.1.2.2.1;omega)):=hcs.2 _ (List.getElem_mem _)
  generalize (s.Cells[j.Op.Cell.toNat]'(by have:=hjo.1.2.2.1;omega))=cell at hcell hcm
  unfold HJ DO
  rw [hj]
  simp only [aG,bI,bT,dU,cZ,DM,DN]
  by_cases p0:j.Pc=0
  · simp only [p0,beq_self_eq_true,if_true,hcell,aG,jV,hn,hj,dP,dY,hset]
    by_cases c0:cell=0
    · simp only [c0,beq_self_eq_true,if_true,aG,hj,List.set_set,hn];exact⟨_,rfl,rfl,hs.put hs.1 hcs (by exact dI hb ⟨hjo.1,.inl rfl,hjo.2.2⟩) _,by simp⟩
    · simp only [gQ c0,aP,if_false,aG,hj,List.set_set];exact⟨_,rfl,rfl,hs.put hs.1 hcs (by exact dI hb ⟨hjo.1,hcm,hjo.2.2⟩) _,Nat.le_succ _⟩
  simp only [gQ p0,aP,if_false]
  by_cases p1:j.Pc=1
  · obtain⟨r,e1,e2,h1⟩:=aP5 hs.1.1.2.2.2 hw j.H
    simp only [p1,beq_self_eq_true,if_true,e1,e2,aG,hj]
    exact⟨_,rfl,rfl,hs.put (hs.1.haz h1) hcs (by exact dI hb hjo) _,Nat.le_succ _⟩
  simp only [gQ p1,aP,if_false]
  by_cases p2:j.Pc=2
  · simp only [p2,beq_self_eq_true,if_true,hcell,aG,jV,hn,hj,dP,dY]
    by_cases c0:cell=j.H
    · simp only [c0,bne_self_eq_false,aP,if_false,aG,hj];exact⟨_,rfl,rfl,hs.put hs.1 hcs (by exact dI hb hjo) _,by simp⟩
    · simp only [QF c0,if_true,aG,hj];exact⟨_,rfl,rfl,hs.put hs.1 hcs (by exact dI hb hjo) _,Nat.le_succ _⟩
  simp only [gQ p2,aP,if_false]
  by_cases p3:j.Pc=3
  · obtain⟨r,e1,e2⟩:=aP3 hs.1.1.1 j.H
    simp only [p3,beq_self_eq_true,if_true,pK,lZ,hj,e1,e2,aG,hset,List.set_set]
    exact⟨_,rfl,rfl,hs.put hs.1 hcs (by exact dI hb hjo) _,Nat.le_succ _⟩
  simp only [gQ p3,aP,if_false]
  by_cases p4:j.Pc=4
  · obtain⟨r,e1,e2,h1⟩:=aXB hs.1.1.2.2.2 hw
    simp only [p4,beq_self_eq_true,if_true,e1,e2,aG,hj]
    exact⟨_,rfl,rfl,hs.put (hs.1.haz h1) hcs (by exact dI hb hjo) _,Nat.le_succ _⟩
  simp only [gQ p4,aP,if_false,aG,hj]
  exact⟨_,rfl,rfl,hs.put hs.1 hcs (by exact dI hb hjo) _,Nat.le_succ _⟩
theorem a0R(hk:j.Op.Kind=7):∃x,((D7 s w j).bind fun q=>cZ w q.1 q.2)=some x∧BE s w=some x∧mY x∧x.Log.length≤s.Log.length+1:=by
  have h3:=hs.2.2.1
  have hset:∀x,idx (s.aT.set w.toNat x) w=some x:=KY hw.1 (by omega)
  have hn:∀(e:Ev) {α:Type} (k:Option α),need (s.Log.length + [e].length≤1073741824) k=k:=fun e _ k=>aQ (by simp;omega) k
  have hcs:s.Cells.length=2∧∀h∈s.Cells,dC h:=⟨hs.2.1,hs.2.2.2.2.2.1⟩
  have hcell:idx s.Cells j.Op.Cell=some (s.Cells[j.Op.Cell.toNat]'(by have:=hjo.1.2.2.1;omega)):=fL hjo.1.2.2.1.1 (by have:=hjo.1.2.2.1;omega)
  have hcm:dC (s.Cells[j.Op.Cell.toNat]'(by have:=hjo.1.2.2.1;omega)):=hcs.2 _ (List.getElem_mem _)
  generalize (s.Cells[j.Op.Cell.toNat]'(by have:=hjo.1.2.2.1;omega))=cell at hcell hcm
  obtain⟨pn,hpn,_⟩:=ZU hs.1.1.2.1 hw
  unfold D7 BE
  rw [hj,hpn]
  simp only [aG,bI,bT,dU,cZ,BY,sJ,sI,hj]
  by_cases p0:j.Pc=0
  · simp only [p0,beq_self_eq_true,if_true]
    cases pn.On with
    | false=>simp only [iF,if_true,aG,hj];exact⟨_,rfl,rfl,hs.put hs.1 hcs (by exact dI hb hjo) _,Nat.le_succ _⟩
    | true =>
      simp only [dT,aP,if_false]
      cases pn.dJ with
      | true=>simp only [if_true,aG,hj];exact⟨_,rfl,rfl,hs.put hs.1 hcs (by exact dI hb hjo) _,Nat.le_succ _⟩
      | false =>
        simp only [aP,if_false,hcell,aG,jV,hn,wC,hj,dP,dY,hset]
        by_cases c0:cell=0
        · simp only [c0,beq_self_eq_true,if_true,aG,hj,List.set_set];exact⟨_,rfl,rfl,hs.put hs.1 hcs (by exact dI hb ⟨hjo.1,.inl rfl,hjo.2.2⟩) _,by simp⟩
        · simp only [gQ c0,aP,if_false,aG,hj,List.set_set];exact⟨_,rfl,rfl,hs.put hs.1 hcs (by exact dI hb ⟨hjo.1,hcm,hjo.2.2⟩) _,by simp⟩
  simp only [gQ p0,aP,if_false,hj,aG]
  by_cases p1:j.Pc=1
  · obtain⟨r,e1,e2⟩:=aP3 hs.1.1.1 j.H
    simp only [p1,beq_self_eq_true,if_true,pK,lZ,hj,e1,e2,aG,hset,List.set_set]
    exact⟨_,rfl,rfl,hs.put hs.1 hcs (by exact dI hb hjo) _,Nat.le_succ _⟩
  simp only [gQ p1,aP,if_false]
  by_cases p2:j.Pc=2
  · simp only [p2,beq_self_eq_true,if_true,uI,mC,hj,hpn,aG,dU,sH,kJ,m7,bI]
    cases pn.On with
    | false=>simp only [aP,if_false,aG,iF,if_true,hj];exact⟨_,rfl,rfl,hs.put hs.1 hcs (by exact dI hb hjo) _,Nat.le_succ _⟩
    | true =>
      simp only [if_true,aG]
      cases pn.dJ with
      | false=>simp only [aP,if_false,aG,iF,dT,if_true,hj];exact⟨_,rfl,rfl,hs.put hs.1 hcs (by exact dI hb hjo) _,Nat.le_succ _⟩
      | true=>simp only [aP,if_false,aG,iF,dT,if_true,hj];exact⟨_,rfl,rfl,hs.put hs.1 hcs (by exact dI hb hjo) _,Nat.le_succ _⟩
  simp only [gQ p2,aP,if_false,aG,hj]
  exact⟨_,rfl,rfl,hs.put hs.1 hcs (by exact dI hb hjo) _,Nat.le_succ _⟩
theorem aXC(hk:j.Op.Kind=4∨j.Op.Kind=5∨j.Op.Kind=6):∃x,((AM s w j).bind fun q=>cZ w q.1 q.2)=some x∧xV s w=some x∧mY x∧x.Log.length≤s.Log.length+1:=by
  have h3:=hs.2.2.1
  have hset:∀x,idx (s.aT.set w.toNat x) w=some x:=KY hw.1 (by omega)
  have hcs:s.Cells.length=2∧∀h∈s.Cells,dC h:=⟨hs.2.1,hs.2.2.2.2.2.1⟩
  obtain⟨x,y,e1,e2,hx⟩:=step_eq hs.1 hs.1.small hw j.Sub
  unfold AM xV
  rw [hj]
  simp only [aG,bI,bT,dU,cZ,hU,j9,yI,iH,qM,qI,qL,qK,qJ,hj,e1,e2]
  rcases hk with k4 | k5 | k6
  · simp only [k4,show((4:Int) == 6)=false from rfl,show((4:Int) == 5)=false from rfl,show((4:Int) == 4)=true from rfl,aP,if_false,if_true]
    by_cases p0:j.Pc=0
    · simp only [p0,bne_self_eq_false,beq_self_eq_true,aP,if_false,if_true]
      cases hd:y.cW with
      | false=>simp only [iF,if_true,aP,if_false,aG,hj];exact⟨_,rfl,rfl,hs.put hx hcs (by exact dI hb hjo) _,Nat.le_succ _⟩
      | true=>simp only [dT,if_true,aP,if_false,aG,hj];exact⟨_,rfl,rfl,hs.put hx hcs (by exact dI hb hjo) _,Nat.le_succ _⟩
    · simp only [QF p0,gQ p0,aP,if_false,if_true]
      by_cases p1:j.Pc=1
      · simp only [p1,bne_self_eq_false,beq_self_eq_true,aP,if_false,if_true,show((1:Int) == 0)=false from rfl]
        cases hd:y.cW with
        | false=>simp only [iF,if_true,aP,if_false,aG,hj];exact⟨_,rfl,rfl,hs.put hx hcs (by exact dI hb hjo) _,Nat.le_succ _⟩
        | true=>simp only [dT,if_true,aP,if_false,aG,hj];exact⟨_,rfl,rfl,hs.put hx hcs (by exact dI hb hjo) _,Nat.le_succ _⟩
      · simp only [QF p1,gQ p1,aP,if_false,if_true,aG,hj]
        exact⟨_,rfl,rfl,hs.put hs.1 hcs (by exact dI hb hjo) _,Nat.le_succ _⟩
  · simp only [k5,show((5:Int) == 6)=false from rfl,show((5:Int) == 5)=true from rfl,show((5:Int) == 4)=false from rfl,aP,if_false,if_true]
    by_cases p0:j.Pc=0
    · simp only [p0,bne_self_eq_false,beq_self_eq_true,aP,if_false,if_true]
      cases hd:y.cW with
      | false=>simp only [iF,if_true,aP,if_false,aG,hj];exact⟨_,rfl,rfl,hs.put hx hcs (by exact dI hb hjo) _,Nat.le_succ _⟩
      | true=>simp only [dT,if_true,aP,if_false,aG,hj];exact⟨_,rfl,rfl,hs.put hx hcs (by exact dI hb hjo) _,Nat.le_succ _⟩
    · simp only [QF p0,gQ p0,aP,if_false,if_true]
      by_cases p1:j.Pc=1
      · simp only [p1,bne_self_eq_false,aP,if_false,if_true,aG,hj]
        exact⟨_,rfl,rfl,hs.put hs.1 hcs (by exact dI hb hjo) _,Nat.le_succ _⟩
      · simp only [QF p1,if_true,aG,hj]
        exact⟨_,rfl,rfl,hs.put hs.1 hcs (by exact dI hb hjo) _,Nat.le_succ _⟩
  · simp only [k6,beq_self_eq_true,show((6:Int) == 5)=false from rfl,show((6:Int) == 4)=false from rfl,aP,if_false,if_true]
    by_cases p0:j.Pc=0
    · obtain⟨r,f1,f2,h1,h2⟩:=aNO hs.1.1.2.1 hw
      simp only [p0,beq_self_eq_true,if_true,f1,f2,tK,aG]
      cases hr:r.2 with
      | false=>simp only [iF,if_true,aG,hj];exact⟨_,rfl,rfl,hs.put (hs.1.clock h1 (by rw [h2];exact Int.le_refl _)) hcs (by exact dI hb hjo) _,Nat.le_succ _⟩
      | true=>simp only [dT,aP,if_false,aG,hj];exact⟨_,rfl,rfl,hs.put (hs.1.clock h1 (by rw [h2];exact Int.le_refl _)) hcs (by exact dI hb hjo) _,Nat.le_succ _⟩
    · simp only [gQ p0,aP,if_false,aG,hj]
      exact⟨_,rfl,rfl,hs.put hs.1 hcs (by exact dI hb hjo) _,Nat.le_succ _⟩
end
theorem aP6{l:List bK}(h:0 < l.length)(hl:l.length≤1000):xM l 0 1=some (l.drop 1):=by
  have e:=del_eq (l:=l) (k:=0) h
  unfold xM
  rw [aQ (by omega),if_neg (by simp),aQ (by omega),aQ (by omega),aQ (by omega),aQ]
  · simp only [Int.toNat_zero,Int.toNat_one] at e ⊢
    rw [Nat.zero_add] at e
    rw [Nat.zero_add,e,List.eraseIdx_zero,List.drop_one]
  · rw [e9 (by omega)]
    simp only [List.drop_zero,List.length_take,e9 (show(0:Int).toNat≤l.length by simp)]
    omega
theorem aF6{o:bK}(ho:jY o)(ser pc:Int)(sub:Sub)(code:Int):JOk ⟨true,o,ser,pc,sub,0,0,0,code⟩:=(AV rfl).2 ⟨ho,.inl rfl,.inl rfl⟩
theorem aXD{s:aB}(hs:mY s)(hl:s.Log.length≤1000000000){w:Int}(hw:0≤w∧w≤2){j:bD}(hj:idx s.aT w=some j):∃x,AL s w=some x∧xN s w=some x∧mY x∧x.Log.length≤s.Log.length+1:=by
  have h3:=hs.2.2.1
  have ht:=hs.2.2.2.1
  have hser:=hs.2.2.2.2.1
  have hset:∀x,idx (s.aT.set w.toNat x) w=some x:=KY hw.1 (by omega)
  have hn:∀(e:Ev) {α:Type} (k:Option α),need (s.Log.length + [e].length≤1073741824) k=k:=fun e _ k=>aQ (by simp;omega) k
  have hq:idx s.aZ w=some (s.aZ[w.toNat]'(by have:=ht.1;omega)):=fL hw.1 (by have:=ht.1;omega)
  have hqk:QOk (s.aZ[w.toNat]'(by have:=ht.1;omega)):=ht.2 _ (List.getElem_mem _)
  generalize (s.aZ[w.toNat]'(by have:=ht.1;omega))=q at hq hqk
  obtain⟨pn,hpn,_⟩:=ZU hs.1.1.2.1 hw
  have ew:aY (s.aI+1)=s.aI+1:=aN (by omega) (by omega)
  unfold AL xN
  rw [hq]
  simp only [aG,yH,qF]
  by_cases l0:q.fM.length=0
  · simp only [show((q.fM.length:Int) == 0)=true by rw [l0];rfl,if_true]
    exact⟨_,rfl,rfl,hs,Nat.le_succ _⟩
  · simp only [show((q.fM.length:Int) == 0)=false from gQ (by omega),aP,if_false]
    by_cases s0:s.aI=1000000
    · simp only [s0,beq_self_eq_true,if_true]
      exact⟨_,rfl,rfl,hs,Nat.le_succ _⟩
    · simp only [gQ s0,aP,if_false,hq,aG]
      have hx:idx q.fM 0=some (q.fM[0]'(by omega)):=by have:=aV (l:=q.fM) (k:=0) (by omega);simpa using this
      have ho:jY (q.fM[0]'(by omega)):=hqk.2 _ (List.getElem_mem _)
      have h12:=hqk.1
      have hdel:=aP6 (l:=q.fM) (by omega) (by omega)
      generalize (q.fM[0]'(by omega))=o at hx ho
      have etk:(q.fM.take q.fM.length).drop (1:Int).toNat=q.fM.drop 1:=by rw [List.take_length];rfl
      have hT:ES (s.aZ.set w.toNat ⟨q.fM.drop 1⟩):=⟨by simpa using ht.1,fun z hz=>(List.mem_or_eq_of_mem_set hz).elim (ht.2 z) (fun e=>by
        subst e
        exact⟨by simp only [List.length_drop];omega,fun a ha=>hqk.2 a (List.mem_of_mem_drop ha)⟩)⟩
      have fin:∀(jb:bD) (l:List Ev),JOk jb→mY ⟨s.aA,s.Cells,s.aT.set w.toNat jb,s.aZ.set w.toNat ⟨q.fM.drop 1⟩,l,s.aI+1⟩:=fun jb l hjb=>
        ⟨hs.1,hs.2.1,by simpa using h3,hT,by simp only;omega,hs.2.2.2.2.2.1,fun z hz=>(List.mem_or_eq_of_mem_set hz).elim (hs.2.2.2.2.2.2 z) (fun e=>e ▸ hjb)⟩
      simp only [hx,hdel,aG,hU,j9,ew]
      rw [aQ (by omega)]
      by_cases k1:o.Kind=1
      · simp only [k1,beq_self_eq_true,if_true,fC,eB,hj,dP,dY,aG,hset,hn,etk,ew]
        exact⟨_,rfl,rfl,fin _ _ (aF6 ho _ _ _ _),by simp⟩
      simp only [gQ k1,aP,if_false]
      have pin:∀z,z=true→∃x,jJ s w q o z=some x∧j4 s w o (q.fM.drop 1) z=some x∧mY x∧x.Log.length≤s.Log.length+1:=fun z hz=>by
        subst hz
        simp only [jJ,j4,if_true,hU,j9,hpn,aG,bT]
        cases pn.On with
        | true =>
          simp only [if_true,fC,eB,hj,dP,dY,aG,hset,hn,etk,ew]
          exact⟨_,rfl,rfl,fin _ _ (aF6 ho _ _ _ _),by simp⟩
        | false =>
          simp only [aP,if_false,fC,eB,hj,dP,dY,aG,hset,hn,etk,ew]
          exact⟨_,rfl,rfl,fin _ _ (aF6 ho _ _ _ _),by simp⟩
      by_cases k2:o.Kind=2
      · simp only [k2,beq_self_eq_true,if_true];exact pin true rfl
      simp only [gQ k2,aP,if_false]
      by_cases k5:o.Kind=5
      · simp only [k5,beq_self_eq_true];exact pin true rfl
      simp only [gQ k5,jJ,j4,aP,if_false,hU,j9,aG]
      by_cases k4:o.Kind=4
      · simp only [k4,beq_self_eq_true,if_true,fC,eB,hj,dP,dY,aG,hset,hn,etk,ew]
        exact⟨_,rfl,rfl,fin _ _ (aF6 ho _ _ _ _),by simp⟩
      · simp only [gQ k4,aP,if_false,fC,eB,hj,dP,dY,aG,hset,hn,etk,ew]
        exact⟨_,rfl,rfl,fin _ _ (aF6 ho _ _ _ _),by simp⟩
theorem aLH{s:aB}(hs:mY s)(hl:s.Log.length≤1000000000){w:Int}(hw:0≤w∧w≤2):∃x,P2 s w=some x∧l4 s w=some x∧mY x∧x.Log.length≤s.Log.length+1:=by
  have h3:=hs.2.2.1
  have hset:∀x,idx (s.aT.set w.toNat x) w=some x:=KY hw.1 (by omega)
  have hn:∀(e:Ev) {α:Type} (k:Option α),need (s.Log.length + [e].length≤1073741824) k=k:=fun e _ k=>aQ (by simp;omega) k
  have hj:idx s.aT w=some (s.aT[w.toNat]'(by omega)):=fL hw.1 (by omega)
  have hjk:JOk (s.aT[w.toNat]'(by omega)):=hs.2.2.2.2.2.2 _ (List.getElem_mem _)
  generalize (s.aT[w.toNat]'(by omega))=j at hj hjk
  unfold P2 l4
  rw [hj]
  simp only [aG]
  cases hb:j.cY with
  | false =>
    obtain⟨x,e1,e2,e3,e4⟩:=aXD hs hl hw hj
    simp only [iF,if_true,e1,e2,aG]
    exact⟨_,rfl,rfl,e3,e4⟩
  | true =>
    have hjo:=(AV hb).1 hjk
    simp only [dT,aP,if_false]
    by_cases p9:j.Pc=9
    · simp only [p9,beq_self_eq_true,if_true,hn,dP,dY,hj,aG]
      exact⟨_,rfl,rfl,hs.put hs.1 ⟨hs.2.1,hs.2.2.2.2.2.1⟩ ((TW rfl).2 rfl) _,by simp⟩
    simp only [gQ p9,aP,if_false]
    have close:∀{A B:Option aB} {x:aB},A=some x→B=some x→mY x→x.Log.length≤s.Log.length+1→∃x,A=some x∧(B.bind fun z=>some z)=some x∧mY x∧x.Log.length≤s.Log.length+1:=fun h1 h2 h3 h4=>⟨_,h1,by rw [h2];rfl,h3,h4⟩
    by_cases k1:j.Op.Kind=1
    · obtain⟨x,e1,e2,e3,e4⟩:=a38 hs hl hw hj hb hjo k1
      simp only [k1,beq_self_eq_true,if_true];exact close e1 e2 e3 e4
    simp only [gQ k1,aP,if_false]
    by_cases k2:j.Op.Kind=2
    · obtain⟨x,e1,e2,e3,e4⟩:=get_eq hs hl hw hj hb hjo k2
      simp only [k2,beq_self_eq_true,if_true];exact close e1 e2 e3 e4
    simp only [gQ k2,aP,if_false]
    by_cases k3:j.Op.Kind=3
    · obtain⟨x,e1,e2,e3,e4⟩:=a39 hs hl hw hj hb hjo k3
      simp only [k3,beq_self_eq_true,if_true];exact close e1 e2 e3 e4
    simp only [gQ k3,aP,if_false]
    by_cases k7:j.Op.Kind=7
    · obtain⟨x,e1,e2,e3,e4⟩:=a0R hs hl hw hj hb hjo k7
      simp only [k7,beq_self_eq_true,if_true];exact close e1 e2 e3 e4
    simp only [gQ k7,aP,if_false]
    have hkr:=hjo.1.1
    obtain⟨x,e1,e2,e3,e4⟩:=aXC hs hl hw hj hb hjo (by omega)
    exact close e1 e2 e3 e4
end Go.Gv
end
noncomputable section
namespace Go.Gv
def pO(s:Sub)(code:Int):Sub:={s with Code:=code,cW:=true}
def lF(n:Int):Int:=if 1≤n∧n≤8 then 0 else if 1≤n∧n≤16 then 1 else if 1≤n∧n≤40 then 2 else -1
theorem WY(n:Int):-1≤lF n∧lF n≤2:=by unfold lF;split <;> (try split) <;> (try split) <;> omega
theorem aTH(n:Int):DX n=some (lF n):=by
  have s1:∀k,0≤k∧k≤2→fO n k=some (if 1≤n∧n≤gW k then .stop (Out.ret k) else .next (k+1)):=fun k hk=>by
    simp only [fO]
    rw [if_pos (by simp;omega),rP,aG,cE,aG,aN (by omega) (by omega)]
    by_cases q:1≤n∧n≤gW k
    · rw [bA q,if_pos rfl,if_pos q]
    · rw [bP q,if_neg (by simp),if_neg q]
  have z0:gW 0=8:=rfl
  have z1:gW 1=16:=rfl
  have z2:gW 2=40:=rfl
  unfold DX lF
  by_cases q0:1≤n∧n≤8
  · rw [bU (by rw [s1 0 (by omega),if_pos (by omega)]),if_pos q0];rfl
  · rw [bV (by rw [s1 0 (by omega),if_neg (by omega)]),if_neg q0,show(0:Int)+1=1 from rfl]
    by_cases q1:1≤n∧n≤16
    · rw [bU (by rw [s1 1 (by omega),if_pos (by omega)]),if_pos q1];rfl
    · rw [bV (by rw [s1 1 (by omega),if_neg (by omega)]),if_neg q1,show(1:Int)+1=2 from rfl]
      by_cases q2:1≤n∧n≤40
      · rw [bU (by rw [s1 2 (by omega),if_pos (by omega)]),if_pos q2];rfl
      · rw [bV (by rw [s1 2 (by omega),if_neg (by omega)]),if_neg q2,show(2:Int)+1=3 from rfl,bU (body:=fO n) (r:=Out.brk ()) (by simp [fO])];rfl
def KZ(l:List Int):List Int×Int:=(l.dropLast,l.getLastD (-1))
theorem aDH{s:aR}(h:s.aS.length≤1048576):sN s=some (⟨(KZ s.aS).1⟩,(KZ s.aS).2):=by
  unfold sN M5 KZ
  obtain⟨l⟩:=s
  rcases List.eq_nil_or_concat l with rfl | ⟨L,b,rfl⟩
  · rfl
  · simp only [List.concat_eq_append] at h ⊢
    have hl:(L ++ [b]).length=L.length+1:=by simp
    rw [hl,aN (by omega) (by omega),show((L.length+1:Nat):Int) - 1=(L.length:Int) by omega,if_neg (by simp;omega),aQ (by omega),aV (by rw [hl];omega)]
    simp
def ET(m:Mem)(w c:Int):Mem×Int:=(⟨m.aE,⟨m.aD.Global,m.aD.cT.set (w * 3+c).toNat ⟨(KZ (d4 m.aD.cT (w * 3+c).toNat)).1⟩⟩⟩,(KZ (d4 m.aD.cT (w * 3+c).toNat)).2)
def uL(m:Mem)(c:Int):Mem×Int:=(⟨m.aE,⟨m.aD.Global.set c.toNat ⟨(KZ (d4 m.aD.Global c.toNat)).1⟩,m.aD.cT⟩⟩,(KZ (d4 m.aD.Global c.toNat)).2)
def YJ(h:aE):Nat:=h.Class.findIdx (fun x=>decide (x = -1))
def H5(m:Mem)(c:Int):Mem×Int:=if YJ m.aE=6 then (m,-1) else
  (⟨⟨gB m.aE.Bytes (YJ m.aE) c (b9 c).toNat,m.aE.Class.set (YJ m.aE) c⟩,⟨m.aD.Global.set c.toNat ⟨d4 m.aD.Global c.toNat++(gS (YJ m.aE) (b9 c).toNat).drop 1⟩,m.aD.cT⟩⟩,(YJ m.aE:Int) * 4)
theorem aXE{h:aE}(hs:fZ h):YJ h≤6:=by rw [←hs.2.1];exact List.findIdx_le_length
theorem aXF{h:aE}(hs:fZ h)(hq:YJ h≠6):YJ h < 6∧bZ h (YJ h) = -1:=by
  have h6:=hs.2.1
  have hlt:YJ h < 6:=by have:=aXE hs;omega
  refine⟨hlt,?_⟩
  rw [←US hs hlt]
  have:=List.findIdx_getElem (xs:=h.Class) (p:=fun x=>decide (x = -1)) (w:=by show YJ h < _;omega)
  exact of_decide_eq_true this
theorem a0S{h:aE}(hs:fZ h):∀j (hj:j < 6),j < YJ h→bZ h j≠-1:=fun j hj hlt=>by
  have:=List.not_of_lt_findIdx hlt
  rw [←US hs hj]
  simpa using this
theorem a4A{h:aE}(hh:VU h){c:Int}(hc:0≤c∧c≤2):sM h c=some (if YJ h=6 then (h,[]) else (⟨gB h.Bytes (YJ h) c (b9 c).toNat,h.Class.set (YJ h) c⟩,gS (YJ h) (b9 c).toNat)):=by
  have hs:=hh.1
  have h6:=hs.2.1
  have h384:=hs.1
  have hle:=aXE hs
  have s1:∀k (hk:k < YJ h),fB h c (k:Int)=some (.next ((k+1:Nat):Int)):=fun k hk=>by
    have n:(h.Class[k] != -1)=true:=by
      have:=a0S hs k (by omega) hk
      rw [←US hs (by omega)] at this
      simpa using this
    simp only [fB,HZ]
    rw [if_pos (by simp;omega),aV (by omega),aG,n,if_pos rfl,aN (by omega) (by omega)];rfl
  unfold sM
  by_cases hq:YJ h=6
  · have a1:loop (fB h c) 0=some (Out.brk ()):=iQ (YJ h) (fun k=>(k:Int)) _ s1 (by simp only [fB];rw [if_neg (by simp;omega)])
    rw [a1,if_pos hq];rfl
  · obtain⟨hlt,he⟩:=aXF hs hq
    rw [←US hs hlt] at he
    generalize hqq:YJ h=q at *
    have a1:loop (fB h c) 0=some (Out.ret (⟨gB h.Bytes q c (b9 c).toNat,h.Class.set q c⟩,gS q (b9 c).toNat)):=iQ q (fun k=>(k:Int)) _ s1 (by
      have e0:aY ((q:Int) * 64)=((q * 64:Nat):Int):=by rw [aN (by omega) (by omega)];omega
      have e1:aY (((q * 64:Nat):Int)+1)=((q * 64+1:Nat):Int):=by rw [aN (by omega) (by omega)];omega
      have e2:aY (((q * 64:Nat):Int)+2)=((q * 64+2:Nat):Int):=by rw [aN (by omega) (by omega)];omega
      have n:(h.Class[q] != -1)=false:=by simpa using he
      simp only [fB,e0,e1,e2,Int.toNat_natCast]
      rw [if_pos (by simp;omega),aV (by omega),aG,n,if_neg (by simp),aV (by omega),aG,aV (by simp;omega),aG,iD,aG,aV (by simp;omega),aG]
      have:=aFZ h384 hlt hc
      simp only [gB] at this
      rw [this];rfl)
    rw [a1,if_neg hq];rfl
theorem aTI{m:Mem}(hm:mW m){c:Int}(hc:0≤c∧c≤2):DY m c=some (H5 m c):=by
  have h3:=hm.1.2.1
  have hpp:0 < b9 c:=hY.2 hc
  have hp4:=mQ c
  obtain⟨_,_,_,_,_,_,_,_,hsG,_⟩:=mW.facts hm
  unfold DY H5
  rw [a4A hm.1.1 hc]
  by_cases hq:YJ m.aE=6
  · simp only [if_pos hq,aG];rfl
  · have hk:c.toNat < m.aD.Global.length:=by omega
    have hg0:=hsG _ (List.getElem_mem hk)
    have hx:idx m.aD.Global c=some m.aD.Global[c.toNat]:=fL hc.1 (by omega)
    have hz:idx (gS (YJ m.aE) (b9 c).toNat) 0=some ((YJ m.aE:Int) * 4):=by
      have:=aV (l:=gS (YJ m.aE) (b9 c).toNat) (k:=0) (by rw [KW];omega)
      rw [show((0:Nat):Int)=0 from rfl] at this
      rw [this];simp [gS]
    have hn:(((b9 c).toNat:Int) == 0)=false:=by simpa using (by omega:¬((b9 c).toNat:Int)=0)
    have ht:(gS (YJ m.aE) (b9 c).toNat).take (b9 c).toNat=gS (YJ m.aE) (b9 c).toNat:=List.take_of_length_le (by rw [KW];omega)
    have hd:((gS (YJ m.aE) (b9 c).toNat).drop 1).length≤4:=by rw [List.length_drop,KW];omega
    simp only [if_neg hq,aG,KW,hn,aP,if_false,hx,hz,H0,ht]
    rw [aQ (by omega),aQ (by simp only [List.length_drop,KW,Int.toNat_one];omega),dV hk];rfl
def aP7(m:Mem)(s:Int):Int:=if 1≤iI m.aE s∧iI m.aE s≤6 then iI m.aE s * 32+s else 0
theorem a0T{m:Mem}(hs:fZ m.aE){s:Int}(hc:0≤aX m.aE s):AF m s=some (aP7 m s):=by
  unfold AF M6 yC aP7
  rw [pX hs hc,aG,cE,cE]
  have h1:=(qO hc).1
  simp only [bA h1,aG,dT,aP,if_false]
  by_cases q:1≤iI m.aE s∧iI m.aE s≤6
  · simp only [bA q,dT,aP,if_false,if_pos q]
    rw [aN (x:=iI m.aE s * 32) (by omega) (by omega),aN (by omega) (by omega)];rfl
  · simp only [bP q,iF,if_true,if_neg q];rfl
def uT(b:aA)(s:Sub)(p:Mem×Int):aA×Sub:=
  if 0≤p.2 then ({b with Mem:=p.1},pO {s with Out:=aP7 p.1 p.2} 0) else if s.Pc=3 then ({b with Mem:=p.1},pO s 3) else ({b with Mem:=p.1},{s with Pc:=s.Pc+1})
def FQ(b:aA)(w:Int)(s:Sub):aA×Sub:=
  if lF s.A < 0 then (b,pO s 2)
  else if s.Pc=0 then uT b s (ET b.Mem w (lF s.A))
  else if s.Pc=1∨s.Pc=3 then uT b s (uL b.Mem (lF s.A))
  else if s.Pc=2 then uT b s (H5 b.Mem (lF s.A))
  else (b,pO s 1)
theorem aTJ{b:aA}(hm:mW b.Mem){w:Int}(hw:0≤w∧w≤2)(s:Sub):AG b w s=some (FQ b w s):=by
  obtain⟨hcnt,h3,h9,h1,h2,hsm,hcp,hlo,hsG,hsO⟩:=mW.facts hm
  have hs:=hm.1.1.1
  have hr:=WY s.A
  unfold AG FQ
  rw [aTH]
  simp only [aG]
  by_cases c0:lF s.A < 0
  · simp only [bA c0,if_true,bR,if_pos c0];rfl
  generalize lF s.A=c at *
  have hc:0≤c∧c≤2:=by omega
  simp only [bP c0,aP,if_false,if_neg c0]
  have fin:∀(p:Mem×Int),-1≤p.2→(0≤p.2→fZ p.1.aE∧0≤aX p.1.aE p.2)→s.Pc≤3∧0≤s.Pc→jI s p.2 ⟨p.1,b.aC,b.aM,b.mP⟩=some (uT b s p):=by
    intro p hp hx hpc
    unfold jI uT
    simp only [yE,PY,bR]
    by_cases x0:0≤p.2
    · rw [bP (show ¬p.2 < 0 by omega),bA x0]
      simp only [aP,if_false,if_true,if_pos x0,a0T (hx x0).1 (hx x0).2,aG];rfl
    · rw [bA (show p.2 < 0 by omega),bP x0]
      by_cases p3:s.Pc=3
      · have p3':(s.Pc == 3)=true:=by simpa using p3
        simp only [p3',if_true,if_neg x0,if_pos p3,aG];rfl
      · have p3':(s.Pc == 3)=false:=by simpa using p3
        have e:aY (s.Pc+1)=s.Pc+1:=aN (by omega) (by omega)
        simp only [p3',if_true,aP,if_false,if_neg x0,if_neg p3,aG,e]
  have popL:∀l:List Int,-1≤(KZ l).2∨(KZ l).2∈l:=fun l=>by
    unfold KZ
    rcases List.eq_nil_or_concat l with rfl | ⟨L,b,rfl⟩
    · left;simp
    · right;simp
  by_cases p0:s.Pc=0
  · have hk:(w * 3+c).toNat < b.Mem.aD.cT.length:=by omega
    have hx:idx b.Mem.aD.cT (w * 3+c)=some b.Mem.aD.cT[(w * 3+c).toNat]:=fL (by omega) (by omega)
    obtain⟨l,t,x,e1,e2,e3,g1,g2,g3⟩:=aF3 hm hw hc
    have hl:=hsO _ (List.getElem_mem hk)
    rw [hx] at e1;cases e1
    rw [aDH (by omega)] at e2
    have ep:ET b.Mem w c=(⟨b.Mem.aE,⟨b.Mem.aD.Global,b.Mem.aD.cT.set (w * 3+c).toNat t⟩⟩,x):=by
      unfold ET
      rw [←dV hk]
      injection e2 with e2;injection e2 with e4 e5
      rw [←e4,←e5]
    have hx0:-1≤x:=by
      injection e2 with e2;injection e2 with e4 e5
      rcases popL b.Mem.aD.cT[(w * 3+c).toNat].aS with h | h
      · rw [←e5];exact h
      · rw [←e5];have:=hm.1.2.2.2.2.1 _ (List.mem_append_right _ (List.mem_flatMap.2 ⟨_,List.getElem_mem hk,h⟩));omega
    have p0':(s.Pc == 0)=true:=by simpa using p0
    have:=fin (ET b.Mem w c) (by rw [ep];exact hx0) (by rw [ep];exact fun h=>⟨hs,g2 h⟩) (by omega)
    rw [ep] at this
    simp only [p0',if_true,if_pos p0,(O6 hw hc).1,aG,hx]
    rw [aDH (show b.Mem.aD.cT[(w * 3+c).toNat].aS.length≤1048576 by omega),e2,aG,ep]
    exact this
  · have p0':(s.Pc == 0)=false:=by simpa using p0
    simp only [p0',aP,if_false,yF,if_neg p0]
    have hk:c.toNat < b.Mem.aD.Global.length:=by omega
    have hx:idx b.Mem.aD.Global c=some b.Mem.aD.Global[c.toNat]:=fL (by omega) (by omega)
    obtain⟨l,t,x,e1,e2,e3,g1,g2,g3⟩:=V2 hm hc
    have hl:=hsG _ (List.getElem_mem hk)
    rw [hx] at e1;cases e1
    rw [aDH (by omega)] at e2
    have ep:uL b.Mem c=(⟨b.Mem.aE,⟨b.Mem.aD.Global.set c.toNat t,b.Mem.aD.cT⟩⟩,x):=by
      unfold uL
      rw [←dV hk]
      injection e2 with e2;injection e2 with e4 e5
      rw [←e4,←e5]
    have hx0:-1≤x:=by
      injection e2 with e2;injection e2 with e4 e5
      rcases popL b.Mem.aD.Global[c.toNat].aS with h | h
      · rw [←e5];exact h
      · rw [←e5];have:=hm.1.2.2.2.2.1 _ (List.mem_append_left _ (List.mem_flatMap.2 ⟨_,List.getElem_mem hk,h⟩));omega
    have tg:0≤s.Pc∧s.Pc≤3→(idx b.Mem.aD.Global c).bind (fun x13=>(sN x13).bind fun x14=>jI s x14.2 ({b with Mem:=(⟨b.Mem.aE,(⟨b.Mem.aD.Global.set c.toNat x14.1,b.Mem.aD.cT⟩:aD)⟩:Mem)}:aA))=some (uT b s (uL b.Mem c)):=fun hpc=>by
      have:=fin (uL b.Mem c) (by rw [ep];exact hx0) (by rw [ep];exact fun h=>⟨hs,g2 h⟩) (by omega)
      rw [hx,aG,aDH (by omega),e2,aG,←this,ep]
    by_cases p1:s.Pc=1
    · have p1':(s.Pc == 1)=true:=by simpa using p1
      simp only [p1',if_true]
      rw [tg (by omega),if_pos (.inl p1)]
    · have p1':(s.Pc == 1)=false:=by simpa using p1
      simp only [p1',aP,if_false]
      by_cases p3:s.Pc=3
      · have p3':(s.Pc == 3)=true:=by simpa using p3
        simp only [p3',if_true]
        rw [tg (by omega),if_pos (.inr p3)]
      · have p3':(s.Pc == 3)=false:=by simpa using p3
        have n13:¬(s.Pc=1∨s.Pc=3):=by omega
        simp only [p3',aP,if_false,if_neg n13]
        by_cases p2:s.Pc=2
        · obtain⟨m',y,f1,f2,k1,k2,k3⟩:=aNK hm hc
          have hg:=aTI hm hc
          rw [f1] at hg
          have hg':H5 b.Mem c=(m',y):=by injection hg with hg;exact hg.symm
          have hy:-1≤(H5 b.Mem c).2:=by unfold H5;split <;> simp only <;> omega
          have p2':(s.Pc == 2)=true:=by simpa using p2
          simp only [p2',if_true,if_pos p2,f1,aG]
          have:=fin (H5 b.Mem c) hy (by rw [hg'];exact k2) (by omega)
          rw [hg'] at this ⊢
          exact this
        · have p2':(s.Pc == 2)=false:=by simpa using p2
          simp only [p2',aP,if_false,bR,if_neg p2,aG];rfl
end Go.Gv
end
noncomputable section
namespace Go.Gv
def bS(c:aC)(w:Int):qA:=c.cK.getD w.toNat ⟨false,0,false,0⟩
theorem uM{c:aC}(hc:JX c){w:Int}(hw:0≤w∧w≤2):idx c.cK w=some (bS c w):=by
  have:=hc.2.1
  rw [fL hw.1 (by omega)]
  simp [bS,List.getD_eq_getElem?_getD,List.getElem?_eq_getElem (show w.toNat < c.cK.length by omega)]
def y8(c:aC)(w e:Int):aC×Bool:=
  if (bS c w).On=false∨(bS c w).dJ=true∨(bS c w).aJ=e then (c,true)
  else if (bS c w).Seen=2 then (⟨c.aJ,c.cK.set w.toNat {bS c w with dJ:=true,Seen:=0}⟩,true)
  else (⟨c.aJ,c.cK.set w.toNat {bS c w with Seen:=(bS c w).Seen+1}⟩,false)
theorem TX{c:aC}(hc:JX c){w:Int}(hw:0≤w∧w≤2):POk c.aJ (bS c w):=by
  have:=uM hc hw
  have h2:=hc.2.1
  rw [fL hw.1 (by omega)] at this
  injection this with this
  rw [←this]
  exact hc.2.2 _ (List.getElem_mem _)
theorem aXG{c:aC}(hc:JX c){w:Int}(hw:0≤w∧w≤2)(e:Int):HE c w e=some (y8 c w e):=by
  have hp:=TX hc hw
  have hx:=uM hc hw
  have hsm:=hc.small
  unfold HE D0 y8
  rw [mX hsm.1,jA,bA hc,cE,bA hw,hx]
  simp only [aG,dT,aP,if_false,rK,hx]
  generalize bS c w=p at *
  have ew:aY (p.Seen+1)=p.Seen+1:=aN (by have:=hp.2.1;omega) (by have:=hp.2.1;omega)
  cases h1:p.On
  · simp
  · cases h2:p.dJ
    · by_cases h3:p.aJ=e
      · simp [h3]
      · have h3':(p.aJ == e)=false:=by simpa using h3
        by_cases h4:p.Seen=2
        · simp [h3,h3',h4]
        · have h4':(p.Seen == 2)=false:=by simpa using h4
          simp [h3,h3',h4,h4',ew]
    · simp
def V3(c:aC)(e:Int):aC×Bool:=if c.aJ=e∧e≠100000 then (⟨e+1,c.cK⟩,true) else (c,false)
theorem aXH{c:aC}(hc:JX c)(e:Int):ON c e=some (V3 c e):=by
  have hsm:=hc.small
  unfold ON D1 V3
  rw [mX hsm.1,jA,bA hc]
  simp only [aG,dT,aP,if_false]
  by_cases h1:c.aJ=e
  · have he:=hc.1
    have ew:aY (e+1)=e+1:=aN (by omega) (by omega)
    by_cases h2:e=100000
    · simp [h1,h2]
    · have h2':(e == 100000)=false:=by simpa using h2
      simp [h1,h2,h2',ew]
  · simp [h1]
def K0(c:aC)(w e:Int):aC×Bool:=if 0≤e∧e≤c.aJ then (⟨c.aJ,c.cK.set w.toNat ⟨true,e,false,0⟩⟩,true) else (c,false)
theorem aTK{c:aC}(hc:JX c){w:Int}(hw:0≤w∧w≤2)(e:Int):KJ c w e=some (K0 c w e):=by
  have hsm:=hc.small
  unfold KJ AH K0
  rw [mX hsm.1,jA,bA hc,cE,bA hw,cE]
  simp only [aG,dT,aP,if_false]
  by_cases h1:0≤e∧e≤c.aJ
  · simp [h1,uM hc hw]
  · simp [h1]
def zH(c:aC)(w:Int):aC×Bool:=if (bS c w).On then (⟨c.aJ,c.cK.set w.toNat ⟨false,0,false,0⟩⟩,true) else (c,false)
theorem aJU{c:aC}(hc:JX c){w:Int}(hw:0≤w∧w≤2):FI c w=some (zH c w):=by
  have hsm:=hc.small
  have hx:=uM hc hw
  unfold FI AI zH
  rw [mX hsm.1,jA,bA hc,cE,bA hw,hx]
  simp only [aG,dT,aP,if_false,hx]
  cases h1:(bS c w).On <;> simp
def lG(b:aA)(s:Sub):aA×Sub:=
  if s.Pc=0 then (b,{s with Pc:=1,E:=b.aC.aJ,B:=0})
  else if s.Pc=1 then
    if 0≤s.B∧s.B≤2 then
      if (y8 b.aC s.B s.E).2 then ({b with aC:=(y8 b.aC s.B s.E).1},{s with Pc:=if s.B=2 then 2 else 1,B:=s.B+1})
      else ({b with aC:=(y8 b.aC s.B s.E).1},pO s 8)
    else (b,pO s 1)
  else if s.Pc=2 then ({b with aC:=(V3 b.aC s.E).1},pO {s with Out:=if (V3 b.aC s.E).2 then 1 else s.Out} 0)
  else (b,pO s 1)
theorem aNP{b:aA}(hc:JX b.aC)(s:Sub):tU b s=some (lG b s):=by
  unfold tU lG
  rw [aXH hc,cE]
  simp only [bR,sO,sP,aG]
  by_cases p0:s.Pc=0
  · have p0':(s.Pc == 0)=true:=by simpa using p0
    simp only [p0',if_true,if_pos p0]
  · have p0':(s.Pc == 0)=false:=by simpa using p0
    simp only [p0',aP,if_false,if_neg p0]
    by_cases p1:s.Pc=1
    · have p1':(s.Pc == 1)=true:=by simpa using p1
      simp only [p1',if_true,if_pos p1]
      by_cases hB:0≤s.B∧s.B≤2
      · have ew:aY (s.B+1)=s.B+1:=aN (by omega) (by omega)
        simp only [bA hB,dT,aP,if_false,if_pos hB,aXG hc hB,aG,ew]
        cases h:(y8 b.aC s.B s.E).2
        · simp [pO]
        · by_cases q:s.B=2
          · have q':(s.B+1 == 3)=true:=by simp [q]
            simp [q',q]
          · have q':(s.B+1 == 3)=false:=by simp;omega
            simp [q',q,p1]
      · simp only [bP hB,iF,if_true,if_neg hB];rfl
    · have p1':(s.Pc == 1)=false:=by simpa using p1
      simp only [p1',aP,if_false,if_neg p1]
      by_cases p2:s.Pc=2
      · have p2':(s.Pc == 2)=true:=by simpa using p2
        simp only [p2',if_true,if_pos p2]
        cases h:(V3 b.aC s.E).2 <;> rfl
      · have p2':(s.Pc == 2)=false:=by simpa using p2
        simp only [p2',aP,if_false,if_neg p2];rfl
def TY(b:aA)(w:Int)(s:Sub):aA×Sub:=
  if s.Pc=0 then (b,{s with Pc:=1,E:=b.aC.aJ})
  else if s.Pc=1 then
    if (K0 b.aC w s.E).2 then ({b with aC:=(K0 b.aC w s.E).1},{s with Pc:=2}) else ({b with aC:=(K0 b.aC w s.E).1},pO s 1)
  else if s.Pc=2 then if b.aC.aJ=s.E then (b,pO s 0) else (b,{s with Pc:=0})
  else (b,pO s 1)
theorem a0U{b:aA}(hc:JX b.aC){w:Int}(hw:0≤w∧w≤2)(s:Sub):HF b w s=some (TY b w s):=by
  unfold HF TY
  rw [aTK hc hw]
  simp only [bR,aG]
  by_cases p0:s.Pc=0
  · have p0':(s.Pc == 0)=true:=by simpa using p0
    simp only [p0',if_true,if_pos p0]
  · have p0':(s.Pc == 0)=false:=by simpa using p0
    simp only [p0',aP,if_false,if_neg p0]
    by_cases p1:s.Pc=1
    · have p1':(s.Pc == 1)=true:=by simpa using p1
      simp only [p1',if_true,if_pos p1]
      cases h:(K0 b.aC w s.E).2 <;> rfl
    · have p1':(s.Pc == 1)=false:=by simpa using p1
      simp only [p1',aP,if_false,if_neg p1]
      by_cases p2:s.Pc=2
      · have p2':(s.Pc == 2)=true:=by simpa using p2
        simp only [p2',if_true,if_pos p2]
        by_cases q:b.aC.aJ=s.E
        · have q':(b.aC.aJ == s.E)=true:=by simpa using q
          simp only [q',if_true,if_pos q];rfl
        · have q':(b.aC.aJ == s.E)=false:=by simpa using q
          simp only [q',aP,if_false,if_neg q]
      · have p2':(s.Pc == 2)=false:=by simpa using p2
        simp only [p2',aP,if_false,if_neg p2];rfl
def cX(l:List bB)(w:Int):List dO:=(l.getD w.toNat ⟨[]⟩).Rows
theorem FR{l:List bB}(hl:pM l){w:Int}(hw:0≤w∧w≤2):idx l w=some ⟨cX l w⟩:=by
  have:=hl.1
  rw [fL hw.1 (by omega)]
  simp [cX,List.getD_eq_getElem?_getD,List.getElem?_eq_getElem (show w.toNat < l.length by omega)]
theorem aJV{l:List bB}(hl:pM l){w:Int}(hw:0≤w∧w≤2):(cX l w).length≤24:=by
  have h:=FR hl hw
  have h3:=hl.1
  rw [fL hw.1 (by omega)] at h
  injection h with h
  have:=hl.small.2.2.2 _ (List.getElem_mem (show w.toNat < l.length by omega))
  rw [h] at this;exact this
def GW(b:aA)(w:Int)(s:Sub):aA×Sub:=
  if s.Pc=0 then (b,{s with Pc:=1,E:=b.aC.aJ})
  else if s.Pc=1 then
    if 0≤s.E∧s.E≤b.aC.aJ then
      if g9 b.Mem s.A∧¬E5 b.aM (s.A % 32) then ({b with aM:=b.aM.set w.toNat ⟨cX b.aM w ++ [⟨s.A,s.E⟩]⟩},pO s 0) else (b,pO s 4)
    else (b,pO s 1)
  else (b,pO s 1)
theorem aP8{b:aA}(hb:mR b){w:Int}(hw:0≤w∧w≤2)(s:Sub):wQ b w s=some (GW b w s):=by
  have hL:=hb.1.2.2.1
  have hm:=hb.1.1
  obtain⟨h1,h2,h3,_⟩:=mW.facts hm
  have hx:=FR hL hw
  have hrow:=aJV hL hw
  unfold wQ GW
  rw [cE,oT hm.1.1.1 (by omega) (by simp only [maxLen];omega) (by simp only [maxLen];omega),dR]
  simp only [bR,aG,vD,DZ]
  by_cases p0:s.Pc=0
  · have p0':(s.Pc == 0)=true:=by simpa using p0
    simp only [p0',if_true,if_pos p0]
  · have p0':(s.Pc == 0)=false:=by simpa using p0
    simp only [p0',aP,if_false,if_neg p0]
    by_cases p1:s.Pc=1
    · have p1':(s.Pc == 1)=true:=by simpa using p1
      simp only [p1',if_true,if_pos p1]
      by_cases q1:0≤s.E∧s.E≤b.aC.aJ
      · simp only [bA q1,dT,aP,if_false,if_pos q1]
        by_cases q2:g9 b.Mem s.A
        · have hh:=q2.1
          simp only [bA q2,dT,aP,if_false,if_pos hh,RL hL,aG]
          by_cases q3:E5 b.aM (s.A % 32)
          · simp only [bA q3,if_true,if_neg (show ¬(g9 b.Mem s.A∧¬E5 b.aM (s.A % 32)) from fun h=>h.2 q3)];rfl
          · simp only [bP q3,aP,if_false,hx,aG,if_pos (show g9 b.Mem s.A∧¬E5 b.aM (s.A % 32) from ⟨q2,q3⟩)]
            rw [aQ (by simp;omega)];rfl
        · simp only [bP q2,iF,if_true,if_neg (show ¬(g9 b.Mem s.A∧¬E5 b.aM (s.A % 32)) from fun h=>q2 h.1)];rfl
      · simp only [bP q1,iF,if_true,if_neg q1];rfl
    · have p1':(s.Pc == 1)=false:=by simpa using p1
      simp only [p1',aP,if_false,if_neg p1];rfl
def EU(r:dO)(e:Int):Prop:=2≤e∧r.aJ≤aY (e - 2)
instance (r:dO) (e:Int):Decidable (EU r e):=by unfold EU;infer_instance
theorem aF7(r:dO)(e:Int):JW r e=some (decide (EU r e)):=by
  unfold JW JF EU
  by_cases h:2≤e
  · rw [bA h,if_pos rfl]
    simp [h]
  · simp [h]
def xC(l:List dO)(e:Int)(k:Nat):Nat:=k+(l.drop k).findIdx (fun r=>decide (EU r e))
theorem aXI{l:List dO}(hl:l.length≤1000){from_ e:Int}:yG l from_ e=some (if xC l e from_.toNat < l.length then (xC l e from_.toNat:Int) else -1):=by
  have hst:(if 0 < from_ then from_ else 0)=(from_.toNat:Int):=by split <;> omega
  unfold yG
  rw [hst]
  have key:∀d k:Nat,l.length≤k+d→loop (eO l e) (k:Int)=some (if xC l e k < l.length then Out.ret (xC l e k:Int) else Out.brk ()):=by
    intro d
    induction d with
    | zero =>
      intro k hk
      rw [bU (r:=Out.brk ()) (by simp only [eO];rw [if_neg (by simp;omega)]),if_neg (by unfold xC;omega)]
    | succ d ih =>
      intro k hk
      by_cases hkl:k < l.length
      · have hd:l.drop k=l[k] :: l.drop (k+1):=List.drop_eq_getElem_cons hkl
        by_cases hr:EU l[k] e
        · have hs:xC l e k=k:=by unfold xC;rw [hd,List.findIdx_cons,bA hr];rfl
          rw [bU (r:=Out.ret (k:Int)) (by simp only [eO];rw [if_pos (by simp;omega),aV hkl,aG,aF7 _ e,aG,bA hr,if_pos rfl]),hs,if_pos hkl]
        · have hs:xC l e k=xC l e (k+1):=by unfold xC;rw [hd,List.findIdx_cons,bP hr];simp only [cond_false];omega
          rw [bV (s':=((k+1:Nat):Int)) (by simp only [eO];rw [if_pos (by simp;omega),aV hkl,aG,aF7 _ e,aG,bP hr,if_neg (by simp),aN (by omega) (by omega)];rfl),ih (k+1) (by omega),hs]
      · rw [bU (r:=Out.brk ()) (by simp only [eO];rw [if_neg (by simp;omega)]),if_neg (by unfold xC;omega)]
  rw [key l.length from_.toNat (by omega)]
  split <;> rfl
theorem aF8{l:List dO}{e:Int}{k:Nat}(h:xC l e k < l.length):k≤xC l e k∧EU l[xC l e k] e:=by
  refine⟨by unfold xC;omega,?_⟩
  have h1:(l.drop k).findIdx (fun r=>decide (EU r e)) < (l.drop k).length:=by
    rw [List.length_drop];unfold xC at h;omega
  have:=List.findIdx_getElem (xs:=l.drop k) (p:=fun r=>decide (EU r e)) (w:=h1)
  rw [List.getElem_drop] at this
  exact of_decide_eq_true this
def EV(m:Mem)(w h:Int):Mem:=
  if h / 32+1≤6 then
    if (d4 m.aD.cT (w * 3+aX m.aE (h % 32)).toNat).length < 2 then ⟨⟨ZV m.aE.Bytes (eJ (h % 32) (aX m.aE (h % 32))).toNat (h / 32+1),m.aE.Class⟩,⟨m.aD.Global,m.aD.cT.set (w * 3+aX m.aE (h % 32)).toNat ⟨d4 m.aD.cT (w * 3+aX m.aE (h % 32)).toNat ++ [h % 32]⟩⟩⟩
    else ⟨⟨ZV m.aE.Bytes (eJ (h % 32) (aX m.aE (h % 32))).toNat (h / 32+1),m.aE.Class⟩,⟨m.aD.Global.set (aX m.aE (h % 32)).toNat ⟨d4 m.aD.Global (aX m.aE (h % 32)).toNat ++ [h % 32]⟩,m.aD.cT⟩⟩
  else ⟨⟨ZV m.aE.Bytes (eJ (h % 32) (aX m.aE (h % 32))).toNat (h / 32+1),m.aE.Class⟩,m.aD⟩
theorem aXJ{m:Mem}(hm:mW m){w h:Int}(hw:0≤w∧w≤2)(hv:g9 m h):HD m w (h % 32)=some (EV m w h):=by
  obtain⟨hcnt,h3,h9,h1,h2,hsm,hcp,hlo,hsG,hsO⟩:=mW.facts hm
  have hs:=hm.1.1.1
  have hh:=hv.1
  have hcl:=iA hv.2.1
  have hgo:=GU hcl
  have hc2:0≤aX m.aE (h % 32)∧aX m.aE (h % 32)≤2:=by
    obtain⟨_,q,e⟩:=qO hcl
    rw [e];exact hY.1 (by omega)
  have hg6:1≤h / 32∧h / 32≤6:=by unfold j7 at hh;omega
  have eo:eJ (h % 32) (aX m.aE (h % 32))=(((eJ (h % 32) (aX m.aE (h % 32))).toNat:Nat):Int):=by omega
  have ew:aY (h / 32+1)=h / 32+1:=aN (by omega) (by omega)
  unfold HD EV
  rw [i9 hs,aG,pX hs hcl,hv.2.2,aG,uJ,aG,ew]
  generalize hgn:(eJ (h % 32) (aX m.aE (h % 32))).toNat=a at eo
  rw [eo,H4 (by omega) (by omega) (by omega)]
  simp only [aG,KI,KH,ew]
  generalize aX m.aE (h % 32)=c at *
  by_cases q:h / 32+1≤6
  · have hk:(w * 3+c).toNat < m.aD.cT.length:=by omega
    have hx:idx m.aD.cT (w * 3+c)=some m.aD.cT[(w * 3+c).toNat]:=fL (by omega) (by omega)
    have hk2:c.toNat < m.aD.Global.length:=by omega
    have hx2:idx m.aD.Global c=some m.aD.Global[c.toNat]:=fL (by omega) (by omega)
    have b1:=hsO _ (List.getElem_mem hk)
    have b2:=hsG _ (List.getElem_mem hk2)
    rw [bA q,if_pos rfl,if_pos q]
    unfold S6
    rw [(O6 hw hc2).1]
    simp only [aG,hx,hx2,KG,S4,S5,←dV hk,←dV hk2]
    by_cases q2:m.aD.cT[(w * 3+c).toNat].aS.length < 2
    · have y1:(m.aD.cT[(w * 3+c).toNat].aS.length:Int) < 2:=by omega
      simp only [bA y1,if_true,if_pos q2]
      rw [aQ (by simp;omega)];rfl
    · have y1:¬(m.aD.cT[(w * 3+c).toNat].aS.length:Int) < 2:=by omega
      simp only [bP y1,aP,if_false,if_neg q2]
      rw [aQ (by simp;omega)];rfl
  · rw [bP q,if_neg (by simp),if_neg q]
def rQ(z:List Int)(w:Int):Int:=z.getD w.toNat 0
theorem O7{z:List Int}(hz:JJ z){w:Int}(hw:0≤w∧w≤2):idx z w=some (rQ z w):=by
  have:=hz.1
  rw [fL hw.1 (by omega)]
  simp [rQ,List.getD_eq_getElem?_getD,List.getElem?_eq_getElem (show w.toNat < z.length by omega)]
def H6(l:List dO)(k:Int):dO:=l.getD k.toNat ⟨0,0⟩
theorem TZ{l:List dO}{k:Int}(h:0≤k∧k < l.length):idx l k=some (H6 l k):=by
  rw [fL h.1 h.2]
  simp [H6,List.getD_eq_getElem?_getD,List.getElem?_eq_getElem (show k.toNat < l.length by omega)]
def HM(l:List dO)(s:Sub):Prop:=0≤s.Row∧s.Row < l.length∧(H6 l s.Row).Handle=s.H
instance (l:List dO) (s:Sub):Decidable (HM l s):=by unfold HM;infer_instance
def lH(b:aA)(w:Int)(s:Sub):aA×Sub:=
  if s.Pc=0 then (b,{s with Pc:=1,E:=b.aC.aJ,Row:=0})
  else if s.Pc=1 then
    if xC (cX b.aM w) s.E s.Row.toNat < (cX b.aM w).length then (b,{s with Pc:=2,Row:=(xC (cX b.aM w) s.E s.Row.toNat:Int),B:=0,H:=(H6 (cX b.aM w) (xC (cX b.aM w) s.E s.Row.toNat:Int)).Handle})
    else (b,pO s 0)
  else if s.Pc=2 then
    if (0≤s.B∧s.B≤2)∧HM (cX b.aM w) s then
      if rQ b.mP s.B=s.H then (b,{s with Pc:=1,Row:=s.Row+1}) else (b,{s with Pc:=if s.B=2 then 3 else 2,B:=s.B+1})
    else (b,pO s 1)
  else if s.Pc=3 then
    if HM (cX b.aM w) s∧EU (H6 (cX b.aM w) s.Row) s.E then ({b with Mem:=EV b.Mem w s.H,aM:=b.aM.set w.toNat ⟨(cX b.aM w).eraseIdx s.Row.toNat⟩},{s with Pc:=1,Out:=aY (s.Out+1)})
    else (b,pO s 1)
  else (b,pO s 1)
theorem T0{l:List bB}(hl:pM l){w:Int}(hw:0≤w∧w≤2){r:dO}(hr:r∈cX l w):r∈bH l:=by
  have h:=FR hl hw
  have h3:=hl.1
  rw [fL hw.1 (by omega)] at h
  injection h with h
  exact List.mem_flatMap.2 ⟨l[w.toNat],List.getElem_mem _,by rw [h];exact hr⟩
theorem aF9{l:List dO}{k:Int}(h:0≤k∧k < l.length):H6 l k∈l:=by
  have:=TZ h
  rw [fL h.1 h.2] at this
  injection this with this
  rw [←this];exact List.getElem_mem _
theorem aNQ{b:aA}(hb:mR b){w:Int}(hw:0≤w∧w≤2)(s:Sub):tV b w s=some (lH b w s):=by
  have hL:=hb.1.2.2.1
  have hm:=hb.1.1
  have hx:=FR hL hw
  have hrow:=aJV hL hw
  have hfl:=fun r hr=>T0 hL hw (r:=r) hr
  unfold tV lH
  rw [hx]
  simp only [aG,bR]
  generalize cX b.aM w=l at *
  by_cases p0:s.Pc=0
  · have p0':(s.Pc == 0)=true:=by simpa using p0
    simp only [p0',if_true,if_pos p0]
  have p0':(s.Pc == 0)=false:=by simpa using p0
  simp only [p0',aP,if_false,if_neg p0]
  by_cases p1:s.Pc=1
  · have p1':(s.Pc == 1)=true:=by simpa using p1
    simp only [p1',if_true,if_pos p1,aXI (show l.length≤1000 by omega),aG]
    by_cases q:xC l s.E s.Row.toNat < l.length
    · have n:¬(xC l s.E s.Row.toNat:Int) < 0:=by omega
      simp only [if_pos q,bP n,aP,if_false,TZ (l:=l) (k:=(xC l s.E s.Row.toNat:Int)) (by omega),aG]
    · simp only [if_neg q,bA (show(-1:Int) < 0 by omega),if_true];rfl
  have p1':(s.Pc == 1)=false:=by simpa using p1
  simp only [p1',aP,if_false,if_neg p1]
  have el:aY ((l.length:Int) - 1)=(l.length:Int) - 1:=aN (by omega) (by omega)
  by_cases p2:s.Pc=2
  · have p2':(s.Pc == 2)=true:=by simpa using p2
    simp only [p2',if_true,if_pos p2,cE,el,aG,fG,sQ,bR]
    by_cases hB:0≤s.B∧s.B≤2
    · simp only [bA hB,dT,aP,if_false]
      by_cases hR:0≤s.Row∧s.Row≤(l.length:Int) - 1
      · simp only [bA hR,dT,aP,if_false,TZ (l:=l) (k:=s.Row) (by omega),aG]
        by_cases hH:(H6 l s.Row).Handle=s.H
        · have hH':((H6 l s.Row).Handle != s.H)=false:=by simpa using hH
          have ha:(0≤s.B∧s.B≤2)∧HM l s:=⟨hB,hR.1,by omega,hH⟩
          have e1:aY (s.B+1)=s.B+1:=aN (by omega) (by omega)
          have e2:aY (s.Row+1)=s.Row+1:=aN (by omega) (by omega)
          simp only [hH',aP,if_false,if_pos ha,O7 hb.1.2.2.2 hB,aG,e1,e2]
          by_cases hz:rQ b.mP s.B=s.H
          · have hz':(rQ b.mP s.B == s.H)=true:=by simpa using hz
            simp only [hz',if_true,if_pos hz]
          · have hz':(rQ b.mP s.B == s.H)=false:=by simpa using hz
            simp only [hz',aP,if_false,if_neg hz]
            by_cases q:s.B=2
            · have q':(s.B+1 == 3)=true:=by simp [q]
              simp only [q',if_true,if_pos q]
            · have q':(s.B+1 == 3)=false:=by simp;omega
              simp only [q',aP,if_false,if_neg q,p2]
        · have hH':((H6 l s.Row).Handle != s.H)=true:=by simpa using hH
          have ha:¬((0≤s.B∧s.B≤2)∧HM l s):=fun h=>hH h.2.2.2
          simp only [hH',if_true,if_neg ha,aG];rfl
      · have ha:¬((0≤s.B∧s.B≤2)∧HM l s):=fun h=>hR ⟨h.2.1,by have:=h.2.2.1;omega⟩
        simp only [bP hR,iF,if_true,if_neg ha,aG];rfl
    · have ha:¬((0≤s.B∧s.B≤2)∧HM l s):=fun h=>hB h.1
      simp only [bP hB,iF,if_true,if_neg ha,aG];rfl
  have p2':(s.Pc == 2)=false:=by simpa using p2
  simp only [p2',aP,if_false,if_neg p2]
  by_cases p3:s.Pc=3
  · have p3':(s.Pc == 3)=true:=by simpa using p3
    simp only [p3',if_true,if_pos p3,cE,el,aG,fH,B4,bR]
    by_cases hR:0≤s.Row∧s.Row≤(l.length:Int) - 1
    · simp only [bA hR,dT,aP,if_false,TZ (l:=l) (k:=s.Row) (by omega),aG]
      by_cases hH:(H6 l s.Row).Handle=s.H
      · have hH':((H6 l s.Row).Handle != s.H)=false:=by simpa using hH
        simp only [hH',aP,if_false,aF7,aG]
        by_cases hr:EU (H6 l s.Row) s.E
        · have ha:HM l s∧EU (H6 l s.Row) s.E:=⟨⟨hR.1,by omega,hH⟩,hr⟩
          have e2:aY (s.Row+1)=s.Row+1:=aN (by omega) (by omega)
          have hlive:=(hb.2 _ (hfl _ (aF9 (l:=l) (k:=s.Row) (by omega)))).1
          rw [hH] at hlive
          have et:(s.Row+1).toNat=s.Row.toNat+1:=by omega
          simp only [bA hr,dT,aP,if_false,if_pos ha,e2,dR,if_pos hlive.1,aG,aXJ hm hw hlive,et]
          rw [aQ (by omega),aQ (by omega),aQ (by omega),del_eq (by omega)]
        · have ha:¬(HM l s∧EU (H6 l s.Row) s.E):=fun h=>hr h.2
          simp only [bP hr,iF,if_true,if_neg ha,aG];rfl
      · have hH':((H6 l s.Row).Handle != s.H)=true:=by simpa using hH
        have ha:¬(HM l s∧EU (H6 l s.Row) s.E):=fun h=>hH h.1.2.2
        simp only [hH',if_true,if_neg ha,aG];rfl
    · have ha:¬(HM l s∧EU (H6 l s.Row) s.E):=fun h=>hR ⟨h.1.1,by have:=h.1.2.1;omega⟩
      simp only [bP hR,iF,if_true,if_neg ha,aG];rfl
  · have p3':(s.Pc == 3)=false:=by simpa using p3
    simp only [p3',aP,if_false,if_neg p3];rfl
def d7(b:aA)(w:Int)(s:Sub):aA×Sub:=
  if s.cW then (b,s) else if s.Kind=1 then FQ b w s else if s.Kind=2 then GW b w s else if s.Kind=3 then lG b s else if s.Kind=4 then lH b w s else if s.Kind=5 then TY b w s else (b,pO s 1)
theorem aLI{b:aA}(hb:mR b){w:Int}(hw:0≤w∧w≤2)(s:Sub):wR b w s=some (d7 b w s):=by
  unfold wR d7
  rw [aTJ hb.1.1 hw,aP8 hb hw,aNP hb.1.2.1,aNQ hb hw,a0U hb.1.2.1 hw]
  simp only [aG,bR]
  cases s.cW
  · simp only [aP,if_false,beq_iff_eq]
    split <;> (try rfl)
    split <;> (try rfl)
    split <;> (try rfl)
    split <;> (try rfl)
    split <;> rfl
  · rfl
end Go.Gv
end
