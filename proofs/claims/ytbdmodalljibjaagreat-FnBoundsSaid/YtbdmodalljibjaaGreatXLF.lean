import Derived.Test.YtbdmodalljibjaaGreatXLE
set_option linter.unusedVariables false
set_option linter.unusedSimpArgs false
set_option linter.unusedSectionVars false
set_option linter.constructorNameAsVariable false
set_option linter.unnecessarySimpa false
noncomputable section
set_option linter.unusedVariables false
set_option linter.unusedSimpArgs false
set_option linter.unusedSectionVars false
namespace Go.Gv
theorem PH{α:Type}(l:List α)(f:α→Bool){body:Int→Option (Step Int (Out Unit Int))}(hb:∀k (hk:k < l.length),body (k:Int)=if f l[k] then some (.stop (.ret (k:Int))) else some (.next ((k+1:Nat):Int)))(he:body (l.length:Int)=some (.stop (.brk ()))) :
    ∃o,loop body 0=some o∧match o with | .brk _=>l.any f=false | .ret r=>0≤r∧l.any f=true:=by
  have key:=aIC (f:=body) l.length (fun k=>(k:Int)) (fun k=>if (l.drop k).any f then Out.ret ((k+(l.drop k).findIdx f:Nat):Int) else Out.brk ()) (fun k hk=>by
    by_cases h:k < l.length
    · have hd:l.drop k=l[k] :: l.drop (k+1):=List.drop_eq_getElem_cons h
      rw [hb k h,hd]
      simp only [List.any_cons,List.findIdx_cons]
      by_cases h4:f l[k]=true
      · left;simp [h4]
      · right
        have h4:f l[k]=false:=by simpa using h4
        refine⟨h,by simp [h4],?_⟩
        simp only [h4,Bool.false_or,cond_false]
        congr 2;omega
    · left
      obtain rfl:k=l.length:=by omega
      rw [he];simp) 0 (Nat.zero_le _)
  rw [show((0:Nat):Int)=0 from rfl,List.drop_zero] at key
  refine⟨_,key,?_⟩
  by_cases h:l.any f=true
  · rw [if_pos h];exact⟨by omega,h⟩
  · rw [if_neg h];simpa using h
theorem NH{l:List bM}(hl:l.length≤maxLen)(f:bM→Bool):fH l (fun x=>some (f x))=some (l.any f):=by
  obtain⟨o,e,h⟩:=PH l f (body:=iA l (fun x=>some (f x))) (fun k hk=>by
    simp only [iA]
    rw [if_pos (by simp;omega),aW hk,jD (sM hk hl)];rfl) (by simp [iA])
  unfold fH pJ
  rw [e]
  cases o with
  | brk u=>simp only at h;simp [lT,tH,h]
  | ret r=>simp only at h;simp [lT,h]
theorem K4{l:List aK}(hl:l.length≤maxLen)(f:aK→Bool)(g:aK→Option Bool)(hg:∀x∈l,g x=some (f x)):eY l g=some (l.any f):=by
  obtain⟨o,e,h⟩:=PH l f (body:=gQ l g) (fun k hk=>by
    simp only [gQ]
    rw [if_pos (by simp;omega),aW hk,jD (sM hk hl)]
    simp only [Option.bind_some,hg _ (List.getElem_mem hk)]) (by simp [gQ])
  unfold eY nW
  rw [e]
  cases o with
  | brk u=>simp only at h;simp [kQ,sI,h]
  | ret r=>simp only at h;simp [kQ,h]
theorem K5{l:List aD}(hl:l.length≤maxLen)(f:aD→Bool)(g:aD→Option Bool)(hg:∀x∈l,g x=some (f x)):eZ l g=some (l.any f):=by
  obtain⟨o,e,h⟩:=PH l f (body:=gR l g) (fun k hk=>by
    simp only [gR]
    rw [if_pos (by simp;omega),aW hk,jD (sM hk hl)]
    simp only [Option.bind_some,hg _ (List.getElem_mem hk)]) (by simp [gR])
  unfold eZ nX
  rw [e]
  cases o with
  | brk u=>simp only at h;simp [kR,sJ,h]
  | ret r=>simp only at h;simp [kR,h]
theorem contains_eq{l:List Int}(hl:l.length≤maxLen)(v:Int):mD l v=some (decide (v∈l)):=by
  obtain⟨o,e,h⟩:=PH l (fun x=>v == x) (body:=dI l v) (fun k hk=>by
    simp only [dI]
    rw [if_pos (by simp;omega),aW hk,jD (sM hk hl)];rfl) (by simp [dI])
  have ha:l.any (fun x=>v == x)=decide (v∈l):=by
    rw [Bool.eq_iff_iff];simp
  rw [ha] at h
  unfold mD jX
  rw [e]
  cases o with
  | brk u=>simp only at h;simp [mC,BS,h]
  | ret r=>simp only at h;simp [mC,h]
theorem L8{l:List aD}{x:Int}:x∈cC l↔∃s∈l,x∈s.aO:=List.mem_flatMap
noncomputable section
variable {m:Mem} (hsh:dE m.aB) (hl:(dF m.aA).length≤1073741824) (hg:m.aA.Global.length≤maxLen) (ho:m.aA.aR.length≤maxLen)
include hl hg ho
theorem WU(s:Int):EK m.aA s=some (decide (s∈dF m.aA)):=by
  have hb:(1073741824:Nat)≤maxLen:=by simp [maxLen]
  unfold EK
  rw [FV hl hg ho]
  simp only [Option.bind_some]
  rw [z5 (by omega)];rfl
theorem K6(s:Int):AJ m.aA s=some (decide (s∈dF m.aA)):=by
  have hb:(1073741824:Nat)≤maxLen:=by simp [maxLen]
  have hal:=fK m.aA
  have e1:∀x∈m.aA.Global,lU x s=some (decide (s∈x.aO)):=fun x hx=>by
    have:=rB hx
    unfold lU;rw [contains_eq (by omega)];rfl
  have e2:∀x∈m.aA.aR,lU x s=some (decide (s∈x.aO)):=fun x hx=>by
    have:=rB hx
    unfold lU;rw [contains_eq (by omega)];rfl
  unfold AJ wV
  rw [K5 hg (fun x=>decide (s∈x.aO)) _ e1,K5 ho (fun x=>decide (s∈x.aO)) _ e2]
  have a1:(m.aA.Global.any fun x=>decide (s∈x.aO))=decide (s∈cC m.aA.Global):=by
    rw [Bool.eq_iff_iff];simp [L8]
  have a2:(m.aA.aR.any fun x=>decide (s∈x.aO))=decide (s∈cC m.aA.aR):=by
    rw [Bool.eq_iff_iff];simp [L8]
  rw [a1,a2]
  simp only [Option.bind_some,dF,List.mem_append]
  by_cases q:s∈cC m.aA.Global <;> simp [q]
def jM(m:Mem)(s:Int):Int:=if bB m.aB s < 0 then 0 else if s∈dF m.aA then 1 else if 6 < jZ m.aB s then 2 else 3
include hsh
theorem TB(s:Int):BZ m s=some (jM m s):=by
  unfold BZ jM
  rw [gN hsh,WU hl hg ho]
  simp only [Option.bind_some]
  by_cases q:bB m.aB s < 0
  · simp [q]
  · rw [lY hsh (by omega)]
    by_cases q2:s∈dF m.aA
    · simp [q,q2]
    · by_cases q3:6 < jZ m.aB s <;> simp [q,q2,q3]
theorem TC(s:Int):B8 m s=some (jM m s):=by
  unfold B8 jM
  rw [lD hsh,K6 hl hg ho]
  simp only [Option.bind_some]
  by_cases q:bB m.aB s < 0
  · simp [q]
  · rw [z4 hsh (by omega)]
    by_cases q2:s∈dF m.aA
    · simp [q,q2]
    · by_cases q3:6 < jZ m.aB s <;> simp [q,q2,q3]
def nC(m:Mem)(h:Int):Prop:=pK h∧jM m (h % 32)=3∧jZ m.aB (h % 32)=h / 32
instance (m:Mem) (h:Int):Decidable (nC m h):=by unfold nC;infer_instance
omit hl hg ho hsh in
theorem vX{m:Mem}{s:Int}(h:jM m s=3):0≤bB m.aB s:=by
  unfold jM at h
  split at h
  · omega
  · omega
theorem lF(h:Int):nO m h=some (decide (nC m h)):=by
  unfold nO oK
  rw [g7,dB]
  by_cases q:pK h
  · have hm:=q.mod
    rw [decide_eq_true q,if_pos q]
    simp only [Option.bind_some,if_true,TB hsh hl hg ho]
    by_cases q2:jM m (h % 32)=3
    · have n:(jM m (h % 32) == 3)=true:=by simpa using q2
      have eg:wB h=some (h / 32):=by
        unfold wB
        unfold pK at q
        rw [g7,decide_eq_true (show pK h from q),AT (by omega),aP (by omega) (by omega)];rfl
      rw [n,lY hsh (vX q2),eg]
      simp only [if_true,Option.bind_some]
      congr 1;rw [Bool.eq_iff_iff];simp only [beq_iff_eq,decide_eq_true_eq]
      exact⟨fun a=>⟨q,q2,a⟩,fun a=>a.2.2⟩
    · have n:(jM m (h % 32) == 3)=false:=by simpa using q2
      rw [n,decide_eq_false (fun a:nC m h=>q2 a.2.1)];rfl
  · rw [decide_eq_false q,decide_eq_false (fun a:nC m h=>q a.1)];rfl
theorem DW(h:Int):vU m h=some (decide (nC m h)):=by
  unfold vU qT
  rw [nB]
  by_cases q:pK h
  · have hm:=q.mod
    rw [decide_eq_true q,hm.1]
    simp only [Option.bind_some,if_true,TC hsh hl hg ho]
    by_cases q2:jM m (h % 32)=3
    · have n:(jM m (h % 32) == 3)=true:=by simpa using q2
      have eg:aX (Int.tdiv h 32)=h / 32:=by
        unfold pK at q
        rw [AT (by omega),aP (by omega) (by omega)]
      rw [n,z4 hsh (vX q2),eg]
      simp only [if_true,Option.bind_some]
      congr 1;rw [Bool.eq_iff_iff];simp only [beq_iff_eq,decide_eq_true_eq]
      exact⟨fun a=>⟨q,q2,a⟩,fun a=>a.2.2⟩
    · have n:(jM m (h % 32) == 3)=false:=by simpa using q2
      rw [n,decide_eq_false (fun a:nC m h=>q2 a.2.1)];rfl
  · rw [decide_eq_false q,decide_eq_false (fun a:nC m h=>q a.1)];rfl
end
def sG(b:aI)(r:bM):Prop:=nC b.Mem r.Handle∧r.aE≤b.aC.aE
instance (b:aI) (r:bM):Decidable (sG b r):=by unfold sG;infer_instance
def eQ(b:aI):Prop:=(kO b.Mem∧AX b.aC∧l6 b.aJ∧EB b.cA)∧∀r∈bH b.aJ,sG b r
instance (b:aI):Decidable (eQ b):=by unfold eQ;infer_instance
def kS(b:aI):Prop:=lZ b.Mem∧b.aC.aN.length≤1048576∧b.aJ.length≤1048576∧(bH b.aJ).length≤1048576∧b.cA.length≤1048576
theorem kS.rows{b:aI}(h:kS b):∀s∈b.aJ,s.Rows.length≤1048576:=fun s hs=>by
  have:=GZ hs;have:=h.2.2.2.1;omega
noncomputable section
variable {b:aI} (hf:b.Mem.aB.Bytes.length≤maxLen∧(dF b.Mem.aA).length≤1073741824∧b.aC.aN.length≤maxLen∧b.aJ.length≤maxLen∧(bH b.aJ).length≤1073741824∧b.cA.length≤maxLen)
include hf
theorem gE:iF b=some (decide (eQ b)):=by
  obtain⟨f1,f2,f3,f4,f5,f6⟩:=hf
  unfold iF mM
  rw [FW f1 f2,fL,BJ f5 f4,FX f6]
  by_cases q1:kO b.Mem
  · by_cases q2:AX b.aC
    · by_cases q3:l6 b.aJ
      · by_cases q4:EB b.cA
        · have hg:b.Mem.aA.Global.length≤maxLen:=by rw [q1.1.2.1];simp [maxLen]
          have ho:b.Mem.aA.aR.length≤maxLen:=by rw [q1.1.2.2.1];simp [maxLen]
          have hmx:(1073741824:Nat)≤maxLen:=by simp [maxLen]
          simp only [decide_eq_true q1,decide_eq_true q2,decide_eq_true q3,decide_eq_true q4,Option.bind_some,Bool.not_true,Bool.false_eq_true,if_false]
          rw [DV f5 f4]
          simp only [Option.bind_some]
          have hst:∀k (hk:k < (bH b.aJ).length),qE b (bH b.aJ) (k:Int)=if sG b (bH b.aJ)[k] then some (.next ((k+1:Nat):Int)) else some (.stop (Out.ret false)):=by
            intro k hk
            simp only [qE,wC]
            rw [if_pos (by simp;omega),aW hk,jD (show k < maxLen by omega)]
            generalize (bH b.aJ)[k]=r
            simp only [Option.bind_some,lF q1.1.1.1 f2 hg ho]
            by_cases a1:nC b.Mem r.Handle
            · rw [decide_eq_true a1]
              simp only [Bool.not_true,Bool.false_eq_true,if_false]
              by_cases a2:r.aE≤b.aC.aE
              · rw [if_neg (by simp;omega),if_pos ⟨a1,a2⟩]
              · rw [if_pos (by simp;omega),if_neg (fun x=>a2 x.2)]
            · rw [decide_eq_false a1]
              simp only [Bool.not_false,if_true]
              rw [if_neg (fun x=>a1 x.1)]
          have key:=nA (f:=qE b (bH b.aJ)) (bH b.aJ) (fun k=>(k:Int)) (sG b) (Out.brk ()) (Out.ret false) (fun k hk hx=>by rw [hst k hk,if_pos hx]) (fun k hk hx=>by rw [hst k hk,if_neg hx]) (by simp [qE])
          rw [show((0:Nat):Int)=0 from rfl] at key
          rw [key]
          by_cases q:∀r∈bH b.aJ,sG b r
          · rw [if_pos q,decide_eq_true (show eQ b from ⟨⟨q1,q2,q3,q4⟩,q⟩)];rfl
          · rw [if_neg q,decide_eq_false (fun x:eQ b=>q x.2)];rfl
        · rw [decide_eq_false (fun x:eQ b=>q4 x.1.2.2.2),decide_eq_true q1,decide_eq_true q2,decide_eq_true q3,decide_eq_false q4];rfl
      · rw [decide_eq_false (fun x:eQ b=>q3 x.1.2.2.1),decide_eq_true q1,decide_eq_true q2,decide_eq_false q3];rfl
    · rw [decide_eq_false (fun x:eQ b=>q2 x.1.2.1),decide_eq_true q1,decide_eq_false q2];rfl
  · rw [decide_eq_false (fun x:eQ b=>q1 x.1.1),decide_eq_false q1];rfl
theorem K7:AK b=some (decide (eQ b)):=by
  obtain⟨f1,f2,f3,f4,f5,f6⟩:=hf
  unfold AK mV
  rw [NG f1 f2,gO f3,uQ f5,FY f6]
  by_cases q1:kO b.Mem
  · by_cases q2:AX b.aC
    · by_cases q3:l6 b.aJ
      · by_cases q4:EB b.cA
        · have hg:b.Mem.aA.Global.length≤maxLen:=by rw [q1.1.2.1];simp [maxLen]
          have ho:b.Mem.aA.aR.length≤maxLen:=by rw [q1.1.2.2.1];simp [maxLen]
          have hmx:(1073741824:Nat)≤maxLen:=by simp [maxLen]
          simp only [decide_eq_true q1,decide_eq_true q2,decide_eq_true q3,decide_eq_true q4,Option.bind_some,Bool.not_true,Bool.false_eq_true,if_false]
          have e1:(fun y0=>uF y0 b)=fun r:bM=>some (!decide (sG b r)):=by
            funext r
            unfold uF nY
            rw [DW q1.1.1.1 f2 hg ho]
            by_cases a1:nC b.Mem r.Handle
            · by_cases a2:r.aE≤b.aC.aE
              · rw [decide_eq_true a1,decide_eq_true (show sG b r from ⟨a1,a2⟩),decide_eq_false (show ¬b.aC.aE < r.aE by omega)];rfl
              · rw [decide_eq_true a1,decide_eq_false (fun x:sG b r=>a2 x.2),decide_eq_true (show b.aC.aE < r.aE by omega)];rfl
            · rw [decide_eq_false a1,decide_eq_false (fun x:sG b r=>a1 x.1)];rfl
          have e2:∀l∈b.aJ,(fun y0=>zH y0 b) l=some (!decide (∀r∈l.Rows,sG b r)):=fun l hl=>by
            have:=GZ hl
            simp only [zH]
            rw [e1,NH (by omega),L5];rfl
          rw [K4 f4 _ _ e2,L5]
          have hiff:eQ b↔∀l∈b.aJ,∀r∈l.Rows,sG b r:=by
            constructor
            · intro x l hl r hr
              exact x.2 r (List.mem_flatMap.2 ⟨l,hl,hr⟩)
            · intro x
              refine⟨⟨q1,q2,q3,q4⟩,fun r hr=>?_⟩
              obtain⟨l,hl,hr⟩:=List.mem_flatMap.1 hr
              exact x l hl r hr
          simp only [Option.bind_some,Bool.not_not,hiff]
        · rw [decide_eq_false (fun x:eQ b=>q4 x.1.2.2.2),decide_eq_true q1,decide_eq_true q2,decide_eq_true q3,decide_eq_false q4];rfl
      · rw [decide_eq_false (fun x:eQ b=>q3 x.1.2.2.1),decide_eq_true q1,decide_eq_true q2,decide_eq_false q3];rfl
    · rw [decide_eq_false (fun x:eQ b=>q2 x.1.2.1),decide_eq_true q1,decide_eq_false q2];rfl
  · rw [decide_eq_false (fun x:eQ b=>q1 x.1.1),decide_eq_false q1];rfl
end
end Go.Gv
end
noncomputable section
set_option linter.unusedVariables false
set_option linter.unusedSimpArgs false
namespace Go.Gv
theorem WV{α:Type}{f:(List α×Int)→Option (Step (List α×Int) (List α))}(l:List α)
    (h:∀k (hk:k < l.length),f (l.take k,(k:Int))=some (.next (l.take k ++ [l[k]],((k+1:Nat):Int)))) (he:f (l,(l.length:Int))=some (.stop l)):loop f ([],0)=some l:=by
  have:=iB (f:=f) l.length (fun k=>(l.take k,(k:Int))) l (fun k hk=>by rw [h k hk,List.take_succ_eq_append_getElem hk]) (by rw [List.take_length];exact he)
  simpa using this
theorem Z1{α:Type}{f:(Int×List α)→Option (Step (Int×List α) (List α))}(l:List α)
    (h:∀k (hk:k < l.length),f ((k:Int),l.take k)=some (.next (((k+1:Nat):Int),l.take k ++ [l[k]]))) (he:f ((l.length:Int),l)=some (.stop l)):loop f (0,[])=some l:=by
  have:=iB (f:=f) l.length (fun k=>((k:Int),l.take k)) l (fun k hk=>by rw [h k hk,List.take_succ_eq_append_getElem hk]) (by rw [List.take_length];exact he)
  simpa using this
theorem CU{l:List Int}(h:l.length≤1073741824):lI l=some l:=by
  unfold lI;rw [aU (by simpa using h)];rfl
theorem n9{l:List Int}(h:l.length≤1073741824):eF l=some l:=by
  unfold eF;rw [aU (by simpa using h)];rfl
theorem aBP{l:List dS}(h:l.length≤1073741824):rT l=some l:=by
  unfold rT;rw [aU (by simpa using h)];rfl
theorem YZ{l:List bM}(h:l.length≤1073741824):pP l=some l:=by
  unfold pP;rw [aU (by simpa using h)];rfl
theorem Z2{l:List aD}(hl:l.length≤1048576)(hs:∀s∈l,s.aO.length≤1048576):AF l=some l:=by
  unfold AF
  rw [WV l]
  · rfl
  · intro k hk
    have:=hs _ (List.getElem_mem hk)
    simp only [C4]
    rw [if_pos (by simp;omega),aW hk]
    simp only [Option.bind_some]
    rw [CU (by omega),Option.bind_some,aU (by simp;omega),aP (by omega) (by omega)];rfl
  · simp [C4]
theorem pH{l:aA}(h1:l.Global.length≤1048576)(h2:l.aR.length≤1048576)(h3:∀s∈l.Global,s.aO.length≤1048576)(h4:∀s∈l.aR,s.aO.length≤1048576):qF l=some l:=by
  unfold qF;rw [Z2 h1 h3,Z2 h2 h4];rfl
theorem FZ{l:aA}(h1:l.Global.length≤1048576)(h2:l.aR.length≤1048576)(h3:∀s∈l.Global,s.aO.length≤1048576)(h4:∀s∈l.aR,s.aO.length≤1048576):fG l=some l:=by
  unfold fG
  rw [Z1 l.Global]
  · simp only [Option.bind_some,EN,EM]
    rw [Z1 l.aR]
    · rfl
    · intro k hk
      have:=h4 _ (List.getElem_mem hk)
      simp only [wL]
      rw [if_pos (by simp;omega),aW hk]
      simp only [Option.bind_some]
      rw [n9 (by omega),Option.bind_some,aU (by simp;omega),wK,aP (by omega) (by omega)];rfl
    · simp [wL]
  · intro k hk
    have:=h3 _ (List.getElem_mem hk)
    simp only [wN]
    rw [if_pos (by simp;omega),aW hk]
    simp only [Option.bind_some]
    rw [n9 (by omega),Option.bind_some,aU (by simp;omega),wM,aP (by omega) (by omega)];rfl
  · simp [wN]
theorem HZ{h:aB}(h1:h.Bytes.length≤1048576)(h2:h.Class.length≤1048576):vO h=some h:=by
  unfold vO;rw [CU (by omega),CU (by omega)];rfl
theorem H0{h:aB}(h1:h.Bytes.length≤1048576)(h2:h.Class.length≤1048576):o7 h=some h:=by
  unfold o7;rw [n9 (by omega),n9 (by omega)];rfl
theorem vY{m:Mem}(h:lZ m):qG m=some m:=by
  have a:=HZ h.1 h.2.1
  have b:=pH h.2.2.1 h.2.2.2.1 h.PE.1 h.PE.2
  unfold qG;rw [a,b];rfl
theorem RS{m:Mem}(h:lZ m):wO m=some m:=by
  have a:=H0 h.1 h.2.1
  have b:=FZ h.2.2.1 h.2.2.2.1 h.PE.1 h.PE.2
  unfold wO;rw [a,b];rfl
theorem jT{c:aC}(h:c.aN.length≤1048576):lJ c=some c:=by
  unfold lJ;rw [aU (by simp;omega)];rfl
theorem tT{c:aC}(h:c.aN.length≤1048576):iH c=some c:=by
  unfold iH;rw [aBP (by omega)];rfl
theorem NI{l:List aK}(hl:l.length≤1048576)(hs:∀s∈l,s.Rows.length≤1048576):rR l=some l:=by
  unfold rR
  rw [WV l]
  · rfl
  · intro k hk
    have:=hs _ (List.getElem_mem hk)
    simp only [A2]
    rw [if_pos (by simp;omega),aW hk]
    simp only [Option.bind_some]
    rw [aU (by simp;omega),aU (by simp;omega),aP (by omega) (by omega)];rfl
  · simp [A2]
theorem F5{l:List aK}(hl:l.length≤1048576)(hs:∀s∈l,s.Rows.length≤1048576):iI l=some l:=by
  unfold iI
  rw [WV l]
  · rfl
  · intro k hk
    have:=hs _ (List.getElem_mem hk)
    simp only [wP]
    rw [if_pos (by simp;omega),aW hk]
    simp only [Option.bind_some]
    rw [YZ (by omega),Option.bind_some,aU (by simp;omega),aP (by omega) (by omega)];rfl
  · simp [wP]
theorem PI{b:aI}(h:kS b):wD b=some b:=by
  have m:=vY h.1
  have c:=jT h.2.1
  have l:=NI h.2.2.1 h.rows
  have:=h.2.2.2.2
  unfold wD;rw [m,c,l,CU (by omega)];rfl
theorem PJ{b:aI}(h:kS b):tE b=some b:=by
  have m:=RS h.1
  have c:=tT h.2.1
  have l:=F5 h.2.2.1 h.rows
  have:=h.2.2.2.2
  unfold tE;rw [m,c,l,n9 (by omega)];rfl
end Go.Gv
end
noncomputable section
set_option linter.unusedVariables false
set_option linter.unusedSimpArgs false
namespace Go.Gv
theorem fU(w:Int):dJ w=some (decide (0≤w∧w≤2)):=by
  unfold dJ;rw [d6];rfl
noncomputable section
variable {c:aC} (hc:AX c) {w:Int} (hw:0≤w∧w≤2)
include hc
theorem AX.small:c.aN.length≤1048576∧c.aN.length≤maxLen:=by
  have:=hc.2.1;simp only [maxLen];omega
theorem AX.aBQ{k:Nat}{p:dS}(hp:POk c.aE p):AX ⟨c.aE,c.aN.set k p⟩:=⟨hc.1,by simpa using hc.2.1,fun q hq=>(List.mem_or_eq_of_mem_set hq).elim (hc.2.2 q) (fun e=>e ▸ hp)⟩
theorem AX.aSP(h:c.aE+1≤100000):AX ⟨c.aE+1,c.aN⟩:=by
  have h1:=hc.1
  exact⟨⟨by simp only;omega,h⟩,hc.2.1,fun q hq=>by
    obtain⟨a,b,d⟩:=hc.2.2 q hq
    exact⟨⟨a.1,by simp only;omega⟩,b,d⟩⟩
include hw
theorem aFD:∃p,idx c.aN w=some p∧POk c.aE p:=by
  have h3:=hc.2.1
  rw [fI hw.1 (by omega)]
  exact⟨_,rfl,hc.2.2 _ (List.getElem_mem _)⟩
theorem Q4(e:Int):∃r,qI c w e=some r∧ER c w e=some r∧AX r.1∧r.1.aE=c.aE:=by
  obtain⟨p,hp,h1,⟨hs0,hs1⟩,h2⟩:=aFD hc hw
  have h3:=hc.2.1
  unfold qI ER
  rw [jT hc.small.1,tT hc.small.1,fL,gO hc.small.2,fU,bJ,decide_eq_true hc,decide_eq_true hw]
  simp only [Option.bind_some,Bool.not_true,Bool.false_eq_true,if_false,qH,wZ,hp]
  cases h4:p.On
  · exact⟨_,rfl,rfl,hc,rfl⟩
  · cases h5:p.d5
    · by_cases h6:p.aE=e
      · simp only [j9,mX,h6,beq_self_eq_true,if_true,Bool.not_true,Bool.false_eq_true,if_false]
        exact⟨_,rfl,rfl,hc,rfl⟩
      · have h6':(p.aE == e)=false:=by simpa using h6
        simp only [j9,mX,h6',Bool.not_true,Bool.false_eq_true,if_false,hp,Option.bind_some]
        by_cases h7:p.Seen=2
        · simp only [h7,beq_self_eq_true,if_true,show ¬((2:Int) < 2) by omega,decide_false,Bool.false_eq_true,if_false]
          exact⟨_,rfl,rfl,hc.aBQ ⟨h1,by simp,fun q=>by simp [h4] at q⟩,rfl⟩
        · have h7':(p.Seen == 2)=false:=by simpa using h7
          simp only [h7',show p.Seen < 2 by omega,decide_true,if_true,Bool.false_eq_true,if_false]
          have hw7:aX (p.Seen+1)=p.Seen+1:=aP (by omega) (by omega)
          exact⟨_,rfl,rfl,hc.aBQ ⟨h1,by simp only [hw7];omega,fun q=>by simp [h4] at q⟩,rfl⟩
    · exact⟨_,rfl,rfl,hc,rfl⟩
theorem aDH(e:Int):∃r,uZ c w e=some r∧HF c w e=some r∧(AX r.1∧r.1.aE=c.aE)∧(r.2=false→r.1=c):=by
  obtain⟨p,hp,hpk⟩:=aFD hc hw
  have h3:=hc.2.1
  unfold uZ HF
  rw [jT hc.small.1,tT hc.small.1,fL,gO hc.small.2,fU,bJ,bJ,d6,decide_eq_true hc,decide_eq_true hw]
  simp only [Option.bind_some,Bool.not_true,Bool.false_eq_true,if_false,o6,tK,hp]
  by_cases h:0≤e∧e≤c.aE
  · simp only [decide_eq_true h,Bool.not_true,Bool.false_eq_true,if_false]
    exact⟨_,rfl,rfl,⟨hc.aBQ ⟨h,by simp,fun q=>by cases q⟩,rfl⟩,fun q=>by cases q⟩
  · simp only [decide_eq_false h,Bool.not_false,if_true]
    exact⟨_,rfl,rfl,⟨hc,rfl⟩,fun _=>rfl⟩
omit hw in
theorem aHM(e:Int):∃r,yL c e=some r∧LY c e=some r∧AX r.1∧c.aE≤r.1.aE:=by
  have h3:=hc.2.1
  unfold yL LY
  rw [jT hc.small.1,tT hc.small.1,fL,gO hc.small.2,decide_eq_true hc]
  simp only [Option.bind_some,Bool.not_true,Bool.false_eq_true,if_false,rS,w4]
  by_cases h:c.aE=e
  · subst h
    simp only [bne_self_eq_false,Bool.false_eq_true,if_false]
    by_cases h:c.aE=100000
    · simp only [h,beq_self_eq_true,if_true];exact⟨_,rfl,rfl,hc,by simp [h]⟩
    · have h':(c.aE == 100000)=false:=by simpa using h
      have hE:=hc.1
      have hw7:aX (c.aE+1)=c.aE+1:=aP (by omega) (by omega)
      simp only [h',Bool.false_eq_true,if_false,hw7];exact⟨_,rfl,rfl,hc.aSP (by omega),by simp only;omega⟩
  · have h':(c.aE != e)=true:=by simpa using h
    simp only [h',if_true];exact⟨_,rfl,rfl,hc,Int.le_refl _⟩
end
theorem aQV{b:aI}(hc:AX b.aC){w:Int}(hw:0≤w∧w≤2)(s:Sub) :
    ∃x y,vQ b w s=some (x,y)∧rY s b w=some (y,x)∧∃cl,x=⟨b.Mem,cl,b.aJ,b.cA⟩∧AX cl∧b.aC.aE≤cl.aE:=by
  obtain⟨r,e1,e2,h3,h4⟩:=aDH hc hw s.E
  unfold vQ rY
  rw [e1,e2]
  simp only [a9,aZ,sO,Option.bind_some]
  by_cases p0:s.Pc=0
  · simp only [p0,beq_self_eq_true,if_true];exact⟨_,_,rfl,rfl,_,rfl,hc,by omega⟩
  · have p0':(s.Pc == 0)=false:=by simpa using p0
    simp only [p0',Bool.false_eq_true,if_false]
    by_cases p1:s.Pc=1
    · simp only [p1,beq_self_eq_true,if_true]
      cases h:r.2
      · rw [h4 h];exact⟨_,_,rfl,rfl,_,rfl,hc,by omega⟩
      · exact⟨_,_,rfl,rfl,_,rfl,h3.1,by rw [h3.2];exact Int.le_refl _⟩
    · have p1':(s.Pc == 1)=false:=by simpa using p1
      simp only [p1',Bool.false_eq_true,if_false]
      by_cases p2:s.Pc=2
      · simp only [p2,beq_self_eq_true,if_true]
        by_cases q:b.aC.aE=s.E
        · simp only [q,beq_self_eq_true,if_true];exact⟨_,_,rfl,rfl,_,rfl,hc,by omega⟩
        · have q':(b.aC.aE == s.E)=false:=by simpa using q
          simp only [q',Bool.false_eq_true,if_false];exact⟨_,_,rfl,rfl,_,rfl,hc,by omega⟩
      · have p2':(s.Pc == 2)=false:=by simpa using p2
        simp only [p2',Bool.false_eq_true,if_false];exact⟨_,_,rfl,rfl,_,rfl,hc,by omega⟩
theorem aFE{b:aI}(hc:AX b.aC)(s:Sub) :
    ∃x y,kZ b s=some (x,y)∧lO s b=some (y,x)∧∃cl,x=⟨b.Mem,cl,b.aJ,b.cA⟩∧AX cl∧b.aC.aE≤cl.aE:=by
  obtain⟨r2,e3,e4,h4⟩:=aHM hc s.E
  unfold kZ lO iT
  rw [e3,e4,bJ,fU]
  simp only [a9,aZ,kA,kB,iS,Option.bind_some]
  by_cases p0:s.Pc=0
  · simp only [p0,beq_self_eq_true,if_true];exact⟨_,_,rfl,rfl,_,rfl,hc,by omega⟩
  · have p0':(s.Pc == 0)=false:=by simpa using p0
    simp only [p0',Bool.false_eq_true,if_false]
    by_cases p1:s.Pc=1
    · simp only [p1,beq_self_eq_true,if_true,show((1:Int) == 2)=false from rfl,Bool.false_eq_true,if_false]
      by_cases hB:0≤s.B∧s.B≤2
      · obtain⟨r,e1,e2,h3,h3'⟩:=Q4 hc hB s.E
        simp only [decide_eq_true hB,Bool.not_true,Bool.false_eq_true,if_false,if_true,e1,e2,Option.bind_some]
        cases h:r.2
        · exact⟨_,_,rfl,rfl,_,rfl,h3,by rw [h3'];exact Int.le_refl _⟩
        · by_cases q:aX (s.B+1)=3
          · simp only [q,beq_self_eq_true,if_true,Bool.not_true,Bool.false_eq_true,if_false];exact⟨_,_,rfl,rfl,_,rfl,h3,by rw [h3'];exact Int.le_refl _⟩
          · have q':(aX (s.B+1) == 3)=false:=by simpa using q
            simp only [q',Bool.not_true,Bool.false_eq_true,if_false];exact⟨_,_,rfl,rfl,_,rfl,h3,by rw [h3'];exact Int.le_refl _⟩
      · simp only [decide_eq_false hB,Bool.not_false,Bool.false_eq_true,if_false,if_true]
        exact⟨_,_,rfl,rfl,_,rfl,hc,by omega⟩
    · have p1':(s.Pc == 1)=false:=by simpa using p1
      simp only [p1',Bool.false_eq_true,if_false]
      by_cases p2:s.Pc=2
      · simp only [p2,beq_self_eq_true,if_true]
        cases h:r2.2
        · simp only [Bool.false_eq_true,if_false];exact⟨_,_,rfl,rfl,_,rfl,h4⟩
        · simp only [if_true];exact⟨_,_,rfl,rfl,_,rfl,h4⟩
      · have p2':(s.Pc == 2)=false:=by simpa using p2
        simp only [p2',Bool.false_eq_true,if_false];exact⟨_,_,rfl,rfl,_,rfl,hc,by omega⟩
end Go.Gv
end
noncomputable section
set_option linter.unusedVariables false
set_option linter.unusedSimpArgs false
namespace Go.Gv
theorem aFF:∀(n:Nat) (l:List Int),l.Nodup→(∀x∈l,0≤x∧x < (n:Int))→l.length≤n
  | 0, l, _, h => by
    cases l with
    | nil=>simp
    | cons a t=>have:=h a (by simp);omega
  | n + 1, l, hn, h => by
    have ih:=aFF n (l.erase (n:Int)) (hn.erase _) (fun x hx=>by
      have h1:=(hn.mem_erase_iff).1 hx
      have h2:=h x h1.2
      have:=h1.1
      omega)
    have:=List.length_erase (a:=(n:Int)) (l:=l)
    split at this <;> omega
theorem aBR(a b:List aK):bH (a++b)=bH a++bH b:=by simp [bH]
theorem PK(a b:List aD):cC (a++b)=cC a++cC b:=by simp [cC]
theorem yV{l:List aK}{k:Nat}(hk:k < l.length)(x:aK):bH (l.set k x)=bH (l.take k)++(x.Rows++bH (l.drop (k+1))):=by
  rw [List.set_eq_take_append_cons_drop,if_pos hk,aBR];simp [bH]
theorem vZ{l:List aK}{k:Nat}(hk:k < l.length):bH l=bH (l.take k)++(l[k].Rows++bH (l.drop (k+1))):=by
  conv=>lhs;rw [←List.set_getElem_self hk,yV hk]
theorem yW{l:List aD}{k:Nat}(hk:k < l.length)(x:aD):cC (l.set k x)=cC (l.take k)++(x.aO++cC (l.drop (k+1))):=by
  rw [List.set_eq_take_append_cons_drop,if_pos hk,PK];simp [cC]
theorem v5{l:List aD}{k:Nat}(hk:k < l.length):cC l=cC (l.take k)++(l[k].aO++cC (l.drop (k+1))):=by
  conv=>lhs;rw [←List.set_getElem_self hk,yW hk]
def Q5(l:List aK)(s:Int):Prop:=∃r∈bH l,pK r.Handle∧r.Handle % 32=s
instance (l:List aK) (s:Int):Decidable (Q5 l s):=by unfold Q5;infer_instance
noncomputable section
variable {l:List aK} (hl:l6 l)
include hl
theorem l6.small:(bH l).length≤1073741824∧l.length≤maxLen∧l.length≤1048576∧∀s∈l,s.Rows.length≤24:=by
  have:=hl.1;have h2:=hl.2.1
  refine⟨by omega,by simp only [maxLen];omega,by omega,fun s hs=>?_⟩
  have:=GZ hs;omega
theorem I9(s:Int):B4 l s=some (decide (Q5 l s)):=by
  have hm:=hl.small
  unfold B4
  rw [DV hm.1 hm.2.1,Option.bind_some]
  have key:=nA (f:=kY s (bH l)) (bH l) (fun k=>(k:Int)) (fun r=>¬(pK r.Handle∧r.Handle % 32=s)) (Out.brk ()) (Out.ret true)
    (fun k hk hp=>by
      have hk':=hl.2.1
      simp only [kY,oM]
      rw [if_pos (by simp;omega),aW hk,jD (show k < maxLen by simp only [maxLen];omega)]
      simp only [Option.bind_some,g7,dB]
      by_cases q:pK (bH l)[k].Handle
      · have:((bH l)[k].Handle % 32 == s)=false:=by simpa using fun a=>hp ⟨q,a⟩
        simp [q,this]
      · simp [q])
    (fun k hk hp=>by
      have hp:=Classical.not_not.1 hp
      simp only [kY,oM]
      rw [if_pos (by simp;omega),aW hk]
      simp [g7,dB,hp.1,hp.2])
    (by simp [kY])
  have key':loop (kY s (bH l)) 0=_:=key
  rw [key']
  by_cases q:Q5 l s
  · rw [if_neg (fun a=>by obtain⟨r,hr,e⟩:=q;exact a r hr e),decide_eq_true q];rfl
  · rw [if_pos (fun r hr e=>q ⟨r,hr,e⟩),decide_eq_false q];rfl
theorem TD(s:Int):CC l s=some (decide (Q5 l s)):=by
  have hm:=hl.small
  unfold CC
  have e1:∀(r:bM),mW r s=some (decide (pK r.Handle∧r.Handle % 32=s)):=by
    intro r
    unfold mW mE
    rw [nB]
    by_cases q:pK r.Handle
    · rw [q.mod.1];simp [q];rfl
    · simp [q]
  have e2:∀x∈l,wY x s=some (x.Rows.any fun r=>decide (pK r.Handle∧r.Handle % 32=s)):=by
    intro x hx
    unfold wY
    have:x.Rows.length≤maxLen:=by have:=hm.2.2.2 x hx;simp only [maxLen];omega
    rw [show(fun y0=>mW y0 s)=fun r=>some (decide (pK r.Handle∧r.Handle % 32=s)) from funext e1,NH this];rfl
  rw [K4 hm.2.1 (fun x=>x.Rows.any fun r=>decide (pK r.Handle∧r.Handle % 32=s)) _ e2]
  simp only [Option.bind_some]
  congr 1
  rw [Bool.eq_iff_iff,decide_eq_true_iff]
  simp only [List.any_eq_true,decide_eq_true_eq,Q5,bH,List.mem_flatMap]
  constructor
  · rintro⟨x,hx,r,hr,h⟩;exact⟨r,⟨x,hx,hr⟩,h⟩
  · rintro⟨r,⟨x,hx,hr⟩,h⟩;exact⟨x,hx,r,hr,h⟩
theorem l6.more{k:Nat}(hk:k < l.length){r:bM}(hr:tS r)(hn:¬Q5 l (r.Handle % 32)):l6 (l.set k ⟨l[k].Rows ++ [r]⟩):=by
  have e:=yV hk (⟨l[k].Rows ++ [r]⟩:aK)
  have p:(bH (l.set k ⟨l[k].Rows ++ [r]⟩)).Perm (r :: bH l):=by
    rw [e,vZ hk]
    refine List.Perm.trans ?_ List.perm_middle
    simp only [List.append_assoc]
    exact List.Perm.append_left _ (by simp only [List.singleton_append];exact(List.perm_middle (l₁:=l[k].Rows) (l₂:=bH (l.drop (k+1))) (a:=r)))
  have h1:∀x∈bH (l.set k ⟨l[k].Rows ++ [r]⟩),tS x:=fun x hx=>by
    rcases List.mem_cons.1 (p.mem_iff.1 hx) with rfl | h
    · exact hr
    · exact hl.2.2.1 x h
  have h2:((bH (l.set k ⟨l[k].Rows ++ [r]⟩)).map kL).Nodup:=by
    refine(List.Perm.nodup_iff (p.map kL)).2 ?_
    rw [List.map_cons,List.nodup_cons]
    refine⟨fun h=>hn ?_,hl.2.2.2⟩
    obtain⟨x,hx,e⟩:=List.mem_map.1 h
    exact⟨x,hx,(hl.2.2.1 x hx).1,e⟩
  refine⟨by simpa using hl.1,?_,h1,h2⟩
  have:=aFF 24 _ h2 (fun x hx=>by
    obtain⟨y,hy,rfl⟩:=List.mem_map.1 hx
    have:=(h1 y hy).1.mod
    unfold kL;omega)
  simpa using this
end
theorem aIH{b:aI}(hb:eQ b)(hs:kS b){w:Int}(hw:0≤w∧w≤2)(s:Sub) :
    ∃x y,mP b w s=some (x,y)∧mF s b w=some (y,x)∧∃L,x=⟨b.Mem,b.aC,L,b.cA⟩∧l6 L∧∀r∈bH L,sG b r:=by
  have hL:=hb.1.2.2.1
  have hm:=hb.1.1
  have hlen:w.toNat < b.aJ.length:=by have:=hL.1;omega
  have hx:idx b.aJ w=some b.aJ[w.toNat]:=fI hw.1 (by omega)
  have hg:b.Mem.aA.Global.length≤maxLen:=by rw [hm.1.2.1];simp [maxLen]
  have ho:b.Mem.aA.aR.length≤maxLen:=by rw [hm.1.2.2.1];simp [maxLen]
  have hall:(dF b.Mem.aA).length≤1073741824:=by have:=hs.1.2.2.2.2;omega
  have hrow:=hL.small.2.2.2 _ (List.getElem_mem hlen)
  have he:=hb.1.2.1.1
  unfold mP mF jK
  rw [bJ,d6,lF hm.1.1.1 hall hg ho,DW hm.1.1.1 hall hg ho,dB]
  simp only [a9,aZ,Option.bind_some,lK,pO,jJ]
  by_cases p0:s.Pc=0
  · simp only [p0,beq_self_eq_true,if_true];exact⟨_,_,rfl,rfl,_,rfl,hL,hb.2⟩
  · have p0' : (s.Pc == 0) = false := by simpa using p0
    simp only [p0',Bool.false_eq_true,if_false]
    by_cases p1:s.Pc=1
    · simp only [p1,beq_self_eq_true,bne_self_eq_false,Bool.false_eq_true,if_false,if_true]
      by_cases q1:0≤s.E∧s.E≤b.aC.aE
      · simp only [decide_eq_true q1,Bool.not_true,Bool.false_eq_true,if_false]
        by_cases q2:nC b.Mem s.A
        · have hh:=q2.1
          simp only [decide_eq_true q2,Bool.not_true,Bool.false_eq_true,if_false,if_pos hh,hh.mod.1,I9 hL,TD hL,Option.bind_some]
          by_cases q3:Q5 b.aJ (s.A % 32)
          · simp only [decide_eq_true q3,if_true];exact⟨_,_,rfl,rfl,_,rfl,hL,hb.2⟩
          · have hmore:=hL.more hlen (r:=⟨s.A,s.E⟩) ⟨hh,q1.1,by simp only;omega⟩ q3
            have e:zM b.aJ w s.A s.E=some (b.aJ.set w.toNat ⟨b.aJ[w.toNat].Rows ++ [⟨s.A,s.E⟩]⟩,true):=by
              unfold zM rW
              rw [uQ hL.small.1,fU,F5 hL.small.2.2.1 (fun s h=>by have:=hL.small.2.2.2 s h;omega)]
              simp only [decide_eq_true hL,decide_eq_true hw,Option.bind_some,Bool.not_true,Bool.false_eq_true,if_false,hx]
              rw [aU (by simp;omega),uQ hmore.small.1,decide_eq_true hmore];rfl
            simp only [decide_eq_false q3,Bool.false_eq_true,if_false,hx,e,Option.bind_some]
            rw [aU (by simp;omega)]
            refine⟨_,_,rfl,rfl,_,rfl,hmore,fun r hr=>?_⟩
            rw [yV hlen] at hr
            have hsp:=vZ hlen
            rcases List.mem_append.1 hr with h | h
            · exact hb.2 r (by rw [hsp];exact List.mem_append_left _ h)
            · rcases List.mem_append.1 h with h | h
              · rcases List.mem_append.1 h with h | h
                · exact hb.2 r (by rw [hsp];exact List.mem_append_right _ (List.mem_append_left _ h))
                · simp at h;subst h;exact⟨q2,q1.2⟩
              · exact hb.2 r (by rw [hsp];exact List.mem_append_right _ (List.mem_append_right _ h))
        · simp only [decide_eq_false q2,Bool.not_false,if_true];exact⟨_,_,rfl,rfl,_,rfl,hL,hb.2⟩
      · simp only [decide_eq_false q1,Bool.not_false,if_true];exact⟨_,_,rfl,rfl,_,rfl,hL,hb.2⟩
    · have p1':(s.Pc == 1)=false:=by simpa using p1
      have p1'':(s.Pc != 1)=true:=by simpa using p1
      simp only [p1',p1'',Bool.false_eq_true,if_false,if_true];exact⟨_,_,rfl,rfl,_,rfl,hL,hb.2⟩
end Go.Gv
end
noncomputable section
set_option linter.unusedVariables false
set_option linter.unusedSimpArgs false
namespace Go.Gv
def WW(b:List Int)(a:Nat)(n:Int):List Int:=(((b.set a 0).set (a+1) 0).set (a+2) 0).set (a+3) n
theorem z6(b:List Int)(a:Nat)(n:Int):(WW b a n).length=b.length:=by simp [WW]
theorem aDI{b:List Int}(h:pS b)(a:Nat){n:Int}(hn:0≤n∧n≤255):pS (WW b a n):=by
  have key:∀{l:List Int} (i:Nat) (v:Int),pS l→0≤v∧v≤255→pS (l.set i v):=fun i v hl hv x hx=>by
    rcases List.mem_or_eq_of_mem_set hx with h | rfl
    · exact hl x h
    · exact hv
  exact key _ _ (key _ _ (key _ _ (key _ _ h (by omega)) (by omega)) (by omega)) hn
theorem aLZ{n:Int}(hn:0≤n∧n≤255):((u8 n).toNat:Int)=n:=by
  obtain⟨m,rfl⟩:=Int.eq_ofNat_of_zero_le hn.1
  unfold u8
  rw [UInt8.toNat_ofNat'];omega
theorem PL{l:List Int}(i:Nat){v:Int}(hl:pS l)(hv:0≤v∧v≤255):pS (l.set i v):=fun x hx=>by
  rcases List.mem_or_eq_of_mem_set hx with h | rfl
  · exact hl x h
  · exact hv
def F6(b:List Int)(a:Nat)(n:Int):List Int:=(((b.set a (n / 16777216)).set (a+1) (n / 65536 % 256)).set (a+2) (n / 256 % 256)).set (a+3) (n % 256)
theorem PM(b:List Int)(a:Nat)(n:Int):(F6 b a n).length=b.length:=by simp [F6]
theorem aII{b:List Int}(h:pS b)(a:Nat){n:Int}(hn:0≤n∧n≤4294967295):pS (F6 b a n):=by
  unfold F6
  exact PL _ (PL _ (PL _ (PL _ h (by omega)) (by omega)) (by omega)) (by omega)
theorem aIJ(b:List Int)(a:Nat)(x y z u:Int):(((b.set (a+3) u).set (a+2) z).set (a+1) y).set a x=(((b.set a x).set (a+1) y).set (a+2) z).set (a+3) u:=by
  refine List.ext_getElem (by simp) fun j h1 h2=>?_
  simp only [List.getElem_set]
  by_cases j0:a=j
  · subst j0;simp
  · by_cases j1:a+1=j
    · subst j1;simp
    · by_cases j2:a+2=j
      · subst j2;simp
      · by_cases j3:a+3=j
        · subst j3;simp
        · simp [j0,j1,j2,j3]
theorem Z3{b:List Int}{a:Nat}(h:a+4≤b.length)(hl:b.length≤100000){n:Int}(hn:0≤n∧n≤4294967295):hJ b (a:Int) 4 n=some (F6 b a n):=by
  have st:∀(c:List Int) (m:Int) (i:Nat),c.length=b.length→0≤m→m≤4294967295→i < 4→oL (a:Int) (c,m,(i:Int))=some (.next (c.set (a+i) (m % 256),m / 256,(i:Int) - 1)):=fun c m i hc h0 h1 hi=>by
    simp only [oL]
    rw [if_pos (by simp),aP (x:=(a:Int)+i) (by omega) (by omega),show(a:Int)+i=((a+i:Nat):Int) by omega,aW (by omega),Option.bind_some,oX h0,AT h0,aP (x:=m / 256) (by omega) (by omega),aP (x:=(i:Int) - 1) (by omega) (by omega),Int.toNat_natCast]
  unfold hJ
  rw [show aX (4 - 1)=((3:Nat):Int) from by rw [aP (by omega) (by omega)];rfl]
  rw [bT (st b n 3 rfl hn.1 hn.2 (by omega)),show((3:Nat):Int) - 1=((2:Nat):Int) by rfl,
    bT (st _ _ 2 (by simp) (by omega) (by omega) (by omega)),show((2:Nat):Int) - 1=((1:Nat):Int) by rfl,
    bT (st _ _ 1 (by simp) (by omega) (by omega) (by omega)),show((1:Nat):Int) - 1=((0:Nat):Int) by rfl,
    bT (st _ _ 0 (by simp) (by omega) (by omega) (by omega)),bN (r:=F6 b a n)]
  · rfl
  · simp only [oL]
    rw [if_neg (by simp)]
    have e1:n / 256 / 256=n / 65536:=by omega
    have e2:n / 256 / 256 / 256=n / 16777216:=by omega
    have e3:n / 16777216 % 256=n / 16777216:=by omega
    rw [e1,show n / 65536 / 256=n / 16777216 by omega,e3]
    unfold F6
    simp only [Nat.add_zero]
    rw [aIJ]
def NJ(n:Int):List UInt8:=[u8 (n / 16777216),u8 (n / 65536),u8 (n / 256),u8 n]
theorem WX{n:Int}(hn:0≤n∧n≤4294967295):vD n 4=some (NJ n):=by
  have hw:n7 4=some true:=by unfold n7;rw [d6];rfl
  unfold vD
  rw [hw]
  have e1:IntKind.u64.wrap (aX (8 * 4))=32:=by decide
  have e2:ZG .i64 1 32=4294967296:=by decide
  simp only [Option.bind_some,Bool.not_true,Bool.false_eq_true,if_false,e1,e2]
  rw [if_neg (by simp;omega),aU (by omega),decide_eq_false (by omega)]
  simp only [tI,Bool.false_eq_true,if_false]
  rw [aU (by omega),show aX (4 - 1)=((3:Nat):Int) from by rw [aP (by omega) (by omega)];rfl]
  have st:∀(m:Int) (c:List UInt8) (i:Nat),i < c.length→i < 4→0≤m→zJ (m,c,(i:Int))=some (.next (m / 256,c.set i (u8 m),(i:Int) - 1)):=fun m c i hc hi h0=>by
    simp only [zJ]
    rw [if_pos (by simp),aW hc,Option.bind_some,show(8:Int)=((8:Nat):Int) from rfl,aOD h0 (by omega),aP (by omega) (by omega),Int.toNat_natCast];rfl
  rw [bT (st n _ 3 (by simp) (by omega) hn.1),show((3:Nat):Int) - 1=((2:Nat):Int) by rfl,
    bT (st _ _ 2 (by simp) (by omega) (by omega)),show((2:Nat):Int) - 1=((1:Nat):Int) by rfl,
    bT (st _ _ 1 (by simp) (by omega) (by omega)),show((1:Nat):Int) - 1=((0:Nat):Int) by rfl,
    bT (st _ _ 0 (by simp) (by omega) (by omega)),bN (r:=NJ n)]
  · rfl
  · simp only [zJ]
    rw [if_neg (by simp)]
    have e1:n / 256 / 256=n / 65536:=by omega
    rw [e1,show n / 65536 / 256=n / 16777216 by omega]
    rfl
theorem aBS{n:Int}(hn:0≤n):((u8 n).toNat:Int)=n % 256:=by
  have:u8 n=u8 (n % 256):=by
    unfold u8
    congr 1
    omega
  rw [this,aLZ (by omega)]
theorem WY{b:List Int}{a:Nat}(h:a+4≤b.length)(hl:b.length≤100000){n:Int}(hn:0≤n∧n≤4294967295):qV b (a:Int) (NJ n)=some (F6 b a n):=by
  have st:∀(c:List Int) (i:Nat) (v:UInt8),c.length=b.length→i < 4→idx (NJ n) (i:Int)=some v→wW b (a:Int) (NJ n) (c,(i:Int))=some (.next (c.set (a+i) (v.toNat:Int),((i+1:Nat):Int))):=fun c i v hc hi hv=>by
    simp only [wW]
    rw [aU hc,if_pos (by simp [NJ];omega),hv,Option.bind_some,aP (x:=(a:Int)+i) (by omega) (by omega),show(a:Int)+i=((a+i:Nat):Int) by omega,aW (by omega),Option.bind_some,aP (by omega) (by omega),Int.toNat_natCast];rfl
  unfold qV
  rw [show(0:Int)=((0:Nat):Int) from rfl,bT (st b 0 _ rfl (by omega) rfl),bT (st _ 1 _ (by simp) (by omega) rfl),bT (st _ 2 _ (by simp) (by omega) rfl),bT (st _ 3 _ (by simp) (by omega) rfl),bN (r:=F6 b a n)]
  · simp only [Option.bind_some,J4,J3]
    rw [aU (PM b a n)]
  · simp only [wW]
    rw [aU (by simp),if_neg (by simp [NJ])]
    simp only [aBS hn.1,aBS (show 0≤n / 16777216 by omega),aBS (show 0≤n / 65536 by omega),aBS (show 0≤n / 256 by omega)]
    rw [show n / 16777216 % 256=n / 16777216 by omega]
    rfl
theorem aL0{b:List Int}{a:Nat}{n:Int}(hn:0≤n∧n≤255):F6 b a n=WW b a n:=by
  unfold F6 WW
  rw [show n / 16777216=0 by omega,show n / 65536 % 256=0 by omega,show n / 256 % 256=0 by omega,show n % 256=n by omega]
theorem BK{b:List Int}{a:Nat}(h:a+4≤b.length)(hl:b.length≤100000){n:Int}(hn:0≤n∧n≤255):hJ b (a:Int) 4 n=some (WW b a n):=by
  rw [Z3 h hl ⟨hn.1,by omega⟩,aL0 hn]
theorem aSQ{n:Int}(hn:0≤n∧n≤255):NJ n=[0,0,0,u8 n]:=by
  unfold NJ
  rw [show n / 16777216=0 by omega,show n / 65536=0 by omega,show n / 256=0 by omega];rfl
theorem NL{n:Int}(hn:0≤n∧n≤255):vD n 4=some [0,0,0,u8 n]:=by
  rw [WX ⟨hn.1,by omega⟩,aSQ hn]
theorem K8{b:List Int}{a:Nat}(h:a+4≤b.length)(hl:b.length≤100000){n:Int}(hn:0≤n∧n≤255):qV b (a:Int) [0,0,0,u8 n]=some (WW b a n):=by
  rw [←aSQ hn,WY h hl ⟨hn.1,by omega⟩,aL0 hn]
end Go.Gv
end
noncomputable section
set_option linter.unusedVariables false
set_option linter.unusedSimpArgs false
set_option linter.unusedSectionVars false
namespace Go.Gv
theorem aPE{x y z:Int}:∀(a:Nat) (l:List Int),a+3≤l.length→cX l a [x,y,z]=((l.set a x).set (a+1) y).set (a+2) z
  | 0, l, h => by
    match l,h with
    | _ :: _ :: _ :: t,_=>simp [cX]
  | a + 1, l, h => by
    match l,h with
    | u :: t, h =>
      have ih:=aPE (x:=x) (y:=y) (z:=z) a t (by simp at h;omega)
      simp only [List.set_cons_succ,←ih]
      simp [cX,Nat.add_right_comm]
def aL1(p k:Nat)(c:Int):Nat:=(eW ((p:Int) * 4+k) c).toNat
def gB(b:List Int)(p:Nat)(c:Int):Nat→List Int
  | 0=>((b.set (p * 64) 171).set (p * 64+1) c).set (p * 64+2) (bX c)
  | k+1=>WW (gB b p c k) (aL1 p k c) 1
theorem DX(b:List Int)(p:Nat)(c:Int):∀k,(gB b p c k).length=b.length
  | 0=>by simp [gB]
  | k+1=>by rw [gB,z6,DX b p c k]
theorem WZ{l:List Int}(i:Nat){v:Int}(hl:pS l)(hv:0≤v∧v≤255):pS (l.set i v):=fun x hx=>by
  rcases List.mem_or_eq_of_mem_set hx with h | rfl
  · exact hl x h
  · exact hv
theorem aBT{b:List Int}(hb:pS b)(p:Nat){c:Int}(hc:0≤c∧c≤2):∀k,pS (gB b p c k)
  | 0 => by
    have:=jL c
    exact WZ _ (WZ _ (WZ _ hb (by omega)) (by omega)) (by omega)
  | k+1=>aDI (aBT hb p hc k) _ (by omega)
def gS(p:Nat)(n:Nat):List Int:=(List.range n).map fun(i:Nat)=>(p:Int) * 4+(i:Int)
theorem DY(p n:Nat):(gS p n).length=n:=by simp [gS]
theorem aHN(p n:Nat):gS p (n+1)=gS p n ++ [(p:Int) * 4+(n:Int)]:=by simp [gS,List.range_succ]
theorem aBU{p k:Nat}{c:Int}(hp:p < 6)(hk:(k:Int) < bX c):eW ((p:Int) * 4+k) c=(aL1 p k c:Int)∧aL1 p k c+4≤384:=by
  have h4:=jL c
  have hm:=DQ (c:=c) (i:=(k:Int)) (by omega) hk
  have hst:4≤aT c:=by
    have:0≤c∧c≤2:=iM.1 (by omega)
    rcases eV this with e | e | e <;> rw [e] <;> decide
  have e:eW ((p:Int) * 4+k) c=(p:Int) * 64+8+(k:Int) * aT c:=by
    unfold eW
    rw [if_pos ⟨by omega,by omega⟩,show((p:Int) * 4+k) / 4=p by omega,show((p:Int) * 4+k) % 4=k by omega]
  unfold aL1
  rw [e];omega
theorem Z4{p k:Nat}(hp:p < 6)(hk:k < 4):nJ (p:Int) (k:Int)=some ((p:Int) * 4+k)∧EP (p:Int) (k:Int)=some ((p:Int) * 4+k):=by
  have a:0≤(p:Int)∧(p:Int)≤5:=by omega
  have b:0≤(k:Int)∧(k:Int)≤3:=by omega
  have e1:aX ((p:Int) * 4)=(p:Int) * 4:=aP (by omega) (by omega)
  have e2:aX ((p:Int) * 4+k)=(p:Int) * 4+k:=aP (by omega) (by omega)
  constructor
  · unfold nJ p9;rw [bJ,bJ,decide_eq_true a,decide_eq_true b,e1,e2];rfl
  · unfold EP wX;rw [d6,d6,decide_eq_true a,decide_eq_true b,e1,e2];rfl
noncomputable section
variable {b:List Int} (hb:b.length=384) {p:Nat} (hp:p < 6) {c:Int} (hc:0≤c∧c≤2)
include hb hp hc
theorem W0:loop (t7 c (p:Int)) ([],0,gB b p c 0)=some (gS p (bX c).toNat,gB b p c (bX c).toNat):=by
  have h4:=jL c
  refine iB (bX c).toNat (fun k=>(gS p k,(k:Int),gB b p c k)) _ (fun k hk=>?_) ?_
  · have ho:=aBU (c:=c) hp (k:=k) (by omega)
    simp only [t7,A3,eP,Option.bind_some]
    rw [if_pos (by simp;omega),(Z4 hp (by omega)).1]
    simp only [Option.bind_some,lX,ho.1]
    rw [BK (by rw [DX];omega) (by rw [DX];omega) (by omega)]
    simp only [Option.bind_some]
    rw [aU (by rw [DY];simp;omega),aP (by omega) (by omega),aHN];rfl
  · simp only [t7,eP,Option.bind_some]
    rw [if_neg (by simp;omega)]
theorem aFG:loop (zK c (p:Int) (bX c)) ([],0,gB b p c 0)=some (gS p (bX c).toNat,gB b p c (bX c).toNat):=by
  have h4:=jL c
  refine iB (bX c).toNat (fun k=>(gS p k,(k:Int),gB b p c k)) _ (fun k hk=>?_) ?_
  · have ho:=aBU (c:=c) hp (k:=k) (by omega)
    simp only [zK,FB]
    rw [if_pos (by simp;omega),(Z4 hp (by omega)).2]
    simp only [Option.bind_some,tQ,ho.1]
    rw [NL (by omega),Option.bind_some,K8 (by rw [DX];omega) (by rw [DX];omega) (by omega)]
    simp only [Option.bind_some]
    rw [aU (by rw [DY];simp;omega),aP (by omega) (by omega),aHN];rfl
  · simp only [zK]
    rw [if_neg (by simp;omega)]
end
theorem aDJ{h:aB}(hh:N9 h){c:Int}(hc:0≤c∧c≤2) :
    (jG h c=some (h,[])∧yO h c=some (h,[])) ∨
    ∃p,p < 6∧bQ h p < 0∧jG h c=some (⟨gB h.Bytes p c (bX c).toNat,h.Class.set p c⟩,gS p (bX c).toNat)∧yO h c=some (⟨gB h.Bytes p c (bX c).toNat,h.Class.set p c⟩,gS p (bX c).toNat):=by
  have hs:=hh.1
  have h6:=hs.2.1
  have h384:=hs.1
  have hp4:=jL c
  have hcp:=H0 (h:=h) (by omega) (by omega)
  have hne:∀j (hj:j < 6),j < h.Class.findIdx (fun x=>decide (x = -1))→h.Class[j]≠-1:=fun j hj hlt=>by
    have:=List.not_of_lt_findIdx hlt
    simpa using this
  generalize hq:h.Class.findIdx (fun x=>decide (x = -1))=q at hne
  have hq6:q≤6:=by rw [←hq,←h6];exact List.findIdx_le_length
  have s1:∀k (hk:k < q),dM h c (k:Int)=some (.next ((k+1:Nat):Int)):=fun k hk=>by
    have:=hne k (by omega) hk
    have n:(h.Class[k] != -1)=true:=by simpa using this
    simp only [dM,tZ]
    rw [if_pos (by simp;omega),aW (by omega),Option.bind_some,n,if_pos rfl,aP (by omega) (by omega)];rfl
  have s2:∀k (hk:k < q),dI h.Class (-1) (k:Int)=some (.next ((k+1:Nat):Int)):=fun k hk=>by
    have:=hne k (by omega) hk
    have n:((-1:Int) == h.Class[k])=false:=by simpa using fun a=>this a.symm
    simp only [dI]
    rw [if_pos (by simp;omega),aW (by omega),Option.bind_some,n,aP (by omega) (by omega)];rfl
  have hm:h.Bytes.length≤maxLen:=by rw [h384];simp [maxLen]
  by_cases h5:q=6
  · left
    have a1:loop (dM h c) 0=some (Out.brk ()):=iB q (fun k=>(k:Int)) _ s1 (by simp only [dM];rw [if_neg (by simp;omega)])
    have a2:loop (dI h.Class (-1)) 0=some (Out.brk ()):=iB q (fun k=>(k:Int)) _ s2 (by simp only [dI];rw [if_neg (by simp;omega)])
    constructor
    · unfold jG;rw [a1];rfl
    · unfold yO jX
      rw [a2,hcp,DT hm,gM,decide_eq_true hh,decide_eq_true hc];rfl
  · right
    have hq5:q < 6:=by omega
    have he:h.Class[q] = -1:=by
      have:=List.findIdx_getElem (xs:=h.Class) (p:=fun x=>decide (x = -1)) (w:=by rw [hq];omega)
      simp only [hq,decide_eq_true_eq] at this
      exact this
    refine⟨q,hq5,by rw [←L6 hs hq5,he];omega,?_,?_⟩
    · have a1:loop (dM h c) 0=some (Out.ret (⟨gB h.Bytes q c (bX c).toNat,h.Class.set q c⟩,gS q (bX c).toNat)):=iB q (fun k=>(k:Int)) _ s1 (by
        have e0:aX ((q:Int) * 64)=((q * 64:Nat):Int):=by rw [aP (by omega) (by omega)];omega
        have e1:aX (((q * 64:Nat):Int)+1)=((q * 64+1:Nat):Int):=by rw [aP (by omega) (by omega)];omega
        have e2:aX (((q * 64:Nat):Int)+2)=((q * 64+2:Nat):Int):=by rw [aP (by omega) (by omega)];omega
        have n:(h.Class[q] != -1)=false:=by simpa using he
        simp only [dM,e0,e1,e2,Int.toNat_natCast]
        rw [if_pos (by simp;omega),aW (by omega),Option.bind_some,n,if_neg (by simp),aW (by omega),Option.bind_some,aW (by simp;omega),Option.bind_some,eP,Option.bind_some,aW (by simp;omega),Option.bind_some]
        have:=W0 h384 hq5 hc
        simp only [gB] at this
        rw [this];rfl)
      unfold jG;rw [a1];rfl
    · have a2:loop (dI h.Class (-1)) 0=some (Out.ret (q:Int)):=iB q (fun k=>(k:Int)) _ s2 (by
        have n:((-1:Int) == h.Class[q])=true:=by rw [he];rfl
        simp only [dI]
        rw [if_pos (by simp;omega),aW (by omega),Option.bind_some,n];rfl)
      unfold yO jX
      rw [a2,hcp,DT hm,gM,decide_eq_true hh,decide_eq_true hc]
      have e0:aX ((q:Int) * 64)=((q * 64:Nat):Int):=by rw [aP (by omega) (by omega)];omega
      simp only [Option.bind_some,mC,Bool.not_true,Bool.false_eq_true,if_false,tJ,e0,uO,FC,Int.toNat_natCast]
      rw [decide_eq_false (by omega),if_neg (by simp),aW (by omega),Option.bind_some,aU (by omega),aPE _ _ (by omega)]
      have:=aFG h384 hq5 hc
      simp only [gB] at this
      rw [this];rfl
theorem XY.count{l:aA}(h:XY l):(dF l).length≤24:=aFF 24 _ h.2.2.2.2 (fun x hx=>by have:=h.2.2.2.1 x hx;omega)
theorem Z5{m:Mem}(hs:dE m.aB){s:Int}(hc:0≤bB m.aB s):∃h,lS m s=some h∧zL m s=some h:=by
  unfold lS zL jN FD gX rV
  rw [lY hs hc,z4 hs hc,Option.bind_some,Option.bind_some,bJ,bJ,rA,d6]
  have h1:=(uP hc).1
  simp only [decide_eq_true h1,Option.bind_some,Bool.not_true,Bool.false_eq_true,if_false]
  by_cases q:1≤jZ m.aB s∧jZ m.aB s≤6
  · simp only [decide_eq_true q,Bool.not_true,Bool.false_eq_true,if_false];exact⟨_,rfl,rfl⟩
  · simp only [decide_eq_false q,Bool.not_false,if_true];exact⟨_,rfl,rfl⟩
theorem yX{l:List aD}{k:Nat}(hk:k < l.length)(t:List Int):(cC (l.set k ⟨l[k].aO++t⟩)).length=(cC l).length+t.length:=by
  rw [yW hk,v5 hk];simp;omega
end Go.Gv
end
noncomputable section
set_option linter.unusedVariables false
set_option linter.unusedSimpArgs false
set_option linter.unusedSectionVars false
namespace Go.Gv
def bt(b:List Int)(i:Nat):Int:=b.getD i 0
theorem W1{b:List Int}{i:Nat}(h:i < b.length):b[i]=bt b i:=by
  unfold bt;rw [List.getD_eq_getElem?_getD,List.getElem?_eq_getElem h];rfl
theorem ld4{b:List Int}{a:Nat}(h:a+4≤b.length):ld b a 4=((bt b a * 256+bt b (a+1)) * 256+bt b (a+2)) * 256+bt b (a+3):=by
  unfold ld
  rw [List.drop_eq_getElem_cons (by omega),List.drop_eq_getElem_cons (by omega),List.drop_eq_getElem_cons (by omega),List.drop_eq_getElem_cons (by omega)]
  simp only [List.take_succ_cons,List.take_zero,ldF,List.foldl_cons,List.foldl_nil,W1 (b:=b) (i:=a) (by omega),W1 (b:=b) (i:=a+1) (by omega),W1 (b:=b) (i:=a+1+1) (by omega),W1 (b:=b) (i:=a+1+1+1) (by omega)]
  simp only [Nat.add_assoc,Nat.reduceAdd];omega
theorem DZ{b:List Int}{i j:Nat}{v:Int}(hi:i < b.length):bt (b.set i v) j=if j=i then v else bt b j:=by
  unfold bt
  rw [List.getD_eq_getElem?_getD,List.getD_eq_getElem?_getD,List.getElem?_set]
  by_cases h:i=j
  · subst h;simp [hi]
  · have h':¬j=i:=fun q=>h q.symm
    simp [h,h']
theorem vG{b:List Int}{a:Nat}{n:Int}(h:a+4≤b.length)(j:Nat):bt (WW b a n) j=if j=a+3 then n else if a≤j∧j < a+3 then 0 else bt b j:=by
  unfold WW
  rw [DZ (by simp;omega),DZ (by simp;omega),DZ (by simp;omega),DZ (by omega)]
  by_cases h1:j=a+3
  · simp [h1]
  · rw [if_neg h1,if_neg h1]
    by_cases h2:a≤j∧j < a+3
    · rw [if_pos h2]
      by_cases h3:j=a+2
      · simp [h3]
      · rw [if_neg h3]
        by_cases h4:j=a+1
        · simp [h4]
        · rw [if_neg h4,if_pos (by omega)]
    · rw [if_neg h2,if_neg (by omega),if_neg (by omega),if_neg (by omega)]
theorem aFH{b:List Int}{a:Nat}{n:Int}(h:a+4≤b.length):ld (WW b a n) a 4=n:=by
  rw [ld4 (by rw [z6];exact h),vG h,vG h,vG h,vG h,if_neg (by omega),if_pos (by omega),if_neg (by omega),if_pos (by omega),if_neg (by omega),if_pos (by omega),if_pos rfl]
  omega
theorem L9{b b':List Int}{a:Nat}(h:a+4≤b.length)(hl:b'.length=b.length)(hs:∀j,a≤j→j < a+4→bt b' j=bt b j):ld b' a 4=ld b a 4:=by
  rw [ld4 (by omega),ld4 h,hs a (by omega) (by omega),hs (a+1) (by omega) (by omega),hs (a+2) (by omega) (by omega),hs (a+3) (by omega) (by omega)]
def TE(h:aB)(p:Nat):Prop:=
  if bQ h p < 0 then ∀k,k < 64→bt h.Bytes (p * 64+k)=0
  else ((bt h.Bytes (p * 64)=171∧bt h.Bytes (p * 64+1)=bQ h p∧bt h.Bytes (p * 64+2)=bX (bQ h p))∧(∀k,3≤k→k < 8→bt h.Bytes (p * 64+k)=0)∧∀i,i < (bX (bQ h p)).toNat→1≤ld h.Bytes (p * 64+8+i * (aT (bQ h p)).toNat) 4∧ld h.Bytes (p * 64+8+i * (aT (bQ h p)).toNat) 4≤7)
theorem Z6{h:aB}(hs:dE h){p:Nat}(hp:p < 6){k:Nat}(hk:k < 64):(cV h p).getD k 0=bt h.Bytes (p * 64+k):=by
  rw [←ZY hs hp hk,W1 (by have:=hs.1;omega)]
theorem PN{l:List Int}{x:Int}:x∈l↔∃k,k < l.length∧l.getD k 0=x:=by
  rw [List.mem_iff_getElem]
  constructor
  · rintro⟨k,hk,e⟩
    exact⟨k,hk,by rw [List.getD_eq_getElem?_getD,List.getElem?_eq_getElem hk];exact e⟩
  · rintro⟨k,hk,e⟩
    exact⟨k,hk,by rw [List.getD_eq_getElem?_getD,List.getElem?_eq_getElem hk] at e;exact e⟩
theorem G0{h:aB}(hs:dE h){p:Nat}(hp:p < 6):kK h p↔TE h p:=by
  unfold kK TE
  have hl:=DS hs hp
  split
  · constructor
    · intro q k hk
      rw [←Z6 hs hp hk]
      exact q _ (PN.2 ⟨k,by omega,rfl⟩)
    · intro q x hx
      obtain⟨k,hk,rfl⟩:=PN.1 hx
      rw [Z6 hs hp (by omega)];exact q k (by omega)
  · rw [Z6 hs hp (by omega),Z6 hs hp (by omega),Z6 hs hp (by omega)]
    have e:(∀x∈((cV h p).drop 3).take 5,x=0)↔∀k,3≤k→k < 8→bt h.Bytes (p * 64+k)=0:=by
      have g:∀j,j < 5→(((cV h p).drop 3).take 5).getD j 0=bt h.Bytes (p * 64+(3+j)):=fun j hj=>by
        rw [←Z6 hs hp (by omega),List.getD_eq_getElem?_getD,List.getD_eq_getElem?_getD,List.getElem?_take,if_pos hj,List.getElem?_drop]
      constructor
      · intro q k h3 h8
        have:=q _ (PN.2 ⟨k - 3,by simp [hl];omega,rfl⟩)
        rw [g _ (by omega)] at this
        rw [show 3+(k - 3)=k by omega] at this;exact this
      · intro q x hx
        obtain⟨k,hk,rfl⟩:=PN.1 hx
        simp [hl] at hk
        rw [g _ hk];exact q _ (by omega) (by omega)
    rw [e];rfl
theorem TE.same{h h':aB}{p:Nat}(hp:p < 6)(hs:dE h)(hl:h'.Bytes.length=h.Bytes.length)(hc:bQ h' p=bQ h p)(hb:∀k,k < 64→bt h'.Bytes (p * 64+k)=bt h.Bytes (p * 64+k))(q:TE h p):TE h' p:=by
  have h1:=hs.1
  unfold TE at q ⊢
  rw [hc]
  split
  · rename_i q0;rw [if_pos q0] at q
    exact fun k hk=>by rw [hb k hk];exact q k hk
  · rename_i q0;rw [if_neg q0] at q
    obtain⟨⟨a1,a2,a3⟩,a4,a5⟩:=q
    have b0:=hb 0 (by omega);have b1:=hb 1 (by omega);have b2:=hb 2 (by omega)
    simp only [Nat.add_zero] at b0
    refine⟨⟨by rw [b0];exact a1,by rw [b1];exact a2,by rw [b2];exact a3⟩,fun k k3 k8=>by rw [hb k (by omega)];exact a4 k k3 k8,fun i hi=>?_⟩
    have hz:=sE hs hp (c:=bQ h p) rfl hi
    rw [L9 (b:=h.Bytes) (by omega) hl fun j j1 j2=>by
      have:=hb (j - p * 64) (by omega)
      rw [show p * 64+(j - p * 64)=j by omega] at this;exact this]
    exact a5 i hi
theorem AU{h:aB}{s:Int}(hc:0≤bB h s):∃p i,p < 6∧i < (bX (bQ h p)).toNat∧s=(p:Int) * 4+i∧bB h s=bQ h p∧(eW s (bB h s)).toNat=p * 64+8+i * (aT (bQ h p)).toNat∧(s / 4).toNat=p:=by
  obtain⟨h1,h2,h3⟩:=uP hc
  have hle:=jL (bQ h (s / 4).toNat)
  refine⟨(s / 4).toNat,(s % 4).toNat,by omega,by omega,by omega,h3,?_,rfl⟩
  rw [h3]
  unfold eW
  rw [if_pos ⟨h1,by omega⟩]
  have hst:=(N2 (bQ h (s / 4).toNat)).1
  have e:s % 4 * aT (bQ h (s / 4).toNat)=(((s % 4).toNat * (aT (bQ h (s / 4).toNat)).toNat:Nat):Int):=by
    rw [Int.natCast_mul,Int.toNat_of_nonneg (by omega),Int.toNat_of_nonneg hst]
  omega
theorem H3{c:Int}{i j:Nat}(hi:i < (bX c).toNat)(hj:j < (bX c).toNat)(hn:i≠j):i * (aT c).toNat+4≤j * (aT c).toNat∨j * (aT c).toNat+4≤i * (aT c).toNat:=by
  have hc:0≤c∧c≤2:=iM.1 (by omega)
  have h12:12≤(aT c).toNat:=by rcases eV hc with rfl | rfl | rfl <;> decide
  rcases Nat.lt_or_gt_of_ne hn with q | q
  · left
    have:(i+1) * (aT c).toNat≤j * (aT c).toNat:=Nat.mul_le_mul_right _ q
    rw [Nat.add_mul] at this;omega
  · right
    have:(j+1) * (aT c).toNat≤i * (aT c).toNat:=Nat.mul_le_mul_right _ q
    rw [Nat.add_mul] at this;omega
theorem N9.aQW{h:aB}(hh:N9 h){s g:Int}(hc:0≤bB h s)(hg:1≤g∧g≤7) :
    N9 ⟨WW h.Bytes (eW s (bB h s)).toNat g,h.Class⟩∧∀t,0≤bB h t→jZ ⟨WW h.Bytes (eW s (bB h s)).toNat g,h.Class⟩ t=if t=s then g else jZ h t:=by
  obtain⟨hs,hp⟩:=hh
  have h384:=hs.1
  have hs':dE ⟨WW h.Bytes (eW s (bB h s)).toNat g,h.Class⟩:=⟨by rw [z6];exact hs.1,hs.2.1,aDI hs.2.2.1 _ (by omega),hs.2.2.2⟩
  obtain⟨p,i,p6,hi,es,ec,eo,ep⟩:=AU hc
  have hz:=sE hs p6 rfl hi
  have h4:=jL (bQ h p)
  refine⟨⟨hs',fun q hq=>?_⟩,fun t ht=>?_⟩
  · rw [G0 hs' hq]
    have hold:=(G0 hs hq).1 (hp q hq)
    by_cases e:q=p
    · subst e
      have hpos:0 < bX (bQ h q):=by omega
      have hcl:¬bQ h q < 0:=by have:=iM.1 hpos;omega
      unfold TE at hold ⊢
      have hcl':bQ ⟨WW h.Bytes (eW s (bB h s)).toNat g,h.Class⟩ q=bQ h q:=rfl
      rw [hcl']
      rw [if_neg hcl] at hold ⊢
      obtain⟨⟨a1,a2,a3⟩,a4,a5⟩:=hold
      have bs:∀k,k < 8→bt (WW h.Bytes (eW s (bB h s)).toNat g) (q * 64+k)=bt h.Bytes (q * 64+k):=fun k hk=>by
        rw [vG (by omega),if_neg (by omega),if_neg (by omega)]
      have b0:=bs 0 (by omega);have b1:=bs 1 (by omega);have b2:=bs 2 (by omega)
      simp only [Nat.add_zero] at b0
      refine⟨⟨by rw [b0];exact a1,by rw [b1];exact a2,by rw [b2];exact a3⟩,fun k k3 k8=>by rw [bs k k8];exact a4 k k3 k8,fun j hj=>?_⟩
      have hzj:=sE hs p6 rfl hj
      by_cases ej:j=i
      · subst ej
        simp only [eo]
        rw [aFH (by omega)];exact hg
      · rw [L9 (b:=h.Bytes) (by omega) (by simp only [z6]) fun k k1 k2=>?_]
        · exact a5 j hj
        · simp only [eo]
          have:=H3 hi hj (fun q=>ej q.symm)
          rw [vG (by omega),if_neg (by omega),if_neg (by omega)]
    · refine TE.same hq hs (by simp only [z6]) rfl (fun k hk=>?_) hold
      rw [vG (by omega),if_neg (by omega),if_neg (by omega)]
  · have e2:bB ⟨WW h.Bytes (eW s (bB h s)).toNat g,h.Class⟩ t=bB h t:=rfl
    unfold jZ
    rw [e2]
    by_cases e:t=s
    · subst e;rw [if_pos rfl];simp only;rw [aFH (by omega)]
    · rw [if_neg e]
      obtain⟨p',i',p6',hi',es',ec',eo',ep'⟩:=AU ht
      have hz':=sE hs p6' rfl hi'
      rw [L9 (b:=h.Bytes) (by omega) (by simp only [z6]) fun k k1 k2=>?_]
      simp only
      by_cases ee:p'=p
      · subst ee
        have:=H3 hi hi' (fun q=>e (by rw [es,es',q]))
        rw [vG (by omega),if_neg (by omega),if_neg (by omega)]
      · have h4':=jL (bQ h p')
        rw [vG (by omega),if_neg (by omega),if_neg (by omega)]
theorem UB{p k:Nat}{c:Int}(hp:p < 6)(hk:(k:Int) < bX c):aL1 p k c=p * 64+8+k * (aT c).toNat∧8+k * (aT c).toNat+4≤64:=by
  have hc:0≤c∧c≤2:=iM.1 (by omega)
  have h1:=aBU (c:=c) hp hk
  have hle:=jL c
  have e:=h1.1
  unfold eW at e
  rw [if_pos (by omega)] at e
  have e1:((p:Int) * 4+k) / 4=p:=by omega
  have e2:((p:Int) * 4+k) % 4=k:=by omega
  rw [e1,e2] at e
  rcases eV hc with rfl | rfl | rfl
  · rw [show aT 0=12 from rfl] at e ⊢
    rw [show bX 0=4 from rfl] at hk
    rw [show(12:Int).toNat=12 from rfl]
    omega
  · rw [show aT 1=20 from rfl] at e ⊢
    rw [show bX 1=2 from rfl] at hk
    rw [show(20:Int).toNat=20 from rfl]
    omega
  · rw [show aT 2=44 from rfl] at e ⊢
    rw [show bX 2=1 from rfl] at hk
    rw [show(44:Int).toNat=44 from rfl]
    omega
theorem aPF{b:List Int}{p:Nat}{c:Int}(hl:b.length=384)(hp:p < 6)(hc:0≤c∧c≤2):∀k:Nat,(k:Int)≤bX c→∀j,(j < p * 64∨p * 64+64≤j→bt (gB b p c k) j=bt b j)∧(3≤j→j < 8→bt (gB b p c k) (p * 64+j)=bt b (p * 64+j))∧bt (gB b p c k) (p * 64)=171∧bt (gB b p c k) (p * 64+1)=c∧bt (gB b p c k) (p * 64+2)=bX c
  | 0, hk, j => by
    have key:∀i,bt (gB b p c 0) i=if i=p * 64+2 then bX c else if i=p * 64+1 then c else if i=p * 64 then 171 else bt b i:=fun i=>by
      unfold gB
      rw [DZ (by simp;omega),DZ (by simp;omega),DZ (by omega)]
    refine⟨fun h=>?_,fun h1 h2=>?_,?_,?_,?_⟩
    · rw [key,if_neg (by omega),if_neg (by omega),if_neg (by omega)]
    · rw [key,if_neg (by omega),if_neg (by omega),if_neg (by omega)]
    · rw [key,if_neg (by omega),if_neg (by omega),if_pos rfl]
    · rw [key,if_neg (by omega),if_pos rfl]
    · rw [key,if_pos rfl]
  | k + 1, hk, j => by
    have ih:=aPF hl hp hc k (by omega)
    have hoff:=UB (c:=c) hp (by omega:(k:Int) < bX c)
    have hbl:=DX b p c k
    unfold gB
    refine⟨fun h=>?_,fun h1 h2=>?_,?_,?_,?_⟩
    · rw [vG (by omega),if_neg (by omega),if_neg (by omega)];exact(ih j).1 h
    · rw [vG (by omega),if_neg (by omega),if_neg (by omega)];exact(ih j).2.1 h1 h2
    · rw [vG (by omega),if_neg (by omega),if_neg (by omega)];exact(ih j).2.2.1
    · rw [vG (by omega),if_neg (by omega),if_neg (by omega)];exact(ih j).2.2.2.1
    · rw [vG (by omega),if_neg (by omega),if_neg (by omega)];exact(ih j).2.2.2.2
theorem aL2{b:List Int}{p:Nat}{c:Int}(hl:b.length=384)(hp:p < 6):∀k:Nat,(k:Int)≤bX c→∀i,i < k→ld (gB b p c k) (p * 64+8+i * (aT c).toNat) 4=1
  | 0,_,i,h=>absurd h (by omega)
  | k + 1, hk, i, h => by
    have hbl:=DX b p c k
    have ho:=UB (c:=c) hp (by omega:(k:Int) < bX c)
    unfold gB
    by_cases e:i=k
    · subst e;rw [←ho.1];exact aFH (by omega)
    · have hoi:=UB (c:=c) hp (by omega:(i:Int) < bX c)
      have ha:=H3 (c:=c) (i:=i) (j:=k) (by omega) (by omega) e
      rw [L9 (b:=gB b p c k) (by omega) (by rw [z6]) fun j j1 j2=>by rw [vG (by omega),if_neg (by omega),if_neg (by omega)]]
      exact aL2 hl hp k (by omega) i (by omega)
theorem PO{h:aB}(hs:dE h){B:List Int}{p q:Nat}(hq:q < 6){c:Int}:bQ ⟨B,h.Class.set p c⟩ q=if q=p then c else bQ h q:=by
  have h6:=hs.2.1
  unfold bQ
  rw [List.getD_eq_getElem?_getD,List.getD_eq_getElem?_getD,List.getElem?_set]
  by_cases e:p=q
  · subst e;simp [h6,hq]
  · have e':¬q=p:=fun z=>e z.symm
    simp [e,e']
theorem N9.aSR{h:aB}(hh:N9 h){p:Nat}(hp:p < 6)(hun:bQ h p < 0){c:Int}(hc:0≤c∧c≤2) :
    N9 ⟨gB h.Bytes p c (bX c).toNat,h.Class.set p c⟩∧(∀t,(t / 4).toNat≠p→bB ⟨gB h.Bytes p c (bX c).toNat,h.Class.set p c⟩ t=bB h t)∧(∀t,0≤bB h t→(t / 4).toNat≠p∧jZ ⟨gB h.Bytes p c (bX c).toNat,h.Class.set p c⟩ t=jZ h t) ∧
      ∀i,i < (bX c).toNat→bB ⟨gB h.Bytes p c (bX c).toNat,h.Class.set p c⟩ ((p:Int) * 4+i)=c∧jZ ⟨gB h.Bytes p c (bX c).toNat,h.Class.set p c⟩ ((p:Int) * 4+i)=1:=by
  obtain⟨hs,hpg⟩:=hh
  have h384:=hs.1
  have hle:=jL c
  have hpn:((bX c).toNat:Int)≤bX c:=by omega
  have hb:=aPF h384 hp hc (bX c).toNat hpn
  have hbl:=DX h.Bytes p c (bX c).toNat
  have hs':dE ⟨gB h.Bytes p c (bX c).toNat,h.Class.set p c⟩:=⟨by simp only [hbl];exact h384,by simp only [List.length_set];exact hs.2.1,aBT hs.2.2.1 p hc _,fun x hx=>by
    rcases List.mem_or_eq_of_mem_set hx with q | rfl
    · exact hs.2.2.2 x q
    · omega⟩
  have hcls:∀t:Int,(t / 4).toNat≠p→bB ⟨gB h.Bytes p c (bX c).toNat,h.Class.set p c⟩ t=bB h t:=fun t ht=>by
    unfold bB
    by_cases q:0≤t∧t≤23
    · rw [PO hs (by omega),if_neg ht]
    · rw [if_neg (fun z=>q z.1),if_neg (fun z=>q z.1)]
  refine⟨⟨hs',fun q hq=>?_⟩,hcls,fun t ht=>?_,fun i hi=>?_⟩
  · rw [G0 hs' hq]
    have hold:=(G0 hs hq).1 (hpg q hq)
    by_cases e:q=p
    · subst e
      unfold TE at hold ⊢
      rw [if_pos hun] at hold
      rw [PO hs hq,if_pos rfl,if_neg (by omega)]
      refine⟨(hb 0).2.2,fun k k3 k8=>?_,fun i hi=>?_⟩
      · simp only;rw [(hb k).2.1 k3 k8];exact hold k (by omega)
      · simp only;rw [aL2 h384 hp _ hpn i hi];omega
    · refine TE.same hq hs (by simp only [hbl]) (by rw [PO hs hq,if_neg e]) (fun k hk=>?_) hold
      exact(hb _).1 (by omega)
  · obtain⟨p',i',p6',hi',es',ec',eo',ep'⟩:=AU ht
    have hne:(t / 4).toNat≠p:=fun z=>by rw [ec',←ep',z] at ht;omega
    refine⟨hne,?_⟩
    have hz':=sE hs p6' rfl hi'
    unfold jZ
    rw [hcls t hne,L9 (b:=h.Bytes) (by omega) (by simp only [hbl]) fun k k1 k2=>(hb k).1 (by omega)]
  · have e1:((p:Int) * 4+i) / 4=p:=by omega
    have e2:((p:Int) * 4+i) % 4=i:=by omega
    have ec:bB ⟨gB h.Bytes p c (bX c).toNat,h.Class.set p c⟩ ((p:Int) * 4+i)=c:=by
      unfold bB
      rw [e1,e2,Int.toNat_natCast,PO hs hp,if_pos rfl,if_pos (by omega)]
    refine⟨ec,?_⟩
    unfold jZ
    rw [ec]
    have ho:=UB (c:=c) hp (by omega:(i:Int) < bX c)
    have:(eW ((p:Int) * 4+i) c).toNat=p * 64+8+i * (aT c).toNat:=ho.1
    rw [this]
    exact aL2 h384 hp _ hpn i hi
def sK(m m':Mem)(k:Int):Prop:=kO m'∧∀s,jM m s=3→s≠k→jM m' s=3∧jZ m'.aB s=jZ m.aB s∧bB m'.aB s=bB m.aB s
theorem sK.refl{m:Mem}(h:kO m)(k:Int):sK m m k:=⟨h,fun _ h _=>⟨h,rfl,rfl⟩⟩
theorem sK.live{m m':Mem}{k h:Int}(q:sK m m' k)(hl:nC m h)(hn:h % 32≠k):nC m' h:=by
  obtain⟨h1,h2,h3⟩:=hl
  obtain⟨a,b,_⟩:=q.2 _ h2 hn
  exact⟨h1,a,by rw [b];exact h3⟩
theorem EY{l:List aD}{k j:Nat}(hk:k < l.length){t:aD}:dT (l.set k t) j=if j=k then t.aO else dT l j:=by
  unfold dT
  rw [List.getD_eq_getElem?_getD,List.getD_eq_getElem?_getD,List.getElem?_set]
  by_cases e:k=j
  · subst e;simp [hk]
  · have e':¬j=k:=fun z=>e z.symm
    simp [e,e']
theorem Z7{l:List aD}{k:Nat}(hk:k < l.length){t:aD}(ht:t.aO.Sublist l[k].aO):(cC (l.set k t)).Sublist (cC l):=by
  rw [yW hk,v5 hk]
  exact(List.Sublist.refl _).append (ht.append (List.Sublist.refl _))
theorem PQ{l:List aD}{k:Nat}(hk:k < l.length){xs:List Int}{s:Int}:s∈cC (l.set k ⟨l[k].aO++xs⟩)↔s∈cC l∨s∈xs:=by
  rw [yW hk,v5 hk]
  simp only [List.mem_append]
  constructor
  · rintro(h | (h | h) | h)
    · exact .inl (.inl h)
    · exact .inl (.inr (.inl h))
    · exact .inr h
    · exact .inl (.inr (.inr h))
  · rintro((h | h | h) | h)
    · exact .inl h
    · exact .inr (.inl (.inl h))
    · exact .inr (.inr h)
    · exact .inr (.inl (.inr h))
theorem K9{l:List aD}{k:Nat}(hk:k < l.length){xs r q:List Int}(h:(q++(cC l++r)).Nodup)(hx:xs.Nodup)(hd:∀x∈xs,x∉q++(cC l++r)):(q++(cC (l.set k ⟨l[k].aO++xs⟩)++r)).Nodup:=by
  have hp:(q++(cC (l.set k ⟨l[k].aO++xs⟩)++r)).Perm (xs++(q++(cC l++r))):=by
    rw [yW hk,v5 hk]
    have e1:q++(cC (l.take k)++(l[k].aO++xs++cC (l.drop (k+1)))++r)=(q++cC (l.take k)++l[k].aO)++(xs++(cC (l.drop (k+1))++r)):=by simp
    have e2:xs++(q++(cC (l.take k)++(l[k].aO++cC (l.drop (k+1)))++r))=xs++((q++cC (l.take k)++l[k].aO)++(cC (l.drop (k+1))++r)):=by simp
    rw [e1,e2]
    exact List.perm_append_comm_assoc _ _ _
  rw [hp.nodup_iff,List.nodup_append]
  exact⟨hx,h,fun a ha b hb e=>hd a ha (e ▸ hb)⟩
theorem oY{m:Mem}{s:Int}:jM m s=3↔0≤bB m.aB s∧s∉dF m.aA∧jZ m.aB s≤6:=by
  unfold jM
  constructor
  · intro h
    split at h
    · omega
    · split at h
      · omega
      · split at h
        · omega
        · exact⟨by omega,by assumption,by omega⟩
  · rintro⟨a,b,c⟩
    rw [if_neg (by omega),if_neg b,if_neg (by omega)]
noncomputable section
variable {m:Mem} (hm:kO m)
include hm
theorem kO.aQX{k:Nat}(hk:k < 9){t:aD}(ht:t.aO.Sublist (dT m.aA.aR k)):sK m ⟨m.aB,⟨m.aA.Global,m.aA.aR.set k t⟩⟩ (-1):=by
  obtain⟨⟨hh,h3,h9,h2,hr,hn⟩,hg,ho⟩:=hm
  have hk':k < m.aA.aR.length:=by omega
  have ht':t.aO.Sublist m.aA.aR[k].aO:=by rw [cJ hk'];exact ht
  have hsub:(dF ⟨m.aA.Global,m.aA.aR.set k t⟩).Sublist (dF m.aA):=(List.Sublist.refl _).append (Z7 hk' ht')
  refine⟨⟨⟨hh,h3,by simpa using h9,fun s hs=>?_,fun x hx=>hr x (hsub.subset hx),hsub.nodup hn⟩,hg,fun j hj=>?_⟩,fun s hs _=>⟨?_,rfl,rfl⟩⟩
  · rcases List.mem_or_eq_of_mem_set hs with q | rfl
    · exact h2 s q
    · have:=ht'.length_le;have:=h2 _ (List.getElem_mem hk');omega
  · unfold xS
    simp only [EY hk']
    split
    · rename_i e;subst e
      exact fun x hx=>ho j hj x (ht.subset hx)
    · exact ho j hj
  · rw [oY] at hs ⊢
    exact⟨hs.1,fun q=>hs.2.1 (hsub.subset q),hs.2.2⟩
theorem kO.aIK{k:Nat}(hk:k < 3){t:aD}(ht:t.aO.Sublist (dT m.aA.Global k)):sK m ⟨m.aB,⟨m.aA.Global.set k t,m.aA.aR⟩⟩ (-1):=by
  obtain⟨⟨hh,h3,h9,h2,hr,hn⟩,hg,ho⟩:=hm
  have hk':k < m.aA.Global.length:=by omega
  have ht':t.aO.Sublist m.aA.Global[k].aO:=by rw [cJ hk'];exact ht
  have hsub:(dF ⟨m.aA.Global.set k t,m.aA.aR⟩).Sublist (dF m.aA):=(Z7 hk' ht').append (List.Sublist.refl _)
  refine⟨⟨⟨hh,by simpa using h3,h9,h2,fun x hx=>hr x (hsub.subset hx),hsub.nodup hn⟩,fun j hj=>?_,ho⟩,fun s hs _=>⟨?_,rfl,rfl⟩⟩
  · unfold EA
    simp only [EY hk']
    split
    · rename_i e;subst e
      exact fun x hx=>hg j hj x (ht.subset hx)
    · exact hg j hj
  · rw [oY] at hs ⊢
    exact⟨hs.1,fun q=>hs.2.1 (hsub.subset q),hs.2.2⟩
theorem kO.aOF{k:Nat}(hk:k < 9){xs:List Int}(hl:(dT m.aA.aR k).length+xs.length≤2)(hx:xs.Nodup)(hf:xR m.aB xs ((k % 3:Nat):Int))(hd:∀x∈xs,x∉dF m.aA)(hk':k < m.aA.aR.length) :
    kO ⟨m.aB,⟨m.aA.Global,m.aA.aR.set k ⟨m.aA.aR[k].aO++xs⟩⟩⟩∧∀s,s∉xs→jM m s=3→jM ⟨m.aB,⟨m.aA.Global,m.aA.aR.set k ⟨m.aA.aR[k].aO++xs⟩⟩⟩ s=3:=by
  obtain⟨⟨hh,h3,h9,h2,hr,hn⟩,hg,ho⟩:=hm
  have hmem:∀s,s∈dF ⟨m.aA.Global,m.aA.aR.set k ⟨m.aA.aR[k].aO++xs⟩⟩↔s∈dF m.aA∨s∈xs:=fun s=>by
    unfold dF;simp only [List.mem_append,PQ hk'];rw [or_assoc]
  have hcl:∀x∈xs,0≤x∧x≤23:=fun x h=>by
    have:=(hf x h).1
    exact(uP (h:=m.aB) (s:=x) (by omega)).1
  refine⟨⟨⟨hh,h3,by simpa using h9,fun s hs=>?_,fun x hx=>?_,?_⟩,hg,fun j hj=>?_⟩,fun s hs h3=>?_⟩
  · rcases List.mem_or_eq_of_mem_set hs with q | rfl
    · exact h2 s q
    · rw [←cJ hk'] at hl;simpa using hl
  · rcases(hmem x).1 hx with q | q
    · exact hr x q
    · exact hcl x q
  · have:=K9 (q:=cC m.aA.Global) (r:=[]) hk' (by simpa [dF] using hn) hx (by simpa [dF] using hd)
    simpa [dF] using this
  · unfold xS
    simp only [EY hk']
    split
    · rename_i e;subst e
      intro x hx
      rcases List.mem_append.1 hx with q | q
      · rw [cJ hk'] at q;exact ho j hj x q
      · exact hf x q
    · exact ho j hj
  · rw [oY] at h3 ⊢
    exact⟨h3.1,fun q=>(((hmem s).1 q).elim h3.2.1 hs),h3.2.2⟩
theorem kO.W2{k:Nat}(hk:k < 3){xs:List Int}(hx:xs.Nodup)(hf:xR m.aB xs (k:Int))(hd:∀x∈xs,x∉dF m.aA)(hk':k < m.aA.Global.length) :
    kO ⟨m.aB,⟨m.aA.Global.set k ⟨m.aA.Global[k].aO++xs⟩,m.aA.aR⟩⟩∧∀s,s∉xs→jM m s=3→jM ⟨m.aB,⟨m.aA.Global.set k ⟨m.aA.Global[k].aO++xs⟩,m.aA.aR⟩⟩ s=3:=by
  obtain⟨⟨hh,h3,h9,h2,hr,hn⟩,hg,ho⟩:=hm
  have hmem:∀s,s∈dF ⟨m.aA.Global.set k ⟨m.aA.Global[k].aO++xs⟩,m.aA.aR⟩↔s∈dF m.aA∨s∈xs:=fun s=>by
    unfold dF;simp only [List.mem_append,PQ hk'];rw [or_right_comm]
  have hcl:∀x∈xs,0≤x∧x≤23:=fun x h=>by
    have:=(hf x h).1
    exact(uP (h:=m.aB) (s:=x) (by omega)).1
  refine⟨⟨⟨hh,by simpa using h3,h9,h2,fun x hx=>?_,?_⟩,fun j hj=>?_,ho⟩,fun s hs h3=>?_⟩
  · rcases(hmem x).1 hx with q | q
    · exact hr x q
    · exact hcl x q
  · have:=K9 (q:=[]) (r:=cC m.aA.aR) hk' (by simpa [dF] using hn) hx (by simpa [dF] using hd)
    simpa [dF] using this
  · unfold EA
    simp only [EY hk']
    split
    · rename_i e;subst e
      intro x hx
      rcases List.mem_append.1 hx with q | q
      · rw [cJ hk'] at q;exact hg j hj x q
      · exact hf x q
    · exact hg j hj
  · rw [oY] at h3 ⊢
    exact⟨h3.1,fun q=>(((hmem s).1 q).elim h3.2.1 hs),h3.2.2⟩
theorem kO.LA{x:Int}(hx:x∈dF m.aA):0≤bB m.aB x∧jZ m.aB x≤6:=by
  obtain⟨⟨hh,h3,h9,h2,hr,hn⟩,hg,ho⟩:=hm
  have key:∀(l:List aD),x∈cC l→∃k,k < l.length∧x∈dT l k:=fun l h=>by
    obtain⟨s,h1,h2⟩:=L8.1 h
    obtain⟨k,hk,rfl⟩:=List.mem_iff_getElem.1 h1
    exact⟨k,hk,by rw [←cJ hk];exact h2⟩
  rcases List.mem_append.1 hx with q | q
  · obtain⟨k,hk,h⟩:=key _ q
    have:=hg k (by omega) x h
    exact⟨by omega,this.2⟩
  · obtain⟨k,hk,h⟩:=key _ q
    have:=ho k (by omega) x h
    exact⟨by omega,this.2⟩
theorem kO.heap{h':aB}(hh:N9 h')(hs:∀x∈dF m.aA,bB h' x=bB m.aB x∧jZ h' x=jZ m.aB x):kO ⟨h',m.aA⟩:=by
  obtain⟨⟨_,hl⟩,hg,ho⟩:=hm
  have key:∀(l:List aD) k x,x∈dT l k→x∈cC l:=fun l k x h=>by
    unfold dT at h
    rw [List.getD_eq_getElem?_getD] at h
    cases hk:l[k]? with
    | none=>rw [hk] at h;simp at h
    | some s=>rw [hk] at h;exact L8.2 ⟨s,List.mem_of_getElem? hk,h⟩
  refine⟨⟨hh,hl⟩,fun k hk x hx=>?_,fun k hk x hx=>?_⟩
  · obtain⟨a,b⟩:=hs x (List.mem_append_left _ (key _ k x hx))
    show bB h' x=_∧jZ h' x≤6
    rw [a,b];exact hg k hk x hx
  · obtain⟨a,b⟩:=hs x (List.mem_append_right _ (key _ k x hx))
    show bB h' x=_∧jZ h' x≤6
    rw [a,b];exact ho k hk x hx
theorem kO.aT1{s g:Int}(hu:jM m s=3)(hg:1≤g∧g≤7):sK m ⟨⟨WW m.aB.Bytes (eW s (bB m.aB s)).toNat g,m.aB.Class⟩,m.aA⟩ s∧jZ ⟨WW m.aB.Bytes (eW s (bB m.aB s)).toNat g,m.aB.Class⟩ s=g:=by
  have hu':=oY.1 hu
  obtain⟨a,b⟩:=N9.aQW hm.1.1 hu'.1 hg
  refine⟨⟨kO.heap hm a fun x hx=>⟨rfl,?_⟩,fun t ht hn=>?_⟩,by rw [b s hu'.1,if_pos rfl]⟩
  · rw [b x (kO.LA hm hx).1,if_neg (show ¬x=s from fun e=>hu'.2.1 (e ▸ hx))]
  · have ht':=oY.1 ht
    have e:jZ ⟨WW m.aB.Bytes (eW s (bB m.aB s)).toNat g,m.aB.Class⟩ t=jZ m.aB t:=by rw [b t ht'.1,if_neg hn]
    exact⟨oY.2 ⟨ht'.1,ht'.2.1,by simp only [e];exact ht'.2.2⟩,e,rfl⟩
theorem kO.aHO{p:Nat}(hp:p < 6)(hun:bQ m.aB p < 0){c:Int}(hc:0≤c∧c≤2){xs:List Int}(hxs:∀x∈xs,∃i,i < (bX c).toNat∧x=(p:Int) * 4+(i:Nat))(hx:xs.Nodup)(hk':c.toNat < m.aA.Global.length) :
    sK m ⟨⟨gB m.aB.Bytes p c (bX c).toNat,m.aB.Class.set p c⟩,⟨m.aA.Global.set c.toNat ⟨m.aA.Global[c.toNat].aO++xs⟩,m.aA.aR⟩⟩ (-1):=by
  obtain⟨a,b,d,e⟩:=N9.aSR hm.1.1 hp hun hc
  have h1:kO ⟨⟨gB m.aB.Bytes p c (bX c).toNat,m.aB.Class.set p c⟩,m.aA⟩:=kO.heap hm a fun x hx=>by
    obtain⟨q,r⟩:=d x (kO.LA hm hx).1
    exact⟨b x q,r⟩
  have hno:∀x∈xs,¬0≤bB m.aB x:=fun x h q=>by
    obtain⟨i,hi,rfl⟩:=hxs x h
    have h4:=jL c
    exact(d _ q).1 (by omega)
  obtain⟨f,g⟩:=kO.W2 h1 (k:=c.toNat) (by omega) hx (fun x h=>by
    obtain⟨i,hi,rfl⟩:=hxs x h
    have:=e i hi
    exact⟨by simp only [this.1];omega,by simp only [this.2];omega⟩) (fun x h q=>hno x h (kO.LA hm q).1) hk'
  refine⟨f,fun s hs _=>?_⟩
  have hs':=oY.1 hs
  obtain⟨q,r⟩:=d s hs'.1
  have h2:jM ⟨⟨gB m.aB.Bytes p c (bX c).toNat,m.aB.Class.set p c⟩,m.aA⟩ s=3:=oY.2 ⟨by simp only [b s q];exact hs'.1,hs'.2.1,by simp only [r];exact hs'.2.2⟩
  exact⟨g s (fun h=>hno s h hs'.1) h2,r,b s q⟩
end
end Go.Gv
end
noncomputable section
set_option linter.unusedVariables false
set_option linter.unusedSimpArgs false
set_option linter.unusedSectionVars false
namespace Go.Gv
theorem aQY{p n:Nat}{x:Int}(h:x∈gS p n):∃i,i < n∧x=(p:Int) * 4+(i:Nat):=by
  simp only [gS,List.mem_map,List.mem_range] at h
  obtain⟨i,h1,h2⟩:=h
  exact⟨i,h1,h2.symm⟩
theorem aL3(p n:Nat):(gS p n).Nodup:=by
  unfold gS
  rw [List.Nodup,List.pairwise_map]
  exact List.Pairwise.imp (fun h e=>h (by omega)) (List.nodup_range (n:=n))
theorem PR{m:Mem}(hm:kO m){c:Int}(hc:0≤c∧c≤2) :
    ∃m' s,nQ m c=some (m',s)∧CB m c=some (m',s)∧lZ m'∧(0≤s→dE m'.aB∧0≤bB m'.aB s)∧sK m m' (-1):=by
  have hl:=hm.1.2
  have hcnt:=hl.count
  have hs:=hm.1.1.1
  have hsl:=hl.PE (by omega)
  have hp4:=jL c
  have hpp:0 < bX c:=iM.2 hc
  have hall:=fK m.aA
  have hsG:∀s∈m.aA.Global,s.aO.length≤24:=fun s h=>by have:=rB h;omega
  have hsO:∀s∈m.aA.aR,s.aO.length≤24:=fun s h=>by have:=rB h;omega
  have h3:=hl.1
  have h9:=hl.2.1
  have hcpl:=FZ (l:=m.aA) (by omega) (by omega) (fun s h=>by have:=hsG s h;omega) (fun s h=>by have:=hsO s h;omega)
  unfold nQ CB
  rcases aDJ hm.1.1 hc with ⟨e1,e2⟩ | ⟨p,hp,hun,e1,e2⟩
  · rw [e1,e2,hcpl]
    have h1:=hs.1;have h2:=hs.2.1
    exact⟨_,_,rfl,rfl,⟨by simp only;omega,by simp only;omega,by simp only;omega,by simp only;omega,by simp only;omega⟩,fun h=>absurd h (by omega),sK.refl hm _⟩
  · rw [e1,e2,hcpl]
    simp only [Option.bind_some,A6,A5,t9,DY]
    have hn:(((bX c).toNat:Int) == 0)=false:=by simpa using (by omega:¬((bX c).toNat:Int)=0)
    have hk:c.toNat < m.aA.Global.length:=by omega
    have hg0:=hsG _ (List.getElem_mem hk)
    have hx:idx m.aA.Global c=some m.aA.Global[c.toNat]:=fI hc.1 (by omega)
    have hz:idx (gS p (bX c).toNat) 0=some ((p:Int) * 4):=by
      have:=aW (l:=gS p (bX c).toNat) (k:=0) (by rw [DY];omega)
      rw [show((0:Nat):Int)=0 from rfl] at this
      rw [this];simp [gS]
    have hlen:(List.drop (1:Int).toNat (List.take (bX c).toNat (gS p (bX c).toNat))).length≤4:=by simp [DY];omega
    simp only [hn,Bool.false_eq_true,if_false,hx,Option.bind_some,hz]
    rw [aU (by omega),aU (by omega)]
    have hcl:bQ ⟨gB m.aB.Bytes p c (bX c).toNat,m.aB.Class.set p c⟩ p=c:=by
      have h6:=hs.2.1
      unfold bQ;simp [List.getD_eq_getElem?_getD,List.getElem?_set,h6,hp]
    refine⟨_,_,rfl,rfl,⟨by simp only [DX];have:=hs.1;omega,by simp only [List.length_set];have:=hs.2.1;omega,by simp only [List.length_set];omega,by simp only;omega,?_⟩,fun _=>⟨⟨by simp only [DX];exact hs.1,by simp only [List.length_set];exact hs.2.1,aBT hs.2.2.1 p hc _,fun x hx=>?_⟩,?_⟩,?_⟩
    · rw [fK];simp only [yX hk];omega
    · rcases List.mem_or_eq_of_mem_set hx with h | rfl
      · exact hs.2.2.2 x h
      · omega
    · unfold bB
      have e4:((p:Int) * 4 / 4).toNat=p:=by omega
      rw [e4]
      simp only [hcl]
      rw [if_pos ⟨by omega,by omega⟩];exact hc.1
    · exact kO.aHO hm hp hun hc (fun x hx=>aQY (List.mem_of_mem_take (List.mem_of_mem_drop hx))) ((aL3 p _).sublist ((List.drop_sublist _ _).trans (List.take_sublist _ _))) hk
theorem W3(n:Int):∃c,nP n=some c∧B9 n=some c∧(c = -1∨(0≤c∧c≤2)):=by
  have s1:∀k,0≤k∧k≤2→dU n k=some (if 1≤n∧n≤fJ k then .stop (Out.ret k) else .next (k+1)):=fun k hk=>by
    simp only [dU]
    rw [if_pos (by simp;omega),xQ,Option.bind_some,bJ,Option.bind_some,aP (by omega) (by omega)]
    by_cases q:1≤n∧n≤fJ k
    · rw [decide_eq_true q,if_pos rfl,if_pos q]
    · rw [decide_eq_false q,if_neg (by simp),if_neg q]
  have s2:∀k,0≤k∧k≤2→gL n k=some (if 1≤n∧n≤fJ k then .stop (Out.ret k) else .next (k+1)):=fun k hk=>by
    simp only [gL,uG]
    rw [if_pos (by simp;omega),KV,Option.bind_some,aP (by omega) (by omega)]
    by_cases q1:1≤n
    · by_cases q2:n≤fJ k <;> simp [q1,q2]
    · simp [q1]
  have st:∀k,0≤k∧k≤2→1≤n∧n≤fJ k→loop (dU n) k=some (Out.ret k)∧loop (gL n) k=some (Out.ret k):=fun k hk h=>
    ⟨bN (by rw [s1 k hk,if_pos h]),bN (by rw [s2 k hk,if_pos h])⟩
  have nx:∀k,0≤k∧k≤2→¬(1≤n∧n≤fJ k)→loop (dU n) k=loop (dU n) (k+1)∧loop (gL n) k=loop (gL n) (k+1):=fun k hk h=>
    ⟨bT (by rw [s1 k hk,if_neg h]),bT (by rw [s2 k hk,if_neg h])⟩
  unfold nP B9
  by_cases q0:1≤n∧n≤fJ 0
  · have:=st 0 (by omega) q0
    rw [this.1,this.2];exact⟨_,rfl,rfl,.inr (by omega)⟩
  · have h0:=nx 0 (by omega) q0
    rw [h0.1,h0.2,show(0:Int)+1=1 from rfl]
    by_cases q1:1≤n∧n≤fJ 1
    · have:=st 1 (by omega) q1
      rw [this.1,this.2];exact⟨_,rfl,rfl,.inr (by omega)⟩
    · have h1:=nx 1 (by omega) q1
      rw [h1.1,h1.2,show(1:Int)+1=2 from rfl]
      by_cases q2:1≤n∧n≤fJ 2
      · have:=st 2 (by omega) q2
        rw [this.1,this.2];exact⟨_,rfl,rfl,.inr (by omega)⟩
      · have h2:=nx 2 (by omega) q2
        rw [h2.1,h2.2,show(2:Int)+1=3 from rfl,bN (body:=dU n) (r:=Out.brk ()) (by simp [dU]),bN (body:=gL n) (r:=Out.brk ()) (by simp [gL])]
        exact⟨_,rfl,rfl,.inl rfl⟩
theorem aL4{s:aD}(hl:s.aO.length≤1048576):∃t x,iX s=some (t,x)∧qU s=some (x,t)∧t.aO.length≤s.aO.length∧(0≤x→x∈s.aO)∧t.aO.Sublist s.aO:=by
  unfold iX qU zC
  rw [aP (by omega) (by omega)]
  by_cases q:s.aO.length=0
  · rw [if_pos (by simpa using q),if_pos (by simp;omega)]
    exact⟨_,_,rfl,rfl,Nat.le_refl _,fun h=>absurd h (by omega),List.Sublist.refl _⟩
  · have hx:idx s.aO ((s.aO.length:Int) - 1)=some (s.aO[s.aO.length - 1]'(by omega)):=by
      rw [show((s.aO.length:Int) - 1)=((s.aO.length - 1:Nat):Int) by omega,aW (by omega)]
    rw [if_neg (by simpa using q),if_neg (by simp;omega),aU (by omega),hx]
    simp only [Option.bind_some]
    rw [aU (by omega)]
    exact⟨_,_,rfl,rfl,by simp,fun _=>List.getElem_mem _,(List.drop_sublist _ _).trans (List.take_sublist _ _)⟩
theorem xT{w c:Int}(hw:0≤w∧w≤2)(hc:0≤c∧c≤2):j8 w c=some (w * 3+c)∧C7 w c=some (w * 3+c):=by
  have e:aX (aX (w * 3)+c)=w * 3+c:=by rw [aP (x:=w * 3) (by omega) (by omega),aP (by omega) (by omega)]
  constructor
  · unfold j8 o4;rw [bJ,bJ,decide_eq_true hw,decide_eq_true hc,e];rfl
  · unfold C7 zI;rw [fU,gM,decide_eq_true hw,decide_eq_true hc,e];rfl
theorem W4{l:List aD}{k:Nat}(hk:k < l.length){t:aD}(ht:t.aO.length≤l[k].aO.length):(cC (l.set k t)).length≤(cC l).length:=by
  rw [yW hk,v5 hk];simp;omega
noncomputable section
variable {m:Mem} (hm:kO m)
include hm
theorem kO.facts:(dF m.aA).length≤24∧m.aA.Global.length=3∧m.aA.aR.length=9∧m.aB.Bytes.length=384∧m.aB.Class.length=6∧lZ m∧fG m.aA=some m.aA∧hU m.aA=some true ∧
    (∀s∈m.aA.Global,s.aO.length≤24)∧(∀s∈m.aA.aR,s.aO.length≤24):=by
  have hl:=hm.1.2
  have hcnt:=hl.count
  have hall:=fK m.aA
  have hsG:∀s∈m.aA.Global,s.aO.length≤24:=fun s h=>by have:=rB h;omega
  have hsO:∀s∈m.aA.aR,s.aO.length≤24:=fun s h=>by have:=rB h;omega
  have h3:=hl.1;have h9:=hl.2.1
  have h1:=hm.1.1.1.1;have h2:=hm.1.1.1.2.1
  refine⟨hcnt,h3,h9,h1,h2,⟨by omega,by omega,by omega,by omega,by omega⟩,FZ (by omega) (by omega) (fun s h=>by have:=hsG s h;omega) (fun s h=>by have:=hsO s h;omega),by rw [I8 (by omega),decide_eq_true hl],hsG,hsO⟩
theorem H4{w c:Int}(hw:0≤w∧w≤2)(hc:0≤c∧c≤2) :
    ∃l t x,idx m.aA.aR (w * 3+c)=some l∧iX l=some (t,x)∧CA m.aA w c=some (⟨m.aA.Global,m.aA.aR.set (w * 3+c).toNat t⟩,x) ∧
      lZ ⟨m.aB,⟨m.aA.Global,m.aA.aR.set (w * 3+c).toNat t⟩⟩∧(0≤x→0≤bB m.aB x)∧sK m ⟨m.aB,⟨m.aA.Global,m.aA.aR.set (w * 3+c).toNat t⟩⟩ (-1):=by
  obtain⟨hcnt,h3,h9,h1,h2,hsm,hcp,hlo,hsG,hsO⟩:=kO.facts hm
  have hk:(w * 3+c).toNat < m.aA.aR.length:=by omega
  have hx:idx m.aA.aR (w * 3+c)=some m.aA.aR[(w * 3+c).toNat]:=fI (by omega) (by omega)
  have h24:=hsO _ (List.getElem_mem hk)
  obtain⟨t,x,e1,e2,ht,hmem,hsub⟩:=aL4 (s:=m.aA.aR[(w * 3+c).toNat]) (by omega)
  have hall:=fK m.aA
  refine⟨_,t,x,hx,e1,?_,⟨by simp only;omega,by simp only;omega,by simp only;omega,by simp only [List.length_set];omega,?_⟩,fun h0=>?_,kO.aQX hm (by omega) (by rw [←cJ hk];exact hsub)⟩
  · unfold CA uH
    rw [hcp,(xT hw hc).2,hlo]
    simp only [Option.bind_some,Bool.not_true,Bool.false_eq_true,if_false]
    rw [decide_eq_false (by omega),if_neg (by simp),hx,Option.bind_some,e2];rfl
  · have:=W4 hk ht
    rw [fK];simp only;omega
  · have:=hm.2.2 (w * 3+c).toNat (by omega) x (by rw [←cJ hk];exact hmem h0)
    omega
theorem z7{c:Int}(hc:0≤c∧c≤2) :
    ∃l t x,idx m.aA.Global c=some l∧iX l=some (t,x)∧uI m.aA c=some (⟨m.aA.Global.set c.toNat t,m.aA.aR⟩,x) ∧
      lZ ⟨m.aB,⟨m.aA.Global.set c.toNat t,m.aA.aR⟩⟩∧(0≤x→0≤bB m.aB x)∧sK m ⟨m.aB,⟨m.aA.Global.set c.toNat t,m.aA.aR⟩⟩ (-1):=by
  obtain⟨hcnt,h3,h9,h1,h2,hsm,hcp,hlo,hsG,hsO⟩:=kO.facts hm
  have hk:c.toNat < m.aA.Global.length:=by omega
  have hx:idx m.aA.Global c=some m.aA.Global[c.toNat]:=fI (by omega) (by omega)
  have h24:=hsG _ (List.getElem_mem hk)
  obtain⟨t,x,e1,e2,ht,hmem,hsub⟩:=aL4 (s:=m.aA.Global[c.toNat]) (by omega)
  have hall:=fK m.aA
  refine⟨_,t,x,hx,e1,?_,⟨by simp only;omega,by simp only;omega,by simp only [List.length_set];omega,by simp only;omega,?_⟩,fun h0=>?_,kO.aIK hm (by omega) (by rw [←cJ hk];exact hsub)⟩
  · unfold uI nZ
    rw [hcp,hlo,gM,decide_eq_true hc]
    simp only [Option.bind_some,Bool.not_true,Bool.false_eq_true,if_false]
    rw [hx,Option.bind_some,e2];rfl
  · have:=W4 hk ht
    rw [fK];simp only;omega
  · have:=hm.2.1 c.toNat (by omega) x (by rw [←cJ hk];exact hmem h0)
    omega
theorem aHP{w h:Int}(hw:0≤w∧w≤2)(hv:nC m h):∃m',qK m w (h % 32)=some m'∧HE m w h=some m'∧lZ m'∧sK m m' (h % 32):=by
  obtain⟨hcnt,h3,h9,h1,h2,hsm,hcp,hlo,hsG,hsO⟩:=kO.facts hm
  have hs:=hm.1.1.1
  have hh:=hv.1
  have hhm:=hh.mod
  have hcl:=vX hv.2.1
  have hgo:=zZ hcl
  have hc2:0≤bB m.aB (h % 32)∧bB m.aB (h % 32)≤2:=by
    obtain⟨_,q,e⟩:=uP hcl
    rw [e];exact iM.1 (by omega)
  have hg6:1≤h / 32∧h / 32≤6:=by unfold pK at hh;omega
  have hbl:m.aB.Bytes.length≤maxLen:=by rw [h1];simp [maxLen]
  have hnot:h % 32∉dF m.aA:=fun q=>by
    have:=hv.2.1;unfold jM at this;rw [if_neg (by omega),if_pos q] at this;omega
  have hcpH:=H0 (h:=m.aB) (by omega) (by omega)
  have eo:eW (h % 32) (bB m.aB (h % 32))=(((eW (h % 32) (bB m.aB (h % 32))).toNat:Nat):Int):=by omega
  have ew:aX (h / 32+1)=h / 32+1:=aP (by omega) (by omega)
  have ed:aX (Int.tdiv h 32)=h / 32:=by rw [AT (by unfold pK at hh;omega),aP (by omega) (by omega)]
  have hall:=fK m.aA
  obtain⟨hr1,hr2⟩:=kO.aT1 hm hv.2.1 (g:=h / 32+1) (by omega)
  have hu:=oY.1 hv.2.1
  unfold qK HE J6 wS
  rw [hhm.1,gN hs,hcpH,DR hbl,decide_eq_true hs,lD hs,ed,ew,hcp]
  simp only [Option.bind_some,Bool.not_true,Bool.false_eq_true,if_false,C9,w6,C8]
  rw [lY hs hcl,hv.2.2,d6,decide_eq_false (show ¬bB m.aB (h % 32) < 0 by omega),decide_eq_true (show 1≤h / 32+1∧h / 32+1≤7 by omega)]
  simp only [Option.bind_some,Bool.not_true,Bool.false_eq_true,if_false,lX,tQ,ew]
  generalize hgn:(eW (h % 32) (bB m.aB (h % 32))).toNat=a at eo
  rw [hgn] at hr1 hr2
  rw [eo,BK (by omega) (by omega) (by omega),NL (by omega)]
  simp only [Option.bind_some]
  rw [K8 (by omega) (by omega) (by omega)]
  simp only [Option.bind_some,wI,FF,ed,ew,hhm.1]
  by_cases q:h / 32+1≤6
  · have hk:(w * 3+bB m.aB (h % 32)).toNat < m.aA.aR.length:=by omega
    have hx:idx m.aA.aR (w * 3+bB m.aB (h % 32))=some m.aA.aR[(w * 3+bB m.aB (h % 32)).toNat]:=fI (by omega) (by omega)
    have hk2:(bB m.aB (h % 32)).toNat < m.aA.Global.length:=by omega
    have hx2:idx m.aA.Global (bB m.aB (h % 32))=some m.aA.Global[(bB m.aB (h % 32)).toNat]:=fI (by omega) (by omega)
    have b1:=hsO _ (List.getElem_mem hk)
    have b2:=hsG _ (List.getElem_mem hk2)
    rw [decide_eq_true q,if_pos rfl,if_pos rfl]
    unfold vP QN rX
    rw [lD hs,Option.bind_some,hcp,(xT hw hc2).1,(xT hw hc2).2,hlo,rA,decide_eq_true (show 0≤h % 32∧h % 32≤23 by omega),K6 (by omega) (by simp only [maxLen];omega) (by simp only [maxLen];omega),decide_eq_false hnot]
    simp only [Option.bind_some,Bool.not_true,Bool.false_eq_true,if_false,hx,hx2]
    have nz:¬w * 3+bB m.aB (h % 32) < 0:=by omega
    simp only [decide_eq_false nz,Bool.false_eq_true,if_false]
    by_cases q2:m.aA.aR[(w * 3+bB m.aB (h % 32)).toNat].aO.length < 2
    · have y1:(m.aA.aR[(w * 3+bB m.aB (h % 32)).toNat].aO.length:Int) < 2:=by omega
      have y2:¬(2:Int)≤m.aA.aR[(w * 3+bB m.aB (h % 32)).toNat].aO.length:=by omega
      simp only [decide_eq_true y1,decide_eq_false y2,Bool.false_eq_true,if_false,if_true]
      rw [aU (by simp;omega),aU (by simp;omega)]
      refine⟨_,rfl,rfl,⟨by simp only [z6];omega,by simp only;omega,by simp only;omega,by simp only [List.length_set];omega,?_⟩,?_⟩
      · rw [fK];simp only [yX hk];simp;omega
      · have hmod:((w * 3+bB m.aB (h % 32)).toNat % 3:Nat)=(bB m.aB (h % 32)).toNat:=by omega
        obtain⟨z1,z2⟩:=kO.aOF hr1.1 (k:=(w * 3+bB m.aB (h % 32)).toNat) (by omega) (xs:=[h % 32]) (by simp only [←cJ hk,List.length_cons,List.length_nil];omega) (by simp) (fun x hx=>by
          simp at hx;subst hx
          exact⟨by rw [hmod];show bB m.aB (h % 32)=_;omega,by rw [hr2];omega⟩) (fun x hx=>by simp at hx;subst hx;exact hnot) hk
        refine⟨z1,fun s h1 h2=>?_⟩
        obtain⟨y1,y2,y3⟩:=hr1.2 s h1 h2
        exact⟨z2 s (by simpa using h2) y1,y2,y3⟩
    · have y1:¬(m.aA.aR[(w * 3+bB m.aB (h % 32)).toNat].aO.length:Int) < 2:=by omega
      have y2:(2:Int)≤m.aA.aR[(w * 3+bB m.aB (h % 32)).toNat].aO.length:=by omega
      simp only [decide_eq_true y2,decide_eq_false y1,Bool.false_eq_true,if_false,if_true]
      rw [aU (by simp;omega),aU (by simp;omega)]
      refine⟨_,rfl,rfl,⟨by simp only [z6];omega,by simp only;omega,by simp only [List.length_set];omega,by simp only;omega,?_⟩,?_⟩
      · rw [fK];simp only [yX hk2];simp;omega
      · obtain⟨z1,z2⟩:=kO.W2 hr1.1 (k:=(bB m.aB (h % 32)).toNat) (by omega) (xs:=[h % 32]) (by simp) (fun x hx=>by
          simp at hx;subst hx
          exact⟨by show bB m.aB (h % 32)=_;omega,by rw [hr2];omega⟩) (fun x hx=>by simp at hx;subst hx;exact hnot) hk2
        refine⟨z1,fun s h1 h2=>?_⟩
        obtain⟨y1,y2,y3⟩:=hr1.2 s h1 h2
        exact⟨z2 s (by simpa using h2) y1,y2,y3⟩
  · rw [decide_eq_false q,if_neg (by simp),if_neg (by simp)]
    refine⟨_,rfl,rfl,⟨by simp only [z6];omega,by simp only;omega,by simp only;omega,by simp only;omega,by rw [fK];simp only;omega⟩,hr1⟩
end
theorem alloc_eq{b:aI}(hm:kO b.Mem){w:Int}(hw:0≤w∧w≤2)(s:Sub) :
    ∃x y,o5 b w s=some (x,y)∧n8 s b w=some (y,x)∧∃m',x=⟨m',b.aC,b.aJ,b.cA⟩∧lZ m'∧sK b.Mem m' (-1):=by
  have hsm:=(kO.facts hm).2.2.2.2.2.1
  have hs:=hm.1.1.1
  obtain⟨c,ec,ei,hcc⟩:=W3 s.A
  unfold o5 n8
  rw [ec,ei]
  simp only [Option.bind_some]
  by_cases c0:c < 0
  · simp only [decide_eq_true c0,if_true,a9,aZ];exact⟨_,_,rfl,rfl,_,rfl,hsm,sK.refl hm _⟩
  have hc:0≤c∧c≤2:=by omega
  simp only [decide_eq_false c0,Bool.false_eq_true,if_false]
  have fin:∀(m':Mem) (x:Int),lZ m'→sK b.Mem m' (-1)→(0≤x→dE m'.aB∧0≤bB m'.aB x) →
      ∃X Y,eT s x ⟨m',b.aC,b.aJ,b.cA⟩=some (X,Y)∧fE s x ⟨m',b.aC,b.aJ,b.cA⟩=some (Y,X)∧∃m',X=⟨m',b.aC,b.aJ,b.cA⟩∧lZ m'∧sK b.Mem m' (-1):=by
    intro m' x hs' hst hx
    unfold eT fE
    simp only [mN,B3,a9,aZ]
    by_cases x0:0≤x
    · obtain⟨h,e1,e2⟩:=Z5 (m:=m') (hx x0).1 (hx x0).2
      rw [decide_eq_false (show ¬x < 0 by omega),decide_eq_true x0]
      simp only [Bool.false_eq_true,if_false,if_true,e1,e2,Option.bind_some]
      exact⟨_,_,rfl,rfl,m',rfl,hs',hst⟩
    · rw [decide_eq_true (show x < 0 by omega),decide_eq_false x0]
      by_cases p3:s.Pc=3
      · simp only [p3,beq_self_eq_true,if_true,Bool.false_eq_true,if_false,Option.bind_some];exact⟨_,_,rfl,rfl,m',rfl,hs',hst⟩
      · have p3':(s.Pc == 3)=false:=by simpa using p3
        simp only [p3',if_true,Bool.false_eq_true,if_false,Option.bind_some];exact⟨_,_,rfl,rfl,m',rfl,hs',hst⟩
  by_cases p0:s.Pc=0
  · obtain⟨l,t,x,e1,e2,e3,h1,h2,h3⟩:=H4 hm hw hc
    simp only [p0,beq_self_eq_true,if_true,(xT hw hc).1,Option.bind_some,e1,e2,e3]
    exact fin _ x h1 h3 (fun h=>⟨hs,h2 h⟩)
  · have p0':(s.Pc == 0)=false:=by simpa using p0
    simp only [p0',Bool.false_eq_true,if_false,mO,kN]
    obtain⟨l,t,x,e1,e2,e3,h1,h2,h3⟩:=z7 hm hc
    by_cases p1:s.Pc=1
    · simp only [p1,beq_self_eq_true,if_true,Option.bind_some,e1,e2,e3]
      exact fin _ x h1 h3 (fun h=>⟨hs,h2 h⟩)
    · have p1':(s.Pc == 1)=false:=by simpa using p1
      simp only [p1',Bool.false_eq_true,if_false]
      by_cases p3:s.Pc=3
      · simp only [p3,beq_self_eq_true,if_true,Option.bind_some,e1,e2,e3]
        exact fin _ x h1 h3 (fun h=>⟨hs,h2 h⟩)
      · have p3':(s.Pc == 3)=false:=by simpa using p3
        simp only [p3',Bool.false_eq_true,if_false]
        by_cases p2:s.Pc=2
        · obtain⟨m',x,e1,e2,h1,h2,h3⟩:=PR hm hc
          simp only [p2,beq_self_eq_true,if_true,Option.bind_some,e1,e2]
          exact fin m' x h1 h3 h2
        · have p2':(s.Pc == 2)=false:=by simpa using p2
          simp only [p2',Bool.false_eq_true,if_false,a9,aZ];exact⟨_,_,rfl,rfl,_,rfl,hsm,sK.refl hm _⟩
end Go.Gv
end
noncomputable section
set_option linter.unusedVariables false
set_option linter.unusedSimpArgs false
set_option linter.unusedSectionVars false
namespace Go.Gv
theorem aHQ(r:bM)(e:Int):∃v,yM r e=some v∧GN r e=some v:=by
  unfold yM GN wE CD
  by_cases h:2≤e
  · simp only [decide_eq_true h,if_true];exact⟨_,rfl,rfl⟩
  · simp only [decide_eq_false h,Bool.false_eq_true,if_false];exact⟨_,rfl,rfl⟩
theorem aOG{b:aI}{w:Int}{l:aK}(hx:idx b.aJ w=some l)(hl:l.Rows.length≤1000)(s:Sub) :
    (nR l.Rows s.Row s.E=some (-1)∧lP s b w=(aZ s 0).bind fun x=>some (x,b)) ∨
    ∃k,∃h:k < l.Rows.length,nR l.Rows s.Row s.E=some (k:Int)∧lP s b w=some (⟨s.Kind,s.A,2,s.E,(k:Int),0,l.Rows[k].Handle,s.Out,s.Code,s.cQ⟩,b):=by
  have key:∀d k,k+d=l.Rows.length →
      (loop (cZ l.Rows s.E) (k:Int)=some (Out.brk ())∧loop (dQ s b w) (k:Int)=some (Out.brk ())) ∨
      ∃j,∃h:j < l.Rows.length,loop (cZ l.Rows s.E) (k:Int)=some (Out.ret (j:Int))∧loop (dQ s b w) (k:Int)=some (Out.ret (⟨s.Kind,s.A,2,s.E,(j:Int),0,l.Rows[j].Handle,s.Out,s.Code,s.cQ⟩,b)):=by
    intro d
    induction d with
    | zero =>
      intro k hk
      left
      exact⟨bN (by simp only [cZ];rw [if_neg (by simp;omega)]),bN (by simp only [dQ,hx,Option.bind_some];rw [if_neg (by simp;omega)])⟩
    | succ d ih =>
      intro k hk
      have hk':k < l.Rows.length:=by omega
      obtain⟨v,e1,e2⟩:=aHQ l.Rows[k] s.E
      cases v with
      | true =>
        right
        refine⟨k,hk',bN ?_,bN ?_⟩
        · simp only [cZ]
          rw [if_pos (by simp;omega),aW hk',Option.bind_some,e1];rfl
        · simp only [dQ,hx,Option.bind_some]
          rw [if_pos (by simp;omega),aW hk',Option.bind_some,e2];rfl
      | false =>
        have n1:cZ l.Rows s.E (k:Int)=some (.next ((k+1:Nat):Int)):=by
          simp only [cZ]
          rw [if_pos (by simp;omega),aW hk',Option.bind_some,e1,Option.bind_some,aP (by omega) (by omega)];rfl
        have n2:dQ s b w (k:Int)=some (.next ((k+1:Nat):Int)):=by
          simp only [dQ,hx,Option.bind_some]
          rw [if_pos (by simp;omega),aW hk',Option.bind_some,e2,Option.bind_some,aP (by omega) (by omega)];rfl
        rw [bT n1,bT n2]
        exact ih (k+1) (by omega)
  unfold nR lP
  have hst:∃i:Nat,(if 0 < s.Row then s.Row else 0)=(i:Int)∧(if s.Row < 0 then 0 else s.Row)=(i:Int):=by
    refine⟨s.Row.toNat,?_,?_⟩ <;> split <;> omega
  obtain⟨i,i1,i2⟩:=hst
  rw [i1,i2]
  by_cases hi:i≤l.Rows.length
  · rcases key (l.Rows.length - i) i (by omega) with ⟨a,c⟩ | ⟨j,hj,a,c⟩
    · left;rw [a,c];exact⟨rfl,rfl⟩
    · right;rw [a,c];exact⟨j,hj,rfl,rfl⟩
  · left
    rw [bN (body:=cZ l.Rows s.E) (r:=Out.brk ()) (by simp only [cZ];rw [if_neg (by simp;omega)]),
      bN (body:=dQ s b w) (r:=Out.brk ()) (by simp only [dQ,hx,Option.bind_some];rw [if_neg (by simp;omega)])]
    exact⟨rfl,rfl⟩
theorem del_eq{α:Type}{l:List α}{k:Nat}(h:k < l.length):((cX l k (l.drop (k+1))).take (k+(l.length - (k+1)))).drop 0=l.eraseIdx k:=by
  have h1:(l.take k).length=k:=by rw [List.length_take];omega
  have h2:(l.drop (k+1)).length=l.length - (k+1):=by simp
  unfold cX
  rw [List.drop_zero,List.eraseIdx_eq_take_drop_succ,List.take_of_length_le (l:=l.drop (k+1)) (by rw [h2];omega),←List.append_assoc]
  rw [show k+(l.length - (k+1))=(l.take k++l.drop (k+1)).length by rw [List.length_append,h1,h2]]
  exact List.take_left
theorem aFI{α:Type}{l:List α}{k:Nat}(h:k < l.length):l.Perm (l[k] :: l.eraseIdx k):=by
  have e:l=l.take k++l[k] :: l.drop (k+1):=by rw [←List.drop_eq_getElem_cons h,List.take_append_drop]
  rw [List.eraseIdx_eq_take_drop_succ]
  refine(List.Perm.of_eq e).trans ?_
  exact List.perm_middle
theorem l6.drop{b:List aK}(hL:l6 b){w:Nat}(hw:w < b.length):∀k (hk:k < b[w].Rows.length),l6 (b.set w ⟨b[w].Rows.eraseIdx k⟩)∧∀r∈bH (b.set w ⟨b[w].Rows.eraseIdx k⟩),r∈bH b∧r.Handle % 32≠b[w].Rows[k].Handle % 32:=by
  intro k hk
  have hsub:(bH (b.set w ⟨b[w].Rows.eraseIdx k⟩)).Sublist (bH b):=by
    rw [yV hw,vZ hw]
    exact(List.Sublist.refl _).append ((List.eraseIdx_sublist _ _).append (List.Sublist.refl _))
  have hnd:=hL.2.2.2
  refine⟨⟨by simpa using hL.1,Nat.le_trans hsub.length_le hL.2.1,fun r hr=>hL.2.2.1 r (hsub.subset hr),(hsub.map kL).nodup hnd⟩,fun r hr=>⟨hsub.subset hr,?_⟩⟩
  have hp:(bH b).Perm (b[w].Rows[k] :: bH (b.set w ⟨b[w].Rows.eraseIdx k⟩)):=by
    rw [yV hw,vZ hw]
    refine List.Perm.trans (List.Perm.append_left _ (List.Perm.append_right _ (aFI hk))) ?_
    exact List.perm_middle
  have:=(hp.map kL).nodup_iff.1 hnd
  rw [List.map_cons,List.nodup_cons] at this
  exact fun e=>this.1 (List.mem_map.2 ⟨r,hr,e⟩)
theorem aFJ{b:aI}(hb:eQ b){w:Int}(hw:0≤w∧w≤2)(s:Sub) :
    ∃x y,k9 b w s=some (x,y)∧lQ s b w=some (y,x)∧∃m' L,x=⟨m',b.aC,L,b.cA⟩∧lZ m'∧kO m'∧l6 L∧∀r∈bH L,nC m' r.Handle∧r.aE≤b.aC.aE:=by
  have hm:=hb.1.1
  have hL:=hb.1.2.2.1
  have hZ:=hb.1.2.2.2
  have hsm:=(kO.facts hm).2.2.2.2.2.1
  have hlen:w.toNat < b.aJ.length:=by have:=hL.1;omega
  have hx:idx b.aJ w=some b.aJ[w.toNat]:=fI hw.1 (by omega)
  have hrow:=hL.small.2.2.2 _ (List.getElem_mem hlen)
  have hmemL:b.aJ[w.toNat]∈b.aJ:=List.getElem_mem hlen
  have hset:=l6.drop hL hlen
  generalize b.aJ[w.toNat]=l at hx hrow hset hmemL
  have done:∀y:Sub,∃x z,(some (b,y):Option (aI×Sub))=some (x,z)∧(some (y,b):Option (Sub×aI))=some (z,x)∧∃m' L,x=⟨m',b.aC,L,b.cA⟩∧lZ m'∧kO m'∧l6 L∧∀r∈bH L,nC m' r.Handle∧r.aE≤b.aC.aE:=
    fun y=>⟨_,_,rfl,rfl,b.Mem,b.aJ,rfl,hsm,hm,hL,hb.2⟩
  have hw1:aX ((l.Rows.length:Int) - 1)=(l.Rows.length:Int) - 1:=aP (by omega) (by omega)
  have hhas:AL b.aJ w s.Row=some (decide (0≤s.Row∧s.Row≤(l.Rows.length:Int) - 1)):=by
    unfold AL w5
    rw [fU,decide_eq_true hw,Option.bind_some,if_pos rfl,hx,Option.bind_some,d6,hw1];rfl
  unfold k9 lQ
  rw [hhas,hx]
  simp only [Option.bind_some,a9,bJ,hw1]
  have hat:∃a:Bool,(if decide (0≤s.Row∧s.Row≤(l.Rows.length:Int) - 1)=true then (idx l.Rows s.Row).bind fun x15=>dY s b w (x15.Handle == s.H) else dY s b w false)=dY s b w a ∧
      (if (!decide (0≤s.Row∧s.Row≤(l.Rows.length:Int) - 1))=true then c9 b s true else (idx l.Rows s.Row).bind fun x11=>c9 b s (x11.Handle != s.H))=c9 b s (!a) ∧
      (a=true→∃r,r∈l.Rows∧idx l.Rows s.Row=some r∧r.Handle=s.H∧0≤s.Row∧s.Row < l.Rows.length) ∧
      (a=false→∀f:bM→Option (aI×Sub),(if (!decide (0≤s.Row∧s.Row≤(l.Rows.length:Int) - 1))=true then dA b w s l true else (idx l.Rows s.Row).bind fun x=>if (x.Handle != s.H)=true then dA b w s l true else f x)=dA b w s l true):=by
    by_cases q:0≤s.Row∧s.Row≤(l.Rows.length:Int) - 1
    · have hr:idx l.Rows s.Row=some (l.Rows[s.Row.toNat]'(by omega)):=fI q.1 (by omega)
      by_cases q2:(l.Rows[s.Row.toNat]'(by omega)).Handle=s.H
      · refine⟨true,?_,?_,fun _=>⟨_,List.getElem_mem _,hr,q2,q.1,by omega⟩,fun h=>by cases h⟩
        · rw [decide_eq_true q,if_pos rfl,hr,Option.bind_some,q2,beq_self_eq_true]
        · rw [decide_eq_true q,if_neg (by simp),hr,Option.bind_some,q2,bne_self_eq_false];rfl
      · have n1:((l.Rows[s.Row.toNat]'(by omega)).Handle == s.H)=false:=by simpa using q2
        have n2:((l.Rows[s.Row.toNat]'(by omega)).Handle != s.H)=true:=by simpa using q2
        refine⟨false,?_,?_,(fun h=>by cases h),fun _ f=>?_⟩
        · rw [decide_eq_true q,if_pos rfl,hr,Option.bind_some,n1]
        · rw [decide_eq_true q,if_neg (by simp),hr,Option.bind_some,n2];rfl
        · rw [decide_eq_true q,if_neg (by simp),hr,Option.bind_some,n2,if_pos rfl]
    · refine⟨false,?_,?_,(fun h=>by cases h),fun _ f=>?_⟩
      · rw [decide_eq_false q,if_neg (by simp)]
      · rw [decide_eq_false q,if_pos (by simp)];rfl
      · rw [decide_eq_false q,if_pos (by simp)]
  obtain⟨a,ha1,ha2,ha3,ha4⟩:=hat
  rw [ha1,ha2]
  unfold dY
  by_cases p0:s.Pc=0
  · simp only [p0,beq_self_eq_true,if_true];exact done _
  have p0':(s.Pc == 0)=false:=by simpa using p0
  simp only [p0',Bool.false_eq_true,if_false]
  by_cases p1:s.Pc=1
  · simp only [p1,beq_self_eq_true,if_true]
    rcases aOG hx (by omega) s with ⟨e1,e2⟩ | ⟨k,hk,e1,e2⟩
    · rw [e1,e2,Option.bind_some,if_pos (by simp)];simp only [aZ,p1,Option.bind_some];exact done _
    · rw [e1,e2,Option.bind_some,if_neg (by simp),aW hk];simp only [Option.bind_some];exact done _
  have p1':(s.Pc == 1)=false:=by simpa using p1
  simp only [p1',Bool.false_eq_true,if_false]
  by_cases p2:s.Pc=2
  · simp only [p2,beq_self_eq_true,if_true,fU,Option.bind_some]
    by_cases hB:0≤s.B∧s.B≤2
    · rw [decide_eq_true hB]
      simp only [Bool.not_true,Bool.false_eq_true,if_false,if_true]
      cases a with
      | true =>
        have hz:idx b.cA s.B=some (b.cA[s.B.toNat]'(by have:=hZ.1;omega)):=fI hB.1 (by have:=hZ.1;omega)
        simp only [c9,dC,Bool.not_true,Bool.false_eq_true,if_false,if_true,hz,Option.bind_some,kC]
        by_cases q:(b.cA[s.B.toNat]'(by have:=hZ.1;omega))=s.H
        · simp only [q,beq_self_eq_true,if_true];exact done _
        · have q':((b.cA[s.B.toNat]'(by have:=hZ.1;omega)) == s.H)=false:=by simpa using q
          simp only [q',Bool.false_eq_true,if_false]
          by_cases q3:aX (s.B+1)=3
          · simp only [q3,beq_self_eq_true,if_true];exact done _
          · have q3':(aX (s.B+1) == 3)=false:=by simpa using q3
            simp only [q3',Bool.false_eq_true,if_false];exact done _
      | false =>
        simp only [c9,dC,cK,a9,aZ,Bool.not_false,if_true,Bool.false_eq_true,if_false,p2,show((2:Int) == 3)=false from rfl,Option.bind_some]
        exact done _
    · rw [decide_eq_false hB]
      simp only [c9,dC,cK,a9,aZ,Bool.not_false,if_true,Bool.false_eq_true,if_false,p2,show((2:Int) == 3)=false from rfl,Option.bind_some]
      exact done _
  have p2':(s.Pc == 2)=false:=by simpa using p2
  simp only [p2',Bool.false_eq_true,if_false,dC]
  by_cases p3:s.Pc=3
  · simp only [p3,beq_self_eq_true,if_true]
    cases a with
    | false =>
      rw [ha4 rfl]
      simp only [dA,cK,a9,aZ,if_true,Bool.false_eq_true,if_false,Option.bind_some]
      exact done _
    | true =>
      obtain⟨r,hrm,hr,hrH,r0,r1⟩:=ha3 rfl
      obtain⟨v,e1,e2⟩:=aHQ r s.E
      rw [decide_eq_true (show 0≤s.Row∧s.Row≤(l.Rows.length:Int) - 1 by omega)]
      simp only [Bool.not_true,Bool.false_eq_true,if_false,if_true,hr,Option.bind_some,hrH,bne_self_eq_false,hx,e1,e2]
      cases v with
      | false =>
        simp only [dA,cK,a9,aZ,Bool.not_false,if_true,Bool.false_eq_true,if_false,Option.bind_some]
        exact done _
      | true =>
        have hlive:nC b.Mem s.H:=by
          have:r∈bH b.aJ:=List.mem_flatMap.2 ⟨l,hmemL,hrm⟩
          have:=(hb.2 r this).1
          rwa [hrH] at this
        obtain⟨m',f1,f2,f3,f4⟩:=aHP hm hw hlive
        have ew:aX (s.Row+1)=s.Row+1:=aP (by omega) (by omega)
        have hdrop:CE b.aJ w s.Row=some (b.aJ.set w.toNat ⟨((cX l.Rows s.Row.toNat (l.Rows.drop (s.Row+1).toNat)).take (s.Row.toNat+(l.Rows.length - (s.Row+1).toNat))).drop 0⟩,true):=by
          unfold CE uJ
          rw [F5 hL.small.2.2.1 (fun s h=>by have:=hL.small.2.2.2 s h;omega),uQ hL.small.1,decide_eq_true hL,hhas,decide_eq_true (show 0≤s.Row∧s.Row≤(l.Rows.length:Int) - 1 by omega)]
          simp only [Option.bind_some,Bool.not_true,Bool.false_eq_true,if_false,hx,ew]
          unfold vF
          rw [aU (by omega),if_neg (by simp;omega),aU (by omega),aU (by omega),aU (by omega),aU]
          · rfl
          · rw [fC (by omega)]
            simp only [List.drop_zero,List.length_take,fC (show s.Row.toNat≤l.Rows.length by omega)]
            omega
        simp only [dA,cK,nS,ew,Bool.not_true,Bool.false_eq_true,if_false,if_true]
        rw [aU (by omega),aU (by omega),aU (by omega),dB,if_pos hlive.1,Option.bind_some,f1,f2,hdrop]
        have hk:s.Row.toNat < l.Rows.length:=by omega
        have eL:((cX l.Rows s.Row.toNat (l.Rows.drop (s.Row+1).toNat)).take (s.Row.toNat+(l.Rows.length - (s.Row+1).toNat))).drop 0=l.Rows.eraseIdx s.Row.toNat:=by
          rw [show(s.Row+1).toNat=s.Row.toNat+1 by omega];exact del_eq hk
        have er:l.Rows[s.Row.toNat]=r:=by
          have:=aW hk
          rw [show((s.Row.toNat:Nat):Int)=s.Row by omega,hr] at this
          exact(Option.some.inj this).symm
        rw [eL] at hdrop ⊢
        obtain⟨g1,g2⟩:=hset s.Row.toNat hk
        refine⟨_,_,rfl,rfl,m',_,rfl,f3,f4.1,g1,fun q hq=>?_⟩
        obtain⟨g3,g4⟩:=g2 q hq
        obtain⟨g5,g6⟩:=hb.2 q g3
        refine⟨f4.live g5 fun e=>?_,g6⟩
        rw [er,hrH] at g4
        exact g4 e
  · have p3':(s.Pc == 3)=false:=by simpa using p3
    simp only [p3',Bool.false_eq_true,if_false,cK,aZ,Option.bind_some]
    exact done _
end Go.Gv
end
noncomputable section
set_option linter.unusedVariables false
set_option linter.unusedSimpArgs false
set_option linter.unusedSectionVars false
namespace Go.Gv
theorem kS.fits{b:aI}(h:kS b):b.Mem.aB.Bytes.length≤maxLen∧(dF b.Mem.aA).length≤1073741824∧b.aC.aN.length≤maxLen∧b.aJ.length≤maxLen∧(bH b.aJ).length≤1073741824∧b.cA.length≤maxLen:=by
  have hb:(1048576:Nat)≤maxLen:=by simp [maxLen]
  have g1:=h.1.1;have g2:=h.1.2.2.2.2;have g3:=h.2.1;have g4:=h.2.2.1;have g5:=h.2.2.2.1;have g6:=h.2.2.2.2
  exact⟨by omega,by omega,by omega,by omega,by omega,by omega⟩
theorem step_eq{b:aI}(hb:eQ b)(hs:kS b){w:Int}(hw:0≤w∧w≤2)(s:Sub) :
    ∃x y,vA b w s=some (x,y)∧jP s b w=some (y,x)∧eQ x:=by
  have hz:=hb.1.2.2.2.1
  have hl:=hb.1.2.2.1
  unfold vA jP
  cases hd:s.cQ with
  | true=>exact⟨_,_,rfl,rfl,hb⟩
  | false =>
    simp only [Bool.false_eq_true,if_false]
    by_cases k1:s.Kind=1
    · obtain⟨x,y,e1,e2,m,rfl,h1,h2⟩:=alloc_eq hb.1.1 hw s
      simp only [k1,beq_self_eq_true,if_true,e1,e2,Option.bind_some]
      exact⟨_,_,rfl,rfl,⟨h2.1,hb.1.2⟩,fun r hr=>⟨h2.live (hb.2 r hr).1 (by have:=(hb.2 r hr).1.1;unfold pK at this;omega),(hb.2 r hr).2⟩⟩
    have k1':(s.Kind == 1)=false:=by simpa using k1
    simp only [k1',Bool.false_eq_true,if_false]
    by_cases k2:s.Kind=2
    · obtain⟨x,y,e1,e2,L,rfl,h1,h2⟩:=aIH hb hs hw s
      simp only [k2,beq_self_eq_true,if_true,e1,e2,Option.bind_some]
      exact⟨_,_,rfl,rfl,⟨hb.1.1,hb.1.2.1,h1,hb.1.2.2.2⟩,h2⟩
    have k2':(s.Kind == 2)=false:=by simpa using k2
    simp only [k2',Bool.false_eq_true,if_false]
    by_cases k3:s.Kind=3
    · obtain⟨x,y,e1,e2,c,rfl,h1,h2⟩:=aFE hb.1.2.1 s
      simp only [k3,beq_self_eq_true,if_true,e1,e2,Option.bind_some]
      exact⟨_,_,rfl,rfl,⟨hb.1.1,h1,hb.1.2.2⟩,fun r hr=>⟨(hb.2 r hr).1,Int.le_trans (hb.2 r hr).2 h2⟩⟩
    have k3':(s.Kind == 3)=false:=by simpa using k3
    simp only [k3',Bool.false_eq_true,if_false]
    by_cases k4:s.Kind=4
    · obtain⟨x,y,e1,e2,m,L,rfl,h1,h2,h3,h4⟩:=aFJ hb hw s
      simp only [k4,beq_self_eq_true,if_true,e1,e2,Option.bind_some]
      exact⟨_,_,rfl,rfl,⟨h2,hb.1.2.1,h3,hb.1.2.2.2⟩,h4⟩
    have k4':(s.Kind == 4)=false:=by simpa using k4
    simp only [k4',Bool.false_eq_true,if_false]
    by_cases k5:s.Kind=5
    · obtain⟨x,y,e1,e2,c,rfl,h1,h2⟩:=aQV hb.1.2.1 hw s
      simp only [k5,beq_self_eq_true,if_true,e1,e2,Option.bind_some]
      exact⟨_,_,rfl,rfl,⟨hb.1.1,h1,hb.1.2.2⟩,fun r hr=>⟨(hb.2 r hr).1,Int.le_trans (hb.2 r hr).2 h2⟩⟩
    have k5':(s.Kind == 5)=false:=by simpa using k5
    simp only [k5',Bool.false_eq_true,if_false,a9,aZ,Option.bind_some]
    exact⟨_,_,rfl,rfl,hb⟩
theorem eQ.small{b:aI}(hb:eQ b):kS b:=by
  have h1:=hb.1.2.1.2.1;have h2:=hb.1.2.2.1.1;have h3:=hb.1.2.2.1.2.1;have h4:=hb.1.2.2.2.1
  exact⟨(kO.facts hb.1.1).2.2.2.2.2.1,by omega,by omega,by omega,by omega⟩
end Go.Gv
end
noncomputable section
set_option linter.unusedVariables false
set_option linter.unusedSimpArgs false
set_option linter.unusedSectionVars false
namespace Go.Gv
theorem UC{b:List Int}{a:Nat}{n:Int}(h:a+4≤b.length){j:Nat}(hj:j < a∨a+4≤j):bt (F6 b a n) j=bt b j:=by
  unfold F6
  rw [DZ (by simp;omega),DZ (by simp;omega),DZ (by simp;omega),DZ (by omega),if_neg (by omega),if_neg (by omega),if_neg (by omega),if_neg (by omega)]
theorem N9.put{h:aB}(hh:N9 h){s:Int}(hc:0≤bB h s){n:Int}(hn:0≤n∧n≤4294967295) :
    N9 ⟨F6 h.Bytes ((eW s (bB h s)).toNat+4) n,h.Class⟩∧∀t,0≤bB h t→jZ ⟨F6 h.Bytes ((eW s (bB h s)).toNat+4) n,h.Class⟩ t=jZ h t:=by
  obtain⟨hs,hp⟩:=hh
  have h384:=hs.1
  have hs':dE ⟨F6 h.Bytes ((eW s (bB h s)).toNat+4) n,h.Class⟩:=⟨by rw [PM];exact hs.1,hs.2.1,aII hs.2.2.1 _ hn,hs.2.2.2⟩
  obtain⟨p,i,p6,hi,es,ec,eo,ep⟩:=AU hc
  have hcl:0≤bQ h p∧bQ h p≤2:=iM.1 (by omega)
  have hroom:8+i * (aT (bQ h p)).toNat+8≤64∧∀j,j < (bX (bQ h p)).toNat→j * (aT (bQ h p)).toNat+4≤i * (aT (bQ h p)).toNat+4∨i * (aT (bQ h p)).toNat+12≤j * (aT (bQ h p)).toNat:=by
    generalize bQ h p=c at hi hcl
    rcases eV hcl with rfl | rfl | rfl
    · rw [show(bX 0).toNat=4 from rfl] at *;rw [show(aT 0).toNat=12 from rfl]
      exact⟨by omega,fun j hj=>by omega⟩
    · rw [show(bX 1).toNat=2 from rfl] at *;rw [show(aT 1).toNat=20 from rfl]
      exact⟨by omega,fun j hj=>by omega⟩
    · rw [show(bX 2).toNat=1 from rfl] at *;rw [show(aT 2).toNat=44 from rfl]
      exact⟨by omega,fun j hj=>by omega⟩
  have hgen:∀q j,q < 6→j < (bX (bQ h q)).toNat→ld (F6 h.Bytes ((eW s (bB h s)).toNat+4) n) (q * 64+8+j * (aT (bQ h q)).toNat) 4=ld h.Bytes (q * 64+8+j * (aT (bQ h q)).toNat) 4:=fun q j hq hj=>by
    have hz:=sE hs hq rfl hj
    refine L9 (by omega) (by simp only [PM]) fun k k1 k2=>?_
    by_cases e:q=p
    · subst e
      have:=hroom.2 j hj
      exact UC (by omega) (by omega)
    · exact UC (by omega) (by omega)
  refine⟨⟨hs',fun q hq=>?_⟩,fun t ht=>?_⟩
  · rw [G0 hs' hq]
    have hold:=(G0 hs hq).1 (hp q hq)
    by_cases e:q=p
    · subst e
      have hcl':¬bQ h q < 0:=by omega
      unfold TE at hold ⊢
      have hcc:bQ ⟨F6 h.Bytes ((eW s (bB h s)).toNat+4) n,h.Class⟩ q=bQ h q:=rfl
      rw [hcc]
      rw [if_neg hcl'] at hold ⊢
      obtain⟨⟨a1,a2,a3⟩,a4,a5⟩:=hold
      have bs:∀k,k < 8→bt (F6 h.Bytes ((eW s (bB h s)).toNat+4) n) (q * 64+k)=bt h.Bytes (q * 64+k):=fun k hk=>UC (by omega) (by omega)
      have b0:=bs 0 (by omega);have b1:=bs 1 (by omega);have b2:=bs 2 (by omega)
      simp only [Nat.add_zero] at b0
      refine⟨⟨by rw [b0];exact a1,by rw [b1];exact a2,by rw [b2];exact a3⟩,fun k k3 k8=>by rw [bs k k8];exact a4 k k3 k8,fun j hj=>?_⟩
      rw [hgen q j hq hj];exact a5 j hj
    · refine TE.same hq hs (by simp only [PM]) rfl (fun k hk=>UC (by omega) (by omega)) hold
  · obtain⟨p',i',p6',hi',es',ec',eo',ep'⟩:=AU ht
    have e2:bB ⟨F6 h.Bytes ((eW s (bB h s)).toNat+4) n,h.Class⟩ t=bB h t:=rfl
    unfold jZ
    rw [e2,eo']
    exact hgen p' i' p6' hi'
theorem kO.put{m:Mem}(hm:kO m){s:Int}(hc:0≤bB m.aB s){n:Int}(hn:0≤n∧n≤4294967295):sK m ⟨⟨F6 m.aB.Bytes ((eW s (bB m.aB s)).toNat+4) n,m.aB.Class⟩,m.aA⟩ (-1):=by
  obtain⟨a,b⟩:=N9.put hm.1.1 hc hn
  refine⟨kO.heap hm a fun x hx=>⟨rfl,b x (kO.LA hm hx).1⟩,fun t ht _=>?_⟩
  have ht':=oY.1 ht
  have e:=b t ht'.1
  exact⟨oY.2 ⟨ht'.1,ht'.2.1,by simp only [e];exact ht'.2.2⟩,e,rfl⟩
theorem start_eq{h:aB}(hs:dE h){s:Int}(hc:0≤bB h s):B5 s (bB h s)=some (eW s (bB h s)+4)∧HH s (bB h s)=some (eW s (bB h s)+4):=by
  have hg:=zZ hc
  unfold B5 HH
  rw [lX,tQ,Option.bind_some,if_neg (by simp;omega),aP (by omega) (by omega)]
  exact⟨rfl,rfl⟩
theorem aFK{h:aB}(hs:dE h){s:Int}(hc:0≤bB h s):CF h s 0 4=some (eW s (bB h s)+4):=by
  have hg:=zZ hc
  have hc2:0≤bB h s∧bB h s≤2:=by
    obtain⟨_,q,e⟩:=uP hc
    rw [e];exact iM.1 (by omega)
  have hz:8≤fJ (bB h s)∧fJ (bB h s)≤40:=by rcases eV hc2 with e | e | e <;> rw [e] <;> decide
  unfold CF OX
  rw [lD hs,Option.bind_some,(start_eq hs hc).2,Option.bind_some,if_neg (by simp;omega),KV]
  simp only [Option.bind_some,d6]
  rw [aP (x:=eW s (bB h s)+4+fJ (bB h s)) (by omega) (by omega),aP (x:=eW s (bB h s)+4+fJ (bB h s) - (eW s (bB h s)+4)) (by omega) (by omega),aP (x:=eW s (bB h s)+4+fJ (bB h s) - (eW s (bB h s)+4) - 4) (by omega) (by omega),decide_eq_true (by omega),aP (by omega) (by omega)]
  simp
theorem aDK{n:Int}(hn:0≤n∧n≤65535):∃t:List UInt8,vB n 4=some t∧(t == [])=false:=by
  have st:∀(m:Int) (c:List UInt8) (i:Nat),c.length≤4→i < 4→0≤m→m≤4294967295→tA 4 (m,c,(i:Int))=some (.next (m / 256,[u8 (m % 256)]++c,((i+1:Nat):Int))):=fun m c i hc hi h0 h1=>by
    simp only [tA]
    rw [if_pos (by simp;omega),aU (by simp;omega),oX h0,AT h0,aP (x:=m / 256) (by omega) (by omega),aP (by omega) (by omega)];rfl
  unfold vB
  rw [bJ]
  simp only [Option.bind_some,show(decide ((1:Int)≤4∧(4:Int)≤7))=true from rfl,Bool.not_true,Bool.false_eq_true,if_false,tB,decide_eq_false (show ¬n < 0 by omega)]
  rw [show(0:Int)=((0:Nat):Int) from rfl,bT (st n [] 0 (by simp) (by omega) hn.1 (by omega)),bT (st _ _ 1 (by simp) (by omega) (by omega) (by omega)),bT (st _ _ 2 (by simp) (by omega) (by omega) (by omega)),bT (st _ _ 3 (by simp) (by omega) (by omega) (by omega)),bN (by simp only [tA];rw [if_neg (by simp)])]
  simp only [Option.bind_some,FA,E9]
  rw [if_neg (by simp;omega)]
  exact⟨_,rfl,rfl⟩
theorem aFL{m:Mem}(hm:kO m){h n:Int}(hn:0≤n∧n≤65535):∃x c,nT m h 0 4 n=some (x,c)∧OY m h 0 4 n=some (x,c)∧sK m x (-1)∧(c≠0→x=m):=by
  obtain⟨hcnt,h3,h9,h1,h2,hsm,hcp,hlo,hsG,hsO⟩:=kO.facts hm
  have hs:=hm.1.1.1
  have hbl:m.aB.Bytes.length≤maxLen:=by rw [h1];simp [maxLen]
  have hall:(dF m.aA).length≤1073741824:=by omega
  have hg:m.aA.Global.length≤maxLen:=by rw [h3];simp [maxLen]
  have ho:m.aA.aR.length≤maxLen:=by rw [h9];simp [maxLen]
  have hw4:n7 4=some true:=by unfold n7;rw [d6];rfl
  unfold nT OY EL RL
  rw [vY hsm,RS hsm,FW hbl hall,NG hbl hall,decide_eq_true hm,bJ,hw4,WX ⟨hn.1,by omega⟩]
  simp only [Option.bind_some,Bool.not_true,Bool.false_eq_true,if_false,qM,DA,show(decide ((1:Int)≤4∧(4:Int)≤7))=true from rfl,lF hs hall hg ho,DW hs hall hg ho]
  by_cases hv:nC m h
  · have hh:=hv.1
    have hcl:=vX hv.2.1
    have hgo:=zZ hcl
    have hc2:0≤bB m.aB (h % 32)∧bB m.aB (h % 32)≤2:=by
      obtain⟨_,q,e⟩:=uP hcl
      rw [e];exact iM.1 (by omega)
    have hz:8≤fJ (bB m.aB (h % 32))∧fJ (bB m.aB (h % 32))≤40:=by rcases eV hc2 with e | e | e <;> rw [e] <;> decide
    obtain⟨p,i,p6,hi,es,ec,eo,ep⟩:=AU hcl
    have hroom:(eW (h % 32) (bB m.aB (h % 32))).toNat+8≤384:=by
      rw [eo]
      have hcl':0≤bQ m.aB p∧bQ m.aB p≤2:=by rw [←ec];exact hc2
      generalize bQ m.aB p=c at hi hcl'
      rcases eV hcl' with rfl | rfl | rfl
      · rw [show(bX 0).toNat=4 from rfl] at hi;rw [show(aT 0).toNat=12 from rfl];omega
      · rw [show(bX 1).toNat=2 from rfl] at hi;rw [show(aT 1).toNat=20 from rfl];omega
      · rw [show(bX 2).toNat=1 from rfl] at hi;rw [show(aT 2).toNat=44 from rfl];omega
    simp only [decide_eq_true hv,Bool.not_true,Bool.false_eq_true,if_false,dB,if_pos hh,Option.bind_some,gN hs,xQ,bJ,hh.mod.1,aFK hs hcl]
    rw [aP (x:=fJ (bB m.aB (h % 32)) - 1) (by omega) (by omega),decide_eq_true (show(0:Int)≤0∧(0:Int)≤fJ (bB m.aB (h % 32)) - 1 by omega),aP (x:=fJ (bB m.aB (h % 32)) - 0) (by omega) (by omega),decide_eq_false (show ¬fJ (bB m.aB (h % 32)) - 0 < 4 by omega)]
    simp only [Bool.not_true,Bool.false_eq_true,if_false,qL,(start_eq hs hcl).1,Option.bind_some]
    rw [aP (x:=eW (h % 32) (bB m.aB (h % 32))+4+0) (by omega) (by omega),Int.add_zero,decide_eq_false (show ¬eW (h % 32) (bB m.aB (h % 32))+4 < 0 by omega)]
    have eo':eW (h % 32) (bB m.aB (h % 32))+4=(((eW (h % 32) (bB m.aB (h % 32))).toNat+4:Nat):Int):=by omega
    have hput:=kO.put hm hcl (n:=n) ⟨hn.1,by omega⟩
    have hspf:∃t:List UInt8,vB n 4=some t∧(t == [])=false:=aDK hn
    obtain⟨t,ht1,ht2⟩:=hspf
    have hld:nV m.aB.Bytes (((eW (h % 32) (bB m.aB (h % 32))).toNat+4:Nat):Int) 4=some (ld m.aB.Bytes ((eW (h % 32) (bB m.aB (h % 32))).toNat+4) 4):=BI hs.2.2.1 (w:=4) (by omega) (by omega) (by omega)
    rw [eo',hld]
    simp only [Option.bind_some,Bool.false_eq_true,if_false,bne_self_eq_false,ht1,ht2,show(NJ n == [])=false from rfl]
    rw [Z3 (by omega) (by omega) ⟨hn.1,by omega⟩,WY (by omega) (by omega) ⟨hn.1,by omega⟩]
    exact⟨_,_,rfl,rfl,hput,fun q=>absurd rfl q⟩
  · simp only [decide_eq_false hv,Bool.not_false,if_true,Option.bind_some,show((4:Int) != 0)=true from rfl]
    exact⟨_,_,rfl,rfl,sK.refl hm _,fun _=>rfl⟩
end Go.Gv
end
noncomputable section
set_option linter.unusedVariables false
set_option linter.unusedSimpArgs false
set_option linter.unusedSectionVars false
namespace Go.Gv
def aBV(k:Int):Prop:=k=1∨k=2∨k=3∨k=7
instance (k:Int):Decidable (aBV k):=by unfold aBV;infer_instance
def Z8(o:GOp):Prop:=(1≤o.Kind∧o.Kind≤7)∧(aBV o.Kind∨o.Cell=0)∧(0≤o.Cell∧o.Cell≤1)∧if o.Kind=1 then (0≤o.aLV∧o.aLV≤100)∧0≤o.Val∧o.Val≤65535 else o.aLV=0∧o.Val=0
instance (o:GOp):Decidable (Z8 o):=by unfold Z8;infer_instance
theorem hb0(x:Int):(x == 0)=decide (x=0):=by rw [Bool.eq_iff_iff];simp
def aL5(l:List GOp):Prop:=∀o∈l,Z8 o
instance (l:List GOp):Decidable (aL5 l):=by unfold aL5;infer_instance
def QOk(q:Queue):Prop:=q.OA.length≤12∧aL5 q.OA
instance (q:Queue):Decidable (QOk q):=by unfold QOk;infer_instance
def aQZ(l:List Queue):Prop:=l.length=3∧∀q∈l,QOk q
instance (l:List Queue):Decidable (aQZ l):=by unfold aQZ;infer_instance
def aPG:MG:=⟨false,⟨0,0,0,0⟩,0,0,⟨0,0,0,0,0,0,0,0,0,false⟩,0,0,0,0⟩
def JOk(j:MG):Prop:=if j.aBA then Z8 j.Op∧kM j.H∧kM j.Old else j=aPG
instance (j:MG):Decidable (JOk j):=by unfold JOk;infer_instance
def SOk(s:pZ):Prop:=eQ s.aI∧s.Cells.length=2∧s.YJ.length=3∧aQZ s.SW∧(0≤s.DK∧s.DK≤1000000)∧(∀h∈s.Cells,kM h)∧∀j∈s.YJ,JOk j
instance (s:pZ):Decidable (SOk s):=by unfold SOk;infer_instance
noncomputable section
variable {s:pZ} (hf:s.aI.Mem.aB.Bytes.length≤maxLen∧(dF s.aI.Mem.aA).length≤1073741824∧s.aI.aC.aN.length≤maxLen∧s.aI.aJ.length≤maxLen∧(bH s.aI.aJ).length≤1073741824∧s.aI.cA.length≤maxLen) (ht:s.SW.length≤maxLen) (hq:∀q∈s.SW,q.OA.length≤maxLen) (hcl:s.Cells.length≤maxLen) (hjl:s.YJ.length≤maxLen)
include hf ht
include hq hcl hjl
end
end Go.Gv
end
noncomputable section
set_option linter.unusedVariables false
set_option linter.unusedSimpArgs false
set_option linter.unusedSectionVars false
namespace Go.Gv
theorem aQ0{a b:Int}(h:¬a=b):(a == b)=false:=by simpa using h
theorem aDL{c:aC}(hc:AX c){w:Int}(hw:0≤w∧w≤2):∃r,C5 c w=some r∧VM c w=some r∧AX r.1∧r.1.aE=c.aE:=by
  obtain⟨p,hp,hpk⟩:=aFD hc hw
  unfold C5 VM
  rw [jT hc.small.1,tT hc.small.1,fL,gO hc.small.2,fU,bJ,decide_eq_true hc,decide_eq_true hw]
  simp only [Option.bind_some,Bool.not_true,Bool.false_eq_true,if_false,hp,tC,zN]
  cases p.On with
  | true =>
    simp only [Bool.not_true,Bool.false_eq_true,if_false]
    have h0:=hc.1
    exact⟨_,rfl,rfl,hc.aBQ ⟨by simp only;omega,by simp,fun _=>rfl⟩,rfl⟩
  | false=>simp only [Bool.not_false,if_true];exact⟨_,rfl,rfl,hc,rfl⟩
theorem EB.set{z:List Int}(hz:EB z)(k:Nat){h:Int}(hh:kM h):EB (z.set k h):=⟨by simpa using hz.1,fun q hq=>(List.mem_or_eq_of_mem_set hq).elim (hz.2 q) (fun e=>e ▸ hh)⟩
theorem W5{z:List Int}(hz:EB z){w:Int}(hw:0≤w∧w≤2)(h:Int):∃r,wJ z w h=some r∧OZ z w h=some r∧EB r.1:=by
  have h3:=hz.1
  have hx:idx z w=some (z[w.toNat]'(by omega)):=fI hw.1 (by omega)
  unfold wJ OZ
  rw [CU (by omega),n9 (by omega),FX (by simp only [maxLen];omega),FY (by simp only [maxLen];omega),decide_eq_true hz,bJ,fU,decide_eq_true hw,g7,nB]
  simp only [Option.bind_some,Bool.not_true,Bool.false_eq_true,if_false,oN,uK,hx]
  by_cases q:pK h
  · simp only [decide_eq_true q,Bool.not_true,Bool.false_eq_true,if_false];exact⟨_,rfl,rfl,hz.set _ (.inr q)⟩
  · simp only [decide_eq_false q,Bool.not_false,if_true];exact⟨_,rfl,rfl,hz⟩
theorem aL6{z:List Int}(hz:EB z){w:Int}(hw:0≤w∧w≤2):∃r,HC z w=some r∧VN z w=some r∧EB r.1:=by
  have h3:=hz.1
  have hx:idx z w=some (z[w.toNat]'(by omega)):=fI hw.1 (by omega)
  unfold HC VN
  rw [CU (by omega),n9 (by omega),FX (by simp only [maxLen];omega),FY (by simp only [maxLen];omega),decide_eq_true hz,bJ,fU,decide_eq_true hw]
  simp only [Option.bind_some,Bool.not_true,Bool.false_eq_true,if_false,tD,zO,hx]
  by_cases q:(z[w.toNat]'(by omega))=0
  · simp only [q,beq_self_eq_true,if_true];exact⟨_,rfl,rfl,hz⟩
  · simp only [aQ0 q,Bool.false_eq_true,if_false];exact⟨_,rfl,rfl,hz.set _ (.inl rfl)⟩
theorem eQ.clock{b:aI}(hb:eQ b){cl:aC}(h:AX cl)(e:b.aC.aE≤cl.aE):eQ ⟨b.Mem,cl,b.aJ,b.cA⟩:=⟨⟨hb.1.1,h,hb.1.2.2⟩,fun r hr=>⟨(hb.2 r hr).1,Int.le_trans (hb.2 r hr).2 e⟩⟩
theorem eQ.haz{b:aI}(hb:eQ b){z:List Int}(h:EB z):eQ ⟨b.Mem,b.aC,b.aJ,z⟩:=⟨⟨hb.1.1,hb.1.2.1,hb.1.2.2.1,h⟩,hb.2⟩
theorem eQ.mem{b:aI}(hb:eQ b){m:Mem}(h:sK b.Mem m (-1)):eQ ⟨m,b.aC,b.aJ,b.cA⟩:=⟨⟨h.1,hb.1.2⟩,fun r hr=>⟨h.live (hb.2 r hr).1 (by have:=(hb.2 r hr).1.1;unfold pK at this;omega),(hb.2 r hr).2⟩⟩
theorem SOk.put{s:pZ}(hs:SOk s){w:Int}{b:aI}(hb:eQ b){c:List Int}(hc:c.length=2∧∀h∈c,kM h){j:MG}(hj:JOk j)(l:List Ev):SOk ⟨b,c,s.YJ.set w.toNat j,s.SW,l,s.DK⟩:=
  ⟨hb,hc.1,by simpa using hs.2.2.1,hs.2.2.2.1,hs.2.2.2.2.1,hc.2,fun q hq=>(List.mem_or_eq_of_mem_set hq).elim (hs.2.2.2.2.2.2 q) (fun e=>e ▸ hj)⟩
noncomputable section
variable {s:pZ} (hs:SOk s) (hl:s.Log.length≤1000000000) {w:Int} (hw:0≤w∧w≤2) {j:MG} (hj:idx s.YJ w=some j) (hb:j.aBA=true) (hjo:Z8 j.Op∧kM j.H∧kM j.Old)
include hs hl hw hj hb hjo
end
end Go.Gv
end
noncomputable section
set_option linter.unusedVariables false
set_option linter.unusedSimpArgs false
set_option linter.unusedSectionVars false
namespace Go.Gv
def AV(s:Sub)(code:Int):Sub:={s with Code:=code,cQ:=true}
def e9(n:Int):Int:=if 1≤n∧n≤8 then 0 else if 1≤n∧n≤16 then 1 else if 1≤n∧n≤40 then 2 else -1
theorem N4(n:Int):-1≤e9 n∧e9 n≤2:=by unfold e9;split <;> (try split) <;> (try split) <;> omega
theorem Z9(n:Int):nP n=some (e9 n):=by
  have s1:∀k,0≤k∧k≤2→dU n k=some (if 1≤n∧n≤fJ k then .stop (Out.ret k) else .next (k+1)):=fun k hk=>by
    simp only [dU]
    rw [if_pos (by simp;omega),xQ,Option.bind_some,bJ,Option.bind_some,aP (by omega) (by omega)]
    by_cases q:1≤n∧n≤fJ k
    · rw [decide_eq_true q,if_pos rfl,if_pos q]
    · rw [decide_eq_false q,if_neg (by simp),if_neg q]
  have z0:fJ 0=8:=rfl
  have z1:fJ 1=16:=rfl
  have z2:fJ 2=40:=rfl
  unfold nP e9
  by_cases q0:1≤n∧n≤8
  · rw [bN (by rw [s1 0 (by omega),if_pos (by omega)]),if_pos q0];rfl
  · rw [bT (by rw [s1 0 (by omega),if_neg (by omega)]),if_neg q0,show(0:Int)+1=1 from rfl]
    by_cases q1:1≤n∧n≤16
    · rw [bN (by rw [s1 1 (by omega),if_pos (by omega)]),if_pos q1];rfl
    · rw [bT (by rw [s1 1 (by omega),if_neg (by omega)]),if_neg q1,show(1:Int)+1=2 from rfl]
      by_cases q2:1≤n∧n≤40
      · rw [bN (by rw [s1 2 (by omega),if_pos (by omega)]),if_pos q2];rfl
      · rw [bT (by rw [s1 2 (by omega),if_neg (by omega)]),if_neg q2,show(2:Int)+1=3 from rfl,bN (body:=dU n) (r:=Out.brk ()) (by simp [dU])];rfl
def PT(l:List Int):List Int×Int:=(l.dropLast,l.getLastD (-1))
theorem MA{s:aD}(h:s.aO.length≤1048576):iX s=some (⟨(PT s.aO).1⟩,(PT s.aO).2):=by
  unfold iX zC PT
  obtain⟨l⟩:=s
  rcases List.eq_nil_or_concat l with rfl | ⟨L,b,rfl⟩
  · rfl
  · simp only [List.concat_eq_append] at h ⊢
    have hl:(L ++ [b]).length=L.length+1:=by simp
    rw [hl,aP (by omega) (by omega),show((L.length+1:Nat):Int) - 1=(L.length:Int) by omega,if_neg (by simp;omega),aU (by omega),aW (by rw [hl];omega)]
    simp
def eJ(m:Mem)(w c:Int):Mem×Int:=(⟨m.aB,⟨m.aA.Global,m.aA.aR.set (w * 3+c).toNat ⟨(PT (dT m.aA.aR (w * 3+c).toNat)).1⟩⟩⟩,(PT (dT m.aA.aR (w * 3+c).toNat)).2)
def dO(m:Mem)(c:Int):Mem×Int:=(⟨m.aB,⟨m.aA.Global.set c.toNat ⟨(PT (dT m.aA.Global c.toNat)).1⟩,m.aA.aR⟩⟩,(PT (dT m.aA.Global c.toNat)).2)
def P9(h:aB):Nat:=h.Class.findIdx (fun x=>decide (x = -1))
def l5(m:Mem)(c:Int):Mem×Int:=if P9 m.aB=6 then (m,-1) else
  (⟨⟨gB m.aB.Bytes (P9 m.aB) c (bX c).toNat,m.aB.Class.set (P9 m.aB) c⟩,⟨m.aA.Global.set c.toNat ⟨dT m.aA.Global c.toNat++(gS (P9 m.aB) (bX c).toNat).drop 1⟩,m.aA.aR⟩⟩,(P9 m.aB:Int) * 4)
theorem aL7{h:aB}(hs:dE h):P9 h≤6:=by rw [←hs.2.1];exact List.findIdx_le_length
theorem aQ1{h:aB}(hs:dE h)(hq:P9 h≠6):P9 h < 6∧bQ h (P9 h) = -1:=by
  have h6:=hs.2.1
  have hlt:P9 h < 6:=by have:=aL7 hs;omega
  refine⟨hlt,?_⟩
  rw [←L6 hs hlt]
  have:=List.findIdx_getElem (xs:=h.Class) (p:=fun x=>decide (x = -1)) (w:=by show P9 h < _;omega)
  exact of_decide_eq_true this
theorem aOH{h:aB}(hs:dE h):∀j (hj:j < 6),j < P9 h→bQ h j≠-1:=fun j hj hlt=>by
  have:=List.not_of_lt_findIdx hlt
  rw [←L6 hs hj]
  simpa using this
theorem aQ2{h:aB}(hh:N9 h){c:Int}(hc:0≤c∧c≤2):jG h c=some (if P9 h=6 then (h,[]) else (⟨gB h.Bytes (P9 h) c (bX c).toNat,h.Class.set (P9 h) c⟩,gS (P9 h) (bX c).toNat)):=by
  have hs:=hh.1
  have h6:=hs.2.1
  have h384:=hs.1
  have hle:=aL7 hs
  have s1:∀k (hk:k < P9 h),dM h c (k:Int)=some (.next ((k+1:Nat):Int)):=fun k hk=>by
    have n:(h.Class[k] != -1)=true:=by
      have:=aOH hs k (by omega) hk
      rw [←L6 hs (by omega)] at this
      simpa using this
    simp only [dM,tZ]
    rw [if_pos (by simp;omega),aW (by omega),Option.bind_some,n,if_pos rfl,aP (by omega) (by omega)];rfl
  unfold jG
  by_cases hq:P9 h=6
  · have a1:loop (dM h c) 0=some (Out.brk ()):=iB (P9 h) (fun k=>(k:Int)) _ s1 (by simp only [dM];rw [if_neg (by simp;omega)])
    rw [a1,if_pos hq];rfl
  · obtain⟨hlt,he⟩:=aQ1 hs hq
    rw [←L6 hs hlt] at he
    generalize hqq:P9 h=q at *
    have a1:loop (dM h c) 0=some (Out.ret (⟨gB h.Bytes q c (bX c).toNat,h.Class.set q c⟩,gS q (bX c).toNat)):=iB q (fun k=>(k:Int)) _ s1 (by
      have e0:aX ((q:Int) * 64)=((q * 64:Nat):Int):=by rw [aP (by omega) (by omega)];omega
      have e1:aX (((q * 64:Nat):Int)+1)=((q * 64+1:Nat):Int):=by rw [aP (by omega) (by omega)];omega
      have e2:aX (((q * 64:Nat):Int)+2)=((q * 64+2:Nat):Int):=by rw [aP (by omega) (by omega)];omega
      have n:(h.Class[q] != -1)=false:=by simpa using he
      simp only [dM,e0,e1,e2,Int.toNat_natCast]
      rw [if_pos (by simp;omega),aW (by omega),Option.bind_some,n,if_neg (by simp),aW (by omega),Option.bind_some,aW (by simp;omega),Option.bind_some,eP,Option.bind_some,aW (by simp;omega),Option.bind_some]
      have:=W0 h384 hlt hc
      simp only [gB] at this
      rw [this];rfl)
    rw [a1,if_neg hq];rfl
theorem Q6{m:Mem}(hm:kO m){c:Int}(hc:0≤c∧c≤2):nQ m c=some (l5 m c):=by
  have h3:=hm.1.2.1
  have hpp:0 < bX c:=iM.2 hc
  have hp4:=jL c
  obtain⟨_,_,_,_,_,_,_,_,hsG,_⟩:=kO.facts hm
  unfold nQ l5
  rw [aQ2 hm.1.1 hc]
  by_cases hq:P9 m.aB=6
  · simp only [if_pos hq,Option.bind_some];rfl
  · have hk:c.toNat < m.aA.Global.length:=by omega
    have hg0:=hsG _ (List.getElem_mem hk)
    have hx:idx m.aA.Global c=some m.aA.Global[c.toNat]:=fI hc.1 (by omega)
    have hz:idx (gS (P9 m.aB) (bX c).toNat) 0=some ((P9 m.aB:Int) * 4):=by
      have:=aW (l:=gS (P9 m.aB) (bX c).toNat) (k:=0) (by rw [DY];omega)
      rw [show((0:Nat):Int)=0 from rfl] at this
      rw [this];simp [gS]
    have hn:(((bX c).toNat:Int) == 0)=false:=by simpa using (by omega:¬((bX c).toNat:Int)=0)
    have ht:(gS (P9 m.aB) (bX c).toNat).take (bX c).toNat=gS (P9 m.aB) (bX c).toNat:=List.take_of_length_le (by rw [DY];omega)
    have hd:((gS (P9 m.aB) (bX c).toNat).drop 1).length≤4:=by rw [List.length_drop,DY];omega
    simp only [if_neg hq,Option.bind_some,DY,hn,Bool.false_eq_true,if_false,hx,hz,t9,ht]
    rw [aU (by omega),aU (by simp only [List.length_drop,DY,Int.toNat_one];omega),cJ hk];rfl
def aDM(m:Mem)(s:Int):Int:=if 1≤jZ m.aB s∧jZ m.aB s≤6 then jZ m.aB s * 32+s else 0
theorem aHR{m:Mem}(hs:dE m.aB){s:Int}(hc:0≤bB m.aB s):lS m s=some (aDM m s):=by
  unfold lS jN gX aDM
  rw [lY hs hc,Option.bind_some,bJ,bJ]
  have h1:=(uP hc).1
  simp only [decide_eq_true h1,Option.bind_some,Bool.not_true,Bool.false_eq_true,if_false]
  by_cases q:1≤jZ m.aB s∧jZ m.aB s≤6
  · simp only [decide_eq_true q,Bool.not_true,Bool.false_eq_true,if_false,if_pos q]
    rw [aP (x:=jZ m.aB s * 32) (by omega) (by omega),aP (by omega) (by omega)];rfl
  · simp only [decide_eq_false q,Bool.not_false,if_true,if_neg q];rfl
def nD(b:aI)(s:Sub)(p:Mem×Int):aI×Sub:=
  if 0≤p.2 then ({b with Mem:=p.1},AV {s with Out:=aDM p.1 p.2} 0) else if s.Pc=3 then ({b with Mem:=p.1},AV s 3) else ({b with Mem:=p.1},{s with Pc:=s.Pc+1})
def F7(b:aI)(w:Int)(s:Sub):aI×Sub:=
  if e9 s.A < 0 then (b,AV s 2)
  else if s.Pc=0 then nD b s (eJ b.Mem w (e9 s.A))
  else if s.Pc=1∨s.Pc=3 then nD b s (dO b.Mem (e9 s.A))
  else if s.Pc=2 then nD b s (l5 b.Mem (e9 s.A))
  else (b,AV s 1)
theorem aIL{b:aI}(hm:kO b.Mem){w:Int}(hw:0≤w∧w≤2)(s:Sub):o5 b w s=some (F7 b w s):=by
  obtain⟨hcnt,h3,h9,h1,h2,hsm,hcp,hlo,hsG,hsO⟩:=kO.facts hm
  have hs:=hm.1.1.1
  have hr:=N4 s.A
  unfold o5 F7
  rw [Z9]
  simp only [Option.bind_some]
  by_cases c0:e9 s.A < 0
  · simp only [decide_eq_true c0,if_true,a9,if_pos c0];rfl
  generalize e9 s.A=c at *
  have hc:0≤c∧c≤2:=by omega
  simp only [decide_eq_false c0,Bool.false_eq_true,if_false,if_neg c0]
  have fin:∀(p:Mem×Int),-1≤p.2→(0≤p.2→dE p.1.aB∧0≤bB p.1.aB p.2)→s.Pc≤3∧0≤s.Pc→eT s p.2 ⟨p.1,b.aC,b.aJ,b.cA⟩=some (nD b s p):=by
    intro p hp hx hpc
    unfold eT nD
    simp only [mN,B3,a9]
    by_cases x0:0≤p.2
    · rw [decide_eq_false (show ¬p.2 < 0 by omega),decide_eq_true x0]
      simp only [Bool.false_eq_true,if_false,if_true,if_pos x0,aHR (hx x0).1 (hx x0).2,Option.bind_some];rfl
    · rw [decide_eq_true (show p.2 < 0 by omega),decide_eq_false x0]
      by_cases p3:s.Pc=3
      · have p3':(s.Pc == 3)=true:=by simpa using p3
        simp only [p3',if_true,if_neg x0,if_pos p3,Option.bind_some];rfl
      · have p3':(s.Pc == 3)=false:=by simpa using p3
        have e:aX (s.Pc+1)=s.Pc+1:=aP (by omega) (by omega)
        simp only [p3',if_true,Bool.false_eq_true,if_false,if_neg x0,if_neg p3,Option.bind_some,e]
  have popL:∀l:List Int,-1≤(PT l).2∨(PT l).2∈l:=fun l=>by
    unfold PT
    rcases List.eq_nil_or_concat l with rfl | ⟨L,b,rfl⟩
    · left;simp
    · right;simp
  by_cases p0:s.Pc=0
  · have hk:(w * 3+c).toNat < b.Mem.aA.aR.length:=by omega
    have hx:idx b.Mem.aA.aR (w * 3+c)=some b.Mem.aA.aR[(w * 3+c).toNat]:=fI (by omega) (by omega)
    obtain⟨l,t,x,e1,e2,e3,g1,g2,g3⟩:=H4 hm hw hc
    have hl:=hsO _ (List.getElem_mem hk)
    rw [hx] at e1;cases e1
    rw [MA (by omega)] at e2
    have ep:eJ b.Mem w c=(⟨b.Mem.aB,⟨b.Mem.aA.Global,b.Mem.aA.aR.set (w * 3+c).toNat t⟩⟩,x):=by
      unfold eJ
      rw [←cJ hk]
      injection e2 with e2;injection e2 with e4 e5
      rw [←e4,←e5]
    have hx0:-1≤x:=by
      injection e2 with e2;injection e2 with e4 e5
      rcases popL b.Mem.aA.aR[(w * 3+c).toNat].aO with h | h
      · rw [←e5];exact h
      · rw [←e5];have:=hm.1.2.2.2.2.1 _ (List.mem_append_right _ (List.mem_flatMap.2 ⟨_,List.getElem_mem hk,h⟩));omega
    have p0':(s.Pc == 0)=true:=by simpa using p0
    have:=fin (eJ b.Mem w c) (by rw [ep];exact hx0) (by rw [ep];exact fun h=>⟨hs,g2 h⟩) (by omega)
    rw [ep] at this
    simp only [p0',if_true,if_pos p0,(xT hw hc).1,Option.bind_some,hx]
    rw [MA (show b.Mem.aA.aR[(w * 3+c).toNat].aO.length≤1048576 by omega),e2,Option.bind_some,ep]
    exact this
  · have p0':(s.Pc == 0)=false:=by simpa using p0
    simp only [p0',Bool.false_eq_true,if_false,mO,if_neg p0]
    have hk:c.toNat < b.Mem.aA.Global.length:=by omega
    have hx:idx b.Mem.aA.Global c=some b.Mem.aA.Global[c.toNat]:=fI (by omega) (by omega)
    obtain⟨l,t,x,e1,e2,e3,g1,g2,g3⟩:=z7 hm hc
    have hl:=hsG _ (List.getElem_mem hk)
    rw [hx] at e1;cases e1
    rw [MA (by omega)] at e2
    have ep:dO b.Mem c=(⟨b.Mem.aB,⟨b.Mem.aA.Global.set c.toNat t,b.Mem.aA.aR⟩⟩,x):=by
      unfold dO
      rw [←cJ hk]
      injection e2 with e2;injection e2 with e4 e5
      rw [←e4,←e5]
    have hx0:-1≤x:=by
      injection e2 with e2;injection e2 with e4 e5
      rcases popL b.Mem.aA.Global[c.toNat].aO with h | h
      · rw [←e5];exact h
      · rw [←e5];have:=hm.1.2.2.2.2.1 _ (List.mem_append_left _ (List.mem_flatMap.2 ⟨_,List.getElem_mem hk,h⟩));omega
    have tg:0≤s.Pc∧s.Pc≤3→(idx b.Mem.aA.Global c).bind (fun x13=>(iX x13).bind fun x14=>eT s x14.2 ({b with Mem:=(⟨b.Mem.aB,(⟨b.Mem.aA.Global.set c.toNat x14.1,b.Mem.aA.aR⟩:aA)⟩:Mem)}:aI))=some (nD b s (dO b.Mem c)):=fun hpc=>by
      have:=fin (dO b.Mem c) (by rw [ep];exact hx0) (by rw [ep];exact fun h=>⟨hs,g2 h⟩) (by omega)
      rw [hx,Option.bind_some,MA (by omega),e2,Option.bind_some,←this,ep]
    by_cases p1:s.Pc=1
    · have p1':(s.Pc == 1)=true:=by simpa using p1
      simp only [p1',if_true]
      rw [tg (by omega),if_pos (.inl p1)]
    · have p1':(s.Pc == 1)=false:=by simpa using p1
      simp only [p1',Bool.false_eq_true,if_false]
      by_cases p3:s.Pc=3
      · have p3':(s.Pc == 3)=true:=by simpa using p3
        simp only [p3',if_true]
        rw [tg (by omega),if_pos (.inr p3)]
      · have p3':(s.Pc == 3)=false:=by simpa using p3
        have n13:¬(s.Pc=1∨s.Pc=3):=by omega
        simp only [p3',Bool.false_eq_true,if_false,if_neg n13]
        by_cases p2:s.Pc=2
        · obtain⟨m',y,f1,f2,k1,k2,k3⟩:=PR hm hc
          have hg:=Q6 hm hc
          rw [f1] at hg
          have hg':l5 b.Mem c=(m',y):=by injection hg with hg;exact hg.symm
          have hy:-1≤(l5 b.Mem c).2:=by unfold l5;split <;> simp only <;> omega
          have p2':(s.Pc == 2)=true:=by simpa using p2
          simp only [p2',if_true,if_pos p2,f1,Option.bind_some]
          have:=fin (l5 b.Mem c) hy (by rw [hg'];exact k2) (by omega)
          rw [hg'] at this ⊢
          exact this
        · have p2':(s.Pc == 2)=false:=by simpa using p2
          simp only [p2',Bool.false_eq_true,if_false,a9,if_neg p2,Option.bind_some];rfl
end Go.Gv
end
noncomputable section
set_option linter.unusedVariables false
set_option linter.unusedSimpArgs false
set_option linter.unusedSectionVars false
namespace Go.Gv
def eC(c:aC)(w:Int):dS:=c.aN.getD w.toNat ⟨false,0,false,0⟩
theorem CV{c:aC}(hc:AX c){w:Int}(hw:0≤w∧w≤2):idx c.aN w=some (eC c w):=by
  have:=hc.2.1
  rw [fI hw.1 (by omega)]
  simp [eC,List.getD_eq_getElem?_getD,List.getElem?_eq_getElem (show w.toNat < c.aN.length by omega)]
def sL(c:aC)(w e:Int):aC×Bool:=
  if (eC c w).On=false∨(eC c w).d5=true∨(eC c w).aE=e then (c,true)
  else if (eC c w).Seen=2 then (⟨c.aE,c.aN.set w.toNat {eC c w with d5:=true,Seen:=0}⟩,true)
  else (⟨c.aE,c.aN.set w.toNat {eC c w with Seen:=(eC c w).Seen+1}⟩,false)
theorem W6{c:aC}(hc:AX c){w:Int}(hw:0≤w∧w≤2):POk c.aE (eC c w):=by
  have:=CV hc hw
  have h2:=hc.2.1
  rw [fI hw.1 (by omega)] at this
  injection this with this
  rw [←this]
  exact hc.2.2 _ (List.getElem_mem _)
theorem aDN{c:aC}(hc:AX c){w:Int}(hw:0≤w∧w≤2)(e:Int):qI c w e=some (sL c w e):=by
  have hp:=W6 hc hw
  have hx:=CV hc hw
  have hsm:=hc.small
  unfold qI qH sL
  rw [jT hsm.1,fL,decide_eq_true hc,bJ,decide_eq_true hw,hx]
  simp only [Option.bind_some,Bool.not_true,Bool.false_eq_true,if_false,j9,hx]
  generalize eC c w=p at *
  have ew:aX (p.Seen+1)=p.Seen+1:=aP (by have:=hp.2.1;omega) (by have:=hp.2.1;omega)
  cases h1:p.On
  · simp
  · cases h2:p.d5
    · by_cases h3:p.aE=e
      · simp [h3]
      · have h3':(p.aE == e)=false:=by simpa using h3
        by_cases h4:p.Seen=2
        · simp [h3,h3',h4]
        · have h4':(p.Seen == 2)=false:=by simpa using h4
          simp [h3,h3',h4,h4',ew]
    · simp
def PU(c:aC)(e:Int):aC×Bool:=if c.aE=e∧e≠100000 then (⟨e+1,c.aN⟩,true) else (c,false)
theorem aL8{c:aC}(hc:AX c)(e:Int):yL c e=some (PU c e):=by
  have hsm:=hc.small
  unfold yL rS PU
  rw [jT hsm.1,fL,decide_eq_true hc]
  simp only [Option.bind_some,Bool.not_true,Bool.false_eq_true,if_false]
  by_cases h1:c.aE=e
  · have he:=hc.1
    have ew:aX (e+1)=e+1:=aP (by omega) (by omega)
    by_cases h2:e=100000
    · simp [h1,h2]
    · have h2':(e == 100000)=false:=by simpa using h2
      simp [h1,h2,h2',ew]
  · simp [h1]
def F8(c:aC)(w e:Int):aC×Bool:=if 0≤e∧e≤c.aE then (⟨c.aE,c.aN.set w.toNat ⟨true,e,false,0⟩⟩,true) else (c,false)
theorem aIM{c:aC}(hc:AX c){w:Int}(hw:0≤w∧w≤2)(e:Int):uZ c w e=some (F8 c w e):=by
  have hsm:=hc.small
  unfold uZ o6 F8
  rw [jT hsm.1,fL,decide_eq_true hc,bJ,decide_eq_true hw,bJ]
  simp only [Option.bind_some,Bool.not_true,Bool.false_eq_true,if_false]
  by_cases h1:0≤e∧e≤c.aE
  · simp [h1,CV hc hw]
  · simp [h1]
def D0(b:aI)(s:Sub):aI×Sub:=
  if s.Pc=0 then (b,{s with Pc:=1,E:=b.aC.aE,B:=0})
  else if s.Pc=1 then
    if 0≤s.B∧s.B≤2 then
      if (sL b.aC s.B s.E).2 then ({b with aC:=(sL b.aC s.B s.E).1},{s with Pc:=if s.B=2 then 2 else 1,B:=s.B+1})
      else ({b with aC:=(sL b.aC s.B s.E).1},AV s 8)
    else (b,AV s 1)
  else if s.Pc=2 then ({b with aC:=(PU b.aC s.E).1},AV {s with Out:=if (PU b.aC s.E).2 then 1 else s.Out} 0)
  else (b,AV s 1)
theorem aDO{b:aI}(hc:AX b.aC)(s:Sub):kZ b s=some (D0 b s):=by
  unfold kZ D0
  rw [aL8 hc,bJ]
  simp only [a9,kA,kB,Option.bind_some]
  by_cases p0:s.Pc=0
  · have p0':(s.Pc == 0)=true:=by simpa using p0
    simp only [p0',if_true,if_pos p0]
  · have p0':(s.Pc == 0)=false:=by simpa using p0
    simp only [p0',Bool.false_eq_true,if_false,if_neg p0]
    by_cases p1:s.Pc=1
    · have p1':(s.Pc == 1)=true:=by simpa using p1
      simp only [p1',if_true,if_pos p1]
      by_cases hB:0≤s.B∧s.B≤2
      · have ew:aX (s.B+1)=s.B+1:=aP (by omega) (by omega)
        simp only [decide_eq_true hB,Bool.not_true,Bool.false_eq_true,if_false,if_pos hB,aDN hc hB,Option.bind_some,ew]
        cases h:(sL b.aC s.B s.E).2
        · simp [AV]
        · by_cases q:s.B=2
          · have q':(s.B+1 == 3)=true:=by simp [q]
            simp [q',q]
          · have q':(s.B+1 == 3)=false:=by simp;omega
            simp [q',q,p1]
      · simp only [decide_eq_false hB,Bool.not_false,if_true,if_neg hB];rfl
    · have p1':(s.Pc == 1)=false:=by simpa using p1
      simp only [p1',Bool.false_eq_true,if_false,if_neg p1]
      by_cases p2:s.Pc=2
      · have p2':(s.Pc == 2)=true:=by simpa using p2
        simp only [p2',if_true,if_pos p2]
        cases h:(PU b.aC s.E).2 <;> rfl
      · have p2':(s.Pc == 2)=false:=by simpa using p2
        simp only [p2',Bool.false_eq_true,if_false,if_neg p2];rfl
def aFM(b:aI)(w:Int)(s:Sub):aI×Sub:=
  if s.Pc=0 then (b,{s with Pc:=1,E:=b.aC.aE})
  else if s.Pc=1 then
    if (F8 b.aC w s.E).2 then ({b with aC:=(F8 b.aC w s.E).1},{s with Pc:=2}) else ({b with aC:=(F8 b.aC w s.E).1},AV s 1)
  else if s.Pc=2 then if b.aC.aE=s.E then (b,AV s 0) else (b,{s with Pc:=0})
  else (b,AV s 1)
theorem aOI{b:aI}(hc:AX b.aC){w:Int}(hw:0≤w∧w≤2)(s:Sub):vQ b w s=some (aFM b w s):=by
  unfold vQ aFM
  rw [aIM hc hw]
  simp only [a9,Option.bind_some]
  by_cases p0:s.Pc=0
  · have p0':(s.Pc == 0)=true:=by simpa using p0
    simp only [p0',if_true,if_pos p0]
  · have p0':(s.Pc == 0)=false:=by simpa using p0
    simp only [p0',Bool.false_eq_true,if_false,if_neg p0]
    by_cases p1:s.Pc=1
    · have p1':(s.Pc == 1)=true:=by simpa using p1
      simp only [p1',if_true,if_pos p1]
      cases h:(F8 b.aC w s.E).2 <;> rfl
    · have p1':(s.Pc == 1)=false:=by simpa using p1
      simp only [p1',Bool.false_eq_true,if_false,if_neg p1]
      by_cases p2:s.Pc=2
      · have p2':(s.Pc == 2)=true:=by simpa using p2
        simp only [p2',if_true,if_pos p2]
        by_cases q:b.aC.aE=s.E
        · have q':(b.aC.aE == s.E)=true:=by simpa using q
          simp only [q',if_true,if_pos q];rfl
        · have q':(b.aC.aE == s.E)=false:=by simpa using q
          simp only [q',Bool.false_eq_true,if_false,if_neg q]
      · have p2':(s.Pc == 2)=false:=by simpa using p2
        simp only [p2',Bool.false_eq_true,if_false,if_neg p2];rfl
def fV(l:List aK)(w:Int):List bM:=(l.getD w.toNat ⟨[]⟩).Rows
theorem D1{l:List aK}(hl:l6 l){w:Int}(hw:0≤w∧w≤2):idx l w=some ⟨fV l w⟩:=by
  have:=hl.1
  rw [fI hw.1 (by omega)]
  simp [fV,List.getD_eq_getElem?_getD,List.getElem?_eq_getElem (show w.toNat < l.length by omega)]
theorem MB{l:List aK}(hl:l6 l){w:Int}(hw:0≤w∧w≤2):(fV l w).length≤24:=by
  have h:=D1 hl hw
  have h3:=hl.1
  rw [fI hw.1 (by omega)] at h
  injection h with h
  have:=hl.small.2.2.2 _ (List.getElem_mem (show w.toNat < l.length by omega))
  rw [h] at this;exact this
def PW(b:aI)(w:Int)(s:Sub):aI×Sub:=
  if s.Pc=0 then (b,{s with Pc:=1,E:=b.aC.aE})
  else if s.Pc=1 then
    if 0≤s.E∧s.E≤b.aC.aE then
      if nC b.Mem s.A∧¬Q5 b.aJ (s.A % 32) then ({b with aJ:=b.aJ.set w.toNat ⟨fV b.aJ w ++ [⟨s.A,s.E⟩]⟩},AV s 0) else (b,AV s 4)
    else (b,AV s 1)
  else (b,AV s 1)
theorem aFN{b:aI}(hb:eQ b){w:Int}(hw:0≤w∧w≤2)(s:Sub):mP b w s=some (PW b w s):=by
  have hL:=hb.1.2.2.1
  have hm:=hb.1.1
  obtain⟨h1,h2,h3,_⟩:=kO.facts hm
  have hx:=D1 hL hw
  have hrow:=MB hL hw
  unfold mP PW
  rw [bJ,lF hm.1.1.1 (by omega) (by simp only [maxLen];omega) (by simp only [maxLen];omega),dB]
  simp only [a9,Option.bind_some,lK,pO]
  by_cases p0:s.Pc=0
  · have p0':(s.Pc == 0)=true:=by simpa using p0
    simp only [p0',if_true,if_pos p0]
  · have p0':(s.Pc == 0)=false:=by simpa using p0
    simp only [p0',Bool.false_eq_true,if_false,if_neg p0]
    by_cases p1:s.Pc=1
    · have p1':(s.Pc == 1)=true:=by simpa using p1
      simp only [p1',if_true,if_pos p1]
      by_cases q1:0≤s.E∧s.E≤b.aC.aE
      · simp only [decide_eq_true q1,Bool.not_true,Bool.false_eq_true,if_false,if_pos q1]
        by_cases q2:nC b.Mem s.A
        · have hh:=q2.1
          simp only [decide_eq_true q2,Bool.not_true,Bool.false_eq_true,if_false,if_pos hh,I9 hL,Option.bind_some]
          by_cases q3:Q5 b.aJ (s.A % 32)
          · simp only [decide_eq_true q3,if_true,if_neg (show ¬(nC b.Mem s.A∧¬Q5 b.aJ (s.A % 32)) from fun h=>h.2 q3)];rfl
          · simp only [decide_eq_false q3,Bool.false_eq_true,if_false,hx,Option.bind_some,if_pos (show nC b.Mem s.A∧¬Q5 b.aJ (s.A % 32) from ⟨q2,q3⟩)]
            rw [aU (by simp;omega)];rfl
        · simp only [decide_eq_false q2,Bool.not_false,if_true,if_neg (show ¬(nC b.Mem s.A∧¬Q5 b.aJ (s.A % 32)) from fun h=>q2 h.1)];rfl
      · simp only [decide_eq_false q1,Bool.not_false,if_true,if_neg q1];rfl
    · have p1':(s.Pc == 1)=false:=by simpa using p1
      simp only [p1',Bool.false_eq_true,if_false,if_neg p1];rfl
def D2(r:bM)(e:Int):Prop:=2≤e∧r.aE≤aX (e - 2)
instance (r:bM) (e:Int):Decidable (D2 r e):=by unfold D2;infer_instance
theorem W7(r:bM)(e:Int):yM r e=some (decide (D2 r e)):=by
  unfold yM wE D2
  by_cases h:2≤e
  · rw [decide_eq_true h,if_pos rfl]
    simp [h]
  · simp [h]
def rC(l:List bM)(e:Int)(k:Nat):Nat:=k+(l.drop k).findIdx (fun r=>decide (D2 r e))
theorem aL9{l:List bM}(hl:l.length≤1000){from_ e:Int}:nR l from_ e=some (if rC l e from_.toNat < l.length then (rC l e from_.toNat:Int) else -1):=by
  have hst:(if 0 < from_ then from_ else 0)=(from_.toNat:Int):=by split <;> omega
  unfold nR
  rw [hst]
  have key:∀d k:Nat,l.length≤k+d→loop (cZ l e) (k:Int)=some (if rC l e k < l.length then Out.ret (rC l e k:Int) else Out.brk ()):=by
    intro d
    induction d with
    | zero =>
      intro k hk
      rw [bN (r:=Out.brk ()) (by simp only [cZ];rw [if_neg (by simp;omega)]),if_neg (by unfold rC;omega)]
    | succ d ih =>
      intro k hk
      by_cases hkl:k < l.length
      · have hd:l.drop k=l[k] :: l.drop (k+1):=List.drop_eq_getElem_cons hkl
        by_cases hr:D2 l[k] e
        · have hs:rC l e k=k:=by unfold rC;rw [hd,List.findIdx_cons,decide_eq_true hr];rfl
          rw [bN (r:=Out.ret (k:Int)) (by simp only [cZ];rw [if_pos (by simp;omega),aW hkl,Option.bind_some,W7 _ e,Option.bind_some,decide_eq_true hr,if_pos rfl]),hs,if_pos hkl]
        · have hs:rC l e k=rC l e (k+1):=by unfold rC;rw [hd,List.findIdx_cons,decide_eq_false hr];simp only [cond_false];omega
          rw [bT (s':=((k+1:Nat):Int)) (by simp only [cZ];rw [if_pos (by simp;omega),aW hkl,Option.bind_some,W7 _ e,Option.bind_some,decide_eq_false hr,if_neg (by simp),aP (by omega) (by omega)];rfl),ih (k+1) (by omega),hs]
      · rw [bN (r:=Out.brk ()) (by simp only [cZ];rw [if_neg (by simp;omega)]),if_neg (by unfold rC;omega)]
  rw [key l.length from_.toNat (by omega)]
  split <;> rfl
def aMA(m:Mem)(w h:Int):Mem:=
  if h / 32+1≤6 then
    if (dT m.aA.aR (w * 3+bB m.aB (h % 32)).toNat).length < 2 then ⟨⟨WW m.aB.Bytes (eW (h % 32) (bB m.aB (h % 32))).toNat (h / 32+1),m.aB.Class⟩,⟨m.aA.Global,m.aA.aR.set (w * 3+bB m.aB (h % 32)).toNat ⟨dT m.aA.aR (w * 3+bB m.aB (h % 32)).toNat ++ [h % 32]⟩⟩⟩
    else ⟨⟨WW m.aB.Bytes (eW (h % 32) (bB m.aB (h % 32))).toNat (h / 32+1),m.aB.Class⟩,⟨m.aA.Global.set (bB m.aB (h % 32)).toNat ⟨dT m.aA.Global (bB m.aB (h % 32)).toNat ++ [h % 32]⟩,m.aA.aR⟩⟩
  else ⟨⟨WW m.aB.Bytes (eW (h % 32) (bB m.aB (h % 32))).toNat (h / 32+1),m.aB.Class⟩,m.aA⟩
theorem aMB{m:Mem}(hm:kO m){w h:Int}(hw:0≤w∧w≤2)(hv:nC m h):qK m w (h % 32)=some (aMA m w h):=by
  obtain⟨hcnt,h3,h9,h1,h2,hsm,hcp,hlo,hsG,hsO⟩:=kO.facts hm
  have hs:=hm.1.1.1
  have hh:=hv.1
  have hcl:=vX hv.2.1
  have hgo:=zZ hcl
  have hc2:0≤bB m.aB (h % 32)∧bB m.aB (h % 32)≤2:=by
    obtain⟨_,q,e⟩:=uP hcl
    rw [e];exact iM.1 (by omega)
  have hg6:1≤h / 32∧h / 32≤6:=by unfold pK at hh;omega
  have eo:eW (h % 32) (bB m.aB (h % 32))=(((eW (h % 32) (bB m.aB (h % 32))).toNat:Nat):Int):=by omega
  have ew:aX (h / 32+1)=h / 32+1:=aP (by omega) (by omega)
  unfold qK aMA
  rw [gN hs,Option.bind_some,lY hs hcl,hv.2.2,Option.bind_some,lX,Option.bind_some,ew]
  generalize hgn:(eW (h % 32) (bB m.aB (h % 32))).toNat=a at eo
  rw [eo,BK (by omega) (by omega) (by omega)]
  simp only [Option.bind_some,wI,wH,ew]
  generalize bB m.aB (h % 32)=c at *
  by_cases q:h / 32+1≤6
  · have hk:(w * 3+c).toNat < m.aA.aR.length:=by omega
    have hx:idx m.aA.aR (w * 3+c)=some m.aA.aR[(w * 3+c).toNat]:=fI (by omega) (by omega)
    have hk2:c.toNat < m.aA.Global.length:=by omega
    have hx2:idx m.aA.Global c=some m.aA.Global[c.toNat]:=fI (by omega) (by omega)
    have b1:=hsO _ (List.getElem_mem hk)
    have b2:=hsG _ (List.getElem_mem hk2)
    rw [decide_eq_true q,if_pos rfl,if_pos q]
    unfold vP
    rw [(xT hw hc2).1]
    simp only [Option.bind_some,hx,hx2,qJ,wF,wG,←cJ hk,←cJ hk2]
    by_cases q2:m.aA.aR[(w * 3+c).toNat].aO.length < 2
    · have y1:(m.aA.aR[(w * 3+c).toNat].aO.length:Int) < 2:=by omega
      simp only [decide_eq_true y1,if_true,if_pos q2]
      rw [aU (by simp;omega)];rfl
    · have y1:¬(m.aA.aR[(w * 3+c).toNat].aO.length:Int) < 2:=by omega
      simp only [decide_eq_false y1,Bool.false_eq_true,if_false,if_neg q2]
      rw [aU (by simp;omega)];rfl
  · rw [decide_eq_false q,if_neg (by simp),if_neg q]
def aAA(z:List Int)(w:Int):Int:=z.getD w.toNat 0
theorem aIN{z:List Int}(hz:EB z){w:Int}(hw:0≤w∧w≤2):idx z w=some (aAA z w):=by
  have:=hz.1
  rw [fI hw.1 (by omega)]
  simp [aAA,List.getD_eq_getElem?_getD,List.getElem?_eq_getElem (show w.toNat < z.length by omega)]
def LB(l:List bM)(k:Int):bM:=l.getD k.toNat ⟨0,0⟩
theorem PX{l:List bM}{k:Int}(h:0≤k∧k < l.length):idx l k=some (LB l k):=by
  rw [fI h.1 h.2]
  simp [LB,List.getD_eq_getElem?_getD,List.getElem?_eq_getElem (show k.toNat < l.length by omega)]
def EZ(l:List bM)(s:Sub):Prop:=0≤s.Row∧s.Row < l.length∧(LB l s.Row).Handle=s.H
instance (l:List bM) (s:Sub):Decidable (EZ l s):=by unfold EZ;infer_instance
def LC(b:aI)(w:Int)(s:Sub):aI×Sub:=
  if s.Pc=0 then (b,{s with Pc:=1,E:=b.aC.aE,Row:=0})
  else if s.Pc=1 then
    if rC (fV b.aJ w) s.E s.Row.toNat < (fV b.aJ w).length then (b,{s with Pc:=2,Row:=(rC (fV b.aJ w) s.E s.Row.toNat:Int),B:=0,H:=(LB (fV b.aJ w) (rC (fV b.aJ w) s.E s.Row.toNat:Int)).Handle})
    else (b,AV s 0)
  else if s.Pc=2 then
    if (0≤s.B∧s.B≤2)∧EZ (fV b.aJ w) s then
      if aAA b.cA s.B=s.H then (b,{s with Pc:=1,Row:=s.Row+1}) else (b,{s with Pc:=if s.B=2 then 3 else 2,B:=s.B+1})
    else (b,AV s 1)
  else if s.Pc=3 then
    if EZ (fV b.aJ w) s∧D2 (LB (fV b.aJ w) s.Row) s.E then ({b with Mem:=aMA b.Mem w s.H,aJ:=b.aJ.set w.toNat ⟨(fV b.aJ w).eraseIdx s.Row.toNat⟩},{s with Pc:=1,Out:=aX (s.Out+1)})
    else (b,AV s 1)
  else (b,AV s 1)
theorem aDP{l:List aK}(hl:l6 l){w:Int}(hw:0≤w∧w≤2){r:bM}(hr:r∈fV l w):r∈bH l:=by
  have h:=D1 hl hw
  have h3:=hl.1
  rw [fI hw.1 (by omega)] at h
  injection h with h
  exact List.mem_flatMap.2 ⟨l[w.toNat],List.getElem_mem _,by rw [h];exact hr⟩
theorem aMC{l:List bM}{k:Int}(h:0≤k∧k < l.length):LB l k∈l:=by
  have:=PX h
  rw [fI h.1 h.2] at this
  injection this with this
  rw [←this];exact List.getElem_mem _
theorem aDQ{b:aI}(hb:eQ b){w:Int}(hw:0≤w∧w≤2)(s:Sub):k9 b w s=some (LC b w s):=by
  have hL:=hb.1.2.2.1
  have hm:=hb.1.1
  have hx:=D1 hL hw
  have hrow:=MB hL hw
  have hfl:=fun r hr=>aDP hL hw (r:=r) hr
  unfold k9 LC
  rw [hx]
  simp only [Option.bind_some,a9]
  generalize fV b.aJ w=l at *
  by_cases p0:s.Pc=0
  · have p0':(s.Pc == 0)=true:=by simpa using p0
    simp only [p0',if_true,if_pos p0]
  have p0':(s.Pc == 0)=false:=by simpa using p0
  simp only [p0',Bool.false_eq_true,if_false,if_neg p0]
  by_cases p1:s.Pc=1
  · have p1':(s.Pc == 1)=true:=by simpa using p1
    simp only [p1',if_true,if_pos p1,aL9 (show l.length≤1000 by omega),Option.bind_some]
    by_cases q:rC l s.E s.Row.toNat < l.length
    · have n:¬(rC l s.E s.Row.toNat:Int) < 0:=by omega
      simp only [if_pos q,decide_eq_false n,Bool.false_eq_true,if_false,PX (l:=l) (k:=(rC l s.E s.Row.toNat:Int)) (by omega),Option.bind_some]
    · simp only [if_neg q,decide_eq_true (show(-1:Int) < 0 by omega),if_true];rfl
  have p1':(s.Pc == 1)=false:=by simpa using p1
  simp only [p1',Bool.false_eq_true,if_false,if_neg p1]
  have el:aX ((l.length:Int) - 1)=(l.length:Int) - 1:=aP (by omega) (by omega)
  by_cases p2:s.Pc=2
  · have p2':(s.Pc == 2)=true:=by simpa using p2
    simp only [p2',if_true,if_pos p2,bJ,el,Option.bind_some,c9,kC,a9]
    by_cases hB:0≤s.B∧s.B≤2
    · simp only [decide_eq_true hB,Bool.not_true,Bool.false_eq_true,if_false]
      by_cases hR:0≤s.Row∧s.Row≤(l.length:Int) - 1
      · simp only [decide_eq_true hR,Bool.not_true,Bool.false_eq_true,if_false,PX (l:=l) (k:=s.Row) (by omega),Option.bind_some]
        by_cases hH:(LB l s.Row).Handle=s.H
        · have hH':((LB l s.Row).Handle != s.H)=false:=by simpa using hH
          have ha:(0≤s.B∧s.B≤2)∧EZ l s:=⟨hB,hR.1,by omega,hH⟩
          have e1:aX (s.B+1)=s.B+1:=aP (by omega) (by omega)
          have e2:aX (s.Row+1)=s.Row+1:=aP (by omega) (by omega)
          simp only [hH',Bool.false_eq_true,if_false,if_pos ha,aIN hb.1.2.2.2 hB,Option.bind_some,e1,e2]
          by_cases hz:aAA b.cA s.B=s.H
          · have hz':(aAA b.cA s.B == s.H)=true:=by simpa using hz
            simp only [hz',if_true,if_pos hz]
          · have hz':(aAA b.cA s.B == s.H)=false:=by simpa using hz
            simp only [hz',Bool.false_eq_true,if_false,if_neg hz]
            by_cases q:s.B=2
            · have q':(s.B+1 == 3)=true:=by simp [q]
              simp only [q',if_true,if_pos q]
            · have q':(s.B+1 == 3)=false:=by simp;omega
              simp only [q',Bool.false_eq_true,if_false,if_neg q,p2]
        · have hH':((LB l s.Row).Handle != s.H)=true:=by simpa using hH
          have ha:¬((0≤s.B∧s.B≤2)∧EZ l s):=fun h=>hH h.2.2.2
          simp only [hH',if_true,if_neg ha,Option.bind_some];rfl
      · have ha:¬((0≤s.B∧s.B≤2)∧EZ l s):=fun h=>hR ⟨h.2.1,by have:=h.2.2.1;omega⟩
        simp only [decide_eq_false hR,Bool.not_false,if_true,if_neg ha,Option.bind_some];rfl
    · have ha:¬((0≤s.B∧s.B≤2)∧EZ l s):=fun h=>hB h.1
      simp only [decide_eq_false hB,Bool.not_false,if_true,if_neg ha,Option.bind_some];rfl
  have p2':(s.Pc == 2)=false:=by simpa using p2
  simp only [p2',Bool.false_eq_true,if_false,if_neg p2]
  by_cases p3:s.Pc=3
  · have p3':(s.Pc == 3)=true:=by simpa using p3
    simp only [p3',if_true,if_pos p3,bJ,el,Option.bind_some,dA,nS,a9]
    by_cases hR:0≤s.Row∧s.Row≤(l.length:Int) - 1
    · simp only [decide_eq_true hR,Bool.not_true,Bool.false_eq_true,if_false,PX (l:=l) (k:=s.Row) (by omega),Option.bind_some]
      by_cases hH:(LB l s.Row).Handle=s.H
      · have hH':((LB l s.Row).Handle != s.H)=false:=by simpa using hH
        simp only [hH',Bool.false_eq_true,if_false,W7,Option.bind_some]
        by_cases hr:D2 (LB l s.Row) s.E
        · have ha:EZ l s∧D2 (LB l s.Row) s.E:=⟨⟨hR.1,by omega,hH⟩,hr⟩
          have e2:aX (s.Row+1)=s.Row+1:=aP (by omega) (by omega)
          have hlive:=(hb.2 _ (hfl _ (aMC (l:=l) (k:=s.Row) (by omega)))).1
          rw [hH] at hlive
          have et:(s.Row+1).toNat=s.Row.toNat+1:=by omega
          simp only [decide_eq_true hr,Bool.not_true,Bool.false_eq_true,if_false,if_pos ha,e2,dB,if_pos hlive.1,Option.bind_some,aMB hm hw hlive,et]
          rw [aU (by omega),aU (by omega),aU (by omega),del_eq (by omega)]
        · have ha:¬(EZ l s∧D2 (LB l s.Row) s.E):=fun h=>hr h.2
          simp only [decide_eq_false hr,Bool.not_false,if_true,if_neg ha,Option.bind_some];rfl
      · have hH':((LB l s.Row).Handle != s.H)=true:=by simpa using hH
        have ha:¬(EZ l s∧D2 (LB l s.Row) s.E):=fun h=>hH h.1.2.2
        simp only [hH',if_true,if_neg ha,Option.bind_some];rfl
    · have ha:¬(EZ l s∧D2 (LB l s.Row) s.E):=fun h=>hR ⟨h.1.1,by have:=h.1.2.1;omega⟩
      simp only [decide_eq_false hR,Bool.not_false,if_true,if_neg ha,Option.bind_some];rfl
  · have p3':(s.Pc == 3)=false:=by simpa using p3
    simp only [p3',Bool.false_eq_true,if_false,if_neg p3];rfl
def l7(b:aI)(w:Int)(s:Sub):aI×Sub:=
  if s.cQ then (b,s) else if s.Kind=1 then F7 b w s else if s.Kind=2 then PW b w s else if s.Kind=3 then D0 b s else if s.Kind=4 then LC b w s else if s.Kind=5 then aFM b w s else (b,AV s 1)
theorem aBW{b:aI}(hb:eQ b){w:Int}(hw:0≤w∧w≤2)(s:Sub):vA b w s=some (l7 b w s):=by
  unfold vA l7
  rw [aIL hb.1.1 hw,aFN hb hw,aDO hb.1.2.1,aDQ hb hw,aOI hb.1.2.1 hw]
  simp only [Option.bind_some,a9]
  cases s.cQ
  · simp only [Bool.false_eq_true,if_false,beq_iff_eq]
    split <;> (try rfl)
    split <;> (try rfl)
    split <;> (try rfl)
    split <;> (try rfl)
    split <;> rfl
  · rfl
theorem UD{b:aI}(hb:eQ b){w:Int}(hw:0≤w∧w≤2)(s:Sub):eQ (l7 b w s).1:=by
  obtain⟨x,y,e1,_,h⟩:=step_eq hb hb.small hw s
  rw [aBW hb hw] at e1
  injection e1 with e1
  rw [e1];exact h
end Go.Gv
end
noncomputable section
set_option linter.unusedVariables false
set_option linter.unusedSimpArgs false
set_option linter.unusedSectionVars false
namespace Go.Gv
def aHS:aB:=⟨List.replicate 384 0,[-1,-1,-1,-1,-1,-1]⟩
def aQ3:aA:=⟨List.replicate 3 ⟨[]⟩,List.replicate 9 ⟨[]⟩⟩
def aMD:aI:=⟨⟨aHS,aQ3⟩,⟨0,List.replicate 3 ⟨false,0,false,0⟩⟩,List.replicate 3 ⟨[]⟩,List.replicate 3 0⟩
theorem BL:w9=some aHS:=by
  unfold w9
  have key:loop oR (0,[])=some (List.replicate 6 (-1)):=iB (f:=oR) 6 (fun k=>((k:Int),List.replicate k (-1))) _ (fun k hk=>by
    simp only [oR]
    rw [if_pos (by simp;omega),aU (by simp;omega),aP (by omega) (by omega),List.replicate_succ'];rfl) (by simp [oR])
  rw [aU (by omega),key];rfl
theorem aQ4:xG [-1] 6=some [-1,-1,-1,-1,-1,-1]:=by
  unfold xG
  rw [if_neg (by simp),show MT (IntKind.u64.wrap (([-1]:List Int).length:Int)) (IntKind.u64.wrap 6)=some (0,6) by kernel_rfl]
  simp only [Option.bind_some]
  rw [if_neg (by simp),decide_eq_false (by omega)]
  simp only [qY,Bool.false_eq_true,if_false]
  rw [show IntKind.i64.wrap 6=6 from wrap_i64 (by omega) (by omega),aU (by omega),
    show(cX (List.replicate (Int.toNat 6) 0) 0 [-1],((min ([-1]:List Int).length ((List.replicate (Int.toNat 6) (0:Int)).length - 0):Nat):Int))=([-1,0,0,0,0,0],1) by kernel_rfl,
    bT (body:=iJ) (s':=([-1,-1,0,0,0,0],2)) (by kernel_rfl),bT (body:=iJ) (s':=([-1,-1,-1,-1,0,0],4)) (by kernel_rfl),
    bT (body:=iJ) (s':=([-1,-1,-1,-1,-1,-1],6)) (by kernel_rfl),bN (body:=iJ) (r:=[-1,-1,-1,-1,-1,-1]) (by kernel_rfl)]
  rfl
theorem TF:HN=some aHS:=by
  unfold HN
  rw [aU (by omega),aQ4];rfl
theorem aFO:CG=some aMD∧O2=some aMD:=by
  unfold CG O2 AN RM pB MV tL MW tM MX AO RN
  rw [BL,TF,aU (by omega),aU (by omega),aU (by omega),aU (by omega),aU (by omega)]
  exact⟨rfl,rfl⟩
theorem aME:eQ aMD:=of_decide_eq_true (by kernel_rfl)
end Go.Gv
end
noncomputable section
set_option linter.unusedVariables false
set_option linter.unusedSimpArgs false
set_option linter.unusedSectionVars false
namespace Go.Gv
def aHT(s:pZ):Prop:=kS s.aI∧s.Cells.length≤1048576∧s.YJ.length≤1048576∧s.SW.length≤1048576∧(∀q∈s.SW,q.OA.length≤1048576)∧s.Log.length≤1048576
theorem aHT.fits{s:pZ}(h:aHT s):s.aI.Mem.aB.Bytes.length≤maxLen∧(dF s.aI.Mem.aA).length≤1073741824∧s.aI.aC.aN.length≤maxLen∧s.aI.aJ.length≤maxLen∧(bH s.aI.aJ).length≤1073741824∧s.aI.cA.length≤maxLen:=by
  obtain⟨⟨⟨a1,a2,a3,a4,a5⟩,b1,b2,b3,b4⟩,_⟩:=h
  simp only [maxLen];omega
end Go.Gv
end
noncomputable section
set_option linter.unusedVariables false
set_option linter.unusedSimpArgs false
set_option linter.unusedSectionVars false
namespace Go.Gv
theorem aPH{h:aB}{s:Int}(hcl:0≤bB h s):(eW s (bB h s)).toNat+8≤384∧8≤fJ (bB h s)∧fJ (bB h s)≤40:=by
  have hc2:0≤bB h s∧bB h s≤2:=by
    obtain⟨_,q,e⟩:=uP hcl
    rw [e];exact iM.1 (by omega)
  have hz:8≤fJ (bB h s)∧fJ (bB h s)≤40:=by rcases eV hc2 with e | e | e <;> rw [e] <;> decide
  obtain⟨p,i,p6,hi,es,ec,eo,ep⟩:=AU hcl
  refine⟨?_,hz⟩
  rw [eo]
  have hcl':0≤bQ h p∧bQ h p≤2:=by rw [←ec];exact hc2
  generalize bQ h p=c at hi hcl'
  rcases eV hcl' with rfl | rfl | rfl
  · rw [show(bX 0).toNat=4 from rfl] at hi;rw [show(aT 0).toNat=12 from rfl];omega
  · rw [show(bX 1).toNat=2 from rfl] at hi;rw [show(aT 1).toNat=20 from rfl];omega
  · rw [show(bX 2).toNat=1 from rfl] at hi;rw [show(aT 2).toNat=44 from rfl];omega
structure JR where
  b:aI
  c:List Int
  j:MG
  l:List Ev
def aDR(kind a:Int):Sub:=⟨kind,a,0,0,0,0,0,0,0,false⟩
noncomputable section
variable (s:pZ) (w:Int) (j:MG)
end
def aHU(s:pZ)(w:Int):MG:=s.YJ.getD w.toNat aPG
noncomputable section
variable {s:pZ} (hs:SOk s) (hl:s.Log.length≤1000000000) {w:Int} (hw:0≤w∧w≤2) {j:MG} (hjo:Z8 j.Op∧kM j.H∧kM j.Old)
include hs
include hw
include hl hjo
omit hjo
end
end Go.Gv
end
noncomputable section
set_option linter.unusedVariables false
set_option linter.unusedSimpArgs false
set_option linter.unusedSectionVars false
namespace Go.Gv
noncomputable section
variable {b:aI} (hb:eQ b)
include hb
theorem eQ.fits:b.Mem.aB.Bytes.length≤maxLen∧(dF b.Mem.aA).length≤1073741824∧b.aC.aN.length≤maxLen∧b.aJ.length≤maxLen∧(bH b.aJ).length≤1073741824∧b.cA.length≤maxLen:=by
  obtain⟨h1,h2,h3,h4,_⟩:=kO.facts hb.1.1
  have a:=hb.1.2.1.2.1;have c:=hb.1.2.2.1.1;have d:=hb.1.2.2.1.2.1;have e:=hb.1.2.2.2.1
  simp only [maxLen];omega
end
end Go.Gv
end
noncomputable section
set_option linter.unusedVariables false
set_option linter.unusedSimpArgs false
set_option linter.unusedSectionVars false
namespace Go.Gv
def fB{α:Type}(o:Option α)(Q:α→Prop):Prop:=∃x,o=some x∧Q x
abbrev aAB{σ ρ:Type}(I:σ→Prop)(Q:ρ→Prop):Step σ ρ→Prop
  | .next s=>I s
  | .stop r=>Q r
namespace fB
variable {α β σ ρ:Type} {Q:α→Prop}
theorem ret{x:α}(h:Q x):fB (some x) Q:=⟨x,rfl,h⟩
theorem bind{P:β→Prop}{o:Option β}{f:β→Option α}(h:fB o P)(hf:∀x,P x→fB (f x) Q):fB (o.bind f) Q:=by
  obtain⟨x,e,hx⟩:=h
  rw [e];exact hf x hx
theorem need{p:Prop}[Decidable p]{k:Option α}(h:p)(hk:fB k Q):fB (Gv.need p k) Q:=by rw [aU h];exact hk
theorem ite{c:Prop}[Decidable c]{a b:Option α}(h1:c→fB a Q)(h2:¬c→fB b Q):fB (if c then a else b) Q:=by
  by_cases h:c
  · rw [if_pos h];exact h1 h
  · rw [if_neg h];exact h2 h
theorem mono{P:α→Prop}{o:Option α}(h:fB o P)(hf:∀x,P x→Q x):fB o Q:=by obtain⟨x,e,hx⟩:=h;exact⟨x,e,hf x hx⟩
theorem idx{l:List β}{i:Int}(h:0≤i∧i < l.length):fB (Gv.idx l i) (fun x=>x∈l):=⟨_,fI h.1 h.2,List.getElem_mem _⟩
theorem loop{Q:ρ→Prop}{f:σ→Option (Step σ ρ)}{s:σ}(μ:σ→Nat)(Inv:σ→Prop)(h0:Inv s)(hb:∀s,Inv s→fB (f s) (aAB (fun s'=>Inv s'∧μ s' < μ s) (fun r=>Q r))):fB (Gv.loop f s) Q:=by
  have key:∀n s,μ s < n→Inv s→fB (Gv.loop f s) Q:=by
    intro n
    induction n with
    | zero=>intro s h;omega
    | succ n ih =>
      intro s h hs
      obtain⟨q,e,hq⟩:=hb s hs
      cases q with
      | next s'=>rw [bT e];exact ih s' (by have:=hq.2;omega) hq.1
      | stop r=>rw [bN e];exact⟨r,rfl,hq⟩
  exact key _ s (Nat.lt_succ_self _) h0
theorem of{o:Option α}{x:α}(h:o=some x):fB o (fun y=>y=x):=⟨x,h,rfl⟩
end fB
def Cu(b:List UInt8)(i:Int):Prop:=(0≤i∧i≤b.length)∧b.length≤1048576
theorem aMF(x:Int):0≤eN .and .i64 x 255∧eN .and .i64 x 255≤255:=by
  have e:eN .and .i64 x 255=IntKind.i64.wrap ((BitVec.ofInt 64 x &&& BitVec.ofInt 64 255).toNat:Int):=rfl
  have h:(BitVec.ofInt 64 x &&& BitVec.ofInt 64 255).toNat≤255:=by
    rw [BitVec.toNat_and];exact Nat.le_trans Nat.and_le_right (by decide)
  rw [e,wrap_i64 (by omega) (by omega)];omega
noncomputable section
variable {b:List UInt8} {i h:Int} (hc:Cu b i)
include hc
theorem aDS:fB (nK ⟨b,i,h⟩) (fun x=>(0≤x.1∧x.1≤255)∧Cu b x.2.1):=by
  unfold nK w8
  obtain⟨⟨a1,a2⟩,a3⟩:=hc
  refine .ite (fun q=>?_) (fun q=>?_)
  · have q':=of_decide_eq_true q
    simp only at q'
    refine .bind (.idx ⟨a1,q'⟩) fun x _=>.ret ⟨aMF _,?_⟩
    show Cu b (aX (i+1))
    rw [aP (by omega) (by omega)]
    exact⟨by omega,a3⟩
  · exact .ret ⟨aMF _,⟨a1,a2⟩,a3⟩
theorem below{n:Int}(hn:n≤1000000):fB (aQ ⟨b,i,h⟩ n) (fun x=>(0≤x.1∧(x.1 < n∨n≤0∧x.1=0))∧Cu b x.2.1):=by
  unfold aQ
  refine .ite (fun q=>?_) (fun q=>?_)
  · have q':=of_decide_eq_true q
    exact .ret ⟨by simp;omega,hc⟩
  · have q0:0 < n:=by simpa using q
    refine .ite (fun q=>?_) (fun q=>?_)
    · refine .bind (aDS hc) fun x ⟨hx,h1⟩=>.need (by omega) (.ret ⟨?_,h1⟩)
      simp only [oX hx.1]
      exact⟨Int.emod_nonneg _ (by omega),.inl (Int.emod_lt_of_pos _ q0)⟩
    · refine .bind (aDS hc) fun x ⟨hx,h1⟩=>.bind (aDS h1) fun y ⟨hy,h2⟩=>.bind (aDS h2) fun z ⟨hz,h3⟩=>.bind (aDS h3) fun w ⟨hw,h4⟩=>.need (by omega) (.ret ⟨?_,h4⟩)
      have e:aX (aX (aX (aX (x.1 * 16777216)+aX (y.1 * 65536))+aX (z.1 * 256))+w.1)=x.1 * 16777216+y.1 * 65536+z.1 * 256+w.1:=by
        rw [aP (x:=x.1 * 16777216) (by omega) (by omega),aP (x:=y.1 * 65536) (by omega) (by omega),aP (x:=z.1 * 256) (by omega) (by omega),aP (x:=x.1 * 16777216+y.1 * 65536) (by omega) (by omega),aP (x:=x.1 * 16777216+y.1 * 65536+z.1 * 256) (by omega) (by omega),aP (by omega) (by omega)]
      simp only [e]
      rw [oX (by omega)]
      exact⟨Int.emod_nonneg _ (by omega),.inl (Int.emod_lt_of_pos _ q0)⟩
theorem aAC{n:Int}(hn:n≤1000000):fB (nL ⟨b,i,h⟩ n) (fun x=>Cu b x.2.1):=
  .bind (below hc hn) fun _ ⟨_,h1⟩=>.ret h1
theorem LD{l:List Int}(hl:0 < l.length)(hl2:l.length≤1000):fB (dZ ⟨b,i,h⟩ l) (fun x=>x.1∈l∧Cu b x.2.1):=
  .bind (below hc (by omega)) fun x ⟨hx,h1⟩=>.bind (.idx (by omega)) fun y hy=>.ret ⟨hy,h1⟩
end
theorem aQ5{code:List UInt8}(hl:code.length≤1048576):fB (yP code) (fun x=>Cu code x.1):=by
  unfold yP
  refine .bind (P:=fun _=>True) (.loop (fun s=>code.length - s.2.toNat) (fun s=>0≤s.2∧s.2≤code.length) ⟨by simp,by simp⟩ ?_) fun x _=>.ret ⟨⟨by simp,by simp⟩,hl⟩
  rintro⟨a,k⟩ ⟨h1,h2⟩
  simp only [MU,zP]
  simp only at h1 h2
  have nx:k < code.length→fB ((idx code k).bind fun x7=>some (Step.next (eN .and .i64 (aX ((aX ((aX (a * 131))+(x7.toNat:Int)))+7)) 1073741823,aX (k+1)))) (aAB (ρ:=Int) (fun s'=>(0≤s'.2∧s'.2≤code.length)∧code.length - s'.2.toNat < code.length - k.toNat) (fun r=>True)):=fun hk=>by
    refine .bind (.idx ⟨h1,hk⟩) fun x _=>.ret ?_
    rw [aP (x:=k+1) (by omega) (by omega)]
    refine⟨⟨?_,?_⟩,?_⟩ <;> (try simp only) <;> omega
  refine .ite (fun q=>?_) (fun q=>?_)
  · have q':=of_decide_eq_true q
    exact .ite (fun _=>nx q') (fun _=>.ret trivial)
  · rw [if_neg (by simp)];exact .ret trivial
end Go.Gv
end
noncomputable section
set_option linter.unusedVariables false
set_option linter.unusedSimpArgs false
set_option linter.unusedSectionVars false
namespace Go.Gv
def aBX(j:MG):Prop:=j.aBA=true∧(j.Op.Kind=2∨j.Op.Kind=5)∧j.Pc=0
def Adv(j:MG):Prop:=j.aBA=true∧j.Op.Kind=4∧j.Pc=0
def JI(e:Int)(p:dS)(j:MG):Prop:=j.aBA=true →
  (j.Op.Kind=1→j.Sub.Kind=1∨j.Sub.Kind=2)∧(j.Op.Kind=4→j.Pc=1→j.Sub.Kind=4) ∧
  (Adv j→j.Sub.Kind=3∧j.Sub.cQ=false∧(j.Sub.Pc=0∨j.Sub.E≤e∧(j.Sub.Pc=1∧(0≤j.Sub.B∧j.Sub.B≤2)∨j.Sub.Pc=2∧j.Sub.B=3))) ∧
  (aBX j→j.Sub.Kind=5∧j.Sub.cQ=false∧(j.Sub.Pc=0∨j.Sub.Pc=1∧(0≤j.Sub.E∧j.Sub.E≤e)∨j.Sub.Pc=2∧p.aE=j.Sub.E))
def Ep(c:aC)(J:Int→MG):Prop:=(∀w,0≤w∧w≤2→JI c.aE (eC c w) (J w))∧∀p,0≤p∧p≤2→¬aBX (J p)→(eC c p).On=true→(eC c p).d5=false→c.aE≤(eC c p).aE+1∧(c.aE=(eC c p).aE+1→∀a,0≤a∧a≤2→Adv (J a)→(J a).Sub.Pc≠0→(J a).Sub.E=c.aE→(J a).Sub.B≤p)
def upJ(J:Int→MG)(w:Int)(j:MG):Int→MG:=fun v=>if v=w then j else J v
theorem W8(J:Int→MG)(w:Int)(j:MG):upJ J w j w=j:=if_pos rfl
theorem Q7(J:Int→MG){w v:Int}(j:MG)(h:v≠w):upJ J w j v=J v:=if_neg h
noncomputable section
variable {c:aC} {J:Int→MG} (h:Ep c J)
include h
theorem Ep.congr{J':Int→MG}(e:∀v,0≤v∧v≤2→J' v=J v):Ep c J':=by
  refine⟨fun w hw=>by rw [e w hw];exact h.1 w hw,fun p hp hn h1 h2=>?_⟩
  rw [e p hp] at hn
  obtain⟨a1,a2⟩:=h.2 p hp hn h1 h2
  exact⟨a1,fun q a ha=>by rw [e a ha];exact a2 q a ha⟩
variable {w:Int} (hw:0≤w∧w≤2) {j:MG}
include hw
theorem Ep.step{c':aC}(he:c'.aE=c.aE)(hp:∀v,0≤v∧v≤2→v≠w→eC c' v=eC c v)(hj:JI c.aE (eC c' w) j)
    (h2:¬aBX j→(eC c' w).On=true→(eC c' w).d5=false→c.aE≤(eC c' w).aE+1∧(c.aE=(eC c' w).aE+1→∀a,0≤a∧a≤2→a≠w→Adv (J a)→(J a).Sub.Pc≠0→(J a).Sub.E=c.aE→(J a).Sub.B≤w))
    (ha:Adv j→j.Sub.Pc=0∨j.Sub.B=0):Ep c' (upJ J w j):=by
  constructor
  · intro v hv
    rw [he]
    by_cases q:v=w
    · subst q;rw [W8];exact hj
    · rw [Q7 _ _ q,hp v hv q];exact h.1 v hv
  · intro p hpr hn o1 o2
    rw [he]
    have hadv:∀a,0≤a∧a≤2→(∀q:a≠w,Adv (J a)→(J a).Sub.Pc≠0→(J a).Sub.E=c.aE→(J a).Sub.B≤p)→Adv (upJ J w j a)→(upJ J w j a).Sub.Pc≠0→(upJ J w j a).Sub.E=c.aE→(upJ J w j a).Sub.B≤p:=by
      intro a har hk
      by_cases q:a=w
      · subst q
        rw [W8]
        intro x1 x2 _
        rcases ha x1 with y | y
        · exact absurd y x2
        · omega
      · rw [Q7 _ _ q];exact hk q
    by_cases q:p=w
    · subst q
      rw [W8] at hn
      obtain⟨a1,a2⟩:=h2 hn o1 o2
      exact⟨a1,fun e a har=>hadv a har (fun q=>a2 e a har q)⟩
    · rw [Q7 _ _ q] at hn
      rw [hp p hpr q] at o1 o2 ⊢
      obtain⟨a1,a2⟩:=h.2 p hpr hn o1 o2
      exact⟨a1,fun e a har=>hadv a har (fun _=>a2 e a har)⟩
end
end Go.Gv
end
noncomputable section
set_option linter.unusedVariables false
set_option linter.unusedSimpArgs false
set_option linter.unusedSectionVars false
namespace Go.Gv
noncomputable section
variable (s:pZ) (w:Int) (j:MG)
end
noncomputable section
variable {s:pZ} (hs:SOk s) {w:Int} (hw:0≤w∧w≤2) (h:Ep s.aI.aC (aHU s))
include hs hw h
end
def aMG(s:pZ)(k:Nat):Prop:=(eC s.aI.aC k).On=true∧(aHU s k).aBA=false
instance (s:pZ) (k:Nat):Decidable (aMG s k):=by unfold aMG;infer_instance
end Go.Gv
end
noncomputable section
set_option linter.unusedVariables false
set_option linter.unusedSimpArgs false
set_option linter.unusedSectionVars false
namespace Go.Gv
def Hk(h:aB):Prop:=h.Bytes.length=384∧h.Class.length=6
def Wk(m:Mem):Prop:=Hk m.aB∧m.aA.Global.length=3∧m.aA.aR.length=9∧(dF m.aA).length≤24
theorem kO.wk{m:Mem}(hm:kO m):Wk m:=by obtain⟨a,b,c,d,e,_⟩:=kO.facts hm;exact⟨⟨d,e⟩,b,c,a⟩
theorem Wk.small{m:Mem}(h:Wk m):lZ m:=by obtain⟨⟨a,b⟩,c,d,e⟩:=h;exact⟨by omega,by omega,by omega,by omega,by omega⟩
theorem Wk.aAD{m:Mem}(h:Wk m):qC m=some (decide (kO m)):=by
  obtain⟨⟨a,b⟩,c,d,e⟩:=h
  exact FW (by rw [a];simp [maxLen]) (by omega)
theorem aQ7{m:Mem}(h:Wk m){w n:Int}:fB (lV m w n) (fun x=>Wk x.1):=by
  unfold lV
  obtain⟨c,ec,_,hr⟩:=W3 n
  rw [vY h.small,Option.bind_some,ec,Option.bind_some,h.aAD,Option.bind_some]
  by_cases hm:kO m
  rotate_left
  · rw [decide_eq_false hm,if_pos (by simp)];exact .ret h
  rw [decide_eq_true hm,if_neg (by simp),bJ,Option.bind_some]
  by_cases hw:0≤w∧w≤2
  rotate_left
  · rw [decide_eq_false hw];exact .ret h
  rw [decide_eq_true hw]
  unfold mZ
  rw [if_neg (by simp)]
  refine .ite (fun _=>.ret h) fun q=>?_
  have hc0:¬c < 0:=by simpa using q
  have hc:0≤c∧c≤2:=by omega
  have take:∀m:Mem,kO m→∃t x,r5 m.aA w c=some (⟨m.aA.Global,m.aA.aR.set (w * 3+c).toNat t⟩,x)∧(0≤x→0≤bB m.aB x)∧kO ⟨m.aB,⟨m.aA.Global,m.aA.aR.set (w * 3+c).toNat t⟩⟩:=fun m hm=>by
    obtain⟨l,t,x,e1,e2,_,_,e3,e4⟩:=H4 hm hw hc
    obtain⟨hcnt,h3,h9,h1,h2,hsm,hcp,hlo,hsG,hsO⟩:=kO.facts hm
    refine⟨t,x,?_,e3,e4.1⟩
    unfold r5 oV
    rw [pH (by omega) (by omega) (fun s h=>by have:=hsG s h;omega) (fun s h=>by have:=hsO s h;omega),Option.bind_some,(xT hw hc).1,Option.bind_some,lE (by omega),decide_eq_true hm.1.2,Option.bind_some,if_neg (by simp),decide_eq_false (by omega),if_neg (by simp),e1,Option.bind_some,e2,Option.bind_some]
  have takeG:∀m:Mem,kO m→∃t x,lB m.aA c=some (⟨m.aA.Global.set c.toNat t,m.aA.aR⟩,x)∧(0≤x→0≤bB m.aB x)∧kO ⟨m.aB,⟨m.aA.Global.set c.toNat t,m.aA.aR⟩⟩:=fun m hm=>by
    obtain⟨l,t,x,e1,e2,_,_,e3,e4⟩:=z7 hm hc
    obtain⟨hcnt,h3,h9,h1,h2,hsm,hcp,hlo,hsG,hsO⟩:=kO.facts hm
    refine⟨t,x,?_,e3,e4.1⟩
    unfold lB kE
    rw [pH (by omega) (by omega) (fun s h=>by have:=hsG s h;omega) (fun s h=>by have:=hsO s h;omega),Option.bind_some,lE (by omega),decide_eq_true hm.1.2,Option.bind_some,if_neg (by simp),bJ,decide_eq_true hc,Option.bind_some,if_neg (by simp),e1,Option.bind_some,e2,Option.bind_some]
  have fin:∀(x:Int) (m:Mem),kO m→(0≤x→0≤bB m.aB x)→fB (gY x m) (fun x=>Wk x.1):=fun x m hm hx=>by
    unfold gY
    refine .ite (fun _=>.ret hm.wk) fun q=>?_
    obtain⟨v,e,_⟩:=Z5 hm.1.1.1 (hx (by simpa using q))
    rw [e,Option.bind_some]
    exact .ret hm.wk
  have aHO:∀(x:Int) (M:Mem) (g o:List aD),kO ⟨M.aB,⟨g,o⟩⟩→(0≤x→0≤bB M.aB x)→fB (gZ c x M g o) (fun x=>Wk x.1):=fun x M g o hm hx=>by
    unfold gZ
    refine .ite (fun _=>?_) fun _=>fin x _ hm hx
    obtain⟨m',s,e1,_,_,e2,e3⟩:=PR hm hc
    rw [e1,Option.bind_some]
    exact fin s m' e3.1 (fun q=>(e2 q).2)
  obtain⟨t,x,e1,e2,e3⟩:=take m hm
  rw [e1,Option.bind_some]
  refine .ite (fun q=>?_) fun q=>aHO x _ _ _ e3 e2
  obtain⟨t',x',f1,f2,f3⟩:=takeG _ e3
  simp only at f1
  rw [f1,Option.bind_some]
  exact aHO x' _ _ _ f3 f2
theorem aSS{m:Mem}(h:Wk m){w x:Int}:fB (CI m w x) (fun x=>Wk x.1):=by
  unfold CI
  rw [vY h.small,Option.bind_some,h.aAD,Option.bind_some]
  by_cases hm:kO m
  rotate_left
  · rw [decide_eq_false hm,if_pos (by simp)];exact .ret h
  rw [decide_eq_true hm,if_neg (by simp),bJ,Option.bind_some]
  by_cases hw:0≤w∧w≤2
  rotate_left
  · rw [decide_eq_false hw];exact .ret h
  rw [decide_eq_true hw]
  unfold uL
  obtain⟨hcnt,h3,h9,h1,h2,hsm,hcp,hlo,hsG,hsO⟩:=kO.facts hm
  rw [if_neg (by simp),lF hm.1.1.1 (by omega) (by simp only [maxLen];omega) (by simp only [maxLen];omega),Option.bind_some]
  by_cases hv:nC m x
  rotate_left
  · rw [decide_eq_false hv];exact .ret h
  obtain⟨m',e1,_,_,e2⟩:=aHP hm hw hv
  rw [decide_eq_true hv,if_neg (by simp),dB,if_pos hv.1,Option.bind_some,e1,Option.bind_some]
  exact .ret e2.1.wk
theorem aDT{b:List Int}{a w n:Int}(ha:0≤a)(hw:1≤w∧w≤7)(h:a+w≤b.length)(hl:b.length≤1000):fB (hJ b a w n) (fun x=>x.length=b.length):=by
  unfold hJ
  rw [aP (x:=w - 1) (by omega) (by omega)]
  refine .bind (P:=fun x=>x.length=b.length) (.loop (fun s=>(s.2.2+1).toNat) (fun s=>s.1.length=b.length∧-1≤s.2.2∧s.2.2≤w - 1) ⟨rfl,by (try simp only);omega⟩ ?_) fun x hx=>.ret hx
  rintro⟨l,v,k⟩ ⟨h1,h2,h3⟩
  simp only at h1 h2 h3
  simp only [oL]
  refine .ite (fun q=>?_) (fun q=>.ret h1)
  have q':=of_decide_eq_true q
  rw [aP (x:=a+k) (by omega) (by omega),aP (x:=k - 1) (by omega) (by omega)]
  refine .bind (.idx (by omega)) fun x _=>.ret ⟨⟨by simpa using h1,by (try simp only);omega⟩,by (try simp only);omega⟩
theorem aQ8{n w:Int}(hw:1≤w∧w≤7):fB (vB n w) (fun _=>True):=by
  unfold vB
  rw [bJ,decide_eq_true hw,Option.bind_some,if_neg (by simp)]
  unfold tB
  refine .ite (fun _=>.ret trivial) fun _=>?_
  refine .bind (P:=fun _=>True) (.loop (fun s=>100 - (s.2.2).toNat) (fun s=>(s.2.1.length:Int)=s.2.2∧s.2.2≤w) ⟨rfl,by (try simp only);omega⟩ ?_) ?_
  · rintro⟨x,l,k⟩ ⟨h1,h2⟩
    simp only at h1 h2
    simp only [tA]
    refine .ite (fun q=>?_) (fun q=>.ret trivial)
    have q':=of_decide_eq_true q
    refine .need (by simp;omega) (.ret ?_)
    rw [aP (x:=k+1) (by omega) (by omega)]
    exact⟨⟨by simp;omega,by (try simp only);omega⟩,by (try simp only);omega⟩
  · rintro⟨x,l⟩ _
    simp only [FA,E9]
    exact .ite (fun _=>.ret trivial) fun _=>.ret trivial
theorem aST{h:aB}{s:Int}(hcl:0≤bB h s):eW s (bB h s)+4+fJ (bB h s)≤384:=by
  have hc2:0≤bB h s∧bB h s≤2:=by
    obtain⟨_,q,e⟩:=uP hcl
    rw [e];exact iM.1 (by omega)
  obtain⟨p,i,p6,hi,es,ec,eo,ep⟩:=AU hcl
  have hgo:=zZ hcl
  have hcl':0≤bQ h p∧bQ h p≤2:=by rw [←ec];exact hc2
  rw [ec] at eo hgo ⊢
  generalize bQ h p=c at hi hcl' eo hgo
  rcases eV hcl' with rfl | rfl | rfl
  · rw [show(bX 0).toNat=4 from rfl] at hi;rw [show(aT 0).toNat=12 from rfl] at eo;rw [show fJ 0=8 from rfl];omega
  · rw [show(bX 1).toNat=2 from rfl] at hi;rw [show(aT 1).toNat=20 from rfl] at eo;rw [show fJ 1=16 from rfl];omega
  · rw [show(bX 2).toNat=1 from rfl] at hi;rw [show(aT 2).toNat=44 from rfl] at eo;rw [show fJ 2=40 from rfl];omega
theorem aQ9{m:Mem}(h:Wk m){x a w n:Int}(hw:1≤w∧w≤7):fB (nT m x a w n) (fun x=>Wk x.1):=by
  unfold nT EL
  rw [vY h.small,Option.bind_some,h.aAD,Option.bind_some,bJ]
  by_cases hm:kO m
  rotate_left
  · rw [decide_eq_false hm,if_pos (by simp)];exact .ret h
  rw [decide_eq_true hm,if_neg (by simp),decide_eq_true hw,Option.bind_some]
  obtain⟨hcnt,h3,h9,h1,h2,hsm,hcp,hlo,hsG,hsO⟩:=kO.facts hm
  have hs:=hm.1.1.1
  unfold qM
  rw [if_neg (by simp),lF hs (by omega) (by simp only [maxLen];omega) (by simp only [maxLen];omega),Option.bind_some]
  by_cases hv:nC m x
  rotate_left
  · rw [decide_eq_false hv];exact .ret h
  have hcl:=vX hv.2.1
  obtain⟨hroom,hz⟩:=aPH hcl
  have hgo:=zZ hcl
  rw [decide_eq_true hv,if_neg (by simp),dB,if_pos hv.1,Option.bind_some,gN hs,Option.bind_some,xQ,Option.bind_some,bJ,Option.bind_some,aP (x:=fJ (bB m.aB (x % 32)) - 1) (by omega) (by omega)]
  by_cases ha:0≤a∧a≤fJ (bB m.aB (x % 32)) - 1
  rotate_left
  · rw [decide_eq_false ha,if_pos (by simp)];exact .ret h
  rw [decide_eq_true ha,if_neg (by simp),Option.bind_some,aP (x:=fJ (bB m.aB (x % 32)) - a) (by omega) (by omega)]
  by_cases hb:fJ (bB m.aB (x % 32)) - a < w
  · rw [decide_eq_true hb];exact .ret h
  rw [decide_eq_false hb]
  unfold qL
  rw [if_neg (by simp),(start_eq hs hcl).1,Option.bind_some,Option.bind_some,if_neg (by simp)]
  refine .bind (aQ8 hw) fun t _=>.ite (fun _=>.ret h) fun _=>?_
  have room:eW (x % 32) (bB m.aB (x % 32))+4+fJ (bB m.aB (x % 32))≤384:=aST hcl
  refine .bind (aDT (a:=aX (eW (x % 32) (bB m.aB (x % 32))+4+a)) (by rw [aP (by omega) (by omega)];omega) hw (by rw [aP (by omega) (by omega)];omega) (by omega)) fun y hy=>.ret ⟨⟨by (try simp only);omega,h.1.2⟩,h.2⟩
noncomputable section
variable {b:List UInt8} {i h:Int} (hc:Cu b i)
include hc
theorem aBY:fB (pC ⟨b,i,h⟩) (fun x=>Cu b x.2.1):=by
  unfold pC
  refine .bind (aAC hc (by omega)) fun x1 h1=>.ite (fun _=>.bind (LD h1 (by decide) (by decide)) fun x ⟨_,h2⟩=>.ret h2) fun _=>.bind (below h1 (by omega)) fun x3 ⟨_,h3⟩=>.bind (below h3 (by omega)) fun x4 ⟨_,h4⟩=>?_
  unfold jN gX
  rw [bJ,Option.bind_some,bJ,Option.bind_some]
  refine .bind (P:=fun _=>True) (.ite (fun _=>.ite (fun _=>.ret trivial) fun _=>.ret trivial) fun _=>.ite (fun _=>.ret trivial) fun _=>.ret trivial) fun x _=>.ret h4
theorem aSU{m:Int}(hm:m≤1000):fB (ES ⟨b,i,h⟩ m) (fun x=>Wk x.1∧Cu b x.2.2.1):=by
  unfold ES AN
  rw [BL,Option.bind_some]
  unfold pB rZ
  rw [aU (by omega),aU (by omega),Option.bind_some,Option.bind_some]
  have h0:Wk ⟨aHS,⟨List.replicate (3:Int).toNat ⟨[]⟩,List.replicate (9:Int).toNat ⟨[]⟩⟩⟩:=⟨⟨List.length_replicate,rfl⟩,rfl,rfl,by decide⟩
  refine .bind (below hc (by omega)) fun x2 ⟨hx2,h2⟩=>?_
  refine .bind (P:=fun x=>(1≤x.1.length∧x.1.length≤2000)∧Cu b x.2.1∧Wk x.2.2.2) (.loop (fun s=>s.2.1.toNat) (fun s=>(0≤s.2.1∧1≤s.1.length∧(s.1.length:Int)+s.2.1≤1500)∧Cu b s.2.2.1∧Wk s.2.2.2.2) ⟨⟨hx2.1,by simp,by simp;omega⟩,h2,h0⟩ ?_) ?_
  · rintro⟨l,n,i1,h1,m1⟩ ⟨⟨n0,l1,l2⟩,c1,w1⟩
    simp only at n0 l1 l2 c1 w1
    simp only [J8]
    refine .ite (fun q=>?_) (fun q=>.ret ⟨by (try simp only);omega,c1,w1⟩)
    have q':=of_decide_eq_true q
    have nx:∀(l':List Int) (i' h':Int) (m':Mem),l'.length≤l.length+1→1≤l'.length→Cu b i'→Wk m'→fB (m3 n l' i' h' m') (aAB (fun s'=>((0≤s'.2.1∧1≤s'.1.length∧(s'.1.length:Int)+s'.2.1≤1500)∧Cu b s'.2.2.1∧Wk s'.2.2.2.2)∧s'.2.1.toNat < n.toNat) (fun x=>(1≤x.1.length∧x.1.length≤2000)∧Cu b x.2.1∧Wk x.2.2.2)):=fun l' i' h' m' a1 a2 a3 a4=>by
      unfold m3
      rw [aP (by omega) (by omega)]
      exact .ret ⟨⟨⟨by (try simp only);omega,a2,by (try simp only);omega⟩,a3,a4⟩,by (try simp only);omega⟩
    have body:∀(z:Bool) (i' h':Int),Cu b i'→fB (qX ⟨b,i,h⟩ l n z i' h' m1) (aAB (fun s'=>((0≤s'.2.1∧1≤s'.1.length∧(s'.1.length:Int)+s'.2.1≤1500)∧Cu b s'.2.2.1∧Wk s'.2.2.2.2)∧s'.2.1.toNat < n.toNat) (fun x=>(1≤x.1.length∧x.1.length≤2000)∧Cu b x.2.1∧Wk x.2.2.2)):=fun z i' h' c2=>by
      unfold qX DC
      refine .ite (fun _=>?_) (fun _=>?_)
      · exact .bind (below c2 (by omega)) fun x35 ⟨_,c3⟩=>.bind (below c3 (by omega)) fun x36 ⟨hx,c4⟩=>.bind (.idx (by omega)) fun x37 _=>.bind (aSS w1) fun x38 w2=>nx _ _ _ _ (by omega) l1 c4 w2
      · refine .bind (below c2 (by omega)) fun x53 ⟨_,c3⟩=>.bind (below c3 (by omega)) fun x54 ⟨_,c4⟩=>.bind (aQ7 w1) fun x55 w2=>?_
        unfold DE DD
        refine .ite (fun _=>.need (by simp;omega) ?_) (fun _=>nx _ _ _ _ (by omega) l1 c4 w2)
        exact .bind (below c4 (by omega)) fun x49 ⟨_,c5⟩=>.bind (below c5 (by omega)) fun x50 ⟨hx,c6⟩=>.bind (below c6 (by omega)) fun x51 ⟨_,c7⟩=>.bind (aQ9 w2 (by rw [aP (by omega) (by omega)];omega)) fun x52 w3=>nx _ _ _ _ (by simp) (by simp) c7 w3
    exact .bind (aAC c1 (by omega)) fun x56 c2=>.ite (fun _=>body _ _ _ c2) fun _=>body _ _ _ c2
  · rintro⟨l,i1,h1,m1⟩ ⟨⟨l1,l2⟩,c1,w1⟩
    simp only at l1 l2 c1 w1
    simp only [J9,J7,DB]
    exact .bind (below c1 (by omega)) fun x21 ⟨hx,c2⟩=>.bind (.idx (by omega)) fun x22 _=>.ret ⟨w1,c2⟩
omit hc in
theorem Hk.aAD{h:aB}(hh:Hk h):vM h=some (decide (N9 h)):=K2 (by rw [hh.1];simp [maxLen])
omit hc in
theorem aRA{h:aB}(hh:Hk h){c:Int}:fB (HI h c) (fun x=>Hk x.1∧x.2.length≤4):=by
  unfold HI zQ
  rw [HZ (by have:=hh.1;omega) (by have:=hh.2;omega),Option.bind_some,hh.aAD,Option.bind_some]
  by_cases ho:N9 h
  rotate_left
  · rw [decide_eq_false ho,if_pos (by simp)];exact .ret ⟨hh,by simp⟩
  rw [decide_eq_true ho,if_neg (by simp),bJ,Option.bind_some]
  by_cases hcl:0≤c∧c≤2
  rotate_left
  · rw [decide_eq_false hcl];exact .ret ⟨hh,by simp⟩
  rw [decide_eq_true hcl,if_neg (by simp)]
  have:=jL c
  rcases aDJ ho hcl with ⟨e,_⟩ | ⟨p,_,_,e,_⟩
  · rw [e,Option.bind_some];exact .ret ⟨hh,by simp⟩
  · rw [e,Option.bind_some];exact .ret ⟨⟨by simp only [DX];exact hh.1,by simpa using hh.2⟩,by simp only [DY];omega⟩
omit hc in
theorem aOJ{h:aB}(hh:Hk h){s g:Int}:fB (ET h s g) (fun x=>Hk x.1):=by
  unfold ET xB HJ
  rw [HZ (by have:=hh.1;omega) (by have:=hh.2;omega),Option.bind_some,I7 (by rw [hh.1];simp [maxLen]),Option.bind_some]
  by_cases ho:dE h
  rotate_left
  · rw [decide_eq_false ho,if_pos (by simp),Option.bind_some,if_pos (by decide)];exact .ret hh
  rw [decide_eq_true ho,if_neg (by simp),gN ho,Option.bind_some,Option.bind_some,Option.bind_some]
  refine .ite (fun _=>.ret hh) fun q=>?_
  have hcl:0≤bB h s:=by simpa using q
  have hgo:=zZ hcl
  obtain⟨hroom,_⟩:=aPH hcl
  rw [bJ,Option.bind_some]
  refine .ite (fun _=>.ret hh) fun _=>?_
  rw [lX,Option.bind_some]
  exact .bind (aDT (by omega) (by omega) (by have:=hh.1;omega) (by have:=hh.1;omega)) fun y hy=>.ret ⟨by have:=hh.1;simp only;omega,hh.2⟩
theorem aSV:fB (EU ⟨b,i,h⟩) (fun x=>Hk x.1∧Cu b x.2.1):=by
  unfold EU
  rw [BL,Option.bind_some]
  refine .bind (below hc (by omega)) fun x2 ⟨hx2,h2⟩=>?_
  refine .bind (P:=fun x=>Cu b x.1∧Hk ⟨x.2.2.1,x.2.2.2⟩) (.loop (fun s=>s.1.toNat) (fun s=>(0≤s.1∧s.1≤10)∧Cu b s.2.1∧Hk ⟨s.2.2.2.1,s.2.2.2.2⟩) ⟨⟨hx2.1,by (try simp only);omega⟩,h2,List.length_replicate,rfl⟩ ?_) fun x hx=>.ret ⟨hx.2,hx.1⟩
  rintro⟨n,i1,h1,B,C⟩ ⟨⟨n0,n1⟩,c1,k1⟩
  simp only at n0 n1 c1 k1
  simp only [KE]
  refine .ite (fun q=>?_) (fun q=>.ret ⟨c1,k1⟩)
  have q':=of_decide_eq_true q
  refine .bind (below c1 (by omega)) fun x48 ⟨_,c2⟩=>.bind (aRA k1) fun x49 ⟨k2,l4⟩=>?_
  unfold DG
  refine .bind (P:=fun x=>Cu b x.1∧Hk ⟨x.2.2.1,x.2.2.2⟩) (.loop (fun s=>100 - s.1.toNat) (fun s=>(0≤s.1∧s.1≤4)∧Cu b s.2.1∧Hk ⟨s.2.2.2.1,s.2.2.2.2⟩) ⟨by simp,c2,k2⟩ ?_) ?_
  · rintro⟨k,i2,h2,B2,C2⟩ ⟨⟨m0,m1⟩,c3,k3⟩
    simp only at m0 m1 c3 k3
    simp only [KC,xC,DF]
    refine .ite (fun q=>?_) (fun q=>.ret ⟨c3,k3⟩)
    have q':=of_decide_eq_true q
    rw [aP (x:=k+1) (by omega) (by omega)]
    refine .bind (aAC c3 (by omega)) fun x40 c4=>.ite (fun _=>?_) fun _=>.ret ⟨⟨by (try simp only);omega,c4,k3⟩,by (try simp only);omega⟩
    exact .bind (.idx (by omega)) fun x45 _=>.bind (below c4 (by omega)) fun x46 ⟨_,c5⟩=>.bind (aOJ k3) fun x47 k4=>.ret ⟨⟨by (try simp only);omega,c5,k4⟩,by (try simp only);omega⟩
  · rintro⟨i2,h2,B2,C2⟩ ⟨c3,k3⟩
    simp only [KD,KB]
    rw [aP (by omega) (by omega)]
    exact .ret ⟨⟨by (try simp only);omega,c3,k3⟩,by (try simp only);omega⟩
theorem aMH:fB (HK ⟨b,i,h⟩) (fun x=>(x.1.Bytes.length≤384∧x.1.Class.length≤7)∧Cu b x.2.1):=by
  unfold HK FG FH FI jQ
  refine .bind (aSV hc) fun x1 ⟨⟨a1,a2⟩,h1⟩=>.bind (below h1 (by omega)) fun x6 ⟨_,h6⟩=>?_
  refine .ite (fun _=>?_) fun _=>.ite (fun _=>?_) fun _=>.ite (fun _=>?_) fun _=>.ite (fun _=>?_) fun _=>.ite (fun _=>?_) fun _=>?_
  · exact .bind (below h6 (by omega)) fun x10 ⟨hx,c⟩=>.need (by omega) (.ret ⟨⟨by simp;omega,by (try simp only);omega⟩,c⟩)
  · exact .need (by simp;omega) (.ret ⟨⟨by (try simp only);omega,by simp;omega⟩,h6⟩)
  · exact .bind (below h6 (by omega)) fun x14 ⟨hx,c⟩=>.bind (LD c (by decide) (by decide)) fun x15 ⟨_,c2⟩=>.bind (.idx (by omega)) fun _ _=>.ret ⟨⟨by (try simp only);omega,by simp;omega⟩,c2⟩
  · exact .bind (below h6 (by omega)) fun x14 ⟨hx,c⟩=>.bind (LD c (by decide) (by decide)) fun x15 ⟨_,c2⟩=>.bind (.idx (by omega)) fun _ _=>.ret ⟨⟨by simp;omega,by (try simp only);omega⟩,c2⟩
  · exact .bind (below h6 (by omega)) fun x23 ⟨hx,c⟩=>.bind (below c (by omega)) fun x24 ⟨hx2,c2⟩=>.bind (below c2 (by omega)) fun x25 ⟨_,c3⟩=>.bind (.idx (by rw [aP (x:=x23.1 * 64) (by omega) (by omega),aP (by omega) (by omega)];omega)) fun _ _=>.ret ⟨⟨by simp;omega,by (try simp only);omega⟩,c3⟩
  · exact .ret ⟨⟨by (try simp only);omega,by (try simp only);omega⟩,h6⟩
def Lk(n:Nat)(l:aA):Prop:=l.Global.length=3∧l.aR.length=9∧(dF l).length≤n
omit hc in
theorem aSW{n:Nat}(hn:n≤1000){l:aA}(hl:Lk n l){w c s:Int}:fB (LZ l w c s) (fun x=>Lk (n+1) x.1):=by
  obtain⟨a1,a2,a3⟩:=hl
  have hal:=fK l
  have hl':Lk (n+1) l:=⟨a1,a2,by omega⟩
  have hg:∀s∈l.Global,s.aO.length≤1000:=fun s h=>by have:=rB h;omega
  have ho:∀s∈l.aR,s.aO.length≤1000:=fun s h=>by have:=rB h;omega
  unfold LZ
  rw [pH (by omega) (by omega) (fun s h=>by have:=hg s h;omega) (fun s h=>by have:=ho s h;omega),Option.bind_some,lE (by omega),Option.bind_some]
  refine .ite (fun _=>.ret hl') fun _=>?_
  unfold j8 o4
  rw [bJ,Option.bind_some,bJ,Option.bind_some]
  by_cases hw:0≤w∧w≤2
  rotate_left
  · rw [decide_eq_false hw,if_pos (by simp),if_pos rfl,Option.bind_some,if_pos (by decide)];exact .ret hl'
  by_cases hcl:0≤c∧c≤2
  rotate_left
  · rw [decide_eq_true hw,decide_eq_false hcl,if_neg (by simp),if_pos (by simp),Option.bind_some,if_pos (by decide)];exact .ret hl'
  rw [decide_eq_true hw,decide_eq_true hcl,if_neg (by simp),if_neg (by simp),Option.bind_some,aP (x:=w * 3) (by omega) (by omega),aP (by omega) (by omega),if_neg (by simp;omega),bJ,Option.bind_some]
  refine .ite (fun _=>.ret hl') fun _=>?_
  rw [FV (by omega) (by simp only [maxLen];omega) (by simp only [maxLen];omega),Option.bind_some,z5 (by simp only [maxLen];omega),Option.bind_some]
  unfold r6
  refine .ite (fun _=>.ret hl') fun _=>?_
  refine .bind (P:=fun x=>Lk (n+1) x) ?_ fun x hx=>.ret hx
  unfold vP wF wG qJ
  rw [(xT hw hcl).1,Option.bind_some]
  have kx:(w * 3+c).toNat < l.aR.length:=by omega
  have ky:c.toNat < l.Global.length:=by omega
  have m1:=ho _ (List.getElem_mem kx)
  have m2:=hg _ (List.getElem_mem ky)
  rw [fI (by omega) (by omega),Option.bind_some,fI hcl.1 (by omega),Option.bind_some]
  refine .ite (fun _=>.need (by simp;omega) (.ret ⟨a1,by simpa using a2,?_⟩)) fun _=>.need (by simp;omega) (.ret ⟨by simpa using a1,a2,?_⟩)
  · rw [fK];simp only;rw [yX kx];simp;omega
  · rw [fK];simp only;rw [yX ky];simp;omega
theorem aRB:fB (CJ ⟨b,i,h⟩) (fun x=>Lk 40 x.1∧Cu b x.2.1):=by
  unfold CJ pB rZ
  rw [aU (by omega),aU (by omega),Option.bind_some]
  refine .bind (below hc (by omega)) fun x2 ⟨hx2,h2⟩=>?_
  refine .bind (P:=fun x=>Cu b x.1∧Lk 40 ⟨x.2.2.1,x.2.2.2⟩) (.loop (fun s=>s.1.toNat) (fun s=>(0≤s.1∧s.1≤30)∧Cu b s.2.1∧Lk (40 - s.1.toNat) ⟨s.2.2.2.1,s.2.2.2.2⟩) ⟨⟨hx2.1,by (try simp only);omega⟩,h2,rfl,rfl,by simp [dF,cC]⟩ ?_) fun x hx=>.ret ⟨hx.2,hx.1⟩
  rintro⟨n,i1,h1,G,O⟩ ⟨⟨n0,n1⟩,c1,k1⟩
  simp only at n0 n1 c1 k1
  simp only [IP,BC]
  refine .ite (fun q=>?_) (fun q=>.ret ⟨c1,k1.1,k1.2.1,by have:=k1.2.2;simp only;omega⟩)
  have q':=of_decide_eq_true q
  refine .bind (below c1 (by omega)) fun x21 ⟨_,c2⟩=>.bind (below c2 (by omega)) fun x22 ⟨_,c3⟩=>.bind (below c3 (by omega)) fun x23 ⟨_,c4⟩=>.bind (aSW (by omega) k1) fun x24 k2=>?_
  rw [aP (by omega) (by omega)]
  exact .ret ⟨⟨by (try simp only);omega,c4,k2.1,k2.2.1,Nat.le_trans k2.2.2 (by (try simp only);omega)⟩,by (try simp only);omega⟩
theorem aIO:fB (HL ⟨b,i,h⟩) (fun x=>(x.1.Global.length≤10∧x.1.aR.length≤10∧(dF x.1).length≤100)∧Cu b x.2.1):=by
  unfold HL FJ FK lW
  refine .bind (aRB hc) fun x1 ⟨⟨a1,a2,a3⟩,h1⟩=>.bind (below h1 (by omega)) fun x6 ⟨_,h6⟩=>?_
  have hal:=fK x1.1
  have hg:∀s∈x1.1.Global,s.aO.length≤1000:=fun s h=>by have:=rB h;omega
  refine .ite (fun _=>?_) fun _=>.ite (fun _=>?_) fun _=>.ite (fun _=>?_) fun _=>.ite (fun _=>?_) fun _=>?_
  · refine .need (by omega) (.ret ⟨⟨by simp;omega,by (try simp only);omega,?_⟩,h6⟩)
    have:=UA x1.1.Global (2:Int).toNat
    rw [fK];simp only [List.drop_zero];omega
  · refine .need (by simp;omega) (.ret ⟨⟨by (try simp only);omega,by simp;omega,?_⟩,h6⟩)
    rw [fK];simp only [PK,List.length_append];simp [cC] at hal ⊢;omega
  · refine .bind (below h6 (by omega)) fun x10 ⟨hx,c⟩=>.bind (.idx (by omega)) fun _ _=>.ret ⟨⟨by (try simp only);omega,by simp;omega,?_⟩,c⟩
    have kx:x10.1.toNat < x1.1.aR.length:=by omega
    have e1:=yW kx ⟨[1,2,3]⟩
    have e2:=v5 kx
    rw [fK]
    simp only [e1,List.length_append,List.length_cons,List.length_nil]
    rw [e2] at hal
    simp only [List.length_append] at hal
    omega
  · refine .bind (below h6 (by omega)) fun x12 ⟨hx,c⟩=>?_
    have kx:x12.1.toNat < x1.1.Global.length:=by omega
    have m1:=hg _ (List.getElem_mem kx)
    rw [fI hx.1 (by omega),Option.bind_some]
    refine .bind (LD c (by decide) (by decide)) fun x17 ⟨_,c2⟩=>.need (by simp;omega) (.ret ⟨⟨by simp;omega,by (try simp only);omega,?_⟩,c2⟩)
    rw [fK];simp only;rw [yX kx];simp;omega
  · exact .ret ⟨⟨by (try simp only);omega,by (try simp only);omega,Nat.le_trans a3 (by omega)⟩,h6⟩
theorem aOK:fB (HM ⟨b,i,h⟩) (fun x=>lZ x.1∧Cu b x.2.2.1):=by
  unfold HM
  refine .bind (aSU hc (by omega)) fun x1 ⟨w1,h1⟩=>.bind (aAC h1 (by omega)) fun x12 h2=>?_
  have key:∀(v i' h':Int),Cu b i'→fB (tO ⟨b,i,h⟩ v i' h' x1.1) (fun x=>lZ x.1∧Cu b x.2.2.1):=fun v i' h' c=>by
    unfold tO tN
    obtain⟨⟨p1,p2⟩,p3,p4,p5⟩:=w1
    refine .bind (below c (by omega)) fun x9 ⟨_,c2⟩=>.ite (fun _=>?_) fun _=>.ite (fun _=>?_) fun _=>.ret ⟨show lZ x1.1 from ⟨by omega,by omega,by omega,by omega,by omega⟩,c2⟩
    · exact .bind (aMH c2) fun x10 ⟨⟨a1,a2⟩,c3⟩=>.ret ⟨⟨by (try simp only);omega,by (try simp only);omega,by (try simp only);omega,by (try simp only);omega,by (try simp only);omega⟩,c3⟩
    · exact .bind (aIO c2) fun x10 ⟨⟨a1,a2,a3⟩,c3⟩=>.ret ⟨show lZ ⟨x1.1.aB,x10.1⟩ from ⟨by (try simp only);omega,by (try simp only);omega,by (try simp only);omega,by (try simp only);omega,by (try simp only);omega⟩,c3⟩
  exact .ite (fun _=>.bind (aBY h2) fun x13 h3=>key _ _ _ h3) fun _=>key _ _ _ h2
end
end Go.Gv
end
noncomputable section
set_option linter.unusedVariables false
set_option linter.unusedSimpArgs false
set_option linter.unusedSectionVars false
namespace Go.Gv
def MJ(w:Int):Nat→aI→Sub→aI×Sub
  | 0,b,s=>(b,s)
  | n+1,b,s=>if s.cQ then (b,s) else MJ w n (l7 b w s).1 (l7 b w s).2
theorem aHV{w:Int}(hw:0≤w∧w≤2):∀n b s,eQ b→eQ (MJ w n b s).1
  | 0,b,s,hb=>hb
  | n + 1, b, s, hb => by
    unfold MJ
    split
    · exact hb
    · exact aHV hw n _ _ (UD hb hw s)
def mG(b:aI)(w:Int)(s:Sub):aI×Sub:=if eQ b∧0≤w∧w≤2 then MJ w 200 b s else (b,s)
theorem N5{b:aI}(hb:eQ b)(w:Int)(s:Sub):eQ (mG b w s).1:=by
  unfold mG
  split
  · rename_i q;exact aHV q.2 _ _ _ hb
  · exact hb
theorem aSX{w:Int}(hw:0≤w∧w≤2):∀d k:Nat,k+d=200→∀(s:Sub) (b:aI),eQ b→∃s' b',loop (qW w) ((k:Int),s,b)=some (s',b')∧eQ b'
  | 0,k,hk,s,b,hb=>⟨s,b,bN (by simp only [qW,mY];rw [if_neg (by simp;omega)];rfl),hb⟩
  | d + 1, k, hk, s, b, hb => by
    cases hd:s.cQ with
    | true=>exact⟨s,b,bN (by simp only [qW,mY,hd];rw [if_pos (by simp;omega)];rfl),hb⟩
    | false =>
      obtain⟨x,y,e1,_,hx⟩:=step_eq hb hb.small hw s
      obtain⟨s',b',e3,h⟩:=aSX hw d (k+1) (by omega) y x hx
      refine⟨s',b',?_,h⟩
      rw [bT (s':=(((k+1:Nat):Int),y,x)) (by
        simp only [qW,mY,hd]
        rw [if_pos (by simp;omega),Bool.not_false,if_pos rfl,e1,aP (by omega) (by omega)];rfl)]
      exact e3
theorem aHW{b:aI}(hb:eQ b){w:Int}(hw:0≤w∧w≤2)(s:Sub):∃r,lR b w s=some r∧eQ r.1:=by
  obtain⟨s',b',e,h⟩:=aSX hw 200 0 rfl s b hb
  rw [show((0:Nat):Int)=0 from rfl] at e
  refine⟨(b',s'),?_,h⟩
  unfold lR xA
  rw [PI hb.small,Option.bind_some,gE hb.small.fits,Option.bind_some,bJ,Option.bind_some,decide_eq_true hb,decide_eq_true hw,if_neg (by simp),if_neg (by simp),e];rfl
noncomputable section
variable {b:List UInt8} {i h:Int} (hc:Cu b i)
include hc
theorem aSY{m:Int}(hm:m≤1000):fB (CH ⟨b,i,h⟩ m) (fun x=>eQ x.1∧Cu b x.2.2.1):=by
  unfold CH
  rw [aFO.1,Option.bind_some]
  refine .bind (below hc (by omega)) fun x2 ⟨hx2,h2⟩=>?_
  refine .bind (P:=fun x=>(1≤x.1.length∧x.1.length≤2000)∧Cu b x.2.1∧eQ x.2.2.2) (.loop (fun s=>s.2.1.toNat) (fun s=>(0≤s.2.1∧1≤s.1.length∧(s.1.length:Int)+s.2.1≤1500)∧Cu b s.2.2.1∧eQ s.2.2.2.2) ⟨⟨hx2.1,by simp,by simp;omega⟩,h2,aME⟩ ?_) ?_
  · rintro⟨l,n,i1,h1,B⟩ ⟨⟨n0,l1,l2⟩,c1,b1⟩
    simp only at n0 l1 l2 c1 b1
    simp only [IM]
    refine .ite (fun q=>?_) (fun q=>.ret ⟨by (try simp only);omega,c1,b1⟩)
    have q':=of_decide_eq_true q
    have nx:∀(l':List Int) (i' h':Int) (B':aI),l'.length≤l.length+1→1≤l'.length→Cu b i'→eQ B'→fB (dN n l' i' h' B') (aAB (fun s'=>((0≤s'.2.1∧1≤s'.1.length∧(s'.1.length:Int)+s'.2.1≤1500)∧Cu b s'.2.2.1∧eQ s'.2.2.2.2)∧s'.2.1.toNat < n.toNat) (fun x=>(1≤x.1.length∧x.1.length≤2000)∧Cu b x.2.1∧eQ x.2.2.2)):=fun l' i' h' B' a1 a2 a3 a4=>by
      unfold dN
      rw [aP (by omega) (by omega)]
      exact .ret ⟨⟨⟨by (try simp only);omega,a2,by (try simp only);omega⟩,a3,a4⟩,by (try simp only);omega⟩
    refine .bind (below c1 (by omega)) fun w ⟨hw,c2⟩=>.bind (below c2 (by omega)) fun x28 ⟨hx,c3⟩=>.bind (.idx (by omega)) fun x29 _=>.bind (below c3 (by omega)) fun x30 ⟨_,c4⟩=>?_
    have hwr:0≤w.1∧w.1≤2:=by omega
    have C1:∀(s:Sub) (f:aI×Sub→Option (Step ((List Int)×Int×Int×Int×aI) ((List Int)×Int×Int×aI))),(∀r,f r=dN n l x30.2.1 x30.2.2 r.1)→fB ((lR B w.1 s).bind f) _:=fun s f hf=>by
      obtain⟨r,e,hb⟩:=aHW b1 hwr s
      rw [e,Option.bind_some,hf]
      exact nx l _ _ _ (by omega) l1 c4 hb
    have f9:∀z,fB (oS ⟨b,i,h⟩ l n w x29 x30 z B) _:=fun z=>by
      unfold oS yQ yR yS
      simp only [iG,Option.bind_some]
      refine .ite (fun _=>C1 _ _ fun _=>rfl) fun _=>.ite (fun _=>C1 _ _ fun _=>rfl) fun _=>.ite (fun _=>C1 _ _ fun _=>rfl) fun _=>.ite (fun _=>?_) fun _=>?_
      · obtain⟨r,e1,_,e2,e3⟩:=aDL b1.1.2.1 hwr
        rw [e1,Option.bind_some]
        exact nx l _ _ _ (by omega) l1 c4 (b1.clock e2 (by omega))
      · obtain⟨r,e1,_,e2⟩:=W5 b1.1.2.2.2 hwr x29
        rw [e1,Option.bind_some]
        refine .bind (aAC c4 (by omega)) fun x65 c5=>.ite (fun _=>?_) fun _=>nx l _ _ _ (by omega) l1 c5 (b1.haz e2)
        obtain⟨r',f1,_,f2⟩:=aL6 e2 hwr
        rw [f1,Option.bind_some]
        exact nx l _ _ _ (by omega) l1 c5 (b1.haz f2)
    have f7:∀z,fB (oT ⟨b,i,h⟩ l n w x29 x30 z B) _:=fun z=>by
      unfold oT BA
      simp only [iG,Option.bind_some]
      exact .ite (fun _=>C1 _ _ fun _=>rfl) fun _=>.ite (fun _=>f9 _) fun _=>f9 _
    have f4:∀z,fB (i6 ⟨b,i,h⟩ l n w x29 x30 z B) _:=fun z=>by
      unfold i6
      refine .ite (fun _=>?_) fun _=>.ite (fun _=>f7 _) fun _=>f7 _
      refine .bind (below c4 (by omega)) fun x44 ⟨_,c5⟩=>?_
      simp only [iG,Option.bind_some]
      obtain⟨r,er,b2⟩:=aHW b1 hwr ⟨1,aX (1+x44.1),0,0,0,0,0,0,0,false⟩
      rw [er,Option.bind_some]
      unfold A9 A8
      refine .ite (fun _=>.need (by simp;omega) (.bind (below c5 (by omega)) fun x42 ⟨hv,c6⟩=>?_)) fun _=>nx l _ _ _ (by omega) l1 c5 b2
      obtain⟨y,c,e1,_,e2,_⟩:=aFL b2.1.1 (h:=r.2.Out) (n:=x42.1) (by omega)
      rw [e1,Option.bind_some]
      exact nx _ _ _ _ (by simp) (by simp) c6 (b2.mem e2)
    exact .ite (fun _=>f4 _) fun _=>.ite (fun _=>f4 _) fun _=>.ite (fun _=>f4 _) fun _=>f4 _
  · rintro⟨l,i1,h1,B⟩ ⟨⟨l1,l2⟩,c1,b1⟩
    simp only at l1 l2 c1 b1
    simp only [IN,IL,A7]
    exact .bind (below c1 (by omega)) fun x21 ⟨hx,c2⟩=>.bind (.idx (by omega)) fun x22 _=>.ret ⟨b1,c2⟩
theorem aRC:fB (zR ⟨b,i,h⟩) (fun x=>AX x.1∧Cu b x.2.1):=by
  unfold zR tL
  rw [aU (by omega),Option.bind_some]
  refine .bind (below hc (by omega)) fun x2 ⟨hx2,h2⟩=>?_
  refine .bind (P:=fun x=>Cu b x.1∧AX ⟨x.2.2.1,x.2.2.2⟩) (.loop (fun s=>s.1.toNat) (fun s=>0≤s.1∧s.1≤100∧Cu b s.2.1∧AX ⟨s.2.2.2.1,s.2.2.2.2⟩) ⟨hx2.1,by (try simp only);omega,h2,of_decide_eq_true (by kernel_rfl)⟩ ?_) fun x hx=>.ret ⟨hx.2,hx.1⟩
  rintro⟨n,i1,h1,E,P⟩ ⟨n0,n1,c1,k1⟩
  simp only at n0 n1 c1 k1
  simp only [GO,r7,jY]
  refine .ite (fun q=>?_) (fun q=>.ret ⟨c1,k1⟩)
  have q':=of_decide_eq_true q
  rw [aP (by omega) (by omega)]
  refine .bind (below c1 (by omega)) fun w ⟨hw,c2⟩=>.bind (below c2 (by omega)) fun x22 ⟨_,c3⟩=>?_
  have hwr:0≤w.1∧w.1≤2:=by omega
  obtain⟨r1,e1,_,⟨d1,_⟩,_⟩:=aDH k1 hwr E
  obtain⟨r2,e2,_,d2,_⟩:=aDL k1 hwr
  obtain⟨r3,e3,_,d3,_⟩:=Q4 k1 hwr E
  obtain⟨r4,e4,_,d4,_⟩:=aHM k1 E
  rw [e1,e2,e3,e4]
  simp only [Option.bind_some]
  have fin:∀r:aC,AX r→fB (some (Step.next (n - 1,x22.2.1,x22.2.2,r.aE,r.aN):Step (Int×Int×Int×Int×(List dS)) (Int×Int×Int×(List dS)))) (aAB (fun s'=>(0≤s'.1∧s'.1≤100∧Cu b s'.2.1∧AX ⟨s'.2.2.2.1,s'.2.2.2.2⟩)∧s'.1.toNat < n.toNat) (fun x=>Cu b x.1∧AX ⟨x.2.2.1,x.2.2.2⟩)):=fun r hr=>.ret ⟨⟨by (try simp only);omega,by (try simp only);omega,c3,hr⟩,by (try simp only);omega⟩
  exact .ite (fun _=>fin _ d1) fun _=>.ite (fun _=>fin _ d2) fun _=>.ite (fun _=>.ite (fun _=>fin _ d3) fun _=>fin _ d4) fun _=>.ite (fun _=>fin _ d3) fun _=>fin _ d4
theorem aIP:fB (EV ⟨b,i,h⟩) (fun x=>x.1.aN.length≤3∧Cu b x.2.1):=by
  unfold EV gA
  refine .bind (aRC hc) fun x1 ⟨k1,h1⟩=>.bind (below h1 (by omega)) fun x2 ⟨hx,h2⟩=>.bind (below h2 (by omega)) fun x7 ⟨_,h7⟩=>?_
  have h3:=k1.2.1
  refine .ite (fun _=>?_) fun _=>.ite (fun _=>?_) fun _=>.ite (fun _=>?_) fun _=>.ite (fun _=>?_) fun _=>.ite (fun _=>?_) fun _=>.ite (fun _=>?_) fun _=>?_
  · exact .bind (LD h7 (by decide) (by decide)) fun x8 ⟨_,c⟩=>.ret ⟨by (try simp only);omega,c⟩
  · exact .need (by omega) (.ret ⟨by simp;omega,h7⟩)
  · exact .bind (.idx (by omega)) fun _ _=>.ret ⟨by simp;omega,h7⟩
  · exact .bind (.idx (by omega)) fun _ _=>.ret ⟨by simp;omega,h7⟩
  · exact .bind (.idx (by omega)) fun _ _=>.ret ⟨by simp;omega,h7⟩
  · exact .bind (.idx (by omega)) fun _ _=>.ret ⟨by simp;omega,h7⟩
  · exact .ret ⟨by (try simp only);omega,h7⟩
def Rk(l:List aK):Prop:=l.length=3∧(bH l).length≤24
omit hc in
theorem Rk.rows{l:List aK}(hl:Rk l):∀s∈l,s.Rows.length≤24:=fun s hs=>by have:=GZ hs;have:=hl.2;omega
omit hc in
theorem aOL{l:List aK}(hl:Rk l){w x e:Int}:fB (zS l w x e) (fun x=>Rk x.1):=by
  have hr:=hl.rows
  obtain⟨a1,a2⟩:=hl
  have hcp:=NI (l:=l) (by omega) (fun s h=>by have:=hr s h;omega)
  unfold zS
  rw [hcp,Option.bind_some,BJ (by omega) (by simp only [maxLen];omega),Option.bind_some]
  unfold r8
  refine .ite (fun _=>.ret ⟨a1,a2⟩) fun _=>?_
  rw [bJ,Option.bind_some]
  by_cases hw:0≤w∧w≤2
  rotate_left
  · rw [decide_eq_false hw];exact .ret ⟨a1,a2⟩
  have kx:w.toNat < l.length:=by omega
  have hm:=hr _ (List.getElem_mem kx)
  have hlen:(bH (l.set w.toNat ⟨l[w.toNat].Rows ++ [⟨x,e⟩]⟩)).length≤1000:=by
    rw [yV kx]
    rw [vZ kx] at a2
    simp only [List.length_append,List.length_cons,List.length_nil] at a2 ⊢
    omega
  rw [decide_eq_true hw,if_neg (by simp),fI hw.1 (by omega),Option.bind_some,aU (by simp;omega),BJ (by omega) (by simp only [List.length_set,maxLen];omega),Option.bind_some]
  by_cases ho:l6 (l.set w.toNat ⟨l[w.toNat].Rows ++ [⟨x,e⟩]⟩)
  · rw [decide_eq_true ho,if_neg (by simp)];exact .ret ⟨ho.1,ho.2.1⟩
  · rw [decide_eq_false ho,if_pos (by simp),hcp,Option.bind_some];exact .ret ⟨a1,a2⟩
theorem aRD:fB (zT ⟨b,i,h⟩) (fun x=>Rk x.1∧Cu b x.2.1):=by
  unfold zT tM
  rw [aU (by omega),Option.bind_some]
  refine .bind (below hc (by omega)) fun x2 ⟨hx2,h2⟩=>?_
  refine .bind (P:=fun x=>Rk x.1∧Cu b x.2.1) (.loop (fun s=>s.2.1.toNat) (fun s=>(0≤s.2.1∧s.2.1≤100)∧Cu b s.2.2.1∧Rk s.1) ⟨⟨hx2.1,by (try simp only);omega⟩,h2,rfl,by simp [bH]⟩ ?_) fun x hx=>.ret hx
  rintro⟨l,n,i1,h1⟩ ⟨⟨n0,n1⟩,c1,k1⟩
  simp only at n0 n1 c1 k1
  simp only [GP]
  refine .ite (fun q=>?_) (fun q=>.ret ⟨k1,c1⟩)
  have q':=of_decide_eq_true q
  rw [aP (by omega) (by omega)]
  exact .bind (below c1 (by omega)) fun x14 ⟨_,c2⟩=>.bind (aBY c2) fun x15 c3=>.bind (below c3 (by omega)) fun x16 ⟨_,c4⟩=>.bind (aOL k1) fun x17 k2=>.ret ⟨⟨by (try simp only);omega,c4,k2⟩,by (try simp only);omega⟩
theorem aIQ:fB (EW ⟨b,i,h⟩) (fun x=>(x.1.length≤3∧(bH x.1).length≤100)∧Cu b x.2.1):=by
  unfold EW DH m4
  refine .bind (aRD hc) fun x1 ⟨k1,h1⟩=>.bind (below h1 (by omega)) fun x5 ⟨_,h5⟩=>?_
  have hrow:=Rk.rows k1
  obtain⟨a1,a2⟩:=k1
  have more:∀(k:Nat) (hk:k < x1.1.length) (r:List bM),r.length≤4→(bH (x1.1.set k ⟨x1.1[k].Rows++r⟩)).length≤100:=fun k hk r hr=>by
    rw [yV hk]
    rw [vZ hk] at a2
    simp only [List.length_append] at a2 ⊢
    omega
  refine .ite (fun _=>?_) fun _=>.ite (fun _=>?_) fun _=>.ite (fun _=>?_) fun _=>.ite (fun _=>?_) fun _=>?_
  · refine .need (by omega) (.ret ⟨⟨by simp;omega,?_⟩,h5⟩)
    have:=PF x1.1 (1:Int).toNat
    simp only [List.drop_zero];omega
  · have hm:=hrow _ (List.getElem_mem (show 0 < x1.1.length by omega))
    rw [show idx x1.1 0=some x1.1[0] from aW (k:=0) (by omega),Option.bind_some]
    exact .need (by simp;omega) (.ret ⟨⟨by simp;omega,more 0 (by omega) _ (by simp)⟩,h5⟩)
  · have hm:=hrow _ (List.getElem_mem (show 1 < x1.1.length by omega))
    rw [show idx x1.1 1=some x1.1[1] from aW (k:=1) (by omega),Option.bind_some]
    exact .bind (aBY h5) fun x11 c=>.need (by simp;omega) (.ret ⟨⟨by simp;omega,more 1 (by omega) _ (by simp)⟩,c⟩)
  · have hm:=hrow _ (List.getElem_mem (show 2 < x1.1.length by omega))
    rw [show idx x1.1 2=some x1.1[2] from aW (k:=2) (by omega),Option.bind_some]
    exact .need (by simp;omega) (.ret ⟨⟨by simp;omega,more 2 (by omega) _ (by simp)⟩,h5⟩)
  · exact .ret ⟨⟨by (try simp only);omega,by (try simp only);omega⟩,h5⟩
theorem aT3:fB (EX ⟨b,i,h⟩) (fun x=>x.1.length≤3∧Cu b x.2.1):=by
  unfold EX AO
  rw [aU (by omega),Option.bind_some]
  refine .bind (below hc (by omega)) fun x2 ⟨hx2,h2⟩=>?_
  refine .bind (P:=fun x=>EB x.1∧Cu b x.2.1) (.loop (fun s=>s.2.1.toNat) (fun s=>(0≤s.2.1∧s.2.1≤100)∧Cu b s.2.2.1∧EB s.1) ⟨⟨hx2.1,by (try simp only);omega⟩,h2,of_decide_eq_true (by kernel_rfl)⟩ ?_) ?_
  · rintro⟨l,n,i1,h1⟩ ⟨⟨n0,n1⟩,c1,k1⟩
    simp only at n0 n1 c1 k1
    simp only [KG]
    refine .ite (fun q=>?_) (fun q=>.ret ⟨k1,c1⟩)
    have q':=of_decide_eq_true q
    rw [aP (x:=n - 1) (by omega) (by omega)]
    refine .bind (below c1 (by omega)) fun w ⟨hw,c2⟩=>.bind (below c2 (by omega)) fun x22 ⟨_,c3⟩=>.bind (below c3 (by omega)) fun x23 ⟨_,c4⟩=>?_
    unfold jN gX
    rw [bJ,Option.bind_some,bJ,Option.bind_some]
    refine .bind (P:=fun _=>True) (.ite (fun _=>.ite (fun _=>.ret trivial) fun _=>.ret trivial) fun _=>.ite (fun _=>.ret trivial) fun _=>.ret trivial) fun x _=>?_
    obtain⟨r,e1,_,e2⟩:=W5 k1 (w:=w.1) (by omega) x
    rw [e1,Option.bind_some]
    exact .ret ⟨⟨by (try simp only);omega,c4,e2⟩,by (try simp only);omega⟩
  · rintro⟨l,i1,h1⟩ ⟨k1,c1⟩
    simp only at k1 c1
    have h3:=k1.1
    simp only [KH,KF,xD]
    refine .bind (below c1 (by omega)) fun x17 ⟨_,c2⟩=>.ite (fun _=>.need (by omega) (.ret ⟨by simp;omega,c2⟩)) fun _=>.ite (fun _=>?_) fun _=>.ret ⟨by (try simp only);omega,c2⟩
    exact .bind (below c2 (by omega)) fun x18 ⟨hx,c3⟩=>.bind (LD c3 (by decide) (by decide)) fun x19 ⟨_,c4⟩=>.bind (.idx (by omega)) fun _ _=>.ret ⟨by simp;omega,c4⟩
theorem W9:fB (vV ⟨b,i,h⟩) (fun x=>kS x.1∧Cu b x.2.2.1):=by
  unfold vV kG
  refine .bind (aSY hc (by omega)) fun x1 ⟨b1,h1⟩=>.bind (below h1 (by omega)) fun x5 ⟨_,h5⟩=>?_
  have hs:=b1.small
  obtain⟨s1,s2,s3,s4,s5⟩:=hs
  refine .ite (fun _=>?_) fun _=>.ite (fun _=>?_) fun _=>.ite (fun _=>?_) fun _=>.ite (fun _=>?_) fun _=>.ret ⟨⟨s1,s2,s3,s4,s5⟩,h5⟩
  · exact .bind (aOK h5) fun x6 ⟨m,c⟩=>.ret ⟨⟨m,s2,s3,s4,s5⟩,c⟩
  · exact .bind (aIP h5) fun x6 ⟨m,c⟩=>.ret ⟨⟨s1,by (try simp only);omega,s3,s4,s5⟩,c⟩
  · exact .bind (aIQ h5) fun x6 ⟨⟨m1,m2⟩,c⟩=>.ret ⟨⟨s1,s2,by (try simp only);omega,by (try simp only);omega,s5⟩,c⟩
  · exact .bind (aT3 h5) fun x6 ⟨m,c⟩=>.ret ⟨⟨s1,s2,s3,s4,by (try simp only);omega⟩,c⟩
end
theorem aMI{code:List UInt8}(hl:code.length≤1048576):fB (qZ code) kS:=by
  unfold qZ
  exact .bind (aQ5 hl) fun x1 h1=>.bind (W9 h1) fun x2 ⟨h2,_⟩=>.ret h2
end Go.Gv
end
noncomputable section
set_option linter.unusedVariables false
set_option linter.unusedSimpArgs false
set_option linter.unusedSectionVars false
namespace Go.Gv
theorem aDU{ρ:Type}{f:Int→Option (Step Int ρ)}{n:Nat}{r:ρ}(hn:n≤1073741824)(hs:∀k:Nat,k < n→f (k:Int)=some (.next (aX ((k:Int)+1))))(he:f (n:Int)=some (.stop r)):loop f 0=some r:=
  iB (f:=f) n (fun k=>(k:Int)) r (fun k hk=>by rw [hs k hk,aP (by omega) (by omega)];rfl) he
theorem xU{l:List Int}(hl:l.length≤1073741824):kH l l=some true:=by
  unfold kH
  rw [if_neg (by simp),aDU (r:=Out.brk ()) hl (fun k hk=>by
    simp only [xE]
    rw [if_pos (by simp;omega),aW hk]
    simp only [Option.bind_some,bne_self_eq_false,Bool.false_eq_true,if_false]) (by simp [xE])];rfl
theorem RT{l:List aD}(hl:l.length≤1073741824)(hs:∀s∈l,s.aO.length≤1073741824):AP l l=some true:=by
  unfold AP
  rw [if_neg (by simp),aDU (r:=Out.brk ()) hl (fun k hk=>by
    simp only [DI]
    rw [if_pos (by simp;omega),aW hk]
    simp only [Option.bind_some,xU (hs _ (List.getElem_mem hk)),Bool.not_true,Bool.false_eq_true,if_false]) (by simp [DI])];rfl
theorem H5{m:Mem}(h:lZ m):r9 m m=some true:=by
  obtain⟨s1,s2⟩:=h.PE
  obtain⟨h1,h2,h3,h4,h5⟩:=h
  unfold r9 FL DJ
  rw [xU (by omega),xU (by omega),RT (by omega) (fun s h=>by have:=s1 s h;omega),RT (by omega) (fun s h=>by have:=s2 s h;omega)];rfl
end Go.Gv
end
noncomputable section
set_option linter.unusedVariables false
set_option linter.unusedSimpArgs false
set_option linter.unusedSectionVars false
namespace Go.Gv
theorem aAE{b:aI}(hb:eQ b){w:Int}(hw:0≤w∧w≤2)(s:Sub):jP s b w=some ((l7 b w s).2,(l7 b w s).1):=by
  obtain⟨x,y,e1,e2,h⟩:=step_eq hb hb.small hw s
  rw [aBW hb hw] at e1
  injection e1 with e1
  rw [e2,e1]
theorem PY{w:Int}{s:Sub}(h:s.cQ=true):∀d k:Nat,k+d=200→∀b,loop (kI w) ((k:Int),s,b)=some (s,b)
  | 0,k,hk,b=>bN (by simp only [kI];rw [if_neg (by simp;omega)])
  | d + 1, k, hk, b => by
    rw [bT (s':=(((k+1:Nat):Int),s,b)) (by
      simp only [kI]
      rw [if_pos (by simp;omega),show jP s b w=some (s,b) by unfold jP;rw [if_pos h],aP (by omega) (by omega)];rfl)]
    exact PY h d (k+1) (by omega) b
theorem yY{w:Int}{s:Sub}(h:s.cQ=true)(n:Nat)(b:aI):MJ w n b s=(b,s):=by
  cases n with
  | zero=>rfl
  | succ n=>rw [MJ,if_pos h]
theorem nE{w:Int}{s:Sub}(h:s.cQ=false)(n:Nat)(b:aI):MJ w (n+1) b s=MJ w n (l7 b w s).1 (l7 b w s).2:=by rw [MJ,if_neg (by simp [h])]
theorem XA{w:Int}(hw:0≤w∧w≤2):∀d k:Nat,k+d=200→∀(s:Sub) (b:aI),eQ b→loop (kI w) ((k:Int),s,b)=some ((MJ w d b s).2,(MJ w d b s).1)
  | 0, k, hk, s, b, hb => by
    apply bN
    simp only [kI]
    rw [if_neg (by simp;omega)];rfl
  | d + 1, k, hk, s, b, hb => by
    cases hd:s.cQ with
    | true=>rw [yY hd,PY hd (d+1) k hk]
    | false =>
      rw [nE hd,bT (s':=(((k+1:Nat):Int),(l7 b w s).2,(l7 b w s).1))]
      · exact XA hw d (k+1) (by omega) _ _ (UD hb hw s)
      · simp only [kI]
        rw [if_pos (by simp;omega),aAE hb hw,Option.bind_some,aP (by omega) (by omega)];rfl
theorem N6{b:aI}(hs:kS b)(w:Int)(s:Sub):vW b w s=some (mG b w s):=by
  unfold vW mG xH
  rw [PJ hs,Option.bind_some,K7 hs.fits,Option.bind_some,fU,Option.bind_some]
  by_cases hb:eQ b
  · by_cases hw:0≤w∧w≤2
    · rw [decide_eq_true hb,decide_eq_true hw,if_neg (by simp),if_neg (by simp),if_pos ⟨hb,hw⟩]
      have:=XA hw 200 0 rfl s b hb
      rw [show((0:Nat):Int)=0 from rfl] at this
      rw [this];rfl
    · rw [decide_eq_true hb,decide_eq_false hw,if_neg (by simp),if_pos (by simp),if_neg (fun q=>hw q.2)]
  · rw [decide_eq_false hb,if_pos (by simp),if_pos rfl,if_neg (fun q=>hb q.1)]
theorem aMJ{code:List UInt8}(hl:code.length≤1048576){i:Int}(hi:0≤i∧i≤1000):fB (L4 code i) (fun x=>0≤x∧x≤255):=by
  unfold L4
  refine .ite (fun q=>?_) fun q=>?_
  · have q':=of_decide_eq_true q
    exact .bind (.idx ⟨hi.1,q'⟩) fun x _=>.ret (by have:=x.toNat_lt;omega)
  · rw [aP (x:=i * 37) (by omega) (by omega),aP (x:=(code.length:Int) * 11) (by omega) (by omega),aP (by omega) (by omega)]
    refine .ret ?_
    rw [oX (by omega)];omega
theorem aAF{x:Int}(h:0≤x∧x≤255):0≤Int.tmod x 3∧Int.tmod x 3≤2:=by rw [oX h.1];omega
end Go.Gv
end
noncomputable section
set_option linter.unusedVariables false
set_option linter.unusedSimpArgs false
set_option linter.unusedSectionVars false
namespace Go.Gv
def aDV(c:aC)(k:Nat):Prop:=((eC c k).On=true∧(eC c k).d5=false)∧(eC c k).aE < c.aE
instance (c:aC) (k:Nat):Decidable (aDV c k):=by unfold aDV;infer_instance
def aBZ(c:aC)(k:Nat):Prop:=(eC c k).On=true∧(eC c k).d5=false
instance (c:aC) (k:Nat):Decidable (aBZ c k):=by unfold aBZ;infer_instance
end Go.Gv
end
noncomputable section
set_option linter.unusedVariables false
set_option linter.unusedSimpArgs false
set_option linter.unusedSectionVars false
namespace Go.Gv
def Aft{α:Type}(o:Option α)(Q:α→Prop):Prop:=∀x,o=some x→Q x
namespace Aft
variable {α β:Type} {Q:α→Prop}
theorem ret{x:α}(h:Q x):Aft (some x) Q:=fun _ e=>by injection e with e;rw [←e];exact h
theorem bind{o:Option β}{f:β→Option α}(h:∀x,o=some x→Aft (f x) Q):Aft (o.bind f) Q:=fun y e=>by
  cases ho:o with
  | none=>rw [ho] at e;cases e
  | some x=>rw [ho] at e;exact h x ho y e
theorem ite{c:Prop}[Decidable c]{a b:Option α}(h1:Aft a Q)(h2:Aft b Q):Aft (if c then a else b) Q:=by
  split
  · exact h1
  · exact h2
theorem need{p:Prop}[Decidable p]{k:Option α}(h:p→Aft k Q):Aft (Gv.need p k) Q:=fun y e=>by
  unfold Gv.need at e
  split at e
  · rename_i q;exact h q y e
  · cases e
end Aft
noncomputable section
variable (s:pZ) (w:Int) (j:MG)
end
end Go.Gv
end
noncomputable section
set_option linter.unusedVariables false
set_option linter.unusedSimpArgs false
set_option linter.unusedSectionVars false
set_option maxRecDepth 20000
namespace Go.Gv
def aPI(s:pZ):Prop:=(∀j∈s.YJ,j.aBA=false)∧∀q∈s.SW,q.OA=[]
instance (s:pZ):Decidable (aPI s):=by unfold aPI;infer_instance
end Go.Gv
end
