import Derived.Test.YtabnjpbikjfhoaaGreatXRG
set_option linter.unusedVariables false
set_option linter.unusedSimpArgs false
set_option linter.unusedSectionVars false
set_option linter.constructorNameAsVariable false
set_option linter.unnecessarySimpa false
noncomputable section
namespace Go.Gv
def T8(l:List Queue):Prop:=(iM l 0).length≤8∧(iM l 2).length≤8
theorem UA{l:List Queue}(h:∀q∈l,q.hU.length≤8):T8 l:=by
  have key:∀v,(iM l v).length≤8:=fun v=>by
    unfold iM
    rw [List.getD_eq_getElem?_getD]
    cases e:l[v.toNat]? with
    | none=>simp
    | some q=>exact h q (List.mem_of_getElem? e)
  exact⟨key 0,key 2⟩
theorem aS7{l:List Queue}(h:T8 l)(q:Queue):T8 (l.set 1 q):=by
  have key:∀v:Int,v=0∨v=2→iM (l.set 1 q) v=iM l v:=fun v hv=>by
    unfold iM
    rw [List.getD_eq_getElem?_getD,List.getElem?_set_ne (by rcases hv with rfl | rfl <;> decide),←List.getD_eq_getElem?_getD]
  exact⟨by rw [key 0 (.inl rfl)];exact h.1,by rw [key 2 (.inr rfl)];exact h.2⟩
noncomputable section
variable {b:List UInt8} {i h:Int} (hc:Cu b i)
include hc
theorem aLT:wH (wK ⟨b,i,h⟩) (fun x=>(SU x.1∧T8 x.1)∧Cu b x.2.1):=by
  unfold wK
  refine .bind (aJ8 hc (by omega)) fun x1 ⟨⟨l3,hq⟩,h1⟩=>.bind (below h1 (by omega)) fun x5 ⟨_,h5⟩=>?_
  have hT:SU x1.1:=⟨by omega,fun q hq'=>by have:=(hq q hq').1;omega⟩
  have h8:∀q∈x1.1,q.hU.length≤7:=fun q hq'=>by have:=(hq q hq').1;omega
  simp only [jL,xQ]
  refine .ite (fun _=>?_) fun _=>.ite (fun _=>?_) fun _=>.ite (fun _=>?_) fun _=>.ite (fun _=>?_) fun _=>?_
  · exact .need (by omega) (.ret ⟨⟨⟨by simp;omega,fun q hq'=>hT.2 q (List.mem_of_mem_take (by simpa using hq'))⟩,UA fun q hq'=>by have:=h8 q (List.mem_of_mem_take (by simpa using hq'));omega⟩,h5⟩)
  · refine .bind (.idx (by omega)) fun x9 h9=>.bind (aJ7 h5 (by decide) (by decide)) fun x10 ⟨_,h10⟩=>?_
    have:=hT.2 _ h9
    have:=h8 _ h9
    exact .need (by simp;omega) (.ret ⟨⟨aCN hT _ (by simp;omega),UA fun q hq'=>by
      rcases List.mem_or_eq_of_mem_set hq' with k | k
      · have:=h8 q k;omega
      · rw [k];simp;omega⟩,h10⟩)
  · refine .bind (P:=fun x=>(SU x.1∧T8 x.1)∧Cu b x.2.1) (.loop (fun s=>20 - ((s.1.getD 1 ⟨[]⟩).hU.length)) (fun s=>(s.1.length=3∧(∀q∈s.1,q.hU.length≤13)∧T8 s.1)∧Cu b s.2.1) ⟨⟨l3,fun q hq'=>by have:=h8 q hq';omega,UA fun q hq'=>by have:=h8 q hq';omega⟩,h5⟩ ?_) ?_
    · rintro⟨l,i1,h1⟩ ⟨⟨l3,hq,t8⟩,hi1⟩
      simp only at l3 hq hi1 t8
      simp only [FW,xR]
      have hx:idx l 1=some l[1]:=aW (k:=1) (by omega)
      have hm:=hq _ (List.getElem_mem (show 1 < l.length by omega))
      rw [hx]
      simp only [aI]
      refine .bind (below hi1 (by omega)) fun x ⟨hx2,hi2⟩=>.ite (fun q=>?_) (fun q=>?_)
      · have q':=of_decide_eq_true q
        rw [aP (by omega) (by omega)] at q'
        refine .need (by simp;omega) (.ret ?_)
        refine⟨⟨⟨by simp [l3],fun x hx=>?_,aS7 t8 _⟩,hi2⟩,?_⟩
        · rcases List.mem_or_eq_of_mem_set hx with hx | hx
          · exact hq x hx
          · rw [hx];simp;omega
        · have e1:l.getD 1 ⟨[]⟩=l[1]:=by rw [List.getD_eq_getElem?_getD,List.getElem?_eq_getElem (by omega)];rfl
          have e2:(l.set (1:Int).toNat ⟨l[1].hU ++ [⟨4,0,0,0⟩]⟩).getD 1 ⟨[]⟩=⟨l[1].hU ++ [⟨4,0,0,0⟩]⟩:=by rw [List.getD_eq_getElem?_getD,show(1:Int).toNat=1 from rfl,List.getElem?_set_self (by omega)];rfl
          simp only [e1,e2]
          simp;omega
      · exact .ret ⟨⟨⟨by (try simp only);omega,fun q hq'=>by have:=hq q hq';omega⟩,t8⟩,hi2⟩
    · rintro⟨l,i1,h1⟩ hx
      exact .ret hx
  · refine .bind (.idx (by omega)) fun x9 h9=>?_
    have:=h8 _ h9
    exact .need (by simp;omega) (.ret ⟨⟨aCN hT _ (by simp;omega),UA fun q hq'=>by
      rcases List.mem_or_eq_of_mem_set hq' with k | k
      · have:=h8 q k;omega
      · rw [k];simp;omega⟩,h5⟩)
  · exact .ret ⟨⟨hT,UA fun q hq'=>by have:=h8 q hq';omega⟩,h5⟩
end
theorem aGK{code:List UInt8}(hl:code.length≤1048576):wH (pK code) (fun x=>(SU x.cL∧T8 x.cL)∧x.rR.length≤5000):=by
  unfold pK
  refine .bind (aY9 hl) fun x1 h1=>.bind (aJ8 h1 (by omega)) fun x2 ⟨⟨l3,hq⟩,h2⟩=>.bind (aVX h2 (by omega)) fun x3 ⟨p,h3⟩=>.bind (below h3 (by omega)) fun x6 ⟨_,h6⟩=>?_
  have hT:SU x2.1∧T8 x2.1:=⟨⟨by omega,fun q hq'=>by have:=(hq q hq').1;omega⟩,UA fun q hq'=>by have:=(hq q hq').1;omega⟩
  simp only [jG]
  refine .ite (fun _=>.bind (aLT h6) fun x7 ⟨h7,_⟩=>.ret ⟨h7,by (try simp only);omega⟩) fun _=>.ite (fun _=>.need (by simp;omega) (.ret ⟨hT,by simp;omega⟩)) fun _=>.ret ⟨hT,by (try simp only);omega⟩
theorem aKF:∀q:List dO,kq q≤q.length
  | []=>Nat.le_refl _
  | o :: r => by
    have:=aKF r
    simp only [kq,List.map_cons,List.sum_cons,List.length_cons] at *
    split <;> omega
theorem aQG(k:Nat):∀q:List dO,qC k q≤16 * kq q+(q.length - kq q) * (15+5 * k)
  | []=>by simp [qC,kq]
  | o :: r => by
    have h1:=aQG k r
    have h2:=aKF r
    by_cases k1:o.Kind=1
    · have e1:kq (o :: r)=kq r+1:=by simp [kq,k1];omega
      have e2:qC k (o :: r)=16+qC k r:=by simp [qC,opC,k1]
      rw [e1,e2,List.length_cons,show r.length+1 - (kq r+1)=r.length - kq r by omega]
      omega
    · have e1:kq (o :: r)=kq r:=by simp [kq,k1]
      have e2:qC k (o :: r)=opC k o+qC k r:=by simp [qC]
      have e3:opC k o≤15+5 * k:=by
        unfold opC
        rw [if_neg k1]
        repeat' split
        all_goals omega
      rw [e1,e2,List.length_cons,show r.length+1 - kq r=(r.length - kq r)+1 by omega,Nat.add_mul,Nat.one_mul]
      omega
theorem q8{q:List dO}(h:q.length≤8):qC (kq q) q≤204:=by
  have h1:=aQG (kq q) q
  have h2:=aKF q
  have h3:(q.length - kq q) * (15+5 * kq q)≤(8 - kq q) * (15+5 * kq q):=Nat.mul_le_mul (by omega) (Nat.le_refl _)
  generalize kq q=k at h1 h2 h3 ⊢
  have hk:k=0∨k=1∨k=2∨k=3∨k=4∨k=5∨k=6∨k=7∨k=8:=by omega
  rcases hk with rfl | rfl | rfl | rfl | rfl | rfl | rfl | rfl | rfl <;> omega
theorem q12{q:List dO}(h:q.length≤12):qC (kq q) q≤366:=by
  have h1:=aQG (kq q) q
  have h2:=aKF q
  have h3:(q.length - kq q) * (15+5 * kq q)≤(12 - kq q) * (15+5 * kq q):=Nat.mul_le_mul (by omega) (Nat.le_refl _)
  generalize kq q=k at h1 h2 h3 ⊢
  have hk:k=0∨k=1∨k=2∨k=3∨k=4∨k=5∨k=6∨k=7∨k=8∨k=9∨k=10∨k=11∨k=12:=by omega
  rcases hk with rfl | rfl | rfl | rfl | rfl | rfl | rfl | rfl | rfl | rfl | rfl | rfl | rfl <;> omega
theorem aZQ{t:List Queue}(ht:G3 t)(h8:T8 t):phi (fG t)≤774:=by
  have c:∀v:Int,0≤v∧v≤2→GW (fG t) v=qC (kq (iM t v)) (iM t v):=fun v hv=>by
    have hc:v=0∨v=1∨v=2:=by omega
    have e1:aM (fG t) v=lZ:=by rcases hc with rfl | rfl | rfl <;> rfl
    have e2:eN (fG t).aA v=0:=by rcases hc with rfl | rfl | rfl <;> rfl
    unfold GW jC kW
    rw [e1,e2]
    simp [jK,lZ,fG]
  have h12:(iM t 1).length≤12:=by
    unfold iM
    rw [List.getD_eq_getElem?_getD]
    cases e:t[(1:Int).toNat]? with
    | none=>simp
    | some q=>exact(ht.2 q (List.mem_of_getElem? e)).1
  unfold phi
  rw [c 0 (by omega),c 1 (by omega),c 2 (by omega)]
  have a:=q8 h8.1
  have b:=q12 h12
  have d:=q8 h8.2
  omega
end Go.Gv
end
noncomputable section
namespace Go.Gv
theorem aS8{l:List Ev}(hl:l.length≤1000000)(k:Int):KT l k=some (kN k l:Int):=by
  unfold KT
  have key:loop (vQ l k) (0,0)=some (kN k l:Int):=by
    have:=iU (f:=vQ l k) l.length (fun i=>((kN k (l.take i):Int),(i:Int))) (kN k l:Int) (fun i hi=>by
      have hle:kN k (l.take i)≤i:=Nat.le_trans (List.countP_le_length) (by rw [List.length_take];omega)
      have e:kN k (l.take (i+1))=kN k (l.take i)+if l[i].Kind == k then 1 else 0:=by
        rw [List.take_succ_eq_append_getElem hi,OT]
        simp [kN,List.countP_cons]
      simp only [vQ,CV]
      rw [if_pos (by simp;omega),aW hi,aI,e]
      rw [aP (x:=(i:Int)+1) (by omega) (by omega),aP (x:=(kN k (l.take i):Int)+1) (by omega) (by omega)]
      cases (l[i].Kind == k) <;> rfl) (by simp [vQ])
    simpa [kN] using this
  rw [key];rfl
theorem tl0{t:List Queue}(ht:G3 t):Tl (LO fun v=>(iM t v).length) (fG t):=by
  have e1:∀v:Int,0≤v∧v≤2→aM (fG t) v=lZ:=fun v hv=>by
    have hc:v=0∨v=1∨v=2:=by omega
    rcases hc with rfl | rfl | rfl <;> rfl
  refine⟨by simp [fG],rfl,?_,fun n=>?_,fun e he=>by simp [fG] at he,fun v hv=>?_⟩
  · have:LO (fun v=>bJ (aM (fG t) v))=LO (fun _=>0):=RB fun v hv=>by rw [e1 v hv];rfl
    rw [this];rfl
  · have:LO (fun v=>bN n (aM (fG t) v))=LO (fun _=>0):=RB fun v hv=>by rw [e1 v hv];simp [bN,lZ]
    rw [this]
    have:one n (fG t).aG=0:=by
      unfold one
      have:(fG t).aG=0:=rfl
      rw [if_neg (by omega)]
    rw [this];rfl
  · rw [e1 v hv];exact⟨MV (by simp [lZ]),MV (by simp [lZ])⟩
theorem aLU{s:aE}(hs:yT s){v:Int}(hv:0≤v∧v≤2):aM s v∈s.aV:=by
  have h3:=hs.2.2.1
  unfold aM
  rw [List.getD_eq_getElem?_getD,List.getElem?_eq_getElem (show v.toNat < s.aV.length by omega)]
  exact List.getElem_mem _
end Go.Gv
end
noncomputable section
namespace Go.Gv
theorem sv0(t:List Queue):Sv (fG t).aA (fG t).Cells (aM (fG t)) (fG t).Log (fG t).aG:=by
  have e1:∀v:Int,0≤v∧v≤2→aM (fG t) v=lZ:=fun v hv=>by
    have hc:v=0∨v=1∨v=2:=by omega
    rcases hc with rfl | rfl | rfl <;> rfl
  have c0:∀k:Int,0≤k∧k≤1→cellAt (fG t).Cells k=0:=fun k hk=>by
    have hc:k=0∨k=1:=by omega
    rcases hc with rfl | rfl <;> rfl
  have n0:∀i,0≤i∧i≤4→nm (fG t).Cells (aM (fG t)) i=0:=fun i hi=>by
    rcases aAF hi with hk | ⟨v,hv,rfl⟩
    · rw [lK _ _ hk];exact c0 i hk
    · rw [fH _ _ hv,e1 v hv];exact uM (by decide)
  have un:∀t',d6 Z5.Mem t'≠3:=fun t' h=>by
    have h1:=(fZ.1 h).1
    obtain⟨a,b,c⟩:=nU h1
    have key:∀p:Nat,p < 6→bL Z5.Mem.aD p = -1:=by decide
    rw [key _ (by omega)] at c
    omega
  refine⟨⟨fun i hi hn=>absurd (n0 i hi) hn,fun i j hi _ hn=>absurd (n0 i hi) hn,fun t' ht=>absurd ht (un t')⟩,fun k hk=>⟨(c0 k hk).symm,fun q=>absurd (c0 k hk) q⟩,fun v hv=>by rw [e1 v hv];exact aT7,fun M e N hx=>by simp [fG] at hx,fun e he=>by simp [fG] at he,fun v hv hb=>(by rw [e1 v hv] at hb;cases hb),fun v u hv _ hb=>by rw [e1 v hv] at hb;cases hb⟩
end Go.Gv
end
noncomputable section
namespace Go.Gv
theorem aQH(L:List Ev)(c:Int):(L.reverse.find? (QX c)).getD zEw=PK L c:=by
  have:∀(L:List Ev) a,(L.reverse.find? (QX c)).getD a=L.foldl (fun a e=>if e.Kind=2∧e.Cell=c then e else a) a:=by
    intro L
    induction L with
    | nil=>intro a;rfl
    | cons e L ih =>
      intro a
      rw [List.reverse_cons,List.find?_append,List.foldl_cons,←ih]
      have q:QX c e=decide (e.Kind=2∧e.Cell=c):=by simp [QX]
      cases L.reverse.find? (QX c) with
      | some x=>rfl
      | none =>
        by_cases z:e.Kind=2∧e.Cell=c
        · simp [q,z]
        · rw [if_neg z];simp [List.find?,q,z]
  exact this L _
theorem aQI{L:List Ev}{i:Nat}(hi:i≤L.length)(c:Int):sS L (i:Int) c=some (PK (L.take i) c):=by
  unfold sS
  rw [show(max (min (i:Int) (L.length:Int)) 0).toNat=i from by omega]
  exact congrArg some (aQH _ c)
theorem aT8{L:List Ev}(hl:L.length≤1000000){i:Nat}(hi:i≤L.length)(c:Int):DI L (i:Int) c=some (PK (L.take i) c):=by
  unfold DI
  have key:=iU (f:=AH L (i:Int) c) i (fun k=>((k:Int),PK (L.take k) c)) (PK (L.take i) c) (fun k hk=>by
    have hk':k < L.length:=by omega
    have e:PK (L.take (k+1)) c=if L[k].Kind=2∧L[k].Cell=c then L[k] else PK (L.take k) c:=by
      rw [List.take_succ_eq_append_getElem hk',SZ]
    rw [e]
    generalize PK (L.take k) c=a
    simp only [AH,sT,AG,AF]
    rw [if_pos (by simp;omega),bD (show(k:Int) < (L.length:Int) by omega),if_pos rfl,aW hk']
    simp only [aI]
    rw [aP (by omega) (by omega)]
    by_cases q:L[k].Kind=2
    · have q1:(L[k].Kind == 2)=true:=by simpa using q
      rw [q1,if_pos rfl]
      by_cases z:L[k].Cell=c
      · have z1:(L[k].Cell == c)=true:=by simpa using z
        rw [z1,if_pos rfl,if_pos ⟨q,z⟩];rfl
      · have z1:(L[k].Cell == c)=false:=by simpa using z
        rw [z1,if_neg (by simp),if_neg (fun y=>z y.2)];rfl
    · have q1:(L[k].Kind == 2)=false:=by simpa using q
      rw [q1,if_neg (by simp),if_neg (by simp),if_neg (fun y=>q y.1)];rfl) (by
    simp only [AH,sT]
    rw [if_neg (by simp),if_neg (by simp)])
  have z:PK (L.take 0) c=zEw:=rfl
  rw [z] at key
  exact(congrArg (fun x=>x.bind NN) key).trans rfl
def rkL(L:List Ev)(n:Int):Nat→Int
  | 0=>-1
  | k+1=>if (L.getD k zEw).Kind=3∧(L.getD k zEw).aG=n then (k:Int) else rkL L n k
theorem aYA{L:List Ev}(hl:L.length≤1000000){i:Nat}(hi:i≤L.length)(n:Int):FB L (i:Int) n=some (rkL L n i):=by
  unfold FB
  have key:=iU (f:=wZ L (i:Int) n) i (fun k=>(rkL L n k,(k:Int))) (rkL L n i) (fun k hk=>by
    have hk':k < L.length:=by omega
    have e:rkL L n (k+1)=if L[k].Kind=3∧L[k].aG=n then (k:Int) else rkL L n k:=by
      have:L.getD k zEw=L[k]:=by rw [List.getD_eq_getElem?_getD,List.getElem?_eq_getElem hk'];rfl
      simp only [rkL,this]
    rw [e]
    generalize rkL L n k=a
    simp only [wZ,wY,wX]
    rw [if_pos (by simp;omega),aW hk']
    simp only [aI]
    rw [aP (by omega) (by omega)]
    by_cases q:L[k].Kind=3
    · have q1:(L[k].Kind == 3)=true:=by simpa using q
      rw [q1,if_pos rfl]
      by_cases z:L[k].aG=n
      · have z1:(L[k].aG == n)=true:=by simpa using z
        rw [z1,if_pos rfl,if_pos ⟨q,z⟩];rfl
      · have z1:(L[k].aG == n)=false:=by simpa using z
        rw [z1,if_neg (by simp),if_neg (fun y=>z y.2)];rfl
    · have q1:(L[k].Kind == 3)=false:=by simpa using q
      rw [q1,if_neg (by simp),if_neg (by simp),if_neg (fun y=>q y.1)];rfl) (by
    simp only [wZ]
    rw [if_neg (by simp)])
  exact(congrArg (fun x=>x.bind L8) key).trans rfl
theorem aQK(L:List Ev)(n:Int):∀i,i≤L.length→(rkL L n i = -1∧US (L.take i) n=none)∨∃(k:Nat) (h:k < L.length),k < i∧rkL L n i=(k:Int)∧US (L.take i) n=some (L[k],PK (L.take k) L[k].Cell)
  | 0,_=>.inl ⟨rfl,rfl⟩
  | i + 1, hi => by
    have hi':i < L.length:=by omega
    have:L.getD i zEw=L[i]:=by rw [List.getD_eq_getElem?_getD,List.getElem?_eq_getElem hi'];rfl
    rw [List.take_succ_eq_append_getElem hi',PE]
    simp only [rkL,this]
    by_cases q:L[i].Kind=3∧L[i].aG=n
    · rw [if_pos q,if_pos q]
      exact .inr ⟨i,hi',by omega,rfl,rfl⟩
    · rw [if_neg q,if_neg q]
      rcases aQK L n i (by omega) with h | ⟨k,h,a,b,c⟩
      · exact .inl h
      · exact .inr ⟨k,h,by omega,b,c⟩
theorem aLV{L:List Ev}(hl:L.length≤1000000)(h:TrL L):FC L=some true:=by
  unfold FC
  have key:=iU (f:=xB L) L.length (fun k=>(k:Int)) (Out.brk ()) (fun k hk=>by
    have hsp:L=L.take k++L[k] :: L.drop (k+1):=by rw [←List.drop_eq_getElem_cons hk,List.take_append_drop]
    have ht:=h _ _ _ hsp
    simp only [xB]
    rw [if_pos (by simp;omega),aW hk,aI,aYA hl (by omega),aI,aI]
    have nx:kQ (k:Int)=some (.next ((k+1:Nat):Int)):=by
      simp only [kQ];rw [aP (by omega) (by omega)];rfl
    by_cases q:L[k].Kind=4
    · have q1:(L[k].Kind != 4)=false:=by simpa using q
      rw [q1,if_neg (by simp)]
      rcases aQK L L[k].aG k (by omega) with ⟨a,b⟩ | ⟨i,hi,i1,a,b⟩
      · rw [a]
        simp only [mI]
        rw [if_pos (by decide)];exact nx
      · rw [a]
        have t:=ht q (by rw [b];simp)
        rw [b] at t
        simp only [mI]
        rw [if_neg (by simp),aW hi]
        simp only [aI]
        rw [aT8 hl (by omega)]
        simp only [aI,aW hk,aW hi]
        by_cases c0:L[k].Code=0
        · obtain⟨e,x,e1,e2,e3,e4⟩:=t.1 c0
          simp only [Option.some.injEq,Prod.mk.injEq] at e1
          obtain⟨rfl,rfl⟩:=e1
          have z1:(L[k].Code == 0)=true:=by simpa using c0
          rw [z1,if_pos rfl,if_neg (by simpa using e2),if_neg (by simpa using e3)]
          have z2:((PK (L.take i) L[i].Cell).cV != L[k].cV)=false:=by simpa using e4
          rw [z2]
          simp only [qM]
          exact nx
        · have z1:(L[k].Code == 0)=false:=by simpa using c0
          rw [z1,if_neg (by simp)]
          by_cases c8:L[k].Code=8
          · obtain⟨e,x,e1,e2,e3⟩:=t.2 c8
            simp only [Option.some.injEq,Prod.mk.injEq] at e1
            obtain⟨rfl,rfl⟩:=e1
            have z3:(L[k].Code == 8)=true:=by simpa using c8
            rw [z3,if_pos rfl,if_neg (by simpa using e2)]
            have z2:(L[i].Handle != 0)=false:=by simpa using e3
            rw [z2]
            simp only [xA]
            exact nx
          · have z3:(L[k].Code == 8)=false:=by simpa using c8
            rw [z3,if_neg (by simp)];exact nx
    · have q1:(L[k].Kind != 4)=true:=by simpa using q
      rw [q1,if_pos rfl]
      simp only [mI,if_true]
      exact nx) (by simp [xB])
  exact(congrArg (fun x=>x.bind L9) key).trans rfl
theorem aS9{l:List Ev}(hl:l.length≤1000000)(k:Int):KU l k=some (kN k l:Int):=by
  unfold KU
  have key:loop (vR l k) (0,0)=some (kN k l:Int):=by
    have:=iU (f:=vR l k) l.length (fun i=>((kN k (l.take i):Int),(i:Int))) (kN k l:Int) (fun i hi=>by
      have hle:kN k (l.take i)≤i:=Nat.le_trans (List.countP_le_length) (by rw [List.length_take];omega)
      have e:kN k (l.take (i+1))=kN k (l.take i)+if l[i].Kind == k then 1 else 0:=by
        rw [List.take_succ_eq_append_getElem hi,OT]
        simp [kN,List.countP_cons]
      simp only [vR,CX]
      rw [if_pos (by simp;omega),aW hi,aI,e]
      rw [aP (x:=(i:Int)+1) (by omega) (by omega),aP (x:=(kN k (l.take i):Int)+1) (by omega) (by omega)]
      cases (l[i].Kind == k) <;> rfl) (by simp [vR])
    simpa [kN] using this
  rw [key];rfl
end Go.Gv
end
noncomputable section
namespace Go.Gv
structure VJ (j:aZ):Prop where
  c:j.Code≠0→j.cV=0
  z:j.cV≠0→j.Op.Kind=2∧(j.Pc=3∨j.Pc=4)∨j.Op.Kind=3∧j.Pc=4∨j.Op.Kind=7∧j.Pc=2∨j.Pc=9
theorem VJ.zero{j:aZ}(h:j.cV=0):VJ j:=⟨fun _=>h,fun q=>absurd h q⟩
theorem VJ.no{j:aZ}(h:VJ j)(q:¬(j.Op.Kind=2∧(j.Pc=3∨j.Pc=4)∨j.Op.Kind=3∧j.Pc=4∨j.Op.Kind=7∧j.Pc=2∨j.Pc=9)):j.cV=0:=Decidable.byContradiction fun z=>q (h.z z)
noncomputable section
variable {s:aE} {w:Int} {j:aZ}
theorem aZR(h:j.cV=0):(I0 s w j).j.cV=0:=by
  unfold I0
  repeat' split
  all_goals exact h
theorem aYB:∀e∈(I0 s w j).l,e.Kind=2→j.Pc=2∧e.Handle=j.H:=by
  unfold I0
  repeat' split
  all_goals (intro e he k;first | (cases he;done) | (rw [List.mem_singleton.1 he];exact⟨by assumption,rfl⟩))
theorem aYC:∀e∈(G4 s w j).l,e.Kind=3:=by
  unfold G4
  repeat' split
  all_goals (intro e he;first | (cases he;done) | (rw [List.mem_singleton.1 he];rfl))
theorem aYD:∀e∈(LM s w j).l,e.Kind=3:=by
  unfold LM
  repeat' split
  all_goals (intro e he;first | (cases he;done) | (rw [List.mem_singleton.1 he];rfl))
theorem aWD:∀e∈(BD s w j).l,e.Kind=3:=by
  unfold BD
  repeat' split
  all_goals (intro e he;first | (cases he;done) | (rw [List.mem_singleton.1 he];rfl))
theorem aTA:(tM s w j).l=[]:=by
  unfold tM
  repeat' split
  all_goals rfl
variable (h9:j.Pc≠9) (h:VJ j)
include h9 h
theorem aZS(hk:j.Op.Kind=2):VJ (G4 s w j).j:=by
  unfold G4
  by_cases p0:j.Pc=0
  · have V:=h.no (by omega)
    rw [if_pos p0];split <;> exact .zero V
  rw [if_neg p0]
  by_cases p1:j.Pc=1
  · have V:=h.no (by omega)
    rw [if_pos p1];split <;> exact .zero V
  rw [if_neg p1]
  by_cases p2:j.Pc=2
  · rw [if_pos p2];exact⟨fun q=>absurd rfl q,fun _=>.inl ⟨hk,.inl rfl⟩⟩
  rw [if_neg p2]
  by_cases p3:j.Pc=3
  · rw [if_pos p3];unfold hC;split
    · exact⟨fun q=>absurd rfl q,fun _=>.inl ⟨hk,.inr rfl⟩⟩
    · exact .zero rfl
  rw [if_neg p3]
  by_cases p4:j.Pc=4
  · rw [if_pos p4];exact⟨h.c,fun _=>.inr (.inr (.inr rfl))⟩
  rw [if_neg p4]
  exact .zero (h.no (by omega))
theorem aZT(hk:j.Op.Kind=3):VJ (LM s w j).j:=by
  unfold LM
  by_cases p0:j.Pc=0
  · have V:=h.no (by omega)
    rw [if_pos p0];split <;> exact .zero V
  rw [if_neg p0]
  by_cases p1:j.Pc=1
  · have V:=h.no (by omega)
    rw [if_pos p1];exact .zero V
  rw [if_neg p1]
  by_cases p2:j.Pc=2
  · have V:=h.no (by omega)
    rw [if_pos p2];split <;> exact .zero V
  rw [if_neg p2]
  by_cases p3:j.Pc=3
  · rw [if_pos p3];exact⟨fun q=>absurd rfl q,fun _=>.inr (.inl ⟨hk,rfl⟩)⟩
  rw [if_neg p3]
  by_cases p4:j.Pc=4
  · rw [if_pos p4];exact⟨h.c,fun _=>.inr (.inr (.inr rfl))⟩
  rw [if_neg p4]
  exact .zero (h.no (by omega))
theorem aYE(hk:j.Op.Kind=7):VJ (BD s w j).j:=by
  unfold BD
  by_cases p0:j.Pc=0
  · have V:=h.no (by omega)
    rw [if_pos p0]
    repeat' split
    all_goals exact .zero V
  rw [if_neg p0]
  by_cases p1:j.Pc=1
  · rw [if_pos p1];exact⟨fun q=>absurd rfl q,fun _=>.inr (.inr (.inl ⟨hk,rfl⟩))⟩
  rw [if_neg p1]
  by_cases p2:j.Pc=2
  · rw [if_pos p2];unfold hC;split
    · exact⟨fun q=>absurd rfl q,fun _=>.inr (.inr (.inr rfl))⟩
    · exact .zero rfl
  rw [if_neg p2]
  exact .zero (h.no (by omega))
theorem aWE(hk:¬j.Op.Kind=1∧¬j.Op.Kind=2∧¬j.Op.Kind=3∧¬j.Op.Kind=7)(h7:1≤j.Op.Kind∧j.Op.Kind≤7)(hc:j.Op.Kind=4→j.Pc=1→aQA s.aA.aC.aJ (cC s.aA.aO w) j.Sub):VJ (tM s w j).j:=by
  have V:=h.no (by omega)
  unfold tM
  by_cases k6:j.Op.Kind=6
  · rw [if_pos k6]
    repeat' split
    all_goals exact .zero V
  rw [if_neg k6]
  by_cases p:j.Pc=0∨j.Pc=1∧j.Op.Kind≠5
  · rw [if_pos p]
    simp only
    by_cases d:(d7 s.aA w j.Sub).2.cE=true
    · rw [if_pos d]
      by_cases k5:j.Op.Kind=5
      · rw [if_pos k5];exact .zero V
      rw [if_neg k5]
      by_cases p0:j.Pc=0
      · rw [if_pos p0];exact .zero V
      rw [if_neg p0]
      obtain⟨c1,c2,c3⟩:=hc (by omega) (by omega)
      refine⟨fun q=>absurd ?_ q,fun _=>.inr (.inr (.inr rfl))⟩
      show(d7 s.aA w j.Sub).2.Code=0
      unfold d7 at d ⊢
      rw [if_neg (by rw [c2];simp),if_neg (by omega),if_neg (by omega),if_neg (by omega),if_pos c1] at d ⊢
      unfold jI at d ⊢
      rcases c3 with q0 | ⟨_,⟨q1,_⟩ | ⟨q2,a,b,_⟩ | ⟨q3,a,b⟩⟩
      · rw [if_pos q0] at d;rw [show({j.Sub with Pc:=1,E:=s.aA.aC.aJ,Row:=0}:Sub).cE=j.Sub.cE from rfl,c2] at d;cases d
      · rw [if_neg (by omega),if_pos q1] at d ⊢
        by_cases z:rW (cC s.aA.aO w) j.Sub.E j.Sub.Row.toNat < (cC s.aA.aO w).length
        · rw [if_pos z] at d
          exact absurd (show j.Sub.cE=true from d) (by rw [c2];simp)
        · rw [if_neg z];rfl
      · rw [if_neg (by omega),if_neg (by omega),if_pos q2,if_pos ⟨a,b⟩] at d
        exfalso
        split at d <;> exact absurd (show j.Sub.cE=true from d) (by rw [c2];simp)
      · rw [if_neg (by omega),if_neg (by omega),if_neg (by omega),if_pos q3,if_pos ⟨a,b⟩] at d
        exact absurd (show j.Sub.cE=true from d) (by rw [c2];simp)
    · rw [if_neg d];exact .zero V
  · rw [if_neg p];exact .zero V
theorem aZU(h7:1≤j.Op.Kind∧j.Op.Kind≤7)(hn:j.Op.Kind=1→j.Pc=1∨j.Pc=2→j.H≠0)(hc:j.Op.Kind=4→j.Pc=1→aQA s.aA.aC.aJ (cC s.aA.aO w) j.Sub):VJ (GV s w j).j∧∀e∈(GV s w j).l,e.Kind=2→e.Handle≠0:=by
  unfold GV
  by_cases k1:j.Op.Kind=1
  · rw [if_pos k1]
    refine⟨.zero (aZR (h.no (by omega))),fun e he k=>?_⟩
    obtain⟨p,q⟩:=aYB e he k
    rw [q];exact hn k1 (.inr p)
  rw [if_neg k1]
  by_cases k2:j.Op.Kind=2
  · rw [if_pos k2];exact⟨aZS h9 h k2,fun e he k=>by have:=aYC e he;omega⟩
  rw [if_neg k2]
  by_cases k3:j.Op.Kind=3
  · rw [if_pos k3];exact⟨aZT h9 h k3,fun e he k=>by have:=aYD e he;omega⟩
  rw [if_neg k3]
  by_cases k7:j.Op.Kind=7
  · rw [if_pos k7];exact⟨aYE h9 h k7,fun e he k=>by have:=aWD e he;omega⟩
  rw [if_neg k7]
  exact⟨aWE h9 h ⟨k1,k2,k3,k7⟩ h7 hc,fun e he k=>by rw [aTA] at he;cases he⟩
end
structure Tv (s:aE):Prop where
  l:∀e∈s.Log,(e.Kind=2→e.Handle≠0)∧(e.Kind=4→e.Code≠0→e.cV=0)
  j:∀v,0≤v∧v≤2→VJ (aM s v)
theorem aTB(c:aC)(w:Int)(o:dO)(n:Int):(j7 c w o n).cV=0:=by
  unfold j7
  repeat' split
  all_goals rfl
theorem aTC{s:aE}(hs:yT s){w:Int}(hw:0≤w∧w≤2)(hv:Sv s.aA s.Cells (aM s) s.Log s.aG)(h:Tv s):Tv (lO s w):=by
  have h3:=hs.2.2.1
  have key:∀(b:aA) (c:List Int) (q:aZ) (t:List Queue) (l:List Ev) (n:Int),VJ q→(∀e∈l,(e.Kind=2→e.Handle≠0)∧(e.Kind=4→e.Code≠0→e.cV=0))→Tv ⟨b,c,s.aV.set w.toNat q,t,s.Log++l,n⟩:=fun b c q t l n hq hl=>
    ⟨fun e he=>(List.mem_append.1 he).elim (h.l e) (hl e),fun v hv'=>by
      rw [oZ h3 hw hv']
      by_cases z:v=w
      · subst z;rw [dP];exact hq
      · rw [Q9 _ z];exact h.j v hv'⟩
  unfold lO
  by_cases hb:(aM s w).dE=false
  · rw [if_pos hb]
    unfold LN
    split
    · exact h
    · split
      · exact h
      · exact key _ _ _ _ _ _ (.zero (aTB ..)) fun e he=>by rw [List.mem_singleton.1 he];exact⟨fun q=>by simp at q,fun q=>by simp at q⟩
  rw [if_neg hb]
  have hb':(aM s w).dE=true:=by simpa using hb
  by_cases h9:(aM s w).Pc=9
  · rw [if_pos h9]
    exact key _ _ _ _ _ _ (.zero rfl) fun e he=>by
      rw [List.mem_singleton.1 he]
      exact⟨fun q=>by simp [MM] at q,fun _=>(h.j w hw).c⟩
  rw [if_neg h9]
  have hjk:JOk (aM s w):=hs.2.2.2.2.2.2 _ (aLU hs hw)
  have hjo:=(DU hb').1 hjk
  obtain⟨a,b⟩:=aZU (s:=s) (w:=w) h9 (h.j w hw) hjo.1.1 (hv.jv w hw).s1 (hv.jv w hw).k
  unfold j6
  exact key _ _ _ _ _ _ a fun e he=>⟨b e he,fun q=>by have:=(aX4 (s:=s) (w:=w) (j:=aM s w)).ev e he;omega⟩
end Go.Gv
end
noncomputable section
namespace Go.Gv
theorem aIN{z:aE}(hl:z.Log.length≤1000000)(h:Tv z):loop (qN z) (0,z)=some (Out.brk z):=by
  have key:=iU (f:=qN z) z.Log.length (fun k=>((k:Int),z)) (Out.brk z) (fun k hk=>by
    obtain⟨a,b⟩:=h.l _ (List.getElem_mem hk)
    have hj:gK z (k:Int) false z=some (.next (((k+1:Nat):Int),z)):=by
      simp only [gK]
      rw [if_neg (by simp),aW hk]
      simp only [aI]
      rw [aQI (by omega),aT8 hl (by omega)]
      simp only [aI]
      rw [if_neg (by simp),aP (by omega) (by omega)]
      rfl
    simp only [qN]
    rw [if_pos (by simp;omega),aW hk,aI]
    by_cases q:z.Log[k].Kind=2
    · have q1:(z.Log[k].Kind == 2)=true:=by simpa using q
      have q2:(z.Log[k].Handle == 0)=false:=by simpa using a q
      have q3:(z.Log[k].Kind == 4)=false:=by rw [q];rfl
      rw [q1,if_pos rfl,q2,if_neg (by simp),q3,if_neg (by simp)]
      exact hj
    · have q1:(z.Log[k].Kind == 2)=false:=by simpa using q
      rw [q1,if_neg (by simp)]
      by_cases p:z.Log[k].Kind=4
      · have p1:(z.Log[k].Kind == 4)=true:=by simpa using p
        rw [p1,if_pos rfl]
        by_cases c:z.Log[k].Code=0
        · have c1:(z.Log[k].Code != 0)=false:=by simpa using c
          rw [c1,if_neg (by simp)];exact hj
        · have c1:(z.Log[k].Code != 0)=true:=by simpa using c
          have c2:(z.Log[k].cV != 0)=false:=by simpa using b p c
          rw [c1,if_pos rfl,c2];exact hj
      · have p1:(z.Log[k].Kind == 4)=false:=by simpa using p
        rw [p1,if_neg (by simp)];exact hj) (by
    simp only [qN]
    rw [if_neg (by simp)])
  exact key
theorem aGL{code:List UInt8}(_:fit code):KV code=some true:=by
  unfold KV X9
  rw [aI]
  by_cases hcl:1048576 < (code.length:Int)
  · rw [if_pos (by simpa using hcl)]
  rw [if_neg (by simpa using hcl)]
  obtain⟨x,ex,⟨hT,h8⟩,hp⟩:=aGK (code:=code) (by omega)
  rw [ex,aI,aPV hT,aI]
  by_cases ht:G3 x.cL
  · rw [bD ht,if_neg (by simp)]
    have hN:(LO fun v=>(iM x.cL v).length) < 1000000:=by
      have key:∀v,(iM x.cL v).length≤12:=fun v=>by
        unfold iM
        rw [List.getD_eq_getElem?_getD]
        cases e:x.cL[v.toNat]? with
        | none=>simp
        | some q=>exact(ht.2 q (List.mem_of_getElem? e)).1
      have a:=key 0;have b:=key 1;have c:=key 2
      simp only [LO];omega
    generalize hNe:(LO fun v=>(iM x.cL v).length)=N at hN
    let P:aE→Prop:=fun s=>(Tl N s∧phi s+s.Log.length≤774)∧Ep s.aA.aC (aM s)∧Sv s.aA s.Cells (aM s) s.Log s.aG∧Tv s
    have ser:∀s:aE,P s→s.aG≠1000000:=fun s h=>by have:=h.1.1.tot;omega
    have step:∀(s:aE) (w:Int),yT s→(0≤w∧w≤2)→P s→yT (lO s w)∧P (lO s w):=fun s w hs hw h=>by
      obtain⟨_,o1,o2⟩:=Z7 hs (by have:=h.1.2;omega) hw
      obtain⟨⟨p1,p2⟩,p3,p4,p5⟩:=h
      refine⟨o1,⟨aSW hs hw hN p1,?_⟩,aSS hs hw p3,aS6 hs hw p3 p4,aTC hs hw p4 p5⟩
      by_cases q:KB s w
      · rw [aT4 hs hw q];exact p2
      · have:=aGC hs hw (ser s ⟨⟨p1,p2⟩,p3,p4,p5⟩) q;omega
    obtain⟨s,es,hs,hE,hl⟩:=aXT hT hp P (fun t h e=>by
      rw [e]
      refine⟨⟨hNe ▸ tl0 ht,by have:=aZQ ht h8;have:(fG x.cL).Log.length=0:=rfl;omega⟩,ep0 _,sv0 _,fun e he=>by simp [fG] at he,fun v hv=>?_⟩
      have hc:v=0∨v=1∨v=2:=by omega
      rcases hc with rfl | rfl | rfl <;> exact .zero rfl) (fun s w a b c=>(step s w a b c).2) ht
    obtain⟨e,f1,f2⟩:=aST hs (by omega)
    obtain⟨gi,gE⟩:=aAC P step ser 3000 0 s hs hE (by
      have:wait s 0≤2:=by unfold wait;split;split <;> omega;omega
      have:=hE.1.2
      omega)
    rw [es,aI,e,aI]
    have gE':P (aPY s):=gE
    generalize aPY s=z at f1 f2 gE'
    obtain⟨⟨_,g1⟩,_,g2,g3⟩:=gE'
    have hl:z.Log.length≤1000000:=by omega
    rw [aIN hl g3,aI]
    simp only [MB,MA]
    have hc:=f1.2.1
    have e0:=aQI (L:=z.Log) (Nat.le_refl _) 0
    have e1:=aQI (L:=z.Log) (Nat.le_refl _) 1
    rw [List.take_length] at e0
    rw [List.take_length] at e1
    rw [aLV hl g2.tr,aI,if_pos rfl,if_pos (by rw [hc];rfl),B8 f1 (k:=0) (by omega),aI,e0,aI,if_pos (by rw [(g2.cv 0 (by omega)).1];simp),
      B8 f1 (k:=1) (by omega),aI,e1,aI,if_pos (by rw [(g2.cv 1 (by omega)).1];simp),aS8 hl,aI,aS9 hl,aI]
    simp [kR]
  · rw [bM ht,iC,if_pos rfl]
end Go.Gv
end
