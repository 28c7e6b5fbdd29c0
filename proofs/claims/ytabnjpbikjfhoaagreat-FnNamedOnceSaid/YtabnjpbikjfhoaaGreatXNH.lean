import Derived.Test.YtabnjpbikjfhoaaGreatXNG
set_option linter.unusedVariables false
set_option linter.unusedSimpArgs false
set_option linter.unusedSectionVars false
set_option linter.constructorNameAsVariable false
set_option linter.unnecessarySimpa false
noncomputable section
namespace Go.Gv
def JK:List Int→Int→List Int
  | [],x=>[x]
  | a :: t,x=>if a=x then a :: t else if x < a then x :: a :: t else a :: JK t x
theorem FV(y x:Int):∀l:List Int,y∈JK l x↔y=x∨y∈l
  | []=>by simp [JK]
  | a :: t => by
    unfold JK
    split
    · rename_i h
      constructor
      · exact .inr
      · rintro(rfl | h')
        · rw [←h];exact List.mem_cons_self ..
        · exact h'
    split
    · rw [List.mem_cons]
    · rw [List.mem_cons,List.mem_cons,FV y x t]
      constructor
      · rintro(h | h | h)
        · exact .inr (.inl h)
        · exact .inl h
        · exact .inr (.inr h)
      · rintro(h | h | h)
        · exact .inr (.inl h)
        · exact .inl h
        · exact .inr (.inr h)
theorem Q7(x:Int):∀{l:List Int},l.Pairwise (· < ·)→(JK l x).Pairwise (· < ·)
  | [],_=>List.pairwise_singleton _ _
  | a :: t, h => by
    have h':=List.pairwise_cons.1 h
    unfold JK
    split
    · exact h
    split
    · rename_i hx
      rw [List.pairwise_cons]
      refine⟨fun y hy=>?_,h⟩
      rcases List.mem_cons.1 hy with rfl | hy
      · exact hx
      · have:=h'.1 y hy;omega
    · rename_i h1 h2
      rw [List.pairwise_cons]
      refine⟨fun y hy=>?_,Q7 x h'.2⟩
      rcases(FV y x t).1 hy with rfl | hy
      · omega
      · exact h'.1 y hy
theorem aCY{x:Int}:∀{l:List Int},x∉l→(JK l x).length=l.length+1
  | [],_=>rfl
  | a :: t, h => by
    unfold JK
    rw [if_neg (fun e=>h (by rw [e];exact List.mem_cons_self ..))]
    split
    · rfl
    · rw [List.length_cons,aCY (fun z=>h (List.mem_cons_of_mem _ z))];rfl
theorem VJ{x:Int}:∀{l:List Int},l.Pairwise (· < ·)→x∈l→JK l x=l
  | [],_,h=>by cases h
  | a :: t, hp, h => by
    have h':=List.pairwise_cons.1 hp
    unfold JK
    split
    · rfl
    · rename_i ne
      have ht:x∈t:=by
        rcases List.mem_cons.1 h with e | e
        · exact absurd e.symm ne
        · exact e
      have:=h'.1 x ht
      rw [if_neg (by omega),VJ h'.2 ht]
noncomputable section
variable {l:List Int} (hl:l.length≤1000) {x:Int}
include hl
theorem aIU:∀d k:Nat,k+d=l.length→(∀y∈l.drop k,y≠x)→∀out:List Int,out.length≤100000+k→loop (jE l x) (out,true,(k:Int))=some (Out.brk (out++l.drop k,true))
  | 0, k, hk, _, out, _ => by
    refine bO ?_
    simp only [jE]
    rw [if_neg (by simp;omega),List.drop_of_length_le (by omega),List.append_nil]
  | d + 1, k, hk, hy, out, ho => by
    have hkl:k < l.length:=by omega
    have hd:l.drop k=l[k] :: l.drop (k+1):=List.drop_eq_getElem_cons hkl
    have ne:(l[k] == x)=false:=by simpa using hy l[k] (by rw [hd];exact List.mem_cons_self ..)
    rw [bP (s':=(out ++ [l[k]],true,((k+1:Nat):Int))) (by
      simp only [jE,pR,pQ]
      rw [if_pos (by simp;omega),aV hkl,aE,ne]
      simp only [aN,if_false,dE,aE]
      rw [aM (by simp;omega),aO (by omega) (by omega)];rfl),aIU d (k+1) (by omega) (fun y h=>hy y (by rw [hd];exact List.mem_cons_of_mem _ h)) (out ++ [l[k]]) (by simp;omega),hd,List.append_assoc]
    rfl
theorem aIV:∀d k:Nat,k+d=l.length→(l.drop k).Pairwise (· < ·)→∀out:List Int,out.length≤50000+k→((loop (jE l x) (out,false,(k:Int))).bind fun o=>uR x o)=some (if x∈l.drop k then l else out++JK (l.drop k) x)
  | 0, k, hk, _, out, ho => by
    rw [bO (r:=Out.brk (out,false)) (by simp only [jE];rw [if_neg (by simp;omega)]),aE]
    simp only [uR,II,uQ]
    rw [List.drop_of_length_le (by omega),if_pos (by simp),aM (by simp;omega),if_neg (by simp)]
    rfl
  | d + 1, k, hk, hp, out, ho => by
    have hkl:k < l.length:=by omega
    have hd:l.drop k=l[k] :: l.drop (k+1):=List.drop_eq_getElem_cons hkl
    have hp':=hp
    rw [hd] at hp'
    obtain⟨h1,h2⟩:=List.pairwise_cons.1 hp'
    by_cases e:l[k]=x
    · rw [bO (r:=Out.ret l) (by
        simp only [jE]
        rw [if_pos (by simp;omega),aV hkl,aE,if_pos (by simpa using e)]),aE]
      simp only [uR]
      rw [if_pos (by rw [hd,e];exact List.mem_cons_self ..)]
    have ne:(l[k] == x)=false:=by simpa using e
    by_cases g:x < l[k]
    · have hx:∀y∈l.drop (k+1),y≠x:=fun y hy=>by have:=h1 y hy;omega
      rw [bP (s':=(out ++ [x] ++ [l[k]],true,((k+1:Nat):Int))) (by
        simp only [jE,pR,pQ]
        rw [if_pos (by simp;omega),aV hkl,aE,ne,bC g]
        simp only [aN,if_false,iE,if_true,aE]
        rw [aM (by simp;omega),aM (by simp;omega),aO (by omega) (by omega)];rfl),aIU hl d (k+1) (by omega) hx _ (by simp;omega),aE]
      simp only [uR,II,uQ,dE,aN,if_false]
      rw [if_neg (by rw [hd];exact fun z=>(List.mem_cons.1 z).elim (fun z=>e z.symm) (fun z=>hx x z rfl)),hd]
      unfold JK
      rw [if_neg e,if_pos g]
      simp
    · rw [bP (s':=(out ++ [l[k]],false,((k+1:Nat):Int))) (by
        simp only [jE,pR,pQ]
        rw [if_pos (by simp;omega),aV hkl,aE,ne,bL g]
        simp only [aN,if_false,iE,if_true,aE]
        rw [aM (by simp;omega),aO (by omega) (by omega)];rfl),aIV d (k+1) (by omega) h2 (out ++ [l[k]]) (by simp;omega),hd]
      have eI:JK (l[k] :: l.drop (k+1)) x=l[k] :: JK (l.drop (k+1)) x:=by
        conv=>lhs;unfold JK
        rw [if_neg e,if_neg g]
      rw [eI]
      by_cases m:x∈l.drop (k+1)
      · rw [if_pos m,if_pos (List.mem_cons_of_mem _ m)]
      · rw [if_neg m,if_neg (fun z=>(List.mem_cons.1 z).elim (fun z=>e z.symm) m)]
        simp
theorem put_eq(hp:l.Pairwise (· < ·)):qF l x=some (JK l x):=by
  have:=aIV hl (x:=x) l.length 0 (by omega) (by rw [List.drop_zero];exact hp) [] (by simp)
  unfold qF
  rw [List.drop_zero] at this
  rw [show(([]:List Int),false,(0:Int))=([],false,((0:Nat):Int)) from rfl]
  by_cases m:x∈l
  · rw [if_pos m] at this
    rw [VJ hp m];exact this
  · rw [if_neg m] at this;exact this
end
def aIW(l:List Int)(x:Int):List Int:=if x=0 then l else JK l x
def iD(c:List Int)(J:Int→bE):Nat→List Int
  | 0=>[]
  | k+1=>aIW (iD c J k) (nm c J k)
theorem DB(c:List Int)(J:Int→bE):∀k,(iD c J k).Pairwise (· < ·)
  | 0=>List.Pairwise.nil
  | k + 1 => by
    have:=DB c J k
    unfold iD aIW
    split
    · exact this
    · exact Q7 _ this
theorem WU(c:List Int)(J:Int→bE)(y:Int):∀k,y∈iD c J k↔∃i:Nat,i < k∧nm c J i=y∧y≠0
  | 0=>by simp [iD]
  | k + 1 => by
    have ih:=WU c J y k
    unfold iD aIW
    constructor
    · intro h
      split at h
      · obtain⟨i,h1,h2⟩:=ih.1 h
        exact⟨i,by omega,h2⟩
      · rename_i q
        rcases(FV _ _ _).1 h with e | e
        · exact⟨k,by omega,e.symm,by rw [e];exact q⟩
        · obtain⟨i,h1,h2⟩:=ih.1 e
          exact⟨i,by omega,h2⟩
    · rintro⟨i,h1,h2,h3⟩
      by_cases e:i=k
      · subst e
        rw [if_neg (by rw [h2];exact h3),FV];exact .inl h2.symm
      · have:=ih.2 ⟨i,by omega,h2,h3⟩
        split
        · exact this
        · rw [FV];exact .inr this
theorem RQ(c:List Int)(J:Int→bE):∀k,(iD c J k).length≤k
  | 0=>Nat.le_refl _
  | k + 1 => by
    have ih:=RQ c J k
    unfold iD aIW
    split
    · omega
    · by_cases m:nm c J k∈iD c J k
      · rw [VJ (DB c J k) m];omega
      · rw [aCY m];omega
theorem add_eq(c:List Int)(J:Int→bE){k:Nat}(hk:k≤10)(x:Int):qF (iD c J k) x=some (JK (iD c J k) x):=put_eq (by have:=RQ c J k;omega) (DB c J k)
noncomputable section
variable {s:aG} (hs:C7 s) (hl:s.Log.length≤1000000)
include hs hl
theorem aKN:DT s=some (iD s.Cells (aL s) 5):=by
  have hsm:=KE hs hl
  have c2:=hs.2.1
  unfold DT
  rw [aMB hsm,bC hs,aE]
  have k1:loop (yD s true) (([]:List Int),0)=some (iD s.Cells (aL s) 2):=iY (f:=yD s true) 2 (fun k=>(iD s.Cells (aL s) k,(k:Int))) _ (fun k hk=>by
    have hx:idx s.Cells (k:Int)=some (nm s.Cells (aL s) k):=by rw [rD hs (k:=(k:Int)) (by omega),iZ _ _ (k:=(k:Int)) (by omega)]
    have ae:=add_eq s.Cells (aL s) (k:=k) (by omega) (nm s.Cells (aL s) k)
    have ew:bB ((k:Int)+1)=((k+1:Nat):Int):=by rw [aO (by omega) (by omega)];rfl
    simp only [yD,yC,EX]
    rw [if_pos (by simp;omega),if_pos trivial,hx]
    simp only [aE,ew]
    by_cases q:nm s.Cells (aL s) k=0
    · rw [if_neg (by simpa using q)]
      have:iD s.Cells (aL s) (k+1)=iD s.Cells (aL s) k:=by simp only [iD,aIW];rw [if_pos q]
      rw [this]
    · rw [if_pos (by simpa using q),ae,aE]
      have:iD s.Cells (aL s) (k+1)=JK (iD s.Cells (aL s) k) (nm s.Cells (aL s) k):=by simp only [iD,aIW];rw [if_neg q]
      rw [this]) (by simp [yD,yC])
  rw [k1,aE]
  simp only [R9,R8]
  have k2:loop (yA s true) (iD s.Cells (aL s) 2,0)=some (iD s.Cells (aL s) 5):=iY (f:=yA s true) 3 (fun k=>(iD s.Cells (aL s) (k+2),(k:Int))) _ (fun k hk=>by
    have hx:idx s.aX (k:Int)=some (aL s k):=pZ hs (by omega)
    have en:nm s.Cells (aL s) ((k+2:Nat):Int)=A3 (aL s k):=by
      have:=fA s.Cells (aL s) (v:=(k:Int)) (by omega)
      rw [←this];rfl
    have ae:=fun x=>add_eq s.Cells (aL s) (k:=k+2) (by omega) x
    have ew:bB ((k:Int)+1)=((k+1:Nat):Int):=by rw [aO (by omega) (by omega)];rfl
    have same:A3 (aL s k)=0→iD s.Cells (aL s) (k+1+2)=iD s.Cells (aL s) (k+2):=fun q=>by
      rw [show k+1+2=(k+2)+1 by omega]
      conv=>lhs;unfold iD aIW
      rw [en,if_pos q]
    have more:A3 (aL s k)≠0→iD s.Cells (aL s) (k+1+2)=JK (iD s.Cells (aL s) (k+2)) (A3 (aL s k)):=fun q=>by
      rw [show k+1+2=(k+2)+1 by omega]
      conv=>lhs;unfold iD aIW
      rw [en,if_neg q]
    simp only [yA,xZ,xY,EW,EV,xX]
    rw [if_pos (by simp;omega),if_pos trivial,hx,aE,ew]
    generalize aL s k=j at same more
    by_cases k1:j.Op.Kind=1
    · have k1':(j.Op.Kind != 1)=false:=by simpa using k1
      rw [k1',if_neg (by simp)]
      by_cases p1:j.Pc=1
      · have e:A3 j=j.H:=aNU k1 (.inl p1)
        rw [e] at same more
        have q1:(j.Pc == 1)=true:=by simpa using p1
        have q3:(j.Pc == 3)=false:=by rw [p1];rfl
        simp only [q1,q3,if_true,aN,if_false]
        by_cases z:j.H=0
        · rw [if_neg (by simpa using z),same z]
        · rw [if_pos (by simpa using z),ae,aE,more z]
      have q1:(j.Pc == 1)=false:=by simpa using p1
      by_cases p2:j.Pc=2
      · have e:A3 j=j.H:=aNU k1 (.inr p2)
        rw [e] at same more
        have q2:(j.Pc == 2)=true:=by simpa using p2
        have q3:(j.Pc == 3)=false:=by rw [p2];rfl
        simp only [q1,q2,q3,if_true,aN,if_false]
        by_cases z:j.H=0
        · rw [if_neg (by simpa using z),same z]
        · rw [if_pos (by simpa using z),ae,aE,more z]
      have q2:(j.Pc == 2)=false:=by simpa using p2
      by_cases p3:j.Pc=3
      · have e:A3 j=j.Old:=nm3 k1 p3
        rw [e] at same more
        have q3:(j.Pc == 3)=true:=by simpa using p3
        simp only [q1,q2,q3,if_true,aN,if_false]
        by_cases z:j.Old=0
        · rw [if_neg (by simpa using z),same z]
        · rw [if_pos (by simpa using z),ae,aE,more z]
      · have q3:(j.Pc == 3)=false:=by simpa using p3
        simp only [q1,q2,q3,aN,if_false]
        rw [same (SW p1 p2 p3)]
    · have k1':(j.Op.Kind != 1)=true:=by simpa using k1
      rw [k1',if_pos rfl,same (rF k1)]) (by simp [yA,xZ])
  rw [k2];rfl
end
end Go.Gv
end
noncomputable section
namespace Go.Gv
noncomputable section
variable {α:Type} {p:α→Bool}
theorem aIX{f:Int→Option (Step Int (Out Unit Int))}{s:List α}(hl:s.length≤4611686018427387904)
    (hf:∀k:Nat,f (k:Int)=if h:k < s.length then (if p s[k] then some (.stop (Out.ret (k:Int))) else some (.next ((k+1:Nat):Int))) else some (.stop (Out.brk ()))) :
    ∀d k,k+d=s.length→(∃j,∃h:j < s.length,k≤j∧(∀i (h:i < s.length),k≤i→i < j→p s[i]=false)∧p s[j]=true∧loop f (k:Int)=some (Out.ret (j:Int)))∨((∀i (h:i < s.length),k≤i→p s[i]=false)∧loop f (k:Int)=some (Out.brk ()))
  | 0,k,hk=>.inr ⟨fun i h h2=>by omega,bO (by rw [hf k,dif_neg (by omega)])⟩
  | d + 1, k, hk => by
    have hks:k < s.length:=by omega
    by_cases hp:p s[k]=true
    · exact .inl ⟨k,hks,Nat.le_refl _,fun i h h1 h2=>by omega,hp,bO (by rw [hf k,dif_pos hks,if_pos hp])⟩
    · have hp:p s[k]=false:=by simpa using hp
      have hn:f (k:Int)=some (.next ((k+1:Nat):Int)):=by rw [hf k,dif_pos hks,if_neg (by simp [hp])]
      rcases aIX hl hf d (k+1) (by omega) with ⟨j,h,h1,h2,h3,h4⟩ | ⟨h1,h2⟩
      · refine .inl ⟨j,h,by omega,fun i hi a b=>?_,h3,by rw [bP hn];exact h4⟩
        by_cases e:i=k
        · subst e;exact hp
        · exact h2 i hi (by omega) b
      · refine .inr ⟨fun i hi a=>?_,by rw [bP hn];exact h2⟩
        by_cases e:i=k
        · subst e;exact hp
        · exact h1 i hi (by omega)
theorem aGU{f:List α×Int×Int→Option (Step (List α×Int×Int) (List α×Int))}{n:Nat}(hl:n≤4611686018427387904)
    (hf:∀(L:List α) (i j:Nat) (h:j < L.length),L.length=n→i≤j→f (L,(i:Int),(j:Int))=if p L[j] then some (.next (L,(i:Int),((j+1:Nat):Int))) else some (.next (L.set i L[j],((i+1:Nat):Int),((j+1:Nat):Int))))
    (he:∀(L:List α) (i j:Nat),j=L.length→f (L,(i:Int),(j:Int))=some (.stop (L,(i:Int)))) :
    ∀d (L:List α) (i j:Nat),j+d=L.length→L.length=n→i≤j→∃(M:List α) (k:Nat),loop f (L,(i:Int),(j:Int))=some (M,(k:Int))∧M.length=n∧k≤n∧M.take k=L.take i++(L.drop j).filter (fun x=>!p x)
  | 0,L,i,j,hj,hn,hi=>⟨L,i,bO (he L i j (by omega)),hn,by omega,by rw [List.drop_of_length_le (by omega)];simp⟩
  | d + 1, L, i, j, hj, hn, hi => by
    have hjl:j < L.length:=by omega
    have hd:L.drop j=L[j] :: L.drop (j+1):=List.drop_eq_getElem_cons hjl
    by_cases hp:p L[j]=true
    · obtain⟨M,k,h1,h2,h3,h4⟩:=aGU hl hf he d L i (j+1) (by omega) hn (by omega)
      refine⟨M,k,by rw [bP (by rw [hf L i j hjl hn hi,if_pos hp])];exact h1,h2,h3,by rw [h4,hd,List.filter_cons_of_neg (by simp [hp])]⟩
    · have hp:p L[j]=false:=by simpa using hp
      obtain⟨M,k,h1,h2,h3,h4⟩:=aGU hl hf he d (L.set i L[j]) (i+1) (j+1) (by simp;omega) (by simpa using hn) (by omega)
      refine⟨M,k,by rw [bP (by rw [hf L i j hjl hn hi,if_neg (by simp [hp])])];exact h1,h2,h3,?_⟩
      rw [h4,hd,List.filter_cons_of_pos (by simp [hp])]
      have e1:(L.set i L[j]).take (i+1)=L.take i ++ [L[j]]:=by
        rw [List.take_succ_eq_append_getElem (by simp;omega),List.take_set_of_le (Nat.le_refl _)]
        simp
      have e2:(L.set i L[j]).drop (j+1)=L.drop (j+1):=by rw [List.drop_set_of_lt (by omega)]
      rw [e1,e2];simp
end
theorem aNV{α:Type}{l xs:List α}{a:Nat}(h:a≤l.length):((dA l a xs).take a).drop 0=l.take a:=by
  unfold dA
  rw [List.drop_zero,List.take_append_of_le_length (by simp;omega),List.take_take,Nat.min_self]
theorem aR0{α:Type}{q:α→Bool}{s:List α}{j:Nat}(h:j < s.length)(h1:∀i (h:i < s.length),i < j→q s[i]=true)(h2:q s[j]=false):s.take j++(s.drop (j+1)).filter q=s.filter q:=by
  have e:s=s.take j++s[j] :: s.drop (j+1):=by rw [←List.drop_eq_getElem_cons h,List.take_append_drop]
  have e3:(s.take j).filter q=s.take j:=by
    rw [List.filter_eq_self]
    intro x hx
    obtain⟨i,hi,rfl⟩:=List.getElem_of_mem hx
    rw [List.getElem_take]
    simp at hi
    exact h1 i (by omega) (by omega)
  conv=>rhs;rw [e]
  rw [List.filter_append,List.filter_cons_of_neg (by simp [h2]),e3]
theorem aKO{s:List Int}{p:Int→Bool}(hl:s.length≤4611686018427387904) :
    (∃j,∃h:j < s.length,(∀i (h:i < s.length),i < j→p s[i]=false)∧p s[j]=true∧fY s (fun y=>some (p y))=some (j:Int))∨((∀i (h:i < s.length),p s[i]=false)∧fY s (fun y=>some (p y))=some (-1)):=by
  rcases aIX (f:=fM s (fun y=>some (p y))) (p:=p) hl (fun k=>by
    simp only [fM]
    by_cases h:k < s.length
    · rw [dif_pos h,if_pos (by simp;omega),aV h,aE,aE,aO (by omega) (by omega)]
      rfl
    · rw [dif_neg h,if_neg (by simpa using h)]) s.length 0 (by omega) with ⟨j,h,_,h2,h3,h4⟩ | ⟨h1,h2⟩
  · refine .inl ⟨j,h,fun i hi a=>h2 i hi (Nat.zero_le _) a,h3,?_⟩
    unfold fY
    rw [show(0:Int)=((0:Nat):Int) from rfl,h4];rfl
  · refine .inr ⟨fun i hi=>h1 i hi (Nat.zero_le _),?_⟩
    unfold fY
    rw [show(0:Int)=((0:Nat):Int) from rfl,h2];rfl
theorem aIY{s:List Int}{p:Int→Bool}(hl:s.length≤4611686018427387904):mM s (fun y=>some (p y))=some (s.filter fun x=>!p x):=by
  unfold mM
  rcases aKO (p:=p) hl with ⟨j,h,h1,h2,h3⟩ | ⟨h1,h3⟩
  · have ne:¬(((j:Int) == -1)=true):=by simp <;> omega
    rw [h3,aE,if_neg ne,aO (by omega) (by omega)]
    obtain⟨M,k,g1,g2,g3,g4⟩:=aGU (p:=p) (n:=s.length) (f:=kD (fun y=>some (p y))) hl (fun L i j h hn hi=>by
      simp only [kD]
      rw [if_pos (by simp;omega),aV h,aE,aE]
      by_cases hp:p L[j]=true
      · rw [if_pos hp,if_neg (by simp [hp])]
        simp only [iJ]
        rw [aO (by omega) (by omega)];rfl
      · rw [if_neg hp,if_pos (by simpa using hp),aV (by omega),aE]
        simp only [iJ]
        rw [aO (by omega) (by omega),aO (by omega) (by omega)];rfl) (fun L i j h=>by
      simp only [kD]
      rw [if_neg (by simp;omega)]) (s.length - (j+1)) s j (j+1) (by omega) rfl (by omega)
    rw [show((j:Int)+1)=((j+1:Nat):Int) by omega,g1,aE]
    simp only [xL,xK,Int.toNat_natCast]
    rw [aM (by omega),aM (by rw [eT (by omega)];omega),aNV (by omega),g4,aR0 h (fun i hi a=>by simp [h1 i hi a]) (by simp [h2])]
  · rw [h3,aE,if_pos (by rfl),List.filter_eq_self.2]
    intro x hx
    obtain⟨i,hi,rfl⟩:=List.getElem_of_mem hx
    simp [h1 i hi]
theorem aIZ(x y:Int):cmp_Less_int x y=some (decide (x < y)):=by
  simp [cmp_Less_int,cmp_isNaN_int,rR]
theorem aGV{A B:List Int}{x:Int}{k:Int}(h:k=(A.length:Int)):idx (A++x :: B) k=some x:=by
  subst h
  rw [aV (by simp)];simp
theorem aMK{A B:List Int}{x y:Int}{k:Nat}(h:k=A.length):(A++x :: B).set k y=A++y :: B:=by
  subst h;simp
theorem aI0{data:List Int}(hd:data.length≤4611686018427387904):∀(j:Nat) (A B C:List Int) (x:Int),A.length=j→(A++x :: (B++C)).length=data.length→(A++B).Pairwise (·≤·)→(∀b∈B,x≤b) →
    ∃M:List Int,loop (dL data 0) (A++x :: (B++C),(j:Int))=some (M++C)∧M.Perm (A++x :: B)∧M.Pairwise (·≤·)
  | 0, A, B, C, x, hj, hn, hs, hx => by
    obtain rfl:A=[]:=List.eq_nil_of_length_eq_zero hj
    refine⟨x :: B,bO ?_,.refl _,List.pairwise_cons.2 ⟨hx,hs⟩⟩
    simp only [dL,dK]
    rw [aM hn,if_neg (by simp),aM hn,if_neg (by simp)]
    rfl
  | j + 1, A, B, C, x, hj, hn, hs, hx => by
    obtain⟨A,y,rfl⟩:∃A' y,A=A' ++ [y]:=by
      rcases List.eq_nil_or_concat A with h | ⟨A',y,h⟩
      · rw [h] at hj;cases hj
      · exact⟨A',y,by rw [h,List.concat_eq_append]⟩
    have hjA:A.length=j:=by simpa using hj
    have e0:A ++ [y]++x :: (B++C)=A++y :: (x :: (B++C)):=by simp
    have ew:bB (((j+1:Nat):Int) - 1)=(j:Int):=by
      have:(A ++ [y]++x :: (B++C)).length=data.length:=hn
      simp at this
      rw [aO (by omega) (by omega)];omega
    have i1:idx (A++y :: (x :: (B++C))) ((j+1:Nat):Int)=some x:=by
      have:=aGV (A:=A ++ [y]) (B:=B++C) (x:=x) (k:=((j+1:Nat):Int)) (by simp;omega)
      rwa [e0] at this
    have i2:idx (A++y :: (x :: (B++C))) (j:Int)=some y:=aGV (by omega)
    rw [e0] at hn ⊢
    have hyB:∀b∈B,y≤b:=fun b hb=>(List.pairwise_append.1 hs).2.2 y (by simp) b hb
    by_cases hlt:x < y
    · have st:dL data 0 (A++y :: (x :: (B++C)),((j+1:Nat):Int))=some (.next (A++x :: ((y :: B)++C),(j:Int))):=by
        simp only [dL]
        rw [aM hn,if_pos (by simp <;> omega),ew,i1,aE,i2,aE,aIZ,aE]
        simp only [dK,iP]
        rw [aM hn,if_pos (by simpa using hlt),ew,i2,aE,i1,aE]
        have es:(A++y :: (x :: (B++C))).set (((j+1:Nat):Int)).toNat y=A++y :: (y :: (B++C)):=by
          have:=aMK (A:=A ++ [y]) (B:=B++C) (x:=x) (y:=y) (k:=(((j+1:Nat):Int)).toNat) (by simp;omega)
          simpa using this
        rw [es,aGV (A:=A) (by omega),aE,aMK (A:=A) (by simp;omega),aM (by simpa using hn)]
        rfl
      obtain⟨M,h1,h2,h3⟩:=aI0 hd j A (y :: B) C x hjA (by simpa using hn) (by simpa using hs) (fun b hb=>by
        rcases List.mem_cons.1 hb with rfl | hb
        · omega
        · exact hx b hb)
      refine⟨M,by rw [bP st];exact h1,h2.trans ?_,h3⟩
      have:(A++x :: y :: B).Perm (A++y :: x :: B):=List.Perm.append_left A (List.Perm.swap y x B)
      simpa using this
    · refine⟨A ++ [y]++x :: B,bO ?_,.refl _,?_⟩
      · simp only [dL]
        rw [aM hn,if_pos (by simp <;> omega),ew,i1,aE,i2,aE,aIZ,aE]
        simp only [dK]
        rw [aM hn,if_neg (by simpa using hlt)]
        simp
      · rw [List.pairwise_append] at hs ⊢
        refine⟨hs.1,List.pairwise_cons.2 ⟨hx,hs.2.1⟩,fun a ha b hb=>?_⟩
        rcases List.mem_cons.1 hb with rfl | hb
        · rcases List.mem_append.1 ha with ha' | ha'
          · have:=(List.pairwise_append.1 hs.1).2.2 a ha' y (by simp);omega
          · simp at ha';omega
        · exact hs.2.2 a ha b hb
theorem aE9{data:List Int}(hd:data.length≤4611686018427387904):∀d (S R:List Int),R.length=d→S≠[]→(S++R).length=data.length→S.Pairwise (·≤·) →
    ∃M:List Int,loop (cM data 0 (data.length:Int)) (S++R,(S.length:Int))=some M∧M.Perm (S++R)∧M.Pairwise (·≤·)
  | 0, S, R, hR, h0, hn, hs => by
    obtain rfl:R=[]:=List.eq_nil_of_length_eq_zero hR
    refine⟨S,bO ?_,by simp,hs⟩
    simp only [cM]
    rw [aM hn,if_neg (by simp at hn ⊢;omega)]
    simp
  | d+1,S,[],hR,h0,hn,hs=>by cases hR
  | d + 1, S, x :: R, hR, h0, hn, hs => by
    obtain⟨M,h1,h2,h3⟩:=aI0 hd S.length S [] R x rfl (by simpa using hn) (by simpa using hs) (fun b hb=>by cases hb)
    have hl:=h2.length_eq
    simp at hl
    have hn':=hn
    simp at hn'
    have st:cM data 0 (data.length:Int) (S++x :: R,(S.length:Int))=some (.next (M++R,((S.length+1:Nat):Int))):=by
      simp only [cM]
      rw [aM hn,if_pos (by simp;omega)]
      rw [show S++x :: R=S++x :: ([]++R) by simp,h1,aE]
      simp only [mH,mG]
      rw [aM (by simp;omega),aO (by omega) (by omega)];rfl
    obtain⟨N,g1,g2,g3⟩:=aE9 hd d M R (by simpa using hR) (by intro h;rw [h] at hl;simp at hl) (by simp;omega) h3
    refine⟨N,by rw [bP st,←hl];exact g1,g2.trans ?_,g3⟩
    have:(M++R).Perm (S ++ [x]++R):=List.Perm.append_right R h2
    simpa using this
theorem aR1{x:List Int}(h:x.length≤12)(hb:∃n,xM (IntKind.u64.wrap (x.length:Int))=some n):∃y:List Int,zF x=some y∧y.Perm x∧y.Pairwise (·≤·):=by
  have key:∃y:List Int,gT x 0 (x.length:Int)=some y∧y.Perm x∧y.Pairwise (·≤·):=by
    unfold gT
    rw [aO (by omega) (by omega)]
    cases x with
    | nil =>
      refine⟨[],?_,.refl _,.nil⟩
      rw [bO (r:=[]) (by simp only [cM];rw [aM trivial,if_neg (by simp)]),aE]
      simp only [iQ,iO]
      rw [aM trivial]
    | cons a r =>
      obtain⟨M,h1,h2,h3⟩:=aE9 (data:=a :: r) (by omega) r.length [a] r rfl (by simp) (by simp) (List.pairwise_singleton _ _)
      refine⟨M,?_,by simpa using h2,h3⟩
      have h1':loop (cM (a :: r) 0 ((a :: r).length:Int)) (a :: r,(0:Int)+1)=some M:=h1
      rw [h1',aE]
      simp only [iQ,iO]
      have h4:=h2.length_eq
      rw [aM (by simpa using h4)]
  obtain⟨y,h1,h2,h3⟩:=key
  obtain⟨n,hn⟩:=hb
  refine⟨y,?_,h2,h3⟩
  unfold zF mT
  rw [hn,aE,bO (r:=y) (by
    simp only [rS]
    rw [aO (by omega) (by omega),if_pos (by simp;omega),h1];rfl),aE]
  rfl
def aXI(n:Nat):Bool:=(xM (IntKind.u64.wrap (n:Int))).isSome
theorem aR2:(List.range 13).all aXI=true:=by kernel_rfl
theorem aKP(n:Nat)(h:n≤12):∃m,xM (IntKind.u64.wrap (n:Int))=some m:=
  Option.isSome_iff_exists.1 (List.all_eq_true.1 aR2 n (List.mem_range.2 (by omega)))
theorem aI1{l:List Int}(h:l.Pairwise (·≤·)):(wZ l).Pairwise (· < ·)∧∀a,a∈wZ l↔a∈l:=by
  obtain⟨n,hn⟩:∃n,l.length=n:=⟨_,rfl⟩
  revert l
  induction n with
  | zero=>intro l h hn;obtain rfl:l=[]:=List.eq_nil_of_length_eq_zero hn;exact⟨.nil,fun a=>Iff.rfl⟩
  | succ n ih=>
  intro l h hn
  obtain⟨l,x,rfl⟩:∃L z,l=L ++ [z]:=by
    rcases List.eq_nil_or_concat l with h0 | ⟨L,z,h0⟩
    · rw [h0] at hn;cases hn
    · exact⟨L,z,by rw [h0,List.concat_eq_append]⟩
  rw [List.pairwise_append] at h
  obtain⟨i1,i2⟩:=ih h.1 (by simpa using hn)
  rw [VV]
  split
  · rename_i hx
    have hm:x∈l:=(i2 x).1 (List.mem_of_getLast? hx)
    exact⟨i1,fun a=>by rw [i2,List.mem_append];exact⟨.inl,fun h=>h.elim id fun h=>by simp at h;rw [h];exact hm⟩⟩
  · rename_i hx
    refine⟨List.pairwise_append.2 ⟨i1,List.pairwise_singleton _ _,fun a ha b hb=>?_⟩,fun a=>by rw [List.mem_append,List.mem_append,i2]⟩
    simp at hb;subst hb
    have hle:a≤b:=h.2.2 a ((i2 a).1 ha) b (by simp)
    by_cases e:a=b
    · subst e
      exfalso
      obtain⟨L,z,hz⟩:∃L z,wZ l=L ++ [z]:=by
        rcases List.eq_nil_or_concat (wZ l) with h0 | ⟨L,z,h0⟩
        · rw [h0] at ha;cases ha
        · exact⟨L,z,by rw [h0,List.concat_eq_append]⟩
      rw [hz] at ha hx i1
      have hz':z≤a:=h.2.2 z ((i2 z).1 (by rw [hz];simp)) a (by simp)
      rcases List.mem_append.1 ha with ha' | ha'
      · have:=(List.pairwise_append.1 i1).2.2 a ha' z (by simp);omega
      · simp at ha';subst ha';simp at hx
    · omega
theorem VK{l:List Int}(h:l.length≤12):∃y:List Int,uG l=some y∧y.Pairwise (· < ·)∧∀a,a∈y↔a∈l∧a≠0:=by
  unfold uG eU
  rw [aM (by simp;omega),aE,List.nil_append]
  have hd:=aIY (s:=l) (p:=fun x=>x == 0) (by omega)
  rw [show(fun y0=>DQ y0)=(fun y=>some (y == 0)) from rfl,hd,aE]
  have hfl:(l.filter fun x=>!(x == 0)).length≤12:=Nat.le_trans (List.length_filter_le _ _) h
  obtain⟨y,h1,h2,h3⟩:=aR1 hfl (aKP _ hfl)
  obtain⟨c1,c2⟩:=aI1 h3
  refine⟨wZ y,by rw [h1,aE];rfl,c1,fun a=>?_⟩
  rw [c2,h2.mem_iff,List.mem_filter]
  simp
theorem TO:∀{a b:List Int},a.Pairwise (· < ·)→b.Pairwise (· < ·)→(∀x,x∈a↔x∈b)→a=b
  | [],[],_,_,_=>rfl
  | [],y :: b,_,_,h=>by have:=(h y).2 (by simp);cases this
  | x :: a,[],_,_,h=>by have:=(h x).1 (by simp);cases this
  | x :: a, y :: b, ha, hb, h => by
    have ha':=List.pairwise_cons.1 ha
    have hb':=List.pairwise_cons.1 hb
    have e:x=y:=by
      have h1:=(h x).1 (by simp)
      have h2:=(h y).2 (by simp)
      rcases List.mem_cons.1 h1 with e | h1
      · exact e
      · rcases List.mem_cons.1 h2 with e | h2
        · exact e.symm
        · have:=ha'.1 y h2;have:=hb'.1 x h1;omega
    subst e
    congr 1
    refine TO ha'.2 hb'.2 fun z=>?_
    have:=h z
    rw [List.mem_cons,List.mem_cons] at this
    constructor
    · intro hz
      rcases this.1 (.inr hz) with e | q
      · have:=ha'.1 z hz;omega
      · exact q
    · intro hz
      rcases this.2 (.inr hz) with e | q
      · have:=hb'.1 z hz;omega
      · exact q
end Go.Gv
end
noncomputable section
namespace Go.Gv
def guG(p:oE)(j:bE):Bool:=if j.eG=false∨j.H=0 then false else if j.Op.Kind=2 then p.On && !p.cX && (j.Pc == 2 || j.Pc == 3) else if j.Op.Kind=7 then p.On && !p.cX && (j.Pc == 1 || j.Pc == 2) else if j.Op.Kind=3 then j.Pc == 3 else false
def guI(p:oE)(j:bE):Bool:=if j.Op.Kind=2 then p.On && !p.cX && (j.Pc == 2 || j.Pc == 3) else if j.Op.Kind=7 then p.On && !p.cX && (j.Pc == 1 || j.Pc == 2) else if j.Op.Kind=3 then j.Pc == 3 else false
theorem aML{p:oE}{j:bE}(h:j.eG=false→j.Op.Kind=0):guG p j=(guI p j && decide (j.H≠0)):=by
  unfold guG guI
  by_cases hb:j.eG=false
  · have:=h hb
    rw [if_pos (.inl hb),this];simp
  · by_cases h0:j.H=0
    · rw [if_pos (.inr h0)];simp [h0]
    · rw [if_neg (fun q=>q.elim hb h0)];simp [h0]
def gsN(G:Nat→Bool)(H:Nat→Int):Nat→List Int
  | 0=>[]
  | k+1=>if G k then JK (gsN G H k) (H k) else gsN G H k
theorem MO(G:Nat→Bool)(H:Nat→Int):∀k,(gsN G H k).Pairwise (· < ·)
  | 0=>.nil
  | k + 1 => by
    unfold gsN
    split
    · exact Q7 _ (MO G H k)
    · exact MO G H k
theorem aR3(G:Nat→Bool)(H:Nat→Int)(y:Int):∀k,y∈gsN G H k↔∃i:Nat,i < k∧G i=true∧H i=y
  | 0=>by simp [gsN]
  | k + 1 => by
    have ih:=aR3 G H y k
    unfold gsN
    constructor
    · intro h
      split at h
      · rename_i g
        rcases(FV _ _ _).1 h with e | e
        · exact⟨k,by omega,g,e.symm⟩
        · obtain⟨i,h1,h2⟩:=ih.1 e
          exact⟨i,by omega,h2⟩
      · obtain⟨i,h1,h2⟩:=ih.1 h
        exact⟨i,by omega,h2⟩
    · rintro⟨i,h1,h2,h3⟩
      by_cases e:i=k
      · subst e
        rw [if_pos h2,FV];exact .inl h3.symm
      · have:=ih.2 ⟨i,by omega,h2,h3⟩
        split
        · rw [FV];exact .inr this
        · exact this
theorem aKQ(G:Nat→Bool)(H:Nat→Int):∀k,(gsN G H k).length≤k
  | 0=>Nat.le_refl _
  | k + 1 => by
    have ih:=aKQ G H k
    unfold gsN
    split
    · by_cases m:H k∈gsN G H k
      · rw [VJ (MO G H k) m];omega
      · rw [aCY m];omega
    · omega
noncomputable section
variable {s:aG} (hs:C7 s)
include hs
theorem aXK{w:Int}(hw:0≤w∧w≤2):CE s w=some (guG (bU s.aA.aC w) (aL s w)):=by
  unfold CE guG
  rw [pZ hs hw,aE,wI hs.1.1.2.1 hw,aE]
  simp only [tJ,tI,nS,nT]
  generalize bU s.aA.aC w=p
  generalize aL s w=j
  cases hb:j.eG
  · cases p.On <;> simp
  · by_cases h0:j.H=0
    · cases p.On <;> simp [h0]
    · by_cases k2:j.Op.Kind=2
      · cases p.On <;> cases p.cX <;> by_cases q:j.Pc=2 <;> simp [h0,k2,q]
      · by_cases k7:j.Op.Kind=7
        · cases p.On <;> cases p.cX <;> by_cases q:j.Pc=1 <;> simp [h0,k7,q]
        · by_cases k3:j.Op.Kind=3
          · cases p.On <;> simp [h0,k3]
          · cases p.On <;> simp [h0,k2,k7,k3]
end
def gdS(s:aG):List Int:=gsN (fun k=>guG (bU s.aA.aC k) (aL s k)) (fun k=>(aL s k).H) 3
noncomputable section
variable {s:aG} (hs:C7 s) (hl:s.Log.length≤1000000)
include hs hl
theorem aGW:vZ s=some (gdS s):=by
  have hsm:=KE hs hl
  unfold vZ
  rw [aMB hsm,bC hs,aE]
  have key:loop (sD s true) (([]:List Int),0)=some (gdS s):=iY (f:=sD s true) 3 (fun k=>(gsN (fun k=>guG (bU s.aA.aC k) (aL s k)) (fun k=>(aL s k).H) k,(k:Int))) _ (fun k hk=>by
    have ew:bB ((k:Int)+1)=((k+1:Nat):Int):=by rw [aO (by omega) (by omega)];rfl
    simp only [sD,sC,zL]
    rw [if_pos (by simp;omega),if_pos trivial,aXK hs (w:=(k:Int)) (by omega),aE]
    by_cases g:guG (bU s.aA.aC k) (aL s k)=true
    · rw [if_pos g,pZ hs (w:=(k:Int)) (by omega),aE,put_eq (by have:=aKQ (fun k=>guG (bU s.aA.aC k) (aL s k)) (fun k=>(aL s k).H) k;omega) (MO _ _ k),aE,ew]
      have:gsN (fun k=>guG (bU s.aA.aC k) (aL s k)) (fun k=>(aL s k).H) (k+1)=JK (gsN (fun k=>guG (bU s.aA.aC k) (aL s k)) (fun k=>(aL s k).H) k) (aL s k).H:=by simp only [gsN];rw [if_pos g]
      rw [this]
    · rw [if_neg g,ew]
      have:gsN (fun k=>guG (bU s.aA.aC k) (aL s k)) (fun k=>(aL s k).H) (k+1)=gsN (fun k=>guG (bU s.aA.aC k) (aL s k)) (fun k=>(aL s k).H) k:=by simp only [gsN];rw [if_neg g]
      rw [this]) (by simp [sD,sC,gdS])
  rw [key];rfl
theorem aGX(hid:∀v,0≤v∧v≤2→(aL s v).eG=false→(aL s v).Op.Kind=0):vY s=some (gdS s):=by
  have hsm:=KE hs hl
  have h3:=hs.2.2.1
  unfold vY
  rw [aMC hsm,bC hs,aE,dE,if_neg (by simp)]
  obtain⟨R,hR0,hRl,hRs,hRm⟩:∃R:Nat→List Int,R 0=[]∧(∀k,(R k).length≤k)∧(∀k:Nat,R (k+1)=if guI (bU s.aA.aC (k:Int)) (aL s (k:Int))=true then R k ++ [(aL s (k:Int)).H] else R k)∧∀a,a∈R 3↔∃i:Nat,(i < 3∧guI (bU s.aA.aC (i:Int)) (aL s (i:Int))=true)∧(aL s (i:Int)).H=a:=by
    refine⟨fun k=>((List.range k).filter fun i:Nat=>guI (bU s.aA.aC (i:Int)) (aL s (i:Int))).map fun i:Nat=>(aL s (i:Int)).H,rfl,fun k=>?_,fun k=>?_,fun a=>by simp [List.mem_map,List.mem_filter,List.mem_range]⟩
    · rw [List.length_map]
      exact Nat.le_trans (List.length_filter_le _ _) (by simp)
    · simp only [List.range_succ,List.filter_append,List.map_append]
      by_cases g:guI (bU s.aA.aC (k:Int)) (aL s (k:Int))=true
      · rw [if_pos g];simp [g]
      · rw [if_neg g];simp [g]
  have key:loop (sB s) (([]:List Int),0)=some (R 3):=by
   have:=iY (f:=sB s) 3 (fun k=>(R k,(k:Int))) (R 3) (fun k hk=>by
    have ew:bB ((k:Int)+1)=((k+1:Nat):Int):=by rw [aO (by omega) (by omega)];rfl
    have hl1:(R k).length + [(aL s k).H].length≤1073741824:=by have:=hRl k;simp;omega
    simp only [sB]
    rw [if_pos (by simp;omega),pZ hs (w:=(k:Int)) (by omega),aE,wI hs.1.1.2.1 (w:=(k:Int)) (by omega),aE,hRs k]
    simp only [jZ,iG,dR,sA,r9,m9,zK,ew,aM hl1,guI]
    generalize R k=r
    generalize bU s.aA.aC (k:Int)=p
    generalize aL s (k:Int)=j
    obtain⟨po,pe,pm,pl⟩:=p
    dsimp only
    by_cases k2:j.Op.Kind=2
    · by_cases q:j.Pc=2
      · cases po <;> cases pm <;> simp [k2,q]
      · by_cases q':j.Pc=3
        · cases po <;> cases pm <;> simp [k2,q']
        · have:¬(2≤j.Pc∧j.Pc≤3):=by omega
          cases po <;> cases pm <;> simp [k2,q,q',this]
    · by_cases k7:j.Op.Kind=7
      · by_cases q:j.Pc=1
        · cases po <;> cases pm <;> simp [k7,q]
        · by_cases q':j.Pc=2
          · cases po <;> cases pm <;> simp [k7,q']
          · have:¬(1≤j.Pc∧j.Pc≤2):=by omega
            cases po <;> cases pm <;> simp [k7,q,q',this]
      · by_cases k3:j.Op.Kind=3
        · by_cases q:j.Pc=3 <;> cases po <;> cases pm <;> simp [k3,q]
        · cases po <;> cases pm <;> simp [k2,k7,k3]) (by
    simp only [sB]
    rw [if_neg (by rw [h3];simp)])
   rw [hR0] at this
   exact this
  rw [key,aE]
  simp only [OM,OL]
  obtain⟨y,h1,h2,h4⟩:=VK (l:=R 3) (by have:=hRl 3;omega)
  rw [h1,aE]
  congr 1
  refine TO h2 (MO _ _ 3) fun a=>?_
  unfold gdS
  rw [h4,aR3,hRm]
  constructor
  · rintro⟨⟨i,⟨hi,g⟩,e⟩,h0⟩
    exact⟨i,hi,by rw [aML (hid i (by omega)),g,e];simp [h0],e⟩
  · rintro⟨i,hi,g,e⟩
    rw [aML (hid i (by omega))] at g
    simp only [Bool.and_eq_true,decide_eq_true_eq] at g
    exact⟨⟨i,⟨hi,g.1⟩,e⟩,by rw [←e];exact g.2⟩
theorem aKR:M9 s=some (iD s.Cells (aL s) 5):=by
  have hsm:=KE hs hl
  have h3:=hs.2.2.1
  have c2:=hs.2.1
  unfold M9
  rw [aMC hsm,bC hs,aE,dE,if_neg (by simp),rC (by omega),aE]
  obtain⟨R,hR0,hRl,hRs,hRm⟩:∃R:Nat→List Int,R 0=s.Cells∧(∀k,(R k).length≤k+2)∧(∀k:Nat,R (k+1)=if (aL s (k:Int)).Op.Kind=1∧((aL s (k:Int)).Pc=1∨(aL s (k:Int)).Pc=2∨(aL s (k:Int)).Pc=3) then R k ++ [A3 (aL s (k:Int))] else R k) ∧
      ∀a,a∈R 3↔a∈s.Cells∨∃i:Nat,(i < 3∧((aL s (i:Int)).Op.Kind=1∧((aL s (i:Int)).Pc=1∨(aL s (i:Int)).Pc=2∨(aL s (i:Int)).Pc=3)))∧A3 (aL s (i:Int))=a:=by
    refine⟨fun k=>s.Cells++((List.range k).filter fun i:Nat=>decide ((aL s (i:Int)).Op.Kind=1∧((aL s (i:Int)).Pc=1∨(aL s (i:Int)).Pc=2∨(aL s (i:Int)).Pc=3))).map fun i:Nat=>A3 (aL s (i:Int)),by simp,fun k=>?_,fun k=>?_,fun a=>by simp [List.mem_map,List.mem_filter,List.mem_range]⟩
    · rw [List.length_append,List.length_map]
      have:=Nat.le_trans (List.length_filter_le (fun i:Nat=>decide ((aL s (i:Int)).Op.Kind=1∧((aL s (i:Int)).Pc=1∨(aL s (i:Int)).Pc=2∨(aL s (i:Int)).Pc=3))) (List.range k)) (Nat.le_of_eq List.length_range)
      omega
    · simp only [List.range_succ,List.filter_append,List.map_append]
      by_cases g:(aL s (k:Int)).Op.Kind=1∧((aL s (k:Int)).Pc=1∨(aL s (k:Int)).Pc=2∨(aL s (k:Int)).Pc=3)
      · rw [if_pos g];simp [g]
      · rw [if_neg g];simp [g]
  have key:loop (xO s) (s.Cells,0)=some (R 3):=by
    have := iY (f := xO s) 3 (fun k => (R k, (k : Int))) (R 3) (fun k hk => by
      have ew:bB ((k:Int)+1)=((k+1:Nat):Int):=by rw [aO (by omega) (by omega)];rfl
      have hl1:∀x:Int,(R k).length + [x].length≤1073741824:=fun x=>by have:=hRl k;simp;omega
      simp only [xO]
      rw [if_pos (by simp;omega),pZ hs (w:=(k:Int)) (by omega),aE,hRs k]
      simp only [dR,EP,EO,xN,ew,aM (hl1 _),A3]
      generalize R k=r
      generalize aL s (k:Int)=j
      by_cases k1:j.Op.Kind=1
      · by_cases p1:j.Pc=1
        · simp [k1,p1]
        · by_cases p2:j.Pc=2
          · simp [k1,p2]
          · have:¬(1≤j.Pc∧j.Pc≤2):=by omega
            by_cases p3:j.Pc=3 <;> simp [k1,p1,p2,p3,this]
      · simp [k1]) (by
      simp only [xO]
      rw [if_neg (by rw [h3];simp)])
    rw [hR0] at this
    exact this
  rw [key,aE]
  simp only [R1,R0]
  obtain⟨y,h1,h2,h4⟩:=VK (l:=R 3) (by have:=hRl 3;omega)
  rw [h1,aE]
  congr 1
  refine TO h2 (DB _ _ 5) fun a=>?_
  rw [h4,WU,hRm]
  constructor
  · rintro⟨h | ⟨i,⟨hi,g⟩,e⟩,h0⟩
    · obtain⟨k,hk,e⟩:=List.getElem_of_mem h
      refine⟨k,by omega,?_,h0⟩
      rw [iZ _ _ (k:=(k:Int)) (by omega)]
      have:=rD hs (k:=(k:Int)) (by omega)
      rw [aV hk] at this
      rw [←Option.some.inj this,e]
    · refine⟨i+2,by omega,?_,h0⟩
      have:=fA s.Cells (aL s) (v:=(i:Int)) (by omega)
      rw [show((i+2:Nat):Int)=(i:Int)+2 by omega,this,e]
  · rintro ⟨i, hi, e, h0⟩
    refine⟨?_,h0⟩
    by_cases q:i < 2
    · left
      rw [iZ _ _ (k:=(i:Int)) (by omega)] at e
      have:=rD hs (k:=(i:Int)) (by omega)
      rw [aV (by omega)] at this
      rw [←e,←Option.some.inj this]
      exact List.getElem_mem _
    · right
      have:=fA s.Cells (aL s) (v:=((i - 2:Nat):Int)) (by omega)
      rw [show((i - 2:Nat):Int)+2=(i:Int) by omega,e] at this
      refine⟨i - 2,⟨by omega,?_⟩,this.symm⟩
      have nz:A3 (aL s ((i - 2:Nat):Int))≠0:=by rw [←this];exact h0
      by_cases k1:(aL s ((i - 2:Nat):Int)).Op.Kind=1
      · refine⟨k1,?_⟩
        by_cases p1:(aL s ((i - 2:Nat):Int)).Pc=1
        · exact .inl p1
        · by_cases p2:(aL s ((i - 2:Nat):Int)).Pc=2
          · exact .inr (.inl p2)
          · by_cases p3:(aL s ((i - 2:Nat):Int)).Pc=3
            · exact .inr (.inr p3)
            · exact absurd (SW p1 p2 p3) nz
      · exact absurd (rF k1) nz
end
end Go.Gv
end
noncomputable section
namespace Go.Gv
theorem aKS{s:aG}(hs:C7 s)(ho:Ow s.aA (nm s.Cells (aL s))):loop (lL (iD s.Cells (aL s) 5)) (0,s)=some (Out.brk s):=by
  have hb:=hs.1
  obtain⟨hcnt,h3,h9,h1,_⟩:=mD.facts hb.1.1
  have hnl:=RQ s.Cells (aL s) 5
  have hso:=DB s.Cells (aL s) 5
  have hmem:=fun y=>WU s.Cells (aL s) y 5
  generalize iD s.Cells (aL s) 5=l at hnl hso hmem ⊢
  have key:=iY (f:=lL l) l.length (fun k=>((k:Int),s)) (Out.brk s) (fun k hk=>by
    obtain⟨i,i1,i2,i3⟩:=(hmem _).1 (List.getElem_mem hk)
    have lv:=ho.live (i:Int) (by omega) (by rw [i2];exact i3)
    rw [i2] at lv
    have ew:bB ((k:Int)+1)=((k+1:Nat):Int):=by rw [aO (by omega) (by omega)];rfl
    have hhs:dS l[k]=some (l[k] % 32):=by rw [cN,if_pos lv.1.1]
    have hil:qU s.aA.aP (l[k] % 32)=some false:=by rw [GF hb.1.2.2.1,bL lv.2]
    simp only [lL,jK,wT]
    rw [if_pos (by simp;omega),aV hk,aE]
    have hv:IH s.aA.Mem l[k]=some true:=by
      rw [aRP hb.1.1,bC lv.1]
    rw [hv,aE,dE,if_neg (by simp)]
    by_cases k0:k=0
    · subst k0
      rw [if_neg (by simp),hhs,aE,hil,aE,if_neg (by simp),ew]
    · rw [if_pos (by simp;omega)]
      have ek:bB ((k:Int) - 1)=((k - 1:Nat):Int):=by rw [aO (by omega) (by omega)];omega
      rw [ek,aV (by omega),aE]
      have hlt:l[k - 1] < l[k]:=List.pairwise_iff_getElem.1 hso (k - 1) k (by omega) hk (by omega)
      rw [if_neg (by simp;omega),hhs,aE,hil,aE,if_neg (by simp),ew]) (by
    simp only [lL]
    rw [if_neg (by simp)])
  exact key
theorem Y3{code:List UInt8}(_:fit code):DU code=some true:=by
  unfold DU aAR
  rw [aE]
  by_cases hcl:1048576 < (code.length:Int)
  · rw [if_pos (by simpa using hcl)]
  rw [if_neg (by simpa using hcl)]
  obtain⟨x,ex,hT,hp⟩:=aKG (code:=code) (by omega)
  rw [ex,aE,aRM hT,aE]
  by_cases ht:LB x.e9
  · rw [bC ht,if_neg (by simp)]
    obtain⟨s,es,hs,hE,hl⟩:=aY1 hT hp (fun s=>Ep s.aA.aC (aL s)∧Sv s.aA s.Cells (aL s) s.Log s.aK) (fun t _ _=>⟨ep0 _,sv0 _⟩) (fun s w hs hw h=>⟨aUD hs hw h.1,aUN hs hw h.1 h.2⟩) ht
    have hl':s.Log.length≤1000000:=by omega
    have ho:=hE.2.ow
    have hc:=hs.2.1
    have hn:=RQ s.Cells (aL s) 5
    have hg:(gdS s).length≤3:=aKQ _ _ 3
    rw [es,aE,aKR hs hl',aE,aKS hs ho,aE]
    simp only [GQ,GP]
    have tail:(DT s).bind (fun x14=>(kE (iD s.Cells (aL s) 5) x14).bind fun x15=>if x15=true then (vY s).bind fun x16=>(vZ s).bind fun x17=>(kE x16 x17).bind fun x18=>fH x18 else fH false)=some true:=by
      rw [aKN hs hl',aE,SS (by omega),aE,if_pos rfl,aGX hs hl' (fun v hv=>(hE.2.jv v hv).idle),aE,aGW hs hl',aE,SS (by omega)]
      rfl
    rw [if_pos (by rw [hc];rfl),rD hs (k:=0) (by omega),aE,rD hs (k:=1) (by omega),aE]
    by_cases c0:cellAt s.Cells 0=0
    · rw [if_pos (by simpa using c0)];exact tail
    · rw [if_neg (by simpa using c0),if_pos]
      · exact tail
      · have:=ho.once 0 1 (by omega) (by omega)
        rw [iZ _ _ (k:=0) (by omega),iZ _ _ (k:=1) (by omega)] at this
        simp only [bne_iff_ne,ne_eq]
        exact fun e=>by have:=this c0 e;omega
  · rw [bL ht,iE,if_pos rfl]
end Go.Gv
end
