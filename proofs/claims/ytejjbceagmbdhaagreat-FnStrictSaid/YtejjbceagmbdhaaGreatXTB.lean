import Derived.Test.YtejjbceagmbdhaaGreatXTA
set_option linter.unusedVariables false
set_option linter.unusedSimpArgs false
set_option linter.unusedSectionVars false
set_option linter.constructorNameAsVariable false
set_option linter.unnecessarySimpa false
noncomputable section
namespace Go.Gv
noncomputable section
variable {m:Nat} {e:SE} {L:List Ch}
theorem Z2{B:Bl}{m:Nat}{x:SV}{v:Value}(hv:bE B x=some v)(h:∀n o,x=.p n o->n < m):bE (B.take m) x=some v:=by
 cases x <;> simp only [bE] at hv ⊢ <;> try exact hv
 rename_i n o
 rw [BK,if_pos (h n o rfl)];exact hv
theorem wF{B:Bl}{m:Nat}:∀{cs:List SV} {vs:List Value},tF.okC m cs=true->aR (bE B) cs=some vs->aR (bE (B.take m)) cs=some vs
 | [],vs,_,h=>h
 | x :: cs, vs, ho, h => by
  simp only [aR] at h
  split at h
  ·cases h
  ·rename_i h1
   split at h
   ·cases h
   ·rename_i h2
    cases h
    have hx:(∀n o,x=.p n o->n < m)/\tF.okC m cs=true:=by
     simp only [tF.okC] at ho
     cases x <;> try exact⟨fun _ _ h=>(by cases h),ho⟩
     ·rename_i n o
      simp only at ho
      split at ho
      ·rename_i hb
       exact⟨fun n' o' he=>by cases he;simpa [l6] using hb,ho⟩
      ·cases ho
     ·cases ho
    simp [aR,Z2 h1 hx.1,wF hx.2 h2]
theorem aMK{B:Bl}{m:Nat}:∀{cs:List SV} {vs:List Value},tF.okT m cs=true->aR (gV B) cs=some vs->aR (gV (B.take m)) cs=some vs
 | [],vs,_,h=>h
 | x :: cs, vs, ho, h => by
  simp only [aR] at h
  split at h
  ·cases h
  ·rename_i y0 h1
   split at h
   ·cases h
   ·rename_i h2
    cases h
    have hx:gV (B.take m) x=some y0/\tF.okT m cs=true:=by
     simp only [tF.okT] at ho
     cases x <;> try exact⟨h1,ho⟩
     ·rename_i n o
      simp only at ho
      split at ho
      ·rename_i hb
       refine⟨Z2 (x:=.p n o) h1 (fun n' o' he=>by cases he;simpa [l6] using hb),ho⟩
      ·cases ho
     ·rename_i ds
      simp only at ho
      split at ho
      ·rename_i hb
       refine⟨?_,ho⟩
       simp only [gV] at h1 ⊢
       split at h1
       ·rename_i h3;rw [wF hb h3];exact h1
       ·cases h1
      ·cases ho
    simp [aR,hx.1,aMK hx.2 h2]
theorem aML{B:Bl}{m:Nat}:∀{cs:List Nat} {vs:List Value},tF.okF m cs=true->aR (LY B) cs=some vs->aR (LY (B.take m)) cs=some vs
 | [],vs,_,h=>h
 | x :: cs, vs, ho, h => by
  simp only [aR] at h
  split at h
  ·cases h
  ·rename_i y0 h1
   split at h
   ·cases h
   ·rename_i h2
    cases h
    simp only [tF.okF] at ho
    split at ho
    ·rename_i hb
     have hx:LY (B.take m) x=some y0:=by
      unfold LY at h1 ⊢
      rw [BK,if_pos (by simpa [l6] using hb)];exact h1
     simp [aR,hx,aML ho h2]
    ·cases ho
theorem L4{B:Bl}{m:Nat}{x:SV}{v:Value}(h:tF m x=true)(hv:dU B x=some v):dU (B.take m) x=some v:=by
 cases x
 case p n o=>exact Z2 (x:=.p n o) hv (fun n' o' he=>by cases he;simpa [tF,l6] using h)
 case g cs=>
  simp only [dU,gV] at hv ⊢
  split at hv
  ·rename_i h1;rw [wF h h1];exact hv
  ·cases hv
 case t cs=>
  simp only [dU] at hv ⊢
  split at hv
  ·rename_i h1;rw [aMK h h1];exact hv
  ·cases hv
 case f f cs=>
  simp only [dU] at hv ⊢
  split at hv
  ·rename_i h1;rw [aML h h1];exact hv
  ·cases hv
 all_goals exact hv
theorem aRJ{B:Bl}{z x:SV}:bE B (re1 z x)=bE B x:=by
 cases z <;> cases x <;> rfl
theorem aVB{B:Bl}{z x:SV}:dU B (re1 z x)=dU B x:=by
 cases z <;> cases x <;> rfl
theorem aMM{B:Bl}:∀{cs ds:List SV},aR (bE B) (reC cs ds)=aR (bE B) ds
 | [],[]=>rfl
 | [],_ :: _=>rfl
 | _ :: _,[]=>rfl
 | c :: cs,d :: ds=>by simp only [reC,aR,aRJ,aMM]
theorem aRK{B:Bl}{x:SV}:bE B (nb1 x)=bE B x:=by cases x <;> rfl
theorem QJ{B:Bl}:∀{cs:List SV},aR (bE B) (nbL cs)=aR (bE B) cs
 | []=>rfl
 | c :: cs=>by simp only [nbL,aR,aRK,QJ]
theorem aYE{B:Bl}{x:SV}:gV B (nbG x)=gV B x:=by
 cases x <;> try rfl
 simp only [nbG,gV,QJ]
theorem aMN{B:Bl}:∀{cs:List SV},aR (gV B) (nbT cs)=aR (gV B) cs
 | []=>rfl
 | c :: cs=>by simp only [nbT,aR,aYE,aMN]
theorem aFF{B:Bl}{x:SV}:dU B (nbG x)=dU B x:=by
 cases x <;> try rfl
 simp only [nbG,dU,gV,QJ]
theorem YV{B:Bl}{x:SV}:dU B (nbS x)=dU B x:=by
 cases x with
 | g cs=>exact aFF (x:=.g cs)
 | t xs=>simp only [nbS,dU,aMN]
 | _=>rfl
theorem aMO{B:Bl}:∀{cs:List SV},aR (dU B) (nbT cs)=aR (dU B) cs
 | []=>rfl
 | c :: cs=>by simp only [nbT,aR,aFF,aMO]
theorem H5{B:Bl}:∀{cs:List SV},aR (dU B) (nbA cs)=aR (dU B) cs
 | []=>rfl
 | c :: cs => by
  simp only [nbA]
  split
  ·simp only [aR,H5];rfl
  ·simp only [aR,aFF,H5]
theorem aRL{e:SE}:∀{e' s:SE} {k:Nat} {x:SV},reE e e'=some s->BV s k=some x->∃y,BV e k=some y/\∀B,dU B x=dU B y
 | [],s,k,x,h,hk=>by cases h;cases hk
 | (j, y) :: r, s, k, x, h, hk => by
  simp only [reE] at h
  split at h
  ·rename_i z hz
   split at h
   ·rename_i s' hs
    cases h
    simp only [BV] at hk
    cases hb:Nat.beq k j with
    | true=>rw [hb] at hk;cases hk;rw [i5 hb];exact⟨z,hz,fun B=>aVB⟩
    | false=>rw [hb] at hk;exact aRL hs hk
   ·cases h
  ·cases h
theorem aFG{B:Bl}{w:World}{R:List Fact}:∀(M L:List Ch),iH w (L.map (jA B)) ((reL M L).map (jA B))/\((∀x∈L,roF B R x)->∀x∈reL M L,roF B R x)
 | [],L=>by simp only [reL];exact⟨iH.refl _,fun h=>h⟩
 | x :: M,[]=>by cases x <;> exact⟨.nil,fun h=>h⟩
 | x :: M, y :: L => by
  obtain⟨h1,h2⟩:=aFG (B:=B) (w:=w) (R:=R) M L
  have gen:reL (x :: M) (y :: L)=y :: reL M L->iH w ((y :: L).map (jA B)) ((reL (x :: M) (y :: L)).map (jA B))/\((∀x∈y :: L,roF B R x)->∀z∈reL (x :: M) (y :: L),roF B R z):=fun he=>by
   rw [he]
   refine⟨.cons (fun _ h=>h) h1,fun h z hz=>?_⟩
   rcases gI.1 hz with hz | hz
   ·subst hz;exact h _ (by simp)
   ·exact h2 (fun x hx=>h x (mL _ hx)) z hz
  cases x with
  | box n cs =>
   cases y with
   | box k ds =>
    simp only [reL]
    refine⟨.cons (fun F ⟨b,z,vs,k1,k2,k3⟩=>⟨b,z,vs,k1,by rw [aMM];exact k2,k3⟩) h1,fun h z hz=>?_⟩
    rcases gI.1 hz with hz | hz
    ·subst hz;trivial
    ·exact h2 (fun x hx=>h x (mL _ hx)) z hz
   | _=>exact gen rfl
  | _=>exact gen (by cases y <;> rfl)
theorem aRM{m:Nat}:∀{s:SE} {k:Nat} {x:SV},okE m s=true->BV s k=some x->tF m x=true
 | [],k,x,h,hk=>by cases hk
 | (j, y) :: r, k, x, h, hk => by
  simp only [okE] at h
  split at h
  ·rename_i ho
   simp only [BV] at hk
   cases hb:Nat.beq k j with
   | true=>rw [hb] at hk;cases hk;exact ho
   | false=>rw [hb] at hk;exact aRM h hk
  ·cases h
theorem aFH{m:Nat}:∀{L:List Ch} {x:Ch},okL m L=true->x∈L->(∀n cs,x=.box n cs\/x=.ro n cs->n < m/\tF.okC m cs=true)
 | y :: L, x, h, hx, n, cs, he => by
  have key:(∀n cs,y=.box n cs\/y=.ro n cs->n < m/\tF.okC m cs=true)/\okL m L=true:=by
   cases y with
   | box k c =>
    simp only [okL] at h
    split at h
    ·rename_i h1 h2
     refine⟨fun n cs he=>?_,h⟩
     rcases he with he | he <;> cases he
     exact⟨by simpa [l6] using h1,h2⟩
    ·cases h
   | ro k c =>
    simp only [okL] at h
    split at h
    ·rename_i h1 h2
     refine⟨fun n cs he=>?_,h⟩
     rcases he with he | he <;> cases he
     exact⟨by simpa [l6] using h1,h2⟩
    ·cases h
   | o c=>exact⟨fun n cs he=>(by rcases he with he | he <;> cases he),h⟩
   | f c=>exact⟨fun n cs he=>(by rcases he with he | he <;> cases he),h⟩
   | no=>exact⟨fun n cs he=>(by rcases he with he | he <;> cases he),h⟩
   | w k b z =>
    simp only [okL] at h
    split at h
    ·exact⟨fun n cs he=>(by rcases he with he | he <;> cases he),h⟩
    ·cases h
  rcases gI.1 hx with hx | hx
  ·subst hx;exact key.1 n cs he
  ·exact aFH key.2 hx n cs he
theorem aW1{m n b z:Nat}:∀{L:List Ch},okL m L=true->Ch.w n b z∈L->n < m
 | y :: L, h, hx => by
  have key:(y=.w n b z->n < m)/\okL m L=true:=by
   cases y with
   | box k c =>
    simp only [okL] at h
    split at h
    ·exact⟨fun he=>(by cases he),h⟩
    ·cases h
   | ro k c =>
    simp only [okL] at h
    split at h
    ·exact⟨fun he=>(by cases he),h⟩
    ·cases h
   | w k b z =>
    simp only [okL] at h
    split at h
    ·rename_i h1
     exact⟨fun he=>(by cases he;simpa [l6] using h1),h⟩
    ·cases h
   | o c=>exact⟨fun he=>(by cases he),h⟩
   | f c=>exact⟨fun he=>(by cases he),h⟩
   | no=>exact⟨fun he=>(by cases he),h⟩
  rcases gI.1 hx with hx | hx
  ·exact key.1 hx.symm
  ·exact aW1 key.2 hx
theorem Z3{L:List Ch}:∀{is:List Nat} {x:Ch},x∈kl L is->x∈L
 | i :: is, x, h => by
  simp only [kl] at h
  split at h
  ·rename_i y hy
   rcases gI.1 h with h | h
   ·subst h;exact rP hy
   ·exact Z3 h
  ·exact Z3 h
theorem aMP{B:Bl}{w:World}{L:List Ch}:∀(is:List Nat),∃is',(∀j∈is',j∈is)/\(cJ is=true->cJ is'=true)/\iH w (pick (L.map (jA B)) is') ((kl L is).map (jA B))
 | []=>⟨[],by simp,fun h=>h,.nil⟩
 | i :: is => by
  obtain⟨is',h1,h2,h3⟩:=aMP (B:=B) (w:=w) (L:=L) is
  cases hi:L[i]? with
  | none =>
   refine⟨is',fun j hj=>mL _ (h1 j hj),fun h=>h2 ?_,?_⟩
   ·simp only [cJ,xM] at h;exact h.2
   ·simp only [kl,hi];exact h3
  | some x =>
   refine⟨i :: is',fun j hj=>?_,fun h=>?_,?_⟩
   ·rcases gI.1 hj with h | h
    ·subst h;simp
    ·exact mL _ (h1 j h)
   ·simp only [cJ,xM] at h ⊢
    refine⟨?_,h2 h.2⟩
    rw [SU] at h ⊢
    exact fun j hj=>h.1 j (h1 j hj)
   ·simp only [kl,hi,pick,BJ,HY,Option.getD_some,C7]
    exact .cons (fun _ h=>h) h3
theorem aRN{c:Ctx}{w:World}{B:Bl}(h:j5 c w B L)(is:List Nat)(ha:cJ is=true):j5 c w B (kl L is):=by
 obtain⟨⟨R,s1,s2⟩,s0⟩:=h
 obtain⟨is',_,h2,h3⟩:=aMP (B:=B) (w:=w) (L:=L) is
 exact⟨⟨R,(s1.KN is' (h2 ha)).imp h3,fun x hx=>s2 x (Z3 hx)⟩,s0⟩
theorem S7{c:Ctx}{w:World}{B:Bl}{m:Nat}{L:List Ch}(h:j5 c w B L)(ho:okL m L=true):j5 c w (B.take m) L:=by
 obtain⟨⟨R,s1,s2⟩,s0⟩:=h
 have key:∀x∈L,∀F,(jA B x).P w F->(jA (B.take m) x).P w F:=by
  intro x hx F hF
  cases x with
  | box n cs =>
   obtain⟨h1,h2⟩:=aFH ho hx n cs (.inl rfl)
   obtain⟨b,z,vs,k1,k2,k3⟩:=hF
   exact⟨b,z,vs,by rw [BK,if_pos h1];exact k1,wF h2 k2,k3⟩
  | _=>exact hF
 have imp:∀(M:List Ch),(∀x∈M,x∈L)->iH w (M.map (jA B)) (M.map (jA (B.take m))):=by
  intro M
  induction M with
  | nil=>exact fun _=>.nil
  | cons x M ih=>exact fun hM=>.cons (key x (hM x (by simp))) (ih fun y hy=>hM y (mL _ hy))
 refine⟨⟨R,s1.imp (imp L fun _ h=>h),fun x hx=>?_⟩,s0⟩
 have:=s2 x hx
 cases x with
 | ro n cs =>
  obtain⟨h1,h2⟩:=aFH ho hx n cs (.inr rfl)
  obtain⟨b,z,vs,k1,k2,k3⟩:=this
  exact⟨b,z,vs,by rw [BK,if_pos h1];exact k1,wF h2 k2,k3⟩
 | w n b z =>
  have h1:=aW1 ho hx
  exact(by rw [BK,if_pos h1];exact this:(List.take m B)[n]?=some (b,z))
 | _=>exact this
theorem aYF{c:Ctx}{w:World}{B:Bl}{L:List Ch}(h:j5 c w B L)(M:List Ch):j5 c w B (reL M L):=by
 obtain⟨⟨R,s1,s2⟩,s0⟩:=h
 exact⟨⟨R,s1.imp (aFG (R:=R) M L).1,(aFG (w:=w) M L).2 s2⟩,s0⟩
theorem Rel.as{n:Nat}{c:Ctx}{B0:Bl}{m':Nat}{e':SE}{L':List Ch}{a:Act}{w:World}(hr:mO n c B0 m e L a w)(is:List Nat)(ha:cJ is=true){f:SE}{M:List Ch}(h:asS e L is m' f M=some (e',L'))(hm:m'<=m)(h0:B0.length<=m'):mO n c B0 m' e' L' a w:=by
 unfold asS at h
 split at h
 ·rename_i s hs
  split at h
  ·rename_i h1 h2
   cases h
   obtain⟨B,hl,hA,hS⟩:=hr
   have hB:(B0++B).take m'=B0++B.take (m' - B0.length):=by
    rw [List.take_append,aDR h0]
   refine⟨B.take (m' - B0.length),by rw [<-hB];simp only [yN,hl];omega,?_,?_⟩
   ·rw [<-hB]
    exact⟨hA.d,hA.size,fun k x hk=>by
     obtain⟨y,q1,q2⟩:=aRL hs hk
     obtain⟨v,k1,k2⟩:=hA.get k y q1
     exact⟨v,L4 (aRM h1 hk) (by rw [q2];exact k1),k2⟩⟩
   ·rw [<-hB]
    exact S7 (aYF (aRN hS is ha) _) h2
  ·cases h
 ·cases h
theorem mO.QH{n:Nat}{c:Ctx}{B0:Bl}{m':Nat}{e':SE}{L':List Ch}{a:Act}{w:World}(hr:mO n c B0 m e L a w)(is:List Nat){f:SE}{M:List Ch}(h:QH B0.length m e L is m' f M=some (e',L')):mO n c B0 m' e' L' a w:=by
 unfold Go.Gv.QH at h
 split at h
 ·rename_i h1 h2 h3
  exact Rel.as hr is h3 h (rQ h2) (rQ h1)
 ·cases h
end
end Go.Gv
end
noncomputable section
namespace Go.Gv
noncomputable section
variable {P:Program} {T:TT} {n:Nat} {B:Bl} {e:SE} {a:Act} {o:Oper} {w w':World} {x y:Operand} {c:Ctx} {L:List Ch}
theorem R4{ops:Array Oper}(h:xQ ops e o.guard=.yes):Want ops o (vE B e) true:=by
 unfold xQ at h
 split at h
 ·exact bM (by assumption)
 ·rename_i j w hg
  split at h
  ·rename_i q hq
   split at h
   ·rename_i s hs
    have hj:(ops[j]?).bind (·.dst)=some s:=by rw [<-Array.getElem?_toList,hq];exact hs
    split at h
    ·rename_i c hl
     have hv:lk (vE B e) s=some (.bool c):=by rw [Z1 hl];rfl
     refine bU hg hj hv ?_
     split at h <;> first | rfl | cases h
    all_goals cases h
   ·cases h
  ·cases h
theorem aW2{ops:Array Oper}(h:xQ ops e o.guard=.no):Want ops o (vE B e) false:=by
 unfold xQ at h
 split at h
 ·cases h
 ·rename_i j w hg
  split at h
  ·rename_i q hq
   split at h
   ·rename_i s hs
    have hj:(ops[j]?).bind (·.dst)=some s:=by rw [<-Array.getElem?_toList,hq];exact hs
    split at h
    ·rename_i c hl
     have hv:lk (vE B e) s=some (.bool c):=by rw [Z1 hl];rfl
     refine bU hg hj hv ?_
     cases c <;> cases w <;> first | rfl | cases h
    ·rename_i hl
     exact aUP hg hj (by rw [Z1 hl];rfl)
    all_goals cases h
   ·cases h
  ·cases h
theorem aHJ{m:Nat}:∀{L:List Ch},ND m L=true->∃i cs,L[i]?=some (.box m cs)/\EU m L=some cs/\∀cs',uQ m cs' L=L.set i (.box m cs')
 | [],h=>by cases h
 | x :: L, h => by
  have ih:ND m L=true->EU m (x :: L)=EU m L->(∀cs',uQ m cs' (x :: L)=x :: uQ m cs' L)->∃i cs,(x :: L)[i]?=some (.box m cs)/\EU m (x :: L)=some cs/\∀cs',uQ m cs' (x :: L)=(x :: L).set i (.box m cs'):=fun h h2 h3=>by
   obtain⟨i,cs,g1,g2,g3⟩:=aHJ h
   exact⟨i+1,cs,by simpa using g1,by rw [h2,g2],fun cs'=>by rw [h3,g3];rfl⟩
  cases x with
  | box k cs =>
   simp only [ND] at h
   split at h
   ·rename_i hb
    have:=i5 hb
    subst this
    exact⟨0,cs,rfl,by simp only [EU,hb],fun cs'=>by simp only [uQ,hb];rfl⟩
   ·rename_i hb
    exact ih h (by simp only [EU,hb]) (fun cs'=>by simp only [uQ,hb])
  | ro k cs =>
   simp only [ND] at h
   split at h
   ·cases h
   ·rename_i hb
    exact ih h (by simp only [EU,hb]) (fun cs'=>by simp only [uQ])
  | o ch=>exact ih h rfl (fun _=>rfl)
  | f g=>exact ih h rfl (fun _=>rfl)
  | no=>exact ih h rfl (fun _=>rfl)
  | w k b z=>exact ih h rfl (fun _=>rfl)
theorem aOL(hT:C9 P T)(hA:fI n B e a)(hS:j5 c w B L){t:TypeId}{p v:SV}{L':List Ch}(ho:o.op=.store t x y)(hx:g9 e x=some p)(hy:g9 e y=some v)(h:R0 T t p v L=some L'):∃w',aPZ P o (vE B e) w w'/\j5 c w' B L':=by
 unfold R0 at h
 split at h
 ·rename_i m j
  split at h
  ·rename_i hb
   split at h
   ·rename_i cs _ _ sz _ h1 h2
    split at h
    ·rename_i h3 h4 h5
     split at h
     case h_2=>cases h
     rename_i ds hds
     have h4:=i5 h4
     have h5:=rQ h5
     have:=JA hds
     rw [aFD _ _ _ (by omega)] at this
     subst this
     split at h
     case h_2=>cases h
     rename_i L2 hL2
     cases h
     have:=JA hL2
     subst this
     obtain⟨i,cs',g1,g2,g3⟩:=aHJ hb
     rw [h1] at g2;cases g2
     obtain⟨pv,hp1,hp2⟩:=dP hA hx
     obtain⟨u,hu1,hu2⟩:=dP hA hy
     obtain⟨vs,hv⟩:=R3 h3 hu1
     obtain⟨b,z,rs,k1,k2,_⟩:=hS.cells h1
     simp only [dU,gV,bE,k1] at hp1
     cases hp1
     have hl:=jR hv
     have hl2:=jR k2
     obtain⟨⟨R,s1,s2⟩,s0⟩:=hS
     have hlt:=(g7.1 g1).1
     have gi:(L.map (jA B))[i]?=some (LZ B m cs):=by rw [BJ,g1];rfl
     have s3:St c w ((L.map (jA B)).set i (OJ b z rs)) R:=s1.imp (iH.put i gi fun F ⟨b',z',vs',q1,q2,q3⟩=>by
      rw [k1] at q1;cases q1;rw [k2] at q2;cases q2;exact q3)
     obtain⟨w2,r1,r2⟩:=aZ2 (P:=P) (o:=o) (e:=vE B e) (b:=b) (q:=z) (cs:=rs) (vs:=vs) (j:=j) (m:=sz) s3 (i:=i) (by rw [WG (by simpa using hlt)]) ho hp2 hu2 (KT hu1 hv) (hT.size _ _ h2) (by omega) (Nat.ble_eq_true_of_le (by omega)) (SU.2 fun q hq=>by
      obtain⟨k,hk⟩:=ZG hq
      have hk2:k < (m0 v).length:=by rw [<-hl];exact(g7.1 hk).1
      obtain⟨q',hq1,hq2⟩:=KQ hv (fO hk2)
      rw [hk] at hq2;cases hq2
      exact Z0 hq1)
     refine⟨w2,r1,⟨⟨R,?_,?_⟩,s0⟩⟩
     ·rw [aDQ] at r2
      rw [g3,KE]
      exact r2.imp (iH.set i (iH.refl _) fun F hF=>⟨b,z,_,k1,S4 j k2 hv,hF⟩)
     ·rw [g3]
      intro q hq
      rcases qY hq with hq | hq
      ·exact s2 q hq
      ·subst hq;trivial
    ·cases h
   ·cases h
  ·cases h
 ·cases h
theorem j5.box(hS:j5 c w B L){w':World}{b:Nat}{cs:List SV}{vs:List Value}(hc:aR (bE B) cs=some vs)(h:∀M R,St c w M R->St c w' (M ++ [BC b vs]) R):j5 c w' (B ++ [(b,0)]) (L ++ [.box B.length cs]):=by
 obtain⟨⟨R,s1,s2⟩,s0⟩:=hS
 refine⟨⟨R,?_,?_⟩,s0⟩
 ·rw [uI]
  refine(h _ _ s1).imp (iH.append (QI _ L) (.cons (fun F hF=>⟨b,0,vs,by simp,dN (fun _ _=>eR _) hc,hF⟩) .nil))
 ·intro q hq
  rcases eX.1 hq with hq | hq
  ·exact aFB _ (s2 q hq)
  ·simp at hq;subst hq;trivial
theorem aRO(hT:C9 P T)(hS:j5 c w B L){t:TypeId}{i:TI}{E:Env}(ho:o.op=.alloc t)(h:yS T t=some i):∃v w' b,dF P o E w v w'/\v=.pointer (some ⟨b,0,none⟩)/\j5 c w' (B ++ [(b,0)]) (L ++ [.box B.length i.z]):=by
 obtain⟨z,hz,hzc⟩:=hT.zero _ _ h
 have hzc':aR (bE B) i.z=some z.cells.toList:=dN (fun x v h=>by simpa using eR (B:=[]) B h) hzc
 refine⟨_,_,w.heap.size,fun _ a hA=>?_,rfl,hS.box hzc' fun M R hM=>hM.alloc z.cells.toList t⟩
 simp [execOp,ho,Instr.alloc,hz,newVar,newRow]
theorem aYG(hA:fI n B e a)(hS:j5 c w B L){t:TypeId}{v:SV}(ho:o.op=.box t x)(h:g9 e x=some v)(hc:isCells v=true):∃u w' b,dF P o (vE B e) w u w'/\u=.pointer (some ⟨b,0,none⟩)/\j5 c w' (B ++ [(b,0)]) (L ++ [.box B.length (m0 v)]):=by
 obtain⟨u,h1,h2⟩:=dP hA h
 obtain⟨vs,h3⟩:=R3 hc h1
 have h4:=KT h1 h3
 subst h4
 refine⟨_,_,w.heap.size,fun _ a hA=>?_,rfl,hS.box h3 fun M R hM=>hM.alloc u.cells.toList t⟩
 simp [execOp,ho,Instr.box,hA.eval h2,newVar,newRow]
end
structure Gx where
 P:Program
 T:TT
 hT:C9 P T
 n:Nat
 c:Ctx
 B0:Bl
 N:Act->World->Prop
 X:Nat->Act->World->Prop
 Q:Act->World->Prop
abbrev Rel(g:Gx)(m:Nat)(e:SE)(L:List Ch)(a:Act)(w:World):Prop:=mO g.n g.c g.B0 m e L a w
mutual
def NK(g:Gx):List Fr->Act->World->Prop
 | []=>g.N
 | .s y :: K=>fun a w=>CW g.P y (NK g K) (XK g K) g.Q a w
 | .k _ :: K=>NK g K
def XK(g:Gx):List Fr->Nat->Act->World->Prop
 | []=>g.X
 | .s _ :: K=>XK g K
 | .k id :: K=>ZL id (NK g K) (XK g K)
end
structure U7 (g:Gx) (B1:Bl) (ops:Array Oper) (l:List Bool) (is:List Nat) (Lf L:List Ch):Prop where
 pre:∃B,B1=g.B0++B
 len:l.length=ops.size
 free:aHH ops=true
 uR:kl L is=Lf
 rng:∀j∈is,j < L.length
 okf:okL B1.length Lf=true
 ap:cJ is=true
abbrev Sd(g:Gx)(B1:Bl)(Lf:List Ch):World->Prop:=fun w=>j5 g.c w B1 Lf
def aZ9(g:Gx)(B1:Bl)(Lf Lv:List Ch)(m:Nat)(e:SE)(L:List Ch)(a:Act)(w:World):Prop:=∃B,(B1++B).length=m/\fI g.n (B1++B) e a/\j5 g.c w (B1++B) L/\∀w',j5 g.c w' B1 Lf->j5 g.c w' (B1++B) Lv
def G(g:Gx)(K:List Fr)(m:Nat)(e:SE)(L:List Ch):rR->Prop
 | .n=>∀a w,Rel g m e L a w->NK g K a w
 | .c x=>∀a w,Rel g m e L a w->CW g.P x (NK g K) (XK g K) g.Q a w
 | .r ops l=>∀a w,Rel g m e L a w->wpList g.P ops (mkQ (NK g K) (XK g K) g.Q) l a w
 | .d B1 ops l is Lf Lv=>U7 g B1 ops l is Lf L->∀a w,aZ9 g B1 Lf Lv m e L a w->wpAnyH g.P .any ops (mkQ (NK g K) (XK g K) g.Q) (Sd g B1 Lf) (l.count false) l.toArray a w
 | .o B1 ops l is Lf Lv i=>U7 g B1 ops l is Lf L->∀a w,aZ9 g B1 Lf Lv m e L a w->wpOp g.P ops (mkQ (NK g K) (XK g K) g.Q) i (fun a' w'=>Sd g B1 Lf w'/\wpAnyH g.P .any ops (mkQ (NK g K) (XK g K) g.Q) (Sd g B1 Lf) ((l.set i true).count false) (l.set i true).toArray a' w') a w
def RD(g:Gx):rR->Bl
 | .d B1 _ _ _ _ _=>B1
 | .o B1 _ _ _ _ _ _=>B1
 | _=>g.B0
def Frz(g:Gx)(cf:rR)(L L':List Ch):Prop:=match cf with
 | .d B1 ops l is Lf _=>U7 g B1 ops l is Lf L->kl L' is=Lf/\∀j∈is,j < L'.length
 | .o B1 ops l is Lf _ _=>U7 g B1 ops l is Lf L->kl L' is=Lf/\∀j∈is,j < L'.length
 | _=>True
def S8(g:Gx)(K:List Fr)(m:Nat)(e:SE)(L:List Ch)(o:Oper)(Lv:List Ch)(cf cf':rR):Prop:=
 ∀(d:Nat) (x:SV) (Ln:List Ch) (nb:World->Bl) (k:Nat),o.dst=some d->(∀w,(nb w).length=k) ->
  (∀B a w,fI g.n B e a->j5 g.c w B Lv->B.length=m->∃v,dU (B++nb g.c.w0) x=some v/\dF g.P o (vE B e) w v w) ->
  (∀B w L,B.length=m->j5 g.c w B L->j5 g.c w (B++nb g.c.w0) (L++Ln)) ->
  G g K (m+k) ((d,x) :: e) (L++Ln) (cf'.ext Ln)->G g K m e L cf
def WO(g:Gx)(K:List Fr)(m:Nat)(e:SE)(L:List Ch)(o:Oper)(cf cf':rR):Prop:=
 ∀(ι:Type) (m':ι->Nat) (e':ι->SE) (L':ι->List Ch),(∀i,Frz g cf L (L' i)) ->
  (∀B a w (next:Act->World->Prop) (Q:Exit->Act->World->Prop),(RD g cf++B).length=m->fI g.n (RD g cf++B) e a->j5 g.c w (RD g cf++B) L->(∀i a' w',mO g.n g.c (RD g cf++B) (m' i) (e' i) (L' i) a' w'->next a' w')->o.wp g.P a w next Q) ->
  (∀i,G g K (m' i) (e' i) (L' i) cf')->G g K m e L cf
def Gs(g:Gx):Stop->Prop
 | .ret m e L=>∀a w,Rel g m e L a w->g.Q a w
 | .fin m e L=>∀a w,Rel g m e L a w->g.N a w
 | .ex id m e L=>∀a w,Rel g m e L a w->g.X id a w
 | .cond o b x y K m e L=>g9 e o=some (.b b)->G g K m e L (.c (.cond o x y))
 | .case _ cf K m e L=>G g K m e L cf
 | .loop id y K m e L=>G g K m e L (.c (.block id (.loop y)))
 | .idx o d t s n i Lv cf cf' K m e L=>(∀x y,o.op=.indexAddr t x y->o.dst=some d->g9 e x=some (.h s n)->g9 e y=some (.i .i64 i)->S8 g K m e L o Lv cf cf'->G g K m e L cf)
 | .call o d f xs cf cf' K m e L=>(∀fo args ats,o.op=.call {callee:=.value fo,args:=args,argTypes:=ats}->o.dst=d->g9 e fo=some (.f f [])->(∃ys,aR (g9 e) args.toList=some ys/\nbA ys=xs)->okA xs=true->nS g.n d=true->WO g K m e L o cf cf'->G g K m e L cf)
 | .callp o d f xs cf cf' K m e L=>(∀fo args ats,o.op=.call {callee:=.value fo,args:=args,argTypes:=ats}->o.dst=d->g9 e fo=some (.f f [])->(∃ys,aR (g9 e) args.toList=some ys/\nbA ys=xs)->nS g.n d=true->WO g K m e L o cf cf'->G g K m e L cf)
 | .op o Lv cf cf' K m e L=>nS g.n o.dst=true->S8 g K m e L o Lv cf cf'->WO g K m e L o cf cf'->G g K m e L cf
 | .opp o Lv cf cf' K m e L=>nS g.n o.dst=true->S8 g K m e L o Lv cf cf'->G g K m e L cf
 | .rgn id ops K m e L=>G g K m e L (.c (.region id ops true))
 | .alt cf K m e L=>G g K m e L cf
 | .stuck=>False
noncomputable section
variable {g:Gx} {K:List Fr} {m:Nat} {e:SE} {L:List Ch}
theorem aW3{a:Act}{w:World}:∀{K:List Fr},(match pop K with | some (y,K')=>CW g.P y (NK g K') (XK g K') g.Q a w | none=>g.N a w)->NK g K a w
 | [],h=>by simpa [pop,NK] using h
 | .s y :: K,h=>by simpa [pop,NK] using h
 | .k _ :: K, h => by
  have:NK g K a w:=aW3 (by simpa [pop] using h)
  simpa [NK] using this
theorem aRP{a:Act}{w:World}{id:Nat}:∀{K:List Fr},(match xit id K with | some K'=>NK g K' a w | none=>g.X id a w)->XK g K id a w
 | [],h=>by simpa [xit,XK] using h
 | .s y :: K, h => by
  have:XK g K id a w:=aRP (by simpa [xit] using h)
  simpa [XK] using this
 | .k j :: K, h => by
  simp only [xit] at h
  simp only [XK,ZL]
  cases hb:Nat.beq id j with
  | true =>
   rw [hb] at h
   rw [if_pos (i5 hb)];exact h
  | false =>
   rw [hb] at h
   rw [if_neg (fun e=>by rw [e] at hb;simp at hb)]
   exact aRP h
theorem aMQ{F:Nat}(ih:∀K c m e L,Gs g (S3 g.T g.n F K c m e L)->G g K m e L c)(h:Gs g (match pop K with | some (y,K')=>S3 g.T g.n F K' (.c y) m e L | none=>.fin m e L)):∀a w,Rel g m e L a w->NK g K a w:=fun a w hr=>by
 refine aW3 ?_
 split
 ·rename_i y K' hp
  rw [hp] at h
  exact ih _ _ _ _ _ h a w hr
 ·rename_i hp
  rw [hp] at h
  exact h a w hr
theorem fI.ext{n:Nat}{B nb:Bl}{a a':Act}{d:Nat}{x:SV}{v:Value}(hA:fI n B e a)(hx:dU (B++nb) x=some v)(hA':kN n ((d,v) :: vE B e) a'):fI n (B++nb) ((d,x) :: e) a':=by
 refine(hA.app nb).of hx ⟨hA'.d,hA'.size,fun k u hk=>?_⟩
 simp only [lk] at hk
 cases hb:Nat.beq k d with
 | true=>rw [hb] at hk;exact hA'.get k u (by simp only [lk,hb];exact hk)
 | false =>
  rw [hb] at hk
  obtain⟨y,h2,h3⟩:=aRD hk
  obtain⟨u2,h4,h5⟩:=hA.get k y h2
  rw [rC nb h4] at h3
  refine hA'.get k u ?_
  simp only [lk,hb]
  rw [Z1 h2,h4];simpa using h3.symm
theorem aVC{ops:Array Oper}{l:List Oper}{o:Oper}(hg:xQ ops e o.guard=.yes)(hd:nS g.n o.dst=true):S8 g K m e L o L (.r ops (o :: l)) (.r ops l):=by
 intro d x Ln nb k hdst hk hv hs hG a w ⟨B,hm,hA,hS⟩
 obtain⟨v,h1,h2⟩:=hv _ a w hA hS hm
 rw [hdst] at hd
 refine eQ h2 (R4 hg) hdst hd (fun a' hA'=>hG a' w ⟨B++nb g.c.w0,?_,?_,?_⟩) a hA.env
 ·rw [<-qR,pS,hm,hk]
 ·rw [<-qR];exact hA.ext h1 hA'
 ·rw [<-qR];exact hs _ w _ hm hS
theorem aMR{ops:Array Oper}{l:List Oper}{o:Oper}(hg:xQ ops e o.guard=.yes):WO g K m e L o (.r ops (o :: l)) (.r ops l):=by
 intro ι m' e' L' _ hrun hG a w hr
 have ⟨B,hm,hA,hS⟩:=hr
 refine wpList_step fun K' hK=>?_
 rw [R4 hg _ a hA.env,if_pos rfl]
 exact hrun B a w K' _ hm hA hS (fun i a' w' ⟨B',h1,h2,h3⟩=>hK a' w' (hG i a' w' ⟨B++B',by rw [<-qR];exact h1,by rw [<-qR];exact h2,by rw [<-qR];exact h3⟩))
theorem U7.S{B1:Bl}{ops:Array Oper}{l:List Bool}{is:List Nat}{Lf:List Ch}(h:U7 g B1 ops l is Lf L){w:World}{B:Bl}(hS:j5 g.c w (B1++B) L):j5 g.c w B1 Lf:=by
 have h1:=aRN hS is h.ap
 rw [h.uR] at h1
 have h2:=S7 h1 h.okf
 rwa [WI (iC _),OR] at h2
theorem U8{d:Edge}:Region.binds .any d=aQ9 d.ground:=by
 cases d with
 | mk on g=>cases g <;> rfl
theorem YW{l:List Bool}:∀{es:List Edge},I9 l es=true↔∀d∈es,Region.binds .any d=true->l[d.on]?=some true
 | []=>by simp [I9]
 | ⟨on, gr⟩ :: r => by
  have ih:=YW (l:=l) (es:=r)
  simp only [I9,gI,forall_eq_or_imp,U8]
  cases hb:aQ9 gr with
  | true =>
   simp only
   split
   ·rename_i h1;rw [ih];simp [h1,U8]
   ·rename_i h1
    constructor
    ·intro h;cases h
    ·intro h;exact absurd (h.1 trivial) (by simpa using h1)
  | false=>simp only;rw [ih];simp [U8]
theorem QK{ops:Array Oper}{l:List Bool}(hl:l.length=ops.size){j:Nat}:j∈Region.ready .any ops l.toArray↔l[j]?=some false/\∃o,ops.toList[j]?=some o/\I9 l o.after.toList=true:=by
 rw [mem_ready]
 have h1:(l.toArray.getD j true=false)↔l[j]?=some false:=by
  rw [aPX,List.getElem?_toArray]
  cases l[j]? <;> simp
 rw [h1]
 refine and_congr_right fun _=>?_
 constructor
 ·rintro⟨o,h2,h3⟩
  refine⟨o,by simpa using h2,YW.2 fun d hd hb=>?_⟩
  have:=h3 d (by simpa using hd) hb
  rw [aPX,List.getElem?_toArray] at this
  cases hx:l[d.on]? with
  | none=>rw [hx] at this;cases this
  | some b=>rw [hx] at this;simp at this;rw [this]
 ·rintro⟨o,h2,h3⟩
  refine⟨o,by simpa using h2,fun d hd hb=>?_⟩
  have:=YW.1 h3 d (by simpa using hd) hb
  rw [aPX,List.getElem?_toArray,this];rfl
theorem U9{i:Nat}:∀{es:List Edge},R1 i es=true↔∃d∈es,Region.binds .any d=true/\d.on=i
 | []=>by simp [R1]
 | ⟨on, gr⟩ :: r => by
  have ih:=U9 (i:=i) (es:=r)
  simp only [R1,gI,exists_eq_or_imp,U8]
  cases hb:aQ9 gr with
  | true =>
   simp only
   cases hi:Nat.beq on i with
   | true=>simp [i5 hi]
   | false =>
    simp only
    have hne:on≠i:=fun h=>by rw [h] at hi;simp at hi
    rw [ih];simp [hne,U8]
  | false=>simp only;rw [ih];simp [U8]
theorem aVD{ops:Array Oper}{l:List Bool}(hl:l.length=ops.size)(hf:aHH ops=true){i:Nat}{o:Oper}(ho:ops.toList[i]?=some o)(hr:I9 l o.after.toList=true):Region.noSelect ops=true/\Region.free .any ops l.toArray i=true:=by
 unfold aHH at hf
 rw [xM,SU] at hf
 refine⟨hf.1,?_⟩
 unfold Region.free
 have hoi:ops[i]?=some o:=by simpa using ho
 rw [hoi]
 simp only [SU,List.mem_range]
 intro j hj
 have hoj:ops[j]?=some ops[j]:=by simp [hj]
 rw [hoj]
 simp only [Bool.or_eq_true,beq_iff_eq]
 by_cases hji:j=i
 ·exact .inl (.inl hji)
 ·have h1:=hf.2 (o,i) (List.mk_mem_zipIdx_iff_getElem?.2 ho)
  rw [SU] at h1
  have h2:=h1 (ops[j],j) (List.mk_mem_zipIdx_iff_getElem?.2 (by simp [hj]))
  simp only [Bool.or_eq_true] at h2
  rcases h2 with ((h2 | h2) | h2) | h2
  ·exact absurd (i5 h2).symm hji
  ·obtain⟨d,hd,hb,he⟩:=U9.1 h2
   refine .inr (.inl ?_)
   rw [<-Array.any_toList,List.any_eq_true]
   exact⟨d,hd,by simp [hb,he]⟩
  ·obtain⟨d,hd,hb,he⟩:=U9.1 h2
   have:=YW.1 hr d hd hb
   rw [he] at this
   refine .inl (.inr ?_)
   rw [aPX,List.getElem?_toArray,this];rfl
  ·exact .inr (.inr h2)
theorem count_set{l:List Bool}:∀{i:Nat},l[i]?=some false->l.count false=(l.set i true).count false+1:=by
 induction l with
 | nil=>intro i h;simp at h
 | cons b l ih =>
  intro i h
  cases i with
  | zero=>simp at h;subst h;simp
  | succ i =>
   have:=ih (i:=i) (by simpa using h)
   simp only [List.set_cons_succ,List.count_cons]
   omega
theorem aJ8{B1:Bl}{ops:Array Oper}{l:List Bool}{is:List Nat}{Lf:List Ch}{i:Nat}{o:Oper}{d:Nat}{v:Value}{a:Act}{w:World}{B:Bl}(hD:U7 g B1 ops l is Lf L)(ho:ops.toList[i]?=some o)(hl:l[i]?=some false)(hr:I9 l o.after.toList=true)(hdst:o.dst=some d)(hdn:Nat.blt d g.n=true)(hA:fI g.n (B1++B) e a)(hS:j5 g.c w (B1++B) L)
  (hy:(Want ops o (vE (B1++B) e) true/\∀w',Sd g B1 Lf w'->dF g.P o (vE (B1++B) e) w' v w')\/(Want ops o (vE (B1++B) e) false/\v=undef))
  (k:∀a',kN g.n ((d,v) :: vE (B1++B) e) a'->wpAnyH g.P .any ops (mkQ (NK g K) (XK g K) g.Q) (Sd g B1 Lf) ((l.set i true).count false) (l.set i true).toArray a' w):wpAnyH g.P .any ops (mkQ (NK g K) (XK g K) g.Q) (Sd g B1 Lf) (l.count false) l.toArray a w:=by
 obtain⟨f1,f2⟩:=aVD hD.len hD.free ho hr
 rw [count_set hl]
 refine wpAnyH_take (v:=v) (by simpa using ho) f1 f2 (by simpa using (QK hD.len).2 ⟨hl,o,ho,hr⟩) (fun _ _ _ h=>h.elim) ?_ (hD.S hS) ?_
 ·rcases hy with ⟨h1,h2⟩ | ⟨h1,h2⟩
  ·exact .inl ⟨h1 _ a hA.env,fun w' hS'=>h2 w' hS' _ a hA.env⟩
  ·exact .inr ⟨h1 _ a hA.env,h2⟩
 ·rw [hdst]
  have:=k _ (hA.env.put (by simpa [l6] using hdn) v)
  simpa using this
theorem U7.set{B1:Bl}{ops:Array Oper}{l:List Bool}{is:List Nat}{Lf L':List Ch}(h:U7 g B1 ops l is Lf L)(i:Nat)(hz:kl L' is=Lf/\∀j∈is,j < L'.length):U7 g B1 ops (l.set i true) is Lf L':=
 ⟨h.pre,by simpa using h.len,h.free,hz.1,hz.2,h.okf,h.ap⟩
theorem aRQ{L Ln:List Ch}:∀{is:List Nat},(∀j∈is,j < L.length)->kl (L++Ln) is=kl L is
 | [],_=>rfl
 | i :: is, h => by
  simp only [kl,F6 (h i (by simp)),aRQ (fun j hj=>h j (mL _ hj))]
theorem U7.Z4{B1:Bl}{ops:Array Oper}{l:List Bool}{is:List Nat}{Lf:List Ch}(h:U7 g B1 ops l is Lf L)(Ln:List Ch):kl (L++Ln) is=Lf/\∀j∈is,j < (L++Ln).length:=
 ⟨by rw [aRQ h.rng];exact h.uR,fun j hj=>by have:=h.rng j hj;simp;omega⟩
theorem aVE{B1:Bl}{ops:Array Oper}{l:List Bool}{is:List Nat}{Lf Lv:List Ch}{i:Nat}{o:Oper}(ho:ops.toList[i]?=some o)(hl:l[i]?=some false)(hr:I9 l o.after.toList=true)(hg:xQ ops e o.guard=.yes)(hd:nS g.n o.dst=true):S8 g K m e L o Lv (.d B1 ops l is Lf Lv) (.d B1 ops (l.set i true) is Lf Lv):=by
 intro d x Ln nb k hdst hk hv hs hG hD a w ⟨B,hm,hA,hS,hV⟩
 rw [hdst] at hd
 obtain⟨v,h1,h2⟩:=hv _ a w hA (hV w (hD.S hS)) hm
 refine aJ8 (v:=v) hD ho hl hr hdst hd hA hS (.inl ⟨R4 hg,fun w' hS'=>?_⟩) fun a' hA'=>?_
 ·obtain⟨v',h3,h4⟩:=hv _ a w' hA (hV w' hS') hm
  rw [h1] at h3;cases h3;exact h4
 ·refine hG (hD.set i (hD.Z4 Ln)) a' w ⟨B++nb g.c.w0,?_,?_,?_,fun w' hS'=>?_⟩
  ·rw [<-qR,pS,hm,hk]
  ·rw [<-qR];exact hA.ext h1 hA'
  ·rw [<-qR];exact hs _ w _ hm hS
  ·rw [<-qR];exact hs _ w' _ hm (hV w' hS')
theorem aHK{l:List Bool}{i:Nat}:∀{os:List Oper} {j0:Nat},WN l i os j0=true->∀j o,os[j]?=some o->l[j0+j]?=some false->(I9 l o.after.toList=true↔j0+j=i)
 | [],_,_,j,o,h,_=>by simp at h
 | p :: os, j0, h, j, o, hj, hl => by
  simp only [WN] at h
  cases j with
  | zero =>
   simp at hj;subst hj
   simp only [HX] at hl ⊢
   rw [hl] at h
   simp only at h
   cases hb:Nat.beq j0 i with
   | true =>
    rw [hb] at h;simp only at h
    split at h
    ·rename_i hr;simp [hr,i5 hb]
    ·cases h
   | false =>
    rw [hb] at h;simp only at h
    have hne:j0≠i:=fun h=>by rw [h] at hb;simp at hb
    split at h
    ·cases h
    ·rename_i hr;simp [hr,hne]
  | succ j =>
   have h':WN l i os (j0+1)=true:=by
    split at h
    ·split at h
     ·split at h
      ·exact h
      ·cases h
     ·split at h
      ·cases h
      ·exact h
    ·exact h
    ·cases h
   have:=aHK h' j o (by simpa using hj) (by rw [show j0+1+j=j0+(j+1) from by omega];exact hl)
   rw [this];omega
theorem aVF{B1:Bl}{ops:Array Oper}{l:List Bool}{is:List Nat}{Lf Lv:List Ch}{i:Nat}{o:Oper}(ho:ops.toList[i]?=some o)(hg:xQ ops e o.guard=.yes):WO g K m e L o (.o B1 ops l is Lf Lv i) (.d B1 ops (l.set i true) is Lf Lv):=by
 intro ι m' e' L' hz hrun hG hD a w hr
 have ⟨B,hm,hA,hS,hV⟩:=hr
 unfold wpOp
 have hoi:ops[i]?=some o:=by simpa using ho
 simp only [hoi,R4 hg _ a hA.env,if_true]
 refine .inl (hrun B a w _ _ hm hA hS fun j a' w' h=>?_)
 have hD':=hD.set i (hz j hD)
 obtain⟨B',q1,q2,q3⟩:=h
 refine⟨?_,?_⟩
 ·refine hD'.S (B:=B++B') ?_
  rw [<-qR];exact q3
 ·have:=hG j hD' a' w' ⟨B++B',by rw [<-qR];exact q1,by rw [<-qR];exact q2,by rw [<-qR];exact q3,fun w2 h2=>by rw [<-qR];exact(hV w2 h2).app B'⟩
  simpa using this
theorem aVG{B1:Bl}{ops:Array Oper}{l:List Bool}{is:List Nat}{Lf Lv:List Ch}{i:Nat}{o:Oper}(ho:ops.toList[i]?=some o)(hg:xQ ops e o.guard=.yes)(hd:nS g.n o.dst=true):S8 g K m e L o Lv (.o B1 ops l is Lf Lv i) (.d B1 ops (l.set i true) is Lf Lv):=by
 intro d x Ln nb k hdst hk hv hs hG hD a w ⟨B,hm,hA,hS,hV⟩
 rw [hdst] at hd
 obtain⟨v,h1,h2⟩:=hv _ a w hA (hV w (hD.S hS)) hm
 unfold wpOp
 have hoi:ops[i]?=some o:=by simpa using ho
 simp only [hoi,R4 hg _ a hA.env,if_true]
 refine .inl ?_
 unfold Oper.wp
 rw [h2 _ a hA.env,Oper.upon_value,hdst]
 have hA':=hA.env.put (show d < g.n by simpa [nS,l6] using hd) v
 refine⟨hD.S hS,hG (hD.set i (hD.Z4 Ln)) _ w ⟨B++nb g.c.w0,?_,?_,?_,fun w' hS'=>?_⟩⟩
 ·rw [<-qR,pS,hm,hk]
 ·rw [<-qR];exact hA.ext h1 hA'
 ·rw [<-qR];exact hs _ w _ hm hS
 ·rw [<-qR];exact hs _ w' _ hm (hV w' hS')
theorem aD0{l:List Bool}{j:Nat}:∀{os:List Oper} {j0:Nat} {o:Oper},os[j]?=some o->l[j0+j]?=some false->I9 l o.after.toList=true->j0+j∈rS l os j0:=by
 intro os
 induction os generalizing j with
 | nil=>intro j0 o h;simp at h
 | cons p os ih =>
  intro j0 o h hl hr
  cases j with
  | zero =>
   simp at h;subst h
   simp only [HX] at hl ⊢
   simp [rS,hl,hr]
  | succ j =>
   have h2:=ih (j:=j) (j0:=j0+1) (o:=o) (by simpa using h) (by rw [show j0+1+j=j0+(j+1) by omega];exact hl) hr
   rw [show j0+1+j=j0+(j+1) by omega] at h2
   simp only [rS]
   split
   ·split
    ·exact mL _ h2
    ·exact h2
   ·exact h2
theorem a0A{B1:Bl}{ops:Array Oper}{l:List Bool}{is:List Nat}{Lf Lv:List Ch}(hex:∃i,i∈rS l ops.toList 0)(h:∀i∈rS l ops.toList 0,G g K m e L (.o B1 ops l is Lf Lv i))(hok:∀i∈rS l ops.toList 0,l[i]?=some false/\∃o,ops.toList[i]?=some o/\I9 l o.after.toList=true):G g K m e L (.d B1 ops l is Lf Lv):=by
 intro hD a w hr
 obtain⟨i0,hi0⟩:=hex
 obtain⟨q1,q2⟩:=hok i0 hi0
 have hm:i0∈Region.ready .any ops l.toArray:=(QK hD.len).2 ⟨q1,q2⟩
 rw [count_set q1]
 refine⟨fun h=>(by rw [h] at hm;cases hm),fun j hj=>?_⟩
 obtain⟨h1,p,h2,h3⟩:=(QK hD.len).1 hj
 have h4:=aD0 (j0:=0) h2 (by simpa using h1) h3
 rw [yO] at h4
 have h5:=h j h4 hD a w hr
 have h6:(l.set i0 true).count false=(l.set j true).count false:=by
  have:=count_set q1
  have:=count_set h1
  omega
 rw [h6]
 simpa using h5
theorem Z5{l:List Bool}{i:Nat}:∀{os:List Oper} {j0:Nat},i∈rS l os j0->l[i]?=some false/\∃j o,os[j]?=some o/\j0+j=i/\I9 l o.after.toList=true:=by
 intro os
 induction os with
 | nil=>intro j0 h;cases h
 | cons p os ih =>
  intro j0 h
  have tail:i∈rS l os (j0+1)->l[i]?=some false/\∃j o,(p :: os)[j]?=some o/\j0+j=i/\I9 l o.after.toList=true:=fun h=>by
   obtain⟨h1,j,o,h2,h3,h4⟩:=ih h
   exact⟨h1,j+1,o,by simpa using h2,by omega,h4⟩
  simp only [rS] at h
  split at h
  ·rename_i hl
   split at h
   ·rename_i hr
    rcases gI.1 h with h | h
    ·subst h;exact⟨hl,0,p,rfl,by omega,hr⟩
    ·exact tail h
   ·exact tail h
  ·exact tail h
theorem aRR{B1:Bl}{ops:Array Oper}{l:List Bool}{is:List Nat}{Lf Lv:List Ch}{i0:Nat}{r:List Nat}(hr:rS l ops.toList 0=i0 :: r)(h:∀i∈i0 :: r,G g K m e L (.o B1 ops l is Lf Lv i)):G g K m e L (.d B1 ops l is Lf Lv):=
 a0A ⟨i0,by rw [hr];simp⟩ (fun i hi=>h i (by rw [<-hr];exact hi)) fun i hi=>by
  obtain⟨h1,j,o,h2,h3,h4⟩:=Z5 hi
  rw [yO] at h3;subst h3
  exact⟨h1,o,h2,h4⟩
theorem aVH{l:List Bool}{i:Nat}{ops:Array Oper}(h:WN l i ops.toList 0=true):∀j∈rS l ops.toList 0,j=i:=fun j hj=>by
 obtain⟨h1,k,o,h2,h3,h4⟩:=Z5 hj
 rw [yO] at h3;subst h3
 have:=(aHK h k o h2 (by simpa using h1)).1 h4
 simpa using this
def PsG(g:Gx)(K:List Fr)(m:Nat)(L:List Ch)(B1:Bl)(ops:Array Oper)(is:List Nat)(Lf Lv:List Ch):Ps->Prop
 | .bad=>False
 | .ask _ l e=>G g K m e L (.d B1 ops l is Lf Lv)
 | .pur j o l e=>ops.toList[j]?=some o->l[j]?=some false->I9 l o.after.toList=true->xQ ops e o.guard=.yes->G g K m e L (.d B1 ops l is Lf Lv)
 | .fin l e _=>G g K m e L (.d B1 ops l is Lf Lv)
theorem QL{B1:Bl}{ops:Array Oper}{is:List Nat}{Lf Lv:List Ch}:∀(r:List Oper) (i:Nat) (l:List Bool) (e:SE) (q:List (Nat×Oper)),(∀j,r[j]?=ops.toList[i+j]?) ->
  PsG g K m L B1 ops is Lf Lv (pass g.T g.n ops Lv r i l e q)->G g K m e L (.d B1 ops l is Lf Lv)
 | [], i, l, e, q, hr, h => by
  unfold pass at h
  exact h
 | o :: r, i, l, e, q, hr, h => by
  have ho:ops.toList[i]?=some o:=by have:=hr 0;simpa using this.symm
  have hr':∀j,r[j]?=ops.toList[i+1+j]?:=fun j=>by
   have:=hr (j+1)
   rw [show i+1+j=i+(j+1) from by omega,<-this];simp
  unfold pass at h
  cases hl:l[i]? with
  | none=>simp only [hl] at h;exact h.elim
  | some b =>
   cases b with
   | true=>simp only [hl] at h;exact QL r (i+1) l e q hr' h
   | false =>
    cases hre:I9 l o.after.toList with
    | false=>simp only [hl,hre] at h;exact QL r (i+1) l e q hr' h
    | true =>
     cases hgd:xQ ops e o.guard with
     | bad=>simp only [hl,hre,hgd] at h;exact h.elim
     | ask c=>simp only [hl,hre,hgd] at h;exact h
     | no =>
      cases hd:o.dst with
      | none=>simp only [hl,hre,hgd,hd] at h;exact h.elim
      | some d =>
       cases hb:Nat.blt d g.n with
       | false=>simp only [hl,hre,hgd,hd,hb] at h;exact h.elim
       | true =>
        simp only [hl,hre,hgd,hd,hb] at h
        have ih:=QL r (i+1) _ _ q hr' h
        intro hD a w ⟨B,hm,hA,hS,hV⟩
        refine aJ8 (v:=undef) hD ho hl hre hd hb hA hS (.inr ⟨aW2 hgd,rfl⟩) fun a' hA'=>?_
        exact ih (hD.set i ⟨hD.uR,hD.rng⟩) a' w ⟨B,hm,hA.of (x:=.u) rfl hA',hS,hV⟩
     | yes =>
      cases hv:ev1 g.T e Lv o.op with
      | some v =>
       cases hd:o.dst with
       | none=>simp only [hl,hre,hgd,hv,hd] at h;exact h.elim
       | some d =>
        cases hb:Nat.blt d g.n with
        | false=>simp only [hl,hre,hgd,hv,hd,hb] at h;exact h.elim
        | true =>
         simp only [hl,hre,hgd,hv,hd,hb] at h
         have ih:=QL r (i+1) _ _ q hr' h
         intro hD a w ⟨B,hm,hA,hS,hV⟩
         obtain⟨u,h1,h2⟩:=aFE g.hT hA (hV w (hD.S hS)) hv
         refine aJ8 (v:=u) hD ho hl hre hd hb hA hS (.inl ⟨R4 hgd,fun w' hS'=>?_⟩) fun a' hA'=>?_
         ·obtain⟨u',h3,h4⟩:=aFE (w:=w') g.hT hA (hV w' hS') hv
          rw [h1] at h3;cases h3;exact h4
         ·exact ih (hD.set i ⟨hD.uR,hD.rng⟩) a' w ⟨B,hm,hA.of h1 hA',hS,hV⟩
      | none =>
       cases hp:aWZ o.op with
       | true=>simp only [hl,hre,hgd,hv,hp] at h;exact h ho hl hre hgd
       | false =>
        simp only [hl,hre,hgd,hv,hp] at h
        exact QL r (i+1) l e ((i,o) :: q) hr' h
theorem aMS:∀{l:List Bool} {i:Nat},aU7 l=true->l[i]?≠some false
 | [],i,_=>by simp
 | b :: l, i, h => by
  unfold aU7 at h
  cases b with
  | false=>cases h
  | true =>
   cases i with
   | zero=>simp
   | succ i=>simpa using aMS (l:=l) (i:=i) h
theorem aD1{k:Nat}:∀{L:List Ch},ND k L=true->∃i,(∀cs',uQ k cs' L=L.set i (.box k cs'))/\∀k0,aE8 k L k0=k0+i
 | [],h=>by cases h
 | x :: L, h => by
  have ih:ND k L=true->(∀cs',uQ k cs' (x :: L)=x :: uQ k cs' L)->(∀k0,aE8 k (x :: L) k0=aE8 k L (k0+1))->∃i,(∀cs',uQ k cs' (x :: L)=(x :: L).set i (.box k cs'))/\∀k0,aE8 k (x :: L) k0=k0+i:=fun h h2 h3=>by
   obtain⟨i,g1,g2⟩:=aD1 h
   exact⟨i+1,fun cs'=>by rw [h2,g1];rfl,fun k0=>by rw [h3,g2];omega⟩
  cases x with
  | box j cs =>
   simp only [ND] at h
   split at h
   ·rename_i hb
    exact⟨0,fun cs'=>by simp only [uQ,hb];rw [i5 hb];rfl,fun k0=>by simp only [aE8,hb];rfl⟩
   ·rename_i hb
    exact ih h (fun cs'=>by simp only [uQ,hb]) (fun k0=>by simp only [aE8,hb])
  | ro j cs =>
   simp only [ND] at h
   split at h
   ·cases h
   ·exact ih h (fun _=>rfl) (fun _=>rfl)
  | o ch=>exact ih h (fun _=>rfl) (fun _=>rfl)
  | f g=>exact ih h (fun _=>rfl) (fun _=>rfl)
  | no=>exact ih h (fun _=>rfl) (fun _=>rfl)
  | w k b z=>exact ih h (fun _=>rfl) (fun _=>rfl)
theorem Z6{i:Nat}:∀{is:List Nat},eZ i is=true->i∉is
 | [],_=>by simp
 | j :: r, h => by
  unfold eZ at h
  cases hb:Nat.beq i j with
  | true=>rw [hb] at h;cases h
  | false =>
   rw [hb] at h
   have hne:i≠j:=fun e=>by rw [e] at hb;simp at hb
   simpa [hne] using Z6 h
theorem aRS{L:List Ch}{i:Nat}{x:Ch}:∀{is:List Nat},i∉is->kl (L.set i x) is=kl L is
 | [],_=>rfl
 | j :: is, h => by
  have hne:i≠j:=fun e=>h (by simp [e])
  simp only [kl,OQ hne,aRS (fun hj=>h (mL _ hj))]
theorem aJ9{T:TT}{t:TypeId}{p v:SV}{L':List Ch}{x y:Operand}{is:List Nat}(h:R0 T t p v L=some L')(hp:g9 e x=some p)(hf:aX9 e L is (.store t x y)=true)(hr:∀j∈is,j < L.length):kl L' is=kl L is/\∀j∈is,j < L'.length:=by
 unfold R0 at h
 split at h
 ·rename_i k o
  split at h
  ·rename_i hb
   split at h
   ·split at h
    ·split at h
     case h_2=>cases h
     split at h
     case h_2=>cases h
     rename_i L2 hL2
     cases h
     have:=JA hL2
     subst this
     obtain⟨i,h1,h2⟩:=aD1 hb
     simp only [aX9,hp,h2] at hf
     have:=Z6 hf
     rw [yO] at this
     rw [h1]
     exact⟨aRS this,by simpa using hr⟩
    ·cases h
   ·cases h
  ·cases h
 ·cases h
theorem aVI{a a':Act}{w':World}{B0 B:Bl}{d b:Nat}{cs:List SV}(hm:(B0++B).length=m)(hA:fI g.n (B0++B) e a)(hA':kN g.n ((d,.pointer (some ⟨b,0,none⟩)) :: vE (B0++B) e) a')(hS':j5 g.c w' ((B0++B) ++ [(b,0)]) (L ++ [.box (B0++B).length cs])):mO g.n g.c (B0++B) (m+1) ((d,.p m 0) :: e) (L ++ [.box m cs]) a' w':=by
 refine⟨[(b,0)],by simp at hm ⊢;omega,?_,?_⟩
 ·exact hA.ext (nb:=[(b,0)]) (x:=.p m 0) (by simp [dU,gV,bE,<-hm]) hA'
 ·rw [<-hm];exact hS'
theorem tG{cf:rR}(Ln:List Ch):Frz g cf L (L++Ln):=by
 cases cf with
 | d B1 ops l is Lf Lv=>exact fun hD=>hD.Z4 Ln
 | o B1 ops l is Lf Lv i=>exact fun hD=>hD.Z4 Ln
 | _=>trivial
theorem aMT{T:TT}{op:Op}{v:SV}(h:eff T e L op=.val v):ev1 T e L op=some v:=by
 unfold eff at h
 split at h
 ·rename_i hv;cases h;exact hv
 ·repeat' (split at h)
  all_goals cases h
theorem aVJ{T:TT}{op:Op}{cs:List SV}(h:eff T e L op=.box cs):(∃t i,op=.alloc t/\yS T t=some i/\cs=i.z)\/(∃t x v,op=.box t x/\g9 e x=some v/\isCells v=true/\cs=m0 v):=by
 unfold eff at h
 split at h
 ·cases h
 ·split at h
  ·split at h
   ·rename_i hl;cases h;exact .inl ⟨_,_,rfl,hl,rfl⟩
   ·cases h
  ·split at h
   ·rename_i hv
    split at h
    ·rename_i hc;cases h;exact .inr ⟨_,_,_,rfl,hv,hc,rfl⟩
    ·cases h
   ·cases h
  ·split at h
   ·split at h <;> cases h
   ·cases h
  ·cases h
theorem aYH{T:TT}{op:Op}{L':List Ch}(h:eff T e L op=.st L'):∃t x y p v,op=.store t x y/\g9 e x=some p/\R0 T t p v L=some L':=by
 unfold eff at h
 split at h
 ·cases h
 ·split at h
  ·split at h <;> cases h
  ·split at h
   ·split at h <;> cases h
   ·cases h
  ·split at h
   ·rename_i hx hy
    split at h
    ·rename_i hs;cases h;exact⟨_,_,_,_,_,rfl,hx,hs⟩
    ·cases h
   ·cases h
  ·cases h
theorem aVK{T:TT}{op:Op}{L':List Ch}(h:eff T e L op=.st L'):∃t x y p v,op=.store t x y/\g9 e x=some p/\g9 e y=some v/\R0 T t p v L=some L':=by
 unfold eff at h
 split at h
 ·cases h
 ·split at h
  ·split at h <;> cases h
  ·split at h
   ·split at h <;> cases h
   ·cases h
  ·split at h
   ·rename_i hx hy
    split at h
    ·rename_i hs;cases h;exact⟨_,_,_,_,_,rfl,hx,hy,hs⟩
    ·cases h
   ·cases h
  ·cases h
theorem aRT{o:Oper}{cf cf':rR}(hE:WO g K m e L o cf cf') :
  (∀d cs,eff g.T e L o.op=.box cs->o.dst=some d->Nat.blt d g.n=true->Frz g cf L (L ++ [.box m cs])->G g K (m+1) ((d,.p m 0) :: e) (L ++ [.box m cs]) cf'->G g K m e L cf) /\
  (∀L',eff g.T e L o.op=.st L'->o.dst=none->Frz g cf L L'->G g K m e L' cf'->G g K m e L cf):=by
 refine⟨fun d cs hf hd hdn hz hG=>hE Unit (fun _=>m+1) (fun _=>(d,.p m 0) :: e) (fun _=>L ++ [.box m cs]) (fun _=>hz) (fun B a w next Q hm hA hS hnext=>?_) (fun _=>hG),fun L' hf hd hz hG=>hE Unit (fun _=>m) (fun _=>e) (fun _=>L') (fun _=>hz) (fun B a w next Q hm hA hS hnext=>?_) (fun _=>hG)⟩
 ·have fin:∀{u:Value} {w':World} {b:Nat},dF g.P o (vE (RD g cf++B) e) w u w'->u=.pointer (some ⟨b,0,none⟩)->j5 g.c w' ((RD g cf++B) ++ [(b,0)]) (L ++ [.box (RD g cf++B).length cs])->o.wp g.P a w next Q:=by
   intro u w' b hR hu hS'
   subst hu
   unfold Oper.wp
   rw [hR _ a hA.env,Oper.upon_value,hd]
   exact hnext () _ _ (aVI hm hA (hA.env.put (by simpa [l6] using hdn) _) hS')
  rcases aVJ hf with ⟨t,i,ho,hl,rfl⟩ | ⟨t,x,v,ho,hv,hc,rfl⟩
  ·obtain⟨u,w',b,k1,k2,k3⟩:=aRO (E:=vE (RD g cf++B) e) g.hT hS ho hl
   exact fin k1 k2 k3
  ·obtain⟨u,w',b,k1,k2,k3⟩:=aYG (P:=g.P) hA hS ho hv hc
   exact fin k1 k2 k3
 ·obtain⟨t,x,y,p,v,ho,hx,hy,hs⟩:=aVK hf
  obtain⟨w',k1,k2⟩:=aOL g.hT hA hS ho hx hy hs
  unfold Oper.wp
  rw [k1 _ a hA.env,Oper.upon_skip,hd]
  exact hnext () _ _ ⟨[],by simpa using hm,by rw [uH];exact⟨hA.d,hA.size,hA.get⟩,by simpa using k2⟩
theorem aRU{o:Oper}{Lv:List Ch}{cf cf':rR}(h:Gs g (aU6 e o Lv cf cf' K m L o.op))(hd:nS g.n o.dst=true)(hP:S8 g K m e L o Lv cf cf')(hE:WO g K m e L o cf cf'):G g K m e L cf:=by
 generalize hop:o.op=op at h
 unfold aU6 at h
 split at h
 ·split at h
  ·exact h
  ·exact h.elim
 ·split at h
  ·rename_i h1 h2 h3
   exact h _ _ hop h3 h1 h2 hP
  ·exact h hd hP hE
 ·split at h
  ·rename_i h1 h2
   split at h
   ·rename_i hx
    exact h _ _ _ hop rfl h1 ⟨_,h2,rfl⟩ hx hd hE
   ·exact h _ _ _ hop rfl h1 ⟨_,h2,rfl⟩ hd hE
  ·exact h hd hP hE
 ·exact h hd hP hE
theorem aVL{o:Oper}{Lv:List Ch}{cf cf':rR}(h:Gs g (aX8 e o Lv cf cf' K m L o.op))(hd:nS g.n o.dst=true)(hP:S8 g K m e L o Lv cf cf'):G g K m e L cf:=by
 generalize hop:o.op=op at h
 unfold aX8 at h
 split at h
 ·split at h
  ·exact h
  ·exact h.elim
 ·split at h
  ·rename_i h1 h2 h3
   exact h _ _ hop h3 h1 h2 hP
  ·exact h hd hP
 ·exact h hd hP
theorem R5 : ∀ (F : Nat) (K : List Fr) (c : rR) (m : Nat) (e : SE) (L : List Ch), Gs g (S3 g.T g.n F K c m e L) -> G g K m e L c
 | 0,_,_,_,_,_,h=>h.elim
 | F + 1, K, .c x, m, e, L, h => by
  have ih:=R5 F
  unfold S3 at h
  cases x with
  | skip=>exact fun a w hr=>nF (aMQ ih h a w hr)
  | seq x y=>exact fun a w hr=>bJ (ih _ _ _ _ _ h a w hr)
  | block id b =>
   simp only at h
   split at h
   ·exact h
   ·exact fun a w hr=>kO (ih _ _ _ _ _ h a w hr)
  | exit id =>
   simp only at h
   refine fun a w hr=>HZ (aRP ?_)
   cases hx:xit id K with
   | some K'=>rw [hx] at h;exact aMQ ih h a w hr
   | none=>rw [hx] at h;exact h a w hr
  | ret=>exact fun a w hr=>xO (h a w hr)
  | cond o x y =>
   simp only at h
   split at h
   ·rename_i c ho
    intro a w hr
    obtain⟨B,hm,hA,hS⟩:=hr
    obtain⟨v,h1,h2⟩:=dP hA ho
    cases h1
    cases c with
    | true=>exact aXM hA.env h2 rfl (ih _ _ _ _ _ h a w ⟨B,hm,hA,hS⟩)
    | false=>exact aZ0 hA.env h2 rfl (ih _ _ _ _ _ h a w ⟨B,hm,hA,hS⟩)
   ·rename_i c ho
    exact h ho
   ·exact h.elim
  | region id ops d =>
   cases d with
   | false=>exact fun a w hr=>aDT (ih _ _ _ _ _ h a w hr)
   | true=>exact h
  | _=>exact h.elim
 | F + 1, K, .n, m, e, L, h => by
  have ih:=R5 F
  unfold S3 at h
  exact fun a w hr=>aMQ ih h a w hr
 | F + 1, K, .r ops [], m, e, L, h => by
  have ih:=R5 F
  unfold S3 at h
  exact fun a w hr=>aMQ ih h a w hr
 | F + 1, K, .r ops (⟨dst, op, ty, ps, af, gd⟩ :: l), m, e, L, h => by
  have ih:=R5 F
  unfold S3 at h
  generalize hg:xQ ops e gd=gv at h
  cases gv with
  | bad=>exact h.elim
  | ask c=>exact h
  | no =>
   simp only at h
   split at h
   ·rename_i d
    split at h
    ·rename_i hd
     intro a w ⟨B,hm,hA,hS⟩
     exact eY (aW2 hg) rfl hd (fun a' hA'=>ih _ _ _ _ _ h a' w ⟨B,hm,hA.of (x:=.u) (v:=undef) rfl hA',hS⟩) a hA.env
    ·exact h.elim
   ·exact h.elim
  | yes =>
   simp only at h
   have hE:=aRT (g:=g) (K:=K) (m:=m) (e:=e) (L:=L) (o:=⟨dst,op,ty,ps,af,gd⟩) (cf:=.r ops (⟨dst,op,ty,ps,af,gd⟩ :: l)) (cf':=.r ops l) (aMR hg)
   split at h
   ·rename_i d v hf
    split at h
    ·rename_i hd
     intro a w ⟨B,hm,hA,hS⟩
     obtain⟨u,h1,h2⟩:=aFE (o:=⟨_,op,ty,ps,af,gd⟩) g.hT hA hS (aMT hf)
     exact eQ h2 (R4 hg) rfl hd (fun a' hA'=>ih _ _ _ _ _ h a' w ⟨B,hm,hA.of h1 hA',hS⟩) a hA.env
    ·exact h.elim
   ·rename_i d cs hf
    split at h
    ·rename_i hd
     exact hE.1 _ _ hf rfl hd trivial (ih _ _ _ _ _ h)
    ·exact h.elim
   ·rename_i L' hf
    exact hE.2 _ hf rfl trivial (ih _ _ _ _ _ h)
   ·split at h
    ·rename_i hd
     exact aRU h hd (aVC hg hd) (aMR hg)
    ·exact h.elim
   ·exact h.elim
 | F + 1, K, .d B1 ops l is Lf Lv, m, e, L, h => by
  have ih:=R5 F
  unfold S3 at h
  refine QL ops.toList 0 l e [] (fun j=>by simp) ?_
  generalize pass g.T g.n ops Lv ops.toList 0 l e []=ps at h
  cases ps with
  | bad=>exact h.elim
  | ask c l' e'=>exact h
  | pur i o l' e' =>
   intro h1 h2 h3 h4
   simp only at h
   split at h
   ·rename_i hd
    exact aVL h hd (aVE h1 h2 h3 h4 hd)
   ·exact h.elim
  | fin l' e' q =>
   cases q with
   | nil =>
    simp only at h
    split at h
    ·rename_i hall
     intro hD a w hr
     have hn:=ih _ _ _ _ _ h
     obtain⟨B2,hB2⟩:=hD.pre
     have hr':Rel g m e' L a w:=by
      obtain⟨B,hm,hA,hS,_⟩:=hr
      subst hB2
      exact⟨B2++B,by rw [<-qR];exact hm,by rw [<-qR];exact hA,by rw [<-qR];exact hS⟩
     have hempty:Region.ready .any ops l'.toArray=[]:=by
      refine List.eq_nil_iff_forall_not_mem.2 fun j hj=>?_
      exact aMS hall ((QK hD.len).1 hj).1
     exact wpAnyH_done hempty (hn a w hr') _
    ·exact h.elim
   | cons p q =>
    cases q with
    | cons p' q=>exact h
    | nil =>
     obtain⟨i,o⟩:=p
     simp only at h
     split at h
     ·rename_i hon
      have ho:=ih _ _ _ _ _ h
      cases hra:rS l' ops.toList 0 with
      | cons j r =>
       refine aRR hra fun k hk=>?_
       rw [aVH hon k (by rw [hra];exact hk)]
       exact ho
      | nil =>
       refine absurd h ?_
       intro h
       unfold S3 at h
       cases F with
       | zero=>exact h
       | succ F =>
        simp only at h
        split at h
        ·rename_i hi
         split at h
         ·rename_i h1 h2 h3
          have:=aD0 (j0:=0) hi (by simpa using h2) h1
          rw [yO,hra] at this
          cases this
         ·exact h
        ·exact h
     ·exact h.elim
 | F + 1, K, .o B1 ops l is Lf Lv i, m, e, L, h => by
  have ih:=R5 F
  unfold S3 at h
  split at h
  ·rename_i dst op ty ps af gd ho
   split at h
   ·rename_i hre hli hg
    have hes:=aVF (g:=g) (K:=K) (m:=m) (e:=e) (L:=L) (B1:=B1) (ops:=ops) (l:=l) (is:=is) (Lf:=Lf) (Lv:=Lv) ho hg
    have hE:=aRT (g:=g) (K:=K) (m:=m) (e:=e) (L:=L) (o:=⟨dst,op,ty,ps,af,gd⟩) (cf:=.o B1 ops l is Lf Lv i) (cf':=.d B1 ops (l.set i true) is Lf Lv) hes
    split at h
    ·rename_i v d hf
     split at h
     ·rename_i hd
      have hG:=ih _ _ _ _ _ h
      have hv:=aMT hf
      refine hes Unit (fun _=>m) (fun _=>(d,v) :: e) (fun _=>L) (fun _ hD=>⟨hD.uR,hD.rng⟩) (fun B a w next Q hm hA hS hnext=>?_) (fun _=>hG)
      obtain⟨u,h1,h2⟩:=aFE (o:=⟨some d,op,ty,ps,af,gd⟩) g.hT hA hS hv
      unfold Oper.wp
      rw [h2 _ a hA.env,Oper.upon_value]
      exact hnext () _ _ ⟨[],by simpa using hm,by simpa using hA.of h1 (hA.env.put (by simpa [l6] using hd) u),by simpa using hS⟩
     ·exact h.elim
    ·rename_i d cs hf
     split at h
     ·rename_i hd
      exact hE.1 _ _ hf rfl hd (fun hD=>hD.Z4 _) (ih _ _ _ _ _ h)
     ·exact h.elim
    ·rename_i L' hf
     split at h
     ·rename_i hfz
      refine hE.2 _ hf rfl (fun hD=>?_) (ih _ _ _ _ _ h)
      obtain⟨t,x,y,p,v,hop,hx,hs⟩:=aYH hf
      subst hop
      have:=aJ9 hs hx hfz hD.rng
      exact⟨by rw [this.1];exact hD.uR,this.2⟩
     ·exact h.elim
    ·split at h
     ·rename_i hd
      exact aRU h hd (aVG ho hg hd) hes
     ·exact h.elim
    ·exact h.elim
   ·exact h.elim
  ·exact h.elim
theorem YX:∀{e r:SE},aOG e=some r->r=e
 | [],r,h=>by cases h;rfl
 | (k, v) :: l, r, h => by
  simp only [aOG] at h
  split at h
  ·rename_i s hs;cases h;rw [YX hs]
  ·cases h
theorem YY:∀{e r:List Ch},aOH e=some r->r=e
 | [],r,h=>by cases h;rfl
 | x :: l, r, h => by
  simp only [aOH] at h
  split at h
  ·rename_i s hs
   have:=YY hs
   subst this
   split at h
   ·split at h
    ·rename_i ds hds;cases h;rw [JA hds]
    ·cases h
   ·split at h
    ·rename_i ds hds;cases h;rw [JA hds]
    ·cases h
   ·cases h;rfl
  ·cases h
theorem fV{K:List Fr}{c:rR}{m:Nat}{e:SE}{L:List Ch}(h:Gs g (iW g.T g.n K c m e L)):G g K m e L c:=by
 unfold iW at h
 split at h
 ·rename_i e' L' he hL
  have h1:=YX he
  have h2:=YY hL
  subst h1;subst h2
  exact R5 _ _ _ _ _ _ h
 ·exact h.elim
end
end Go.Gv
end
noncomputable section
namespace Go.Gv
noncomputable section
variable {P:Program} {N N':Act->World->Prop} {X X':Nat->Act->World->Prop} {T T':Act->World->Prop}
theorem OX(h:LetsOut (mkQ N X T)):LetsOut (mkQ N' X' T'):=let ⟨_,_,h⟩:=h;h.elim
theorem aHL{o:Oper}{a:Act}{next next':Act->World->Prop}{r:Result Next}(hn:∀a w,next a w->next' a w)(h:o.upon P a next (mkQ N X T) r):o.upon P a next' (mkQ N' X' T') r:=by
 unfold Oper.upon at h ⊢
 split at h
 ·exact hn _ _ h
 ·exact hn _ _ h
 ·exact hn _ _ h
 ·refine Calls.mono h fun e w' he=>?_
  cases e with
  | returned v=>exact hn _ _ he
  | panicked c=>exact he.elim
  | outgrown=>exact OX he
 ·exact Rows.mono h fun u w'' he=>hn _ _ he
 ·exact h.elim
 ·exact h.elim
theorem R6{ops:Array Oper}(hN:∀a w,N a w->N' a w):∀(l:List Oper) {a:Act} {w:World},wpList P ops (mkQ N X T) l a w->wpList P ops (mkQ N' X' T') l a w
 | [],a,w,h=>hN a w h
 | o :: l, a, w, h => by
  unfold wpList at h ⊢
  split
  ·rename_i hw
   rw [if_pos hw] at h
   rcases h with h | ⟨h1,h2⟩
   ·exact .inl (aHL (fun _ _ h=>R6 hN l h) h)
   ·exact .inr ⟨h1,OX h2⟩
  ·rename_i hw
   rw [if_neg hw] at h
   exact R6 hN l h
theorem aHM{ops:Array Oper}{i:Nat}{k k':Act->World->Prop}{a:Act}{w:World}(hk:∀a w,k a w->k' a w)(h:wpOp P ops (mkQ N X T) i k a w):wpOp P ops (mkQ N' X' T') i k' a w:=by
 unfold wpOp at h ⊢
 split
 ·rename_i h0;rw [h0] at h;exact hk _ _ h
 ·rename_i o h0
  rw [h0] at h
  simp only at h
  split
  ·rename_i hw
   rw [if_pos hw] at h
   rcases h with h | ⟨h1,h2⟩
   ·exact .inl (aHL hk h)
   ·exact .inr ⟨h1,OX h2⟩
  ·rename_i hw
   rw [if_neg hw] at h
   exact hk _ _ h
theorem R7{ops:Array Oper}{S:World->Prop}(hN:∀a w,N a w->N' a w):∀(fuel:Nat) {QA:Array Bool} {a:Act} {w:World},wpAnyH P .any ops (mkQ N X T) S fuel QA a w->wpAnyH P .any ops (mkQ N' X' T') S fuel QA a w
 | 0,_,a,w,h=>⟨h.1,hN a w h.2⟩
 | f+1,_,a,w,h=>⟨fun h0=>hN a w (h.1 h0),fun i hi=>aHM (fun _ _ h=>⟨h.1,R7 hN f h.2⟩) (h.2 i hi)⟩
end
noncomputable section
variable {P:Program} {T:TT} {hT:C9 P T} {n:Nat} {c:Ctx} {B0:Bl} {N N1:Act->World->Prop} {X X1:Nat->Act->World->Prop} {Q:Act->World->Prop} {K K':List Fr} {m m':Nat} {e e':SE} {L L':List Ch} {cf cf':rR}
theorem aKA(Kb:List Fr)(hN:∀a w,N1 a w->NK (.mk P T hT n c B0 N X Q) Kb a w)(hX:∀i a w,X1 i a w->XK (.mk P T hT n c B0 N X Q) Kb i a w):∀(Ka:List Fr),(∀a w,NK (.mk P T hT n c B0 N1 X1 Q) Ka a w->NK (.mk P T hT n c B0 N X Q) (Ka++Kb) a w)/\(∀i a w,XK (.mk P T hT n c B0 N1 X1 Q) Ka i a w->XK (.mk P T hT n c B0 N X Q) (Ka++Kb) i a w)
 | []=>⟨hN,hX⟩
 | .s y :: Ka => by
  obtain⟨h1,h2⟩:=aKA Kb hN hX Ka
  exact⟨fun a w h=>CW.mono (show CW P y (NK _ Ka) (XK _ Ka) Q a w from h) h1 h2 (fun _ _ h=>h),h2⟩
 | .k id :: Ka => by
  obtain⟨h1,h2⟩:=aKA Kb hN hX Ka
  refine⟨h1,fun i a w h=>?_⟩
  simp only [XK,ZL,ON] at h ⊢
  split
  ·rename_i hi;rw [if_pos hi] at h;exact h1 a w h
  ·rename_i hi;rw [if_neg hi] at h;exact h2 i a w h
theorem a0B{Ka Kb:List Fr}(hN:∀a w,N1 a w->NK (.mk P T hT n c B0 N X Q) Kb a w)(hX:∀i a w,X1 i a w->XK (.mk P T hT n c B0 N X Q) Kb i a w)(h:G (.mk P T hT n c B0 N1 X1 Q) Ka m e L cf):G (.mk P T hT n c B0 N X Q) (Ka++Kb) m e L cf:=by
 obtain⟨h1,h2⟩:=aKA Kb hN hX Ka
 cases cf with
 | n=>exact fun a w hr=>h1 a w (h a w hr)
 | c x=>exact fun a w hr=>CW.mono (h a w hr) h1 h2 (fun _ _ h=>h)
 | r ops l=>exact fun a w hr=>R6 h1 l (h a w hr)
 | d B1 ops l is Lf Lv=>exact fun hD a w hr=>R7 h1 _ (h ⟨hD.pre,hD.len,hD.free,hD.uR,hD.rng,hD.okf,hD.ap⟩ a w hr)
 | o B1 ops l is Lf Lv i=>exact fun hD a w hr=>aHM (fun _ _ h=>⟨h.1,R7 h1 _ h.2⟩) (h ⟨hD.pre,hD.len,hD.free,hD.uR,hD.rng,hD.okf,hD.ap⟩ a w hr)
theorem YZ{g:Gx}{s:Stop}(hs:QY s=some (K,cf,m,e,L))(h:G g K m e L cf):Gs g s:=by
 cases s <;> simp only [QY] at hs <;> cases hs
 ·exact fun _=>h
 ·exact h
 ·exact h
 ·exact fun _ _ _ _ _ _ _=>h
 ·exact fun _ _ _ _ _ _ _ _ _ _=>h
 ·exact fun _ _ _ _ _ _ _ _ _=>h
 ·exact fun _ _=>h
 ·exact fun _ _ _=>h
 ·exact h
 ·exact h
def JP(n:Nat)(c:Ctx)(B0:Bl){π υ:Type}(eq:π->Prop)(m:Nat)(ej:π->υ->SE)(Lj:π->υ->List Ch):Act->World->Prop:=fun a w=>∃p u,eq p/\mO n c B0 m (ej p u) (Lj p u) a w
theorem cQ{B1:Bl}{ops:Array Oper}{l:List Bool}{is:List Nat}{Lf Lv:List Ch}{i j:Nat}(hs:QY (iW T n K cf m e L)=some (K',.d B1 ops l is Lf Lv,m',e',L'))(hr:rS l ops.toList 0=[i,j])
  (k1:G (.mk P T hT n c B0 N X Q) K' m' e' L' (.o B1 ops l is Lf Lv i)) (k2:G (.mk P T hT n c B0 N X Q) K' m' e' L' (.o B1 ops l is Lf Lv j)):G (.mk P T hT n c B0 N X Q) K m e L cf:=
 fV (g:=.mk P T hT n c B0 N X Q) (YZ hs (aRR (g:=.mk P T hT n c B0 N X Q) hr fun k hk=>by
  rcases gI.1 hk with hk | hk
  ·subst hk;exact k1
  ·simp at hk;subst hk;exact k2))
theorem aCF{B1:Bl}{ops:Array Oper}{l:List Bool}{is:List Nat}{Lf Lv:List Ch}{i j p:Nat}(hs:QY (iW T n K cf m e L)=some (K',.d B1 ops l is Lf Lv,m',e',L'))(hr:rS l ops.toList 0=[i,j,p])
  (k1:G (.mk P T hT n c B0 N X Q) K' m' e' L' (.o B1 ops l is Lf Lv i)) (k2:G (.mk P T hT n c B0 N X Q) K' m' e' L' (.o B1 ops l is Lf Lv j)) (k3:G (.mk P T hT n c B0 N X Q) K' m' e' L' (.o B1 ops l is Lf Lv p)):G (.mk P T hT n c B0 N X Q) K m e L cf:=
 fV (g := .mk P T hT n c B0 N X Q) (YZ hs (aRR (g := .mk P T hT n c B0 N X Q) hr fun k hk => by
  rcases gI.1 hk with hk | hk
  ·subst hk;exact k1
  ·simp at hk
   rcases hk with rfl | rfl
   ·exact k2
   ·exact k3))
theorem bd{α β:Type}{A:Option α}{f:α->Option β}{q:β}{C:Prop}(hF:A.bind f=some q)(k:∀x,A=some x->f x=some q->C):C:=by
 cases h:A with
 | none=>rw [h] at hF;cases hF
 | some x=>exact k x h (by rw [h] at hF;exact hF)
theorem nd{β:Type}{p:Prop}[Decidable p]{A:Option β}{q:β}{C:Prop}(hF:need p A=some q)(k:p->A=some q->C):C:=k (iG hF).1 (iG hF).2
theorem rb{α:Type}{A:Option α}{x:α}(h:A=some x):A.bind some=some x:=by rw [h];rfl
theorem rn{p:Prop}[Decidable p](h:p):need p (some ())=some ():=by simp [need,h]
theorem go(hs:QY (iW T n K cf m e L)=some (K',cf',m',e',L'))(k:G (.mk P T hT n c B0 N X Q) K' m' e' L' cf'):G (.mk P T hT n c B0 N X Q) K m e L cf:=
 fV (g:=.mk P T hT n c B0 N X Q) (YZ hs k)
theorem cut{π υ:Type}(j mj:Nat)(eq:π->Prop)(ks:List Nat)(ej:π->υ->SE)(is:List Nat)(Lj:π->υ->List Ch)(hs:QY (iW T n K cf m e L)=some (K',cf',m',e',L'))
  (k1:G (.mk P T hT n c B0 (JP n c B0 eq mj (fun p u=>ej p u++kp e' ks) (fun p u=>Lj p u++kl L' is)) (XK (.mk P T hT n c B0 N X Q) (K'.drop j)) Q) (K'.take j) m' e' L' cf')
  (k2:∀p u,eq p->G (.mk P T hT n c B0 N X Q) (K'.drop j) mj (ej p u++kp e' ks) (Lj p u++kl L' is) .n):G (.mk P T hT n c B0 N X Q) K m e L cf:=by
 refine go hs ?_
 rw [<-RB j K']
 refine a0B (fun a w ⟨p,u,h1,h2⟩=>?_) (fun _ _ _ h=>h) k1
 exact k2 p u h1 a w h2
theorem jn{π υ:Type}{eq:π->Prop}{mj:Nat}{ej:π->υ->SE}{Lj:π->υ->List Ch}{p:π}(u:υ)(is:List Nat)(hF:eq p)(hs:iW T n K cf m e L=.fin m' e' L')(h:QH B0.length m' e' L' is mj (ej p u) (Lj p u)=some (ej p u,Lj p u)):G (.mk P T hT n c B0 (JP n c B0 eq mj ej Lj) X Q) K m e L cf:=
 fV (g:=.mk P T hT n c B0 _ X Q) (by
  rw [hs]
  exact fun a w hr=>⟨p,u,hF,mO.QH hr is h⟩)
theorem Y0{b cb:Bool}{a:Act}{B:Bl}(hb:b=cb):∀(ss:List Nat),aR (BV e) ss=some (ss.map fun _=>SV.b b)->fI n B e a->fI n B (ovr cb e ss) a:=by
 intro ss hs hA
 refine⟨hA.d,hA.size,?_⟩
 subst hb
 have key:∀k∈ss,BV e k=some (.b b):=by
  induction ss with
  | nil=>intro k hk;cases hk
  | cons s ss ih =>
   simp only [aR,C7] at hs
   split at hs
   ·cases hs
   ·rename_i h1
    split at hs
    ·cases hs
    ·rename_i h2
     cases hs
     intro k hk
     rcases gI.1 hk with hk | hk
     ·subst hk;exact h1
     ·exact ih h2 k hk
 clear hs
 induction ss with
 | nil=>exact hA.get
 | cons s ss ih =>
  intro k x hk
  simp only [ovr,BV] at hk
  cases hb:Nat.beq k s with
  | true =>
   rw [hb] at hk;cases hk
   rw [i5 hb]
   exact hA.get s (.b b) (key s (by simp))
  | false =>
   rw [hb] at hk
   exact ih (fun k hk=>key k (mL _ hk)) k x hk
theorem aMU{b cb:Bool}{a:Act}{w:World}(hb:b=cb)(ss:List Nat)(hs:aR (BV e) ss=some (ss.map fun _=>SV.b b))(h:mO n c B0 m e L a w):mO n c B0 m (ovr cb e ss) L a w:=by
 obtain⟨B,h1,hA,hS⟩:=h
 exact⟨B,h1,Y0 hb ss hs hA,hS⟩
theorem aKB{e1:SE}(h:∀a B,fI n B e a->fI n B e1 a)(k:G (.mk P T hT n c B0 N X Q) K m e1 L cf):G (.mk P T hT n c B0 N X Q) K m e L cf:=by
 cases cf with
 | d B1 ops l is Lf Lv=>exact fun hD a w ⟨B,h1,h2,h3,h4⟩=>k hD a w ⟨B,h1,h a _ h2,h3,h4⟩
 | o B1 ops l is Lf Lv i=>exact fun hD a w ⟨B,h1,h2,h3,h4⟩=>k hD a w ⟨B,h1,h a _ h2,h3,h4⟩
 | _=>exact fun a w ⟨B,h1,h2,h3⟩=>k a w ⟨B,h1,h a _ h2,h3⟩
noncomputable section
variable {b:Bool} {α:Type} {A B':Option α} {q:Option α}
theorem cs{o:Operand}{x y:Code}(ss:List Nat)(hs:iW T n K cf m e L=.cond o b x y K' m' e' L')(ho:aR (BV e') ss=some (ss.map fun _=>SV.b b))(hF:(if b=true then A else B')=q)
  (k1:A=q->G (.mk P T hT n c B0 N X Q) K' m' (ovr true e' ss) L' (.c x)) (k2:B'=q->G (.mk P T hT n c B0 N X Q) K' m' (ovr false e' ss) L' (.c y)):G (.mk P T hT n c B0 N X Q) K m e L cf:=
 fV (g := .mk P T hT n c B0 N X Q) (by
  rw [hs]
  intro he a w hr
  have ⟨B,hm,hA,hS⟩:=hr
  obtain⟨v,h1,h2⟩:=dP hA he
  cases h1
  refine lY hA.env h2 (fun hc=>?_) (fun hc=>?_)
  ·rw [if_pos hc] at hF
   exact k1 hF a w (aMU hc ss ho hr)
  ·rw [if_neg (by rw [hc];simp)] at hF
   exact k2 hF a w (aMU hc ss ho hr))
theorem ca{cf':rR}(ss:List Nat)(hs:iW T n K cf m e L=.case b cf' K' m' e' L')(ho:aR (BV e') ss=some (ss.map fun _=>SV.b b))(hF:(if b=true then A else B')=q)
  (k1:A=q->G (.mk P T hT n c B0 N X Q) K' m' (ovr true e' ss) L' cf') (k2:B'=q->G (.mk P T hT n c B0 N X Q) K' m' (ovr false e' ss) L' cf'):G (.mk P T hT n c B0 N X Q) K m e L cf:=
 fV (g:=.mk P T hT n c B0 N X Q) (by
  rw [hs]
  cases b with
  | true=>exact aKB (fun a B hA=>Y0 rfl ss ho hA) (k1 (by simpa using hF))
  | false=>exact aKB (fun a B hA=>Y0 rfl ss ho hA) (k2 (by simpa using hF)))
end
def QS(P:Program)(fn:Func)(c:Ctx)(B0:Bl){ρ ex:Type}(sv:ρ->ex->SV)(Lf:ρ->ex->List Ch)(r:ρ):Act->World->Prop:=Fin P fn fun v w'=>∃y,dU B0 (sv r y)=some v/\j5 c w' B0 (Lf r y)
theorem aMV{r:ResultVar}{x:SV}{B:Bl}{a:Act}{w:World}(hT:C9 P T)(hA:fI n B e a)(hS:j5 c w B L)(h:aRA T e L r=some x):∃v,dU B x=some v/\(OV a.tmps r).run P w=.ok v w:=by
 cases r with
 | tmp t =>
  obtain⟨v,h1,h2⟩:=hA.get t x h
  exact⟨v,h1,by simp [OV,h2]⟩
 | cell t ty =>
  simp only [aRA] at h
  split at h
  ·rename_i p hp
   obtain⟨v,h1,h2⟩:=hA.get t p hp
   unfold aHG at h
   split at h
   ·rename_i n0 o0
    split at h
    ·rename_i cs _ mm _ hb hl
     split at h
     ·rename_i hle
      split at h
      case h_2=>cases h
      rename_i ds hds
      cases h
      have:=JA hds
      subst this
      obtain⟨b,z,vs,g1,g2,g3⟩:=hS.cells hb
      have hlen:=jR g2
      have hle:=rQ hle
      simp only [dU,gV,bE,g1] at h1
      cases h1
      have h4:=KS mm (KR o0 g2)
      have h5:=S6 g3 (o:=o0) (m:=mm) (by omega)
      have h6:=nR h5 P
      have h7:((vs.drop o0).take mm).length=mm:=by simp;omega
      rw [h7] at h6
      refine⟨.agg ((vs.drop o0).take mm).toArray,by simp only [dU,gV,h4],?_⟩
      simp [OV,h2,asAddr,loadVar,hT.agg _ _ hl,hT.size _ _ hl,h6]
     ·cases h
    ·rename_i cs _ _ _ hb hl
     obtain⟨b,z,vs,g1,g2,g3⟩:=hS.cells hb
     simp only [dU,gV,bE,g1] at h1
     cases h1
     obtain⟨u,h4,h5⟩:=KQ g2 h
     refine⟨u,aMF h4,?_⟩
     have h6:=g3 o0 u h5
     simp [OV,h2,asAddr,loadVar,hT.agg _ _ hl,load,Sem.run,h6]
    ·cases h
   ·cases h
  ·cases h
end
end Go.Gv
end
noncomputable section
namespace Go.Gv
noncomputable section
variable {P:Program} {T:TT} {hT:C9 P T} {n:Nat} {c:Ctx} {B0:Bl} {N:Act->World->Prop} {X:Nat->Act->World->Prop} {Q:Act->World->Prop} {K K':List Fr} {m m':Nat} {e e':SE} {L L':List Ch} {cf:rR}
theorem aVM{B:Bl}{x:SV}{v:Value}(h:dU B x=some v)(hc:isCells x=true):gV B x=some v:=by
 cases x <;> first | exact h | cases hc
theorem S9{r:ResultVar}{x:SV}{B:Bl}{a:Act}{w:World}(hT:C9 P T)(hA:fI n B e a)(hS:j5 c w B L)(h:aJ6 T e L r=some x):∃v,gV B x=some v/\(OV a.tmps r).run P w=.ok v w:=by
 unfold aJ6 at h
 split at h
 ·rename_i hv
  split at h
  ·rename_i hc
   cases h
   obtain⟨v,h1,h2⟩:=aMV hT hA hS hv
   exact⟨v,aVM h1 hc,h2⟩
  ·cases h
 ·cases h
theorem Y1{rs:List ResultVar}{x:SV}{B:Bl}{a:Act}{w:World}{fn:Func}(hf:fn.results=rs.toArray)(hT:C9 P T)(hA:fI n B e a)(hS:j5 c w B L)(h:aFA T e L rs=some x):∃v,dU B x=some v/\(results fn a.tmps).run P w=.ok v w:=by
 rw [ZQ hf]
 unfold aFA at h
 split at h
 ·cases h;exact⟨.tuple #[],rfl,by simp⟩
 ·obtain⟨v,h1,h2⟩:=aMV hT hA hS h
  exact⟨v,h1,by simp [h2]⟩
 ·split at h
  ·rename_i g1 g2
   cases h
   obtain⟨v1,h1,k1⟩:=S9 hT hA hS g1
   obtain⟨v2,h2,k2⟩:=S9 hT hA hS g2
   exact⟨.tuple #[v1,v2],by simp [dU,aR,h1,h2],by simp [k1,k2]⟩
  ·cases h
 ·split at h
  ·rename_i g1 g2 g3
   cases h
   obtain⟨v1,h1,k1⟩:=S9 hT hA hS g1
   obtain⟨v2,h2,k2⟩:=S9 hT hA hS g2
   obtain⟨v3,h3,k3⟩:=S9 hT hA hS g3
   exact⟨.tuple #[v1,v2,v3],by simp [dU,aR,h1,h2,h3],by simp [k1,k2,k3]⟩
  ·cases h
 ·cases h
structure FnS (P:Program) (f:FuncId) (c:Ctx) (xs:List SV) (B0:Bl) (L0:List Ch) {ρ ex:Type} (sv:ρ->ex->SV) (Lf:ρ->ex->List Ch) (r:ρ):Prop where
 call:∀args w,(callFunc f args).run P w=.ok (.enter f args) w
 run:∀vs,aR (dU B0) xs=some vs->j5 c c.w0 B0 L0->Calls P f vs.toArray c.w0 (Ret fun v w'=>∃y,dU B0 (sv r y)=some v/\j5 c w' B0 (Lf r y))
abbrev Fn0(P:Program)(f:FuncId)(c:Ctx)(xs:List SV){ρ:Type}(sv:ρ->SV)(r:ρ):Prop:=FnS P f c xs [] [] (fun r (_:Unit)=>sv r) (fun _ _=>[]) r
def aD2:Nat->List SV->SE
 | _,[]=>[]
 | k,v :: r=>(k,v) :: aD2 (k+1) r
theorem aD3{B:Bl}:∀{xs:List SV} {vs:List Value} (k:Nat) {j:Nat} {x:SV},aR (dU B) xs=some vs->BV (aD2 k xs) j=some x->∃v,dU B x=some v/\lk (aE3 k vs) j=some v
 | [],vs,k,j,x,h,hj=>by simp [aD2,BV] at hj
 | y :: xs, vs, k, j, x, h, hj => by
  simp only [aR] at h
  split at h
  ·cases h
  ·rename_i h1
   split at h
   ·cases h
   ·rename_i h2
    cases h
    simp only [aD2,BV] at hj
    simp only [aE3,lk]
    cases hb:Nat.beq j k with
    | true=>rw [hb] at hj;cases hj;exact⟨_,h1,rfl⟩
    | false=>rw [hb] at hj;exact aD3 (k+1) h2 hj
theorem en{f:FuncId}{fn:Func}{cd:Code}{xs:List SV}{L0:List Ch}{ρ ex:Type}{sv:ρ->ex->SV}{Lf:ρ->ex->List Ch}{r:ρ}(n:Nat)(hc:∀args w,(callFunc f args).run P w=.ok (.enter f args) w)(hf:P.funcs[f]?=some fn)(hT:C9 P T)(hb:fn.body=some cd)(hm:fn.ntmps=n)(hl:Nat.ble xs.length n=true)
  (k:G (.mk P T hT n c B0 (QS P fn c B0 sv Lf r) (fun _ _ _=>False) (QS P fn c B0 sv Lf r)) [] B0.length (aD2 0 xs) L0 (.c cd)):FnS P f c xs B0 L0 sv Lf r:=by
 refine⟨hc,fun vs hv hS=>yQ hf hb hm ?_ fun a hA=>?_⟩
 ·rw [jR hv];exact hl
 ·refine CW.mono (k a c.w0 ⟨[],by simp,⟨hA.d,hA.size,fun j x hj=>?_⟩,by simpa using hS⟩) (fun _ _ h=>h) (fun _ _ _ h=>h) (fun _ _ h=>h)
  obtain⟨v,h1,h2⟩:=aD3 0 hv hj
  exact⟨v,by simpa using h1,hA.get j v h2⟩
theorem aOM(w:World):j5 (bT w) w [] []:=⟨⟨[],St.enter (by simp),by simp⟩,fun _ _ h=>h⟩
theorem rt{fn:Func}{ρ ex:Type}{sv:ρ->ex->SV}{Lf:ρ->ex->List Ch}{r r':ρ}{rs:List ResultVar}{zz:Option ρ}(y:ex)(is:List Nat)(hF:zz=some r)(hz:zz=some r')(hs:iW T n K cf m e L=.ret m' e' L')(hr:fn.results=rs.toArray){x:SV}(hv:aFA T e' L' rs=some x)(hx:nbS x=sv r' y)(hk:tF B0.length (sv r' y)=true)(hL:QH B0.length m' e' L' is B0.length [] (Lf r' y)=some ([],Lf r' y)):G (.mk P T hT n c B0 N X (QS P fn c B0 sv Lf r)) K m e L cf:=by
 subst hz;cases hF
 refine fV (g:=.mk P T hT n c B0 N X _) ?_
 rw [hs]
 intro a w hr'
 obtain⟨B,hm,hA,hS⟩:=id hr'
 obtain⟨v,h1,h2⟩:=Y1 hr hT hA hS hv
 obtain⟨B',hm',_,hS'⟩:=hr'.QH is hL
 have hB':B'=[]:=(by simpa using hm')
 subst hB'
 refine⟨hA.d,v,h2,y,?_,by simpa using hS'⟩
 rw [<-hx] at hk ⊢
 have:=L4 hk (by rw [YV];exact h1)
 rw [WI (iC _),OR] at this
 exact this
theorem rf{fn:Func}{ρ ex:Type}{sv:ρ->ex->SV}{Lf:ρ->ex->List Ch}{r r':ρ}{rs:List ResultVar}{zz:Option ρ}(y:ex)(is:List Nat)(hF:zz=some r)(hz:zz=some r')(hs:iW T n K cf m e L=.fin m' e' L')(hr:fn.results=rs.toArray){x:SV}(hv:aFA T e' L' rs=some x)(hx:nbS x=sv r' y)(hk:tF B0.length (sv r' y)=true)(hL:QH B0.length m' e' L' is B0.length [] (Lf r' y)=some ([],Lf r' y)):G (.mk P T hT n c B0 (QS P fn c B0 sv Lf r) X Q) K m e L cf:=by
 subst hz;cases hF
 refine fV (g:=.mk P T hT n c B0 _ X Q) ?_
 rw [hs]
 intro a w hr'
 obtain⟨B,hm,hA,hS⟩:=id hr'
 obtain⟨v,h1,h2⟩:=Y1 hr hT hA hS hv
 obtain⟨B',hm',_,hS'⟩:=hr'.QH is hL
 have hB':B'=[]:=(by simpa using hm')
 subst hB'
 refine⟨hA.d,v,h2,y,?_,by simpa using hS'⟩
 rw [<-hx] at hk ⊢
 have:=L4 hk (by rw [YV];exact h1)
 rw [WI (iC _),OR] at this
 exact this
def cZ(c:Ctx){α:Type}[aC α](s:AC)(d:List α):Prop:=aC.rd c.S0 c.w0 [s.v d.length] d
structure HS (c:Ctx) (w:World) (L:List Ch):Prop where
 ex:∃B,j5 c w B L
abbrev ow{α:Type}[aC α](s:AC)(d:List α):Ch:=.o (aW [s.v d.length] d)
abbrev fr{α:Type}[aC α](s:AC)(d:List α):Ch:=.f (xN [s.v d.length] d)
theorem aFI{w:World}{B:Bl}(hS:j5 c w B L){f:Fact}(h:f.P c.S0 c.w0):f.P c.S0 w:=by
 obtain⟨⟨R,s1,_⟩,s0⟩:=hS
 exact f.agree h fun b o hb=>s1.keep.cell b o (s0 b o hb) fun hw=>s1.apart b o hw hb
theorem aRW{w:World}{B:Bl}(hS:j5 c w B L):∀b o,c.S0 b o->KH w b o:=fun b o hb=>by
 obtain⟨⟨R,s1,_⟩,s0⟩:=hS
 exact KG (s0 b o hb) s1.keep.size
theorem HS.a{w:World}{α:Type}[aC α]{s:AC}{d:List α}(h:HS c w L)(hr:cZ c s d):cZ (bT w) s d:=by
 obtain⟨B,hS⟩:=h.ex
 have h1:(xN [s.v d.length] d).P c.S0 w:=aFI hS (f:=xN [s.v d.length] d) hr
 exact aC.rd_mono h1 (aRW hS)
theorem HS.o{w:World}{α:Type}[aC α]{s:AC}{d:List α}(h:HS c w L)(i:Nat)(hi:L[i]?=some (ow s d)):cZ (bT w) s d:=by
 obtain⟨B,⟨⟨R,s1,_⟩,_⟩⟩:=h.ex
 exact s1.aL2 i (by rw [BJ,hi];rfl)
theorem HS.f{w:World}{α:Type}[aC α]{s:AC}{d:List α}(h:HS c w L)(i:Nat)(hi:L[i]?=some (fr s d)):cZ (bT w) s d:=by
 obtain⟨B,⟨⟨R,s1,s2⟩,_⟩⟩:=h.ex
 obtain⟨j,hj⟩:=ZG (s2 _ (rP hi))
 exact s1.rd j hj
theorem TA{B:Bl}:∀{xs:List SV} {vs:List Value},okA xs=true->aR (dU B) xs=some vs->aR (dU []) xs=some vs
 | [],vs,_,h=>h
 | x :: xs, vs, ho, h => by
  simp only [okA] at ho
  split at ho
  ·rename_i h0
   simp only [aR] at h
   split at h
   ·cases h
   ·rename_i h1
    split at h
    ·cases h
    ·rename_i h2
     cases h
     have h3:=L4 h0 h1
     rw [WJ] at h3
     simp [aR,h3,TA ho h2]
  ·cases ho
theorem RE{B:Bl}{a:Act}(hA:fI n B e a):∀{os:List Operand} {xs:List SV},aR (g9 e) os=some xs->∃vs,aR (dU B) xs=some vs/\ZP (vE B e) os=some vs
 | [],xs,h=>by cases h;exact⟨[],rfl,rfl⟩
 | o :: os, xs, h => by
  simp only [aR] at h
  split at h
  ·cases h
  ·rename_i h1
   split at h
   ·cases h
   ·rename_i h2
    cases h
    obtain⟨v,k1,k2⟩:=dP hA h1
    obtain⟨vs,k3,k4⟩:=RE hA h2
    exact⟨v :: vs,by simp [aR,k1,k3],by simp [ZP,k2,k4]⟩
def noF:List Ch->Bool
 | []=>true
 | .ro _ _ :: _=>false
 | .f _ :: _=>false
 | .w _ _ _ :: _=>false
 | _ :: L=>noF L
theorem aFJ{B:Bl}{R:List Fact}:∀{L:List Ch},noF L=true->∀x∈L,roF B R x
 | [],_,x,hx=>by cases hx
 | y :: L, h, x, hx => by
  rcases gI.1 hx with hx' | hx'
  ·subst hx'
   cases x <;> first | trivial | cases h
  ·cases y with
   | ro=>cases h
   | f=>cases h
   | w=>cases h
   | _=>exact aFJ (L:=L) h x hx'
theorem j5.after{w w':World}{B:Bl}{L2:List Ch}(h:j5 c w B L)(hn:noF L2=true)(k:j5 (bT w) w' [] L2):j5 c w' B (L++L2):=by
 obtain⟨⟨R,s1,s2⟩,s0⟩:=h
 obtain⟨⟨R',t1,t2⟩,t0⟩:=k
 refine⟨⟨R,?_,fun x hx=>?_⟩,s0⟩
 ·rw [uI]
  have h1:=s1.after t1
  refine h1.imp (iH.append (iH.refl _) ?_)
  have:=QI (B:=[]) B (w:=w') L2
  simpa using this
 ·rcases eX.1 hx with hx | hx
  ·exact s2 x hx
  ·exact aFJ hn x hx
theorem j5.aRX{w w':World}{B:Bl}(h:j5 c w B L)(k:dC F0 w w'):j5 c w' B L:=by
 obtain⟨⟨R,s1,s2⟩,s0⟩:=h
 exact⟨⟨R,s1.same k,s2⟩,s0⟩
theorem KU{o:Oper}{f:FuncId}{x:Operand}{args:Array Operand}{ts:Array TypeId}{vs:List Value}{E:Env}{w:World}(hcall:∀args w,(callFunc f args).run P w=.ok (.enter f args) w)(ho:o.op=.call {callee:=.value x,args:=args,argTypes:=ts})(hx:ev E x=some (.func (.func f) #[] #[]))(hv:ZP E args.toList=some vs):aP0 P o E w f vs.toArray:=by
 have:=aHA (w:=w) (cap:=[]) (xs:=args.toList) (vs:=vs) hcall (by simpa using ho) hx hv
 simpa using this
theorem cl{α β ex:Type}{fo:Option α}{kf:α->Option β}{q:β}{o:Oper}{d:Nat}{f:FuncId}{xs:List SV}{cf1 cf2:rR}{sv:α->ex->SV}{Lf:α->ex->List Ch}(hs:iW T n K cf m e L=.call o (some d) f xs cf1 cf2 K' m' e' L')(hn:∀x y,noF (Lf x y)=true)
  (hc:∀{w},HS c w L'->∀{x},fo=some x->FnS P f (bT w) xs [] [] sv Lf x) (hF:fo.bind kf=some q)
  (k:∀x,fo=some x->kf x=some q->∀y:ex,G (.mk P T hT n c B0 N X Q) K' m' ((d,sv x y) :: e') (L'++Lf x y) cf2):G (.mk P T hT n c B0 N X Q) K m e L cf:=by
 refine fV (g:=.mk P T hT n c B0 N X Q) ?_
 rw [hs]
 intro fo' args ats ho hd hf ⟨ys,hys,hxs⟩ hA0 hdn hE
 subst hxs
 cases hfo:fo with
 | none=>rw [hfo] at hF;cases hF
 | some x =>
  rw [hfo] at hF
  refine hE ex (fun _=>m') (fun y=>(d,sv x y) :: e') (fun y=>L'++Lf x y) (fun y=>tG _) (fun B a w next Q' hm hA hS hnext=>?_) (k x hfo hF)
  obtain⟨hcall,hrun⟩:=hc ⟨_,hS⟩ hfo
  obtain⟨vs,h1,h2⟩:=RE hA hys
  obtain⟨v,h3,h4⟩:=dP hA hf
  simp [dU,aR] at h3
  subst h3
  have h5:=hrun vs (TA hA0 (by rw [H5];exact h1)) (aOM w)
  have h6:=KU (w:=w) hcall ho h4 h2
  unfold Oper.wp
  rw [h6 _ a hA.env,Oper.upon_enter]
  refine Calls.mono h5 fun en w' ⟨v,hv,y,g1,g2⟩=>?_
  subst hv
  rw [hd]
  have g3:=rC (RD (.mk P T hT n c B0 N X Q) cf1++B) g1
  exact hnext y _ _ ⟨[],by simpa using hm,by simpa using hA.of (by simpa using g3) (hA.env.put (by simpa [nS,l6] using hdn) v),by simpa using hS.after (hn x y) g2⟩
end
end Go.Gv
end
noncomputable section
namespace Go.Gv
noncomputable section
variable {P:Program} {T:TT} {hT:C9 P T} {n:Nat} {c:Ctx} {B0:Bl} {N:Act->World->Prop} {X:Nat->Act->World->Prop} {Q:Act->World->Prop} {K K':List Fr} {m m':Nat} {e e':SE} {L L':List Ch} {cf:rR}
def NxP(n:Nat)(c:Ctx)(B0:Bl){σ ρ υ:Type}(o:Step σ ρ)(m:Nat)(el:σ->υ->SE)(Ll:σ->υ->List Ch):Act->World->Prop:=fun a w=>∃s u,o=.next s/\mO n c B0 m (el s u) (Ll s u) a w
def BkP(n:Nat)(c:Ctx)(B0:Bl){β ρ υ:Type}(ro:ρ)(enc:β->ρ)(m:Nat)(ej:β->υ->SE)(Lj:β->υ->List Ch)(id:Nat)(X:Nat->Act->World->Prop):Nat->Act->World->Prop:=fun i a w=>if i=id then ∃b u,ro=enc b/\mO n c B0 m (ej b u) (Lj b u) a w else X i a w
theorem lp{σ ρ υ β ω α:Type}{id:Nat}{y:Code}{fb:σ->Option (Step σ ρ)}{s0:σ}{gk:ρ->Option α}{q:α}(u0:υ)(ks:List Nat)(el:σ->υ->SE)(is0 is:List Nat)(Ll:σ->υ->List Ch)(enc:β->ρ)(kb:List Nat)(ej:β->ω->SE)(ib:List Nat)(Lj:β->ω->List Ch)
  (hs:iW T n K cf m e L=.loop id y K' m' e' L') (hF:(loop fb s0).bind gk=some q)
  (h0:QH B0.length m' e' L' is0 m' (el s0 u0++kp e' ks) (Ll s0 u0++kl L' is)=some (el s0 u0++kp e' ks,Ll s0 u0++kl L' is))
  (k1:∀ro,gk ro=some q->∀s u o,fb s=some o->(∀p,o=.stop p->p=ro)->G (.mk P T hT n c B0 (NxP n c B0 o m' (fun s u=>el s u++kp e' ks) (fun s u=>Ll s u++kl L' is)) (BkP n c B0 ro enc m' (fun b u=>ej b u++kp e' kb) (fun b u=>Lj b u++kl L' ib) id (XK (.mk P T hT n c B0 N X Q) K')) Q) [] m' (el s u++kp e' ks) (Ll s u++kl L' is) (.c y))
  (k2:∀b u,gk (enc b)=some q->G (.mk P T hT n c B0 N X Q) K' m' (ej b u++kp e' kb) (Lj b u++kl L' ib) .n):G (.mk P T hT n c B0 N X Q) K m e L cf:=by
 refine fV (g:=.mk P T hT n c B0 N X Q) ?_
 rw [hs]
 intro a w hr
 cases hl:loop fb s0 with
 | none=>rw [hl] at hF;cases hF
 | some ro =>
  rw [hl] at hF
  have hF:gk ro=some q:=hF
  refine kO (H0 (body:=fb) (r:=ro) (fun s a w=>∃u,mO n c B0 m' (el s u++kp e' ks) (Ll s u++kl L' is) a w) ?_ hl ⟨u0,hr.QH is0 h0⟩)
  intro s a w o ⟨u,hI⟩ hb ho
  refine CW.mono (k1 ro hF s u o hb ho a w hI) ?_ ?_ (fun _ _ h=>h)
  ·rintro a w ⟨s',u',h1,h2⟩
   exact⟨s',h1,u',h2⟩
  ·intro i a w h
   simp only [XK,BkP,ZL] at h ⊢
   split
   ·rename_i hi
    rw [if_pos hi] at h
    obtain⟨b,u,h1,h2⟩:=h
    exact k2 b u (h1 ▸ hF) a w h2
   ·rename_i hi
    rw [if_neg hi] at h
    exact h
theorem nx{σ ρ υ:Type}{o:Step σ ρ}{mj:Nat}{el:σ->υ->SE}{Ll:σ->υ->List Ch}{s:σ}(u:υ)(is:List Nat)(hG:some (Step.next s)=some o)(hs:iW T n K cf m e L=.fin m' e' L')(h:QH B0.length m' e' L' is mj (el s u) (Ll s u)=some (el s u,Ll s u)):G (.mk P T hT n c B0 (NxP n c B0 o mj el Ll) X Q) K m e L cf:=
 fV (g:=.mk P T hT n c B0 _ X Q) (by
  rw [hs]
  cases hG
  exact fun a w hr=>⟨s,u,rfl,hr.QH is h⟩)
theorem bk{σ ρ β υ:Type}{o:Step σ ρ}{ro:ρ}{enc:β->ρ}{mj id:Nat}{ej:β->υ->SE}{Lj:β->υ->List Ch}{b:β}(u:υ)(is:List Nat)(hG:some (Step.stop (enc b))=some o)(hr:∀p,o=.stop p->p=ro)(hs:iW T n K cf m e L=.ex id m' e' L')(h:QH B0.length m' e' L' is mj (ej b u) (Lj b u)=some (ej b u,Lj b u)):G (.mk P T hT n c B0 N (BkP n c B0 ro enc mj ej Lj id X) Q) K m e L cf:=
 fV (g:=.mk P T hT n c B0 N _ Q) (by
  rw [hs]
  cases hG
  have:=hr _ rfl
  subst this
  intro a w hr
  show BkP n c B0 (enc b) enc mj ej Lj id X id a w
  unfold BkP
  rw [if_pos rfl]
  exact⟨b,u,rfl,hr.QH is h⟩)
theorem re{σ ρ α:Type}{o:Step σ ρ}{p ro:ρ}{F:ρ->Option α}{q:Option α}{zz:Option (Step σ ρ)}(hG:zz=some o)(hz:zz=some (Step.stop p))(hr:∀p,o=.stop p->p=ro)(hF:F ro=q):F p=q:=by
 subst hz;cases hG
 rw [hr _ rfl];exact hF
structure CB (α:Type) [aC α] where
 ex:Type
 cs:α->ex->List SV
 sub:bW->World->α->ex->Prop
 ok:∀{S w ec x},aC.rd S w ec x->∃y,aR (bE []) (cs x y)=some ec/\sub S w x y
 sv:α->ex->SV
 a2E:∀{S S' w w' x y},sub S w x y->(∀b o,S b o->w'.cell? ⟨b,o,none⟩=w.cell? ⟨b,o,none⟩)->(∀b o,S b o->S' b o)->sub S' w' x y
def cI:CB Int:=⟨Unit,fun x _=>[.i .i64 x],fun _ _ _ _=>True,fun h=>⟨(),by cases h;rfl,trivial⟩,fun x _=>.i .i64 x,fun _ _ _=>trivial⟩
def cU:CB UInt8:=⟨Unit,fun x _=>[.y x],fun _ _ _ _=>True,fun h=>⟨(),by cases h;rfl,trivial⟩,fun x _=>.y x,fun _ _ _=>trivial⟩
theorem H6{α:Type}[aC α]{S:bW}{w:World}{ec:List Value}{l:List α}(h:aC.rd S w ec l):∃s:AC,ec=[s.v l.length]:=by
 obtain⟨ad,m,h1,_⟩:=(show rA S w ec l from h)
 exact⟨⟨ad,m⟩,h1⟩
theorem St.a0C{w:World}{M:List Chunk}{R:List Fact}{f:Fact}(h:St c w M R)(s0:∀b o,c.S0 b o->b < c.w0.heap.size)(hf:f.P c.S0 c.w0):St c w M (R ++ [f]):=by
 obtain⟨F,S,a1,a2,a3,a4,a5,a6⟩:=h.sep
 refine⟨h.keep,⟨F,fun b o=>S b o\/c.S0 b o,a1,?_,a3,?_,?_,?_⟩,h.apart⟩
 ·rintro b o hF (hs | hs)
  ·exact a2 b o hF hs
  ·rcases a3 b o hF with hw | hw
   ·exact h.apart b o hw hs
   ·have:=s0 b o hs;omega
 ·rintro b o (hs | hs)
  ·exact a4 b o hs
  ·exact .inl hs
 ·rintro b o (hs | hs)
  ·exact a5 b o hs
  ·exact KG (s0 b o hs) h.keep.size
 ·intro g hg
  rcases eX.1 hg with hg | hg
  ·exact g.mono (a6 g hg) fun b o hs=>.inl hs
  ·simp at hg;subst hg
   exact g.mono (g.agree hf fun b o hb=>h.keep.cell b o (s0 b o hb) fun hw=>h.apart b o hw hb) fun b o hs=>.inr hs
theorem j5.a0D{w:World}{B:Bl}{k b z:Nat}{cs:List SV}{vs:List Value}(h:j5 c w B L)(hk:B[k]?=some (b,z))(hc:aR (bE B) cs=some vs)(hf:(fAt b z vs).P c.S0 c.w0):j5 c w B (L ++ [.ro k cs]):=by
 obtain⟨⟨R,s1,s2⟩,s0⟩:=h
 refine⟨⟨R ++ [fAt b z vs],?_,fun x hx=>?_⟩,s0⟩
 ·rw [uI]
  exact St.more (ch:=DZ) (St.a0C s1 s0 hf) (dC.refl _ _) ⟨F0,fun _ _ h=>h,fun _ _ h=>h.elim⟩
 ·rcases eX.1 hx with hx | hx
  ·exact S5 (fun f hf=>NB _ hf) (s2 x hx)
  ·simp at hx;subst hx
   exact⟨b,z,vs,hk,hc,by simp⟩
theorem ix{α β:Type}{iR:aC α}(C:CB α){o:Oper}{d t:Nat}{s:AC}{i:Int}{Lv:List Ch}{cf1 cf2:rR}{ls:List α}{kf:α->Option β}{q:β}{el sz:Nat}{b1 b2:Bool}{z1 z2:List SV}{k2:TK}{n1:Nat}(hs:iW T n K cf m e L=.idx o d t s ls.length i Lv cf1 cf2 K' m' e' L')(h1:cZ c s ls)(hF:(idx ls i).bind kf=some q)(ht:yS T t=some ⟨.sl el,b1,n1,z1⟩)(he:yS T el=some ⟨k2,b2,sz,z2⟩)(hn:aC.n α=sz)
  (k:∀x,idx ls i=some x->kf x=some q->∀y:C.ex,C.sub c.S0 c.w0 x y->G (.mk P T hT n c B0 N X Q) K' (m'+1) ((d,.p m' 0) :: e') (L' ++ [.ro m' (C.cs x y)]) (cf2.ext [.ro m' (C.cs x y)])):G (.mk P T hT n c B0 N X Q) K m e L cf:=by
 refine fV (g:=.mk P T hT n c B0 N X Q) ?_
 rw [hs]
 intro x' y' ho hd hx hy hP
 cases hi:idx ls i with
 | none=>rw [hi] at hF;cases hF
 | some x =>
  rw [hi] at hF
  obtain⟨dd,hd1,hd2⟩:=hT.und _ _ ht
  simp only at hd2;subst hd2
  obtain⟨ec,p1,p2⟩:=aX5 (S:=c.S0) (w:=c.w0) h1 (jQ hi).2.2
  obtain⟨y,p3,p4⟩:=C.ok p2
  subst hn
  refine hP d (.p m' 0) [.ro m' (C.cs x y)] (fun _=>[(KK (s.v ls.length),KD (aC.n α) i.toNat (s.v ls.length))]) 1 hd (fun _=>rfl) (fun B a w hA hS hm=>?_) (fun B w L hm hS=>?_) (k x hi hF y p4)
  ·obtain⟨v,g1,g2⟩:=dP hA hx
   obtain⟨u,g3,g4⟩:=dP hA hy
   cases g1;cases g3
   have hrd:aC.rd c.S0 w [s.v ls.length] ls:=aFI hS (f:=xN [s.v ls.length] ls) h1
   exact⟨_,by simp [dU,gV,bE,<-hm],OU (P:=P) (o:=o) (w:=w) hrd rfl hi hd1 (hT.size _ _ he) ho g2 g4⟩
  ·exact(hS.app _).a0D (b:=KK (s.v ls.length)) (z:=KD (aC.n α) i.toNat (s.v ls.length)) (by simp [<-hm]) (dN (fun x v h=>by simpa using eR (B:=[]) _ h) p3) p1
theorem dr{id:Nat}{ops:Array Oper}(is:List Nat)(hs:iW T n K cf m e L=.rgn id ops K' m' e' L')(hm:P.follows .mixedOrders=true)(hf:(aHH ops && (okL m' (kl L' is) && (cJ is && is.all fun j=>Nat.blt j L'.length)))=true)
  (k:∀B1,G (.mk P T hT n c B0 N X Q) K' m' e' L' (.d B1 ops (List.replicate ops.size false) is (kl L' is) (kl L' is))):G (.mk P T hT n c B0 N X Q) K m e L cf:=by
 refine fV (g:=.mk P T hT n c B0 N X Q) ?_
 rw [hs]
 intro a w ⟨B,hmm,hA,hS⟩
 simp only [xM,SU,l6] at hf
 obtain⟨f1,f2,f3,f4⟩:=hf
 refine wp_region_held (S:=Sd (.mk P T hT n c B0 N X Q) (B0++B) (kl L' is)) hm ?_
 have:=k (B0++B) ⟨⟨B,rfl⟩,by simp,f1,rfl,f4,by rw [hmm];exact f2,f3⟩ a w.drew ⟨[],by simpa using hmm,by simpa using hA,by simpa using hS.aRX (dC.drew F0 w),fun w' h=>by simpa using h⟩
 simpa using this
end
end Go.Gv
end
noncomputable section
namespace Go.Gv
inductive StF (P:Program):List Field->List (Nat×Nat)->Prop where
 | n:StF P [] []
 | c {F:Field} {Fs:List Field} {fs:List (Nat×Nat)} {m:Nat} (h:∀w,(sizeOf F.type).run P w=.ok m w) (t:StF P Fs fs):StF P (F :: Fs) ((F.offset,m) :: fs)
noncomputable section
variable {P:Program} {T:TT} {t n:Nat} {a:Bool} {zs:List SV} {z:Value}
theorem StF.off{Fs:List Field}{fs:List (Nat×Nat)}(h:StF P Fs fs):Fs.map (·.offset)=fs.map (·.1):=by
 induction h with
 | n=>rfl
 | c h t ih=>simp [ih]
theorem StF.get{Fs:List Field}{fs:List (Nat×Nat)}(h:StF P Fs fs):∀(j:Nat) F,Fs[j]?=some F->∃m,fs[j]?=some (F.offset,m)/\∀w,(sizeOf F.type).run P w=.ok m w:=by
 induction h with
 | n=>intro j F h;simp at h
 | c h t ih =>
  intro j F hj
  cases j with
  | zero=>simp at hj;subst hj;exact⟨_,rfl,h⟩
  | succ j=>exact ih j F (by simpa using hj)
theorem StF.run{Fs:List Field}{fs:List (Nat×Nat)}(h:StF P Fs fs)(w:World):(Fs.mapM fun f=>(do pure (f.offset,<-sizeOf f.type):Sem (Nat×Nat))).run P w=.ok fs w:=by
 induction h with
 | n=>simp
 | c h t ih=>simp [h] at ih ⊢;simp [ih]
theorem C9.nil:C9 P []:=⟨fun _ _ h=>(by cases h),fun _ _ h=>(by cases h),fun _ _ h=>(by cases h),fun _ _ h=>(by cases h)⟩
theorem C9.add{k:TK}{d:TypeDesc}(hu:P.underlying t=some d)(hk:match k with
  | .i k=>d=.int k
  | .b=>d=.bool
  | .st fs=>∃Fs:Array Field,d=.struct Fs/\Fs.toList.map (·.offset)=fs.map (·.1)/\(∀(j:Nat) F,Fs[j]?=some F->∃m,fs[j]?=some (F.offset,m)/\∀w,(sizeOf F.type).run P w=.ok m w)/\∀w,(Fs.mapM fun f=>(do pure (f.offset,<-sizeOf f.type):Sem (Nat×Nat))).run P w=.ok fs.toArray w
  | .s=>d=.string
  | .sl el=>d=.slice el
  | .x=>True) (ha:∀w,(isAgg t).run P w=.ok a w) (hs:∀w,(sizeOf t).run P w=.ok n w) (hz:∀w,(zeroValue t).run P w=.ok z w) (hc:aR (bE []) zs=some z.cells.toList) (h:C9 P T):C9 P ((t,⟨k,a,n,zs⟩) :: T):=by
 refine⟨fun t' i hi=>?_,fun t' i hi=>?_,fun t' i hi=>?_,fun t' i hi=>?_⟩ <;> simp only [yS] at hi <;> split at hi
 ·rename_i hb;cases hi;rw [i5 hb];exact⟨d,hu,hk⟩
 ·exact h.und t' i hi
 ·rename_i hb;cases hi;rw [i5 hb];exact ha
 ·exact h.agg t' i hi
 ·rename_i hb;cases hi;rw [i5 hb];exact hs
 ·exact h.size t' i hi
 ·rename_i hb;cases hi;rw [i5 hb];exact⟨z,hz,hc⟩
 ·exact h.zero t' i hi
theorem C9.st{fs:List (Nat×Nat)}{Fs:List Field}(hu:P.underlying t=some (.struct Fs.toArray))(hk:StF P Fs fs)(ha:∀w,(isAgg t).run P w=.ok a w)(hs:∀w,(sizeOf t).run P w=.ok n w)(hz:∀w,(zeroValue t).run P w=.ok z w)(hc:aR (bE []) zs=some z.cells.toList)(h:C9 P T):C9 P ((t,⟨.st fs,a,n,zs⟩) :: T):=
 C9.add (k:=.st fs) hu ⟨Fs.toArray,rfl,by simpa using hk.off,fun j F hj=>hk.get j F (by simpa using hj),fun w=>by
  have:=hk.run w
  simp at this ⊢
  simp [this]⟩ ha hs hz hc h
end
abbrev I(x:Int):SV:=.i .i64 x
end Go.Gv
end
noncomputable section
namespace Go.Gv
noncomputable section
variable {P:Program} {T:TT} {hT:C9 P T} {n:Nat} {c:Ctx} {B0:Bl} {N:Act->World->Prop} {X:Nat->Act->World->Prop} {Q:Act->World->Prop} {K K':List Fr} {m m':Nat} {e e':SE} {L L':List Ch} {cf cf1 cf2:rR} {o:Oper} {Lv:List Ch} {d:Nat}
theorem ext_nil:cf.ext []=cf:=by cases cf <;> simp [rR.ext]
theorem pu{x:SV}(hs:ZZ (iW T n K cf m e L)=some (o,Lv,cf1,cf2,K',m',e',L'))(hd:o.dst=some d)(hv:∀B a w,fI n B e' a->j5 c w B Lv->∃v,dU B x=some v/\dF P o (vE B e') w v w)
  (k:G (.mk P T hT n c B0 N X Q) K' m' ((d,x) :: e') L' cf2):G (.mk P T hT n c B0 N X Q) K m e L cf:=by
 refine fV (g:=.mk P T hT n c B0 N X Q) ?_
 have key:S8 (.mk P T hT n c B0 N X Q) K' m' e' L' o Lv cf1 cf2->G (.mk P T hT n c B0 N X Q) K' m' e' L' cf1:=fun hP=>by
  refine hP d x [] (fun _=>[]) 0 hd (fun _=>rfl) (fun B a w hA hS _=>?_) (fun B w L _ hS=>by simpa using hS) (by rw [ext_nil];simpa using k)
  obtain⟨v,h1,h2⟩:=hv B a w hA hS
  exact⟨v,by simpa using h1,h2⟩
 generalize iW T n K cf m e L=s at hs
 cases s <;> simp only [ZZ] at hs <;> cases hs
 ·exact fun _ hP=>key hP
 ·exact fun _ hP _=>key hP
theorem vH{x:Operand}{k:IntKind}{i:Int}{B:Bl}{a:Act}(hA:fI n B e a)(h:(g9 e x).bind qS=some (k,i)):ev (vE B e) x=some (.int k i):=by
 cases hx:g9 e x with
 | none=>rw [hx] at h;cases h
 | some y =>
  rw [hx] at h
  obtain⟨v,h1,h2⟩:=dP hA hx
  rw [h2,aJ7 (x:=y) h h1]
noncomputable section
variable {x y:Operand} {t z:TypeId} {k:IntKind} {i j:Int} {α:Type} {A:Option α} {q:α}
theorem a17(hs:ZZ (iW T n K cf m e L)=some (o,Lv,cf1,cf2,K',m',e',L'))(ho:(o.op,o.dst)=(.binOp .quo t x y z,some d))(hx:(g9 e' x).bind qS=some (k,i))(hy:(g9 e' y).bind qS=some (k,j))(hF:need (j≠0) A=some q)
  (kk:A=some q->G (.mk P T hT n c B0 N X Q) K' m' ((d,.i k (k.wrap (i.tdiv j))) :: e') L' cf2):G (.mk P T hT n c B0 N X Q) K m e L cf:=
 pu hs (congrArg Prod.snd ho) (fun B a w hA _=>⟨_,rfl,aJU (congrArg Prod.fst ho) (vH hA hx) (vH hA hy) (iG hF).1⟩) (kk (iG hF).2)
theorem a0E(hs:ZZ (iW T n K cf m e L)=some (o,Lv,cf1,cf2,K',m',e',L'))(ho:(o.op,o.dst)=(.binOp .rem t x y z,some d))(hx:(g9 e' x).bind qS=some (k,i))(hy:(g9 e' y).bind qS=some (k,j))(hF:need (j≠0) A=some q)
  (kk:A=some q->G (.mk P T hT n c B0 N X Q) K' m' ((d,.i k (i.tmod j)) :: e') L' cf2):G (.mk P T hT n c B0 N X Q) K m e L cf:=
 pu hs (congrArg Prod.snd ho) (fun B a w hA _=>⟨_,rfl,U3 (congrArg Prod.fst ho) (vH hA hx) (vH hA hy) (iG hF).1⟩) (kk (iG hF).2)
theorem aYK{x:Operand}{l:List UInt8}{B:Bl}{a:Act}(hA:fI n B e a)(h:g9 e x=some (.s l)):ev (vE B e) x=some (sv l):=by
 obtain⟨v,h1,h2⟩:=dP hA h
 cases h1;exact h2
theorem cat{p r:List UInt8}(hs:ZZ (iW T n K cf m e L)=some (o,Lv,cf1,cf2,K',m',e',L'))(ho:(o.op,o.dst)=(.binOp .add t x y z,some d))(hx:g9 e' x=some (.s p))(hy:g9 e' y=some (.s r))(hF:need (p.length+r.length<=9223372036854775807) A=some q)
  (kk:A=some q->G (.mk P T hT n c B0 N X Q) K' m' ((d,.s (p++r)) :: e') L' cf2):G (.mk P T hT n c B0 N X Q) K m e L cf:=
 pu hs (congrArg Prod.snd ho) (fun B a w hA _=>⟨_,rfl,aXT (congrArg Prod.fst ho) (aYK hA hx) (aYK hA hy) (iG hF).1⟩) (kk (iG hF).2)
theorem a0F{x:Operand}{cs:List SV}{vs:List Value}{B:Bl}{a:Act}(hA:fI n B e a)(h:(g9 e x).map nbS=some (.g cs))(hv:aR (bE []) cs=some vs):ev (vE B e) x=some (.agg vs.toArray):=by
 cases hx:g9 e x with
 | none=>rw [hx] at h;cases h
 | some y =>
  rw [hx] at h
  simp at h
  obtain⟨v,h1,h2⟩:=dP hA hx
  rw [h2,<-h1,<-YV,h]
  simp only [dU,gV]
  have:=dN (g:=bE B) (fun x v h=>by simpa using eR (B:=[]) B h) hv
  rw [this]
theorem neS{xs ys:List SV}{vx vy:List Value}{fs:Array Field}{b:Bool}(hg:P.eqGuardType P.depth t=false)(hst:P.stoodInHeld t=false)(hu:P.underlying t=some (.struct fs))(hb:∀w,(Op.eqFields 9999 vx.toArray vy.toArray (match P.underlying t with | some (.struct fs)=>fs | _=>#[]).toList).run P w=.ok b w)(hs:ZZ (iW T n K cf m e L)=some (o,Lv,cf1,cf2,K',m',e',L'))(ho:(o.op,o.dst)=(.binOp .neq t x y z,some d))(hx:(g9 e' x).map nbS=some (.g xs))(hy:(g9 e' y).map nbS=some (.g ys))(hvx:aR (bE []) xs=some vx)(hvy:aR (bE []) ys=some vy)
  (kk:G (.mk P T hT n c B0 N X Q) K' m' ((d,.b (!b)) :: e') L' cf2):G (.mk P T hT n c B0 N X Q) K m e L cf:=
 pu hs (congrArg Prod.snd ho) (fun B a w hA _=>⟨_,rfl,aUR hg hst hu hb (congrArg Prod.fst ho) (a0F hA hx hvx) (a0F hA hy hvy)⟩) kk
theorem cl0{α β:Type}{fo:Option α}{kf:α->Option β}{q:β}{f:FuncId}{xs:List SV}{sv:α->SV}(hs:iW T n K cf m e L=.call o (some d) f xs cf1 cf2 K' m' e' L')
  (hc:∀{w},HS c w L'->∀{x},fo=some x->Fn0 P f (bT w) xs sv x) (hF:fo.bind kf=some q)
  (k:∀x,fo=some x->kf x=some q->G (.mk P T hT n c B0 N X Q) K' m' ((d,sv x) :: e') L' cf2):G (.mk P T hT n c B0 N X Q) K m e L cf:=
 cl (Lf:=fun _ _=>[]) hs (fun _ _=>rfl) (fun h=>hc h) hF (fun x hx hk _=>by simpa using k x hx hk)
theorem lr{σ ρ υ α:Type}{id:Nat}{y:Code}{fb:σ->Option (Step σ ρ)}{s0:σ}{gk:ρ->Option α}{q:α}(u0:υ)(ks:List Nat)(el:σ->υ->SE)(is0 is:List Nat)(Ll:σ->υ->List Ch)
  (hs:iW T n K cf m e L=.loop id y K' m' e' L') (hF:(loop fb s0).bind gk=some q)
  (h0:QH B0.length m' e' L' is0 m' (el s0 u0++kp e' ks) (Ll s0 u0++kl L' is)=some (el s0 u0++kp e' ks,Ll s0 u0++kl L' is))
  (k1:∀ro,gk ro=some q->∀s u o,fb s=some o->(∀p,o=.stop p->p=ro)->G (.mk P T hT n c B0 (NxP n c B0 o m' (fun s u=>el s u++kp e' ks) (fun s u=>Ll s u++kl L' is)) (BkP n c B0 ro (fun b:Empty=>nomatch b) m' (fun(b:Empty) (_:Unit)=>nomatch b) (fun b _=>nomatch b) id (XK (.mk P T hT n c B0 N X Q) K')) Q) [] m' (el s u++kp e' ks) (Ll s u++kl L' is) (.c y)):G (.mk P T hT n c B0 N X Q) K m e L cf:=
 lp (β:=Empty) (ω:=Unit) u0 ks el is0 is Ll (fun b=>nomatch b) [] (fun b=>nomatch b) [] (fun b=>nomatch b) hs hF h0 (fun ro hro s u o hb ho=>by
  have:=k1 ro hro s u o hb ho
  have h1:(fun(b:Empty) (u:Unit)=>((fun b=>nomatch b:Empty->Unit->SE) b u++kp e' []))=(fun(b:Empty) (_:Unit)=>nomatch b):=funext fun b=>nomatch b
  have h2:(fun(b:Empty) (u:Unit)=>((fun b=>nomatch b:Empty->Unit->List Ch) b u++kl L' []))=(fun(b:Empty) (_:Unit)=>nomatch b):=funext fun b=>nomatch b
  rw [h1,h2]
  exact this) (fun b=>nomatch b)
end
end
end Go.Gv
end
noncomputable section
namespace Go.Gv
noncomputable section
variable {P:Program} {T:TT} {hT:C9 P T} {n:Nat} {c:Ctx} {B0:Bl} {N:Act->World->Prop} {X:Nat->Act->World->Prop} {Q:Act->World->Prop} {K K':List Fr} {m m':Nat} {e e':SE} {L L':List Ch} {cf cf1 cf2:rR} {o:Oper} {Lv:List Ch} {d:Nat}
def SS(P:Program)(c:Ctx){α β:Type}{iR:aC α}(C:CB α)(sr:β->SV)(g:FuncId)(cap:List Value)(p:α->Option β):Prop:=
 (∀args w,(callFunc g args).run P w=.ok (.enter g args) w)/\∀w,dC c.W c.w0 w->∀x y,C.sub (KH w) w x y->∀q,p x=some q->∀v,dU [] (C.sv x y)=some v->Calls P g (v :: cap).toArray w (Ret fun u w'=>dU [] (sr q)=some u/\j5 (bT w) w' [] [])
def Fu2(P:Program)(c:Ctx){α α' β:Type}{iR:aC α}{iR':aC α'}(C:CB α)(C':CB α')(sr:β->SV)(g:FuncId)(cap:List Value)(p:α->α'->Option β):Prop:=
 (∀args w,(callFunc g args).run P w=.ok (.enter g args) w)/\∀w,dC c.W c.w0 w->∀x y x' y',C.sub (KH w) w x y->C'.sub (KH w) w x' y'->∀q,p x x'=some q->∀v v',dU [] (C.sv x y)=some v->dU [] (C'.sv x' y')=some v'->Calls P g (v :: v' :: cap).toArray w (Ret fun u w'=>dU [] (sr q)=some u/\j5 (bT w) w' [] [])
theorem aRY{α:Type}{iR:aC α}(C:CB α){w:World}{B:Bl}(hS:j5 c w B L){x:α}{y:C.ex}(h:C.sub c.S0 c.w0 x y):C.sub (KH w) w x y:=by
 refine C.a2E h (fun b o hb=>?_) (aRW hS)
 obtain⟨⟨R,s1,_⟩,s0⟩:=hS
 exact s1.keep.cell b o (s0 b o hb) fun hw=>s1.apart b o hw hb
theorem j5.aRZ{w:World}{B:Bl}(hS:j5 c w B L):dC c.W c.w0 w:=by
 obtain⟨⟨R,s1,_⟩,s0⟩:=hS
 exact s1.keep
noncomputable section
variable {α α' β γ:Type} {iR:aC α} {iR':aC α'} {C:CB α} {C':CB α'} {sr:β->SV} {g:FuncId} {cap:List Value} {q:γ} {kf:β->Option γ} {fo:Operand} {args:Array Operand} {ats:Array TypeId}
theorem aR0{f:FuncId}{x:Operand}{ts:Array TypeId}{vs:List Value}{E:Env}{w:World}(hcall:∀args w,(callFunc f args).run P w=.ok (.enter f args) w)(ho:o.op=.call {callee:=.value x,args:=args,argTypes:=ts})(hx:ev E x=some (.func (.func f) #[] cap.toArray))(hv:ZP E args.toList=some vs):aP0 P o E w f (vs++cap).toArray:=
 aHA (w:=w) (cap:=cap) (xs:=args.toList) (vs:=vs) hcall (by simpa using ho) hx hv
theorem aD4{B:Bl}{x:SV}{v:Value}(h:tF 0 x=true)(hv:dU B x=some v):dU [] x=some v:=by
 have:=L4 h hv
 rwa [WJ] at this
theorem fa1{p:α->Option β}(H:SS P c C sr g cap p)(x:α)(y:C.ex)(hs:iW T n K cf m e L=.op o Lv cf1 cf2 K' m' e' L')(ho:(o.op,o.dst)=(.call {callee:=.value fo,args:=args,argTypes:=ats},some d))(hf:g9 e' fo=some (.k (.func (.func g) #[] cap.toArray)))(hx:(aR (g9 e') args.toList).map nbT=some [C.sv x y])(hz:tF 0 (C.sv x y)=true)(hy:C.sub c.S0 c.w0 x y)(hF:(p x).bind kf=some q)
  (k:∀z,p x=some z->kf z=some q->G (.mk P T hT n c B0 N X Q) K' m' ((d,sr z) :: e') L' cf2):G (.mk P T hT n c B0 N X Q) K m e L cf:=by
 refine fV (g:=.mk P T hT n c B0 N X Q) ?_
 rw [hs]
 intro hdn _ hE
 obtain⟨hcall,hrun⟩:=H
 cases hp:p x with
 | none=>rw [hp] at hF;cases hF
 | some z =>
  rw [hp] at hF
  refine hE Unit (fun _=>m') (fun _=>(d,sr z) :: e') (fun _=>L') (fun _=>by simpa using tG (L:=L') []) (fun B a w next Q' hm hA hS hnext=>?_) (fun _=>k z hp hF)
  cases hys:aR (g9 e') args.toList with
  | none=>rw [hys] at hx;cases hx
  | some ys =>
   rw [hys] at hx
   simp at hx
   obtain⟨vs,h1,h2⟩:=RE hA hys
   obtain⟨u,h3,h4⟩:=dP hA hf
   simp only [dU,gV,bE] at h3
   split at h3
   ·cases h3
    rw [<-aMO,hx] at h1
    simp only [aR] at h1
    cases hv:dU (RD (.mk P T hT n c B0 N X Q) cf1++B) (C.sv x y) with
    | none=>rw [hv] at h1;cases h1
    | some v =>
     rw [hv] at h1
     cases h1
     have h6:=aR0 (w:=w) hcall (congrArg Prod.fst ho) h4 h2
     have hd:o.dst=some d:=congrArg Prod.snd ho
     unfold Oper.wp
     rw [h6 _ a hA.env,Oper.upon_enter]
     refine Calls.mono (hrun w hS.aRZ x y (aRY C hS hy) z hp v (aD4 hz hv)) fun en w' ⟨v',hv',g1,g2⟩=>?_
     subst hv'
     rw [hd] at hdn ⊢
     have g3:=rC (RD (.mk P T hT n c B0 N X Q) cf1++B) g1
     exact hnext () _ _ ⟨[],by simpa using hm,by simpa using hA.of (by simpa using g3) (hA.env.put (by simpa [nS,l6] using hdn) v'),by simpa using hS.after (L2:=[]) rfl g2⟩
   ·cases h3
theorem fu1{w:World}{p:α->Option β}(hc:∀args w,(callFunc g args).run P w=.ok (.enter g args) w)(hn:∀{κ:Ctx} {x y},C.sub κ.S0 κ.w0 x y->∀{q},p x=some q->Fn0 P g κ [C.sv x y] sr q):SS P (bT w) C sr g [] p:=
 ⟨hc,fun w1 _ x y hy q hq v hv=>by
  refine Calls.mono ((hn (κ:=bT w1) hy hq).run [v] (by simp [aR,hv]) (aOM w1)) fun en w' ⟨v',h1,y,h2,h3⟩=>⟨v',h1,h2,h3⟩⟩
end
def roL:Nat->List (Nat×List SV)->List Ch
 | _,[]=>[]
 | k,(_,cs) :: r=>.ro k cs :: roL (k+1) r
def roS:List (Nat×List SV)->List Ch
 | []=>[]
 | (n,cs) :: r=>.ro n cs :: roS r
def aR1:Nat->List (Nat×List SV)->List SV
 | _,[]=>[]
 | k,_ :: r=>.p k 0 :: aR1 (k+1) r
def HK(Bs:Bl):List Value:=Bs.map fun b=>.pointer (some ⟨b.1,b.2,none⟩)
theorem rk{α:Type}[aC α]{w w1:World}{s:AC}{l:List α}(hk:dC F0 w w1)(h:cZ (bT w) s l):cZ (bT w1) s l:=
 aC.rd_mono (aC.rd_agree h fun b o hb=>hk.cell b o hb fun h=>h) fun b o hb=>KG hb hk.size
theorem fk1{α β:Type}{iR:aC α}{C:CB α}{sr:β->SV}{g:FuncId}{w:World}{Bs:Bl}{cs:List (Nat×List SV)}{p:α->Option β}(hc:∀args w,(callFunc g args).run P w=.ok (.enter g args) w)(hB:∀w1,dC F0 w w1->j5 (bT w1) w1 Bs (roL 0 cs))(hl:aR (dU Bs) (aR1 0 cs)=some (HK Bs))(hz:∀q,tF 0 (sr q)=true)(hn:∀{w1 x y},dC F0 w w1->C.sub (KH w1) w1 x y->∀{q},p x=some q->FnS P g (bT w1) (C.sv x y :: aR1 0 cs) Bs (roL 0 cs) (fun r (_:Unit)=>sr r) (fun _ _=>[]) q):SS P (bT w) C sr g (HK Bs) p:=
 ⟨hc,fun w1 hk x y hy q hq v hv=>by
  have hv':dU Bs (C.sv x y)=some v:=by simpa using rC (B:=[]) Bs hv
  refine Calls.mono ((hn hk hy hq).run (v :: HK Bs) (by simp [aR,hv',hl]) (hB w1 hk)) fun en w' ⟨v',h1,y',h2,h3⟩=>⟨v',h1,?_,?_⟩
  ·exact aD4 (hz q) h2
  ·simpa using S7 (m:=0) h3 rfl⟩
theorem aMW:∀{cs:List (Nat×List SV)} {k:Nat} {x:Ch},x∈roL k cs->∃j n c,cs[j]?=some (n,c)/\x=.ro (k+j) c
 | (n, c) :: r, k, x, h => by
  rcases gI.1 h with h | h
  ·exact⟨0,n,c,rfl,by rw [h];rfl⟩
  ·obtain⟨j,n',c',h1,h2⟩:=aMW h
   exact⟨j+1,n',c',by simpa using h1,by rw [h2];congr 1;omega⟩
theorem aMX:∀{cs:List (Nat×List SV)} {n:Nat} {c:List SV},(n,c)∈cs->Ch.ro n c∈roS cs
 | (n', c') :: r, n, c, h => by
  rcases gI.1 h with h | h
  ·cases h;exact List.mem_cons_self ..
  ·exact mL _ (aMX h)
theorem aR2{B:Bl}{cs:List (Nat×List SV)}{cap:List Value}:aR (LY B) (cs.map (·.1))=some cap->∃Bs:Bl,cap=HK Bs/\Bs.length=cs.length/\∀(j:Nat) n c,cs[j]?=some (n,c)->∃b,Bs[j]?=some b/\B[n]?=some b:=by
 induction cs generalizing cap with
 | nil=>intro h;cases h;exact⟨[],rfl,rfl,by simp⟩
 | cons p r ih =>
  obtain⟨n,c⟩:=p
  intro h
  simp only [C7,aR] at h
  split at h
  ·cases h
  ·rename_i v hv
   split at h
   ·cases h
   ·rename_i vs hvs
    cases h
    obtain⟨Bs,h1,h2,h3⟩:=ih hvs
    simp only [LY] at hv
    split at hv
    ·rename_i b z hb
     cases hv
     refine⟨(b,z) :: Bs,by simp [HK,h1],by simp [h2],fun j n' c' hj=>?_⟩
     cases j with
     | zero=>simp at hj;obtain⟨rfl,rfl⟩:=hj;exact⟨(b,z),rfl,hb⟩
     | succ j=>simpa using h3 j n' c' (by simpa using hj)
    ·cases hv
def aCG:List (Nat×List SV)->Bool
 | []=>true
 | (_,c) :: r=>tF.okC 0 c && aCG r
theorem aHN:∀{cs:List (Nat×List SV)} {j n:Nat} {c:List SV},aCG cs=true->cs[j]?=some (n,c)->tF.okC 0 c=true
 | (n', c') :: r, 0, n, c, h, hj => by
  simp only [aCG,xM] at h
  simp at hj;rw [<-hj.2];exact h.1
 | (n', c') :: r, j + 1, n, c, h, hj => by
  simp only [aCG,xM] at h
  exact aHN h.2 (by simpa using hj)
theorem aYL{w:World}{B Bs:Bl}{cs:List (Nat×List SV)}(hS:j5 c w B L)(hk:∀x∈roS cs,x∈L)(ho:aCG cs=true)(hB:∀(j:Nat) n c,cs[j]?=some (n,c)->∃b,Bs[j]?=some b/\B[n]?=some b):∀w1,dC F0 w w1->j5 (bT w1) w1 Bs (roL 0 cs):=by
 intro w1 hkp
 have facts:∀x∈roL 0 cs,∃(f:Fact),f.P (KH w1) w1/\(∀R,f∈R->roF Bs R x)/\jA Bs x=DZ:=by
  intro x hx
  obtain⟨j,n,cc,h1,h2⟩:=aMW hx
  subst h2
  obtain⟨⟨R,s1,s2⟩,s0⟩:=hS
  obtain⟨b,z,vs,g1,g2,g3⟩:=s2 _ (hk _ (aMX (rP h1)))
  obtain⟨b',q1,q2⟩:=hB j n cc h1
  rw [g1] at q2;cases q2
  have hc0:=wF (aHN ho h1) g2
  rw [WJ] at hc0
  obtain⟨i,hi⟩:=ZG g3
  refine⟨fAt b z vs,aWV (s1.fact i hi) hkp,fun R hR=>⟨b,z,vs,by simpa using q1,dN (fun x v h=>by simpa using eR (B:=[]) Bs h) hc0,hR⟩,rfl⟩
 have build:∀M:List Ch,(∀x∈M,x∈roL 0 cs)->∃R:List Fact,(∀f∈R,f.P (KH w1) w1)/\(∀x∈M,roF Bs R x)/\M.map (jA Bs)=List.replicate M.length DZ:=by
  intro M
  induction M with
  | nil=>exact fun _=>⟨[],by simp,by simp,rfl⟩
  | cons x M ih =>
   intro hM
   obtain⟨R,h1,h2,h3⟩:=ih fun y hy=>hM y (mL _ hy)
   obtain⟨f,f1,f2,f3⟩:=facts x (hM x (by simp))
   refine⟨f :: R,fun g hg=>?_,fun y hy=>?_,by simp [f3,h3,List.replicate_succ]⟩
   ·rcases gI.1 hg with hg | hg
    ·subst hg;exact f1
    ·exact h1 g hg
   ·rcases gI.1 hy with hy | hy
    ·subst hy;exact f2 _ (by simp)
    ·exact S5 (fun g hg=>mL _ hg) (h2 y hy)
 obtain⟨R,h1,h2,h3⟩:=build (roL 0 cs) fun _ h=>h
 refine⟨⟨R,?_,h2⟩,fun _ _ h=>h⟩
 rw [h3]
 have h4:St (bT w1) w1 [] R:=St.enter h1
 generalize (roL 0 cs).length=k
 clear h3
 induction k with
 | zero=>exact h4
 | succ k ih =>
  rw [List.replicate_succ']
  exact St.more (ch:=DZ) ih (dC.refl _ _) ⟨F0,fun _ _ h=>h,fun _ _ h=>h.elim⟩
def shr(ns:List Nat):List Ch->List Ch
 | []=>[]
 | .box n cs :: L => match eZ n ns with
  | true=>.box n cs :: shr ns L
  | false=>.ro n cs :: shr ns L
 | x :: L=>x :: shr ns L
theorem St.aYM{w:World}{M:List Chunk}{R:List Fact}{b z i:Nat}{vs:List Value}(h:St c w M R)(hi:M[i]?=some (OJ b z vs)):St c w (M.set i DZ) (R ++ [fAt b z vs]):=by
 have h1:=h.take i hi
 obtain⟨F,S,⟨F1,F2,h1,h2,hd,hF⟩,a2,a3,a4,a5,a6⟩:=h1.sep
 have hlt:∀b' o,F1 b' o->b' < w.heap.size:=fun _ _ hf=>Chunk.lt (OJ b z vs) h1 hf
 obtain⟨g1,g2,g3⟩:=h1
 refine⟨h.keep,⟨F2,fun b o=>S b o\/F1 b o,h2,?_,fun b o hf=>a3 b o ((hF b o).2 (.inr hf)),?_,?_,?_⟩,h.apart⟩
 ·rintro b o hf (hs | hs)
  ·exact a2 b o ((hF b o).2 (.inr hf)) hs
  ·exact hd b o hs hf
 ·rintro b o (hs | hs)
  ·exact a4 b o hs
  ·rcases a3 b o ((hF b o).2 (.inl hs)) with h | h
   ·exact .inr (.inl h)
   ·exact .inr (.inr h)
 ·rintro b o (hs | hs)
  ·exact a5 b o hs
  ·exact hlt b o hs
 ·intro f hf
  rcases eX.1 hf with hf | hf
  ·exact f.mono (a6 f hf) fun b o hs=>.inl hs
  ·simp at hf;subst hf
   exact⟨g1,fun o ho=>.inr ((g3 b o).2 ho)⟩
theorem aFK{w:World}{B:Bl}(ns:List Nat):∀(M L:List Ch),j5 c w B (M++L)->j5 c w B (M++shr ns L)
 | M,[],h=>h
 | M, x :: L, h => by
  have gen:j5 c w B (M++x :: shr ns L):=by
   have:=aFK ns (M ++ [x]) L (by simpa using h)
   simpa using this
  cases x with
  | box n cs =>
   simp only [shr]
   split
   ·exact gen
   ·obtain⟨⟨R,s1,s2⟩,s0⟩:=gen
    have hi:((M++Ch.box n cs :: shr ns L).map (jA B))[M.length]?=some (LZ B n cs):=by simp [jA]
    obtain⟨F,b,z,vs,h3,h4,h5⟩:=s1.chunk (ch:=LZ B n cs) M.length hi
    have s3:=s1.imp (iH.put M.length hi fun F ⟨b',z',vs',q1,q2,q3⟩=>by
     rw [h3] at q1;cases q1;rw [h4] at q2;cases q2;exact q3)
    have s4:=s3.aYM (b:=b) (z:=z) (vs:=vs) (i:=M.length) (by rw [WG];simp)
    refine⟨⟨R ++ [fAt b z vs],?_,fun x hx=>?_⟩,s0⟩
    ·have:((M++Ch.ro n cs :: shr ns L).map (jA B))=(((M++Ch.box n cs :: shr ns L).map (jA B)).set M.length (OJ b z vs)).set M.length DZ:=by
      simp [jA]
     rw [this];exact s4
    ·rcases eX.1 hx with hx | hx
     ·exact S5 (fun f hf=>NB _ hf) (s2 x (NB _ hx))
     ·rcases gI.1 hx with hx | hx
      ·subst hx;exact⟨b,z,vs,h3,h4,by simp⟩
      ·exact S5 (fun f hf=>NB _ hf) (s2 x (List.mem_append_right _ (mL _ hx)))
  | _=>exact gen
theorem mf{f:FuncId}{caps:Array Operand}{ops:Array Oper}{l:List Oper}(ns:List Nat)(hs:iW T n K cf m e L=.op o Lv (.r ops l) cf2 K' m' e' L')(ho:(o.op,o.dst)=(.makeFunc (.func f) #[] caps,some d))(hx:aR (g9 e') caps.toList=some (ns.map fun n=>.p n 0))
  (k:G (.mk P T hT n c B0 N X Q) K' m' ((d,.f f ns) :: e') (shr ns L') cf2):G (.mk P T hT n c B0 N X Q) K m e L cf:=by
 refine fV (g:=.mk P T hT n c B0 N X Q) ?_
 rw [hs]
 intro hdn _ hE
 refine hE Unit (fun _=>m') (fun _=>(d,.f f ns) :: e') (fun _=>shr ns L') (fun _=>trivial) (fun B a w next Q' hm hA hS hnext=>?_) (fun _=>k)
 obtain⟨vs,h1,h2⟩:=RE hA hx
 have hd:o.dst=some d:=congrArg Prod.snd ho
 have h3:∀{ns:List Nat} {vs:List Value},aR (dU (RD (.mk P T hT n c B0 N X Q) (.r ops l)++B)) (ns.map fun n=>SV.p n 0)=some vs->aR (LY (RD (.mk P T hT n c B0 N X Q) (.r ops l)++B)) ns=some vs:=by
  intro ns
  induction ns with
  | nil=>intro vs h;exact h
  | cons jj ns ih =>
   intro vs h
   simp only [C7,aR] at h
   split at h
   ·cases h
   ·rename_i v hv
    split at h
    ·cases h
    ·rename_i vs' hvs
     cases h
     have:LY (RD (.mk P T hT n c B0 N X Q) (.r ops l)++B) jj=some v:=by
      simp only [dU,gV,bE] at hv
      simp only [LY]
      split at hv
      ·simpa using hv
      ·cases hv
     simp [aR,this,ih hvs]
 have h5:∀{os:List Operand} {vs:List Value},ZP (vE (RD (.mk P T hT n c B0 N X Q) (.r ops l)++B) e') os=some vs->os.map (ev (vE (RD (.mk P T hT n c B0 N X Q) (.r ops l)++B) e'))=vs.map some:=by
  intro os
  induction os with
  | nil=>intro vs h;cases h;rfl
  | cons o os ih =>
   intro vs h
   simp only [ZP] at h
   split at h
   ·rename_i v vs' hv hvs
    cases h
    simp [hv,ih hvs]
   ·cases h
 have h6:=aUN (P:=P) (w:=w) (vf:=[]) (vc:=vs) (congrArg Prod.fst ho) rfl (h5 h2)
 unfold Oper.wp
 rw [h6 _ a hA.env,Oper.upon_value,hd]
 rw [hd] at hdn
 have h7:dU (RD (.mk P T hT n c B0 N X Q) (.r ops l)++B) (.f f ns)=some (.func (.func f) #[] vs.toArray):=by simp only [dU,h3 h1]
 exact hnext () _ _ ⟨[],by simpa using hm,by simpa using hA.of h7 (hA.env.put (by simpa [nS,l6] using hdn) _),by simpa using aFK ns [] L' hS⟩
theorem clc{α β:Type}{fo:Option α}{kf:α->Option β}{q:β}{f g:FuncId}{xs xs0:List SV}{sv:α->SV}(is:List Nat)(cs:List (Nat×List SV))(hs:iW T n K cf m e L=.callp o (some d) f xs cf1 cf2 K' m' e' L')(hk:kl L' is=roS cs)(ho:(aCG cs && okA xs.dropLast)=true)(hx:xs=xs.dropLast ++ [.f g (cs.map (·.1))])
  (hc:∀{w},HS c w L'->∀{Bs:Bl},Bs.length=cs.length->(∀w1,dC F0 w w1->j5 (bT w1) w1 Bs (roL 0 cs))->∀{x},fo=some x->Fn0 P f (bT w) (xs.dropLast ++ [.k (.func (.func g) #[] (HK Bs).toArray)]) sv x) (hF:fo.bind kf=some q)
  (k:∀x,fo=some x->kf x=some q->G (.mk P T hT n c B0 N X Q) K' m' ((d,sv x) :: e') L' cf2):G (.mk P T hT n c B0 N X Q) K m e L cf:=by
 refine fV (g:=.mk P T hT n c B0 N X Q) ?_
 rw [hs]
 intro fo' args ats ho' hd hf ⟨ys,hys,hxs⟩ hdn hE
 rw [xM] at ho
 cases hfo:fo with
 | none=>rw [hfo] at hF;cases hF
 | some x =>
  rw [hfo] at hF
  refine hE Unit (fun _=>m') (fun _=>(d,sv x) :: e') (fun _=>L') (fun _=>by simpa using tG (L:=L') []) (fun B a w next Q' hm hA hS hnext=>?_) (fun _=>k x hfo hF)
  obtain⟨vs,h1,h2⟩:=RE hA hys
  obtain⟨v,h3,h4⟩:=dP hA hf
  simp [dU,aR] at h3
  subst h3
  rw [<-H5,hxs] at h1
  rw [hx] at h1
  have split:∀{as:List SV} {b:SV} {vs:List Value} {B:Bl},aR (dU B) (as ++ [b])=some vs->∃us v,aR (dU B) as=some us/\dU B b=some v/\vs=us ++ [v]:=by
   intro as
   induction as with
   | nil =>
    intro b vs B h
    simp only [ZJ,aR] at h
    split at h
    ·cases h
    ·rename_i v hv;cases h;exact⟨[],v,rfl,hv,rfl⟩
   | cons a as ih =>
    intro b vs B h
    simp only [ON,aR] at h
    split at h
    ·cases h
    ·rename_i u hu
     split at h
     ·cases h
     ·rename_i us' hus
      cases h
      obtain⟨us,v,g1,g2,rfl⟩:=ih hus
      exact⟨u :: us,v,by simp [aR,hu,g1],g2,rfl⟩
  obtain⟨us,fv,g1,g2,rfl⟩:=split h1
  simp only [dU] at g2
  split at g2
  ·rename_i cap hcap
   cases g2
   obtain⟨Bs,b1,b2,b3⟩:=aR2 hcap
   subst b1
   have hmem:∀x∈roS cs,x∈L':=fun x hx=>Z3 (is:=is) (by rw [hk];exact hx)
   obtain⟨hcall,hrun⟩:=hc ⟨_,hS⟩ b2 (aYL hS hmem ho.1 b3) hfo
   have join:∀{as:List SV} {us:List Value} {b:SV} {v:Value},aR (dU []) as=some us->dU [] b=some v->aR (dU []) (as ++ [b])=some (us ++ [v]):=by
    intro as
    induction as with
    | nil=>intro us b v h hb;cases h;simp [aR,hb]
    | cons a as ih =>
     intro us b v h hb
     simp only [aR] at h
     split at h
     ·cases h
     ·rename_i u hu
      split at h
      ·cases h
      ·rename_i us' hus;cases h;simp [aR,hu,ih hus hb]
   have h5:=hrun (us ++ [.func (.func g) #[] (HK Bs).toArray]) (join (TA ho.2 g1) (by simp [dU,gV,bE,Value.oneCell'])) (aOM w)
   have h6:=KU (w:=w) hcall ho' h4 h2
   unfold Oper.wp
   rw [h6 _ a hA.env,Oper.upon_enter]
   refine Calls.mono h5 fun en w' ⟨v,hv,y,e1,e2⟩=>?_
   subst hv
   rw [hd]
   have g3:=rC (RD (.mk P T hT n c B0 N X Q) cf1++B) e1
   exact hnext () _ _ ⟨[],by simpa using hm,by simpa using hA.of (by simpa using g3) (hA.env.put (by simpa [nS,l6] using hdn) v),by simpa using hS.after (L2:=[]) rfl e2⟩
  ·cases g2
theorem HS.u1{α β:Type}{iR:aC α}{C:CB α}{sr:β->SV}{g:FuncId}{cap:List Value}{w:World}{p:α->Option β}(h:HS c w L)(H:SS P c C sr g cap p):SS P (bT w) C sr g cap p:=by
 obtain⟨B,hS⟩:=h.ex
 exact⟨H.1,fun w1 hk=>H.2 w1 (hS.aRZ.trans hk fun _ _ _ h=>h.elim)⟩
theorem HS.u2{α α' β:Type}{iR:aC α}{iR':aC α'}{C:CB α}{C':CB α'}{sr:β->SV}{g:FuncId}{cap:List Value}{w:World}{p:α->α'->Option β}(h:HS c w L)(H:Fu2 P c C C' sr g cap p):Fu2 P (bT w) C C' sr g cap p:=by
 obtain⟨B,hS⟩:=h.ex
 exact⟨H.1,fun w1 hk=>H.2 w1 (hS.aRZ.trans hk fun _ _ _ h=>h.elim)⟩
theorem a18{α β:Type}{fo:Option α}{kf:α->Option β}{q:β}{f g:FuncId}{xs:List SV}{sv:α->SV}{n1:Nat}{c1:List SV}(is:List Nat)(hs:iW T n K cf m e L=.callp o (some d) f xs cf1 cf2 K' m' e' L')(hk:kl L' is=[.ro n1 c1])(ho:(aCG [(n1,c1)] && okA xs.dropLast)=true)(hx:xs=xs.dropLast ++ [.f g [n1]])
  (hc:∀{w},HS c w L'->∀{b1:Nat×Nat},(∀w1,dC F0 w w1->j5 (bT w1) w1 [b1] [.ro 0 c1])->∀{x},fo=some x->Fn0 P f (bT w) (xs.dropLast ++ [.k (.func (.func g) #[] (HK [b1]).toArray)]) sv x) (hF:fo.bind kf=some q)
  (k:∀x,fo=some x->kf x=some q->G (.mk P T hT n c B0 N X Q) K' m' ((d,sv x) :: e') L' cf2):G (.mk P T hT n c B0 N X Q) K m e L cf:=
 clc (xs0:=[]) is [(n1,c1)] hs hk ho hx (fun h Bs hl hB=>match Bs,hl,hB with | [_],_,hB=>hc h hB) hF k
theorem a19{α β:Type}{fo:Option α}{kf:α->Option β}{q:β}{f g:FuncId}{xs:List SV}{sv:α->SV}{n1 n2:Nat}{c1 c2:List SV}(is:List Nat)(hs:iW T n K cf m e L=.callp o (some d) f xs cf1 cf2 K' m' e' L')(hk:kl L' is=[.ro n1 c1,.ro n2 c2])(ho:(aCG [(n1,c1),(n2,c2)] && okA xs.dropLast)=true)(hx:xs=xs.dropLast ++ [.f g [n1,n2]])
  (hc:∀{w},HS c w L'->∀{b1 b2:Nat×Nat},(∀w1,dC F0 w w1->j5 (bT w1) w1 [b1,b2] [.ro 0 c1,.ro 1 c2])->∀{x},fo=some x->Fn0 P f (bT w) (xs.dropLast ++ [.k (.func (.func g) #[] (HK [b1,b2]).toArray)]) sv x) (hF:fo.bind kf=some q)
  (k:∀x,fo=some x->kf x=some q->G (.mk P T hT n c B0 N X Q) K' m' ((d,sv x) :: e') L' cf2):G (.mk P T hT n c B0 N X Q) K m e L cf:=
 clc (xs0:=[]) is [(n1,c1),(n2,c2)] hs hk ho hx (fun h Bs hl hB=>match Bs,hl,hB with | [_,_],_,hB=>hc h hB) hF k
end
end Go.Gv
end
noncomputable section
namespace Go.Gv
noncomputable section
variable {P:Program} {T:TT} {hT:C9 P T} {n:Nat} {c:Ctx} {B0:Bl} {N:Act->World->Prop} {X:Nat->Act->World->Prop} {Q:Act->World->Prop} {K K':List Fr} {m m':Nat} {e e':SE} {L L':List Ch} {cf cf1 cf2:rR} {o:Oper} {Lv:List Ch} {d:Nat}
variable {x y z:Operand} {t t2:TypeId} {k k2:IntKind} {i j:Int} {α β:Type} {A:Option β} {q:β}
theorem aYN(hs:ZZ (iW T n K cf m e L)=some (o,Lv,cf1,cf2,K',m',e',L'))(ho:(o.op,o.dst)=(.call {callee:=.builtin .min,args:=#[x,y],argTypes:=#[t,t2]},some d))(hx:(g9 e' x).bind qS=some (.i64,i))(hy:(g9 e' y).bind qS=some (k,j))
  (kk:G (.mk P T hT n c B0 N X Q) K' m' ((d,.i .i64 (if j < i then j else i)) :: e') L' cf2):G (.mk P T hT n c B0 N X Q) K m e L cf:=
 pu hs (congrArg Prod.snd ho) (fun B a w hA _=>⟨_,rfl,aXZ (congrArg Prod.fst ho) (vH hA hx) (vH hA hy)⟩) kk
theorem a0H(hs:ZZ (iW T n K cf m e L)=some (o,Lv,cf1,cf2,K',m',e',L'))(ho:(o.op,o.dst)=(.call {callee:=.builtin .max,args:=#[x,y],argTypes:=#[t,t2]},some d))(hx:(g9 e' x).bind qS=some (.i64,i))(hy:(g9 e' y).bind qS=some (k,j))
  (kk:G (.mk P T hT n c B0 N X Q) K' m' ((d,.i .i64 (if i < j then j else i)) :: e') L' cf2):G (.mk P T hT n c B0 N X Q) K m e L cf:=
 pu hs (congrArg Prod.snd ho) (fun B a w hA _=>⟨_,rfl,aX0 (congrArg Prod.fst ho) (vH hA hx) (vH hA hy)⟩) kk
noncomputable section
variable {l:List UInt8} {b1:Bool} {n1:Nat} {z1:List SV}
theorem a0I(ht:yS T t=some ⟨.s,b1,n1,z1⟩)(hT:C9 P T):P.underlying t=some .string:=by
 obtain⟨dd,hd1,hd2⟩:=hT.und _ _ ht
 simp only at hd2;subst hd2
 exact hd1
theorem qsi{kf:UInt8->Option β}(hs:ZZ (iW T n K cf m e L)=some (o,Lv,cf1,cf2,K',m',e',L'))(ho:(o.op,o.dst)=(.index t x y,some d))(ht:yS T t=some ⟨.s,b1,n1,z1⟩)(hx:g9 e' x=some (.s l))(hy:(g9 e' y).bind qS=some (k,i))(hF:(idx l i).bind kf=some q)
  (kk:∀u,idx l i=some u->kf u=some q->G (.mk P T hT n c B0 N X Q) K' m' ((d,.y u) :: e') L' cf2):G (.mk P T hT n c B0 N X Q) K m e L cf:=by
 cases hi:idx l i with
 | none=>rw [hi] at hF;cases hF
 | some u =>
  rw [hi] at hF
  exact pu hs (congrArg Prod.snd ho) (fun B a w hA _=>⟨_,rfl,aUX (a0I ht hT) hi (congrArg Prod.fst ho) (aYK hA hx) (vH hA hy)⟩) (kk u hi hF)
end
noncomputable section
variable [aC α] {s:AC} {l:List α} {el:TypeId} {b1 b2:Bool} {n1 sz:Nat} {z1 z2:List SV} {kt:TK}
theorem Z7{B:Bl}{a:Act}(hA:fI n B e a){ln:Nat}(h:g9 e x=some (.h s ln)):ev (vE B e) x=some (s.v ln):=by
 obtain⟨v,h1,h2⟩:=dP hA h
 cases h1;exact h2
theorem D2(ht:yS T t=some ⟨.sl el,b1,n1,z1⟩)(hT:C9 P T):P.underlying t=some (.slice el):=by
 obtain⟨dd,hd1,hd2⟩:=hT.und _ _ ht
 simp only at hd2;subst hd2
 exact hd1
theorem qsb{a b:Nat}(h1:cZ c s l)(hb:a<=b/\b<=l.length)(hs:ZZ (iW T n K cf m e L)=some (o,Lv,cf1,cf2,K',m',e',L'))(hd:o.dst=some d)(hr:∀B act w,fI n B e' act->aC.rd c.S0 w [s.v l.length] l->dF P o (vE B e') w (gE (aC.n α) a b (s.v l.length)) w)
  (kk:∀s',cZ c s' ((l.take b).drop a)->G (.mk P T hT n c B0 N X Q) K' m' ((d,.h s' ((l.take b).drop a).length) :: e') L' cf2):G (.mk P T hT n c B0 N X Q) K m e L cf:=by
 have h2:=aJZ (n:=aC.n α) (a:=a) (b:=b) rfl h1 hb.1 hb.2
 obtain⟨ad,cp,e1,_⟩:=ZV h2
 rw [e1] at h2
 exact pu hs hd (fun B act w hA hS=>⟨_,by rw [e1];simp [dU,gV,bE],hr B act w hA (aFI hS (f:=xN [s.v l.length] l) h1)⟩) (kk ⟨ad,cp⟩ h2)
theorem aKC(hs:ZZ (iW T n K cf m e L)=some (o,Lv,cf1,cf2,K',m',e',L'))(ho:(o.op,o.dst)=(.slice t x (some y) (some z) none,some d))(ht:yS T t=some ⟨.sl el,b1,n1,z1⟩)(he:yS T el=some ⟨kt,b2,sz,z2⟩)(hn:aC.n α=sz)(h1:cZ c s l)(hx:g9 e' x=some (.h s l.length))(hy:(g9 e' y).bind qS=some (k,i))(hz:(g9 e' z).bind qS=some (k2,j))(hF:need (0<=i/\i<=j/\j<=(l.length:Int)) A=some q)
  (kk:A=some q->∀s',cZ c s' ((l.take j.toNat).drop i.toNat)->G (.mk P T hT n c B0 N X Q) K' m' ((d,.h s' ((l.take j.toNat).drop i.toNat).length) :: e') L' cf2):G (.mk P T hT n c B0 N X Q) K m e L cf:=by
 have hb:=(iG hF).1
 subst hn
 exact qsb h1 (by omega) hs (congrArg Prod.snd ho) (fun B act w hA h=>aOE h rfl (D2 ht hT) (hT.size _ _ he) hb (congrArg Prod.fst ho) (Z7 hA hx) (vH hA hy) (vH hA hz)) (kk (iG hF).2)
theorem aW4(hs:ZZ (iW T n K cf m e L)=some (o,Lv,cf1,cf2,K',m',e',L'))(ho:(o.op,o.dst)=(.slice t x none (some z) none,some d))(ht:yS T t=some ⟨.sl el,b1,n1,z1⟩)(he:yS T el=some ⟨kt,b2,sz,z2⟩)(hn:aC.n α=sz)(h1:cZ c s l)(hx:g9 e' x=some (.h s l.length))(hz:(g9 e' z).bind qS=some (k2,j))(hF:need (0<=j/\j<=(l.length:Int)) A=some q)
  (kk:A=some q->∀s',cZ c s' ((l.take j.toNat).drop 0)->G (.mk P T hT n c B0 N X Q) K' m' ((d,.h s' ((l.take j.toNat).drop 0).length) :: e') L' cf2):G (.mk P T hT n c B0 N X Q) K m e L cf:=by
 have hb:=(iG hF).1
 subst hn
 exact qsb h1 (by omega) hs (congrArg Prod.snd ho) (fun B act w hA h=>aQP h rfl (D2 ht hT) (hT.size _ _ he) hb (congrArg Prod.fst ho) (Z7 hA hx) (vH hA hz)) (kk (iG hF).2)
end
noncomputable section
variable {zv:Value} {n1 m1:Nat} {el:TypeId}
theorem aR3{B:Bl}{xs:List SV}{vs:List Value}(h:aR (dU []) xs=some vs):aR (dU B) xs=some vs:=dN (fun x v h=>by simpa using rC (B:=[]) B h) h
theorem qba{ps:Array (Nat×Operand)}{xs:List SV}{vs cells:List Value}(cs:List SV)(hz:∀w,(zeroValue t).run P w=.ok zv w)(hu:P.underlying t=some (.array n1 el))(hp:∀w,(sizeOf el).run P w=.ok m1 w)(hs:ZZ (iW T n K cf m e L)=some (o,Lv,cf1,cf2,K',m',e',L'))(ho:(o.op,o.dst)=(.build t ps,some d))(hv:aR (g9 e') (ps.toList.map (·.2))=some xs)(hvs:aR (dU []) xs=some vs)(hcs:aR (bE []) cs=some cells)(hc:Instr.fill (fun i=>some (i * m1,m1)) zv.cells ((ps.toList.map (·.1)).zip vs)=some cells.toArray)
  (kk:G (.mk P T hT n c B0 N X Q) K' m' ((d,.g cs) :: e') L' cf2):G (.mk P T hT n c B0 N X Q) K m e L cf:=
 pu hs (congrArg Prod.snd ho) (fun B a w hA _=>⟨.agg cells.toArray,by
  simp only [dU,gV]
  rw [dN (g:=bE B) (fun x v h=>by simpa using eR (B:=[]) B h) hcs],by
  obtain⟨us,h1,h2⟩:=RE hA hv
  rw [aR3 hvs] at h1
  cases h1
  exact U5 (ps:=ps.toList) (by have:=congrArg Prod.fst ho;simpa using this) hz hu hp h2 hc⟩) kk
theorem qai{γ:Type}(f:γ->Value)(g:γ->SV){l:List γ}{cs:List SV}{kf:γ->Option β}(hu:P.underlying t=some (.array n1 el))(hz:∀w,(sizeOf el).run P w=.ok 1 w)(hg:∀w,(isAgg el).run P w=.ok false w)(hgf:∀u,dU [] (g u)=some (f u))(hs:ZZ (iW T n K cf m e L)=some (o,Lv,cf1,cf2,K',m',e',L'))(ho:(o.op,o.dst)=(.index t x y,some d))(hx:g9 e' x=some (.g cs))(hcs:aR (bE []) cs=some (l.map f))(hn:l.length=n1)(hy:(g9 e' y).bind qS=some (k,i))(hF:(idx l i).bind kf=some q)
  (kk:∀u,idx l i=some u->kf u=some q->G (.mk P T hT n c B0 N X Q) K' m' ((d,g u) :: e') L' cf2):G (.mk P T hT n c B0 N X Q) K m e L cf:=by
 cases hi:idx l i with
 | none=>rw [hi] at hF;cases hF
 | some u =>
  rw [hi] at hF
  refine pu hs (congrArg Prod.snd ho) (fun B a w hA _=>⟨f u,by simpa using rC (B:=[]) B (hgf u),?_⟩) (kk u hi hF)
  obtain⟨v,h1,h2⟩:=dP hA hx
  simp only [dU,gV] at h1
  rw [dN (g:=bE B) (fun x v h=>by simpa using eR (B:=[]) B h) hcs] at h1
  cases h1
  exact aX2 f hu hz hg hi hn rfl (congrArg Prod.fst ho) h2 (vH hA hy)
end
end
end Go.Gv
end
noncomputable section
namespace Go.Gv
noncomputable section
variable {P:Program} {T:TT} {hT:C9 P T} {n:Nat} {c:Ctx} {B0:Bl} {N:Act->World->Prop} {X:Nat->Act->World->Prop} {Q:Act->World->Prop} {K K':List Fr} {m m':Nat} {e e':SE} {L L':List Ch} {cf cf1 cf2:rR} {o:Oper} {Lv:List Ch} {d:Nat}
theorem chg{g:Gx}{ι:Type}(m2:ι->Nat)(e2:ι->SE)(L2:ι->List Ch)(h:∀B a w,B.length=m->fI g.n B e a->j5 g.c w B L->∃i B',(B++B').length=m2 i/\fI g.n (B++B') (e2 i) a/\j5 g.c w (B++B') (L2 i))
  (hz:∀i,Frz g cf L (L2 i)) (k:∀i,G g K (m2 i) (e2 i) (L2 i) cf):G g K m e L cf:=by
 have key:∀a w,Rel g m e L a w->∃i,Rel g (m2 i) (e2 i) (L2 i) a w:=fun a w ⟨B,h1,h2,h3⟩=>by
  obtain⟨i,B',k1,k2,k3⟩:=h _ a w h1 h2 h3
  exact⟨i,B++B',by simpa using k1,by simpa using k2,by simpa using k3⟩
 cases cf with
 | n=>exact fun a w hr=>let ⟨i,hi⟩:=key a w hr;k i a w hi
 | c x=>exact fun a w hr=>let ⟨i,hi⟩:=key a w hr;k i a w hi
 | r ops l=>exact fun a w hr=>let ⟨i,hi⟩:=key a w hr;k i a w hi
 | d B1 ops l is Lf Lv =>
  refine fun hD a w ⟨B,h1,h2,h3,h4⟩=>?_
  obtain⟨i,B',k1,k2,k3⟩:=h _ a w h1 h2 h3
  obtain⟨z1,z2⟩:=hz i hD
  exact k i ⟨hD.pre,hD.len,hD.free,z1,z2,hD.okf,hD.ap⟩ a w ⟨B++B',by simpa using k1,by simpa using k2,by simpa using k3,fun w' hw=>by
   have:=(h4 w' hw).app B'
   simpa using this⟩
 | o B1 ops l is Lf Lv ii =>
  refine fun hD a w ⟨B,h1,h2,h3,h4⟩=>?_
  obtain⟨i,B',k1,k2,k3⟩:=h _ a w h1 h2 h3
  obtain⟨z1,z2⟩:=hz i hD
  exact k i ⟨hD.pre,hD.len,hD.free,z1,z2,hD.okf,hD.ap⟩ a w ⟨B++B',by simpa using k1,by simpa using k2,by simpa using k3,fun w' hw=>by
   have:=(h4 w' hw).app B'
   simpa using this⟩
theorem BM{α β:Type}[aC α]{x y:Operand}{t el sz:Nat}{i:Int}{zv:Value}{b1:Bool}{n1:Nat}{z1:List SV}{A:Option β}{q:β}(zd:α)(hinf:OK P el sz zv)(hzd:∀w,aC.own w zv.cells.toList zd F0)(hs:iW T n K cf m e L=.op o Lv cf1 cf2 K' m' e' L')(ho:(o.op,o.dst)=(.makeSlice t x y,some d))(ht:yS T t=some ⟨.sl el,b1,n1,z1⟩)(hn:aC.n α=sz)(hzs:zv.cells.size=sz)(hx:(g9 e' x).bind qS=some (.i64,i))(hy:(g9 e' y).bind qS=some (.i64,i))(hF:need (0<=i/\i<=4294967296) A=some q)
  (k:A=some q->∀s':AC,G (.mk P T hT n c B0 N X Q) K' m' ((d,.h s' (List.replicate i.toNat zd).length) :: e') (L' ++ [ow s' (List.replicate i.toNat zd)]) cf2):G (.mk P T hT n c B0 N X Q) K m e L cf:=by
 refine fV (g:=.mk P T hT n c B0 N X Q) ?_
 rw [hs]
 intro hdn _ hE
 refine hE AC (fun _=>m') (fun s'=>(d,.h s' (List.replicate i.toNat zd).length) :: e') (fun s'=>L' ++ [ow s' (List.replicate i.toNat zd)]) (fun _=>tG _) (fun B a w next Q' hm hA hS hnext=>?_) (k (iG hF).2)
 obtain⟨⟨R,s1,s2⟩,s0⟩:=hS
 have hd:o.dst=some d:=congrArg Prod.snd ho
 obtain⟨v,w',k1,k2⟩:=aQM zd s1 hn (D2 ht hT) hinf hzs hzd (iG hF).1 (congrArg Prod.fst ho) (vH hA hx) (vH hA hy)
 have hrd:∃s':AC,v=s'.v (List.replicate i.toNat zd).length:=by
  have h1:=k2.aL2 (cs:=[v]) (d:=List.replicate i.toNat zd) (L'.map (jA (RD (.mk P T hT n c B0 N X Q) cf1++B))).length (by simp)
  obtain⟨ad,cp,h2,_⟩:=ZV h1
  exact⟨⟨ad,cp⟩,h2⟩
 obtain⟨s',rfl⟩:=hrd
 unfold Oper.wp
 rw [k1 _ a hA.env,Oper.upon_value,hd]
 refine hnext s' _ _ ⟨[],by simpa using hm,by simpa using hA.of (by simp [dU,gV,bE]) (hA.env.put (by rw [hd] at hdn;simpa [nS,l6] using hdn) _),⟨⟨R,by simpa [jA] using k2,fun x hx=>?_⟩,fun b o hb=>KG (s0 b o hb) (iC _)⟩⟩
 rcases eX.1 hx with hx | hx
 ·simpa using s2 x hx
 ·simp at hx;subst hx;exact trivial
end
end Go.Gv
end
noncomputable section
namespace Go.Gv
def rR.uR:rR->List Nat
 | .d _ _ _ is _ _=>is
 | .o _ _ _ is _ _ _=>is
 | _=>[]
theorem QM{L M:List Ch}{j:Nat}{z:Ch}:∀{is:List Nat},(∀i∈is,i < L.length)->eZ j is=true->kl (L.set j z++M) is=kl L is
 | [],_,_=>rfl
 | i :: is, h, hn => by
  have hi:=h i (by simp)
  have h1:=Z6 hn
  have hne:j≠i:=fun he=>h1 (by simp [he])
  have h2:(L.set j z++M)[i]?=L[i]?:=by rw [F6 (by simpa using hi),OQ hne]
  have h3:eZ j is=true:=by
   unfold eZ at hn
   split at hn
   ·cases hn
   ·exact hn
  simp only [kl,h2,QM (fun i hi=>h i (mL _ hi)) h3]
theorem aMY{L M:List Ch}:∀{is:List Nat},(∀i∈is,i < L.length)->kl (L++M) is=kl L is
 | [],_=>rfl
 | i :: is, h => by
  simp only [kl,F6 (h i (by simp)),aMY (M:=M) (fun i hi=>h i (mL _ hi))]
theorem aFL{g:Gx}{cf:rR}{L M:List Ch}{j:Nat}{z:Ch}(hn:eZ j cf.uR=true):Frz g cf L (L.set j z++M):=by
 cases cf with
 | d B1 ops l is Lf Lv =>
  exact fun hD=>⟨(QM hD.rng hn).trans hD.uR,fun i hi=>by have:=hD.rng i hi;simp;omega⟩
 | o B1 ops l is Lf Lv i =>
  exact fun hD=>⟨(QM hD.rng hn).trans hD.uR,fun i hi=>by have:=hD.rng i hi;simp;omega⟩
 | _=>trivial
theorem aR4{c:Ctx}{w:World}{A:List Chunk}{R:List Fact}(h:St c w A R):St c w (A ++ [DZ]) R:=by
 obtain⟨F,S,h1,rest⟩:=h.sep
 exact⟨h.keep,⟨F,S,Sep.append.2 ⟨F,F0,h1,Sep.one.2 (fun _ _ h=>h),fun _ _ _ h=>h,fun b o=>by simp [F0]⟩,rest⟩,h.apart⟩
structure CO (α:Type) [aC α] where
 ex:Type
 cs:α->ex->List SV
 Lx:α->ex->List Ch
 op:∀{w F ec q},aC.own w ec q F->∃y,aR (bE []) (cs q y)=some ec
 pk:∀{q y ec},aR (bE []) (cs q y)=some ec->OP ec q ((Lx q y).map (jA []))
 no:∀q y,noF (Lx q y)=true
 nb:∀q y B,(Lx q y).map (jA B)=(Lx q y).map (jA [])
noncomputable section
variable {P:Program} {T:TT} {hT:C9 P T} {n:Nat} {c:Ctx} {B0:Bl} {N:Act->World->Prop} {X:Nat->Act->World->Prop} {Q:Act->World->Prop} {K K':List Fr} {m m':Nat} {e e':SE} {L L':List Ch} {cf cf1 cf2:rR} {o:Oper} {Lv:List Ch} {d:Nat}
theorem a2A{g:Gx}{ι:Type}(m2:ι->Nat)(e2:ι->SE)(L2:ι->List Ch)(Ln:ι->List Ch)(h:∀B a w,B.length=m->fI g.n B e a->j5 g.c w B L->∃i B',(B++B').length=m2 i/\fI g.n (B++B') (e2 i) a/\j5 g.c w (B++B') (L2 i)/\∀w' M,j5 g.c w' B M->j5 g.c w' (B++B') (M++Ln i))
  (hz:∀i,Frz g cf L (L2 i)) (k:∀i,G g K (m2 i) (e2 i) (L2 i) (cf.ext (Ln i))):G g K m e L cf:=by
 have key:∀a w,Rel g m e L a w->∃i,Rel g (m2 i) (e2 i) (L2 i) a w:=fun a w ⟨B,h1,h2,h3⟩=>by
  obtain⟨i,B',k1,k2,k3,_⟩:=h _ a w h1 h2 h3
  exact⟨i,B++B',by simpa using k1,by simpa using k2,by simpa using k3⟩
 cases cf with
 | n=>exact fun a w hr=>let ⟨i,hi⟩:=key a w hr;k i a w hi
 | c x=>exact fun a w hr=>let ⟨i,hi⟩:=key a w hr;k i a w hi
 | r ops l=>exact fun a w hr=>let ⟨i,hi⟩:=key a w hr;k i a w hi
 | d B1 ops l is Lf Lv =>
  refine fun hD a w ⟨B,h1,h2,h3,h4⟩=>?_
  obtain⟨i,B',k1,k2,k3,k4⟩:=h _ a w h1 h2 h3
  obtain⟨z1,z2⟩:=hz i hD
  exact k i ⟨hD.pre,hD.len,hD.free,z1,z2,hD.okf,hD.ap⟩ a w ⟨B++B',by simpa using k1,by simpa using k2,by simpa using k3,fun w' hw=>by
   have:=k4 w' _ (h4 w' hw)
   simpa using this⟩
 | o B1 ops l is Lf Lv ii =>
  refine fun hD a w ⟨B,h1,h2,h3,h4⟩=>?_
  obtain⟨i,B',k1,k2,k3,k4⟩:=h _ a w h1 h2 h3
  obtain⟨z1,z2⟩:=hz i hD
  exact k i ⟨hD.pre,hD.len,hD.free,z1,z2,hD.okf,hD.ap⟩ a w ⟨B++B',by simpa using k1,by simpa using k2,by simpa using k3,fun w' hw=>by
   have:=k4 w' _ (h4 w' hw)
   simpa using this⟩
abbrev Shp(s:AC)(len:Nat):Prop:=∃b off m,s.v len=.slice (some ⟨b,off,none⟩) len m/\len<=maxLen
abbrev wOf(α:Type)[aC α](nb:Nat)(s:AC)(len i:Nat):Ch:=.w nb (KK (s.v len)) (KD (aC.n α) i (s.v len))
theorem oe{α β:Type}[aC α](E:CO α)(j:Nat){t:TypeId}{s:AC}{i:Int}{ls:List α}{kf:α->Option β}{q:β}(hs:iW T n K cf m e L=.idx o d t s ls.length i Lv cf1 cf2 K' m' e' L')(hj:L'[j]?=some (ow s ls))(hz:eZ j cf1.uR=true)(hF:(idx ls i).bind kf=some q)
  (k:∀x,idx ls i=some x->kf x=some q->∀y:E.ex,Shp s ls.length->G (.mk P T hT n c B0 N X Q) K' (m'+1) e' (L'.set j .no++([.o (oX (s.v ls.length) ls i.toNat),.box m' (E.cs x y),wOf α m' s ls.length i.toNat]++E.Lx x y)) (cf1.ext [wOf α m' s ls.length i.toNat])):G (.mk P T hT n c B0 N X Q) K m e L cf:=by
 refine fV (g:=.mk P T hT n c B0 N X Q) ?_
 rw [hs]
 intro x' y' ho hd hx hy hP
 cases hi:idx ls i with
 | none=>rw [hi] at hF;cases hF
 | some x =>
  rw [hi] at hF
  refine a2A (fun _=>m'+1) (fun _=>e') (fun y:{y:E.ex // Shp s ls.length}=>L'.set j .no++([.o (oX (s.v ls.length) ls i.toNat),.box m' (E.cs x y.1),wOf α m' s ls.length i.toNat]++E.Lx x y.1)) (fun _=>[wOf α m' s ls.length i.toNat]) (fun B a w hm hA hS=>?_) (fun y=>aFL hz) (fun y=>k x hi hF y.1 y.2)
  obtain⟨⟨R,s1,s2⟩,s0⟩:=hS
  have hj2:(L'.map (jA B))[j]?=some (aW [s.v ls.length] ls):=by simp [hj,jA]
  obtain⟨ec,h1⟩:=s1.open j hj2 (jQ hi).2.2
  have hlen:((L'.map (jA B)).set j DZ).length=L'.length:=by simp
  have hsh:Shp s ls.length:=aUU (k:=i.toNat) h1 L'.length (by rw [BI (by omega)];simp)
  obtain⟨F,hF'⟩:=h1.chunk (L'.length+2) (by rw [BI (by omega)];simp;rfl)
  obtain⟨y,hy2⟩:=E.op (show aC.own w ec x F from hF')
  have h2:=h1.unpack (L'.length+2) (by rw [BI (by omega)];simp) (E.pk hy2)
  have hset:((L'.map (jA B)).set j DZ ++ [oX (s.v ls.length) ls i.toNat,OJ (KK (s.v ls.length)) (KD (aC.n α) i.toNat (s.v ls.length)) ec,aW ec x]).set (L'.length+2) DZ=(L'.map (jA B)).set j DZ ++ [oX (s.v ls.length) ls i.toNat,OJ (KK (s.v ls.length)) (KD (aC.n α) i.toNat (s.v ls.length)) ec,DZ]:=by
   rw [List.set_append_right _ _ (by omega)]
   simp
  rw [hset] at h2
  refine⟨⟨y,hsh⟩,[(KK (s.v ls.length),KD (aC.n α) i.toNat (s.v ls.length))],by simp [hm],hA.app _,⟨⟨R,?_,fun z hz=>?_⟩,s0⟩,fun w' M hM=>?_⟩
  ·have e1:(L'.set j Ch.no).map (jA B)=(L'.map (jA B)).set j DZ:=by rw [KE];rfl
   refine h2.imp ?_
   rw [uI,uI,<-e1,qR]
   refine iH.append (QI _ _) (iH.append (.cons (fun _ h=>h) (.cons (fun F h=>⟨_,_,ec,by simp [<-hm],dN (fun x v h=>by simpa using eR (B:=[]) _ h) hy2,h⟩) (.cons (fun _ h=>h) .nil))) ?_)
   have:=QI (B:=[]) (B ++ [(KK (s.v ls.length),KD (aC.n α) i.toNat (s.v ls.length))]) (w:=w) (E.Lx x y)
   simpa using this
  ·rcases eX.1 hz with hz | hz
   ·rcases qY hz with hz | hz
    ·exact aFB _ (s2 z hz)
    ·subst hz;trivial
   ·rcases eX.1 hz with hz | hz
    ·simp at hz
     rcases hz with rfl | rfl | rfl
     ·trivial
     ·trivial
     ·show(B++_)[m']?=_
      simp [<-hm]
    ·exact aFJ (E.no x y) z hz
  ·obtain⟨⟨R',t1,t2⟩,t0⟩:=hM.app [(KK (s.v ls.length),KD (aC.n α) i.toNat (s.v ls.length))]
   refine⟨⟨R',by simpa [jA] using aR4 t1,fun z hz=>?_⟩,t0⟩
   rcases eX.1 hz with hz | hz
   ·exact t2 z hz
   ·simp at hz;subst hz
    show(B++_)[m']?=_
    simp [<-hm]
theorem ie{α:Type}[aC α](p:Nat){t el sz:Nat}{s:AC}{i:Int}{ls:List α}{x:α}{nb:Nat}{b1 b2:Bool}{n1:Nat}{z1 z2:List SV}{k2:TK}(hsh:Shp s ls.length)(hs:iW T n K cf m e L=.idx o d t s ls.length i Lv cf1 cf2 K' m' e' L')(hi:idx ls i=some x)(hw:Lv[p]?=some (wOf α nb s ls.length i.toNat))(ht:yS T t=some ⟨.sl el,b1,n1,z1⟩)(he:yS T el=some ⟨k2,b2,sz,z2⟩)(hn:aC.n α=sz)
  (k:G (.mk P T hT n c B0 N X Q) K' m' ((d,.p nb 0) :: e') L' cf2):G (.mk P T hT n c B0 N X Q) K m e L cf:=by
 refine fV (g:=.mk P T hT n c B0 N X Q) ?_
 rw [hs]
 intro x' y' ho hd hx hy hP
 subst hn
 refine hP d (.p nb 0) [] (fun _=>[]) 0 hd (fun _=>rfl) (fun B a w hA hS hm=>?_) (fun B w L _ hS=>by simpa using hS) (by rw [ext_nil];simpa using k)
 obtain⟨v,g1,g2⟩:=dP hA hx
 obtain⟨u,g3,g4⟩:=dP hA hy
 cases g1;cases g3
 obtain⟨⟨R,s1,s2⟩,s0⟩:=hS
 have hB:B[nb]?=some (KK (s.v ls.length),KD (aC.n α) i.toNat (s.v ls.length)):=s2 _ (rP hw)
 exact⟨_,by simp [dU,gV,bE,hB],aUV (P:=P) (o:=o) (w:=w) hsh rfl hi (D2 ht hT) (hT.size _ _ he) ho g2 g4⟩
def D3:List Ch->List Nat->List Ch
 | L,[]=>L
 | L,i :: r=>D3 (L.set i .no) r
theorem CC{B:Bl}:∀(js:List Nat) (L:List Ch),(D3 L js).map (jA B)=blank (L.map (jA B)) js
 | [],L=>rfl
 | j :: js,L=>by simp only [D3,blank];rw [CC js,KE];rfl
theorem H7{x:Ch}:∀(js:List Nat) (L:List Ch),x∈D3 L js->x∈L\/x=.no
 | [],L,h=>.inl h
 | j :: js, L, h => by
  rcases H7 js _ h with h | h
  ·exact qY h
  ·exact .inr h
theorem L5{g:Gx}{cf:rR}{M:List Ch}:∀(js:List Nat) {L:List Ch},(js.all fun j=>eZ j cf.uR)=true->Frz g cf L (D3 L js++M):=by
 intro js L hj
 have main:∀{B1:Bl} {ops:Array Oper} {l:List Bool} {is:List Nat} {Lf:List Ch},(js.all fun j=>eZ j is)=true->U7 g B1 ops l is Lf L->kl (D3 L js++M) is=Lf/\∀j∈is,j < (D3 L js++M).length:=by
  intro B1 ops l is Lf hj hD
  have key:∀(js:List Nat) (L:List Ch),(js.all fun j=>eZ j is)=true->(∀i∈is,i < L.length)->kl (D3 L js++M) is=kl L is/\(D3 L js).length=L.length:=by
   intro js
   induction js with
   | nil =>
    intro L _ hr
    exact⟨aMY hr,rfl⟩
   | cons j js ih =>
    intro L hj hr
    simp only [ZD,xM] at hj
    obtain⟨h1,h2⟩:=ih (L.set j .no) hj.2 (fun i hi=>by simpa using hr i hi)
    refine⟨h1.trans ?_,by simpa [D3] using h2⟩
    have:=QM (M:=[]) (z:=.no) hr hj.1
    simpa using this
  obtain⟨k1,k2⟩:=key js L hj hD.rng
  exact⟨k1.trans hD.uR,fun i hi=>by have:=hD.rng i hi;simp [k2];omega⟩
 cases cf with
 | d B1 ops l is Lf Lv=>exact fun hD=>main hj hD
 | o B1 ops l is Lf Lv i=>exact fun hD=>main hj hD
 | _=>trivial
def ovh(v:SV)(e:SE):List Nat->SE
 | []=>e
 | k :: ks=>(k,v) :: ovh v e ks
theorem aFM{v:SV}{B:Bl}{a:Act}:∀(ks:List Nat),aR (BV e) ks=some (ks.map fun _=>v)->fI n B e a->fI n B (ovh v e ks) a:=by
 intro ks
 have key:∀(ks:List Nat),aR (BV e) ks=some (ks.map fun _=>v)->∀k∈ks,BV e k=some v:=by
  intro ks
  induction ks with
  | nil=>intro _ k hk;cases hk
  | cons s ks ih =>
   intro hs
   simp only [aR,C7] at hs
   split at hs
   ·cases hs
   ·rename_i h1
    split at hs
    ·cases hs
    ·rename_i h2
     cases hs
     intro k hk
     rcases gI.1 hk with hk | hk
     ·subst hk;exact h1
     ·exact ih h2 k hk
 intro hs hA
 have hk:=key ks hs
 clear hs key
 have lk2:∀k x,BV (ovh v e ks) k=some x->BV e k=some x:=by
  induction ks with
  | nil=>exact fun k x h=>h
  | cons j ks ih =>
   intro k x h
   simp only [ovh,BV] at h
   split at h
   ·rename_i hb
    have:=i5 hb
    subst this
    cases h
    exact hk k (by simp)
   ·exact ih (fun k hk'=>hk k (mL _ hk')) k x h
 exact⟨hA.d,hA.size,fun k x h=>hA.get k x (lk2 k x h)⟩
theorem H8{B:Bl}:∀{is:List Nat} {M:List Ch},aR (fun i=>L[i]?) is=some M->pick (L.map (jA B)) is=M.map (jA B)
 | [],M,h=>by cases h;rfl
 | i :: is, M, h => by
  simp only [aR] at h
  split at h
  ·cases h
  ·rename_i h1
   split at h
   ·cases h
   ·rename_i h2
    cases h
    simp only [pick,BJ,h1,HY,Option.getD_some,H8 h2,C7]
theorem aR5{α:Type}[aC α](E:CO α)(h b v:Nat)(is ks:List Nat){s:AC}{l:List α}{k nb:Nat}(x:α)(y:E.ex){cs0:List SV}{ec:List Value}(hs:L[h]?=some (.o (oX (s.v l.length) l k)))(hb:L[b]?=some (.box nb cs0))(hv:L[v]?=some (wOf α nb s l.length k))(hi:aR (fun i=>L[i]?) is=some (E.Lx x y))(hc:nbL cs0=E.cs x y)(hec:aR (bE []) (E.cs x y)=some ec)(ha:cJ (h :: b :: is)=true)(hk:aR (BV e) ks=some (ks.map fun _=>.h s l.length)){B:Bl}{a:Act}{w:World}(hA:fI n B e a)(hS:j5 c w B L) :
  fI n B (ovh (.h s (l.set k x).length) e ks) a/\j5 c w B (D3 L (h :: b :: is) ++ [ow s (l.set k x)]):=by
 have hlen:(l.set k x).length=l.length:=b9
 unfold ow
 rw [hlen]
 refine⟨aFM ks hk hA,?_⟩
 obtain⟨⟨R,s1,s2⟩,s0⟩:=hS
 have hB:B[nb]?=some (KK (s.v l.length),KD (aC.n α) k (s.v l.length)):=s2 _ (rP hv)
 refine⟨⟨R,?_,fun z hz=>?_⟩,s0⟩
 ·rw [uI,CC]
  refine s1.shift (h :: b :: is) ha fun F hF=>?_
  simp only [pick,BJ,hs,hb,HY,Option.getD_some,H8 hi,E.nb] at hF
  have hE:aR (bE B) cs0=some ec:=by rw [<-QJ,hc];exact dN (fun x v h=>by simpa using eR (B:=[]) B h) hec
  have h2:Sep w ([oX (s.v l.length) l k,OJ (KK (s.v l.length)) (KD (aC.n α) k (s.v l.length)) ec]++(E.Lx x y).map (jA [])) F:=by
   refine Sep.imp (.cons (fun _ h=>h) (.cons (fun F h=>?_) (iH.refl _))) hF
   obtain⟨bb,z,vs,k1,k2,k3⟩:=h
   rw [hB] at k1;cases k1
   rw [hE] at k2;cases k2
   exact k3
  obtain⟨F1,F2,g1,g2,gd,gF⟩:=Sep.append.1 h2
  have h3:Sep w ([oX (s.v l.length) l k,OJ (KK (s.v l.length)) (KD (aC.n α) k (s.v l.length)) ec] ++ [aW ec x]) F:=Sep.append.2 ⟨F1,F2,g1,Sep.one.2 ((E.pk hec w F2).2 g2),gd,gF⟩
  exact Sep.one.2 (aOC h3)
 ·rcases eX.1 hz with hz | hz
  ·rcases H7 _ _ hz with hz | hz
   ·exact s2 z hz
   ·subst hz;trivial
  ·simp at hz;subst hz;trivial
theorem ce{α:Type}[aC α](E:CO α)(h b v:Nat)(is ks:List Nat){s:AC}{l:List α}{k nb:Nat}(x:α)(y:E.ex){cs0:List SV}{ec:List Value}(hs:L[h]?=some (.o (oX (s.v l.length) l k)))(hb:L[b]?=some (.box nb cs0))(hv:L[v]?=some (wOf α nb s l.length k))(hi:aR (fun i=>L[i]?) is=some (E.Lx x y))(hc:nbL cs0=E.cs x y)(hec:aR (bE []) (E.cs x y)=some ec)(ha:cJ (h :: b :: is)=true)(hz:((h :: b :: is).all fun j=>eZ j cf.uR)=true)(hk:aR (BV e) ks=some (ks.map fun _=>.h s l.length))
  (kk:G (.mk P T hT n c B0 N X Q) K m (ovh (.h s (l.set k x).length) e ks) (D3 L (h :: b :: is) ++ [ow s (l.set k x)]) cf):G (.mk P T hT n c B0 N X Q) K m e L cf:=by
 refine chg (fun _:Unit=>m) (fun _=>ovh (.h s (l.set k x).length) e ks) (fun _=>D3 L (h :: b :: is) ++ [ow s (l.set k x)]) (fun B a w hm hA hS=>?_) (fun _=>L5 _ hz) (fun _=>kk)
 obtain⟨h1,h2⟩:=aR5 E h b v is ks x y hs hb hv hi hc hec ha hk hA hS
 exact⟨(),[],by simpa using hm,by simpa using h1,by simpa using h2⟩
end
end Go.Gv
end
noncomputable section
namespace Go.Gv
noncomputable section
variable {P:Program} {T:TT} {hT:C9 P T} {n:Nat} {c:Ctx} {B0:Bl} {N:Act->World->Prop} {X:Nat->Act->World->Prop} {Q:Act->World->Prop} {K K':List Fr} {m m':Nat} {e e':SE} {L L':List Ch} {cf cf':rR}
theorem ceS{α:Type}[aC α](E:CO α)(h:Nat)(is ks:List Nat){s:AC}{l:List α}{k nb:Nat}(x:α)(y:E.ex){cs0:List SV}{ec:List Value}(h0:QY (iW T n K cf m e L)=some (K',cf',m',e',L'))(hs:L'[h]?=some (.o (oX (s.v l.length) l k)))(hb:L'[h+1]?=some (.box nb cs0))(hv:L'[h+2]?=some (wOf α nb s l.length k))(hi:aR (fun i=>L'[i]?) is=some (E.Lx x y))(hc:nbL cs0=E.cs x y)(hec:aR (bE []) (E.cs x y)=some ec)(ha:cJ (h :: (h+1) :: is)=true)(hz:((h :: (h+1) :: is).all fun j=>eZ j cf'.uR)=true)(hk:aR (BV e') ks=some (ks.map fun _=>.h s l.length))
  (kk:G (.mk P T hT n c B0 N X Q) K' m' (ovh (.h s (l.set k x).length) e' ks) (D3 L' (h :: (h+1) :: is) ++ [ow s (l.set k x)]) cf'):G (.mk P T hT n c B0 N X Q) K m e L cf:=
 fV (g:=.mk P T hT n c B0 N X Q) (YZ h0 (ce E h (h+1) (h+2) is ks x y hs hb hv hi hc hec ha hz hk kk))
theorem sF(hs:iW T n K cf m e L=.fin m' e' L')(h:∀a w,mO n c B0 m' e' L' a w->N a w):G (.mk P T hT n c B0 N X Q) K m e L cf:=
 fV (g:=.mk P T hT n c B0 N X Q) (by rw [hs];exact h)
theorem sX{id:Nat}(hs:iW T n K cf m e L=.ex id m' e' L')(h:∀a w,mO n c B0 m' e' L' a w->X id a w):G (.mk P T hT n c B0 N X Q) K m e L cf:=
 fV (g:=.mk P T hT n c B0 N X Q) (by rw [hs];exact h)
theorem sR(hs:iW T n K cf m e L=.ret m' e' L')(h:∀a w,mO n c B0 m' e' L' a w->Q a w):G (.mk P T hT n c B0 N X Q) K m e L cf:=
 fV (g:=.mk P T hT n c B0 N X Q) (by rw [hs];exact h)
theorem nxR{σ ρ υ:Type}{o:Step σ ρ}{mj:Nat}{el:σ->υ->SE}{Ll:σ->υ->List Ch}{s:σ}(u:υ)(is:List Nat)(hG:some (Step.next s)=some o)(h:QH B0.length m' e' L' is mj (el s u) (Ll s u)=some (el s u,Ll s u)):∀a w,mO n c B0 m' e' L' a w->NxP n c B0 o mj el Ll a w:=by
 cases hG
 exact fun a w hr=>⟨s,u,rfl,hr.QH is h⟩
theorem jY{π υ:Type}{eq:π->Prop}{mj:Nat}{ej:π->υ->SE}{Lj:π->υ->List Ch}{p:π}(u:υ)(is:List Nat)(hF:eq p)(h:QH B0.length m' e' L' is mj (ej p u) (Lj p u)=some (ej p u,Lj p u)):∀a w,mO n c B0 m' e' L' a w->JP n c B0 eq mj ej Lj a w:=
 fun a w hr=>⟨p,u,hF,mO.QH hr is h⟩
theorem bkR{σ ρ β υ:Type}{o:Step σ ρ}{ro:ρ}{enc:β->ρ}{mj id:Nat}{ej:β->υ->SE}{Lj:β->υ->List Ch}{b:β}(u:υ)(is:List Nat)(hG:some (Step.stop (enc b))=some o)(hr:∀p,o=.stop p->p=ro)(h:QH B0.length m' e' L' is mj (ej b u) (Lj b u)=some (ej b u,Lj b u)):∀a w,mO n c B0 m' e' L' a w->BkP n c B0 ro enc mj ej Lj id X id a w:=by
 cases hG
 have:=hr _ rfl
 subst this
 intro a w hr
 unfold BkP
 rw [if_pos rfl]
 exact⟨b,u,rfl,hr.QH is h⟩
include hT in
theorem oW{fn:Func}{ρ ex:Type}{sv:ρ->ex->SV}{Lf:ρ->ex->List Ch}{r r':ρ}{rs:List ResultVar}{zz:Option ρ}(y:ex)(is:List Nat)(hF:zz=some r)(hz:zz=some r')(hr:fn.results=rs.toArray){x:SV}(hv:aFA T e' L' rs=some x)(hx:nbS x=sv r' y)(hk:tF B0.length (sv r' y)=true)(hL:QH B0.length m' e' L' is B0.length [] (Lf r' y)=some ([],Lf r' y)):∀a w,mO n c B0 m' e' L' a w->QS P fn c B0 sv Lf r a w:=by
 subst hz;cases hF
 intro a w hr'
 obtain⟨B,hm,hA,hS⟩:=id hr'
 obtain⟨v,h1,h2⟩:=Y1 hr hT hA hS hv
 obtain⟨B',hm',_,hS'⟩:=hr'.QH is hL
 have hB':B'=[]:=(by simpa using hm')
 subst hB'
 refine⟨hA.d,v,h2,y,?_,by simpa using hS'⟩
 rw [<-hx] at hk ⊢
 have:=L4 hk (by rw [YV];exact h1)
 rw [WI (iC _),OR] at this
 exact this
theorem lJ{Z:Act->World->Prop}{α:Type}[aC α](E:CO α)(h:Nat)(is ks:List Nat){s:AC}{l:List α}{k nb:Nat}(x:α)(y:E.ex){cs0:List SV}{ec:List Value}(hs:L[h]?=some (.o (oX (s.v l.length) l k)))(hb:L[h+1]?=some (.box nb cs0))(hv:L[h+2]?=some (wOf α nb s l.length k))(hi:aR (fun i=>L[i]?) is=some (E.Lx x y))(hc:nbL cs0=E.cs x y)(hec:aR (bE []) (E.cs x y)=some ec)(ha:cJ (h :: (h+1) :: is)=true)(hk:aR (BV e) ks=some (ks.map fun _=>.h s l.length))
  (kk:∀a w,mO n c B0 m (ovh (.h s (l.set k x).length) e ks) (D3 L (h :: (h+1) :: is) ++ [ow s (l.set k x)]) a w->Z a w):∀a w,mO n c B0 m e L a w->Z a w:=by
 intro a w ⟨B,hm,hA,hS⟩
 obtain⟨h1,h2⟩:=aR5 E h (h+1) (h+2) is ks x y hs hb hv hi hc hec ha hk hA hS
 exact kk a w ⟨B,hm,h1,h2⟩
end
def wAt(n:Nat):List Ch->Option (Nat×Nat)
 | []=>none
 | .w k b z :: L => match Nat.beq n k with
  | true=>some (b,z)
  | false=>wAt n L
 | _ :: L=>wAt n L
theorem L6{n b z:Nat}:∀{L:List Ch},wAt n L=some (b,z)->Ch.w n b z∈L
 | [],h=>by cases h
 | x :: L, h => by
  cases x with
  | w k b' z' =>
   simp only [wAt] at h
   split at h
   ·rename_i hb
    have:=i5 hb
    subst this
    cases h;simp
   ·exact mL _ (L6 h)
  | box k cs=>exact mL _ (L6 (L:=L) h)
  | ro k cs=>exact mL _ (L6 (L:=L) h)
  | o ch=>exact mL _ (L6 (L:=L) h)
  | f g=>exact mL _ (L6 (L:=L) h)
  | no=>exact mL _ (L6 (L:=L) h)
noncomputable section
variable {P:Program} {T:TT} {hT:C9 P T} {n:Nat} {c:Ctx} {B0:Bl} {N:Act->World->Prop} {X:Nat->Act->World->Prop} {Q:Act->World->Prop} {K K':List Fr} {m m':Nat} {e e':SE} {L L' Lv:List Ch} {cf cf1 cf2:rR} {o:Oper} {d:Nat}
theorem kC{α:Type}[aC α](nb:Nat){t el sz:Nat}{s:AC}{i:Int}{ls:List α}{x:α}{b1 b2:Bool}{n1:Nat}{z1 z2:List SV}{k2:TK}(hsh:Shp s ls.length)(hi:idx ls i=some x)(hs:iW T n K cf m e L=.idx o d t s ls.length i Lv cf1 cf2 K' m' e' L')(hw:wAt nb Lv=some (KK (s.v ls.length),KD (aC.n α) i.toNat (s.v ls.length)))(ht:yS T t=some ⟨.sl el,b1,n1,z1⟩)(he:yS T el=some ⟨k2,b2,sz,z2⟩)(hn:aC.n α=sz)
  (k:G (.mk P T hT n c B0 N X Q) K' m' ((d,.p nb 0) :: e') L' cf2):G (.mk P T hT n c B0 N X Q) K m e L cf:=by
 obtain⟨p,hp⟩:=List.mem_iff_getElem?.1 (L6 hw)
 exact ie p hsh hs hi hp ht he hn k
end
def CB.o{α:Type}[aC α](C:CB α)(Lx:α->C.ex->List Ch)(pk:∀{q y ec},aR (bE []) (C.cs q y)=some ec->OP ec q ((Lx q y).map (jA [])))(no:∀q y,noF (Lx q y)=true)(nb:∀q y B,(Lx q y).map (jA B)=(Lx q y).map (jA [])):CO α:=
 ⟨C.ex,C.cs,Lx,fun h=>let ⟨y,h1,_⟩:=C.ok (aC.own_rd h);⟨y,h1⟩,pk,no,nb⟩
def oI:CO Int:=cI.o (fun _ _=>[]) (fun h=>by cases h;exact dE rfl) (fun _ _=>rfl) (fun _ _ _=>rfl)
def oU:CO UInt8:=cU.o (fun _ _=>[]) (fun h=>by cases h;exact dE rfl) (fun _ _=>rfl) (fun _ _ _=>rfl)
theorem BE{α:Type}[aC α][Flat α]{cs:List Value}{d:α}(h:aC.rd F0 default cs d)(w:World):aC.own w cs d F0:=Flat.own_of h
end Go.Gv
end
noncomputable section
namespace Go.Gv
noncomputable section
variable {P:Program} {T:TT} {hT:C9 P T} {n:Nat} {c:Ctx} {B0:Bl} {N:Act->World->Prop} {X:Nat->Act->World->Prop} {Q:Act->World->Prop} {K K':List Fr} {m m':Nat} {e e':SE} {L L' Lv:List Ch} {cf cf1 cf2:rR} {o:Oper} {d:Nat}
theorem aKE{α:Type}[aC α]{l:List α}(L2:AC->List Ch)(hs:iW T n K cf m e L=.op o Lv cf1 cf2 K' m' e' L')(hd:o.dst=some d)(hz:∀s',Frz (.mk P T hT n c B0 N X Q) cf1 L' (L2 s'))(h:∀B a w,fI n B e' a->j5 c w B L'->∃s' w',dF P o (vE B e') w (AC.v s' l.length) w'/\j5 c w' B (L2 s'))
  (k:∀s':AC,G (.mk P T hT n c B0 N X Q) K' m' ((d,.h s' l.length) :: e') (L2 s') cf2):G (.mk P T hT n c B0 N X Q) K m e L cf:=by
 refine fV (g:=.mk P T hT n c B0 N X Q) ?_
 rw [hs]
 intro hdn _ hE
 refine hE AC (fun _=>m') (fun s'=>(d,.h s' l.length) :: e') L2 hz (fun B a w next Q' hm hA hS hnext=>?_) k
 obtain⟨s',w',k1,k2⟩:=h _ a w hA hS
 unfold Oper.wp
 rw [k1 _ a hA.env,Oper.upon_value,hd]
 exact hnext s' _ _ ⟨[],by simpa using hm,by simpa using hA.of (by simp [dU,gV,bE]) (hA.env.put (by rw [hd] at hdn;simpa [nS,l6] using hdn) _),by simpa using k2⟩
theorem VA{α:Type}[aC α]{w:World}{A:List Chunk}{R:List Fact}{v:Value}{l:List α}(h:St c w A R)(i:Nat)(hi:A[i]?=some (aW [v] l)):∃s':AC,v=s'.v l.length:=by
 obtain⟨ad,cp,h2,_⟩:=ZV (h.aL2 i hi)
 exact⟨⟨ad,cp⟩,h2⟩
noncomputable section
variable {x y:Operand} {t el sz:Nat} {zv:Value} {b1:Bool} {n1:Nat} {z1:List SV}
theorem lt0{α:Type}[aC α](hinf:OK P el sz zv)(hs:iW T n K cf m e L=.op o Lv cf1 cf2 K' m' e' L')(ho:(o.op,o.dst)=(.buildSlice t 0 #[],some d))(ht:yS T t=some ⟨.sl el,b1,n1,z1⟩)(hn:aC.n α=sz)
  (k:∀s':AC,G (.mk P T hT n c B0 N X Q) K' m' ((d,.h s' ([]:List α).length) :: e') (L' ++ [ow s' ([]:List α)]) cf2):G (.mk P T hT n c B0 N X Q) K m e L cf:=by
 refine aKE (l:=([]:List α)) (fun s'=>L' ++ [ow s' ([]:List α)]) hs (congrArg Prod.snd ho) (fun _=>tG _) (fun B a w hA hS=>?_) k
 obtain⟨⟨R,s1,s2⟩,s0⟩:=hS
 obtain⟨v,w',k1,k2⟩:=aUY (α:=α) (e:=vE B e') (o:=o) s1 hn (D2 ht hT) hinf (congrArg Prod.fst ho)
 obtain⟨s',rfl⟩:=VA (v:=v) (l:=([]:List α)) k2 (L'.map (jA B)).length (by simp)
 refine⟨s',w',k1,⟨⟨R,by simpa [jA] using k2,fun z hz=>?_⟩,s0⟩⟩
 rcases eX.1 hz with hz | hz
 ·exact s2 z hz
 ·simp at hz;subst hz;trivial
theorem KV{g:Gx}{cf:rR}{L:List Ch}{j:Nat}{z:Ch}(hn:eZ j cf.uR=true):Frz g cf L (L.set j z):=by
 have:=aFL (g:=g) (M:=[]) (z:=z) (L:=L) hn
 simpa using this
theorem ap{α β:Type}[aC α][Flat α]{A:Option β}{q:β}{s s2:AC}{l xs:List α}(i:Nat)(hinf:OK P el sz zv)(hs:iW T n K cf m e L=.op o Lv cf1 cf2 K' m' e' L')(ho:(o.op,o.dst)=(.call {callee:=.builtin .append,args:=#[x,y],argTypes:=#[t,t]},some d))(ht:yS T t=some ⟨.sl el,b1,n1,z1⟩)(hn:aC.n α=sz)(hzs:zv.cells.size=sz)(hi:L'[i]?=some (ow s l))(hz:eZ i cf1.uR=true)(hsrc:∀{w},HS c w L'->cZ (bT w) s2 xs)(hx:g9 e' x=some (.h s l.length))(hy:g9 e' y=some (.h s2 xs.length))(hF:need (l.length+xs.length<=1073741824) A=some q)
  (k:A=some q->∀s':AC,G (.mk P T hT n c B0 N X Q) K' m' ((d,.h s' (l++xs).length) :: e') (L'.set i (ow s' (l++xs))) cf2):G (.mk P T hT n c B0 N X Q) K m e L cf:=by
 refine aKE (l:=l++xs) (fun s'=>L'.set i (ow s' (l++xs))) hs (congrArg Prod.snd ho) (fun _=>KV hz) (fun B a w hA hS=>?_) (k (iG hF).2)
 have hr:cZ (bT w) s2 xs:=hsrc ⟨_,hS⟩
 obtain⟨⟨R,s1,s2'⟩,s0⟩:=hS
 have hj2:(L'.map (jA B))[i]?=some (aW [s.v l.length] l):=by simp [hi,jA]
 obtain⟨v,w',k1,k2⟩:=aDU i s1 hj2 hr hn (D2 ht hT) hinf hzs (iG hF).1 (congrArg Prod.fst ho) (Z7 hA hx) (Z7 hA hy)
 have hlt:i < L'.length:=(g7.1 hi).1
 obtain⟨s',rfl⟩:=VA k2 i (by rw [WG (by simpa using hlt)])
 refine⟨s',w',k1,⟨⟨R,?_,fun z hz=>?_⟩,s0⟩⟩
 ·rw [KE];exact k2
 ·rcases qY hz with hz | hz
  ·exact s2' z hz
  ·subst hz;trivial
end
end
end Go.Gv
end
noncomputable section
namespace Go.Gv
theorem aHP{α:Type}{l:List α}{i:Int}{x:α}(h:idx l i=some x):l.set i.toNat x=l:=by
 obtain⟨hk,h2⟩:=g7.1 (jQ h).2.2
 rw [<-h2];simp
noncomputable section
variable {P:Program} {T:TT} {hT:C9 P T} {n:Nat} {c:Ctx} {B0:Bl} {N:Act->World->Prop} {X:Nat->Act->World->Prop} {Q:Act->World->Prop} {K K':List Fr} {m m':Nat} {e e':SE} {L L' Lv:List Ch} {cf cf' cf1 cf2:rR} {o:Oper} {d:Nat}
theorem D4{α:Type}[aC α](E:CO α)(h:Nat)(is:List Nat){s:AC}{l:List α}{i:Int}{nb:Nat}{x:α}(hx:idx l i=some x)(y:E.ex){cs0:List SV}{ec:List Value}(h0:QY (iW T n K cf m e L)=some (K',cf',m',e',L'))(hs:L'[h]?=some (.o (oX (s.v l.length) l i.toNat)))(hb:L'[h+1]?=some (.box nb cs0))(hv:L'[h+2]?=some (wOf α nb s l.length i.toNat))(hi:aR (fun i=>L'[i]?) is=some (E.Lx x y))(hc:nbL cs0=E.cs x y)(hec:aR (bE []) (E.cs x y)=some ec)(ha:cJ (h :: (h+1) :: is)=true)(hz:((h :: (h+1) :: is).all fun j=>eZ j cf'.uR)=true)
  (kk:G (.mk P T hT n c B0 N X Q) K' m' e' (D3 L' (h :: (h+1) :: is) ++ [ow s l]) cf'):G (.mk P T hT n c B0 N X Q) K m e L cf:=
 ceS E h is [] x y h0 hs hb hv hi hc hec ha hz rfl (by rw [aHP hx];exact kk)
theorem iB{Z:Act->World->Prop}{α:Type}[aC α](E:CO α)(h:Nat)(is:List Nat){s:AC}{l:List α}{i:Int}{nb:Nat}{x:α}(hx:idx l i=some x)(y:E.ex){cs0:List SV}{ec:List Value}(hs:L[h]?=some (.o (oX (s.v l.length) l i.toNat)))(hb:L[h+1]?=some (.box nb cs0))(hv:L[h+2]?=some (wOf α nb s l.length i.toNat))(hi:aR (fun i=>L[i]?) is=some (E.Lx x y))(hc:nbL cs0=E.cs x y)(hec:aR (bE []) (E.cs x y)=some ec)(ha:cJ (h :: (h+1) :: is)=true)
  (kk:∀a w,mO n c B0 m e (D3 L (h :: (h+1) :: is) ++ [ow s l]) a w->Z a w):∀a w,mO n c B0 m e L a w->Z a w:=
 lJ E h is [] x y hs hb hv hi hc hec ha rfl (by rw [aHP hx];exact kk)
noncomputable section
variable {x:Operand} {t el:Nat} {zv:Value} {b1:Bool} {n1:Nat} {z1:List SV}
theorem lt1{k:IntKind}{i:Int}(hk:k=.i64)(hinf:OK P el 1 zv)(hs:iW T n K cf m e L=.op o Lv cf1 cf2 K' m' e' L')(ho:(o.op,o.dst)=(.buildSlice t 1 #[(0,x)],some d))(ht:yS T t=some ⟨.sl el,b1,n1,z1⟩)(hx:(g9 e' x).bind qS=some (k,i))
  (kk:∀s':AC,G (.mk P T hT n c B0 N X Q) K' m' ((d,.h s' [i].length) :: e') (L' ++ [ow s' [i]]) cf2):G (.mk P T hT n c B0 N X Q) K m e L cf:=by
 subst hk
 refine aKE (l:=[i]) (fun s'=>L' ++ [ow s' [i]]) hs (congrArg Prod.snd ho) (fun _=>tG _) (fun B a w hA hS=>?_) kk
 obtain⟨⟨R,s1,s2⟩,s0⟩:=hS
 obtain⟨v,w',k1,k2⟩:=aUZ (α:=Int) (e:=vE B e') (o:=o) i s1 rfl (D2 ht hT) hinf (c0:=.int .i64 i) rfl (congrArg Prod.fst ho) (vH hA hx) rfl
 obtain⟨s',rfl⟩:=VA (v:=v) (l:=[i]) k2 (L'.map (jA B)).length (by simp)
 refine⟨s',w',k1,⟨⟨R,by simpa [jA] using k2,fun z hz=>?_⟩,s0⟩⟩
 rcases eX.1 hz with hz | hz
 ·exact s2 z hz
 ·simp at hz;subst hz;trivial
end
end
end Go.Gv
end
noncomputable section
namespace Go.Gv
theorem cZ.sub{c:Ctx}{α:Type}[aC α]{s s':AC}{l:List α}{a b:Nat}(h:cZ c s l)(hp:gE (aC.n α) a b (s.v l.length)=s'.v ((l.take b).drop a).length)(hb:a<=b/\b<=l.length):cZ c s' ((l.take b).drop a):=by
 have:=aJZ (n:=aC.n α) rfl h hb.1 hb.2
 rw [hp] at this
 exact this
end Go.Gv
end
noncomputable section
namespace Go.Gv
theorem Sep.perm{w:World}{A B:List Chunk}(h:A.Perm B):∀{F:bW},Sep w A F->Sep w B F:=by
 induction h with
 | nil=>exact fun h=>h
 | cons a _ ih=>exact fun⟨F1,F2,h1,h2,hd,hF⟩=>⟨F1,F2,h1,ih h2,hd,hF⟩
 | swap a b L =>
  intro F h
  have h:Sep w (([b] ++ [a])++L) F:=h
  obtain⟨F1,F2,h1,h2,hd,hF⟩:=Sep.append.1 h
  exact(Sep.append (A:=[a] ++ [b])).2 ⟨F1,F2,h1.swap,h2,hd,hF⟩
 | trans _ _ i1 i2=>exact fun h=>i2 (i1 h)
theorem St.via{c:Ctx}{w:World}{A B:List Chunk}{R:List Fact}(h:St c w A R)(hs:∀F,Sep w A F->Sep w B F):St c w B R:=by
 obtain⟨F,S,hsep,rest⟩:=h.sep
 exact⟨h.keep,⟨F,S,hs F hsep,rest⟩,h.apart⟩
structure PV where
 b:Nat
 z:Nat
 A:List Value
 V:List Value
 C:List Value
def PV.whole(p:PV):Chunk:=OJ p.b p.z (p.A++(p.V++p.C))
def PV.mid(p:PV):Chunk:=OJ p.b (p.z+p.A.length) p.V
def PV.rest(p:PV):List Chunk:=[OJ p.b p.z p.A,OJ p.b (p.z+p.A.length+p.V.length) p.C]
theorem aW5{α:Type}{a v c:α}{M R:List α}:(a :: v :: c :: (M++R)).Perm (v :: (M++(a :: c :: R))):=by
 refine(List.Perm.swap v a _).trans (List.Perm.cons v ?_)
 exact((List.perm_middle (a:=c)).symm.cons a).trans (List.perm_middle (a:=a)).symm
theorem a0K{w:World}:∀{ps:List PV} {F:bW},Sep w (ps.map PV.whole) F->Sep w (ps.map PV.mid++ps.flatMap PV.rest) F
 | [],F,h=>h
 | p :: ps, F, h => by
  obtain⟨F1,F2,h1,h2,hd,hF⟩:=h
  exact Sep.perm aW5 (Sep.append.2 ⟨F1,F2,aOD h1,a0K h2,hd,hF⟩)
theorem a0L{w:World}:∀{ps:List PV} {F:bW},Sep w (ps.map PV.mid++ps.flatMap PV.rest) F->Sep w (ps.map PV.whole) F
 | [],F,h=>h
 | p :: ps, F, h => by
  have h2:Sep w ([OJ p.b p.z p.A,p.mid,OJ p.b (p.z+p.A.length+p.V.length) p.C]++(ps.map PV.mid++ps.flatMap PV.rest)) F:=Sep.perm (aW5 (M:=ps.map PV.mid) (R:=ps.flatMap PV.rest)).symm h
  obtain⟨F1,F2,h1,h3,hd,hF⟩:=Sep.append.1 h2
  exact⟨F1,F2,aQO h1,a0L h3,hd,hF⟩
theorem St.aW6{c:Ctx}{w:World}{A M:List Chunk}{R:List Fact}(h:St c w (A++M) R)(s0:∀b o,c.S0 b o->b < c.w0.heap.size) :
  ∃κ:Ctx,κ.w0=w/\(∀b o,κ.S0 b o->b < w.heap.size)/\St κ w A []/\(∀f:Fact,f.P c.S0 c.w0->f.P κ.S0 w)/\(∀f∈R,f.P κ.S0 w) /\
   (∀ch∈M,∀f:Fact,(∀w F,ch.P w F->f.P F w)->f.P κ.S0 w)/\∀w' A' R',St κ w' A' R'->St c w' (A'++M) R:=by
 obtain⟨F,S,hsep,hFS,hFW,hSS,hSlt,hR⟩:=h.sep
 obtain⟨F1,F2,h1,h2,hd,hF⟩:=Sep.append.1 hsep
 have hk0:c.w0.heap.size<=w.heap.size:=h.keep.size
 have h1S0:∀b o,F1 b o->c.S0 b o->False:=fun b o p q=>by
  rcases hFW b o ((hF b o).2 (.inl p)) with hw | hw
  ·exact h.apart b o hw q
  ·have:=s0 b o q;omega
 have hlt:∀b o,(S b o\/F2 b o)\/c.S0 b o->b < w.heap.size:=by
  rintro b o ((q | q) | q)
  ·exact hSlt b o q
  ·exact Sep.lt h2 q
  ·have:=s0 b o q;omega
 have hap:∀b o,F1 b o->((S b o\/F2 b o)\/c.S0 b o)->False:=by
  rintro b o p ((q | q) | q)
  ·exact hFS b o ((hF b o).2 (.inl p)) q
  ·exact hd b o p q
  ·exact h1S0 b o p q
 refine⟨⟨w,F1,fun b o=>(S b o\/F2 b o)\/c.S0 b o⟩,rfl,hlt,⟨dC.refl _ _,⟨F1,fun b o=>(S b o\/F2 b o)\/c.S0 b o,h1,hap,fun _ _ h=>.inl h,fun _ _ h=>.inl h,hlt,by simp⟩,hap⟩,fun f hf=>?_,fun f hf=>f.mono (hR f hf) fun b o q=>.inl (.inl q),fun ch hch f hf=>?_,?_⟩
 ·exact f.mono (f.agree hf fun b o q=>h.keep.cell b o (s0 b o q) fun hw=>h.apart b o hw q) fun b o q=>.inr q
 ·obtain⟨j,hj⟩:=ZG hch
  obtain⟨G1,G2,g1,_,_,gF⟩:=(Sep.take hj).1 h2
  exact f.mono (hf w G1 g1) fun b o q=>.inl (.inr ((gF b o).2 (.inl q)))
 ·intro w' A' R' k
  obtain⟨F',S',b1,b2,b3,b4,b5,b6⟩:=k.sep
  have hk:dC F1 w w':=k.keep
  have hGW:∀b o,b < c.w0.heap.size->F1 b o->c.W b o:=fun b o hb g=>by
   rcases hFW b o ((hF b o).2 (.inl g)) with h | h
   ·exact h
   ·omega
  refine⟨h.keep.trans hk hGW,⟨fun b o=>F' b o\/F2 b o,S,Sep.append.2 ⟨F',F2,b1,Sep.keep hk h2 fun b o hf g=>hd b o g hf,?_,fun _ _=>Iff.rfl⟩,?_,?_,hSS,fun b o hS=>KG (hSlt b o hS) hk.size,?_⟩,h.apart⟩
  ·intro b o hg hf
   rcases b3 b o hg with h | h
   ·exact hd b o h hf
   ·have h:w.heap.size<=b:=h
    have:=Sep.lt h2 hf;omega
  ·rintro b o (hf | hf) hS
   ·rcases b3 b o hf with h | h
    ·exact hFS b o ((hF b o).2 (.inl h)) hS
    ·have h:w.heap.size<=b:=h
     have:=hSlt b o hS;omega
   ·exact hFS b o ((hF b o).2 (.inr hf)) hS
  ·rintro b o (hf | hf)
   ·rcases b3 b o hf with h' | h'
    ·exact hFW b o ((hF b o).2 (.inl h'))
    ·exact .inr (qZ h.keep.size h')
   ·exact hFW b o ((hF b o).2 (.inr hf))
  ·intro f hf
   exact f.agree (hR f hf) fun b o hS=>hk.cell b o (hSlt b o hS) fun g=>hFS b o ((hF b o).2 (.inl g)) hS
abbrev PS:=List (Nat×Nat×Nat×Nat)
def aFN:Nat->List (List SV)->List Ch
 | _,[]=>[]
 | k,c :: r=>.box k c :: aFN (k+1) r
def H9(L:List Ch)(i n:Nat):List SV:=match L[i]? with
 | some (.box k cs) => match Nat.beq n k with
  | true=>cs
  | false=>[]
 | _=>[]
def Z8(L:List Ch):PS->Option (List (List SV))
 | []=>some []
 | (i, n, o, k) :: r => match Nat.ble (o + k) (H9 L i n).length, Nat.ble 1 k, frc (((H9 L i n).drop o).take k), Z8 L r with
  | true,true,some d,some ds=>some (d :: ds)
  | _,_,_,_=>none
def HL(L M:List Ch):PS->List (List SV)->List Ch
 | (i,n,o,_) :: r,c :: cs=>HL L (M.set i (.box n (ZY (H9 L i n) o c))) r cs
 | _,_=>M
def BF:PS->List Nat
 | []=>[]
 | p :: r=>p.1 :: BF r
def rnP:PS->Nat->SV->Option SV
 | [], _, x => match tF 0 x with
  | true=>some x
  | false=>none
 | (_, n, o, _) :: r, j, x => match x with
  | .p n' o' => match Nat.beq n n', Nat.beq o o' with
   | true,true=>some (.p j 0)
   | _,_=>rnP r (j+1) (.p n' o')
  | x=>rnP r (j+1) x
structure HG (c κ:Ctx) (L:List Ch) (js:List Nat):Prop where
 a:∀{α:Type} [aC α] {s:AC} {d:List α},cZ c s d->cZ κ s d
 o:∀{α:Type} [aC α] {s:AC} {d:List α} (i:Nat),L[i]?=some (ow s d)->eZ i js=true->cZ κ s d
 f:∀{α:Type} [aC α] {s:AC} {d:List α} (i:Nat),L[i]?=some (fr s d)->cZ κ s d
def PvR(B:Bl)(L:List Ch):PS->List (List SV)->List PV->Prop
 | [],[],[]=>True
 | (i,n,o,k) :: r,d :: ds,p :: ps=>(∃cs vs,L[i]?=some (.box n cs)/\B[n]?=some (p.b,p.z)/\aR (bE B) cs=some vs/\o+k<=cs.length/\p.A=vs.take o/\p.V=(vs.drop o).take k/\p.C=vs.drop (o+k)/\d=(cs.drop o).take k)/\PvR B L r ds ps
 | _,_,_=>False
def blP(pv:List PV):Bl:=pv.map fun p=>(p.b,p.z+p.A.length)
noncomputable section
variable {c:Ctx} {w:World} {B:Bl} {L:List Ch} {R:List Fact}
theorem aHR{i n:Nat}{x:SV}{r:List SV}(h:H9 L i n=x :: r):L[i]?=some (.box n (x :: r)):=by
 unfold H9 at h
 split at h
 ·rename_i k cs hk
  split at h
  ·rename_i hb
   rw [i5 hb,hk,h]
  ·cases h
 ·cases h
theorem aW7(hS:St c w (L.map (jA B)) R):∀{ps:PS} {ds:List (List SV)},Z8 L ps=some ds->∃pv,PvR B L ps ds pv
 | [],ds,h=>by cases h;exact⟨[],trivial⟩
 | (i, n, o, k) :: r, ds, h => by
  simp only [Z8] at h
  split at h
  ·rename_i d ds' h1 h2 h3 h4
   cases h
   have h1:=rQ h1
   have h2:=rQ h2
   obtain⟨pv,hpv⟩:=aW7 hS h4
   have h3:=JA h3
   subst h3
   cases hc:H9 L i n with
   | nil=>rw [hc] at h1;simp at h1;omega
   | cons x cs =>
    have hL:=aHR hc
    obtain⟨F,b,z,vs,g1,g2,g3⟩:=hS.chunk (ch:=LZ B n (x :: cs)) i (by simp [hL,jA])
    exact⟨⟨b,z,vs.take o,(vs.drop o).take k,vs.drop (o+k)⟩ :: pv,⟨x :: cs,vs,hL,g1,g2,by rw [<-hc];exact h1,rfl,rfl,rfl,by simp only [hc]⟩,hpv⟩
  ·cases h
theorem parts{vs:List Value}{o k:Nat}:vs.take o++((vs.drop o).take k++vs.drop (o+k))=vs:=by
 rw [<-aDN,RB,RB]
theorem aMZ{F:bW}:∀{ps:PS} {ds:List (List SV)} {pv:List PV} {F:bW},PvR B L ps ds pv->Sep w (pick (L.map (jA B)) (BF ps)) F->Sep w (pv.map PV.whole) F
 | [],[],[],F,_,h=>h
 | (i, n, o, k) :: r, d :: ds, p :: ps, F, ⟨⟨cs, vs, h1, h2, h3, h4, h5, h6, h7, h8⟩, hr⟩, h => by
  simp only [BF,pick,BJ,h1,HY,Option.getD_some] at h
  obtain⟨F1,F2,g1,g2,gd,gF⟩:=h
  refine⟨F1,F2,?_,aMZ (F:=F) hr g2,gd,gF⟩
  obtain⟨b,z,vs',k1,k2,k3⟩:=g1
  rw [h2] at k1;cases k1
  rw [h3] at k2;cases k2
  unfold PV.whole
  rw [h5,h6,h7,parts]
  exact k3
theorem aKG{Bs:Bl}{p:PV}{ps:List PV}{j:Nat}(h:∀i,Bs[j+i]?=(blP (p :: ps))[i]?):Bs[j]?=some (p.b,p.z+p.A.length)/\∀i,Bs[j+1+i]?=(blP ps)[i]?:=by
 refine⟨?_,fun i=>?_⟩
 ·have:=h 0
  simpa [blP] using this
 ·have:=h (i+1)
  rw [show j+1+i=j+(i+1) by omega,this]
  simp [blP]
theorem aR7{Bs:Bl}:∀{ps:PS} {ds:List (List SV)} {pv:List PV} {j:Nat} {F:bW},PvR B L ps ds pv->ds.all (tF.okC 0)=true->(∀i,Bs[j+i]?=(blP pv)[i]?)->Sep w (pv.map PV.mid) F->Sep w ((aFN j ds).map (jA Bs)) F
 | [],[],[],_,F,_,_,_,h=>h
 | (i, n, o, k) :: r, d :: ds, p :: ps, j, F, ⟨⟨cs, vs, h1, h2, h3, h4, h5, h6, h7, h8⟩, hr⟩, ho, hB, h => by
  simp only [ZD,xM] at ho
  obtain⟨F1,F2,g1,g2,gd,gF⟩:=h
  obtain⟨b1,b2⟩:=aKG hB
  refine⟨F1,F2,⟨p.b,p.z+p.A.length,p.V,b1,?_,g1⟩,aR7 hr ho.2 b2 g2,gd,gF⟩
  have e1:aR (bE B) d=some p.V:=by rw [h8,h6];exact KS k (KR o h3)
  have e2:=wF ho.1 e1
  rw [WJ] at e2
  exact dN (fun x v h=>by simpa using eR (B:=[]) Bs h) e2
theorem aKH{Bs:Bl}:∀{ps:PS} {ds:List (List SV)} {pv:List PV} {j:Nat} {x x':SV} {v:Value},PvR B L ps ds pv->(∀i,Bs[j+i]?=(blP pv)[i]?)->rnP ps j x=some x'->dU B x=some v->dU Bs x'=some v
 | [], [], [], j, x, x', v, _, _, hx, hv => by
  simp only [rnP] at hx
  split at hx
  ·rename_i h0
   cases hx
   have:=L4 h0 hv
   rw [WJ] at this
   simpa using rC (B:=[]) Bs this
  ·cases hx
 | (i, n, o, k) :: r, d :: ds, p :: ps, j, x, x', v, ⟨⟨cs, vs, h1, h2, h3, h4, h5, h6, h7, h8⟩, hr⟩, hB, hx, hv => by
  obtain⟨b1,b2⟩:=aKG hB
  simp only [rnP] at hx
  split at hx
  ·rename_i n' o'
   split at hx
   ·rename_i e1 e2
    cases hx
    have e1:=i5 e1
    have e2:=i5 e2
    subst e1;subst e2
    simp only [dU,gV,bE,h2] at hv
    have hA:p.A.length=o:=by rw [h5,yN,jR h3];omega
    simp only [dU,gV,bE,b1,hA,HX]
    exact hv
   ·exact aKH hr b2 hx hv
  ·exact aKH hr b2 hx hv
theorem aFP{Bs:Bl}{ps:PS}{ds:List (List SV)}{pv:List PV}(hr:PvR B L ps ds pv)(hB:∀i,Bs[0+i]?=(blP pv)[i]?):∀{xs xs':List SV} {vs:List Value},aR (rnP ps 0) xs=some xs'->aR (dU B) xs=some vs->aR (dU Bs) xs'=some vs
 | [],_,_,h,hv=>by cases h;exact hv
 | x :: xs, xs', vs, h, hv => by
  simp only [aR] at h hv
  split at h
  ·cases h
  ·rename_i h1
   split at h
   ·cases h
   ·rename_i h2
    cases h
    split at hv
    ·cases hv
    ·rename_i v1
     split at hv
     ·cases hv
     ·rename_i v2
      cases hv
      simp only [aR,aKH hr hB h1 v1,aFP hr hB h2 v2]
def PvN(B:Bl):List PV->List (List SV)->List PV->Prop
 | [],[],[]=>True
 | p :: ps,d :: ds,q :: qs=>(q.b=p.b/\q.z=p.z/\q.A=p.A/\q.C=p.C/\q.V.length=p.V.length/\aR (bE B) d=some q.V)/\PvN B ps ds qs
 | _,_,_=>False
theorem aHS:∀{ps:List PV} {ds:List (List SV)} {qs:List PV},PvN B ps ds qs->qs.flatMap PV.rest=ps.flatMap PV.rest/\blP qs=blP ps
 | [],[],[],_=>⟨rfl,rfl⟩
 | p :: ps, d :: ds, q :: qs, ⟨⟨h1, h2, h3, h4, h5, h6⟩, hr⟩ => by
  obtain⟨e1,e2⟩:=aHS hr
  simp only [List.flatMap_cons,e1,PV.rest,h1,h2,h3,h4,h5]
  refine⟨trivial,?_⟩
  simp only [blP,C7,h1,h2,h3] at e2 ⊢
  rw [e2]
def TB:PS->List (List SV)->Bool
 | [],[]=>true
 | (_, _, _, k) :: r, d :: ds => match Nat.beq d.length k with
  | true=>TB r ds
  | false=>false
 | _,_=>false
theorem aR8:∀{ps:PS} {ds:List (List SV)} {pv:List PV},PvR B L ps ds pv->pv.length=ps.length
 | [],[],[],_=>rfl
 | (i,n,o,k) :: r,d :: ds,p :: ps,⟨_,hr⟩=>by simp [aR8 hr]
theorem aM0{Bs:Bl}:∀{ps:PS} {ds:List (List SV)} {pv:List PV} {es:List (List SV)} {j:Nat},PvR B L ps ds pv->TB ps es=true->es.all (tF.okC 0)=true->(∀i,Bs[j+i]?=(blP pv)[i]?)->(∀i cs,es[i]?=some cs->∃F,(LZ Bs (j+i) cs).P w F)->∃qs,PvN B pv es qs/\iH w ((aFN j es).map (jA Bs)) (qs.map PV.mid)
 | [],[],[],[],j,_,_,_,_,_=>⟨[],trivial,.nil⟩
 | [],[],[],e :: es,j,_,hl,_,_,_=>by simp [TB] at hl
 | (i,n,o,k) :: r,d :: ds,p :: ps,[],j,_,hl,_,_,_=>by simp [TB] at hl
 | (i, n, o, k) :: r, d :: ds, p :: ps, e :: es, j, ⟨⟨cs, vs, h1, h2, h3, h4, h5, h6, h7, h8⟩, hr⟩, hl, ho, hB, hc => by
  simp only [TB] at hl
  split at hl
  ·rename_i he
   have he:=i5 he
   simp only [ZD,xM] at ho
   obtain⟨b1,b2⟩:=aKG hB
   obtain⟨qs,q1,q2⟩:=aM0 hr hl ho.2 b2 fun i cs hi=>by
    have:=hc (i+1) cs (by simpa using hi)
    rwa [show j+(i+1)=j+1+i by omega] at this
   obtain⟨F,b,z,us,g1,g2,g3⟩:=hc 0 e rfl
   have hlen:=jR h3
   have g4:=wF ho.1 g2
   rw [WJ] at g4
   refine⟨⟨p.b,p.z,p.A,us,p.C⟩ :: qs,⟨⟨rfl,rfl,rfl,rfl,?_,dN (fun x v h=>by simpa using eR (B:=[]) B h) g4⟩,q1⟩,.cons (fun F hF=>?_) q2⟩
   ·rw [jR g2,h6,yN,ES,he];omega
   ·obtain⟨b',z',us',k1,k2,k3⟩:=hF
    rw [show j=j+0 by omega] at b1
    simp only [HX] at g2 k2 k1 b1
    rw [b1] at k1;cases k1
    rw [g2] at k2;cases k2
    exact k3
  ·cases hl
theorem Z9:∀{ws vs:List Value} {o:Nat},o+ws.length<=vs.length->QX vs o ws=vs.take o++(ws++vs.drop (o+ws.length))
 | [],vs,o,h=>by simp [QX]
 | x :: ws, vs, o, h => by
  simp only [ER] at h
  simp only [QX]
  rw [Z9 (by simp;omega)]
  have t1:(vs.set o x).take (o+1)=vs.take o ++ [x]:=by
   rw [List.take_add_one,WG (by omega)]
   rw [List.take_set,List.set_eq_of_length_le (by simp;omega)]
   rfl
  have t2:(vs.set o x).drop (o+1+ws.length)=vs.drop (o+(ws.length+1)):=by
   rw [List.drop_set_of_lt (by omega),show o+1+ws.length=o+(ws.length+1) by omega]
  rw [t1,t2]
  simp
theorem aR9:∀{ps:PS} {ds es:List (List SV)} {pv qs:List PV} {M:List Ch} {F:bW},PvR B L ps ds pv->PvN B pv es qs->(∀i∈BF ps,M[i]?=some .no)->cJ (BF ps)=true->Sep w (qs.map PV.whole++M.map (jA B)) F->Sep w ((HL L M ps es).map (jA B)) F
 | [],[],[],[],[],M,F,_,_,_,_,h=>h
 | (i, n, o, k) :: r, d :: ds, e :: es, p :: ps, q :: qs, M, F, ⟨⟨cs, vs, h1, h2, h3, h4, h5, h6, h7, h8⟩, hr⟩, ⟨⟨n1, n2, n3, n4, n5, n6⟩, hn⟩, hM, ha, h => by
  simp only [BF,cJ,xM] at ha
  have hi:M[i]?=some .no:=hM i (by simp [BF])
  have hlt:i < M.length:=(g7.1 hi).1
  simp only [HL]
  refine aR9 (ps:=r) (ds:=ds) (es:=es) (pv:=ps) (qs:=qs) hr hn (fun j hj=>?_) ha.2 ?_
  ·have hne:i≠j:=fun e=>by
    subst e
    have:=SU.1 ha.1 _ hj
    simp at this
   rw [OQ hne]
   exact hM j (by simp [BF,hj])
  ·have h9:Sep w (qs.map PV.whole++(q.whole :: M.map (jA B))) F:=Sep.perm List.perm_middle.symm h
   obtain⟨F1,F2,g1,g2,gd,gF⟩:=Sep.append.1 h9
   refine Sep.append.2 ⟨F1,F2,g1,?_,gd,gF⟩
   have hc:H9 L i n=cs:=by
    unfold H9
    rw [h1]
    simp
   have e0:(M.map (jA B)).set i DZ=M.map (jA B):=by
    have:(M.map (jA B))[i]?=some DZ:=by simp [hi,jA]
    obtain⟨hl,he⟩:=g7.1 this
    rw [<-he];exact aDP hl
   have e1:Sep w ((M.map (jA B)).set i q.whole) F2:=Sep.put (by simpa using hlt) (by rw [e0];exact g2)
   rw [KE,hc]
   refine Sep.imp ?_ e1
   refine iH.set i (iH.refl _) fun F hF=>⟨p.b,p.z,q.A++(q.V++q.C),h2,?_,by rw [<-n1,<-n2];exact hF⟩
   have hlen:=jR h3
   have hV:p.V.length=k:=by rw [h6,yN,ES];omega
   have hVe:e.length=k:=by rw [<-jR n6,n5,hV]
   rw [aFD _ _ _ (by omega),n3,n4,h5,h7]
   have:=S4 o h3 n6
   rw [this,Z9 (by omega),n5,hV]
 | [],[],e :: es,[],_,M,F,_,hn,_,_,_=>by simp [PvN] at hn
 | [],[],[],[],q :: qs,M,F,_,hn,_,_,_=>by simp [PvN] at hn
 | (i,n,o,k) :: r,d :: ds,[],p :: ps,qs,M,F,_,hn,_,_,_=>by simp [PvN] at hn
 | (i,n,o,k) :: r,d :: ds,e :: es,p :: ps,[],M,F,_,hn,_,_,_=>by simp [PvN] at hn
theorem aHT{x:Ch}:∀{ps:PS} {es:List (List SV)} {M:List Ch},x∈HL L M ps es->x∈M\/∃n cs,x=.box n cs
 | [],_,M,h=>.inl (by simpa [HL] using h)
 | (i,n,o,k) :: r,[],M,h=>.inl (by simpa [HL] using h)
 | (i, n, o, k) :: r, e :: es, M, h => by
  rcases aHT (ps:=r) (es:=es) (by simpa [HL] using h) with h | h
  ·rcases qY h with h | h
   ·exact .inl h
   ·exact .inr ⟨_,_,h⟩
  ·exact .inr h
end
end Go.Gv
end
noncomputable section
namespace Go.Gv
def cpS:Stop->Option (Oper×Option Nat×FuncId×List SV×rR×rR×List Fr×Nat×SE×List Ch)
 | .call o d f xs cf cf' K m e L=>some (o,d,f,xs,cf,cf',K,m,e,L)
 | .callp o d f xs cf cf' K m e L=>some (o,d,f,xs,cf,cf',K,m,e,L)
 | _=>none
def W3(d:Option Nat)(v:SV)(e:SE):SE:=match d with
 | some d=>(d,v) :: e
 | none=>e
def DA:List Ch->Bool
 | []=>true
 | .o _ :: L=>DA L
 | _ :: _=>false
theorem OY{B B':Bl}:∀{L:List Ch},DA L=true->L.map (jA B)=L.map (jA B')
 | [],_=>rfl
 | .o c :: L,h=>by simp only [C7,jA];rw [OY (L:=L) h]
theorem OZ{B:Bl}{R:List Fact}:∀{L:List Ch},DA L=true->∀x∈L,roF B R x
 | [],_,x,hx=>by cases hx
 | .o c :: L, h, x, hx => by
  rcases gI.1 hx with hx | hx
  ·subst hx;trivial
  ·exact OZ (L:=L) h x hx
theorem aHU{B:Bl}{R:List Fact}:∀{cs:List (List SV)} {k:Nat},∀x∈aFN k cs,roF B R x
 | [],k,x,hx=>by cases hx
 | c :: cs, k, x, hx => by
  rcases gI.1 hx with hx | hx
  ·subst hx;trivial
  ·exact aHU x hx
theorem aAA:∀{cs:List (List SV)} {k i:Nat} {c:List SV},cs[i]?=some c->(aFN k cs)[i]?=some (.box (k+i) c)
 | c' :: cs,k,0,c,h=>by simp at h;subst h;rfl
 | c' :: cs, k, i + 1, c, h => by
  have:=aAA (k:=k+1) (show cs[i]?=some c by simpa using h)
  simpa [aFN,ET,Nat.add_comm 1] using this
theorem TC{L:List Chunk}:∀{a b:List Nat},pick L (a++b)=pick L a++pick L b
 | [],b=>rfl
 | i :: a,b=>by simp only [ON,pick,TC (a:=a)]
theorem Y2:∀{js:List Nat} {L:List Ch},(D3 L js).length=L.length
 | [],L=>rfl
 | j :: js,L=>by simp only [D3];rw [Y2];simp
theorem aSA:∀{js:List Nat} {L:List Ch} {i:Nat},i < L.length->L[i]?=some .no\/i∈js->(D3 L js)[i]?=some .no
 | [],L,i,_,h=>by rcases h with h | h;exact h;cases h
 | j :: js, L, i, hl, h => by
  simp only [D3]
  refine aSA (by simpa using hl) ?_
  by_cases e:j=i
  ·subst e;left;rw [WG hl]
  ·rw [OQ e]
   rcases h with h | h
   ·exact .inl h
   ·rcases gI.1 h with h | h
    ·exact absurd h.symm e
    ·exact .inr h
theorem aSB{B:Bl}{L:List Ch}:∀{ps:PS} {ds:List (List SV)} {pv:List PV},PvR B L ps ds pv->∀i∈BF ps,i < L.length
 | [],[],[],_,i,h=>by cases h
 | (i, n, o, k) :: r, d :: ds, p :: ps, ⟨⟨cs, vs, h1, _⟩, hr⟩, j, h => by
  rcases gI.1 h with h | h
  ·subst h;exact(g7.1 h1).1
  ·exact aSB hr j h
theorem aM2:∀{a b:List Nat},cJ (a++b)=true->cJ a=true
 | [],b,_=>rfl
 | i :: a, b, h => by
  simp only [ON,cJ,xM,List.all_append] at h ⊢
  exact⟨h.1.1,aM2 h.2⟩
theorem aHV{g:Gx}{cf:rR}{L M:List Ch}{j:Nat}{z:Ch}(h:Frz g cf L M)(hn:eZ j cf.uR=true):Frz g cf L (M.set j z):=by
 cases cf with
 | d B1 ops l is Lf Lv =>
  intro hD
  obtain⟨h1,h2⟩:=h hD
  have:=QM (L:=M) (M:=[]) (j:=j) (z:=z) h2 hn
  rw [uH] at this
  exact⟨by rw [this];exact h1,fun i hi=>by simpa using h2 i hi⟩
 | o B1 ops l is Lf Lv ii =>
  intro hD
  obtain⟨h1,h2⟩:=h hD
  have:=QM (L:=M) (M:=[]) (j:=j) (z:=z) h2 hn
  rw [uH] at this
  exact⟨by rw [this];exact h1,fun i hi=>by simpa using h2 i hi⟩
 | _=>trivial
theorem aHW{g:Gx}{cf:rR}{L L0:List Ch}:∀{ps:PS} {es:List (List SV)} {M:List Ch},Frz g cf L M->((BF ps).all fun j=>eZ j cf.uR)=true->Frz g cf L (HL L0 M ps es)
 | [],_,M,h,_=>by simpa [HL] using h
 | (i,n,o,k) :: r,[],M,h,_=>by simpa [HL] using h
 | (i, n, o, k) :: r, e :: es, M, h, hz => by
  simp only [BF,ZD,xM] at hz
  exact aHW (ps:=r) (es:=es) (aHV h hz.1) hz.2
theorem VB{i:Nat}:∀{js:List Nat},eZ i js=true->(js.all fun j=>!Nat.beq j i)=true
 | [],_=>rfl
 | j :: js, h => by
  simp only [eZ] at h
  split at h
  ·cases h
  ·rename_i hb
   simp only [ZD,xM,Bool.not_eq_true']
   refine⟨?_,VB h⟩
   cases hji:Nat.beq j i with
   | false=>rfl
   | true =>
    rw [i5 hji] at hb
    simp at hb
theorem aSC{g:Gx}{s:Stop}{o:Oper}{d:Option Nat}{f:FuncId}{xs:List SV}{cf cf':rR}{K:List Fr}{m:Nat}{e:SE}{L:List Ch}(hs:cpS s=some (o,d,f,xs,cf,cf',K,m,e,L))
  (h:∀fo args ats,o.op=.call {callee:=.value fo,args:=args,argTypes:=ats}->o.dst=d->g9 e fo=some (.f f [])->(∃ys,aR (g9 e) args.toList=some ys/\nbA ys=xs)->nS g.n d=true->WO g K m e L o cf cf'->G g K m e L cf):Gs g s:=by
 cases s <;> simp only [cpS] at hs <;> cases hs
 ·exact fun fo args ats a1 a2 a3 a4 _ a6 a7=>h fo args ats a1 a2 a3 a4 a6 a7
 ·exact h
noncomputable section
variable {P:Program} {T:TT} {hT:C9 P T} {n:Nat} {c:Ctx} {B0:Bl} {N:Act->World->Prop} {X:Nat->Act->World->Prop} {Q:Act->World->Prop} {K K':List Fr} {m m':Nat} {e e':SE} {L L':List Ch} {cf cf1 cf2:rR} {o:Oper}
theorem cwk{α β ex:Type}{fo:Option α}{kf:α->Option β}{q:β}{d:Option Nat}{f:FuncId}{xs xs0:List SV}{cs0:List (List SV)}{M:List Ch}{sv:α->ex->SV}{cb:α->ex->List (List SV)}{Lr:α->ex->List Ch}(ps:PS)(is:List Nat)
  (hs:cpS (iW T n K cf m e L)=some (o,d,f,xs,cf1,cf2,K',m',e',L')) (hb:Z8 L' ps=some cs0) (hi:aR (fun i=>L'[i]?) is=some M) (hx:aR (rnP ps 0) xs=some xs0)
  (hk:(DA M && (cs0.all (tF.okC 0) && (cJ (BF ps++is) && (BF ps++is).all fun j=>eZ j cf1.uR)))=true)
  (hn:∀x y,(TB ps (cb x y) && ((cb x y).all (tF.okC 0) && (DA (Lr x y) && tF 0 (sv x y))))=true)
  (hc:∀{κ:Ctx},HG c κ L' (BF ps++is)->∀{Bs:Bl},Bs.length=ps.length->∀{x},fo=some x->FnS P f κ xs0 Bs (aFN 0 cs0++M) sv (fun x y=>aFN 0 (cb x y)++Lr x y) x)
  (hF:fo.bind kf=some q)
  (k:∀x,fo=some x->kf x=some q->∀y:ex,G (.mk P T hT n c B0 N X Q) K' m' (W3 d (sv x y) e') (HL L' (D3 L' (BF ps++is)++Lr x y) ps (cb x y)) cf2):G (.mk P T hT n c B0 N X Q) K m e L cf:=by
 refine fV (g:=.mk P T hT n c B0 N X Q) (aSC hs ?_)
 intro fo' args ats ho hd hf ⟨ys,hys,hxs⟩ hdn hE
 simp only [xM] at hk hn
 obtain⟨hkM,hkc,hka,hkz⟩:=hk
 cases hfo:fo with
 | none=>rw [hfo] at hF;cases hF
 | some x =>
  rw [hfo] at hF
  have hz2:((BF ps).all fun j=>eZ j cf1.uR)=true:=by
   rw [List.all_append,xM] at hkz;exact hkz.1
  refine hE ex (fun _=>m') (fun y=>W3 d (sv x y) e') (fun y=>HL L' (D3 L' (BF ps++is)++Lr x y) ps (cb x y)) (fun y=>aHW (L5 _ hkz) hz2) (fun B a w next Q' hm hA hS hnext=>?_) (k x hfo hF)
  generalize hBB:RD (.mk P T hT n c B0 N X Q) cf1++B=BB at hm hA hS hnext
  obtain⟨⟨R,s1,s2⟩,s0⟩:=hS
  obtain⟨pv,hpv⟩:=aW7 s1 hb
  have hBs:(blP pv).length=ps.length:=by simp [blP,aR8 hpv]
  have hB0:∀i,(blP pv)[0+i]?=(blP pv)[i]?:=fun i=>by rw [yO]
  have f1:=s1.front (BF ps++is) hka
  have f2:St c w ((pv.map PV.mid++M.map (jA BB))++(pv.flatMap PV.rest++blank (L'.map (jA BB)) (BF ps++is))) R:=by
   refine f1.via fun F h=>?_
   rw [TC,H8 hi] at h
   obtain⟨F1,F2,g1,g2,gd,gF⟩:=Sep.append.1 h
   obtain⟨F3,F4,g3,g4,gd2,gF2⟩:=Sep.append.1 g1
   have g5:=a0K (aMZ (F:=F) hpv g3)
   have g6:Sep w (((pv.map PV.mid++pv.flatMap PV.rest)++M.map (jA BB))++blank (L'.map (jA BB)) (BF ps++is)) F:=Sep.append.2 ⟨F1,F2,Sep.append.2 ⟨F3,F4,g5,g4,gd2,gF2⟩,g2,gd,gF⟩
   refine Sep.perm ?_ g6
   simp only [qR]
   refine List.Perm.append_left _ ?_
   rw [<-qR,<-qR]
   exact List.Perm.append_right _ List.perm_append_comm
  obtain⟨κ,k1,k2,k3,k4,k5,k6,k7⟩:=f2.aW6 s0
  subst k1
  have hHG:HG c κ L' (BF ps++is):=by
   refine⟨fun{α} _ {s d} h=>k4 (xN [s.v d.length] d) h,fun{α} _ {s d} i hi hj=>?_,fun{α} _ {s d} i hi=>k5 _ (s2 _ (rP hi))⟩
   have:(blank (L'.map (jA BB)) (BF ps++is))[i]?=some (aW [s.v d.length] d):=by
    rw [U4 (VB hj),BJ,hi];rfl
   exact k6 _ (List.mem_append_right _ (rP this)) (xN [s.v d.length] d) fun w F h=>aC.own_rd h
  obtain⟨hcall,hrun⟩:=hc hHG hBs hfo
  obtain⟨vs,h1,h2⟩:=RE hA hys
  obtain⟨v,h3,h4⟩:=dP hA hf
  simp [dU,aR] at h3
  subst h3
  have h1':aR (dU BB) xs=some vs:=by rw [<-hxs,H5];exact h1
  have hst:j5 κ κ.w0 (blP pv) (aFN 0 cs0++M):=by
   refine⟨⟨[],?_,fun x hx=>?_⟩,k2⟩
   ·rw [uI,OY (B':=BB) hkM]
    refine k3.via fun F h=>?_
    obtain⟨F1,F2,g1,g2,gd,gF⟩:=Sep.append.1 h
    exact Sep.append.2 ⟨F1,F2,aR7 hpv hkc hB0 g1,g2,gd,gF⟩
   ·rcases eX.1 hx with hx | hx
    ·exact aHU x hx
    ·exact OZ hkM x hx
  have h5:=hrun vs (aFP hpv hB0 hx h1') hst
  have h6:=KU (w:=κ.w0) hcall ho h4 h2
  unfold Oper.wp
  rw [h6 _ a hA.env,Oper.upon_enter]
  refine Calls.mono h5 fun en w' ⟨v,hv,y,g1,g2⟩=>?_
  subst hv
  obtain⟨n1,n2,n3,n4⟩:=hn x y
  have g3:=rC BB (aD4 n4 g1)
  rw [ZJ] at g3
  obtain⟨⟨R',t1,t2⟩,t0⟩:=g2
  obtain⟨qs,q1,q2⟩:=aM0 (w:=w') hpv n1 n2 hB0 fun i cs hi=>t1.chunk (ch:=LZ (blP pv) (0+i) cs) i (by
   rw [BJ,F6 (by
    have:=(g7.1 (aAA (k:=0) hi)).1
    exact this),aAA hi];rfl)
  obtain⟨e1,e2⟩:=aHS q1
  have t3:St κ w' (qs.map PV.mid++(Lr x y).map (jA BB)) R':=by
   refine t1.imp ?_
   rw [uI,OY (B:=blP pv) (B':=BB) n3]
   exact iH.append q2 (iH.refl _)
  have t4:=k7 w' _ R' t3
  have t5:St c w' ((HL L' (D3 L' (BF ps++is)++Lr x y) ps (cb x y)).map (jA BB)) R:=by
   refine t4.via fun F h=>?_
   refine aR9 hpv q1 (fun i hi=>?_) (aM2 hka) ?_
   ·have hl:=aSB hpv i hi
    rw [F6 (by rw [Y2];exact hl)]
    exact aSA hl (.inr (NB _ hi))
   ·rw [uI,CC]
    have h7:Sep w' ((qs.map PV.mid++qs.flatMap PV.rest)++(blank (L'.map (jA BB)) (BF ps++is)++(Lr x y).map (jA BB))) F:=by
     rw [e1]
     refine Sep.perm ?_ h
     simp only [qR]
     refine List.Perm.append_left _ ?_
     rw [<-qR (pv.flatMap PV.rest)]
     exact List.perm_append_comm
    obtain⟨F1,F2,p1,p2,pd,pF⟩:=Sep.append.1 h7
    exact Sep.append.2 ⟨F1,F2,a0L p1,p2,pd,pF⟩
  have t6:j5 c w' BB (HL L' (D3 L' (BF ps++is)++Lr x y) ps (cb x y)):=by
   refine⟨⟨R,t5,fun z hz=>?_⟩,s0⟩
   rcases aHT hz with hz | ⟨_,_,hz⟩
   ·rcases eX.1 hz with hz | hz
    ·rcases H7 _ _ hz with hz | hz
     ·exact s2 z hz
     ·subst hz;trivial
    ·exact OZ n3 z hz
   ·subst hz;trivial
  rw [hd]
  cases d with
  | none=>exact hnext y _ _ ⟨[],by simpa using hm,by simpa [W3,Act.put] using hA,by simpa using t6⟩
  | some d=>exact hnext y _ _ ⟨[],by simpa using hm,by simpa [W3] using hA.of g3 (hA.env.put (by simpa [nS,l6] using hdn) v),by simpa using t6⟩
end
end Go.Gv
end
noncomputable section
namespace Go.Gv
noncomputable section
variable {P:Program} {T:TT} {hT:C9 P T} {n:Nat} {c:Ctx} {B0:Bl} {N:Act->World->Prop} {X:Nat->Act->World->Prop} {Q:Act->World->Prop} {K K':List Fr} {m m':Nat} {e e':SE} {L L' Lv:List Ch} {cf cf' cf1 cf2:rR} {o:Oper}
noncomputable section
variable {α β ex:Type} {fo:Option α} {kf:α->Option β} {q:β} {d:Option Nat} {f:FuncId} {xs xs0:List SV} {M:List Ch} {sv:α->ex->SV} {Lr:α->ex->List Ch}
theorem cw0(is:List Nat)
  (hs:cpS (iW T n K cf m e L)=some (o,d,f,xs,cf1,cf2,K',m',e',L')) (hi:aR (fun i=>L'[i]?) is=some M) (hx:aR (rnP [] 0) xs=some xs0)
  (hk:(DA M && (cJ is && is.all fun j=>eZ j cf1.uR))=true) (hn:∀x y,(DA (Lr x y) && tF 0 (sv x y))=true)
  (hc:∀{κ:Ctx},HG c κ L' is->∀{x},fo=some x->FnS P f κ xs0 [] M sv Lr x) (hF:fo.bind kf=some q)
  (k:∀x,fo=some x->kf x=some q->∀y:ex,G (.mk P T hT n c B0 N X Q) K' m' (W3 d (sv x y) e') (D3 L' is++Lr x y) cf2):G (.mk P T hT n c B0 N X Q) K m e L cf:=
 cwk (cb:=fun _ _=>[]) (Lr:=Lr) [] is hs rfl hi hx (by simpa [BF] using hk) (fun x y=>by simpa [TB] using hn x y) (fun{κ} h Bs hl x hx=>match Bs,hl with | [],_=>hc (by simpa [BF] using h) hx) hF (fun x h1 h2 y=>by simpa [HL,BF] using k x h1 h2 y)
theorem cw1{c1:List SV}{a1:α->ex->List SV}(i1 n1 o1 k1:Nat)(is:List Nat)
  (hs:cpS (iW T n K cf m e L)=some (o,d,f,xs,cf1,cf2,K',m',e',L')) (hb:Z8 L' [(i1,n1,o1,k1)]=some [c1]) (hi:aR (fun i=>L'[i]?) is=some M) (hx:aR (rnP [(i1,n1,o1,k1)] 0) xs=some xs0)
  (hk:(DA M && ([c1].all (tF.okC 0) && (cJ (i1 :: is) && (i1 :: is).all fun j=>eZ j cf1.uR)))=true) (hn:∀x y,(TB [(i1,n1,o1,k1)] [a1 x y] && ([a1 x y].all (tF.okC 0) && (DA (Lr x y) && tF 0 (sv x y))))=true)
  (hc:∀{κ:Ctx},HG c κ L' (i1 :: is)->∀{b1:Nat×Nat} {x},fo=some x->FnS P f κ xs0 [b1] (.box 0 c1 :: M) sv (fun x y=>.box 0 (a1 x y) :: Lr x y) x) (hF:fo.bind kf=some q)
  (k:∀x,fo=some x->kf x=some q->∀y:ex,G (.mk P T hT n c B0 N X Q) K' m' (W3 d (sv x y) e') (HL L' (D3 L' (i1 :: is)++Lr x y) [(i1,n1,o1,k1)] [a1 x y]) cf2):G (.mk P T hT n c B0 N X Q) K m e L cf:=
 cwk (cb:=fun x y=>[a1 x y]) (Lr:=Lr) [(i1,n1,o1,k1)] is hs hb hi hx hk hn (fun{κ} h Bs hl x hx=>match Bs,hl with | [b1],_=>hc h hx) hF k
theorem cw2{c1 c2:List SV}{a1 a2:α->ex->List SV}(i1 n1 o1 k1:Nat)(i2 n2 o2 k2:Nat)(is:List Nat)
  (hs:cpS (iW T n K cf m e L)=some (o,d,f,xs,cf1,cf2,K',m',e',L')) (hb:Z8 L' [(i1,n1,o1,k1),(i2,n2,o2,k2)]=some [c1,c2]) (hi:aR (fun i=>L'[i]?) is=some M) (hx:aR (rnP [(i1,n1,o1,k1),(i2,n2,o2,k2)] 0) xs=some xs0)
  (hk:(DA M && ([c1,c2].all (tF.okC 0) && (cJ (i1 :: i2 :: is) && (i1 :: i2 :: is).all fun j=>eZ j cf1.uR)))=true) (hn:∀x y,(TB [(i1,n1,o1,k1),(i2,n2,o2,k2)] [a1 x y,a2 x y] && ([a1 x y,a2 x y].all (tF.okC 0) && (DA (Lr x y) && tF 0 (sv x y))))=true)
  (hc:∀{κ:Ctx},HG c κ L' (i1 :: i2 :: is)->∀{b1 b2:Nat×Nat} {x},fo=some x->FnS P f κ xs0 [b1,b2] (.box 0 c1 :: .box 1 c2 :: M) sv (fun x y=>.box 0 (a1 x y) :: .box 1 (a2 x y) :: Lr x y) x) (hF:fo.bind kf=some q)
  (k:∀x,fo=some x->kf x=some q->∀y:ex,G (.mk P T hT n c B0 N X Q) K' m' (W3 d (sv x y) e') (HL L' (D3 L' (i1 :: i2 :: is)++Lr x y) [(i1,n1,o1,k1),(i2,n2,o2,k2)] [a1 x y,a2 x y]) cf2):G (.mk P T hT n c B0 N X Q) K m e L cf:=
 cwk (cb:=fun x y=>[a1 x y,a2 x y]) (Lr:=Lr) [(i1,n1,o1,k1),(i2,n2,o2,k2)] is hs hb hi hx hk hn (fun{κ} h Bs hl x hx=>match Bs,hl with | [b1,b2],_=>hc h hx) hF k
theorem cw3{c1 c2 c3:List SV}{a1 a2 a3:α->ex->List SV}(i1 n1 o1 k1:Nat)(i2 n2 o2 k2:Nat)(i3 n3 o3 k3:Nat)(is:List Nat)
  (hs:cpS (iW T n K cf m e L)=some (o,d,f,xs,cf1,cf2,K',m',e',L')) (hb:Z8 L' [(i1,n1,o1,k1),(i2,n2,o2,k2),(i3,n3,o3,k3)]=some [c1,c2,c3]) (hi:aR (fun i=>L'[i]?) is=some M) (hx:aR (rnP [(i1,n1,o1,k1),(i2,n2,o2,k2),(i3,n3,o3,k3)] 0) xs=some xs0)
  (hk:(DA M && ([c1,c2,c3].all (tF.okC 0) && (cJ (i1 :: i2 :: i3 :: is) && (i1 :: i2 :: i3 :: is).all fun j=>eZ j cf1.uR)))=true) (hn:∀x y,(TB [(i1,n1,o1,k1),(i2,n2,o2,k2),(i3,n3,o3,k3)] [a1 x y,a2 x y,a3 x y] && ([a1 x y,a2 x y,a3 x y].all (tF.okC 0) && (DA (Lr x y) && tF 0 (sv x y))))=true)
  (hc:∀{κ:Ctx},HG c κ L' (i1 :: i2 :: i3 :: is)->∀{b1 b2 b3:Nat×Nat} {x},fo=some x->FnS P f κ xs0 [b1,b2,b3] (.box 0 c1 :: .box 1 c2 :: .box 2 c3 :: M) sv (fun x y=>.box 0 (a1 x y) :: .box 1 (a2 x y) :: .box 2 (a3 x y) :: Lr x y) x) (hF:fo.bind kf=some q)
  (k:∀x,fo=some x->kf x=some q->∀y:ex,G (.mk P T hT n c B0 N X Q) K' m' (W3 d (sv x y) e') (HL L' (D3 L' (i1 :: i2 :: i3 :: is)++Lr x y) [(i1,n1,o1,k1),(i2,n2,o2,k2),(i3,n3,o3,k3)] [a1 x y,a2 x y,a3 x y]) cf2):G (.mk P T hT n c B0 N X Q) K m e L cf:=
 cwk (cb:=fun x y=>[a1 x y,a2 x y,a3 x y]) (Lr:=Lr) [(i1,n1,o1,k1),(i2,n2,o2,k2),(i3,n3,o3,k3)] is hs hb hi hx hk hn (fun{κ} h Bs hl x hx=>match Bs,hl with | [b1,b2,b3],_=>hc h hx) hF k
end
theorem aW9(s:AC)(n1 n2:Nat):KK (s.v n1)=KK (s.v n2):=by obtain⟨a,c⟩:=s;cases a <;> rfl
theorem aXA(s:AC)(q k n1 n2:Nat):KD q k (s.v n1)=KD q k (s.v n2):=by obtain⟨a,c⟩:=s;cases a <;> rfl
theorem ro{α β:Type}[aC α](E:CO α)(j v nb:Nat){s:AC}{i:Int}{n0:Nat}{ls:List α}{kf:α->Option β}{q:β}(hs:QY (iW T n K cf m e L)=some (K',cf',m',e',L'))(hj:L'[j]?=some (ow s ls))(hv:L'[v]?=some (wOf α nb s n0 i.toNat))(hz:eZ j cf'.uR=true)(hF:(idx ls i).bind kf=some q)
  (k:∀x,idx ls i=some x->kf x=some q->∀y:E.ex,G (.mk P T hT n c B0 N X Q) K' m' e' (L'.set j .no++([.o (oX (s.v ls.length) ls i.toNat),.box nb (E.cs x y),wOf α nb s ls.length i.toNat]++E.Lx x y)) cf'):G (.mk P T hT n c B0 N X Q) K m e L cf:=by
 refine go hs ?_
 cases hi:idx ls i with
 | none=>rw [hi] at hF;cases hF
 | some x =>
  rw [hi] at hF
  refine chg (fun _=>m') (fun _=>e') (fun y:E.ex=>L'.set j .no++([.o (oX (s.v ls.length) ls i.toNat),.box nb (E.cs x y),wOf α nb s ls.length i.toNat]++E.Lx x y)) (fun B a w hm hA hS=>?_) (fun y=>aFL hz) (fun y=>k x hi hF y)
  obtain⟨⟨R,s1,s2⟩,s0⟩:=hS
  have hB:B[nb]?=some (KK (s.v ls.length),KD (aC.n α) i.toNat (s.v ls.length)):=by
   rw [aW9 s ls.length n0,aXA s _ _ ls.length n0];exact s2 _ (rP hv)
  have hj2:(L'.map (jA B))[j]?=some (aW [s.v ls.length] ls):=by simp [hj,jA]
  obtain⟨ec,h1⟩:=s1.open j hj2 (jQ hi).2.2
  have hlen:((L'.map (jA B)).set j DZ).length=L'.length:=by simp
  obtain⟨F,hF'⟩:=h1.chunk (L'.length+2) (by rw [BI (by omega)];simp;rfl)
  obtain⟨y,hy2⟩:=E.op (show aC.own w ec x F from hF')
  have h2:=h1.unpack (L'.length+2) (by rw [BI (by omega)];simp) (E.pk hy2)
  have hset:((L'.map (jA B)).set j DZ ++ [oX (s.v ls.length) ls i.toNat,OJ (KK (s.v ls.length)) (KD (aC.n α) i.toNat (s.v ls.length)) ec,aW ec x]).set (L'.length+2) DZ=(L'.map (jA B)).set j DZ ++ [oX (s.v ls.length) ls i.toNat,OJ (KK (s.v ls.length)) (KD (aC.n α) i.toNat (s.v ls.length)) ec,DZ]:=by
   rw [List.set_append_right _ _ (by omega)]
   simp
  rw [hset] at h2
  refine⟨y,[],by simpa using hm,by simpa using hA,⟨⟨R,?_,fun z hz=>?_⟩,s0⟩⟩
  ·have e1:(L'.set j Ch.no).map (jA B)=(L'.map (jA B)).set j DZ:=by rw [KE];rfl
   refine h2.imp ?_
   rw [uH,uI,uI,<-e1,qR]
   refine iH.append (iH.refl _) (iH.append (.cons (fun _ h=>h) (.cons (fun F h=>⟨_,_,ec,hB,dN (fun x v h=>by simpa using eR (B:=[]) B h) hy2,h⟩) (.cons (fun _ h=>h) .nil))) ?_)
   rw [E.nb x y B];exact iH.refl _
  ·rw [uH]
   rcases eX.1 hz with hz | hz
   ·rcases qY hz with hz | hz
    ·exact s2 z hz
    ·subst hz;trivial
   ·rcases eX.1 hz with hz | hz
    ·simp at hz
     rcases hz with rfl | rfl | rfl
     ·trivial
     ·trivial
     ·exact hB
    ·exact aFJ (E.no x y) z hz
theorem nw(α:Type)[aC α](hs:QY (iW T n K cf m e L)=some (K',cf',m',e',L'))
  (k:G (.mk P T hT n c B0 N X Q) K' m' e' (L' ++ [ow ⟨none,0⟩ ([]:List α)]) cf'):G (.mk P T hT n c B0 N X Q) K m e L cf:=by
 refine go hs ?_
 refine chg (fun _:Unit=>m') (fun _=>e') (fun _=>L' ++ [ow ⟨none,0⟩ ([]:List α)]) (fun B a w hm hA hS=>?_) (fun _=>tG _) (fun _=>k)
 obtain⟨⟨R,s1,s2⟩,s0⟩:=hS
 refine⟨(),[],by simpa using hm,by simpa using hA,⟨⟨R,?_,fun z hz=>?_⟩,s0⟩⟩
 ·rw [uH,uI]
  exact St.more s1 (dC.refl _ _) ⟨F0,⟨none,0,rfl,iC _,gR _,.inl ⟨rfl,rfl,fun _ _ h=>h⟩⟩,fun _ _ h=>h.elim⟩
 ·rw [uH]
  rcases eX.1 hz with hz | hz
  ·exact s2 z hz
  ·simp at hz;subst hz;trivial
theorem BG{Z:Act->World->Prop}(α:Type)[aC α](kk:∀a w,mO n c B0 m e (L ++ [ow ⟨none,0⟩ ([]:List α)]) a w->Z a w):∀a w,mO n c B0 m e L a w->Z a w:=by
 intro a w ⟨B,hm,hA,hS⟩
 refine kk a w ⟨B,hm,hA,?_⟩
 obtain⟨⟨R,s1,s2⟩,s0⟩:=hS
 refine⟨⟨R,?_,fun z hz=>?_⟩,s0⟩
 ·rw [uI]
  exact St.more s1 (dC.refl _ _) ⟨F0,⟨none,0,rfl,iC _,gR _,.inl ⟨rfl,rfl,fun _ _ h=>h⟩⟩,fun _ _ h=>h.elim⟩
 ·rcases eX.1 hz with hz | hz
  ·exact s2 z hz
  ·simp at hz;subst hz;trivial
end
end Go.Gv
end
noncomputable section
namespace Go.Gv
def AC.sub(s:AC)(n a:Nat):AC:=⟨if s.c=a then s.a else s.a.map (·.add (a * n)),s.c - a⟩
theorem NF{α:Type}{l:List α}{s:AC}{n a b k:Nat}(h1:a<=b)(h2:b<=l.length):gE n a b (s.v k)=(s.sub n a).v ((l.take b).drop a).length:=by
 rw [tE h1 h2];rfl
noncomputable section
variable {P:Program} {T:TT} {hT:C9 P T} {n:Nat} {c:Ctx} {B0:Bl} {N:Act->World->Prop} {X:Nat->Act->World->Prop} {Q:Act->World->Prop} {K K':List Fr} {m m':Nat} {e e':SE} {L L' Lv:List Ch} {cf cf' cf1 cf2:rR} {o:Oper} {d:Nat}
theorem cpc{α:Type}[aC α](j:Nat){s:AC}{l:List α}(hs:QY (iW T n K cf m e L)=some (K',cf',m',e',L'))(hj:L'[j]?=some (ow s l))(k:l.length<=s.c->G (.mk P T hT n c B0 N X Q) K' m' e' L' cf'):G (.mk P T hT n c B0 N X Q) K m e L cf:=by
 refine go hs ?_
 refine chg (fun _:PLift (l.length<=s.c)=>m') (fun _=>e') (fun _=>L') (fun B a w hm hA hS=>?_) (fun _=>by simpa using tG (L:=L') []) (fun h=>k h.down)
 obtain⟨⟨R,s1,s2⟩,s0⟩:=hS
 obtain⟨F,hF⟩:=s1.chunk (ch:=aW [s.v l.length] l) j (by simp [hj,jA])
 obtain⟨ad,cp,h1,h2⟩:=FX (show aC.own w [s.v l.length] l F from hF)
 simp only [AC.v,Value.slice.injEq] at h1
 exact⟨⟨by omega⟩,[],by simpa using hm,by simpa using hA,⟨⟨R,by simpa using s1,by simpa using s2⟩,s0⟩⟩
noncomputable section
variable {x y z u:Operand} {t el sz:Nat} {k1 k2 k3:IntKind} {i j p:Int} {α β:Type} [aC α] {A:Option β} {q:β} {s:AC} {l:List α} {b1 b2:Bool} {n1:Nat} {z1 z2:List SV} {kt:TK}
theorem aFQ(hc:l.length<=s.c)(hs:ZZ (iW T n K cf m e L)=some (o,Lv,cf1,cf2,K',m',e',L'))(ho:(o.op,o.dst)=(.slice t x (some y) none none,some d))(ht:yS T t=some ⟨.sl el,b1,n1,z1⟩)(he:yS T el=some ⟨kt,b2,sz,z2⟩)(hx:g9 e' x=some (.h s l.length))(hy:(g9 e' y).bind qS=some (k1,i))(hF:need (0<=i/\i<=(l.length:Int)) A=some q)
  (kk:A=some q->(i.toNat<=l.length/\l.length<=l.length)->G (.mk P T hT n c B0 N X Q) K' m' ((d,.h (s.sub sz i.toNat) ((l.take l.length).drop i.toNat).length) :: e') L' cf2):G (.mk P T hT n c B0 N X Q) K m e L cf:=by
 have hop:o.op=.slice t x (some y) none none:=congrArg Prod.fst ho
 have hb:=(iG hF).1
 have hb2:i.toNat<=l.length/\l.length<=l.length:=by omega
 refine pu hs (congrArg Prod.snd ho) (fun B a w hA hS=>⟨gE sz i.toNat l.length (s.v l.length),by rw [NF hb2.1 hb2.2];simp [dU,gV,bE],fun _ a hA'=>?_⟩) (kk (iG hF).2 hb2)
 obtain⟨h0,h1⟩:=hb
 have h5:max i 0=i:=by omega
 simp [execOp,hop,Instr.sliceAt,Instr.slice,run_underlying (D2 ht hT),Instr.sliceBounds,hA'.eval (Z7 hA hx),hA'.eval (vH hA hy),Instr.sliceBound,asIntOf,hT.size _ _ he,h0,h1,hc,h5,gE]
theorem aKI(hc:l.length<=s.c)(hs:ZZ (iW T n K cf m e L)=some (o,Lv,cf1,cf2,K',m',e',L'))(ho:(o.op,o.dst)=(.slice t x none (some z) none,some d))(ht:yS T t=some ⟨.sl el,b1,n1,z1⟩)(he:yS T el=some ⟨kt,b2,sz,z2⟩)(hx:g9 e' x=some (.h s l.length))(hz:(g9 e' z).bind qS=some (k2,j))(hF:need (0<=j/\j<=(l.length:Int)) A=some q)
  (kk:A=some q->(0<=j.toNat/\j.toNat<=l.length)->G (.mk P T hT n c B0 N X Q) K' m' ((d,.h (s.sub sz 0) ((l.take j.toNat).drop 0).length) :: e') L' cf2):G (.mk P T hT n c B0 N X Q) K m e L cf:=by
 have hop:o.op=.slice t x none (some z) none:=congrArg Prod.fst ho
 have hb:=(iG hF).1
 have hb2:0<=j.toNat/\j.toNat<=l.length:=by omega
 refine pu hs (congrArg Prod.snd ho) (fun B a w hA hS=>⟨gE sz 0 j.toNat (s.v l.length),by rw [NF hb2.1 hb2.2];simp [dU,gV,bE],fun _ a hA'=>?_⟩) (kk (iG hF).2 hb2)
 obtain⟨h0,h1⟩:=hb
 have h3:j<=(s.c:Int):=by omega
 have h5:max j 0=j:=by omega
 simp [execOp,hop,Instr.sliceAt,Instr.slice,run_underlying (D2 ht hT),Instr.sliceBounds,hA'.eval (Z7 hA hx),hA'.eval (vH hA hz),Instr.sliceBound,asIntOf,hT.size _ _ he,h0,h3,h5,gE]
theorem a0M(hc:l.length<=s.c)(hs:ZZ (iW T n K cf m e L)=some (o,Lv,cf1,cf2,K',m',e',L'))(ho:(o.op,o.dst)=(.slice t x none (some z) (some u),some d))(ht:yS T t=some ⟨.sl el,b1,n1,z1⟩)(he:yS T el=some ⟨kt,b2,sz,z2⟩)(hx:g9 e' x=some (.h s l.length))(hz:(g9 e' z).bind qS=some (k2,j))(hu:(g9 e' u).bind qS=some (k3,p))(hF:need (0<=j/\j<=p/\p<=(l.length:Int)) A=some q)
  (kk:A=some q->(0<=j.toNat/\j.toNat<=p.toNat/\p.toNat<=l.length)->G (.mk P T hT n c B0 N X Q) K' m' ((d,.h ⟨(s.sub sz 0).a,p.toNat⟩ ((l.take j.toNat).drop 0).length) :: e') L' cf2):G (.mk P T hT n c B0 N X Q) K m e L cf:=by
 have hop:o.op=.slice t x none (some z) (some u):=congrArg Prod.fst ho
 have hb:=(iG hF).1
 have hb2:0<=j.toNat/\j.toNat<=p.toNat/\p.toNat<=l.length:=by omega
 have hl:=tE (l:=l) (a:=0) (b:=j.toNat) (by omega) (by omega)
 refine pu hs (congrArg Prod.snd ho) (fun B a w hA hS=>⟨AC.v ⟨(s.sub sz 0).a,p.toNat⟩ ((l.take j.toNat).drop 0).length,by simp [dU,gV,bE],fun _ a hA'=>?_⟩) (kk (iG hF).2 hb2)
 obtain⟨h0,h1,h2⟩:=hb
 have h3:p<=(s.c:Int):=by omega
 have h4:0<=p:=by omega
 have h5:max j 0=j:=by omega
 have h6:max p 0=p:=by omega
 rw [hl]
 have hadd:s.a.map (fun x=>x.add 0)=s.a:=by cases s.a <;> simp [Addr.add]
 by_cases hp:p=0
 ·subst hp
  simp [execOp,hop,Instr.sliceAt,Instr.slice,run_underlying (D2 ht hT),Instr.sliceBounds,hA'.eval (Z7 hA hx),hA'.eval (vH hA hz),hA'.eval (vH hA hu),Instr.sliceBound,asIntOf,hT.size _ _ he,h0,h1,h3,h4,h5,h6,AC.sub,hadd]
 ·simp [execOp,hop,Instr.sliceAt,Instr.slice,run_underlying (D2 ht hT),Instr.sliceBounds,hA'.eval (Z7 hA hx),hA'.eval (vH hA hz),hA'.eval (vH hA hu),Instr.sliceBound,asIntOf,hT.size _ _ he,h0,h1,h3,h4,h5,h6,AC.sub,hadd]
end
end
end Go.Gv
end
noncomputable section
namespace Go.Gv
noncomputable section
variable {P:Program} {T:TT} {hT:C9 P T} {n:Nat} {c:Ctx} {B0:Bl} {N:Act->World->Prop} {X:Nat->Act->World->Prop} {Q:Act->World->Prop} {K K':List Fr} {m m':Nat} {e e':SE} {L L' Lv:List Ch} {cf cf' cf1 cf2:rR} {o:Oper} {d:Nat}
theorem aXB{α:Type}[aC α]{B:Bl}{w:World}{R:List Fact}{j a b sz:Nat}{s s':AC}{l l':List α}(hn:aC.n α=sz)(hj:L[j]?=some (ow s l))(hb:a<=b/\b<=l.length)(hl:(l.take b).drop a=l')(hs:∀w F,aC.own w [s.v l.length] l F->∃F',aC.own w [s'.v l'.length] l' F'/\∀b o,F' b o->F b o)(hS:j5 c w B L):j5 c w B (L.set j (ow s' l')):=by
 obtain⟨⟨R,s1,s2⟩,s0⟩:=hS
 refine⟨⟨R,?_,fun z hz=>?_⟩,s0⟩
 ·rw [KE]
  refine s1.SZ j (by rw [BJ,hj];rfl) fun F hF=>?_
  obtain⟨F',h1,h2⟩:=hs w F hF
  exact⟨F',F0,dC.refl _ _,fun _ _ h=>h.elim,h1,fun b o h=>.inl (h2 b o h)⟩
 ·rcases qY hz with hz | hz
  ·exact s2 z hz
  ·subst hz;trivial
theorem aSD{α:Type}[aC α]{s:AC}{l l':List α}{sz a b:Nat}(hn:aC.n α=sz)(hb:a<=b/\b<=l.length)(hl:(l.take b).drop a=l'):∀w F,aC.own w [s.v l.length] l F->∃F',aC.own w [(s.sub sz a).v l'.length] l' F'/\∀b o,F' b o->F b o:=by
 intro w F h
 obtain⟨F',h1,h2⟩:=aL9 hn h hb.1 hb.2
 rw [NF hb.1 hb.2,hl] at h1
 exact⟨F',h1,h2⟩
theorem aSE{α:Type}[aC α]{s:AC}{l l':List α}{sz b p:Nat}(hn:aC.n α=sz)(hb:0<=b/\b<=p/\p<=l.length)(hl:(l.take b).drop 0=l'):∀w F,aC.own w [s.v l.length] l F->∃F',aC.own w [AC.v ⟨(s.sub sz 0).a,p⟩ l'.length] l' F'/\∀b o,F' b o->F b o:=by
 intro w F h
 obtain⟨F',h1,h2⟩:=aQ0 hn h hb.1 hb.2.1 hb.2.2
 have hadd:s.a.map (fun x=>x.add 0)=s.a:=by cases s.a <;> simp [Addr.add]
 have hln:=tE (l:=l) (a:=0) (b:=b) (by omega) (by omega)
 rw [hl] at hln h1
 refine⟨F',?_,h2⟩
 have:aOF sz 0 b p (s.v l.length)=AC.v ⟨(s.sub sz 0).a,p⟩ l'.length:=by
  rw [hln]
  simp only [aOF,AC.v,AC.sub,Nat.zero_mul,hadd,Nat.sub_zero]
  by_cases hp:p=0 <;> simp [hp,hadd]
 rw [this] at h1
 exact h1
theorem poR{Z:Act->World->Prop}{α:Type}[aC α](j a b:Nat){sz:Nat}{s:AC}{l l':List α}(hn:aC.n α=sz)(hj:L[j]?=some (ow s l))(hb:a<=b/\b<=l.length)(hl:(l.take b).drop a=l')
  (kk:∀a' w,mO n c B0 m e (L.set j (ow (s.sub sz a) l')) a' w->Z a' w):∀a' w,mO n c B0 m e L a' w->Z a' w:=by
 intro a' w ⟨B,hm,hA,hS⟩
 exact kk a' w ⟨B,hm,hA,aXB (R:=[]) hn hj hb hl (aSD hn hb hl) hS⟩
theorem pmR{Z:Act->World->Prop}{α:Type}[aC α](j b p:Nat){sz:Nat}{s:AC}{l l':List α}(hn:aC.n α=sz)(hj:L[j]?=some (ow s l))(hb:0<=b/\b<=p/\p<=l.length)(hl:(l.take b).drop 0=l')
  (kk:∀a' w,mO n c B0 m e (L.set j (ow ⟨(s.sub sz 0).a,p⟩ l')) a' w->Z a' w):∀a' w,mO n c B0 m e L a' w->Z a' w:=by
 intro a' w ⟨B,hm,hA,hS⟩
 exact kk a' w ⟨B,hm,hA,aXB (R:=[]) hn hj ⟨by omega,by omega⟩ hl (aSE hn hb hl) hS⟩
theorem aKJ{α:Type}{l xs:List α}{k a n:Nat}(h:k<=n/\n<=l.length)(ha:a<=l.length):k<=n/\n<=(cA l a xs).length:=⟨h.1,by rw [eG ha];exact h.2⟩
theorem aFR{α:Type}{l xs:List α}{k a:Nat}(h:k<=a)(ha:a<=l.length):((cA l a xs).take k).drop 0=(l.take k).drop 0:=by
 simp only [NA,cA]
 rw [WI (by simp;omega),List.take_take,Nat.min_eq_left h]
def AC.aVP(s:AC)(n a p:Nat):AC:=⟨if p=a then s.a else s.a.map (·.add (a * n)),p - a⟩
noncomputable section
variable {x y z:Operand} {t el sz:Nat} {zv:Value} {k1 k2:IntKind} {i j:Int} {α β:Type} [aC α] {A:Option β} {q:β} {s:AC} {l:List α} {b1 b2:Bool} {n1:Nat} {z1 z2:List SV} {kt:TK}
theorem ap2[Flat α](p a b:Nat)(hb:a<=b/\b<=l.length)(hs:iW T n K cf m e L=.op o Lv cf1 cf2 K' m' e' L')(ho:(o.op,o.dst)=(.call {callee:=.builtin .append,args:=#[x,y],argTypes:=#[t,t]},some d))(ht:yS T t=some ⟨.sl el,b1,n1,z1⟩)(he:yS T el=some ⟨kt,b2,sz,z2⟩)(hn:aC.n α=sz)(hp:L'[p]?=some (ow s l))(hz:eZ p cf1.uR=true)(hx:g9 e' x=some (.h (s.sub sz 0) ((l.take a).drop 0).length))(hy:g9 e' y=some (.h (s.sub sz b) ((l.take l.length).drop b).length))
  (k:(0<=a+(l.length - b)/\a+(l.length - b)<=(cA l a (l.drop b)).length)->G (.mk P T hT n c B0 N X Q) K' m' ((d,.h (s.sub sz 0) (((cA l a (l.drop b)).take (a+(l.length - b))).drop 0).length) :: e') (L'.set p (ow s (cA l a (l.drop b)))) cf2):G (.mk P T hT n c B0 N X Q) K m e L cf:=by
 have hlen:(cA l a (l.drop b)).length=l.length:=eG (by omega)
 have hk:0<=a+(l.length - b)/\a+(l.length - b)<=(cA l a (l.drop b)).length:=by omega
 refine fV (g:=.mk P T hT n c B0 N X Q) ?_
 rw [hs]
 intro hdn _ hE
 refine hE Unit (fun _=>m') (fun _=>(d,.h (s.sub sz 0) (((cA l a (l.drop b)).take (a+(l.length - b))).drop 0).length) :: e') (fun _=>L'.set p (ow s (cA l a (l.drop b)))) (fun _=>KV hz) (fun B act w next Q' hm hA hS hnext=>?_) (fun _=>k hk)
 obtain⟨⟨R,s1,s2⟩,s0⟩:=hS
 have hx2:ev (vE (RD (.mk P T hT n c B0 N X Q) cf1++B) e') x=some (gE sz 0 a (s.v l.length)):=by rw [Z7 hA hx,NF (gR a) (qZ hb.1 hb.2)]
 have hy2:ev (vE (RD (.mk P T hT n c B0 N X Q) cf1++B) e') y=some (gE sz b l.length (s.v l.length)):=by rw [Z7 hA hy,NF hb.2 (iC _)]
 have hop:o.op=.call {callee:=.builtin .append,args:=#[x,y],argTypes:=#[t,t]}:=congrArg Prod.fst ho
 have hd:o.dst=some d:=congrArg Prod.snd ho
 obtain⟨v,w',k1,rfl,k2⟩:=aJ3 p s1 (by rw [BJ,hp];rfl) hn hb.1 hb.2 (D2 ht hT) (hT.size _ _ he) hop hx2 hy2
 unfold Oper.wp
 rw [k1 _ act hA.env,Oper.upon_value,hd]
 have hv:dU (RD (.mk P T hT n c B0 N X Q) cf1++B) (.h (s.sub sz 0) (((cA l a (l.drop b)).take (a+(l.length - b))).drop 0).length)=some (gE sz 0 (a+(l.length - b)) (s.v l.length)):=by
  have:=NF (l:=cA l a (l.drop b)) (s:=s) (n:=sz) (k:=l.length) hk.1 hk.2
  rw [this]
  simp [dU,gV,bE]
 refine hnext () _ _ ⟨[],by simpa using hm,by simpa using hA.of hv (hA.env.put (by rw [hd] at hdn;simpa [nS,l6] using hdn) _),?_⟩
 rw [uH]
 refine⟨⟨R,?_,fun z hz=>?_⟩,s0⟩
 ·rw [KE]
  show St c w' ((L'.map _).set p (aW [s.v (cA l a (l.drop b)).length] _)) R
  rw [hlen];exact k2
 ·rcases qY hz with hz | hz
  ·exact s2 z hz
  ·subst hz;trivial
theorem aSF(p k':Nat)(hk:k'<=l.length){l0:List α}(h0:l0.length=k')(hs:ZZ (iW T n K cf m e L)=some (o,Lv,cf1,cf2,K',m',e',L'))(ho:(o.op,o.dst)=(.slice t x (some y) (some z) none,some d))(ht:yS T t=some ⟨.sl el,b1,n1,z1⟩)(he:yS T el=some ⟨kt,b2,sz,z2⟩)(hn:aC.n α=sz)(hp:Lv[p]?=some (ow s l))(hx:g9 e' x=some (.h (s.sub sz 0) l0.length))(hy:(g9 e' y).bind qS=some (k1,i))(hz:(g9 e' z).bind qS=some (k2,j))(hF:need (0<=i/\i<=j/\j<=(l.length:Int)) A=some q)
  (kk:A=some q->(i.toNat<=j.toNat/\j.toNat<=l.length)->G (.mk P T hT n c B0 N X Q) K' m' ((d,.h (s.sub sz i.toNat) ((l.take j.toNat).drop i.toNat).length) :: e') L' cf2):G (.mk P T hT n c B0 N X Q) K m e L cf:=by
 have hop:o.op=.slice t x (some y) (some z) none:=congrArg Prod.fst ho
 have hb:=(iG hF).1
 have hb2:i.toNat<=j.toNat/\j.toNat<=l.length:=by omega
 refine pu hs (congrArg Prod.snd ho) (fun B a w hA hS=>⟨gE sz i.toNat j.toNat (s.v l.length),by rw [NF hb2.1 hb2.2];simp [dU,gV,bE],?_⟩) (kk (iG hF).2 hb2)
 obtain⟨⟨R,s1,s2⟩,s0⟩:=hS
 have hx2:ev (vE B e') x=some (gE sz 0 k' (s.v l.length)):=by
  rw [Z7 hA hx,h0];rfl
 exact aJ4 p s1 (by rw [BJ,hp];rfl) hn (D2 ht hT) (hT.size _ _ he) hb hop hx2 (vH hA hy) (vH hA hz)
theorem clr[Flat α](p a b:Nat)(zd:α)(hb:a<=b/\b<=l.length)(hinf:OK P el sz zv)(hzs:zv.cells.size=sz)(hzd:∀w,aC.rd F0 w zv.cells.toList zd)(hone:(zv.cells.toList.all fun v=>v.oneCell')=true)(hs:iW T n K cf m e L=.op o Lv cf1 cf2 K' m' e' L')(ho:(o.op,o.dst)=(.call {callee:=.builtin .clear,args:=#[x],argTypes:=#[t]},none))(ht:yS T t=some ⟨.sl el,b1,n1,z1⟩)(hn:aC.n α=sz)(hp:L'[p]?=some (ow s l))(hz:eZ p cf1.uR=true)(hx:g9 e' x=some (.h (s.sub sz a) ((l.take b).drop a).length))
  (k:G (.mk P T hT n c B0 N X Q) K' m' e' (L'.set p (ow s (cA l a (List.replicate (b - a) zd)))) cf2):G (.mk P T hT n c B0 N X Q) K m e L cf:=by
 have hlen:(cA l a (List.replicate (b - a) zd)).length=l.length:=eG (by omega)
 refine fV (g:=.mk P T hT n c B0 N X Q) ?_
 rw [hs]
 intro hdn _ hE
 refine hE Unit (fun _=>m') (fun _=>e') (fun _=>L'.set p (ow s (cA l a (List.replicate (b - a) zd)))) (fun _=>KV hz) (fun B act w next Q' hm hA hS hnext=>?_) (fun _=>k)
 obtain⟨⟨R,s1,s2⟩,s0⟩:=hS
 have hx2:ev (vE (RD (.mk P T hT n c B0 N X Q) cf1++B) e') x=some (gE sz a b (s.v l.length)):=by rw [Z7 hA hx,NF hb.1 hb.2]
 have hop:o.op=.call {callee:=.builtin .clear,args:=#[x],argTypes:=#[t]}:=congrArg Prod.fst ho
 have hd:o.dst=none:=congrArg Prod.snd ho
 obtain⟨v,w',k1,rfl,k2⟩:=aQ5 zd p s1 (by rw [BJ,hp];rfl) hn hb.1 hb.2 (D2 ht hT) hinf hzs hzd (fun v hv=>SU.1 hone v hv) hop hx2
 unfold Oper.wp
 rw [k1 _ act hA.env,Oper.upon_value,hd]
 refine hnext () _ _ ⟨[],by simpa using hm,by simpa [Act.put] using hA,?_⟩
 rw [uH]
 refine⟨⟨R,?_,fun z hz=>?_⟩,s0⟩
 ·rw [KE]
  show St c w' ((L'.map _).set p (aW [s.v (cA l a (List.replicate (b - a) zd)).length] _)) R
  rw [hlen];exact k2
 ·rcases qY hz with hz | hz
  ·exact s2 z hz
  ·subst hz;trivial
theorem aKK{u:Operand}{k3:IntKind}{pz:Int}(hc:l.length<=s.c)(hs:ZZ (iW T n K cf m e L)=some (o,Lv,cf1,cf2,K',m',e',L'))(ho:(o.op,o.dst)=(.slice t x (some y) (some z) (some u),some d))(ht:yS T t=some ⟨.sl el,b1,n1,z1⟩)(he:yS T el=some ⟨kt,b2,sz,z2⟩)(hx:g9 e' x=some (.h s l.length))(hy:(g9 e' y).bind qS=some (k1,i))(hz:(g9 e' z).bind qS=some (k2,j))(hu:(g9 e' u).bind qS=some (k3,pz))(hF:need (0<=i/\i<=j/\j<=pz/\pz<=(l.length:Int)) A=some q)
  (kk:A=some q->(i.toNat<=j.toNat/\j.toNat<=pz.toNat/\pz.toNat<=l.length)->G (.mk P T hT n c B0 N X Q) K' m' ((d,.h (s.aVP sz i.toNat pz.toNat) ((l.take j.toNat).drop i.toNat).length) :: e') L' cf2):G (.mk P T hT n c B0 N X Q) K m e L cf:=by
 have hop:o.op=.slice t x (some y) (some z) (some u):=congrArg Prod.fst ho
 have hb:=(iG hF).1
 have hb2:i.toNat<=j.toNat/\j.toNat<=pz.toNat/\pz.toNat<=l.length:=by omega
 have hl:=tE (l:=l) (a:=i.toNat) (b:=j.toNat) (by omega) (by omega)
 refine pu hs (congrArg Prod.snd ho) (fun B a w hA hS=>⟨AC.v (s.aVP sz i.toNat pz.toNat) ((l.take j.toNat).drop i.toNat).length,by simp [dU,gV,bE],fun _ a hA'=>?_⟩) (kk (iG hF).2 hb2)
 obtain⟨h0,h1,h2,h2'⟩:=hb
 have h3:pz<=(s.c:Int):=by omega
 have h4:0<=pz:=by omega
 have h4':0<=j:=by omega
 have h5:max j 0=j:=by omega
 have h6:max pz 0=pz:=by omega
 have h7:max i 0=i:=by omega
 rw [hl]
 by_cases hp:pz.toNat=i.toNat
 ·have:pz=i:=by omega
  subst this
  simp [execOp,hop,Instr.sliceAt,Instr.slice,run_underlying (D2 ht hT),Instr.sliceBounds,hA'.eval (Z7 hA hx),hA'.eval (vH hA hy),hA'.eval (vH hA hz),hA'.eval (vH hA hu),Instr.sliceBound,asIntOf,hT.size _ _ he,h0,h1,h2,h3,h4,h4',h5,h6,h7,AC.aVP]
 ·have hp2:¬pz=i:=fun h=>hp (by rw [h])
  simp [execOp,hop,Instr.sliceAt,Instr.slice,run_underlying (D2 ht hT),Instr.sliceBounds,hA'.eval (Z7 hA hx),hA'.eval (vH hA hy),hA'.eval (vH hA hz),hA'.eval (vH hA hu),Instr.sliceBound,asIntOf,hT.size _ _ he,h0,h1,h2,h3,h4,h4',h5,h6,h7,hp,hp2,AC.aVP]
theorem a2C{t2:Nat}(hs:ZZ (iW T n K cf m e L)=some (o,Lv,cf1,cf2,K',m',e',L'))(ho:(o.op,o.dst)=(.binOp .shl t x y t2,some d))(hx:(g9 e' x).bind qS=some (k1,i))(hy:(g9 e' y).bind qS=some (k2,j))(hF:need (0<=j) A=some q)
  (kk:A=some q->G (.mk P T hT n c B0 N X Q) K' m' ((d,.i k1 (ZN k1 i j)) :: e') L' cf2):G (.mk P T hT n c B0 N X Q) K m e L cf:=
 pu hs (congrArg Prod.snd ho) (fun B a w hA _=>⟨_,rfl,aP3 (congrArg Prod.fst ho) (vH hA hx) (vH hA hy) (by have:=(iG hF).1;omega)⟩) (kk (iG hF).2)
theorem eqn{t2:Nat}{ln:Nat}(hs:ZZ (iW T n K cf m e L)=some (o,Lv,cf1,cf2,K',m',e',L'))(ho:(o.op,o.dst)=(.binOp .eql t x (.const (.slice none 0 0)) t2,some d))(ht:yS T t=some ⟨.sl el,b1,n1,z1⟩)(hx:g9 e' x=some (.h s ln))
  (kt:s.a=none->G (.mk P T hT n c B0 N X Q) K' m' ((d,.l true) :: e') L' cf2) (kf:G (.mk P T hT n c B0 N X Q) K' m' ((d,.l false) :: e') L' cf2):G (.mk P T hT n c B0 N X Q) K m e L cf:=by
 cases hs':s.a with
 | none=>exact pu hs (congrArg Prod.snd ho) (fun B a w hA _=>⟨_,rfl,aJ0 (D2 ht hT) ⟨ln,s.c,by simp [AC.v,hs']⟩ (congrArg Prod.fst ho) (Z7 hA hx) rfl⟩) (kt hs')
 | some ad=>exact pu hs (congrArg Prod.snd ho) (fun B a w hA _=>⟨_,rfl,aJ1 (D2 ht hT) ⟨ad,ln,s.c,by simp [AC.v,hs']⟩ (congrArg Prod.fst ho) (Z7 hA hx) rfl⟩) kf
theorem cln{w:Ctx}{r:List α}(h:cZ w s l)(hn:s.a=none)(hF:need (([]:List α).length+l.length<=1073741824) (some (([]:List α)++l))=some r):some ([]:List α)=some r:=by
 obtain⟨ad,cp,h1,h2,h3,h4⟩:=(show rA w.S0 w.w0 [s.v l.length] l from h)
 have:l=[]:=by
  rcases h4 with h4 | ⟨b,off,h4,_⟩
  ·exact h4
  ·simp only [AC.v,List.cons.injEq,Value.slice.injEq] at h1
   rw [hn,h4] at h1
   exact absurd h1.1.1 (by simp)
 subst this
 simpa [need] using hF
end
noncomputable section
variable {x y:Operand} {t el sz:Nat} {zv:Value} {b1:Bool} {n1:Nat} {z1:List SV}
theorem QN{α:Type}[aC α](E:CO α)(is:List Nat)(q:α)(ye:E.ex)(hinf:OK P el sz zv)(hs:iW T n K cf m e L=.op o Lv cf1 cf2 K' m' e' L')(ho:(o.op,o.dst)=(.buildSlice t 1 #[(0,x)],some d))(ht:yS T t=some ⟨.sl el,b1,n1,z1⟩)(hn:aC.n α=sz)(hm:Nat.ble 1 sz=true)(hm2:Nat.ble sz 16777216=true)(hx:(g9 e' x).map (fun v=>nbL (m0 v))=some (E.cs q ye))(hxc:(g9 e' x).map isCells=some true)(hle:(E.cs q ye).length=sz)(hec:(aR (bE []) (E.cs q ye)).isSome=true)(hi:aR (fun i=>L'[i]?) is=some (E.Lx q ye))(ha:cJ is=true)(hz:(is.all fun j=>eZ j cf1.uR)=true)
  (k:∀s':AC,G (.mk P T hT n c B0 N X Q) K' m' ((d,.h s' [q].length) :: e') (D3 L' is ++ [ow s' [q]]) cf2):G (.mk P T hT n c B0 N X Q) K m e L cf:=by
 obtain⟨ec,hec⟩:=ZK.1 hec
 refine aKE (l:=[q]) (fun s'=>D3 L' is ++ [ow s' [q]]) hs (congrArg Prod.snd ho) (fun _=>L5 _ hz) (fun B a w hA hS=>?_) k
 obtain⟨⟨R,s1,s2⟩,s0⟩:=hS
 have hecl:ec.length=sz:=by rw [jR hec,hle]
 cases hxv:g9 e' x with
 | none=>rw [hxv] at hx;cases hx
 | some xv =>
  rw [hxv] at hx hxc
  simp at hx hxc
  obtain⟨v,v1,v2⟩:=dP hA hxv
  have hcell:aR (bE B) (m0 xv)=some ec:=by
   rw [<-QJ,hx];exact dN (fun x v h=>by simpa using eR (B:=[]) B h) hec
  have hvc:v.cells.toList=ec:=KT v1 hcell
  have p1:=s1.shift is ha (A':=[aW ec q]) fun F hF=>by
   rw [H8 hi,E.nb] at hF
   exact Sep.one.2 ((E.pk hec w F).2 hF)
  have hlen:(blank (L'.map (jA B)) is).length=L'.length:=by rw [<-CC];simp [Y2]
  obtain⟨v',w',k1,k2⟩:=aUS (e:=vE B e') (o:=o) (ps:=[(0,x)]) (vs:=[v]) (cells:=ec) [q] p1 [L'.length] rfl ⟨[],by
    simp only [pick,BI (NC hlen),hlen,Nat.sub_self]
    rw [show ec.take sz=ec by rw [<-hecl];exact OR]
    rfl,by rw [yN,hecl];omega,⟨by rw [<-hecl];exact List.drop_length,rfl⟩⟩ hn (D2 ht hT) hinf rfl hm (by simpa using hm2) (congrArg Prod.fst ho) (by simp [ZP,v2]) (ZX (vs:=[v]) (ps:=[(0,x)]) rfl rfl (by simp;rw [<-Array.length_toList,hvc,hecl]) (by simp [hvc]))
  have hb2:blank (blank (L'.map (jA B)) is ++ [aW ec q]) [L'.length]=blank (L'.map (jA B)) is ++ [DZ]:=by
   simp only [blank]
   rw [List.set_append_right _ _ (by omega),hlen];simp
  rw [hb2] at k2
  obtain⟨s',rfl⟩:=VA (v:=v') (l:=[q]) k2 (L'.length+1) (by rw [BI (by simp [hlen])];simp [hlen])
  refine⟨s',w',k1,⟨⟨R,?_,fun z hz=>?_⟩,s0⟩⟩
  ·have k3:=k2.KN ((List.range L'.length) ++ [L'.length+1]) ?_
   ·refine k3.imp ?_
    rw [uI,CC,TC]
    refine iH.append ?_ ?_
    ·have:pick (blank (L'.map (jA B)) is ++ [DZ] ++ [aW [s'.v [q].length] [q]]) (List.range L'.length)=blank (L'.map (jA B)) is:=by
      have gen:∀(M M':List Chunk) (j:Nat),pick (M++M') ((List.range j))=(M++M').take j\/¬j<=(M++M').length:=by
       intro M M' j
       by_cases hj:j<=(M++M').length
       ·left
        induction j with
        | zero=>rfl
        | succ j ih =>
         rw [List.range_succ,TC,ih (by omega)]
         simp only [pick]
         rw [List.take_add_one,fO (by omega)]
         rfl
       ·exact .inr hj
      rcases gen (blank (L'.map (jA B)) is ++ [DZ]) [aW [s'.v [q].length] [q]] L'.length with h | h
      ·rw [h,qR,WI (by omega),<-hlen,OR]
      ·exact absurd (by simp [hlen]) h
     rw [this];exact iH.refl _
    ·simp only [pick]
     rw [BI (by simp [hlen])]
     simp [hlen,jA]
     try exact iH.refl _
   ·have gen:∀(j:Nat),cJ (List.range' j (L'.length - j) ++ [L'.length+1])=true:=by
     intro j
     generalize hk:L'.length - j=k
     induction k generalizing j with
     | zero=>rfl
     | succ k ih =>
      rw [List.range'_succ,ON]
      simp only [cJ,xM,SU,Bool.not_eq_true']
      refine⟨fun i hi=>?_,ih (j+1) (by omega)⟩
      cases hb:Nat.beq j i with
      | false=>rfl
      | true =>
       have:=i5 hb
       subst this
       rcases eX.1 hi with hi | hi
       ·rw [List.mem_range'] at hi
        obtain⟨p,_,hp⟩:=hi
        omega
       ·simp at hi;omega
    have:=gen 0
    rwa [Nat.sub_zero,<-List.range_eq_range'] at this
  ·rcases eX.1 hz with hz | hz
   ·rcases H7 _ _ hz with hz | hz
    ·exact s2 z hz
    ·subst hz;trivial
   ·simp at hz;subst hz;trivial
theorem W4{α β:Type}[aC α]{A:Option β}{q:β}{s s2:AC}{l xs:List α}(i j:Nat)(hinf:OK P el sz zv)(hs:iW T n K cf m e L=.op o Lv cf1 cf2 K' m' e' L')(ho:(o.op,o.dst)=(.call {callee:=.builtin .append,args:=#[x,y],argTypes:=#[t,t]},some d))(ht:yS T t=some ⟨.sl el,b1,n1,z1⟩)(hn:aC.n α=sz)(hzs:zv.cells.size=sz)(hi:L'[i]?=some (ow s l))(hj:L'[j]?=some (ow s2 xs))(ha:cJ [i,j]=true)(hz:([i,j].all fun j=>eZ j cf1.uR)=true)(hx:g9 e' x=some (.h s l.length))(hy:g9 e' y=some (.h s2 xs.length))(hF:need (l.length+xs.length<=1073741824) A=some q)
  (k:A=some q->∀s':AC,G (.mk P T hT n c B0 N X Q) K' m' ((d,.h s' (l++xs).length) :: e') (D3 L' [i,j] ++ [ow s' (l++xs)]) cf2):G (.mk P T hT n c B0 N X Q) K m e L cf:=by
 refine aKE (l:=l++xs) (fun s'=>D3 L' [i,j] ++ [ow s' (l++xs)]) hs (congrArg Prod.snd ho) (fun _=>L5 _ hz) (fun B a w hA hS=>?_) (k (iG hF).2)
 obtain⟨⟨R,s1,s2'⟩,s0⟩:=hS
 have hp:pick (L'.map (jA B)) [i,j]=[aW [s.v l.length] l,aW [s2.v xs.length] xs]:=by simp [pick,hi,hj,jA]
 obtain⟨v,w',k1,k2⟩:=aUT [i,j] s1 ha hp hn (D2 ht hT) hinf hzs (iG hF).1 (congrArg Prod.fst ho) (Z7 hA hx) (Z7 hA hy)
 have hlen:(blank (L'.map (jA B)) [i,j]).length=L'.length:=by rw [<-CC];simp [Y2]
 obtain⟨s',rfl⟩:=VA k2 L'.length (by rw [BI (NC hlen),hlen,Nat.sub_self];rfl)
 refine⟨s',w',k1,⟨⟨R,?_,fun z hz=>?_⟩,s0⟩⟩
 ·rw [uI,CC];exact k2
 ·rcases eX.1 hz with hz | hz
  ·rcases H7 _ _ hz with hz | hz
   ·exact s2' z hz
   ·subst hz;trivial
  ·simp at hz;subst hz;trivial
end
theorem kb{b cb:Bool}(ss:List Nat)(hb:b=cb)(hs:QY (iW T n K cf m e L)=some (K',cf',m',e',L'))(ho:aR (BV e') ss=some (ss.map fun _=>SV.b b))(k:G (.mk P T hT n c B0 N X Q) K' m' (ovr cb e' ss) L' cf'):G (.mk P T hT n c B0 N X Q) K m e L cf:=
 go hs (aKB (fun a B hA=>Y0 hb ss ho hA) k)
def rhE(v:SV)(e:SE):List (Nat×Nat)->SE
 | []=>e
 | (k, j) :: r => match BV e k with
  | some (.g cs)=>(k,.g (ZY cs j [v])) :: rhE v e r
  | some (.t cs)=>(k,.t (ZY cs j [v])) :: rhE v e r
  | _=>rhE v e r
def rhL(v:SV)(L:List Ch):List (Nat×Nat)->List Ch
 | []=>L
 | (k, j) :: r => match L[k]? with
  | some (.box n cs)=>rhL v (L.set k (.box n (ZY cs j [v]))) r
  | _=>rhL v L r
theorem Y3{B:Bl}{f:Bl->SV->Option Value}{u v:SV}(huv:∀B,f B u=f B v):∀{cs:List SV} {j:Nat},cs[j]?=some u->aR (f B) (ZY cs j [v])=aR (f B) cs
 | [],j,h=>by simp at h
 | x :: cs, 0, h => by
  simp at h;subst h
  show aR (f B) (v :: ZY cs 0 [])=_
  rw [aFC]
  simp only [aR,huv]
 | x :: cs, j + 1, h => by
  show aR (f B) (x :: ZY cs j [v])=_
  simp only [aR,Y3 (B:=B) huv (show cs[j]?=some u by simpa using h)]
theorem aSG{s:AC}{n0 n1:Nat}(hn:n0=n1){B:Bl}:∀{ps:List (Nat×Nat)} {k:Nat} {x:SV},(∀p∈ps,∃cs,(BV e p.1=some (.g cs)\/BV e p.1=some (.t cs))/\cs[p.2]?=some (.h s n0))->BV (rhE (.h s n1) e ps) k=some x->∃y,BV e k=some y/\dU B x=dU B y
 | [],k,x,_,h=>⟨x,h,rfl⟩
 | (k', j) :: r, k, x, hp, h => by
  have ih:=fun h=>aSG hn (B:=B) (ps:=r) (k:=k) (x:=x) (fun p hp'=>hp p (mL _ hp')) h
  obtain⟨cs,h1,h2⟩:=hp (k',j) (by simp)
  have hc:∀B,bE B (.h s n0)=bE B (.h s n1):=fun B=>by rw [hn]
  have hg:∀B,gV B (.h s n0)=gV B (.h s n1):=fun B=>by rw [hn]
  rcases h1 with h1 | h1
  ·simp only [rhE,h1,BV] at h
   split at h
   ·rename_i hb
    cases h
    have:=i5 hb
    subst this
    exact⟨_,h1,by simp only [dU,gV,Y3 (f:=bE) hc h2]⟩
   ·exact ih h
  ·simp only [rhE,h1,BV] at h
   split at h
   ·rename_i hb
    cases h
    have:=i5 hb
    subst this
    exact⟨_,h1,by simp only [dU,Y3 (f:=gV) hg h2]⟩
   ·exact ih h
theorem aM3{s:AC}{n0 n1:Nat}(hn:n0=n1){B:Bl}{w:World}{R:List Fact}:∀{ps:List (Nat×Nat)} {L:List Ch},(∀p∈ps,∃k cs,L[p.1]?=some (.box k cs)/\cs[p.2]?=some (.h s n0))->cJ (ps.map (·.1))=true->iH w (L.map (jA B)) ((rhL (.h s n1) L ps).map (jA B))/\((∀x∈L,roF B R x)->∀x∈rhL (.h s n1) L ps,roF B R x)
 | [],L,_,_=>⟨iH.refl _,fun h=>h⟩
 | (i, j) :: r, L, hp, ha => by
  obtain⟨k,cs,h1,h2⟩:=hp (i,j) (by simp)
  have hc:∀B,bE B (.h s n0)=bE B (.h s n1):=fun B=>by rw [hn]
  simp only [C7,cJ,xM] at ha
  have ih:=aM3 hn (B:=B) (w:=w) (R:=R) (ps:=r) (L:=L.set i (.box k (ZY cs j [.h s n1]))) (fun p hp'=>by
   obtain⟨k',cs',h3,h4⟩:=hp p (mL _ hp')
   have hne:i≠p.1:=fun he=>by
    have:=SU.1 ha.1 p.1 (List.mem_map_of_mem hp')
    rw [he] at this;simp at this
   exact⟨k',cs',by rw [OQ hne];exact h3,h4⟩) ha.2
  simp only [rhL,h1]
  refine⟨?_,fun h=>ih.2 fun x hx=>?_⟩
  ·have h5:iH w (L.map (jA B)) ((L.set i (.box k (ZY cs j [.h s n1]))).map (jA B)):=by
    rw [KE]
    exact iH.put (a:=LZ B k cs) (b:=LZ B k (ZY cs j [.h s n1])) i (by rw [BJ,h1];rfl) fun F ⟨b,z,vs,q1,q2,q3⟩=>⟨b,z,vs,q1,by rw [Y3 (f:=bE) hc h2];exact q2,q3⟩
   have tr:∀{A B C:List Chunk},iH w A B->iH w B C->iH w A C:=by
    intro A B C h1
    induction h1 generalizing C with
    | nil=>exact fun h=>h
    | cons h t ih=>intro h2;cases h2 with | cons h' t'=>exact .cons (fun F hF=>h' F (h F hF)) (ih t')
   exact tr h5 ih.1
  ·rcases qY hx with hx | hx
   ·exact h x hx
   ·subst hx;trivial
def atE(e:SE)(p:Nat×Nat):Option SV:=match BV e p.1 with
 | some (.g cs)=>cs[p.2]?
 | some (.t cs)=>cs[p.2]?
 | _=>none
def atL(L:List Ch)(p:Nat×Nat):Option SV:=match L[p.1]? with
 | some (.box _ cs)=>cs[p.2]?
 | _=>none
theorem aSH{B:Bl}{a:Act}{w:World}(s:AC){n0 n1:Nat}(hn:n0=n1){ps qs:List (Nat×Nat)}(hp:aR (atE e) ps=some (ps.map fun _=>.h s n0))(hq:aR (atL L) qs=some (qs.map fun _=>.h s n0))(ha:cJ (qs.map (·.1))=true)(hA:fI n B e a)(hS:j5 c w B L):fI n B (rhE (.h s n1) e ps) a/\j5 c w B (rhL (.h s n1) L qs):=by
 have key:∀{γ:Type} {f:γ->Option SV} {ps:List γ},aR f ps=some (ps.map fun _=>.h s n0)->∀p∈ps,f p=some (.h s n0):=by
  intro γ f ps
  induction ps with
  | nil=>intro _ p hp;cases hp
  | cons q ps ih =>
   intro h p hp
   simp only [aR,C7] at h
   split at h
   ·cases h
   ·rename_i h1
    split at h
    ·cases h
    ·rename_i h2
     cases h
     rcases gI.1 hp with hp | hp
     ·subst hp;exact h1
     ·exact ih h2 p hp
 refine⟨⟨hA.d,hA.size,fun k x hk=>?_⟩,?_⟩
 ·obtain⟨y,h1,h2⟩:=aSG hn (B:=B) (fun p hp'=>by
   have:=key hp p hp'
   unfold atE at this
   split at this
   ·rename_i cs hc;exact⟨cs,.inl hc,this⟩
   ·rename_i cs hc;exact⟨cs,.inr hc,this⟩
   ·cases this) hk
  obtain⟨v,h3,h4⟩:=hA.get k y h1
  exact⟨v,by rw [h2];exact h3,h4⟩
 ·obtain⟨⟨R,s1,s2⟩,s0⟩:=hS
  obtain⟨h1,h2⟩:=aM3 hn (B:=B) (w:=w) (R:=R) (L:=L) (fun p hp'=>by
   have:=key hq p hp'
   unfold atL at this
   split at this
   ·rename_i k cs hc;exact⟨k,cs,hc,this⟩
   ·cases this) ha
  exact⟨⟨R,s1.imp h1,h2 s2⟩,s0⟩
theorem Y4{g:Gx}{cf:rR}{v:SV}:∀{qs:List (Nat×Nat)} {L M:List Ch},Frz g cf L M->((qs.map (·.1)).all fun j=>eZ j cf.uR)=true->Frz g cf L (rhL v M qs)
 | [],L,M,h,_=>h
 | (i, j) :: r, L, M, h, hz => by
  simp only [C7,ZD,xM] at hz
  simp only [rhL]
  split
  ·exact Y4 (qs:=r) (aHV h hz.1) hz.2
  ·exact Y4 (qs:=r) h hz.2
theorem nT{Z:Act->World->Prop}(s:AC){n0 n1:Nat}(hn:n0=n1)(ps qs:List (Nat×Nat))(hp:aR (atE e) ps=some (ps.map fun _=>.h s n0))(hq:aR (atL L) qs=some (qs.map fun _=>.h s n0))(ha:cJ (qs.map (·.1))=true)
  (kk:∀a w,mO n c B0 m (rhE (.h s n1) e ps) (rhL (.h s n1) L qs) a w->Z a w):∀a w,mO n c B0 m e L a w->Z a w:=by
 intro a w ⟨B,hm,hA,hS⟩
 obtain⟨h1,h2⟩:=aSH s hn hp hq ha hA hS
 exact kk a w ⟨B,hm,h1,h2⟩
end
end Go.Gv
end
noncomputable section
namespace Go.Gv
noncomputable section
variable {P:Program} {T:TT} {hT:C9 P T} {n:Nat} {c:Ctx} {B0:Bl} {N:Act->World->Prop} {X:Nat->Act->World->Prop} {Q:Act->World->Prop} {K K':List Fr} {m m':Nat} {e e':SE} {L L' Lv:List Ch} {cf cf' cf1 cf2:rR} {o:Oper} {d:Nat}
noncomputable section
variable {x:Operand} {t t2 el sz:Nat} {b1 b2 b3:Bool} {n1 n2 n3:Nat} {z1 z2 z3:List SV}
theorem qbo(p:Nat){s:AC}{l:List UInt8}(hs:ZZ (iW T n K cf m e L)=some (o,Lv,cf1,cf2,K',m',e',L'))(ho:(o.op,o.dst)=(.convert t t2 x,some d))(ht:yS T t=some ⟨.sl el,b1,n1,z1⟩)(he:yS T el=some ⟨.i .u8,b2,n2,z2⟩)(h2:yS T t2=some ⟨.s,b3,n3,z3⟩)(hp:Lv[p]?=some (ow s l))(hx:g9 e' x=some (.h s l.length))
  (kk:G (.mk P T hT n c B0 N X Q) K' m' ((d,.s l) :: e') L' cf2):G (.mk P T hT n c B0 N X Q) K m e L cf:=by
 refine pu hs (congrArg Prod.snd ho) (fun B a w hA hS=>⟨_,rfl,?_⟩) kk
 obtain⟨⟨R,s1,s2⟩,s0⟩:=hS
 have hr:=s1.aL2 (cs:=[s.v l.length]) (d:=l) p (by simp [hp,jA])
 obtain⟨de,q1,q2⟩:=hT.und _ _ he
 exact aX1 hr (D2 ht hT) (by rw [q1];simp only at q2;rw [q2]) (a0I h2 hT) (congrArg Prod.fst ho) (Z7 hA hx)
theorem aVQ{α:Type}[aC α](E:CO α){q:α}{y:E.ex}{ec:List Value}(h:aR (bE []) (E.cs q y)=some ec)(hL:E.Lx q y=[])(w:World):aC.rd F0 w ec q:=by
 have:=(E.pk h w F0).2 (by rw [hL];exact fun _ _ h=>h)
 exact aC.own_rd this
theorem lits{α:Type}[aC α](E:CO α)(y:E.ex){sz:Nat}{B:Bl}{a:Act}(hA:fI n B e a)(hL:∀q,E.Lx q y=[]):∀{ps:List (Nat×Operand)} {qs:List α},aR (fun p=>(g9 e p.2).map fun v=>nbL (m0 v)) ps=some (qs.map fun q=>E.cs q y)->(qs.all fun q=>Nat.beq (E.cs q y).length sz && (aR (bE []) (E.cs q y)).isSome)=true ->
  ∃vs cells,ZP (vE B e) (ps.map (·.2))=some vs/\vs.length=ps.length/\(vs.all fun v=>v.cells.size == sz)=true/\(vs.flatMap fun v=>v.cells.toList)=cells/\aDV sz cells qs
 | [],[],_,_=>⟨[],[],rfl,rfl,rfl,rfl,rfl⟩
 | [],q :: qs,h,_=>by cases h
 | p :: ps, [], h, _ => by
  simp only [aR] at h
  split at h
  ·cases h
  ·split at h <;> cases h
 | p :: ps, q :: qs, h, hc => by
  simp only [aR,C7] at h
  split at h
  ·cases h
  ·rename_i c0 h1
   split at h
   ·cases h
   ·rename_i cs h2
    simp only [Option.some.injEq,List.cons.injEq] at h
    obtain⟨rfl,rfl⟩:=h
    simp only [ZD,xM] at hc
    obtain⟨⟨hl,hsome⟩,hc⟩:=hc
    obtain⟨vs,cells,g1,g2,g3,g4,g5⟩:=lits E y hA hL h2 (by simpa using hc)
    obtain⟨ec,hec⟩:=ZK.1 hsome
    cases hxv:g9 e p.2 with
    | none=>rw [hxv] at h1;cases h1
    | some xv =>
     rw [hxv] at h1
     simp at h1
     obtain⟨v,v1,v2⟩:=dP hA hxv
     have hcell:aR (bE B) (m0 xv)=some ec:=by
      rw [<-QJ,h1];exact dN (fun x v h=>by simpa using eR (B:=[]) B h) hec
     have hvc:v.cells.toList=ec:=KT v1 hcell
     have hecl:ec.length=sz:=by rw [jR hec];exact i5 hl
     refine⟨v :: vs,ec++cells,by simp [ZP,v2,g1],by simp [g2],?_,by simp [hvc,g4],?_,?_⟩
     ·rw [ZD,g3,<-Array.length_toList,hvc,hecl];simp
     ·rw [WI (NC hecl.symm),<-hecl,OR]
      exact aVQ E hec (hL q) _
     ·rw [List.drop_append_of_le_length (NC hecl.symm),<-hecl,List.drop_length,ZJ,hecl]
      exact g5
theorem ltK{α:Type}[aC α][Flat α](E:CO α)(y:E.ex)(qs:List α){len:Nat}{ps:List (Nat×Operand)}{zv:Value}(hinf:OK P el sz zv)(hs:iW T n K cf m e L=.op o Lv cf1 cf2 K' m' e' L')(ho:(o.op,o.dst)=(.buildSlice t len ⟨ps⟩,some d))(ht:yS T t=some ⟨.sl el,b1,n1,z1⟩)(hn:aC.n α=sz)(hl:qs.length=len)(hm:Nat.ble 1 sz=true)(hsm:Nat.ble (len * sz) 16777216=true)(hix:ps.map (·.1)=List.range' 0 len)(hev:aR (fun p=>(g9 e' p.2).map fun v=>nbL (m0 v)) ps=some (qs.map fun q=>E.cs q y))(hec:(qs.all fun q=>Nat.beq (E.cs q y).length sz && (aR (bE []) (E.cs q y)).isSome)=true)(hL:∀q,E.Lx q y=[])
  (k:∀s':AC,G (.mk P T hT n c B0 N X Q) K' m' ((d,.h s' qs.length) :: e') (L' ++ [ow s' qs]) cf2):G (.mk P T hT n c B0 N X Q) K m e L cf:=by
 refine aKE (l:=qs) (fun s'=>L' ++ [ow s' qs]) hs (congrArg Prod.snd ho) (fun _=>tG _) (fun B a w hA hS=>?_) k
 obtain⟨⟨R,s1,s2⟩,s0⟩:=hS
 obtain⟨vs,cells,g1,g2,g3,g4,g5⟩:=lits E y (sz:=sz) hA hL hev hec
 have hpl:ps.length=len:=by
  have:=congrArg List.length hix
  simpa using this
 obtain⟨v,w',k1,k2⟩:=aJY (e:=vE B e') (o:=o) (ps:=ps) (vs:=vs) (cells:=cells) qs s1 hn (D2 ht hT) hinf hl hm hsm g5 (congrArg Prod.fst ho) g1 (ZX hix (by rw [g2,hpl]) g3 g4)
 obtain⟨s',rfl⟩:=VA (v:=v) (l:=qs) k2 (L'.map (jA B)).length (by simp)
 refine⟨s',w',k1,⟨⟨R,by simpa [jA] using k2,fun z hz=>?_⟩,s0⟩⟩
 rcases eX.1 hz with hz | hz
 ·exact s2 z hz
 ·simp at hz;subst hz;trivial
end
end
end Go.Gv
end
noncomputable section
namespace Go.Gv
theorem a0Q{P:Program}{f:FuncId}{κ:Ctx}{xs:List SV}{ρ:Type}{sv:ρ->SV}{r:ρ}(hcall:∀args w,(callFunc f args).run P w=.ok (.enter f args) w)
  (H:(∀f:Fact,f.P κ.S0 κ.w0->f.P (KH κ.w0) κ.w0)->∀vs,aR (dU []) xs=some vs->Calls P f vs.toArray κ.w0 (Ret fun v w'=>dU [] (sv r)=some v/\St (bT κ.w0) w' [] [])):Fn0 P f κ xs sv r:=
 ⟨hcall,fun vs hv hS=>Calls.mono (H (fun f hf=>f.mono hf fun b o hb=>hS.s0 b o hb) vs hv) fun en w' ⟨v,h1,h2,h3⟩=>⟨v,h1,(),h2,hS.aRX h3.keep⟩⟩
noncomputable section
variable {P:Program} {T:TT} {hT:C9 P T} {n:Nat} {c:Ctx} {B0:Bl} {N:Act->World->Prop} {X:Nat->Act->World->Prop} {Q:Act->World->Prop} {K K':List Fr} {m m':Nat} {e e':SE} {L L' Lv:List Ch} {cf cf' cf1 cf2:rR} {o:Oper} {d:Nat}
theorem un{α:Type}[aC α](j:Nat)(ks:List Nat)(ps qs:List (Nat×Nat)){s:AC}{n0:Nat}{l:List α}(hj:L[j]?=some (.o (aW [s.v n0] l)))(hz:eZ j cf.uR=true)(hk:aR (BV e) ks=some (ks.map fun _=>.h s n0))(hp:aR (atE (ovh (.h s l.length) e ks)) ps=some (ps.map fun _=>.h s n0))(hq:aR (atL (L.set j (ow s l))) qs=some (qs.map fun _=>.h s n0))(ha:(cJ (qs.map (·.1)) && (qs.map (·.1)).all fun j=>eZ j cf.uR)=true)
  (k:l.length=n0->G (.mk P T hT n c B0 N X Q) K m (rhE (.h s l.length) (ovh (.h s l.length) e ks) ps) (rhL (.h s l.length) (L.set j (ow s l)) qs) cf):G (.mk P T hT n c B0 N X Q) K m e L cf:=by
 rw [xM] at ha
 refine chg (fun _:PLift (l.length=n0)=>m) (fun _=>rhE (.h s l.length) (ovh (.h s l.length) e ks) ps) (fun _=>rhL (.h s l.length) (L.set j (ow s l)) qs) (fun B a w hm hA hS=>?_) (fun _=>Y4 (KV hz) ha.2) (fun h=>k h.down)
 have hn:l.length=n0:=by
  obtain⟨⟨R,s1,s2⟩,s0⟩:=hS
  obtain⟨F,hF⟩:=s1.chunk (ch:=aW [s.v n0] l) j (by simp [hj,jA])
  obtain⟨ad,cp,h1,h2⟩:=FX (show aC.own w [s.v n0] l F from hF)
  simp only [AC.v,Value.slice.injEq] at h1
  exact h1.2.1.symm
 subst hn
 have hS':j5 c w B (L.set j (ow s l)):=by
  have:L.set j (ow s l)=L:=by
   obtain⟨hl,he⟩:=g7.1 hj
   show L.set j (.o (aW [s.v l.length] l))=L
   rw [<-he];exact aDP hl
  rw [this];exact hS
 obtain⟨h1,h2⟩:=aSH s rfl hp hq ha.1 (aFM ks hk hA) hS'
 exact⟨⟨rfl⟩,[],by simpa using hm,by simpa using h1,by simpa using h2⟩
theorem rr(s:AC){n0 n1:Nat}(hn:n0=n1)(ks:List Nat)(ps qs:List (Nat×Nat))(hk:aR (BV e) ks=some (ks.map fun _=>.h s n0))(hp:aR (atE (ovh (.h s n1) e ks)) ps=some (ps.map fun _=>.h s n0))(hq:aR (atL L) qs=some (qs.map fun _=>.h s n0))(ha:(cJ (qs.map (·.1)) && (qs.map (·.1)).all fun j=>eZ j cf.uR)=true)
  (k:G (.mk P T hT n c B0 N X Q) K m (rhE (.h s n1) (ovh (.h s n1) e ks) ps) (rhL (.h s n1) L qs) cf):G (.mk P T hT n c B0 N X Q) K m e L cf:=by
 rw [xM] at ha
 subst hn
 refine chg (fun _:Unit=>m) (fun _=>rhE (.h s n0) (ovh (.h s n0) e ks) ps) (fun _=>rhL (.h s n0) L qs) (fun B a w hm hA hS=>?_) (fun _=>Y4 (by simpa using tG (L:=L) []) ha.2) (fun _=>k)
 obtain⟨h1,h2⟩:=aSH s rfl hp hq ha.1 (aFM ks hk hA) hS
 exact⟨(),[],by simpa using hm,by simpa using h1,by simpa using h2⟩
theorem cpy{d:Option Nat}{x y:Operand}{t t2 el sz:Nat}{α:Type}[aC α][Flat α]{s s2:AC}{l xs:List α}{b1 b2:Bool}{n1:Nat}{z1 z2:List SV}{kt:TK}(p a:Nat)(hb:a<=l.length/\l.length<=l.length)(hsrc:∀{w},HS c w L'->cZ (bT w) s2 xs)(hs:iW T n K cf m e L=.op o Lv cf1 cf2 K' m' e' L')(ho:(o.op,o.dst)=(.call {callee:=.builtin .copy,args:=#[x,y],argTypes:=#[t,t2]},d))(ht:yS T t=some ⟨.sl el,b1,n1,z1⟩)(he:yS T el=some ⟨kt,b2,sz,z2⟩)(hn:aC.n α=sz)(hp:(L'[p]?,eZ p cf1.uR)=(some (ow s l),true))(hx:g9 e' x=some (.h (s.sub sz a) ((l.take l.length).drop a).length))(hy:g9 e' y=some (.h s2 xs.length))
  (k:G (.mk P T hT n c B0 N X Q) K' m' (W3 d (.i .i64 ((min xs.length (l.length - a):Nat):Int)) e') (L'.set p (ow s (cA l a xs))) cf2):G (.mk P T hT n c B0 N X Q) K m e L cf:=by
 have hp1:L'[p]?=some (ow s l):=congrArg Prod.fst hp
 have hz:eZ p cf1.uR=true:=congrArg Prod.snd hp
 have hlen:(cA l a xs).length=l.length:=eG hb.1
 refine fV (g:=.mk P T hT n c B0 N X Q) ?_
 rw [hs]
 intro hdn _ hE
 refine hE Unit (fun _=>m') (fun _=>W3 d (.i .i64 ((min xs.length (l.length - a):Nat):Int)) e') (fun _=>L'.set p (ow s (cA l a xs))) (fun _=>KV hz) (fun B act w next Q' hm hA hS hnext=>?_) (fun _=>k)
 have hr:cZ (bT w) s2 xs:=hsrc ⟨_,hS⟩
 obtain⟨⟨R,s1,s2'⟩,s0⟩:=hS
 have hx2:ev (vE (RD (.mk P T hT n c B0 N X Q) cf1++B) e') x=some (gE sz a l.length (s.v l.length)):=by rw [Z7 hA hx,NF hb.1 hb.2]
 have hop:o.op=.call {callee:=.builtin .copy,args:=#[x,y],argTypes:=#[t,t2]}:=congrArg Prod.fst ho
 have hd:o.dst=d:=congrArg Prod.snd ho
 obtain⟨v,w',k1,rfl,k2⟩:=aMC p s1 (by rw [BJ,hp1];rfl) hr hn hb.1 (D2 ht hT) (hT.size _ _ he) hop hx2 (Z7 hA hy)
 unfold Oper.wp
 rw [k1 _ act hA.env,Oper.upon_value,hd]
 have hS2:j5 c w' (RD (.mk P T hT n c B0 N X Q) cf1++B) (L'.set p (ow s (cA l a xs))):=by
  refine⟨⟨R,?_,fun z hz=>?_⟩,s0⟩
  ·rw [KE]
   show St c w' ((L'.map _).set p (aW [s.v (cA l a xs).length] _)) R
   rw [hlen];exact k2
  ·rcases qY hz with hz | hz
   ·exact s2' z hz
   ·subst hz;trivial
 cases d with
 | none=>exact hnext () _ _ ⟨[],by simpa using hm,by simpa [Act.put,W3] using hA,by simpa using hS2⟩
 | some d=>exact hnext () _ _ ⟨[],by simpa using hm,by simpa [W3] using hA.of (by simp [dU,gV,bE]) (hA.env.put (by rw [hd] at hdn;simpa [nS,l6] using hdn) _),by simpa using hS2⟩
theorem cp0{d:Option Nat}{x y:Operand}{t t2 el sz:Nat}{α:Type}[aC α][Flat α]{s s2:AC}{l xs:List α}{b1 b2:Bool}{n1:Nat}{z1 z2:List SV}{kt:TK}(p:Nat)(hsrc:∀{w},HS c w L'->cZ (bT w) s2 xs)(hs:iW T n K cf m e L=.op o Lv cf1 cf2 K' m' e' L')(ho:(o.op,o.dst)=(.call {callee:=.builtin .copy,args:=#[x,y],argTypes:=#[t,t2]},d))(ht:yS T t=some ⟨.sl el,b1,n1,z1⟩)(he:yS T el=some ⟨kt,b2,sz,z2⟩)(hn:aC.n α=sz)(hp:(L'[p]?,eZ p cf1.uR)=(some (ow s l),true))(hx:g9 e' x=some (.h s l.length))(hy:g9 e' y=some (.h s2 xs.length))
  (k:G (.mk P T hT n c B0 N X Q) K' m' (W3 d (.i .i64 ((min xs.length (l.length - 0):Nat):Int)) e') (L'.set p (ow s (cA l 0 xs))) cf2):G (.mk P T hT n c B0 N X Q) K m e L cf:=by
 have hp1:L'[p]?=some (ow s l):=congrArg Prod.fst hp
 have hz:eZ p cf1.uR=true:=congrArg Prod.snd hp
 have hlen:(cA l 0 xs).length=l.length:=eG (gR _)
 refine fV (g:=.mk P T hT n c B0 N X Q) ?_
 rw [hs]
 intro hdn _ hE
 refine hE Unit (fun _=>m') (fun _=>W3 d (.i .i64 ((min xs.length (l.length - 0):Nat):Int)) e') (fun _=>L'.set p (ow s (cA l 0 xs))) (fun _=>KV hz) (fun B act w next Q' hm hA hS hnext=>?_) (fun _=>k)
 have hr:cZ (bT w) s2 xs:=hsrc ⟨_,hS⟩
 obtain⟨⟨R,s1,s2'⟩,s0⟩:=hS
 have hop:o.op=.call {callee:=.builtin .copy,args:=#[x,y],argTypes:=#[t,t2]}:=congrArg Prod.fst ho
 have hd:o.dst=d:=congrArg Prod.snd ho
 obtain⟨v,w',k1,rfl,k2⟩:=aQ2 p s1 (by rw [BJ,hp1];rfl) hr hn (D2 ht hT) (hT.size _ _ he) hop (Z7 hA hx) (Z7 hA hy)
 unfold Oper.wp
 rw [k1 _ act hA.env,Oper.upon_value,hd]
 have hS2:j5 c w' (RD (.mk P T hT n c B0 N X Q) cf1++B) (L'.set p (ow s (cA l 0 xs))):=by
  refine⟨⟨R,?_,fun z hz=>?_⟩,s0⟩
  ·rw [KE]
   show St c w' ((L'.map _).set p (aW [s.v (cA l 0 xs).length] _)) R
   rw [hlen];exact k2
  ·rcases qY hz with hz | hz
   ·exact s2' z hz
   ·subst hz;trivial
 cases d with
 | none=>exact hnext () _ _ ⟨[],by simpa using hm,by simpa [Act.put,W3] using hA,by simpa using hS2⟩
 | some d=>exact hnext () _ _ ⟨[],by simpa using hm,by simpa [W3] using hA.of (by simp [dU,gV,bE]) (hA.env.put (by rw [hd] at hdn;simpa [nS,l6] using hdn) _),by simpa using hS2⟩
theorem fR{Z:Act->World->Prop}{e1:SE}{L1:List Ch}(h1:aOG e=some e1)(h2:aOH L=some L1)(kk:∀a w,mO n c B0 m e1 L1 a w->Z a w):∀a w,mO n c B0 m e L a w->Z a w:=by
 have:=YX h1
 have:=YY h2
 subst e1;subst L1
 exact kk
end
end Go.Gv
end
noncomputable section
namespace Go.Gv
def swN(i j n:Nat):Nat:=match Nat.beq n i with
 | true=>j
 | false => match Nat.beq n j with
  | true=>i
  | false=>n
def swC(i j:Nat):SV->SV
 | .p n o=>.p (swN i j n) o
 | x=>x
def aOP(i j:Nat):List SV->List SV
 | []=>[]
 | x :: r=>swC i j x :: aOP i j r
def swG(i j:Nat):SV->SV
 | .g cs=>.g (aOP i j cs)
 | x=>swC i j x
def aVS(i j:Nat):List SV->List SV
 | []=>[]
 | x :: r=>swG i j x :: aVS i j r
def swF(i j:Nat):List Nat->List Nat
 | []=>[]
 | n :: r=>swN i j n :: swF i j r
def swT(i j:Nat):SV->SV
 | .t cs=>.t (aVS i j cs)
 | .f f ns=>.f f (swF i j ns)
 | x=>swG i j x
def swE(i j:Nat):SE->SE
 | []=>[]
 | (k,x) :: r=>(k,swT i j x) :: swE i j r
def swL(i j:Nat):List Ch->List Ch
 | []=>[]
 | x :: r => (match x with
  | .box n cs=>.box (swN i j n) (aOP i j cs)
  | .ro n cs=>.ro (swN i j n) (aOP i j cs)
  | .w n b z=>.w (swN i j n) b z
  | y=>y) :: swL i j r
noncomputable section
variable {B B':Bl} {i j:Nat}
theorem aSI(h:∀n,B'[swN i j n]?=B[n]?)(x:SV):bE B' (swC i j x)=bE B x:=by
 cases x <;> first | rfl | (simp only [swC,bE,h])
theorem Y5(h:∀n,B'[swN i j n]?=B[n]?):∀cs:List SV,aR (bE B') (aOP i j cs)=aR (bE B) cs
 | []=>rfl
 | x :: r=>by simp only [aOP,aR,aSI h,Y5 h r]
theorem aKL(h:∀n,B'[swN i j n]?=B[n]?)(x:SV):gV B' (swG i j x)=gV B x:=by
 cases x with
 | g cs=>simp only [swG,gV,Y5 h]
 | p n o=>exact aSI h (.p n o)
 | _=>rfl
theorem aM4(h:∀n,B'[swN i j n]?=B[n]?):∀cs:List SV,aR (gV B') (aVS i j cs)=aR (gV B) cs
 | []=>rfl
 | x :: r=>by simp only [aVS,aR,aKL h,aM4 h r]
theorem aSJ(h:∀n,B'[swN i j n]?=B[n]?):∀cs:List Nat,aR (LY B') (swF i j cs)=aR (LY B) cs
 | []=>rfl
 | x :: r=>by simp only [swF,aR,LY,h];rw [show aR (LY B') (swF i j r)=aR (LY B) r from aSJ h r]
theorem aYO(h:∀n,B'[swN i j n]?=B[n]?)(x:SV):dU B' (swT i j x)=dU B x:=by
 cases x with
 | t cs=>simp only [swT,dU,aM4 h]
 | f f ns=>simp only [swT,dU,aSJ h]
 | g cs=>exact aKL h (.g cs)
 | p n o=>exact aKL h (.p n o)
 | _=>rfl
theorem aSK{k:Nat}{x:SV}:∀{e:SE},BV (swE i j e) k=some x->∃y,BV e k=some y/\x=swT i j y
 | [],h=>by cases h
 | (k', y) :: r, h => by
  simp only [swE,BV] at h ⊢
  split at h
  ·rename_i hb;cases h;exact⟨y,rfl,rfl⟩
  ·rename_i hb;exact aSK h
theorem aM5(h:∀n,B'[swN i j n]?=B[n]?){w:World}{R:List Fact}:∀(L:List Ch),iH w (L.map (jA B)) ((swL i j L).map (jA B'))/\((∀x∈L,roF B R x)->∀x∈swL i j L,roF B' R x)
 | []=>⟨.nil,fun _ x hx=>by cases hx⟩
 | x :: L => by
  obtain⟨h1,h2⟩:=aM5 h (w:=w) (R:=R) L
  refine⟨.cons (fun F hF=>?_) h1,fun hr y hy=>?_⟩
  ·cases x with
   | box n cs =>
    obtain⟨b,z,vs,k1,k2,k3⟩:=hF
    exact⟨b,z,vs,by rw [h];exact k1,by rw [Y5 h];exact k2,k3⟩
   | _=>exact hF
  ·rcases gI.1 hy with hy | hy
   ·have hx:=hr x (by simp)
    cases x with
    | box n cs=>subst hy;trivial
    | ro n cs =>
     obtain⟨b,z,vs,k1,k2,k3⟩:=hx
     subst hy
     exact⟨b,z,vs,by rw [h];exact k1,by rw [Y5 h];exact k2,k3⟩
    | w n b z=>subst hy;show B'[swN i j n]?=_;rw [h];exact hx
    | o c=>subst hy;trivial
    | no=>subst hy;trivial
    | f f=>subst hy;exact hx
   ·exact h2 (fun x hx=>hr x (mL _ hx)) y hy
end
theorem a0T{B:Bl}{i j:Nat}(hi:i < B.length)(hj:j < B.length):∃B':Bl,B'.length=B.length/\(∀n,B'[swN i j n]?=B[n]?):=by
 refine⟨(B.set i B[j]).set j B[i],by simp,fun n=>?_⟩
 unfold swN
 cases h1:Nat.beq n i with
 | true =>
  have h1:=i5 h1
  subst h1
  simp only
  rw [WG (by simpa using hj),fO hi]
 | false =>
  have h1:n≠i:=fun h=>by rw [h] at h1;simp at h1
  cases h2:Nat.beq n j with
  | true =>
   have h2:=i5 h2
   subst h2
   simp only
   rw [OQ h1,WG hi,fO hj]
  | false =>
   have h2:n≠j:=fun h=>by rw [h] at h2;simp at h2
   simp only
   rw [OQ (Ne.symm h2),OQ (Ne.symm h1)]
noncomputable section
variable {n:Nat} {c:Ctx} {B0:Bl} {m:Nat} {e:SE} {L:List Ch}
theorem swR{Z:Act->World->Prop}(i j:Nat)(h:(Nat.ble B0.length i && (Nat.ble B0.length j && (Nat.blt i m && Nat.blt j m)))=true)
  (kk:∀a w,mO n c B0 m (swE i j e) (swL i j L) a w->Z a w):∀a w,mO n c B0 m e L a w->Z a w:=by
 simp only [xM,Nat.ble_eq,l6] at h
 obtain⟨h1,h2,h3,h4⟩:=h
 intro a w ⟨B,hm,hA,hS⟩
 refine kk a w ?_
 rw [pS] at hm
 obtain⟨B',hl,hB⟩:=a0T (B:=B) (i:=i - B0.length) (j:=j - B0.length) (by omega) (by omega)
 have key:∀n,(B0++B')[swN i j n]?=(B0++B)[n]?:=by
  intro n
  have hsw:∀n,n < B0.length->swN i j n=n:=fun n hn=>by
   unfold swN
   cases e1:Nat.beq n i with
   | true=>have:=i5 e1;omega
   | false =>
    cases e2:Nat.beq n j with
    | true=>have:=i5 e2;omega
    | false=>rfl
  have hge:∀n,B0.length<=n->swN i j n=B0.length+swN (i - B0.length) (j - B0.length) (n - B0.length):=fun n hn=>by
   have q1:Nat.beq (n - B0.length) (i - B0.length)=Nat.beq n i:=by
    rw [LX];simp only [Nat.beq_eq];omega
   have q2:Nat.beq (n - B0.length) (j - B0.length)=Nat.beq n j:=by
    rw [LX];simp only [Nat.beq_eq];omega
   unfold swN
   rw [q1,q2]
   cases Nat.beq n i <;> cases Nat.beq n j <;> simp only <;> omega
  by_cases hn:n < B0.length
  ·rw [hsw n hn,F6 hn,F6 hn]
  ·rw [hge n (by omega),BI (by omega),BI (by omega),Nat.add_sub_cancel_left]
   exact hB _
 refine⟨B',by rw [pS];omega,⟨hA.d,hA.size,fun k x hk=>?_⟩,?_⟩
 ·obtain⟨y,g1,rfl⟩:=aSK hk
  obtain⟨v,g2,g3⟩:=hA.get k y g1
  exact⟨v,by rw [aYO key];exact g2,g3⟩
 ·obtain⟨⟨R,s1,s2⟩,s0⟩:=hS
  obtain⟨g1,g2⟩:=aM5 key (w:=w) (R:=R) L
  exact⟨⟨R,s1.imp g1,g2 s2⟩,s0⟩
theorem pnR{Z:Act->World->Prop}{α:Type}[aC α](j:Nat){s:AC}{l:List α}{n0:Nat}(hl:l.length=n0)(hj:L[j]?=some (ow s l))
  (kk:∀a w,mO n c B0 m e (L.set j (.o (aW [s.v n0] l))) a w->Z a w):∀a w,mO n c B0 m e L a w->Z a w:=by
 subst hl
 have:L.set j (.o (aW [s.v l.length] l))=L:=by
  obtain⟨h1,h2⟩:=g7.1 hj
  rw [<-show L[j]=.o (aW [s.v l.length] l) from h2];exact aDP h1
 rw [this] at kk
 exact kk
end
theorem fG{P:Program}{T:TT}{hT:C9 P T}{n:Nat}{c:Ctx}{B0:Bl}{N:Act->World->Prop}{X:Nat->Act->World->Prop}{Q:Act->World->Prop}{K:List Fr}{m:Nat}{e e1:SE}{L L1:List Ch}{cf:rR}(h1:aOG e=some e1)(h2:aOH L=some L1)(k:G (.mk P T hT n c B0 N X Q) K m e1 L1 cf):G (.mk P T hT n c B0 N X Q) K m e L cf:=by
 have:=YX h1
 have:=YY h2
 subst e1;subst L1
 exact k
def fc1:SV->Option SV
 | .i k x=>some (.i k x)
 | .y b=>some (.y b)
 | .b c=>some (.b c)
 | .l c=>some (.l c)
 | .s l=>some (.s l)
 | .p n o=>some (.p n o)
 | .h s n=>some (.h s n)
 | .e s n i o=>some (.e s n i o)
 | .k x=>some (.k x)
 | .g cs=>some (.g cs)
 | .t cs=>some (.t cs)
 | .f f cs=>some (.f f cs)
 | .u=>some .u
def fcs:List SV->Option (List SV)
 | []=>some []
 | x :: r => match fc1 x with
  | some y => match fcs r with
   | some s=>some (y :: s)
   | none=>none
  | none=>none
def fc2:SV->Option SV
 | .g cs => match fcs cs with
  | some ds=>some (.g ds)
  | none=>none
 | x=>fc1 x
def fgs:List SV->Option (List SV)
 | []=>some []
 | x :: r => match fc2 x with
  | some y => match fgs r with
   | some s=>some (y :: s)
   | none=>none
  | none=>none
def fc3:SV->Option SV
 | .t cs => match fgs cs with
  | some ds=>some (.t ds)
  | none=>none
 | x=>fc2 x
def fdE:SE->Option SE
 | []=>some []
 | (k, v) :: r => match fc3 v with
  | some y => match fdE r with
   | some s=>some ((k,y) :: s)
   | none=>none
  | none=>none
def fdL:List Ch->Option (List Ch)
 | []=>some []
 | x :: r => match fdL r with
  | some s => match x with
   | .box n cs => match fcs cs with
    | some ds=>some (.box n ds :: s)
    | none=>none
   | .ro n cs => match fcs cs with
    | some ds=>some (.ro n ds :: s)
    | none=>none
   | y=>some (y :: s)
  | none=>none
theorem aSL{x y:SV}(h:fc1 x=some y):y=x:=by cases x <;> simp only [fc1] at h <;> cases h <;> rfl
theorem aFS:∀{l r:List SV},fcs l=some r->r=l
 | [],r,h=>by cases h;rfl
 | x :: l, r, h => by
  simp only [fcs] at h
  split at h
  ·rename_i y hy
   split at h
   ·rename_i s hs;cases h;rw [aSL hy,aFS hs]
   ·cases h
  ·cases h
theorem aSM{x y:SV}(h:fc2 x=some y):y=x:=by
 cases x with
 | g cs =>
  simp only [fc2] at h
  split at h
  ·rename_i ds hd;cases h;rw [aFS hd]
  ·cases h
 | _=>exact aSL h
theorem aSN:∀{l r:List SV},fgs l=some r->r=l
 | [],r,h=>by cases h;rfl
 | x :: l, r, h => by
  simp only [fgs] at h
  split at h
  ·rename_i y hy
   split at h
   ·rename_i s hs;cases h;rw [aSM hy,aSN hs]
   ·cases h
  ·cases h
theorem aYQ{x y:SV}(h:fc3 x=some y):y=x:=by
 cases x with
 | t cs =>
  simp only [fc3] at h
  split at h
  ·rename_i ds hd;cases h;rw [aSN hd]
  ·cases h
 | _=>exact aSM h
theorem aSO:∀{e r:SE},fdE e=some r->r=e
 | [],r,h=>by cases h;rfl
 | (k, v) :: l, r, h => by
  simp only [fdE] at h
  split at h
  ·rename_i y hy
   split at h
   ·rename_i s hs;cases h;rw [aYQ hy,aSO hs]
   ·cases h
  ·cases h
theorem aSP:∀{e r:List Ch},fdL e=some r->r=e
 | [],r,h=>by cases h;rfl
 | x :: l, r, h => by
  simp only [fdL] at h
  split at h
  ·rename_i s hs
   have:=aSP hs
   subst this
   split at h
   ·split at h
    ·rename_i ds hds;cases h;rw [aFS hds]
    ·cases h
   ·split at h
    ·rename_i ds hds;cases h;rw [aFS hds]
    ·cases h
   ·cases h;rfl
  ·cases h
theorem fD{n:Nat}{c:Ctx}{B0:Bl}{m:Nat}{e e1:SE}{L L1:List Ch}{Z:Act->World->Prop}(h1:fdE e=some e1)(h2:fdL L=some L1)(kk:∀a w,mO n c B0 m e1 L1 a w->Z a w):∀a w,mO n c B0 m e L a w->Z a w:=by
 have:=aSO h1
 have:=aSP h2
 subst e1;subst L1
 exact kk
end Go.Gv
end
