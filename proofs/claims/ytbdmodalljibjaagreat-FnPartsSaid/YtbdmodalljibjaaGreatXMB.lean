import Derived.Test.YtbdmodalljibjaaGreatXMA
set_option linter.unusedVariables false
set_option linter.unusedSimpArgs false
set_option linter.unusedSectionVars false
set_option linter.constructorNameAsVariable false
set_option linter.unnecessarySimpa false
noncomputable section
namespace Go.Gv
noncomputable section
variable {m:Nat} {e:SE} {L:List Ch}
theorem VO{B:Bl}{m:Nat}{x:SV}{v:Value}(hv:bK B x=some v)(h:∀n o,x=.p n o→n < m):bK (B.take m) x=some v:=by
  cases x <;> simp only [bK] at hv ⊢ <;> try exact hv
  rename_i n o
  rw [List.getElem?_take,if_pos (h n o rfl)];exact hv
theorem CN{B:Bl}{m:Nat}:∀{cs:List SV} {vs:List Value},CI.okC m cs=true→aW (bK B) cs=some vs→aW (bK (B.take m)) cs=some vs
  | [],vs,_,h=>h
  | x :: cs, vs, ho, h => by
    simp only [aW] at h
    split at h
    · cases h
    · rename_i h1
      split at h
      · cases h
      · rename_i h2
        cases h
        have hx:(∀n o,x=.p n o→n < m)∧CI.okC m cs=true:=by
          simp only [CI.okC] at ho
          cases x <;> try exact⟨fun _ _ h=>(by cases h),ho⟩
          · rename_i n o
            simp only at ho
            split at ho
            · rename_i hb
              exact⟨fun n' o' he=>by cases he;simpa [Nat.blt_eq] using hb,ho⟩
            · cases ho
          · cases ho
        simp [aW,VO h1 hx.1,CN hx.2 h2]
theorem aHE{B:Bl}{m:Nat}:∀{cs:List SV} {vs:List Value},CI.okT m cs=true→aW (gV B) cs=some vs→aW (gV (B.take m)) cs=some vs
  | [],vs,_,h=>h
  | x :: cs, vs, ho, h => by
    simp only [aW] at h
    split at h
    · cases h
    · rename_i y0 h1
      split at h
      · cases h
      · rename_i h2
        cases h
        have hx:gV (B.take m) x=some y0∧CI.okT m cs=true:=by
          simp only [CI.okT] at ho
          cases x <;> try exact⟨h1,ho⟩
          · rename_i n o
            simp only at ho
            split at ho
            · rename_i hb
              refine⟨VO (x:=.p n o) h1 (fun n' o' he=>by cases he;simpa [Nat.blt_eq] using hb),ho⟩
            · cases ho
          · rename_i ds
            simp only at ho
            split at ho
            · rename_i hb
              refine⟨?_,ho⟩
              simp only [gV] at h1 ⊢
              split at h1
              · rename_i h3;rw [CN hb h3];exact h1
              · cases h1
            · cases ho
        simp [aW,hx.1,aHE hx.2 h2]
theorem aHF{B:Bl}{m:Nat}:∀{cs:List Nat} {vs:List Value},CI.okF m cs=true→aW (RC B) cs=some vs→aW (RC (B.take m)) cs=some vs
  | [],vs,_,h=>h
  | x :: cs, vs, ho, h => by
    simp only [aW] at h
    split at h
    · cases h
    · rename_i y0 h1
      split at h
      · cases h
      · rename_i h2
        cases h
        simp only [CI.okF] at ho
        split at ho
        · rename_i hb
          have hx:RC (B.take m) x=some y0:=by
            unfold RC at h1 ⊢
            rw [List.getElem?_take,if_pos (by simpa [Nat.blt_eq] using hb)];exact h1
          simp [aW,hx,aHF ho h2]
        · cases ho
theorem IQ{B:Bl}{m:Nat}{x:SV}{v:Value}(h:CI m x=true)(hv:eS B x=some v):eS (B.take m) x=some v:=by
  cases x
  case p n o=>exact VO (x:=.p n o) hv (fun n' o' he=>by cases he;simpa [CI,Nat.blt_eq] using h)
  case g cs=>
    simp only [eS,gV] at hv ⊢
    split at hv
    · rename_i h1;rw [CN h h1];exact hv
    · cases hv
  case t cs=>
    simp only [eS] at hv ⊢
    split at hv
    · rename_i h1;rw [aHE h h1];exact hv
    · cases hv
  case f f cs=>
    simp only [eS] at hv ⊢
    split at hv
    · rename_i h1;rw [aHF h h1];exact hv
    · cases hv
  all_goals exact hv
theorem aK6{B:Bl}{z x:SV}:bK B (re1 z x)=bK B x:=by
  cases z <;> cases x <;> rfl
theorem aOH{B:Bl}{z x:SV}:eS B (re1 z x)=eS B x:=by
  cases z <;> cases x <;> rfl
theorem aHG{B:Bl}:∀{cs ds:List SV},aW (bK B) (reC cs ds)=aW (bK B) ds
  | [],[]=>rfl
  | [],_ :: _=>rfl
  | _ :: _,[]=>rfl
  | c :: cs,d :: ds=>by simp only [reC,aW,aK6,aHG]
theorem aK7{B:Bl}{x:SV}:bK B (nb1 x)=bK B x:=by cases x <;> rfl
theorem IS{B:Bl}:∀{cs:List SV},aW (bK B) (nbL cs)=aW (bK B) cs
  | []=>rfl
  | c :: cs=>by simp only [nbL,aW,aK7,IS]
theorem aQ6{B:Bl}{x:SV}:gV B (nbG x)=gV B x:=by
  cases x <;> try rfl
  simp only [nbG,gV,IS]
theorem aHH{B:Bl}:∀{cs:List SV},aW (gV B) (nbT cs)=aW (gV B) cs
  | []=>rfl
  | c :: cs=>by simp only [nbT,aW,aQ6,aHH]
theorem aBD{B:Bl}{x:SV}:eS B (nbG x)=eS B x:=by
  cases x <;> try rfl
  simp only [nbG,eS,gV,IS]
theorem UU{B:Bl}{x:SV}:eS B (nbS x)=eS B x:=by
  cases x with
  | g cs=>exact aBD (x:=.g cs)
  | t xs=>simp only [nbS,eS,aHH]
  | _=>rfl
theorem aHI{B:Bl}:∀{cs:List SV},aW (eS B) (nbT cs)=aW (eS B) cs
  | []=>rfl
  | c :: cs=>by simp only [nbT,aW,aBD,aHI]
theorem M7{B:Bl}:∀{cs:List SV},aW (eS B) (nbA cs)=aW (eS B) cs
  | []=>rfl
  | c :: cs => by
    simp only [nbA]
    split
    · simp only [aW,M7];rfl
    · simp only [aW,aBD,M7]
theorem aK8{e:SE}:∀{e' s:SE} {k:Nat} {x:SV},reE e e'=some s→zL s k=some x→∃y,zL e k=some y∧∀B,eS B x=eS B y
  | [],s,k,x,h,hk=>by cases h;cases hk
  | (j, y) :: r, s, k, x, h, hk => by
    simp only [reE] at h
    split at h
    · rename_i z hz
      split at h
      · rename_i s' hs
        cases h
        simp only [zL] at hk
        cases hb:Nat.beq k j with
        | true=>rw [hb] at hk;cases hk;rw [Nat.eq_of_beq_eq_true hb];exact⟨z,hz,fun B=>aOH⟩
        | false=>rw [hb] at hk;exact aK8 hs hk
      · cases h
    · cases h
theorem aBE{B:Bl}{w:World}{R:List Fact}:∀(M L:List Ch),hC w (L.map (iS B)) ((reL M L).map (iS B))∧((∀x∈L,roF B R x)→∀x∈reL M L,roF B R x)
  | [],L=>by simp only [reL];exact⟨hC.refl _,fun h=>h⟩
  | x :: M,[]=>by cases x <;> exact⟨.nil,fun h=>h⟩
  | x :: M, y :: L => by
    obtain⟨h1,h2⟩:=aBE (B:=B) (w:=w) (R:=R) M L
    have gen:reL (x :: M) (y :: L)=y :: reL M L→hC w ((y :: L).map (iS B)) ((reL (x :: M) (y :: L)).map (iS B))∧((∀x∈y :: L,roF B R x)→∀z∈reL (x :: M) (y :: L),roF B R z):=fun he=>by
      rw [he]
      refine⟨.cons (fun _ h=>h) h1,fun h z hz=>?_⟩
      rcases List.mem_cons.1 hz with hz | hz
      · subst hz;exact h _ (by simp)
      · exact h2 (fun x hx=>h x (List.mem_cons_of_mem _ hx)) z hz
    cases x with
    | box n cs =>
      cases y with
      | box k ds =>
        simp only [reL]
        refine⟨.cons (fun F ⟨b,z,vs,k1,k2,k3⟩=>⟨b,z,vs,k1,by rw [aHG];exact k2,k3⟩) h1,fun h z hz=>?_⟩
        rcases List.mem_cons.1 hz with hz | hz
        · subst hz;trivial
        · exact h2 (fun x hx=>h x (List.mem_cons_of_mem _ hx)) z hz
      | _=>exact gen rfl
    | _=>exact gen (by cases y <;> rfl)
theorem aK9{m:Nat}:∀{s:SE} {k:Nat} {x:SV},okE m s=true→zL s k=some x→CI m x=true
  | [],k,x,h,hk=>by cases hk
  | (j, y) :: r, k, x, h, hk => by
    simp only [okE] at h
    split at h
    · rename_i ho
      simp only [zL] at hk
      cases hb:Nat.beq k j with
      | true=>rw [hb] at hk;cases hk;exact ho
      | false=>rw [hb] at hk;exact aK9 h hk
    · cases h
theorem aBF{m:Nat}:∀{L:List Ch} {x:Ch},okL m L=true→x∈L→(∀n cs,x=.box n cs∨x=.ro n cs→n < m∧CI.okC m cs=true)
  | y :: L, x, h, hx, n, cs, he => by
    have key:(∀n cs,y=.box n cs∨y=.ro n cs→n < m∧CI.okC m cs=true)∧okL m L=true:=by
      cases y with
      | box k c =>
        simp only [okL] at h
        split at h
        · rename_i h1 h2
          refine⟨fun n cs he=>?_,h⟩
          rcases he with he | he <;> cases he
          exact⟨by simpa [Nat.blt_eq] using h1,h2⟩
        · cases h
      | ro k c =>
        simp only [okL] at h
        split at h
        · rename_i h1 h2
          refine⟨fun n cs he=>?_,h⟩
          rcases he with he | he <;> cases he
          exact⟨by simpa [Nat.blt_eq] using h1,h2⟩
        · cases h
      | o c=>exact⟨fun n cs he=>(by rcases he with he | he <;> cases he),h⟩
      | f c=>exact⟨fun n cs he=>(by rcases he with he | he <;> cases he),h⟩
      | no=>exact⟨fun n cs he=>(by rcases he with he | he <;> cases he),h⟩
      | w k b z =>
        simp only [okL] at h
        split at h
        · exact⟨fun n cs he=>(by rcases he with he | he <;> cases he),h⟩
        · cases h
    rcases List.mem_cons.1 hx with hx | hx
    · subst hx;exact key.1 n cs he
    · exact aBF key.2 hx n cs he
theorem aPU{m n b z:Nat}:∀{L:List Ch},okL m L=true→Ch.w n b z∈L→n < m
  | y :: L, h, hx => by
    have key:(y=.w n b z→n < m)∧okL m L=true:=by
      cases y with
      | box k c =>
        simp only [okL] at h
        split at h
        · exact⟨fun he=>(by cases he),h⟩
        · cases h
      | ro k c =>
        simp only [okL] at h
        split at h
        · exact⟨fun he=>(by cases he),h⟩
        · cases h
      | w k b z =>
        simp only [okL] at h
        split at h
        · rename_i h1
          exact⟨fun he=>(by cases he;simpa [Nat.blt_eq] using h1),h⟩
        · cases h
      | o c=>exact⟨fun he=>(by cases he),h⟩
      | f c=>exact⟨fun he=>(by cases he),h⟩
      | no=>exact⟨fun he=>(by cases he),h⟩
    rcases List.mem_cons.1 hx with hx | hx
    · exact key.1 hx.symm
    · exact aPU key.2 hx
theorem aBG{L:List Ch}:∀{is:List Nat} {x:Ch},x∈kl L is→x∈L
  | i :: is, x, h => by
    simp only [kl] at h
    split at h
    · rename_i y hy
      rcases List.mem_cons.1 h with h | h
      · subst h;exact List.mem_of_getElem? hy
      · exact aBG h
    · exact aBG h
theorem aHJ{B:Bl}{w:World}{L:List Ch}:∀(is:List Nat),∃is',(∀j∈is',j∈is)∧(cZ is=true→cZ is'=true)∧hC w (pick (L.map (iS B)) is') ((kl L is).map (iS B))
  | []=>⟨[],by simp,fun h=>h,.nil⟩
  | i :: is => by
    obtain⟨is',h1,h2,h3⟩:=aHJ (B:=B) (w:=w) (L:=L) is
    cases hi:L[i]? with
    | none =>
      refine⟨is',fun j hj=>List.mem_cons_of_mem _ (h1 j hj),fun h=>h2 ?_,?_⟩
      · simp only [cZ,Bool.and_eq_true] at h;exact h.2
      · simp only [kl,hi];exact h3
    | some x =>
      refine⟨i :: is',fun j hj=>?_,fun h=>?_,?_⟩
      · rcases List.mem_cons.1 hj with h | h
        · subst h;simp
        · exact List.mem_cons_of_mem _ (h1 j h)
      · simp only [cZ,Bool.and_eq_true] at h ⊢
        refine⟨?_,h2 h.2⟩
        rw [List.all_eq_true] at h ⊢
        exact fun j hj=>h.1 j (h1 j hj)
      · simp only [kl,hi,pick,List.getElem?_map,Option.map_some,Option.getD_some,List.map_cons]
        exact .cons (fun _ h=>h) h3
theorem aLA{c:Ctx}{w:World}{B:Bl}(h:kZ c w B L)(is:List Nat)(ha:cZ is=true):kZ c w B (kl L is):=by
  obtain⟨⟨R,s1,s2⟩,s0⟩:=h
  obtain⟨is',_,h2,h3⟩:=aHJ (B:=B) (w:=w) (L:=L) is
  exact⟨⟨R,(s1.IL is' (h2 ha)).imp h3,fun x hx=>s2 x (aBG hx)⟩,s0⟩
theorem aBH{c:Ctx}{w:World}{B:Bl}{m:Nat}{L:List Ch}(h:kZ c w B L)(ho:okL m L=true):kZ c w (B.take m) L:=by
  obtain⟨⟨R,s1,s2⟩,s0⟩:=h
  have key:∀x∈L,∀F,(iS B x).P w F→(iS (B.take m) x).P w F:=by
    intro x hx F hF
    cases x with
    | box n cs =>
      obtain⟨h1,h2⟩:=aBF ho hx n cs (.inl rfl)
      obtain⟨b,z,vs,k1,k2,k3⟩:=hF
      exact⟨b,z,vs,by rw [List.getElem?_take,if_pos h1];exact k1,CN h2 k2,k3⟩
    | _=>exact hF
  have imp:∀(M:List Ch),(∀x∈M,x∈L)→hC w (M.map (iS B)) (M.map (iS (B.take m))):=by
    intro M
    induction M with
    | nil=>exact fun _=>.nil
    | cons x M ih=>exact fun hM=>.cons (key x (hM x (by simp))) (ih fun y hy=>hM y (List.mem_cons_of_mem _ hy))
  refine⟨⟨R,s1.imp (imp L fun _ h=>h),fun x hx=>?_⟩,s0⟩
  have:=s2 x hx
  cases x with
  | ro n cs =>
    obtain⟨h1,h2⟩:=aBF ho hx n cs (.inr rfl)
    obtain⟨b,z,vs,k1,k2,k3⟩:=this
    exact⟨b,z,vs,by rw [List.getElem?_take,if_pos h1];exact k1,CN h2 k2,k3⟩
  | w n b z =>
    have h1:=aPU ho hx
    exact(by rw [List.getElem?_take,if_pos h1];exact this:(List.take m B)[n]?=some (b,z))
  | _=>exact this
theorem aQ7{c:Ctx}{w:World}{B:Bl}{L:List Ch}(h:kZ c w B L)(M:List Ch):kZ c w B (reL M L):=by
  obtain⟨⟨R,s1,s2⟩,s0⟩:=h
  exact⟨⟨R,s1.imp (aBE (R:=R) M L).1,(aBE (w:=w) M L).2 s2⟩,s0⟩
theorem Rel.as{n:Nat}{c:Ctx}{B0:Bl}{m':Nat}{e':SE}{L':List Ch}{a:Act}{w:World}(hr:nN n c B0 m e L a w)(is:List Nat)(ha:cZ is=true){f:SE}{M:List Ch}(h:asS e L is m' f M=some (e',L'))(hm:m'≤m)(h0:B0.length≤m'):nN n c B0 m' e' L' a w:=by
  unfold asS at h
  split at h
  · rename_i s hs
    split at h
    · rename_i h1 h2
      cases h
      obtain⟨B,hl,hA,hS⟩:=hr
      have hB:(B0++B).take m'=B0++B.take (m' - B0.length):=by
        rw [List.take_append,List.take_of_length_le h0]
      refine⟨B.take (m' - B0.length),by rw [←hB];simp only [List.length_take,hl];omega,?_,?_⟩
      · rw [←hB]
        exact⟨hA.d,hA.size,fun k x hk=>by
          obtain⟨y,q1,q2⟩:=aK8 hs hk
          obtain⟨v,k1,k2⟩:=hA.get k y q1
          exact⟨v,IQ (aK9 h1 hk) (by rw [q2];exact k1),k2⟩⟩
      · rw [←hB]
        exact aBH (aQ7 (aLA hS is ha) _) h2
    · cases h
  · cases h
theorem nN.NQ{n:Nat}{c:Ctx}{B0:Bl}{m':Nat}{e':SE}{L':List Ch}{a:Act}{w:World}(hr:nN n c B0 m e L a w)(is:List Nat){f:SE}{M:List Ch}(h:NQ B0.length m e L is m' f M=some (e',L')):nN n c B0 m' e' L' a w:=by
  unfold Go.Gv.NQ at h
  split at h
  · rename_i h1 h2 h3
    exact Rel.as hr is h3 h (Nat.le_of_ble_eq_true h2) (Nat.le_of_ble_eq_true h1)
  · cases h
end
end Go.Gv
end
noncomputable section
namespace Go.Gv
noncomputable section
variable {P:Program} {T:TT} {n:Nat} {B:Bl} {e:SE} {a:Act} {o:Oper} {w w':World} {x y:Operand} {c:Ctx} {L:List Ch}
theorem OS{ops:Array Oper}(h:v8 ops e o.guard=.yes):Want ops o (vE B e) true:=by
  unfold v8 at h
  split at h
  · exact bN (by assumption)
  · rename_i j w hg
    split at h
    · rename_i q hq
      split at h
      · rename_i s hs
        have hj:(ops[j]?).bind (·.dst)=some s:=by rw [←Array.getElem?_toList,hq];exact hs
        split at h
        · rename_i c hl
          have hv:lk (vE B e) s=some (.bool c):=by rw [VN hl];rfl
          refine bV hg hj hv ?_
          split at h <;> first | rfl | cases h
        all_goals cases h
      · cases h
    · cases h
theorem aPV{ops:Array Oper}(h:v8 ops e o.guard=.no):Want ops o (vE B e) false:=by
  unfold v8 at h
  split at h
  · cases h
  · rename_i j w hg
    split at h
    · rename_i q hq
      split at h
      · rename_i s hs
        have hj:(ops[j]?).bind (·.dst)=some s:=by rw [←Array.getElem?_toList,hq];exact hs
        split at h
        · rename_i c hl
          have hv:lk (vE B e) s=some (.bool c):=by rw [VN hl];rfl
          refine bV hg hj hv ?_
          cases c <;> cases w <;> first | rfl | cases h
        · rename_i hl
          exact aNV hg hj (by rw [VN hl];rfl)
        all_goals cases h
      · cases h
    · cases h
theorem aDF{m:Nat}:∀{L:List Ch},JZ m L=true→∃i cs,L[i]?=some (.box m cs)∧CH m L=some cs∧∀cs',tI m cs' L=L.set i (.box m cs')
  | [],h=>by cases h
  | x :: L, h => by
    have ih:JZ m L=true→CH m (x :: L)=CH m L→(∀cs',tI m cs' (x :: L)=x :: tI m cs' L)→∃i cs,(x :: L)[i]?=some (.box m cs)∧CH m (x :: L)=some cs∧∀cs',tI m cs' (x :: L)=(x :: L).set i (.box m cs'):=fun h h2 h3=>by
      obtain⟨i,cs,g1,g2,g3⟩:=aDF h
      exact⟨i+1,cs,by simpa using g1,by rw [h2,g2],fun cs'=>by rw [h3,g3];rfl⟩
    cases x with
    | box k cs =>
      simp only [JZ] at h
      split at h
      · rename_i hb
        have:=Nat.eq_of_beq_eq_true hb
        subst this
        exact⟨0,cs,rfl,by simp only [CH,hb],fun cs'=>by simp only [tI,hb];rfl⟩
      · rename_i hb
        exact ih h (by simp only [CH,hb]) (fun cs'=>by simp only [tI,hb])
    | ro k cs =>
      simp only [JZ] at h
      split at h
      · cases h
      · rename_i hb
        exact ih h (by simp only [CH,hb]) (fun cs'=>by simp only [tI])
    | o ch=>exact ih h rfl (fun _=>rfl)
    | f g=>exact ih h rfl (fun _=>rfl)
    | no=>exact ih h rfl (fun _=>rfl)
    | w k b z=>exact ih h rfl (fun _=>rfl)
theorem aIO(hT:CJ P T)(hA:eU n B e a)(hS:kZ c w B L){t:TypeId}{p v:SV}{L':List Ch}(ho:o.op=.store t x y)(hx:gN e x=some p)(hy:gN e y=some v)(h:ON T t p v L=some L'):∃w',aJP P o (vE B e) w w'∧kZ c w' B L':=by
  unfold ON at h
  split at h
  · rename_i m j
    split at h
    · rename_i hb
      split at h
      · rename_i cs _ _ sz _ h1 h2
        split at h
        · rename_i h3 h4 h5
          split at h
          case h_2=>cases h
          rename_i ds hds
          have h4:=Nat.eq_of_beq_eq_true h4
          have h5:=Nat.le_of_ble_eq_true h5
          have:=F7 hds
          rw [aBB _ _ _ (by omega)] at this
          subst this
          split at h
          case h_2=>cases h
          rename_i L2 hL2
          cases h
          have:=F7 hL2
          subst this
          obtain⟨i,cs',g1,g2,g3⟩:=aDF hb
          rw [h1] at g2;cases g2
          obtain⟨pv,hp1,hp2⟩:=dU hA hx
          obtain⟨u,hu1,hu2⟩:=dU hA hy
          obtain⟨vs,hv⟩:=OR h3 hu1
          obtain⟨b,z,rs,k1,k2,_⟩:=hS.cells h1
          simp only [eS,gV,bK,k1] at hp1
          cases hp1
          have hl:=jQ hv
          have hl2:=jQ k2
          obtain⟨⟨R,s1,s2⟩,s0⟩:=hS
          have hlt:=(List.getElem?_eq_some_iff.1 g1).1
          have gi:(L.map (iS B))[i]?=some (K1 B m cs):=by rw [List.getElem?_map,g1];rfl
          have s3:St c w ((L.map (iS B)).set i (M4 b z rs)) R:=s1.imp (hC.put i gi fun F ⟨b',z',vs',q1,q2,q3⟩=>by
            rw [k1] at q1;cases q1;rw [k2] at q2;cases q2;exact q3)
          obtain⟨w2,r1,r2⟩:=aSF (P:=P) (o:=o) (e:=vE B e) (b:=b) (q:=z) (cs:=rs) (vs:=vs) (j:=j) (m:=sz) s3 (i:=i) (by rw [List.getElem?_set_self (by simpa using hlt)]) ho hp2 hu2 (HM hu1 hv) (hT.size _ _ h2) (by omega) (Nat.ble_eq_true_of_le (by omega)) (List.all_eq_true.2 fun q hq=>by
            obtain⟨k,hk⟩:=List.getElem?_of_mem hq
            have hk2:k < (mS v).length:=by rw [←hl];exact(List.getElem?_eq_some_iff.1 hk).1
            obtain⟨q',hq1,hq2⟩:=HJ hv (List.getElem?_eq_getElem hk2)
            rw [hk] at hq2;cases hq2
            exact aDD hq1)
          refine⟨w2,r1,⟨⟨R,?_,?_⟩,s0⟩⟩
          · rw [List.set_set] at r2
            rw [g3,List.map_set]
            exact r2.imp (hC.set i (hC.refl _) fun F hF=>⟨b,z,_,k1,PG j k2 hv,hF⟩)
          · rw [g3]
            intro q hq
            rcases List.mem_or_eq_of_mem_set hq with hq | hq
            · exact s2 q hq
            · subst hq;trivial
        · cases h
      · cases h
    · cases h
  · cases h
theorem kZ.box(hS:kZ c w B L){w':World}{b:Nat}{cs:List SV}{vs:List Value}(hc:aW (bK B) cs=some vs)(h:∀M R,St c w M R→St c w' (M ++ [zJ b vs]) R):kZ c w' (B ++ [(b,0)]) (L ++ [.box B.length cs]):=by
  obtain⟨⟨R,s1,s2⟩,s0⟩:=hS
  refine⟨⟨R,?_,?_⟩,s0⟩
  · rw [List.map_append]
    refine(h _ _ s1).imp (hC.append (M6 _ L) (.cons (fun F hF=>⟨b,0,vs,by simp,eF (fun _ _=>eZ _) hc,hF⟩) .nil))
  · intro q hq
    rcases List.mem_append.1 hq with hq | hq
    · exact aA9 _ (s2 q hq)
    · simp at hq;subst hq;trivial
theorem aLB(hT:CJ P T)(hS:kZ c w B L){t:TypeId}{i:TI}{E:Env}(ho:o.op=.alloc t)(h:wZ T t=some i):∃v w' b,dJ P o E w v w'∧v=.pointer (some ⟨b,0,none⟩)∧kZ c w' (B ++ [(b,0)]) (L ++ [.box B.length i.z]):=by
  obtain⟨z,hz,hzc⟩:=hT.zero _ _ h
  have hzc':aW (bK B) i.z=some z.cells.toList:=eF (fun x v h=>by simpa using eZ (B:=[]) B h) hzc
  refine⟨_,_,w.heap.size,fun _ a hA=>?_,rfl,hS.box hzc' fun M R hM=>hM.alloc z.cells.toList t⟩
  simp [execOp,ho,Instr.alloc,hz,newVar,newRow]
theorem aQ8(hA:eU n B e a)(hS:kZ c w B L){t:TypeId}{v:SV}(ho:o.op=.box t x)(h:gN e x=some v)(hc:CM v=true):∃u w' b,dJ P o (vE B e) w u w'∧u=.pointer (some ⟨b,0,none⟩)∧kZ c w' (B ++ [(b,0)]) (L ++ [.box B.length (mS v)]):=by
  obtain⟨u,h1,h2⟩:=dU hA h
  obtain⟨vs,h3⟩:=OR hc h1
  have h4:=HM h1 h3
  subst h4
  refine⟨_,_,w.heap.size,fun _ a hA=>?_,rfl,hS.box h3 fun M R hM=>hM.alloc u.cells.toList t⟩
  simp [execOp,ho,Instr.box,hA.eval h2,newVar,newRow]
end
structure Gx where
  P:Program
  T:TT
  hT:CJ P T
  n:Nat
  c:Ctx
  B0:Bl
  N:Act→World→Prop
  X:Nat→Act→World→Prop
  Q:Act→World→Prop
abbrev Rel(g:Gx)(m:Nat)(e:SE)(L:List Ch)(a:Act)(w:World):Prop:=nN g.n g.c g.B0 m e L a w
mutual
def NK(g:Gx):List Fr→Act→World→Prop
  | []=>g.N
  | .s y :: K=>fun a w=>CW g.P y (NK g K) (XK g K) g.Q a w
  | .k _ :: K=>NK g K
def XK(g:Gx):List Fr→Nat→Act→World→Prop
  | []=>g.X
  | .s _ :: K=>XK g K
  | .k id :: K=>U9 id (NK g K) (XK g K)
end
structure RD (g:Gx) (B1:Bl) (ops:Array Oper) (l:List Bool) (is:List Nat) (Lf L:List Ch):Prop where
  pre:∃B,B1=g.B0++B
  len:l.length=ops.size
  free:aDC ops=true
  w4:kl L is=Lf
  rng:∀j∈is,j < L.length
  okf:okL B1.length Lf=true
  ap:cZ is=true
abbrev Sd(g:Gx)(B1:Bl)(Lf:List Ch):World→Prop:=fun w=>kZ g.c w B1 Lf
def aSM(g:Gx)(B1:Bl)(Lf Lv:List Ch)(m:Nat)(e:SE)(L:List Ch)(a:Act)(w:World):Prop:=∃B,(B1++B).length=m∧eU g.n (B1++B) e a∧kZ g.c w (B1++B) L∧∀w',kZ g.c w' B1 Lf→kZ g.c w' (B1++B) Lv
def G(g:Gx)(K:List Fr)(m:Nat)(e:SE)(L:List Ch):tH→Prop
  | .n=>∀a w,Rel g m e L a w→NK g K a w
  | .c x=>∀a w,Rel g m e L a w→CW g.P x (NK g K) (XK g K) g.Q a w
  | .r ops l=>∀a w,Rel g m e L a w→wpList g.P ops (ZZ (NK g K) (XK g K) g.Q) l a w
  | .d B1 ops l is Lf Lv=>RD g B1 ops l is Lf L→∀a w,aSM g B1 Lf Lv m e L a w→wpAnyH g.P .any ops (ZZ (NK g K) (XK g K) g.Q) (Sd g B1 Lf) (l.count false) l.toArray a w
  | .o B1 ops l is Lf Lv i=>RD g B1 ops l is Lf L→∀a w,aSM g B1 Lf Lv m e L a w→wpOp g.P ops (ZZ (NK g K) (XK g K) g.Q) i (fun a' w'=>Sd g B1 Lf w'∧wpAnyH g.P .any ops (ZZ (NK g K) (XK g K) g.Q) (Sd g B1 Lf) ((l.set i true).count false) (l.set i true).toArray a' w') a w
def PD(g:Gx):tH→Bl
  | .d B1 _ _ _ _ _=>B1
  | .o B1 _ _ _ _ _ _=>B1
  | _=>g.B0
def Frz(g:Gx)(cf:tH)(L L':List Ch):Prop:=match cf with
  | .d B1 ops l is Lf _=>RD g B1 ops l is Lf L→kl L' is=Lf∧∀j∈is,j < L'.length
  | .o B1 ops l is Lf _ _=>RD g B1 ops l is Lf L→kl L' is=Lf∧∀j∈is,j < L'.length
  | _=>True
def PJ(g:Gx)(K:List Fr)(m:Nat)(e:SE)(L:List Ch)(o:Oper)(Lv:List Ch)(cf cf':tH):Prop:=
  ∀(d:Nat) (x:SV) (Ln:List Ch) (nb:World→Bl) (k:Nat),o.dst=some d→(∀w,(nb w).length=k) →
    (∀B a w,eU g.n B e a→kZ g.c w B Lv→B.length=m→∃v,eS (B++nb g.c.w0) x=some v∧dJ g.P o (vE B e) w v w) →
    (∀B w L,B.length=m→kZ g.c w B L→kZ g.c w (B++nb g.c.w0) (L++Ln)) →
    G g K (m+k) ((d,x) :: e) (L++Ln) (cf'.ext Ln)→G g K m e L cf
def SI(g:Gx)(K:List Fr)(m:Nat)(e:SE)(L:List Ch)(o:Oper)(cf cf':tH):Prop:=
  ∀(ι:Type) (m':ι→Nat) (e':ι→SE) (L':ι→List Ch),(∀i,Frz g cf L (L' i)) →
    (∀B a w (next:Act→World→Prop) (Q:Exit→Act→World→Prop),(PD g cf++B).length=m→eU g.n (PD g cf++B) e a→kZ g.c w (PD g cf++B) L→(∀i a' w',nN g.n g.c (PD g cf++B) (m' i) (e' i) (L' i) a' w'→next a' w')→o.wp g.P a w next Q) →
    (∀i,G g K (m' i) (e' i) (L' i) cf')→G g K m e L cf
def Gs(g:Gx):Stop→Prop
  | .ret m e L=>∀a w,Rel g m e L a w→g.Q a w
  | .fin m e L=>∀a w,Rel g m e L a w→g.N a w
  | .ex id m e L=>∀a w,Rel g m e L a w→g.X id a w
  | .cond o b x y K m e L=>gN e o=some (.b b)→G g K m e L (.c (.cond o x y))
  | .case _ cf K m e L=>G g K m e L cf
  | .loop id y K m e L=>G g K m e L (.c (.block id (.loop y)))
  | .idx o d t s n i Lv cf cf' K m e L=>(∀x y,o.op=.indexAddr t x y→o.dst=some d→gN e x=some (.h s n)→gN e y=some (.i .i64 i)→PJ g K m e L o Lv cf cf'→G g K m e L cf)
  | .call o d f xs cf cf' K m e L=>(∀fo args ats,o.op=.call {callee:=.value fo,args:=args,argTypes:=ats}→o.dst=d→gN e fo=some (.f f [])→(∃ys,aW (gN e) args.toList=some ys∧nbA ys=xs)→okA xs=true→oN g.n d=true→SI g K m e L o cf cf'→G g K m e L cf)
  | .callp o d f xs cf cf' K m e L=>(∀fo args ats,o.op=.call {callee:=.value fo,args:=args,argTypes:=ats}→o.dst=d→gN e fo=some (.f f [])→(∃ys,aW (gN e) args.toList=some ys∧nbA ys=xs)→oN g.n d=true→SI g K m e L o cf cf'→G g K m e L cf)
  | .op o Lv cf cf' K m e L=>oN g.n o.dst=true→PJ g K m e L o Lv cf cf'→SI g K m e L o cf cf'→G g K m e L cf
  | .opp o Lv cf cf' K m e L=>oN g.n o.dst=true→PJ g K m e L o Lv cf cf'→G g K m e L cf
  | .rgn id ops K m e L=>G g K m e L (.c (.region id ops true))
  | .alt cf K m e L=>G g K m e L cf
  | .stuck=>False
noncomputable section
variable {g:Gx} {K:List Fr} {m:Nat} {e:SE} {L:List Ch}
theorem aPW{a:Act}{w:World}:∀{K:List Fr},(match pop K with | some (y,K')=>CW g.P y (NK g K') (XK g K') g.Q a w | none=>g.N a w)→NK g K a w
  | [],h=>by simpa [pop,NK] using h
  | .s y :: K,h=>by simpa [pop,NK] using h
  | .k _ :: K, h => by
    have:NK g K a w:=aPW (by simpa [pop] using h)
    simpa [NK] using this
theorem aLC{a:Act}{w:World}{id:Nat}:∀{K:List Fr},(match xit id K with | some K'=>NK g K' a w | none=>g.X id a w)→XK g K id a w
  | [],h=>by simpa [xit,XK] using h
  | .s y :: K, h => by
    have:XK g K id a w:=aLC (by simpa [xit] using h)
    simpa [XK] using this
  | .k j :: K, h => by
    simp only [xit] at h
    simp only [XK,U9]
    cases hb:Nat.beq id j with
    | true =>
      rw [hb] at h
      rw [if_pos (Nat.eq_of_beq_eq_true hb)];exact h
    | false =>
      rw [hb] at h
      rw [if_neg (fun e=>by rw [e] at hb;simp at hb)]
      exact aLC h
theorem aHK{F:Nat}(ih:∀K c m e L,Gs g (PF g.T g.n F K c m e L)→G g K m e L c)(h:Gs g (match pop K with | some (y,K')=>PF g.T g.n F K' (.c y) m e L | none=>.fin m e L)):∀a w,Rel g m e L a w→NK g K a w:=fun a w hr=>by
  refine aPW ?_
  split
  · rename_i y K' hp
    rw [hp] at h
    exact ih _ _ _ _ _ h a w hr
  · rename_i hp
    rw [hp] at h
    exact h a w hr
theorem eU.ext{n:Nat}{B nb:Bl}{a a':Act}{d:Nat}{x:SV}{v:Value}(hA:eU n B e a)(hx:eS (B++nb) x=some v)(hA':jO n ((d,v) :: vE B e) a'):eU n (B++nb) ((d,x) :: e) a':=by
  refine(hA.app nb).of hx ⟨hA'.d,hA'.size,fun k u hk=>?_⟩
  simp only [lk] at hk
  cases hb:Nat.beq k d with
  | true=>rw [hb] at hk;exact hA'.get k u (by simp only [lk,hb];exact hk)
  | false =>
    rw [hb] at hk
    obtain⟨y,h2,h3⟩:=aK0 hk
    obtain⟨u2,h4,h5⟩:=hA.get k y h2
    rw [z9 nb h4] at h3
    refine hA'.get k u ?_
    simp only [lk,hb]
    rw [VN h2,h4];simpa using h3.symm
theorem aOI{ops:Array Oper}{l:List Oper}{o:Oper}(hg:v8 ops e o.guard=.yes)(hd:oN g.n o.dst=true):PJ g K m e L o L (.r ops (o :: l)) (.r ops l):=by
  intro d x Ln nb k hdst hk hv hs hG a w ⟨B,hm,hA,hS⟩
  obtain⟨v,h1,h2⟩:=hv _ a w hA hS hm
  rw [hdst] at hd
  refine eC h2 (OS hg) hdst hd (fun a' hA'=>hG a' w ⟨B++nb g.c.w0,?_,?_,?_⟩) a hA.env
  · rw [←List.append_assoc,List.length_append,hm,hk]
  · rw [←List.append_assoc];exact hA.ext h1 hA'
  · rw [←List.append_assoc];exact hs _ w _ hm hS
theorem aHL{ops:Array Oper}{l:List Oper}{o:Oper}(hg:v8 ops e o.guard=.yes):SI g K m e L o (.r ops (o :: l)) (.r ops l):=by
  intro ι m' e' L' _ hrun hG a w hr
  have ⟨B,hm,hA,hS⟩:=hr
  refine wpList_step fun K' hK=>?_
  rw [OS hg _ a hA.env,if_pos rfl]
  exact hrun B a w K' _ hm hA hS (fun i a' w' ⟨B',h1,h2,h3⟩=>hK a' w' (hG i a' w' ⟨B++B',by rw [←List.append_assoc];exact h1,by rw [←List.append_assoc];exact h2,by rw [←List.append_assoc];exact h3⟩))
theorem RD.S{B1:Bl}{ops:Array Oper}{l:List Bool}{is:List Nat}{Lf:List Ch}(h:RD g B1 ops l is Lf L){w:World}{B:Bl}(hS:kZ g.c w (B1++B) L):kZ g.c w B1 Lf:=by
  have h1:=aLA hS is h.ap
  rw [h.w4] at h1
  have h2:=aBH h1 h.okf
  rwa [List.take_append_of_le_length (Nat.le_refl _),List.take_length] at h2
theorem RE{d:Edge}:Region.binds .any d=aKU d.ground:=by
  cases d with
  | mk on g=>cases g <;> rfl
theorem UW{l:List Bool}:∀{es:List Edge},F6 l es=true↔∀d∈es,Region.binds .any d=true→l[d.on]?=some true
  | []=>by simp [F6]
  | ⟨on, gr⟩ :: r => by
    have ih:=UW (l:=l) (es:=r)
    simp only [F6,List.mem_cons,forall_eq_or_imp,RE]
    cases hb:aKU gr with
    | true =>
      simp only
      split
      · rename_i h1;rw [ih];simp [h1,RE]
      · rename_i h1
        constructor
        · intro h;cases h
        · intro h;exact absurd (h.1 trivial) (by simpa using h1)
    | false=>simp only;rw [ih];simp [RE]
theorem M8{ops:Array Oper}{l:List Bool}(hl:l.length=ops.size){j:Nat}:j∈Region.ready .any ops l.toArray↔l[j]?=some false∧∃o,ops.toList[j]?=some o∧F6 l o.after.toList=true:=by
  rw [mem_ready]
  have h1:(l.toArray.getD j true=false)↔l[j]?=some false:=by
    rw [Array.getD_eq_getD_getElem?,List.getElem?_toArray]
    cases l[j]? <;> simp
  rw [h1]
  refine and_congr_right fun _=>?_
  constructor
  · rintro⟨o,h2,h3⟩
    refine⟨o,by simpa using h2,UW.2 fun d hd hb=>?_⟩
    have:=h3 d (by simpa using hd) hb
    rw [Array.getD_eq_getD_getElem?,List.getElem?_toArray] at this
    cases hx:l[d.on]? with
    | none=>rw [hx] at this;cases this
    | some b=>rw [hx] at this;simp at this;rw [this]
  · rintro⟨o,h2,h3⟩
    refine⟨o,by simpa using h2,fun d hd hb=>?_⟩
    have:=UW.1 h3 d (by simpa using hd) hb
    rw [Array.getD_eq_getD_getElem?,List.getElem?_toArray,this];rfl
theorem RF{i:Nat}:∀{es:List Edge},OQ i es=true↔∃d∈es,Region.binds .any d=true∧d.on=i
  | []=>by simp [OQ]
  | ⟨on, gr⟩ :: r => by
    have ih:=RF (i:=i) (es:=r)
    simp only [OQ,List.mem_cons,exists_eq_or_imp,RE]
    cases hb:aKU gr with
    | true =>
      simp only
      cases hi:Nat.beq on i with
      | true=>simp [Nat.eq_of_beq_eq_true hi]
      | false =>
        simp only
        have hne:on≠i:=fun h=>by rw [h] at hi;simp at hi
        rw [ih];simp [hne,RE]
    | false=>simp only;rw [ih];simp [RE]
theorem aOJ{ops:Array Oper}{l:List Bool}(hl:l.length=ops.size)(hf:aDC ops=true){i:Nat}{o:Oper}(ho:ops.toList[i]?=some o)(hr:F6 l o.after.toList=true):Region.noSelect ops=true∧Region.free .any ops l.toArray i=true:=by
  unfold aDC at hf
  rw [Bool.and_eq_true,List.all_eq_true] at hf
  refine⟨hf.1,?_⟩
  unfold Region.free
  have hoi:ops[i]?=some o:=by simpa using ho
  rw [hoi]
  simp only [List.all_eq_true,List.mem_range]
  intro j hj
  have hoj:ops[j]?=some ops[j]:=by simp [hj]
  rw [hoj]
  simp only [Bool.or_eq_true,beq_iff_eq]
  by_cases hji:j=i
  · exact .inl (.inl hji)
  · have h1:=hf.2 (o,i) (List.mk_mem_zipIdx_iff_getElem?.2 ho)
    rw [List.all_eq_true] at h1
    have h2:=h1 (ops[j],j) (List.mk_mem_zipIdx_iff_getElem?.2 (by simp [hj]))
    simp only [Bool.or_eq_true] at h2
    rcases h2 with ((h2 | h2) | h2) | h2
    · exact absurd (Nat.eq_of_beq_eq_true h2).symm hji
    · obtain⟨d,hd,hb,he⟩:=RF.1 h2
      refine .inr (.inl ?_)
      rw [←Array.any_toList,List.any_eq_true]
      exact⟨d,hd,by simp [hb,he]⟩
    · obtain⟨d,hd,hb,he⟩:=RF.1 h2
      have:=UW.1 hr d hd hb
      rw [he] at this
      refine .inl (.inr ?_)
      rw [Array.getD_eq_getD_getElem?,List.getElem?_toArray,this];rfl
    · exact .inr (.inr h2)
theorem count_set{l:List Bool}:∀{i:Nat},l[i]?=some false→l.count false=(l.set i true).count false+1:=by
  induction l with
  | nil=>intro i h;simp at h
  | cons b l ih =>
    intro i h
    cases i with
    | zero=>simp at h;subst h;simp
    | succ i =>
      have:=ih (i:=i) (by simpa using h)
      simp only [List.set_cons_succ,List.count_cons]
      omega
theorem aFP{B1:Bl}{ops:Array Oper}{l:List Bool}{is:List Nat}{Lf:List Ch}{i:Nat}{o:Oper}{d:Nat}{v:Value}{a:Act}{w:World}{B:Bl}(hD:RD g B1 ops l is Lf L)(ho:ops.toList[i]?=some o)(hl:l[i]?=some false)(hr:F6 l o.after.toList=true)(hdst:o.dst=some d)(hdn:Nat.blt d g.n=true)(hA:eU g.n (B1++B) e a)(hS:kZ g.c w (B1++B) L)
    (hy:(Want ops o (vE (B1++B) e) true∧∀w',Sd g B1 Lf w'→dJ g.P o (vE (B1++B) e) w' v w')∨(Want ops o (vE (B1++B) e) false∧v=undef))
    (k:∀a',jO g.n ((d,v) :: vE (B1++B) e) a'→wpAnyH g.P .any ops (ZZ (NK g K) (XK g K) g.Q) (Sd g B1 Lf) ((l.set i true).count false) (l.set i true).toArray a' w):wpAnyH g.P .any ops (ZZ (NK g K) (XK g K) g.Q) (Sd g B1 Lf) (l.count false) l.toArray a w:=by
  obtain⟨f1,f2⟩:=aOJ hD.len hD.free ho hr
  rw [count_set hl]
  refine wpAnyH_take (v:=v) (by simpa using ho) f1 f2 (by simpa using (M8 hD.len).2 ⟨hl,o,ho,hr⟩) (fun _ _ _ h=>h.elim) ?_ (hD.S hS) ?_
  · rcases hy with ⟨h1,h2⟩ | ⟨h1,h2⟩
    · exact .inl ⟨h1 _ a hA.env,fun w' hS'=>h2 w' hS' _ a hA.env⟩
    · exact .inr ⟨h1 _ a hA.env,h2⟩
  · rw [hdst]
    have:=k _ (hA.env.put (by simpa [Nat.blt_eq] using hdn) v)
    simpa using this
theorem RD.set{B1:Bl}{ops:Array Oper}{l:List Bool}{is:List Nat}{Lf L':List Ch}(h:RD g B1 ops l is Lf L)(i:Nat)(hz:kl L' is=Lf∧∀j∈is,j < L'.length):RD g B1 ops (l.set i true) is Lf L':=
  ⟨h.pre,by simpa using h.len,h.free,hz.1,hz.2,h.okf,h.ap⟩
theorem aLD{L Ln:List Ch}:∀{is:List Nat},(∀j∈is,j < L.length)→kl (L++Ln) is=kl L is
  | [],_=>rfl
  | i :: is, h => by
    simp only [kl,List.getElem?_append_left (h i (by simp)),aLD (fun j hj=>h j (List.mem_cons_of_mem _ hj))]
theorem RD.VQ{B1:Bl}{ops:Array Oper}{l:List Bool}{is:List Nat}{Lf:List Ch}(h:RD g B1 ops l is Lf L)(Ln:List Ch):kl (L++Ln) is=Lf∧∀j∈is,j < (L++Ln).length:=
  ⟨by rw [aLD h.rng];exact h.w4,fun j hj=>by have:=h.rng j hj;simp;omega⟩
theorem aOK{B1:Bl}{ops:Array Oper}{l:List Bool}{is:List Nat}{Lf Lv:List Ch}{i:Nat}{o:Oper}(ho:ops.toList[i]?=some o)(hl:l[i]?=some false)(hr:F6 l o.after.toList=true)(hg:v8 ops e o.guard=.yes)(hd:oN g.n o.dst=true):PJ g K m e L o Lv (.d B1 ops l is Lf Lv) (.d B1 ops (l.set i true) is Lf Lv):=by
  intro d x Ln nb k hdst hk hv hs hG hD a w ⟨B,hm,hA,hS,hV⟩
  rw [hdst] at hd
  obtain⟨v,h1,h2⟩:=hv _ a w hA (hV w (hD.S hS)) hm
  refine aFP (v:=v) hD ho hl hr hdst hd hA hS (.inl ⟨OS hg,fun w' hS'=>?_⟩) fun a' hA'=>?_
  · obtain⟨v',h3,h4⟩:=hv _ a w' hA (hV w' hS') hm
    rw [h1] at h3;cases h3;exact h4
  · refine hG (hD.set i (hD.VQ Ln)) a' w ⟨B++nb g.c.w0,?_,?_,?_,fun w' hS'=>?_⟩
    · rw [←List.append_assoc,List.length_append,hm,hk]
    · rw [←List.append_assoc];exact hA.ext h1 hA'
    · rw [←List.append_assoc];exact hs _ w _ hm hS
    · rw [←List.append_assoc];exact hs _ w' _ hm (hV w' hS')
theorem aDG{l:List Bool}{i:Nat}:∀{os:List Oper} {j0:Nat},SH l i os j0=true→∀j o,os[j]?=some o→l[j0+j]?=some false→(F6 l o.after.toList=true↔j0+j=i)
  | [],_,_,j,o,h,_=>by simp at h
  | p :: os, j0, h, j, o, hj, hl => by
    simp only [SH] at h
    cases j with
    | zero =>
      simp at hj;subst hj
      simp only [Nat.add_zero] at hl ⊢
      rw [hl] at h
      simp only at h
      cases hb:Nat.beq j0 i with
      | true =>
        rw [hb] at h;simp only at h
        split at h
        · rename_i hr;simp [hr,Nat.eq_of_beq_eq_true hb]
        · cases h
      | false =>
        rw [hb] at h;simp only at h
        have hne:j0≠i:=fun h=>by rw [h] at hb;simp at hb
        split at h
        · cases h
        · rename_i hr;simp [hr,hne]
    | succ j =>
      have h':SH l i os (j0+1)=true:=by
        split at h
        · split at h
          · split at h
            · exact h
            · cases h
          · split at h
            · cases h
            · exact h
        · exact h
        · cases h
      have:=aDG h' j o (by simpa using hj) (by rw [show j0+1+j=j0+(j+1) from by omega];exact hl)
      rw [this];omega
theorem aOL{B1:Bl}{ops:Array Oper}{l:List Bool}{is:List Nat}{Lf Lv:List Ch}{i:Nat}{o:Oper}(ho:ops.toList[i]?=some o)(hg:v8 ops e o.guard=.yes):SI g K m e L o (.o B1 ops l is Lf Lv i) (.d B1 ops (l.set i true) is Lf Lv):=by
  intro ι m' e' L' hz hrun hG hD a w hr
  have ⟨B,hm,hA,hS,hV⟩:=hr
  unfold wpOp
  have hoi:ops[i]?=some o:=by simpa using ho
  simp only [hoi,OS hg _ a hA.env,if_true]
  refine .inl (hrun B a w _ _ hm hA hS fun j a' w' h=>?_)
  have hD':=hD.set i (hz j hD)
  obtain⟨B',q1,q2,q3⟩:=h
  refine⟨?_,?_⟩
  · refine hD'.S (B:=B++B') ?_
    rw [←List.append_assoc];exact q3
  · have:=hG j hD' a' w' ⟨B++B',by rw [←List.append_assoc];exact q1,by rw [←List.append_assoc];exact q2,by rw [←List.append_assoc];exact q3,fun w2 h2=>by rw [←List.append_assoc];exact(hV w2 h2).app B'⟩
    simpa using this
theorem aOM{B1:Bl}{ops:Array Oper}{l:List Bool}{is:List Nat}{Lf Lv:List Ch}{i:Nat}{o:Oper}(ho:ops.toList[i]?=some o)(hg:v8 ops e o.guard=.yes)(hd:oN g.n o.dst=true):PJ g K m e L o Lv (.o B1 ops l is Lf Lv i) (.d B1 ops (l.set i true) is Lf Lv):=by
  intro d x Ln nb k hdst hk hv hs hG hD a w ⟨B,hm,hA,hS,hV⟩
  rw [hdst] at hd
  obtain⟨v,h1,h2⟩:=hv _ a w hA (hV w (hD.S hS)) hm
  unfold wpOp
  have hoi:ops[i]?=some o:=by simpa using ho
  simp only [hoi,OS hg _ a hA.env,if_true]
  refine .inl ?_
  unfold Oper.wp
  rw [h2 _ a hA.env,Oper.upon_value,hdst]
  have hA':=hA.env.put (show d < g.n by simpa [oN,Nat.blt_eq] using hd) v
  refine⟨hD.S hS,hG (hD.set i (hD.VQ Ln)) _ w ⟨B++nb g.c.w0,?_,?_,?_,fun w' hS'=>?_⟩⟩
  · rw [←List.append_assoc,List.length_append,hm,hk]
  · rw [←List.append_assoc];exact hA.ext h1 hA'
  · rw [←List.append_assoc];exact hs _ w _ hm hS
  · rw [←List.append_assoc];exact hs _ w' _ hm (hV w' hS')
theorem Z9{l:List Bool}{j:Nat}:∀{os:List Oper} {j0:Nat} {o:Oper},os[j]?=some o→l[j0+j]?=some false→F6 l o.after.toList=true→j0+j∈qF l os j0:=by
  intro os
  induction os generalizing j with
  | nil=>intro j0 o h;simp at h
  | cons p os ih =>
    intro j0 o h hl hr
    cases j with
    | zero =>
      simp at h;subst h
      simp only [Nat.add_zero] at hl ⊢
      simp [qF,hl,hr]
    | succ j =>
      have h2:=ih (j:=j) (j0:=j0+1) (o:=o) (by simpa using h) (by rw [show j0+1+j=j0+(j+1) by omega];exact hl) hr
      rw [show j0+1+j=j0+(j+1) by omega] at h2
      simp only [qF]
      split
      · split
        · exact List.mem_cons_of_mem _ h2
        · exact h2
      · exact h2
theorem aSN{B1:Bl}{ops:Array Oper}{l:List Bool}{is:List Nat}{Lf Lv:List Ch}(hex:∃i,i∈qF l ops.toList 0)(h:∀i∈qF l ops.toList 0,G g K m e L (.o B1 ops l is Lf Lv i))(hok:∀i∈qF l ops.toList 0,l[i]?=some false∧∃o,ops.toList[i]?=some o∧F6 l o.after.toList=true):G g K m e L (.d B1 ops l is Lf Lv):=by
  intro hD a w hr
  obtain⟨i0,hi0⟩:=hex
  obtain⟨q1,q2⟩:=hok i0 hi0
  have hm:i0∈Region.ready .any ops l.toArray:=(M8 hD.len).2 ⟨q1,q2⟩
  rw [count_set q1]
  refine⟨fun h=>(by rw [h] at hm;cases hm),fun j hj=>?_⟩
  obtain⟨h1,p,h2,h3⟩:=(M8 hD.len).1 hj
  have h4:=Z9 (j0:=0) h2 (by simpa using h1) h3
  rw [Nat.zero_add] at h4
  have h5:=h j h4 hD a w hr
  have h6:(l.set i0 true).count false=(l.set j true).count false:=by
    have:=count_set q1
    have:=count_set h1
    omega
  rw [h6]
  simpa using h5
theorem VR{l:List Bool}{i:Nat}:∀{os:List Oper} {j0:Nat},i∈qF l os j0→l[i]?=some false∧∃j o,os[j]?=some o∧j0+j=i∧F6 l o.after.toList=true:=by
  intro os
  induction os with
  | nil=>intro j0 h;cases h
  | cons p os ih =>
    intro j0 h
    have tail:i∈qF l os (j0+1)→l[i]?=some false∧∃j o,(p :: os)[j]?=some o∧j0+j=i∧F6 l o.after.toList=true:=fun h=>by
      obtain⟨h1,j,o,h2,h3,h4⟩:=ih h
      exact⟨h1,j+1,o,by simpa using h2,by omega,h4⟩
    simp only [qF] at h
    split at h
    · rename_i hl
      split at h
      · rename_i hr
        rcases List.mem_cons.1 h with h | h
        · subst h;exact⟨hl,0,p,rfl,by omega,hr⟩
        · exact tail h
      · exact tail h
    · exact tail h
theorem aLE{B1:Bl}{ops:Array Oper}{l:List Bool}{is:List Nat}{Lf Lv:List Ch}{i0:Nat}{r:List Nat}(hr:qF l ops.toList 0=i0 :: r)(h:∀i∈i0 :: r,G g K m e L (.o B1 ops l is Lf Lv i)):G g K m e L (.d B1 ops l is Lf Lv):=
  aSN ⟨i0,by rw [hr];simp⟩ (fun i hi=>h i (by rw [←hr];exact hi)) fun i hi=>by
    obtain⟨h1,j,o,h2,h3,h4⟩:=VR hi
    rw [Nat.zero_add] at h3;subst h3
    exact⟨h1,o,h2,h4⟩
theorem aON{l:List Bool}{i:Nat}{ops:Array Oper}(h:SH l i ops.toList 0=true):∀j∈qF l ops.toList 0,j=i:=fun j hj=>by
  obtain⟨h1,k,o,h2,h3,h4⟩:=VR hj
  rw [Nat.zero_add] at h3;subst h3
  have:=(aDG h k o h2 (by simpa using h1)).1 h4
  simpa using this
def PsG(g:Gx)(K:List Fr)(m:Nat)(L:List Ch)(B1:Bl)(ops:Array Oper)(is:List Nat)(Lf Lv:List Ch):Ps→Prop
  | .bad=>False
  | .ask _ l e=>G g K m e L (.d B1 ops l is Lf Lv)
  | .pur j o l e=>ops.toList[j]?=some o→l[j]?=some false→F6 l o.after.toList=true→v8 ops e o.guard=.yes→G g K m e L (.d B1 ops l is Lf Lv)
  | .fin l e _=>G g K m e L (.d B1 ops l is Lf Lv)
theorem M9{B1:Bl}{ops:Array Oper}{is:List Nat}{Lf Lv:List Ch}:∀(r:List Oper) (i:Nat) (l:List Bool) (e:SE) (q:List (Nat×Oper)),(∀j,r[j]?=ops.toList[i+j]?) →
    PsG g K m L B1 ops is Lf Lv (pass g.T g.n ops Lv r i l e q)→G g K m e L (.d B1 ops l is Lf Lv)
  | [], i, l, e, q, hr, h => by
    unfold pass at h
    exact h
  | o :: r, i, l, e, q, hr, h => by
    have ho:ops.toList[i]?=some o:=by have:=hr 0;simpa using this.symm
    have hr':∀j,r[j]?=ops.toList[i+1+j]?:=fun j=>by
      have:=hr (j+1)
      rw [show i+1+j=i+(j+1) from by omega,←this];simp
    unfold pass at h
    cases hl:l[i]? with
    | none=>simp only [hl] at h;exact h.elim
    | some b =>
      cases b with
      | true=>simp only [hl] at h;exact M9 r (i+1) l e q hr' h
      | false =>
        cases hre:F6 l o.after.toList with
        | false=>simp only [hl,hre] at h;exact M9 r (i+1) l e q hr' h
        | true =>
          cases hgd:v8 ops e o.guard with
          | bad=>simp only [hl,hre,hgd] at h;exact h.elim
          | ask c=>simp only [hl,hre,hgd] at h;exact h
          | no =>
            cases hd:o.dst with
            | none=>simp only [hl,hre,hgd,hd] at h;exact h.elim
            | some d =>
              cases hb:Nat.blt d g.n with
              | false=>simp only [hl,hre,hgd,hd,hb] at h;exact h.elim
              | true =>
                simp only [hl,hre,hgd,hd,hb] at h
                have ih:=M9 r (i+1) _ _ q hr' h
                intro hD a w ⟨B,hm,hA,hS,hV⟩
                refine aFP (v:=undef) hD ho hl hre hd hb hA hS (.inr ⟨aPV hgd,rfl⟩) fun a' hA'=>?_
                exact ih (hD.set i ⟨hD.w4,hD.rng⟩) a' w ⟨B,hm,hA.of (x:=.u) rfl hA',hS,hV⟩
          | yes =>
            cases hv:ev1 g.T e Lv o.op with
            | some v =>
              cases hd:o.dst with
              | none=>simp only [hl,hre,hgd,hv,hd] at h;exact h.elim
              | some d =>
                cases hb:Nat.blt d g.n with
                | false=>simp only [hl,hre,hgd,hv,hd,hb] at h;exact h.elim
                | true =>
                  simp only [hl,hre,hgd,hv,hd,hb] at h
                  have ih:=M9 r (i+1) _ _ q hr' h
                  intro hD a w ⟨B,hm,hA,hS,hV⟩
                  obtain⟨u,h1,h2⟩:=aBC g.hT hA (hV w (hD.S hS)) hv
                  refine aFP (v:=u) hD ho hl hre hd hb hA hS (.inl ⟨OS hgd,fun w' hS'=>?_⟩) fun a' hA'=>?_
                  · obtain⟨u',h3,h4⟩:=aBC (w:=w') g.hT hA (hV w' hS') hv
                    rw [h1] at h3;cases h3;exact h4
                  · exact ih (hD.set i ⟨hD.w4,hD.rng⟩) a' w ⟨B,hm,hA.of h1 hA',hS,hV⟩
            | none =>
              cases hp:aPS o.op with
              | true=>simp only [hl,hre,hgd,hv,hp] at h;exact h ho hl hre hgd
              | false =>
                simp only [hl,hre,hgd,hv,hp] at h
                exact M9 r (i+1) l e ((i,o) :: q) hr' h
theorem aHM:∀{l:List Bool} {i:Nat},aOD l=true→l[i]?≠some false
  | [],i,_=>by simp
  | b :: l, i, h => by
    unfold aOD at h
    cases b with
    | false=>cases h
    | true =>
      cases i with
      | zero=>simp
      | succ i=>simpa using aHM (l:=l) (i:=i) h
theorem aAA{k:Nat}:∀{L:List Ch},JZ k L=true→∃i,(∀cs',tI k cs' L=L.set i (.box k cs'))∧∀k0,aA6 k L k0=k0+i
  | [],h=>by cases h
  | x :: L, h => by
    have ih:JZ k L=true→(∀cs',tI k cs' (x :: L)=x :: tI k cs' L)→(∀k0,aA6 k (x :: L) k0=aA6 k L (k0+1))→∃i,(∀cs',tI k cs' (x :: L)=(x :: L).set i (.box k cs'))∧∀k0,aA6 k (x :: L) k0=k0+i:=fun h h2 h3=>by
      obtain⟨i,g1,g2⟩:=aAA h
      exact⟨i+1,fun cs'=>by rw [h2,g1];rfl,fun k0=>by rw [h3,g2];omega⟩
    cases x with
    | box j cs =>
      simp only [JZ] at h
      split at h
      · rename_i hb
        exact⟨0,fun cs'=>by simp only [tI,hb];rw [Nat.eq_of_beq_eq_true hb];rfl,fun k0=>by simp only [aA6,hb];rfl⟩
      · rename_i hb
        exact ih h (fun cs'=>by simp only [tI,hb]) (fun k0=>by simp only [aA6,hb])
    | ro j cs =>
      simp only [JZ] at h
      split at h
      · cases h
      · exact ih h (fun _=>rfl) (fun _=>rfl)
    | o ch=>exact ih h (fun _=>rfl) (fun _=>rfl)
    | f g=>exact ih h (fun _=>rfl) (fun _=>rfl)
    | no=>exact ih h (fun _=>rfl) (fun _=>rfl)
    | w k b z=>exact ih h (fun _=>rfl) (fun _=>rfl)
theorem VT{i:Nat}:∀{is:List Nat},fD i is=true→i∉is
  | [],_=>by simp
  | j :: r, h => by
    unfold fD at h
    cases hb:Nat.beq i j with
    | true=>rw [hb] at h;cases h
    | false =>
      rw [hb] at h
      have hne:i≠j:=fun e=>by rw [e] at hb;simp at hb
      simpa [hne] using VT h
theorem aLF{L:List Ch}{i:Nat}{x:Ch}:∀{is:List Nat},i∉is→kl (L.set i x) is=kl L is
  | [],_=>rfl
  | j :: is, h => by
    have hne:i≠j:=fun e=>h (by simp [e])
    simp only [kl,List.getElem?_set_ne hne,aLF (fun hj=>h (List.mem_cons_of_mem _ hj))]
theorem aFQ{T:TT}{t:TypeId}{p v:SV}{L':List Ch}{x y:Operand}{is:List Nat}(h:ON T t p v L=some L')(hp:gN e x=some p)(hf:aQ1 e L is (.store t x y)=true)(hr:∀j∈is,j < L.length):kl L' is=kl L is∧∀j∈is,j < L'.length:=by
  unfold ON at h
  split at h
  · rename_i k o
    split at h
    · rename_i hb
      split at h
      · split at h
        · split at h
          case h_2=>cases h
          split at h
          case h_2=>cases h
          rename_i L2 hL2
          cases h
          have:=F7 hL2
          subst this
          obtain⟨i,h1,h2⟩:=aAA hb
          simp only [aQ1,hp,h2] at hf
          have:=VT hf
          rw [Nat.zero_add] at this
          rw [h1]
          exact⟨aLF this,by simpa using hr⟩
        · cases h
      · cases h
    · cases h
  · cases h
theorem aOO{a a':Act}{w':World}{B0 B:Bl}{d b:Nat}{cs:List SV}(hm:(B0++B).length=m)(hA:eU g.n (B0++B) e a)(hA':jO g.n ((d,.pointer (some ⟨b,0,none⟩)) :: vE (B0++B) e) a')(hS':kZ g.c w' ((B0++B) ++ [(b,0)]) (L ++ [.box (B0++B).length cs])):nN g.n g.c (B0++B) (m+1) ((d,.p m 0) :: e) (L ++ [.box m cs]) a' w':=by
  refine⟨[(b,0)],by simp at hm ⊢;omega,?_,?_⟩
  · exact hA.ext (nb:=[(b,0)]) (x:=.p m 0) (by simp [eS,gV,bK,←hm]) hA'
  · rw [←hm];exact hS'
theorem uY{cf:tH}(Ln:List Ch):Frz g cf L (L++Ln):=by
  cases cf with
  | d B1 ops l is Lf Lv=>exact fun hD=>hD.VQ Ln
  | o B1 ops l is Lf Lv i=>exact fun hD=>hD.VQ Ln
  | _=>trivial
theorem aHN{T:TT}{op:Op}{v:SV}(h:eff T e L op=.val v):ev1 T e L op=some v:=by
  unfold eff at h
  split at h
  · rename_i hv;cases h;exact hv
  · repeat' (split at h)
    all_goals cases h
theorem aOP{T:TT}{op:Op}{cs:List SV}(h:eff T e L op=.box cs):(∃t i,op=.alloc t∧wZ T t=some i∧cs=i.z)∨(∃t x v,op=.box t x∧gN e x=some v∧CM v=true∧cs=mS v):=by
  unfold eff at h
  split at h
  · cases h
  · split at h
    · split at h
      · rename_i hl;cases h;exact .inl ⟨_,_,rfl,hl,rfl⟩
      · cases h
    · split at h
      · rename_i hv
        split at h
        · rename_i hc;cases h;exact .inr ⟨_,_,_,rfl,hv,hc,rfl⟩
        · cases h
      · cases h
    · split at h
      · split at h <;> cases h
      · cases h
    · cases h
theorem aQ9{T:TT}{op:Op}{L':List Ch}(h:eff T e L op=.st L'):∃t x y p v,op=.store t x y∧gN e x=some p∧ON T t p v L=some L':=by
  unfold eff at h
  split at h
  · cases h
  · split at h
    · split at h <;> cases h
    · split at h
      · split at h <;> cases h
      · cases h
    · split at h
      · rename_i hx hy
        split at h
        · rename_i hs;cases h;exact⟨_,_,_,_,_,rfl,hx,hs⟩
        · cases h
      · cases h
    · cases h
theorem aOQ{T:TT}{op:Op}{L':List Ch}(h:eff T e L op=.st L'):∃t x y p v,op=.store t x y∧gN e x=some p∧gN e y=some v∧ON T t p v L=some L':=by
  unfold eff at h
  split at h
  · cases h
  · split at h
    · split at h <;> cases h
    · split at h
      · split at h <;> cases h
      · cases h
    · split at h
      · rename_i hx hy
        split at h
        · rename_i hs;cases h;exact⟨_,_,_,_,_,rfl,hx,hy,hs⟩
        · cases h
      · cases h
    · cases h
theorem aLG{o:Oper}{cf cf':tH}(hE:SI g K m e L o cf cf') :
    (∀d cs,eff g.T e L o.op=.box cs→o.dst=some d→Nat.blt d g.n=true→Frz g cf L (L ++ [.box m cs])→G g K (m+1) ((d,.p m 0) :: e) (L ++ [.box m cs]) cf'→G g K m e L cf) ∧
    (∀L',eff g.T e L o.op=.st L'→o.dst=none→Frz g cf L L'→G g K m e L' cf'→G g K m e L cf):=by
  refine⟨fun d cs hf hd hdn hz hG=>hE Unit (fun _=>m+1) (fun _=>(d,.p m 0) :: e) (fun _=>L ++ [.box m cs]) (fun _=>hz) (fun B a w next Q hm hA hS hnext=>?_) (fun _=>hG),fun L' hf hd hz hG=>hE Unit (fun _=>m) (fun _=>e) (fun _=>L') (fun _=>hz) (fun B a w next Q hm hA hS hnext=>?_) (fun _=>hG)⟩
  · have fin:∀{u:Value} {w':World} {b:Nat},dJ g.P o (vE (PD g cf++B) e) w u w'→u=.pointer (some ⟨b,0,none⟩)→kZ g.c w' ((PD g cf++B) ++ [(b,0)]) (L ++ [.box (PD g cf++B).length cs])→o.wp g.P a w next Q:=by
      intro u w' b hR hu hS'
      subst hu
      unfold Oper.wp
      rw [hR _ a hA.env,Oper.upon_value,hd]
      exact hnext () _ _ (aOO hm hA (hA.env.put (by simpa [Nat.blt_eq] using hdn) _) hS')
    rcases aOP hf with ⟨t,i,ho,hl,rfl⟩ | ⟨t,x,v,ho,hv,hc,rfl⟩
    · obtain⟨u,w',b,k1,k2,k3⟩:=aLB (E:=vE (PD g cf++B) e) g.hT hS ho hl
      exact fin k1 k2 k3
    · obtain⟨u,w',b,k1,k2,k3⟩:=aQ8 (P:=g.P) hA hS ho hv hc
      exact fin k1 k2 k3
  · obtain⟨t,x,y,p,v,ho,hx,hy,hs⟩:=aOQ hf
    obtain⟨w',k1,k2⟩:=aIO g.hT hA hS ho hx hy hs
    unfold Oper.wp
    rw [k1 _ a hA.env,Oper.upon_skip,hd]
    exact hnext () _ _ ⟨[],by simpa using hm,by rw [List.append_nil];exact⟨hA.d,hA.size,hA.get⟩,by simpa using k2⟩
theorem aLH{o:Oper}{Lv:List Ch}{cf cf':tH}(h:Gs g (aOC e o Lv cf cf' K m L o.op))(hd:oN g.n o.dst=true)(hP:PJ g K m e L o Lv cf cf')(hE:SI g K m e L o cf cf'):G g K m e L cf:=by
  generalize hop:o.op=op at h
  unfold aOC at h
  split at h
  · split at h
    · exact h
    · exact h.elim
  · split at h
    · rename_i h1 h2 h3
      exact h _ _ hop h3 h1 h2 hP
    · exact h hd hP hE
  · split at h
    · rename_i h1 h2
      split at h
      · rename_i hx
        exact h _ _ _ hop rfl h1 ⟨_,h2,rfl⟩ hx hd hE
      · exact h _ _ _ hop rfl h1 ⟨_,h2,rfl⟩ hd hE
    · exact h hd hP hE
  · exact h hd hP hE
theorem aOR{o:Oper}{Lv:List Ch}{cf cf':tH}(h:Gs g (aQ0 e o Lv cf cf' K m L o.op))(hd:oN g.n o.dst=true)(hP:PJ g K m e L o Lv cf cf'):G g K m e L cf:=by
  generalize hop:o.op=op at h
  unfold aQ0 at h
  split at h
  · split at h
    · exact h
    · exact h.elim
  · split at h
    · rename_i h1 h2 h3
      exact h _ _ hop h3 h1 h2 hP
    · exact h hd hP
  · exact h hd hP
theorem OT : ∀ (F : Nat) (K : List Fr) (c : tH) (m : Nat) (e : SE) (L : List Ch), Gs g (PF g.T g.n F K c m e L) → G g K m e L c
  | 0,_,_,_,_,_,h=>h.elim
  | F + 1, K, .c x, m, e, L, h => by
    have ih:=OT F
    unfold PF at h
    cases x with
    | skip=>exact fun a w hr=>mC (aHK ih h a w hr)
    | seq x y=>exact fun a w hr=>bH (ih _ _ _ _ _ h a w hr)
    | block id b =>
      simp only at h
      split at h
      · exact h
      · exact fun a w hr=>jP (ih _ _ _ _ _ h a w hr)
    | exit id =>
      simp only at h
      refine fun a w hr=>E1 (aLC ?_)
      cases hx:xit id K with
      | some K'=>rw [hx] at h;exact aHK ih h a w hr
      | none=>rw [hx] at h;exact h a w hr
    | ret=>exact fun a w hr=>v5 (h a w hr)
    | cond o x y =>
      simp only at h
      split at h
      · rename_i c ho
        intro a w hr
        obtain⟨B,hm,hA,hS⟩:=hr
        obtain⟨v,h1,h2⟩:=dU hA ho
        cases h1
        cases c with
        | true=>exact aQF hA.env h2 rfl (ih _ _ _ _ _ h a w ⟨B,hm,hA,hS⟩)
        | false=>exact aSC hA.env h2 rfl (ih _ _ _ _ _ h a w ⟨B,hm,hA,hS⟩)
      · rename_i c ho
        exact h ho
      · exact h.elim
    | region id ops d =>
      cases d with
      | false=>exact fun a w hr=>Z0 (ih _ _ _ _ _ h a w hr)
      | true=>exact h
    | _=>exact h.elim
  | F + 1, K, .n, m, e, L, h => by
    have ih:=OT F
    unfold PF at h
    exact fun a w hr=>aHK ih h a w hr
  | F + 1, K, .r ops [], m, e, L, h => by
    have ih:=OT F
    unfold PF at h
    exact fun a w hr=>aHK ih h a w hr
  | F + 1, K, .r ops (⟨dst, op, ty, ps, af, gd⟩ :: l), m, e, L, h => by
    have ih:=OT F
    unfold PF at h
    generalize hg:v8 ops e gd=gv at h
    cases gv with
    | bad=>exact h.elim
    | ask c=>exact h
    | no =>
      simp only at h
      split at h
      · rename_i d
        split at h
        · rename_i hd
          intro a w ⟨B,hm,hA,hS⟩
          exact eJ (aPV hg) rfl hd (fun a' hA'=>ih _ _ _ _ _ h a' w ⟨B,hm,hA.of (x:=.u) (v:=undef) rfl hA',hS⟩) a hA.env
        · exact h.elim
      · exact h.elim
    | yes =>
      simp only at h
      have hE:=aLG (g:=g) (K:=K) (m:=m) (e:=e) (L:=L) (o:=⟨dst,op,ty,ps,af,gd⟩) (cf:=.r ops (⟨dst,op,ty,ps,af,gd⟩ :: l)) (cf':=.r ops l) (aHL hg)
      split at h
      · rename_i d v hf
        split at h
        · rename_i hd
          intro a w ⟨B,hm,hA,hS⟩
          obtain⟨u,h1,h2⟩:=aBC (o:=⟨_,op,ty,ps,af,gd⟩) g.hT hA hS (aHN hf)
          exact eC h2 (OS hg) rfl hd (fun a' hA'=>ih _ _ _ _ _ h a' w ⟨B,hm,hA.of h1 hA',hS⟩) a hA.env
        · exact h.elim
      · rename_i d cs hf
        split at h
        · rename_i hd
          exact hE.1 _ _ hf rfl hd trivial (ih _ _ _ _ _ h)
        · exact h.elim
      · rename_i L' hf
        exact hE.2 _ hf rfl trivial (ih _ _ _ _ _ h)
      · split at h
        · rename_i hd
          exact aLH h hd (aOI hg hd) (aHL hg)
        · exact h.elim
      · exact h.elim
  | F + 1, K, .d B1 ops l is Lf Lv, m, e, L, h => by
    have ih:=OT F
    unfold PF at h
    refine M9 ops.toList 0 l e [] (fun j=>by simp) ?_
    generalize pass g.T g.n ops Lv ops.toList 0 l e []=ps at h
    cases ps with
    | bad=>exact h.elim
    | ask c l' e'=>exact h
    | pur i o l' e' =>
      intro h1 h2 h3 h4
      simp only at h
      split at h
      · rename_i hd
        exact aOR h hd (aOK h1 h2 h3 h4 hd)
      · exact h.elim
    | fin l' e' q =>
      cases q with
      | nil =>
        simp only at h
        split at h
        · rename_i hall
          intro hD a w hr
          have hn:=ih _ _ _ _ _ h
          obtain⟨B2,hB2⟩:=hD.pre
          have hr':Rel g m e' L a w:=by
            obtain⟨B,hm,hA,hS,_⟩:=hr
            subst hB2
            exact⟨B2++B,by rw [←List.append_assoc];exact hm,by rw [←List.append_assoc];exact hA,by rw [←List.append_assoc];exact hS⟩
          have hempty:Region.ready .any ops l'.toArray=[]:=by
            refine List.eq_nil_iff_forall_not_mem.2 fun j hj=>?_
            exact aHM hall ((M8 hD.len).1 hj).1
          exact wpAnyH_done hempty (hn a w hr') _
        · exact h.elim
      | cons p q =>
        cases q with
        | cons p' q=>exact h
        | nil =>
          obtain⟨i,o⟩:=p
          simp only at h
          split at h
          · rename_i hon
            have ho:=ih _ _ _ _ _ h
            cases hra:qF l' ops.toList 0 with
            | cons j r =>
              refine aLE hra fun k hk=>?_
              rw [aON hon k (by rw [hra];exact hk)]
              exact ho
            | nil =>
              refine absurd h ?_
              intro h
              unfold PF at h
              cases F with
              | zero=>exact h
              | succ F =>
                simp only at h
                split at h
                · rename_i hi
                  split at h
                  · rename_i h1 h2 h3
                    have:=Z9 (j0:=0) hi (by simpa using h2) h1
                    rw [Nat.zero_add,hra] at this
                    cases this
                  · exact h
                · exact h
          · exact h.elim
  | F + 1, K, .o B1 ops l is Lf Lv i, m, e, L, h => by
    have ih:=OT F
    unfold PF at h
    split at h
    · rename_i dst op ty ps af gd ho
      split at h
      · rename_i hre hli hg
        have hes:=aOL (g:=g) (K:=K) (m:=m) (e:=e) (L:=L) (B1:=B1) (ops:=ops) (l:=l) (is:=is) (Lf:=Lf) (Lv:=Lv) ho hg
        have hE:=aLG (g:=g) (K:=K) (m:=m) (e:=e) (L:=L) (o:=⟨dst,op,ty,ps,af,gd⟩) (cf:=.o B1 ops l is Lf Lv i) (cf':=.d B1 ops (l.set i true) is Lf Lv) hes
        split at h
        · rename_i v d hf
          split at h
          · rename_i hd
            have hG:=ih _ _ _ _ _ h
            have hv:=aHN hf
            refine hes Unit (fun _=>m) (fun _=>(d,v) :: e) (fun _=>L) (fun _ hD=>⟨hD.w4,hD.rng⟩) (fun B a w next Q hm hA hS hnext=>?_) (fun _=>hG)
            obtain⟨u,h1,h2⟩:=aBC (o:=⟨some d,op,ty,ps,af,gd⟩) g.hT hA hS hv
            unfold Oper.wp
            rw [h2 _ a hA.env,Oper.upon_value]
            exact hnext () _ _ ⟨[],by simpa using hm,by simpa using hA.of h1 (hA.env.put (by simpa [Nat.blt_eq] using hd) u),by simpa using hS⟩
          · exact h.elim
        · rename_i d cs hf
          split at h
          · rename_i hd
            exact hE.1 _ _ hf rfl hd (fun hD=>hD.VQ _) (ih _ _ _ _ _ h)
          · exact h.elim
        · rename_i L' hf
          split at h
          · rename_i hfz
            refine hE.2 _ hf rfl (fun hD=>?_) (ih _ _ _ _ _ h)
            obtain⟨t,x,y,p,v,hop,hx,hs⟩:=aQ9 hf
            subst hop
            have:=aFQ hs hx hfz hD.rng
            exact⟨by rw [this.1];exact hD.w4,this.2⟩
          · exact h.elim
        · split at h
          · rename_i hd
            exact aLH h hd (aOM ho hg hd) hes
          · exact h.elim
        · exact h.elim
      · exact h.elim
    · exact h.elim
theorem aBI:∀{e r:SE},aKV e=some r→r=e
  | [],r,h=>by cases h;rfl
  | (k, v) :: l, r, h => by
    simp only [aKV] at h
    split at h
    · rename_i s hs;cases h;rw [aBI hs]
    · cases h
theorem aBJ:∀{e r:List Ch},aKW e=some r→r=e
  | [],r,h=>by cases h;rfl
  | x :: l, r, h => by
    simp only [aKW] at h
    split at h
    · rename_i s hs
      have:=aBJ hs
      subst this
      split at h
      · split at h
        · rename_i ds hds;cases h;rw [F7 hds]
        · cases h
      · split at h
        · rename_i ds hds;cases h;rw [F7 hds]
        · cases h
      · cases h;rfl
    · cases h
theorem fE{K:List Fr}{c:tH}{m:Nat}{e:SE}{L:List Ch}(h:Gs g (iZ g.T g.n K c m e L)):G g K m e L c:=by
  unfold iZ at h
  split at h
  · rename_i e' L' he hL
    have h1:=aBI he
    have h2:=aBJ hL
    subst h1;subst h2
    exact OT _ _ _ _ _ _ h
  · exact h.elim
end
end Go.Gv
end
noncomputable section
namespace Go.Gv
noncomputable section
variable {P:Program} {N N':Act→World→Prop} {X X':Nat→Act→World→Prop} {T T':Act→World→Prop}
theorem LD(h:LetsOut (ZZ N X T)):LetsOut (ZZ N' X' T'):=let ⟨_,_,h⟩:=h;h.elim
theorem aDH{o:Oper}{a:Act}{next next':Act→World→Prop}{r:Result Next}(hn:∀a w,next a w→next' a w)(h:o.upon P a next (ZZ N X T) r):o.upon P a next' (ZZ N' X' T') r:=by
  unfold Oper.upon at h ⊢
  split at h
  · exact hn _ _ h
  · exact hn _ _ h
  · exact hn _ _ h
  · refine Calls.mono h fun e w' he=>?_
    cases e with
    | returned v=>exact hn _ _ he
    | panicked c=>exact he.elim
    | outgrown=>exact LD he
  · exact Rows.mono h fun u w'' he=>hn _ _ he
  · exact h.elim
  · exact h.elim
theorem OU{ops:Array Oper}(hN:∀a w,N a w→N' a w):∀(l:List Oper) {a:Act} {w:World},wpList P ops (ZZ N X T) l a w→wpList P ops (ZZ N' X' T') l a w
  | [],a,w,h=>hN a w h
  | o :: l, a, w, h => by
    unfold wpList at h ⊢
    split
    · rename_i hw
      rw [if_pos hw] at h
      rcases h with h | ⟨h1,h2⟩
      · exact .inl (aDH (fun _ _ h=>OU hN l h) h)
      · exact .inr ⟨h1,LD h2⟩
    · rename_i hw
      rw [if_neg hw] at h
      exact OU hN l h
theorem aDI{ops:Array Oper}{i:Nat}{k k':Act→World→Prop}{a:Act}{w:World}(hk:∀a w,k a w→k' a w)(h:wpOp P ops (ZZ N X T) i k a w):wpOp P ops (ZZ N' X' T') i k' a w:=by
  unfold wpOp at h ⊢
  split
  · rename_i h0;rw [h0] at h;exact hk _ _ h
  · rename_i o h0
    rw [h0] at h
    simp only at h
    split
    · rename_i hw
      rw [if_pos hw] at h
      rcases h with h | ⟨h1,h2⟩
      · exact .inl (aDH hk h)
      · exact .inr ⟨h1,LD h2⟩
    · rename_i hw
      rw [if_neg hw] at h
      exact hk _ _ h
theorem OV{ops:Array Oper}{S:World→Prop}(hN:∀a w,N a w→N' a w):∀(fuel:Nat) {G6:Array Bool} {a:Act} {w:World},wpAnyH P .any ops (ZZ N X T) S fuel G6 a w→wpAnyH P .any ops (ZZ N' X' T') S fuel G6 a w
  | 0,_,a,w,h=>⟨h.1,hN a w h.2⟩
  | f+1,_,a,w,h=>⟨fun h0=>hN a w (h.1 h0),fun i hi=>aDI (fun _ _ h=>⟨h.1,OV hN f h.2⟩) (h.2 i hi)⟩
end
noncomputable section
variable {P:Program} {T:TT} {hT:CJ P T} {n:Nat} {c:Ctx} {B0:Bl} {N N1:Act→World→Prop} {X X1:Nat→Act→World→Prop} {Q:Act→World→Prop} {K K':List Fr} {m m':Nat} {e e':SE} {L L':List Ch} {cf cf':tH}
theorem aFR(Kb:List Fr)(hN:∀a w,N1 a w→NK (.mk P T hT n c B0 N X Q) Kb a w)(hX:∀i a w,X1 i a w→XK (.mk P T hT n c B0 N X Q) Kb i a w):∀(Ka:List Fr),(∀a w,NK (.mk P T hT n c B0 N1 X1 Q) Ka a w→NK (.mk P T hT n c B0 N X Q) (Ka++Kb) a w)∧(∀i a w,XK (.mk P T hT n c B0 N1 X1 Q) Ka i a w→XK (.mk P T hT n c B0 N X Q) (Ka++Kb) i a w)
  | []=>⟨hN,hX⟩
  | .s y :: Ka => by
    obtain⟨h1,h2⟩:=aFR Kb hN hX Ka
    exact⟨fun a w h=>CW.mono (show CW P y (NK _ Ka) (XK _ Ka) Q a w from h) h1 h2 (fun _ _ h=>h),h2⟩
  | .k id :: Ka => by
    obtain⟨h1,h2⟩:=aFR Kb hN hX Ka
    refine⟨h1,fun i a w h=>?_⟩
    simp only [XK,U9,List.cons_append] at h ⊢
    split
    · rename_i hi;rw [if_pos hi] at h;exact h1 a w h
    · rename_i hi;rw [if_neg hi] at h;exact h2 i a w h
theorem aSO{Ka Kb:List Fr}(hN:∀a w,N1 a w→NK (.mk P T hT n c B0 N X Q) Kb a w)(hX:∀i a w,X1 i a w→XK (.mk P T hT n c B0 N X Q) Kb i a w)(h:G (.mk P T hT n c B0 N1 X1 Q) Ka m e L cf):G (.mk P T hT n c B0 N X Q) (Ka++Kb) m e L cf:=by
  obtain⟨h1,h2⟩:=aFR Kb hN hX Ka
  cases cf with
  | n=>exact fun a w hr=>h1 a w (h a w hr)
  | c x=>exact fun a w hr=>CW.mono (h a w hr) h1 h2 (fun _ _ h=>h)
  | r ops l=>exact fun a w hr=>OU h1 l (h a w hr)
  | d B1 ops l is Lf Lv=>exact fun hD a w hr=>OV h1 _ (h ⟨hD.pre,hD.len,hD.free,hD.w4,hD.rng,hD.okf,hD.ap⟩ a w hr)
  | o B1 ops l is Lf Lv i=>exact fun hD a w hr=>aDI (fun _ _ h=>⟨h.1,OV h1 _ h.2⟩) (h ⟨hD.pre,hD.len,hD.free,hD.w4,hD.rng,hD.okf,hD.ap⟩ a w hr)
theorem UX{g:Gx}{s:Stop}(hs:OO s=some (K,cf,m,e,L))(h:G g K m e L cf):Gs g s:=by
  cases s <;> simp only [OO] at hs <;> cases hs
  · exact fun _=>h
  · exact h
  · exact h
  · exact fun _ _ _ _ _ _ _=>h
  · exact fun _ _ _ _ _ _ _ _ _ _=>h
  · exact fun _ _ _ _ _ _ _ _ _=>h
  · exact fun _ _=>h
  · exact fun _ _ _=>h
  · exact h
  · exact h
def JP(n:Nat)(c:Ctx)(B0:Bl){π υ:Type}(eq:π→Prop)(m:Nat)(ej:π→υ→SE)(Lj:π→υ→List Ch):Act→World→Prop:=fun a w=>∃p u,eq p∧nN n c B0 m (ej p u) (Lj p u) a w
theorem iG{B1:Bl}{ops:Array Oper}{l:List Bool}{is:List Nat}{Lf Lv:List Ch}{i j:Nat}(hs:OO (iZ T n K cf m e L)=some (K',.d B1 ops l is Lf Lv,m',e',L'))(hr:qF l ops.toList 0=[i,j])
    (k1:G (.mk P T hT n c B0 N X Q) K' m' e' L' (.o B1 ops l is Lf Lv i)) (k2:G (.mk P T hT n c B0 N X Q) K' m' e' L' (.o B1 ops l is Lf Lv j)):G (.mk P T hT n c B0 N X Q) K m e L cf:=
  fE (g:=.mk P T hT n c B0 N X Q) (UX hs (aLE (g:=.mk P T hT n c B0 N X Q) hr fun k hk=>by
    rcases List.mem_cons.1 hk with hk | hk
    · subst hk;exact k1
    · simp at hk;subst hk;exact k2))
theorem aLI{B1:Bl}{ops:Array Oper}{l:List Bool}{is:List Nat}{Lf Lv:List Ch}{i j p:Nat}(hs:OO (iZ T n K cf m e L)=some (K',.d B1 ops l is Lf Lv,m',e',L'))(hr:qF l ops.toList 0=[i,j,p])
    (k1:G (.mk P T hT n c B0 N X Q) K' m' e' L' (.o B1 ops l is Lf Lv i)) (k2:G (.mk P T hT n c B0 N X Q) K' m' e' L' (.o B1 ops l is Lf Lv j)) (k3:G (.mk P T hT n c B0 N X Q) K' m' e' L' (.o B1 ops l is Lf Lv p)):G (.mk P T hT n c B0 N X Q) K m e L cf:=
  fE (g := .mk P T hT n c B0 N X Q) (UX hs (aLE (g := .mk P T hT n c B0 N X Q) hr fun k hk => by
    rcases List.mem_cons.1 hk with hk | hk
    · subst hk;exact k1
    · simp at hk
      rcases hk with rfl | rfl
      · exact k2
      · exact k3))
theorem bd{α β:Type}{A:Option α}{f:α→Option β}{q:β}{C:Prop}(hF:A.bind f=some q)(k:∀x,A=some x→f x=some q→C):C:=by
  cases h:A with
  | none=>rw [h] at hF;cases hF
  | some x=>exact k x h (by rw [h] at hF;exact hF)
theorem nd{β:Type}{p:Prop}[Decidable p]{A:Option β}{q:β}{C:Prop}(hF:need p A=some q)(k:p→A=some q→C):C:=k (iQ hF).1 (iQ hF).2
theorem rb{α:Type}{A:Option α}{x:α}(h:A=some x):A.bind some=some x:=by rw [h];rfl
theorem rn{p:Prop}[Decidable p](h:p):need p (some ())=some ():=by simp [need,h]
theorem go(hs:OO (iZ T n K cf m e L)=some (K',cf',m',e',L'))(k:G (.mk P T hT n c B0 N X Q) K' m' e' L' cf'):G (.mk P T hT n c B0 N X Q) K m e L cf:=
  fE (g:=.mk P T hT n c B0 N X Q) (UX hs k)
theorem cut{π υ:Type}(j mj:Nat)(eq:π→Prop)(ks:List Nat)(ej:π→υ→SE)(is:List Nat)(Lj:π→υ→List Ch)(hs:OO (iZ T n K cf m e L)=some (K',cf',m',e',L'))
    (k1:G (.mk P T hT n c B0 (JP n c B0 eq mj (fun p u=>ej p u++kp e' ks) (fun p u=>Lj p u++kl L' is)) (XK (.mk P T hT n c B0 N X Q) (K'.drop j)) Q) (K'.take j) m' e' L' cf')
    (k2:∀p u,eq p→G (.mk P T hT n c B0 N X Q) (K'.drop j) mj (ej p u++kp e' ks) (Lj p u++kl L' is) .n):G (.mk P T hT n c B0 N X Q) K m e L cf:=by
  refine go hs ?_
  rw [←List.take_append_drop j K']
  refine aSO (fun a w ⟨p,u,h1,h2⟩=>?_) (fun _ _ _ h=>h) k1
  exact k2 p u h1 a w h2
theorem jn{π υ:Type}{eq:π→Prop}{mj:Nat}{ej:π→υ→SE}{Lj:π→υ→List Ch}{p:π}(u:υ)(is:List Nat)(hF:eq p)(hs:iZ T n K cf m e L=.fin m' e' L')(h:NQ B0.length m' e' L' is mj (ej p u) (Lj p u)=some (ej p u,Lj p u)):G (.mk P T hT n c B0 (JP n c B0 eq mj ej Lj) X Q) K m e L cf:=
  fE (g:=.mk P T hT n c B0 _ X Q) (by
    rw [hs]
    exact fun a w hr=>⟨p,u,hF,nN.NQ hr is h⟩)
theorem NA{b cb:Bool}{a:Act}{B:Bl}(hb:b=cb):∀(ss:List Nat),aW (zL e) ss=some (ss.map fun _=>SV.b b)→eU n B e a→eU n B (YM cb e ss) a:=by
  intro ss hs hA
  refine⟨hA.d,hA.size,?_⟩
  subst hb
  have key:∀k∈ss,zL e k=some (.b b):=by
    induction ss with
    | nil=>intro k hk;cases hk
    | cons s ss ih =>
      simp only [aW,List.map_cons] at hs
      split at hs
      · cases hs
      · rename_i h1
        split at hs
        · cases hs
        · rename_i h2
          cases hs
          intro k hk
          rcases List.mem_cons.1 hk with hk | hk
          · subst hk;exact h1
          · exact ih h2 k hk
  clear hs
  induction ss with
  | nil=>exact hA.get
  | cons s ss ih =>
    intro k x hk
    simp only [YM,zL] at hk
    cases hb:Nat.beq k s with
    | true =>
      rw [hb] at hk;cases hk
      rw [Nat.eq_of_beq_eq_true hb]
      exact hA.get s (.b b) (key s (by simp))
    | false =>
      rw [hb] at hk
      exact ih (fun k hk=>key k (List.mem_cons_of_mem _ hk)) k x hk
theorem UY{b cb:Bool}{a:Act}{w:World}(hb:b=cb)(ss:List Nat)(hs:aW (zL e) ss=some (ss.map fun _=>SV.b b))(h:nN n c B0 m e L a w):nN n c B0 m (YM cb e ss) L a w:=by
  obtain⟨B,h1,hA,hS⟩:=h
  exact⟨B,h1,NA hb ss hs hA,hS⟩
theorem VU{e1:SE}(h:∀a B,eU n B e a→eU n B e1 a)(k:G (.mk P T hT n c B0 N X Q) K m e1 L cf):G (.mk P T hT n c B0 N X Q) K m e L cf:=by
  cases cf with
  | d B1 ops l is Lf Lv=>exact fun hD a w ⟨B,h1,h2,h3,h4⟩=>k hD a w ⟨B,h1,h a _ h2,h3,h4⟩
  | o B1 ops l is Lf Lv i=>exact fun hD a w ⟨B,h1,h2,h3,h4⟩=>k hD a w ⟨B,h1,h a _ h2,h3,h4⟩
  | _=>exact fun a w ⟨B,h1,h2,h3⟩=>k a w ⟨B,h1,h a _ h2,h3⟩
noncomputable section
variable {b:Bool} {α:Type} {A B':Option α} {q:Option α}
theorem cs{o:Operand}{x y:Code}(ss:List Nat)(hs:iZ T n K cf m e L=.cond o b x y K' m' e' L')(ho:aW (zL e') ss=some (ss.map fun _=>SV.b b))(hF:(if b=true then A else B')=q)
    (k1:A=q→G (.mk P T hT n c B0 N X Q) K' m' (YM true e' ss) L' (.c x)) (k2:B'=q→G (.mk P T hT n c B0 N X Q) K' m' (YM false e' ss) L' (.c y)):G (.mk P T hT n c B0 N X Q) K m e L cf:=
  fE (g := .mk P T hT n c B0 N X Q) (by
    rw [hs]
    intro he a w hr
    have ⟨B,hm,hA,hS⟩:=hr
    obtain⟨v,h1,h2⟩:=dU hA he
    cases h1
    refine jT hA.env h2 (fun hc=>?_) (fun hc=>?_)
    · rw [if_pos hc] at hF
      exact k1 hF a w (UY hc ss ho hr)
    · rw [if_neg (by rw [hc];simp)] at hF
      exact k2 hF a w (UY hc ss ho hr))
theorem ca{cf':tH}(ss:List Nat)(hs:iZ T n K cf m e L=.case b cf' K' m' e' L')(ho:aW (zL e') ss=some (ss.map fun _=>SV.b b))(hF:(if b=true then A else B')=q)
    (k1:A=q→G (.mk P T hT n c B0 N X Q) K' m' (YM true e' ss) L' cf') (k2:B'=q→G (.mk P T hT n c B0 N X Q) K' m' (YM false e' ss) L' cf'):G (.mk P T hT n c B0 N X Q) K m e L cf:=
  fE (g:=.mk P T hT n c B0 N X Q) (by
    rw [hs]
    cases b with
    | true=>exact VU (fun a B hA=>NA rfl ss ho hA) (k1 (by simpa using hF))
    | false=>exact VU (fun a B hA=>NA rfl ss ho hA) (k2 (by simpa using hF)))
end
def QS(P:Program)(fn:Func)(c:Ctx)(B0:Bl){ρ ex:Type}(sv:ρ→ex→SV)(Lf:ρ→ex→List Ch)(r:ρ):Act→World→Prop:=Fin P fn fun v w'=>∃y,eS B0 (sv r y)=some v∧kZ c w' B0 (Lf r y)
theorem aHO{r:ResultVar}{x:SV}{B:Bl}{a:Act}{w:World}(hT:CJ P T)(hA:eU n B e a)(hS:kZ c w B L)(h:aKX T e L r=some x):∃v,eS B x=some v∧(LC a.tmps r).run P w=.ok v w:=by
  cases r with
  | tmp t =>
    obtain⟨v,h1,h2⟩:=hA.get t x h
    exact⟨v,h1,by simp [LC,h2]⟩
  | cell t ty =>
    simp only [aKX] at h
    split at h
    · rename_i p hp
      obtain⟨v,h1,h2⟩:=hA.get t p hp
      unfold aDA at h
      split at h
      · rename_i n0 o0
        split at h
        · rename_i cs _ mm _ hb hl
          split at h
          · rename_i hle
            split at h
            case h_2=>cases h
            rename_i ds hds
            cases h
            have:=F7 hds
            subst this
            obtain⟨b,z,vs,g1,g2,g3⟩:=hS.cells hb
            have hlen:=jQ g2
            have hle:=Nat.le_of_ble_eq_true hle
            simp only [eS,gV,bK,g1] at h1
            cases h1
            have h4:=HL mm (HK o0 g2)
            have h5:=PI g3 (o:=o0) (m:=mm) (by omega)
            have h6:=mQ h5 P
            have h7:((vs.drop o0).take mm).length=mm:=by simp;omega
            rw [h7] at h6
            refine⟨.agg ((vs.drop o0).take mm).toArray,by simp only [eS,gV,h4],?_⟩
            simp [LC,h2,asAddr,loadVar,hT.agg _ _ hl,hT.size _ _ hl,h6]
          · cases h
        · rename_i cs _ _ _ hb hl
          obtain⟨b,z,vs,g1,g2,g3⟩:=hS.cells hb
          simp only [eS,gV,bK,g1] at h1
          cases h1
          obtain⟨u,h4,h5⟩:=HJ g2 h
          refine⟨u,aG9 h4,?_⟩
          have h6:=g3 o0 u h5
          simp [LC,h2,asAddr,loadVar,hT.agg _ _ hl,load,Sem.run,h6]
        · cases h
      · cases h
    · cases h
end
end Go.Gv
end
noncomputable section
namespace Go.Gv
noncomputable section
variable {P:Program} {T:TT} {hT:CJ P T} {n:Nat} {c:Ctx} {B0:Bl} {N:Act→World→Prop} {X:Nat→Act→World→Prop} {Q:Act→World→Prop} {K K':List Fr} {m m':Nat} {e e':SE} {L L':List Ch} {cf:tH}
theorem aOS{B:Bl}{x:SV}{v:Value}(h:eS B x=some v)(hc:CM x=true):gV B x=some v:=by
  cases x <;> first | exact h | cases hc
theorem PK{r:ResultVar}{x:SV}{B:Bl}{a:Act}{w:World}(hT:CJ P T)(hA:eU n B e a)(hS:kZ c w B L)(h:aFN T e L r=some x):∃v,gV B x=some v∧(LC a.tmps r).run P w=.ok v w:=by
  unfold aFN at h
  split at h
  · rename_i hv
    split at h
    · rename_i hc
      cases h
      obtain⟨v,h1,h2⟩:=aHO hT hA hS hv
      exact⟨v,aOS h1 hc,h2⟩
    · cases h
  · cases h
theorem UZ{rs:List ResultVar}{x:SV}{B:Bl}{a:Act}{w:World}{fn:Func}(hf:fn.results=rs.toArray)(hT:CJ P T)(hA:eU n B e a)(hS:kZ c w B L)(h:aA8 T e L rs=some x):∃v,eS B x=some v∧(results fn a.tmps).run P w=.ok v w:=by
  rw [VD hf]
  unfold aA8 at h
  split at h
  · cases h;exact⟨.tuple #[],rfl,by simp⟩
  · obtain⟨v,h1,h2⟩:=aHO hT hA hS h
    exact⟨v,h1,by simp [h2]⟩
  · split at h
    · rename_i g1 g2
      cases h
      obtain⟨v1,h1,k1⟩:=PK hT hA hS g1
      obtain⟨v2,h2,k2⟩:=PK hT hA hS g2
      exact⟨.tuple #[v1,v2],by simp [eS,aW,h1,h2],by simp [k1,k2]⟩
    · cases h
  · split at h
    · rename_i g1 g2 g3
      cases h
      obtain⟨v1,h1,k1⟩:=PK hT hA hS g1
      obtain⟨v2,h2,k2⟩:=PK hT hA hS g2
      obtain⟨v3,h3,k3⟩:=PK hT hA hS g3
      exact⟨.tuple #[v1,v2,v3],by simp [eS,aW,h1,h2,h3],by simp [k1,k2,k3]⟩
    · cases h
  · cases h
structure FnS (P:Program) (f:FuncId) (c:Ctx) (xs:List SV) (B0:Bl) (L0:List Ch) {ρ ex:Type} (sv:ρ→ex→SV) (Lf:ρ→ex→List Ch) (r:ρ):Prop where
  call:∀args w,(callFunc f args).run P w=.ok (.enter f args) w
  run:∀vs,aW (eS B0) xs=some vs→kZ c c.w0 B0 L0→Calls P f vs.toArray c.w0 (Ret fun v w'=>∃y,eS B0 (sv r y)=some v∧kZ c w' B0 (Lf r y))
abbrev Fn0(P:Program)(f:FuncId)(c:Ctx)(xs:List SV){ρ:Type}(sv:ρ→SV)(r:ρ):Prop:=FnS P f c xs [] [] (fun r (_:Unit)=>sv r) (fun _ _=>[]) r
def aAB:Nat→List SV→SE
  | _,[]=>[]
  | k,v :: r=>(k,v) :: aAB (k+1) r
theorem aAC{B:Bl}:∀{xs:List SV} {vs:List Value} (k:Nat) {j:Nat} {x:SV},aW (eS B) xs=some vs→zL (aAB k xs) j=some x→∃v,eS B x=some v∧lk (aA1 k vs) j=some v
  | [],vs,k,j,x,h,hj=>by simp [aAB,zL] at hj
  | y :: xs, vs, k, j, x, h, hj => by
    simp only [aW] at h
    split at h
    · cases h
    · rename_i h1
      split at h
      · cases h
      · rename_i h2
        cases h
        simp only [aAB,zL] at hj
        simp only [aA1,lk]
        cases hb:Nat.beq j k with
        | true=>rw [hb] at hj;cases hj;exact⟨_,h1,rfl⟩
        | false=>rw [hb] at hj;exact aAC (k+1) h2 hj
theorem en{f:FuncId}{fn:Func}{cd:Code}{xs:List SV}{L0:List Ch}{ρ ex:Type}{sv:ρ→ex→SV}{Lf:ρ→ex→List Ch}{r:ρ}(n:Nat)(hc:∀args w,(callFunc f args).run P w=.ok (.enter f args) w)(hf:P.funcs[f]?=some fn)(hT:CJ P T)(hb:fn.body=some cd)(hm:fn.ntmps=n)(hl:Nat.ble xs.length n=true)
    (k:G (.mk P T hT n c B0 (QS P fn c B0 sv Lf r) (fun _ _ _=>False) (QS P fn c B0 sv Lf r)) [] B0.length (aAB 0 xs) L0 (.c cd)):FnS P f c xs B0 L0 sv Lf r:=by
  refine⟨hc,fun vs hv hS=>wM hf hb hm ?_ fun a hA=>?_⟩
  · rw [jQ hv];exact hl
  · refine CW.mono (k a c.w0 ⟨[],by simp,⟨hA.d,hA.size,fun j x hj=>?_⟩,by simpa using hS⟩) (fun _ _ h=>h) (fun _ _ _ h=>h) (fun _ _ h=>h)
    obtain⟨v,h1,h2⟩:=aAC 0 hv hj
    exact⟨v,by simpa using h1,hA.get j v h2⟩
theorem aIP(w:World):kZ (cD w) w [] []:=⟨⟨[],St.enter (by simp),by simp⟩,fun _ _ h=>h⟩
theorem rt{fn:Func}{ρ ex:Type}{sv:ρ→ex→SV}{Lf:ρ→ex→List Ch}{r r':ρ}{rs:List ResultVar}{zz:Option ρ}(y:ex)(is:List Nat)(hF:zz=some r)(hz:zz=some r')(hs:iZ T n K cf m e L=.ret m' e' L')(hr:fn.results=rs.toArray){x:SV}(hv:aA8 T e' L' rs=some x)(hx:nbS x=sv r' y)(hk:CI B0.length (sv r' y)=true)(hL:NQ B0.length m' e' L' is B0.length [] (Lf r' y)=some ([],Lf r' y)):G (.mk P T hT n c B0 N X (QS P fn c B0 sv Lf r)) K m e L cf:=by
  subst hz;cases hF
  refine fE (g:=.mk P T hT n c B0 N X _) ?_
  rw [hs]
  intro a w hr'
  obtain⟨B,hm,hA,hS⟩:=id hr'
  obtain⟨v,h1,h2⟩:=UZ hr hT hA hS hv
  obtain⟨B',hm',_,hS'⟩:=hr'.NQ is hL
  have hB':B'=[]:=(by simpa using hm')
  subst hB'
  refine⟨hA.d,v,h2,y,?_,by simpa using hS'⟩
  rw [←hx] at hk ⊢
  have:=IQ hk (by rw [UU];exact h1)
  rw [List.take_append_of_le_length (Nat.le_refl _),List.take_length] at this
  exact this
theorem rf{fn:Func}{ρ ex:Type}{sv:ρ→ex→SV}{Lf:ρ→ex→List Ch}{r r':ρ}{rs:List ResultVar}{zz:Option ρ}(y:ex)(is:List Nat)(hF:zz=some r)(hz:zz=some r')(hs:iZ T n K cf m e L=.fin m' e' L')(hr:fn.results=rs.toArray){x:SV}(hv:aA8 T e' L' rs=some x)(hx:nbS x=sv r' y)(hk:CI B0.length (sv r' y)=true)(hL:NQ B0.length m' e' L' is B0.length [] (Lf r' y)=some ([],Lf r' y)):G (.mk P T hT n c B0 (QS P fn c B0 sv Lf r) X Q) K m e L cf:=by
  subst hz;cases hF
  refine fE (g:=.mk P T hT n c B0 _ X Q) ?_
  rw [hs]
  intro a w hr'
  obtain⟨B,hm,hA,hS⟩:=id hr'
  obtain⟨v,h1,h2⟩:=UZ hr hT hA hS hv
  obtain⟨B',hm',_,hS'⟩:=hr'.NQ is hL
  have hB':B'=[]:=(by simpa using hm')
  subst hB'
  refine⟨hA.d,v,h2,y,?_,by simpa using hS'⟩
  rw [←hx] at hk ⊢
  have:=IQ hk (by rw [UU];exact h1)
  rw [List.take_append_of_le_length (Nat.le_refl _),List.take_length] at this
  exact this
def bS(c:Ctx){α:Type}[aI α](s:AC)(d:List α):Prop:=aI.rd c.S0 c.w0 [s.v d.length] d
structure HS (c:Ctx) (w:World) (L:List Ch):Prop where
  ex:∃B,kZ c w B L
abbrev ow{α:Type}[aI α](s:AC)(d:List α):Ch:=.o (eV [s.v d.length] d)
abbrev fr{α:Type}[aI α](s:AC)(d:List α):Ch:=.f (wY [s.v d.length] d)
theorem aBK{w:World}{B:Bl}(hS:kZ c w B L){f:Fact}(h:f.P c.S0 c.w0):f.P c.S0 w:=by
  obtain⟨⟨R,s1,_⟩,s0⟩:=hS
  exact f.CG h fun b o hb=>s1.gG.cell b o (s0 b o hb) fun hw=>s1.apart b o hw hb
theorem aLJ{w:World}{B:Bl}(hS:kZ c w B L):∀b o,c.S0 b o→KZ w b o:=fun b o hb=>by
  obtain⟨⟨R,s1,_⟩,s0⟩:=hS
  exact Nat.lt_of_lt_of_le (s0 b o hb) s1.gG.size
theorem HS.a{w:World}{α:Type}[aI α]{s:AC}{d:List α}(h:HS c w L)(hr:bS c s d):bS (cD w) s d:=by
  obtain⟨B,hS⟩:=h.ex
  have h1:(wY [s.v d.length] d).P c.S0 w:=aBK hS (f:=wY [s.v d.length] d) hr
  exact aI.rd_mono h1 (aLJ hS)
theorem HS.o{w:World}{α:Type}[aI α]{s:AC}{d:List α}(h:HS c w L)(i:Nat)(hi:L[i]?=some (ow s d)):bS (cD w) s d:=by
  obtain⟨B,⟨⟨R,s1,_⟩,_⟩⟩:=h.ex
  exact s1.aGY i (by rw [List.getElem?_map,hi];rfl)
theorem HS.f{w:World}{α:Type}[aI α]{s:AC}{d:List α}(h:HS c w L)(i:Nat)(hi:L[i]?=some (fr s d)):bS (cD w) s d:=by
  obtain⟨B,⟨⟨R,s1,s2⟩,_⟩⟩:=h.ex
  obtain⟨j,hj⟩:=List.getElem?_of_mem (s2 _ (List.mem_of_getElem? hi))
  exact s1.rd j hj
theorem U0{B:Bl}:∀{xs:List SV} {vs:List Value},okA xs=true→aW (eS B) xs=some vs→aW (eS []) xs=some vs
  | [],vs,_,h=>h
  | x :: xs, vs, ho, h => by
    simp only [okA] at ho
    split at ho
    · rename_i h0
      simp only [aW] at h
      split at h
      · cases h
      · rename_i h1
        split at h
        · cases h
        · rename_i h2
          cases h
          have h3:=IQ h0 h1
          rw [List.take_zero] at h3
          simp [aW,h3,U0 ho h2]
    · cases ho
theorem SJ{B:Bl}{a:Act}(hA:eU n B e a):∀{os:List Operand} {xs:List SV},aW (gN e) os=some xs→∃vs,aW (eS B) xs=some vs∧VC (vE B e) os=some vs
  | [],xs,h=>by cases h;exact⟨[],rfl,rfl⟩
  | o :: os, xs, h => by
    simp only [aW] at h
    split at h
    · cases h
    · rename_i h1
      split at h
      · cases h
      · rename_i h2
        cases h
        obtain⟨v,k1,k2⟩:=dU hA h1
        obtain⟨vs,k3,k4⟩:=SJ hA h2
        exact⟨v :: vs,by simp [aW,k1,k3],by simp [VC,k2,k4]⟩
def noF:List Ch→Bool
  | []=>true
  | .ro _ _ :: _=>false
  | .f _ :: _=>false
  | .w _ _ _ :: _=>false
  | _ :: L=>noF L
theorem aBL{B:Bl}{R:List Fact}:∀{L:List Ch},noF L=true→∀x∈L,roF B R x
  | [],_,x,hx=>by cases hx
  | y :: L, h, x, hx => by
    rcases List.mem_cons.1 hx with hx' | hx'
    · subst hx'
      cases x <;> first | trivial | cases h
    · cases y with
      | ro=>cases h
      | f=>cases h
      | w=>cases h
      | _=>exact aBL (L:=L) h x hx'
theorem kZ.after{w w':World}{B:Bl}{L2:List Ch}(h:kZ c w B L)(hn:noF L2=true)(k:kZ (cD w) w' [] L2):kZ c w' B (L++L2):=by
  obtain⟨⟨R,s1,s2⟩,s0⟩:=h
  obtain⟨⟨R',t1,t2⟩,t0⟩:=k
  refine⟨⟨R,?_,fun x hx=>?_⟩,s0⟩
  · rw [List.map_append]
    have h1:=s1.after t1
    refine h1.imp (hC.append (hC.refl _) ?_)
    have:=M6 (B:=[]) B (w:=w') L2
    simpa using this
  · rcases List.mem_append.1 hx with hx | hx
    · exact s2 x hx
    · exact aBL hn x hx
theorem kZ.aLK{w w':World}{B:Bl}(h:kZ c w B L)(k:eY F0 w w'):kZ c w' B L:=by
  obtain⟨⟨R,s1,s2⟩,s0⟩:=h
  exact⟨⟨R,s1.same k,s2⟩,s0⟩
theorem PL{o:Oper}{f:FuncId}{x:Operand}{args:Array Operand}{ts:Array TypeId}{vs:List Value}{E:Env}{w:World}(hcall:∀args w,(callFunc f args).run P w=.ok (.enter f args) w)(ho:o.op=.call {callee:=.value x,args:=args,argTypes:=ts})(hx:ev E x=some (.func (.func f) #[] #[]))(hv:VC E args.toList=some vs):aJQ P o E w f vs.toArray:=by
  have:=aC3 (w:=w) (cap:=[]) (xs:=args.toList) (vs:=vs) hcall (by simpa using ho) hx hv
  simpa using this
theorem cl{α β ex:Type}{fo:Option α}{kf:α→Option β}{q:β}{o:Oper}{d:Nat}{f:FuncId}{xs:List SV}{cf1 cf2:tH}{sv:α→ex→SV}{Lf:α→ex→List Ch}(hs:iZ T n K cf m e L=.call o (some d) f xs cf1 cf2 K' m' e' L')(hn:∀x y,noF (Lf x y)=true)
    (hc:∀{w},HS c w L'→∀{x},fo=some x→FnS P f (cD w) xs [] [] sv Lf x) (hF:fo.bind kf=some q)
    (k:∀x,fo=some x→kf x=some q→∀y:ex,G (.mk P T hT n c B0 N X Q) K' m' ((d,sv x y) :: e') (L'++Lf x y) cf2):G (.mk P T hT n c B0 N X Q) K m e L cf:=by
  refine fE (g:=.mk P T hT n c B0 N X Q) ?_
  rw [hs]
  intro fo' args ats ho hd hf ⟨ys,hys,hxs⟩ hA0 hdn hE
  subst hxs
  cases hfo:fo with
  | none=>rw [hfo] at hF;cases hF
  | some x =>
    rw [hfo] at hF
    refine hE ex (fun _=>m') (fun y=>(d,sv x y) :: e') (fun y=>L'++Lf x y) (fun y=>uY _) (fun B a w next Q' hm hA hS hnext=>?_) (k x hfo hF)
    obtain⟨hcall,hrun⟩:=hc ⟨_,hS⟩ hfo
    obtain⟨vs,h1,h2⟩:=SJ hA hys
    obtain⟨v,h3,h4⟩:=dU hA hf
    simp [eS,aW] at h3
    subst h3
    have h5:=hrun vs (U0 hA0 (by rw [M7];exact h1)) (aIP w)
    have h6:=PL (w:=w) hcall ho h4 h2
    unfold Oper.wp
    rw [h6 _ a hA.env,Oper.upon_enter]
    refine Calls.mono h5 fun en w' ⟨v,hv,y,g1,g2⟩=>?_
    subst hv
    rw [hd]
    have g3:=z9 (PD (.mk P T hT n c B0 N X Q) cf1++B) g1
    exact hnext y _ _ ⟨[],by simpa using hm,by simpa using hA.of (by simpa using g3) (hA.env.put (by simpa [oN,Nat.blt_eq] using hdn) v),by simpa using hS.after (hn x y) g2⟩
end
end Go.Gv
end
noncomputable section
namespace Go.Gv
noncomputable section
variable {P:Program} {T:TT} {hT:CJ P T} {n:Nat} {c:Ctx} {B0:Bl} {N:Act→World→Prop} {X:Nat→Act→World→Prop} {Q:Act→World→Prop} {K K':List Fr} {m m':Nat} {e e':SE} {L L':List Ch} {cf:tH}
def NxP(n:Nat)(c:Ctx)(B0:Bl){σ ρ υ:Type}(o:Step σ ρ)(m:Nat)(el:σ→υ→SE)(Ll:σ→υ→List Ch):Act→World→Prop:=fun a w=>∃s u,o=.next s∧nN n c B0 m (el s u) (Ll s u) a w
def BkP(n:Nat)(c:Ctx)(B0:Bl){β ρ υ:Type}(ro:ρ)(enc:β→ρ)(m:Nat)(ej:β→υ→SE)(Lj:β→υ→List Ch)(id:Nat)(X:Nat→Act→World→Prop):Nat→Act→World→Prop:=fun i a w=>if i=id then ∃b u,ro=enc b∧nN n c B0 m (ej b u) (Lj b u) a w else X i a w
theorem lp{σ ρ υ β ω α:Type}{id:Nat}{y:Code}{fb:σ→Option (Step σ ρ)}{s0:σ}{gk:ρ→Option α}{q:α}(u0:υ)(ks:List Nat)(el:σ→υ→SE)(is0 is:List Nat)(Ll:σ→υ→List Ch)(enc:β→ρ)(kb:List Nat)(ej:β→ω→SE)(ib:List Nat)(Lj:β→ω→List Ch)
    (hs:iZ T n K cf m e L=.loop id y K' m' e' L') (hF:(loop fb s0).bind gk=some q)
    (h0:NQ B0.length m' e' L' is0 m' (el s0 u0++kp e' ks) (Ll s0 u0++kl L' is)=some (el s0 u0++kp e' ks,Ll s0 u0++kl L' is))
    (k1:∀ro,gk ro=some q→∀s u o,fb s=some o→(∀p,o=.stop p→p=ro)→G (.mk P T hT n c B0 (NxP n c B0 o m' (fun s u=>el s u++kp e' ks) (fun s u=>Ll s u++kl L' is)) (BkP n c B0 ro enc m' (fun b u=>ej b u++kp e' kb) (fun b u=>Lj b u++kl L' ib) id (XK (.mk P T hT n c B0 N X Q) K')) Q) [] m' (el s u++kp e' ks) (Ll s u++kl L' is) (.c y))
    (k2:∀b u,gk (enc b)=some q→G (.mk P T hT n c B0 N X Q) K' m' (ej b u++kp e' kb) (Lj b u++kl L' ib) .n):G (.mk P T hT n c B0 N X Q) K m e L cf:=by
  refine fE (g:=.mk P T hT n c B0 N X Q) ?_
  rw [hs]
  intro a w hr
  cases hl:loop fb s0 with
  | none=>rw [hl] at hF;cases hF
  | some ro =>
    rw [hl] at hF
    have hF:gk ro=some q:=hF
    refine jP (E2 (body:=fb) (r:=ro) (fun s a w=>∃u,nN n c B0 m' (el s u++kp e' ks) (Ll s u++kl L' is) a w) ?_ hl ⟨u0,hr.NQ is0 h0⟩)
    intro s a w o ⟨u,hI⟩ hb ho
    refine CW.mono (k1 ro hF s u o hb ho a w hI) ?_ ?_ (fun _ _ h=>h)
    · rintro a w ⟨s',u',h1,h2⟩
      exact⟨s',h1,u',h2⟩
    · intro i a w h
      simp only [XK,BkP,U9] at h ⊢
      split
      · rename_i hi
        rw [if_pos hi] at h
        obtain⟨b,u,h1,h2⟩:=h
        exact k2 b u (h1 ▸ hF) a w h2
      · rename_i hi
        rw [if_neg hi] at h
        exact h
theorem nx{σ ρ υ:Type}{o:Step σ ρ}{mj:Nat}{el:σ→υ→SE}{Ll:σ→υ→List Ch}{s:σ}(u:υ)(is:List Nat)(hG:some (Step.next s)=some o)(hs:iZ T n K cf m e L=.fin m' e' L')(h:NQ B0.length m' e' L' is mj (el s u) (Ll s u)=some (el s u,Ll s u)):G (.mk P T hT n c B0 (NxP n c B0 o mj el Ll) X Q) K m e L cf:=
  fE (g:=.mk P T hT n c B0 _ X Q) (by
    rw [hs]
    cases hG
    exact fun a w hr=>⟨s,u,rfl,hr.NQ is h⟩)
theorem bk{σ ρ β υ:Type}{o:Step σ ρ}{ro:ρ}{enc:β→ρ}{mj id:Nat}{ej:β→υ→SE}{Lj:β→υ→List Ch}{b:β}(u:υ)(is:List Nat)(hG:some (Step.stop (enc b))=some o)(hr:∀p,o=.stop p→p=ro)(hs:iZ T n K cf m e L=.ex id m' e' L')(h:NQ B0.length m' e' L' is mj (ej b u) (Lj b u)=some (ej b u,Lj b u)):G (.mk P T hT n c B0 N (BkP n c B0 ro enc mj ej Lj id X) Q) K m e L cf:=
  fE (g:=.mk P T hT n c B0 N _ Q) (by
    rw [hs]
    cases hG
    have:=hr _ rfl
    subst this
    intro a w hr
    show BkP n c B0 (enc b) enc mj ej Lj id X id a w
    unfold BkP
    rw [if_pos rfl]
    exact⟨b,u,rfl,hr.NQ is h⟩)
theorem re{σ ρ α:Type}{o:Step σ ρ}{p ro:ρ}{F:ρ→Option α}{q:Option α}{zz:Option (Step σ ρ)}(hG:zz=some o)(hz:zz=some (Step.stop p))(hr:∀p,o=.stop p→p=ro)(hF:F ro=q):F p=q:=by
  subst hz;cases hG
  rw [hr _ rfl];exact hF
structure G9 (α:Type) [aI α] where
  ex:Type
  cs:α→ex→List SV
  sub:cB→World→α→ex→Prop
  ok:∀{S w ec x},aI.rd S w ec x→∃y,aW (bK []) (cs x y)=some ec∧sub S w x y
  sv:α→ex→SV
  aT9:∀{S S' w w' x y},sub S w x y→(∀b o,S b o→w'.cell? ⟨b,o,none⟩=w.cell? ⟨b,o,none⟩)→(∀b o,S b o→S' b o)→sub S' w' x y
def cI:G9 Int:=⟨Unit,fun x _=>[.i .i64 x],fun _ _ _ _=>True,fun h=>⟨(),by cases h;rfl,trivial⟩,fun x _=>.i .i64 x,fun _ _ _=>trivial⟩
def cU:G9 UInt8:=⟨Unit,fun x _=>[.y x],fun _ _ _ _=>True,fun h=>⟨(),by cases h;rfl,trivial⟩,fun x _=>.y x,fun _ _ _=>trivial⟩
theorem aDJ{α:Type}[aI α]{S:cB}{w:World}{ec:List Value}{l:List α}(h:aI.rd S w ec l):∃s:AC,ec=[s.v l.length]:=by
  obtain⟨ad,m,h1,_⟩:=(show pU S w ec l from h)
  exact⟨⟨ad,m⟩,h1⟩
theorem St.aSQ{w:World}{M:List Chunk}{R:List Fact}{f:Fact}(h:St c w M R)(s0:∀b o,c.S0 b o→b < c.w0.heap.size)(hf:f.P c.S0 c.w0):St c w M (R ++ [f]):=by
  obtain⟨F,S,a1,a2,a3,a4,a5,a6⟩:=h.sep
  refine⟨h.gG,⟨F,fun b o=>S b o∨c.S0 b o,a1,?_,a3,?_,?_,?_⟩,h.apart⟩
  · rintro b o hF (hs | hs)
    · exact a2 b o hF hs
    · rcases a3 b o hF with hw | hw
      · exact h.apart b o hw hs
      · have:=s0 b o hs;omega
  · rintro b o (hs | hs)
    · exact a4 b o hs
    · exact .inl hs
  · rintro b o (hs | hs)
    · exact a5 b o hs
    · exact Nat.lt_of_lt_of_le (s0 b o hs) h.gG.size
  · intro g hg
    rcases List.mem_append.1 hg with hg | hg
    · exact g.mono (a6 g hg) fun b o hs=>.inl hs
    · simp at hg;subst hg
      exact g.mono (g.CG hf fun b o hb=>h.gG.cell b o (s0 b o hb) fun hw=>h.apart b o hw hb) fun b o hs=>.inr hs
theorem kZ.aSR{w:World}{B:Bl}{k b z:Nat}{cs:List SV}{vs:List Value}(h:kZ c w B L)(hk:B[k]?=some (b,z))(hc:aW (bK B) cs=some vs)(hf:(fAt b z vs).P c.S0 c.w0):kZ c w B (L ++ [.ro k cs]):=by
  obtain⟨⟨R,s1,s2⟩,s0⟩:=h
  refine⟨⟨R ++ [fAt b z vs],?_,fun x hx=>?_⟩,s0⟩
  · rw [List.map_append]
    exact St.more (ch:=DL) (St.aSQ s1 s0 hf) (eY.refl _ _) ⟨F0,fun _ _ h=>h,fun _ _ h=>h.elim⟩
  · rcases List.mem_append.1 hx with hx | hx
    · exact PH (fun f hf=>List.mem_append_left _ hf) (s2 x hx)
    · simp at hx;subst hx
      exact⟨b,z,vs,hk,hc,by simp⟩
theorem ix{α β:Type}{iR:aI α}(C:G9 α){o:Oper}{d t:Nat}{s:AC}{i:Int}{Lv:List Ch}{cf1 cf2:tH}{ls:List α}{kf:α→Option β}{q:β}{el sz:Nat}{b1 b2:Bool}{z1 z2:List SV}{k2:TK}{n1:Nat}(hs:iZ T n K cf m e L=.idx o d t s ls.length i Lv cf1 cf2 K' m' e' L')(h1:bS c s ls)(hF:(idx ls i).bind kf=some q)(ht:wZ T t=some ⟨.sl el,b1,n1,z1⟩)(he:wZ T el=some ⟨k2,b2,sz,z2⟩)(hn:aI.n α=sz)
    (k:∀x,idx ls i=some x→kf x=some q→∀y:C.ex,C.sub c.S0 c.w0 x y→G (.mk P T hT n c B0 N X Q) K' (m'+1) ((d,.p m' 0) :: e') (L' ++ [.ro m' (C.cs x y)]) (cf2.ext [.ro m' (C.cs x y)])):G (.mk P T hT n c B0 N X Q) K m e L cf:=by
  refine fE (g:=.mk P T hT n c B0 N X Q) ?_
  rw [hs]
  intro x' y' ho hd hx hy hP
  cases hi:idx ls i with
  | none=>rw [hi] at hF;cases hF
  | some x =>
    rw [hi] at hF
    obtain⟨dd,hd1,hd2⟩:=hT.und _ _ ht
    simp only at hd2;subst hd2
    obtain⟨ec,p1,p2⟩:=aQX (S:=c.S0) (w:=c.w0) h1 (iP hi).2.2
    obtain⟨y,p3,p4⟩:=C.ok p2
    subst hn
    refine hP d (.p m' 0) [.ro m' (C.cs x y)] (fun _=>[(K7 (s.v ls.length),K0 (aI.n α) i.toNat (s.v ls.length))]) 1 hd (fun _=>rfl) (fun B a w hA hS hm=>?_) (fun B w L hm hS=>?_) (k x hi hF y p4)
    · obtain⟨v,g1,g2⟩:=dU hA hx
      obtain⟨u,g3,g4⟩:=dU hA hy
      cases g1;cases g3
      have hrd:aI.rd c.S0 w [s.v ls.length] ls:=aBK hS (f:=wY [s.v ls.length] ls) h1
      exact⟨_,by simp [eS,gV,bK,←hm],LB (P:=P) (o:=o) (w:=w) hrd rfl hi hd1 (hT.size _ _ he) ho g2 g4⟩
    · exact(hS.app _).aSR (b:=K7 (s.v ls.length)) (z:=K0 (aI.n α) i.toNat (s.v ls.length)) (by simp [←hm]) (eF (fun x v h=>by simpa using eZ (B:=[]) _ h) p3) p1
theorem dr{id:Nat}{ops:Array Oper}(is:List Nat)(hs:iZ T n K cf m e L=.rgn id ops K' m' e' L')(hm:P.follows .mixedOrders=true)(hf:(aDC ops && (okL m' (kl L' is) && (cZ is && is.all fun j=>Nat.blt j L'.length)))=true)
    (k:∀B1,G (.mk P T hT n c B0 N X Q) K' m' e' L' (.d B1 ops (List.replicate ops.size false) is (kl L' is) (kl L' is))):G (.mk P T hT n c B0 N X Q) K m e L cf:=by
  refine fE (g:=.mk P T hT n c B0 N X Q) ?_
  rw [hs]
  intro a w ⟨B,hmm,hA,hS⟩
  simp only [Bool.and_eq_true,List.all_eq_true,Nat.blt_eq] at hf
  obtain⟨f1,f2,f3,f4⟩:=hf
  refine wp_region_held (S:=Sd (.mk P T hT n c B0 N X Q) (B0++B) (kl L' is)) hm ?_
  have:=k (B0++B) ⟨⟨B,rfl⟩,by simp,f1,rfl,f4,by rw [hmm];exact f2,f3⟩ a w.drew ⟨[],by simpa using hmm,by simpa using hA,by simpa using hS.aLK (eY.drew F0 w),fun w' h=>by simpa using h⟩
  simpa using this
end
end Go.Gv
end
noncomputable section
namespace Go.Gv
inductive StF (P:Program):List Field→List (Nat×Nat)→Prop where
  | n:StF P [] []
  | c {F:Field} {Fs:List Field} {fs:List (Nat×Nat)} {m:Nat} (h:∀w,(sizeOf F.type).run P w=.ok m w) (t:StF P Fs fs):StF P (F :: Fs) ((F.offset,m) :: fs)
noncomputable section
variable {P:Program} {T:TT} {t n:Nat} {a:Bool} {zs:List SV} {z:Value}
theorem StF.off{Fs:List Field}{fs:List (Nat×Nat)}(h:StF P Fs fs):Fs.map (·.offset)=fs.map (·.1):=by
  induction h with
  | n=>rfl
  | c h t ih=>simp [ih]
theorem StF.get{Fs:List Field}{fs:List (Nat×Nat)}(h:StF P Fs fs):∀(j:Nat) F,Fs[j]?=some F→∃m,fs[j]?=some (F.offset,m)∧∀w,(sizeOf F.type).run P w=.ok m w:=by
  induction h with
  | n=>intro j F h;simp at h
  | c h t ih =>
    intro j F hj
    cases j with
    | zero=>simp at hj;subst hj;exact⟨_,rfl,h⟩
    | succ j=>exact ih j F (by simpa using hj)
theorem StF.run{Fs:List Field}{fs:List (Nat×Nat)}(h:StF P Fs fs)(w:World):(Fs.mapM fun f=>(do pure (f.offset,←sizeOf f.type):Sem (Nat×Nat))).run P w=.ok fs w:=by
  induction h with
  | n=>simp
  | c h t ih=>simp [h] at ih ⊢;simp [ih]
theorem CJ.nil:CJ P []:=⟨fun _ _ h=>(by cases h),fun _ _ h=>(by cases h),fun _ _ h=>(by cases h),fun _ _ h=>(by cases h)⟩
theorem CJ.add{k:TK}{d:TypeDesc}(hu:P.underlying t=some d)(hk:match k with
    | .i k=>d=.int k
    | .b=>d=.bool
    | .st fs=>∃Fs:Array Field,d=.struct Fs∧Fs.toList.map (·.offset)=fs.map (·.1)∧(∀(j:Nat) F,Fs[j]?=some F→∃m,fs[j]?=some (F.offset,m)∧∀w,(sizeOf F.type).run P w=.ok m w)∧∀w,(Fs.mapM fun f=>(do pure (f.offset,←sizeOf f.type):Sem (Nat×Nat))).run P w=.ok fs.toArray w
    | .s=>d=.string
    | .sl el=>d=.slice el
    | .x=>True) (ha:∀w,(isAgg t).run P w=.ok a w) (hs:∀w,(sizeOf t).run P w=.ok n w) (hz:∀w,(zeroValue t).run P w=.ok z w) (hc:aW (bK []) zs=some z.cells.toList) (h:CJ P T):CJ P ((t,⟨k,a,n,zs⟩) :: T):=by
  refine⟨fun t' i hi=>?_,fun t' i hi=>?_,fun t' i hi=>?_,fun t' i hi=>?_⟩ <;> simp only [wZ] at hi <;> split at hi
  · rename_i hb;cases hi;rw [Nat.eq_of_beq_eq_true hb];exact⟨d,hu,hk⟩
  · exact h.und t' i hi
  · rename_i hb;cases hi;rw [Nat.eq_of_beq_eq_true hb];exact ha
  · exact h.agg t' i hi
  · rename_i hb;cases hi;rw [Nat.eq_of_beq_eq_true hb];exact hs
  · exact h.size t' i hi
  · rename_i hb;cases hi;rw [Nat.eq_of_beq_eq_true hb];exact⟨z,hz,hc⟩
  · exact h.zero t' i hi
theorem CJ.st{fs:List (Nat×Nat)}{Fs:List Field}(hu:P.underlying t=some (.struct Fs.toArray))(hk:StF P Fs fs)(ha:∀w,(isAgg t).run P w=.ok a w)(hs:∀w,(sizeOf t).run P w=.ok n w)(hz:∀w,(zeroValue t).run P w=.ok z w)(hc:aW (bK []) zs=some z.cells.toList)(h:CJ P T):CJ P ((t,⟨.st fs,a,n,zs⟩) :: T):=
  CJ.add (k:=.st fs) hu ⟨Fs.toArray,rfl,by simpa using hk.off,fun j F hj=>hk.get j F (by simpa using hj),fun w=>by
    have:=hk.run w
    simp at this ⊢
    simp [this]⟩ ha hs hz hc h
end
abbrev I(x:Int):SV:=.i .i64 x
end Go.Gv
end
noncomputable section
namespace Go.Gv
noncomputable section
variable {P:Program} {T:TT} {hT:CJ P T} {n:Nat} {c:Ctx} {B0:Bl} {N:Act→World→Prop} {X:Nat→Act→World→Prop} {Q:Act→World→Prop} {K K':List Fr} {m m':Nat} {e e':SE} {L L':List Ch} {cf cf1 cf2:tH} {o:Oper} {Lv:List Ch} {d:Nat}
theorem ext_nil:cf.ext []=cf:=by cases cf <;> simp [tH.ext]
theorem pu{x:SV}(hs:VM (iZ T n K cf m e L)=some (o,Lv,cf1,cf2,K',m',e',L'))(hd:o.dst=some d)(hv:∀B a w,eU n B e' a→kZ c w B Lv→∃v,eS B x=some v∧dJ P o (vE B e') w v w)
    (k:G (.mk P T hT n c B0 N X Q) K' m' ((d,x) :: e') L' cf2):G (.mk P T hT n c B0 N X Q) K m e L cf:=by
  refine fE (g:=.mk P T hT n c B0 N X Q) ?_
  have key:PJ (.mk P T hT n c B0 N X Q) K' m' e' L' o Lv cf1 cf2→G (.mk P T hT n c B0 N X Q) K' m' e' L' cf1:=fun hP=>by
    refine hP d x [] (fun _=>[]) 0 hd (fun _=>rfl) (fun B a w hA hS _=>?_) (fun B w L _ hS=>by simpa using hS) (by rw [ext_nil];simpa using k)
    obtain⟨v,h1,h2⟩:=hv B a w hA hS
    exact⟨v,by simpa using h1,h2⟩
  generalize iZ T n K cf m e L=s at hs
  cases s <;> simp only [VM] at hs <;> cases hs
  · exact fun _ hP=>key hP
  · exact fun _ hP _=>key hP
theorem tN{x:Operand}{k:IntKind}{i:Int}{B:Bl}{a:Act}(hA:eU n B e a)(h:(gN e x).bind pQ=some (k,i)):ev (vE B e) x=some (.int k i):=by
  cases hx:gN e x with
  | none=>rw [hx] at h;cases h
  | some y =>
    rw [hx] at h
    obtain⟨v,h1,h2⟩:=dU hA hx
    rw [h2,aFO (x:=y) h h1]
noncomputable section
variable {x y:Operand} {t z:TypeId} {k:IntKind} {i j:Int} {α:Type} {A:Option α} {q:α}
theorem aSS(hs:VM (iZ T n K cf m e L)=some (o,Lv,cf1,cf2,K',m',e',L'))(ho:(o.op,o.dst)=(.binOp .quo t x y z,some d))(hx:(gN e' x).bind pQ=some (k,i))(hy:(gN e' y).bind pQ=some (k,j))(hF:need (j≠0) A=some q)
    (kk:A=some q→G (.mk P T hT n c B0 N X Q) K' m' ((d,.i k (k.wrap (i.tdiv j))) :: e') L' cf2):G (.mk P T hT n c B0 N X Q) K m e L cf:=
  pu hs (congrArg Prod.snd ho) (fun B a w hA _=>⟨_,rfl,aFA (congrArg Prod.fst ho) (tN hA hx) (tN hA hy) (iQ hF).1⟩) (kk (iQ hF).2)
theorem aST(hs:VM (iZ T n K cf m e L)=some (o,Lv,cf1,cf2,K',m',e',L'))(ho:(o.op,o.dst)=(.binOp .rem t x y z,some d))(hx:(gN e' x).bind pQ=some (k,i))(hy:(gN e' y).bind pQ=some (k,j))(hF:need (j≠0) A=some q)
    (kk:A=some q→G (.mk P T hT n c B0 N X Q) K' m' ((d,.i k (i.tmod j)) :: e') L' cf2):G (.mk P T hT n c B0 N X Q) K m e L cf:=
  pu hs (congrArg Prod.snd ho) (fun B a w hA _=>⟨_,rfl,Q8 (congrArg Prod.fst ho) (tN hA hx) (tN hA hy) (iQ hF).1⟩) (kk (iQ hF).2)
theorem aT0{x:Operand}{l:List UInt8}{B:Bl}{a:Act}(hA:eU n B e a)(h:gN e x=some (.s l)):ev (vE B e) x=some (sv l):=by
  obtain⟨v,h1,h2⟩:=dU hA h
  cases h1;exact h2
theorem aOT{x:Operand}{cs:List SV}{vs:List Value}{B:Bl}{a:Act}(hA:eU n B e a)(h:(gN e x).map nbS=some (.g cs))(hv:aW (bK []) cs=some vs):ev (vE B e) x=some (.agg vs.toArray):=by
  cases hx:gN e x with
  | none=>rw [hx] at h;cases h
  | some y =>
    rw [hx] at h
    simp at h
    obtain⟨v,h1,h2⟩:=dU hA hx
    rw [h2,←h1,←UU,h]
    simp only [eS,gV]
    have:=eF (g:=bK B) (fun x v h=>by simpa using eZ (B:=[]) B h) hv
    rw [this]
theorem neS{xs ys:List SV}{vx vy:List Value}{fs:Array Field}{b:Bool}(hg:P.eqGuardType P.depth t=false)(hst:P.stoodInHeld t=false)(hu:P.underlying t=some (.struct fs))(hb:∀w,(Op.eqFields 9999 vx.toArray vy.toArray (match P.underlying t with | some (.struct fs)=>fs | _=>#[]).toList).run P w=.ok b w)(hs:VM (iZ T n K cf m e L)=some (o,Lv,cf1,cf2,K',m',e',L'))(ho:(o.op,o.dst)=(.binOp .neq t x y z,some d))(hx:(gN e' x).map nbS=some (.g xs))(hy:(gN e' y).map nbS=some (.g ys))(hvx:aW (bK []) xs=some vx)(hvy:aW (bK []) ys=some vy)
    (kk:G (.mk P T hT n c B0 N X Q) K' m' ((d,.b (!b)) :: e') L' cf2):G (.mk P T hT n c B0 N X Q) K m e L cf:=
  pu hs (congrArg Prod.snd ho) (fun B a w hA _=>⟨_,rfl,aNW hg hst hu hb (congrArg Prod.fst ho) (aOT hA hx hvx) (aOT hA hy hvy)⟩) kk
theorem cl0{α β:Type}{fo:Option α}{kf:α→Option β}{q:β}{f:FuncId}{xs:List SV}{sv:α→SV}(hs:iZ T n K cf m e L=.call o (some d) f xs cf1 cf2 K' m' e' L')
    (hc:∀{w},HS c w L'→∀{x},fo=some x→Fn0 P f (cD w) xs sv x) (hF:fo.bind kf=some q)
    (k:∀x,fo=some x→kf x=some q→G (.mk P T hT n c B0 N X Q) K' m' ((d,sv x) :: e') L' cf2):G (.mk P T hT n c B0 N X Q) K m e L cf:=
  cl (Lf:=fun _ _=>[]) hs (fun _ _=>rfl) (fun h=>hc h) hF (fun x hx hk _=>by simpa using k x hx hk)
end
end
end Go.Gv
end
noncomputable section
namespace Go.Gv
noncomputable section
variable {P:Program} {T:TT} {hT:CJ P T} {n:Nat} {c:Ctx} {B0:Bl} {N:Act→World→Prop} {X:Nat→Act→World→Prop} {Q:Act→World→Prop} {K K':List Fr} {m m':Nat} {e e':SE} {L L':List Ch} {cf cf1 cf2:tH} {o:Oper} {Lv:List Ch} {d:Nat}
def VV(P:Program)(c:Ctx){α β:Type}{iR:aI α}(C:G9 α)(sr:β→SV)(g:FuncId)(cap:List Value)(p:α→Option β):Prop:=
  (∀args w,(callFunc g args).run P w=.ok (.enter g args) w)∧∀w,eY c.W c.w0 w→∀x y,C.sub (KZ w) w x y→∀q,p x=some q→∀v,eS [] (C.sv x y)=some v→Calls P g (v :: cap).toArray w (Ret fun u w'=>eS [] (sr q)=some u∧kZ (cD w) w' [] [])
def Fu2(P:Program)(c:Ctx){α α' β:Type}{iR:aI α}{iR':aI α'}(C:G9 α)(C':G9 α')(sr:β→SV)(g:FuncId)(cap:List Value)(p:α→α'→Option β):Prop:=
  (∀args w,(callFunc g args).run P w=.ok (.enter g args) w)∧∀w,eY c.W c.w0 w→∀x y x' y',C.sub (KZ w) w x y→C'.sub (KZ w) w x' y'→∀q,p x x'=some q→∀v v',eS [] (C.sv x y)=some v→eS [] (C'.sv x' y')=some v'→Calls P g (v :: v' :: cap).toArray w (Ret fun u w'=>eS [] (sr q)=some u∧kZ (cD w) w' [] [])
theorem aLL{α:Type}{iR:aI α}(C:G9 α){w:World}{B:Bl}(hS:kZ c w B L){x:α}{y:C.ex}(h:C.sub c.S0 c.w0 x y):C.sub (KZ w) w x y:=by
  refine C.aT9 h (fun b o hb=>?_) (aLJ hS)
  obtain⟨⟨R,s1,_⟩,s0⟩:=hS
  exact s1.gG.cell b o (s0 b o hb) fun hw=>s1.apart b o hw hb
theorem kZ.aLM{w:World}{B:Bl}(hS:kZ c w B L):eY c.W c.w0 w:=by
  obtain⟨⟨R,s1,_⟩,s0⟩:=hS
  exact s1.gG
noncomputable section
variable {α α' β γ:Type} {iR:aI α} {iR':aI α'} {C:G9 α} {C':G9 α'} {sr:β→SV} {g:FuncId} {cap:List Value} {q:γ} {kf:β→Option γ} {fo:Operand} {args:Array Operand} {ats:Array TypeId}
theorem aLN{f:FuncId}{x:Operand}{ts:Array TypeId}{vs:List Value}{E:Env}{w:World}(hcall:∀args w,(callFunc f args).run P w=.ok (.enter f args) w)(ho:o.op=.call {callee:=.value x,args:=args,argTypes:=ts})(hx:ev E x=some (.func (.func f) #[] cap.toArray))(hv:VC E args.toList=some vs):aJQ P o E w f (vs++cap).toArray:=
  aC3 (w:=w) (cap:=cap) (xs:=args.toList) (vs:=vs) hcall (by simpa using ho) hx hv
theorem aLO{B:Bl}{x:SV}{v:Value}(h:CI 0 x=true)(hv:eS B x=some v):eS [] x=some v:=by
  have:=IQ h hv
  rwa [List.take_zero] at this
theorem fa1{p:α→Option β}(H:VV P c C sr g cap p)(x:α)(y:C.ex)(hs:iZ T n K cf m e L=.op o Lv cf1 cf2 K' m' e' L')(ho:(o.op,o.dst)=(.call {callee:=.value fo,args:=args,argTypes:=ats},some d))(hf:gN e' fo=some (.k (.func (.func g) #[] cap.toArray)))(hx:(aW (gN e') args.toList).map nbT=some [C.sv x y])(hz:CI 0 (C.sv x y)=true)(hy:C.sub c.S0 c.w0 x y)(hF:(p x).bind kf=some q)
    (k:∀z,p x=some z→kf z=some q→G (.mk P T hT n c B0 N X Q) K' m' ((d,sr z) :: e') L' cf2):G (.mk P T hT n c B0 N X Q) K m e L cf:=by
  refine fE (g:=.mk P T hT n c B0 N X Q) ?_
  rw [hs]
  intro hdn _ hE
  obtain⟨hcall,hrun⟩:=H
  cases hp:p x with
  | none=>rw [hp] at hF;cases hF
  | some z =>
    rw [hp] at hF
    refine hE Unit (fun _=>m') (fun _=>(d,sr z) :: e') (fun _=>L') (fun _=>by simpa using uY (L:=L') []) (fun B a w next Q' hm hA hS hnext=>?_) (fun _=>k z hp hF)
    cases hys:aW (gN e') args.toList with
    | none=>rw [hys] at hx;cases hx
    | some ys =>
      rw [hys] at hx
      simp at hx
      obtain⟨vs,h1,h2⟩:=SJ hA hys
      obtain⟨u,h3,h4⟩:=dU hA hf
      simp only [eS,gV,bK] at h3
      split at h3
      · cases h3
        rw [←aHI,hx] at h1
        simp only [aW] at h1
        cases hv:eS (PD (.mk P T hT n c B0 N X Q) cf1++B) (C.sv x y) with
        | none=>rw [hv] at h1;cases h1
        | some v =>
          rw [hv] at h1
          cases h1
          have h6:=aLN (w:=w) hcall (congrArg Prod.fst ho) h4 h2
          have hd:o.dst=some d:=congrArg Prod.snd ho
          unfold Oper.wp
          rw [h6 _ a hA.env,Oper.upon_enter]
          refine Calls.mono (hrun w hS.aLM x y (aLL C hS hy) z hp v (aLO hz hv)) fun en w' ⟨v',hv',g1,g2⟩=>?_
          subst hv'
          rw [hd] at hdn ⊢
          have g3:=z9 (PD (.mk P T hT n c B0 N X Q) cf1++B) g1
          exact hnext () _ _ ⟨[],by simpa using hm,by simpa using hA.of (by simpa using g3) (hA.env.put (by simpa [oN,Nat.blt_eq] using hdn) v'),by simpa using hS.after (L2:=[]) rfl g2⟩
      · cases h3
theorem fu1{w:World}{p:α→Option β}(hc:∀args w,(callFunc g args).run P w=.ok (.enter g args) w)(hn:∀{κ:Ctx} {x y},C.sub κ.S0 κ.w0 x y→∀{q},p x=some q→Fn0 P g κ [C.sv x y] sr q):VV P (cD w) C sr g [] p:=
  ⟨hc,fun w1 _ x y hy q hq v hv=>by
    refine Calls.mono ((hn (κ:=cD w1) hy hq).run [v] (by simp [aW,hv]) (aIP w1)) fun en w' ⟨v',h1,y,h2,h3⟩=>⟨v',h1,h2,h3⟩⟩
end
def roL:Nat→List (Nat×List SV)→List Ch
  | _,[]=>[]
  | k,(_,cs) :: r=>.ro k cs :: roL (k+1) r
def roS:List (Nat×List SV)→List Ch
  | []=>[]
  | (n,cs) :: r=>.ro n cs :: roS r
def aLP:Nat→List (Nat×List SV)→List SV
  | _,[]=>[]
  | k,_ :: r=>.p k 0 :: aLP (k+1) r
def VW(Bs:Bl):List Value:=Bs.map fun b=>.pointer (some ⟨b.1,b.2,none⟩)
theorem rk{α:Type}[aI α]{w w1:World}{s:AC}{l:List α}(hk:eY F0 w w1)(h:bS (cD w) s l):bS (cD w1) s l:=
  aI.rd_mono (aI.rd_agree h fun b o hb=>hk.cell b o hb fun h=>h) fun b o hb=>Nat.lt_of_lt_of_le hb hk.size
theorem fk1{α β:Type}{iR:aI α}{C:G9 α}{sr:β→SV}{g:FuncId}{w:World}{Bs:Bl}{cs:List (Nat×List SV)}{p:α→Option β}(hc:∀args w,(callFunc g args).run P w=.ok (.enter g args) w)(hB:∀w1,eY F0 w w1→kZ (cD w1) w1 Bs (roL 0 cs))(hl:aW (eS Bs) (aLP 0 cs)=some (VW Bs))(hz:∀q,CI 0 (sr q)=true)(hn:∀{w1 x y},eY F0 w w1→C.sub (KZ w1) w1 x y→∀{q},p x=some q→FnS P g (cD w1) (C.sv x y :: aLP 0 cs) Bs (roL 0 cs) (fun r (_:Unit)=>sr r) (fun _ _=>[]) q):VV P (cD w) C sr g (VW Bs) p:=
  ⟨hc,fun w1 hk x y hy q hq v hv=>by
    have hv':eS Bs (C.sv x y)=some v:=by simpa using z9 (B:=[]) Bs hv
    refine Calls.mono ((hn hk hy hq).run (v :: VW Bs) (by simp [aW,hv',hl]) (hB w1 hk)) fun en w' ⟨v',h1,y',h2,h3⟩=>⟨v',h1,?_,?_⟩
    · exact aLO (hz q) h2
    · simpa using aBH (m:=0) h3 rfl⟩
theorem aHP:∀{cs:List (Nat×List SV)} {k:Nat} {x:Ch},x∈roL k cs→∃j n c,cs[j]?=some (n,c)∧x=.ro (k+j) c
  | (n, c) :: r, k, x, h => by
    rcases List.mem_cons.1 h with h | h
    · exact⟨0,n,c,rfl,by rw [h];rfl⟩
    · obtain⟨j,n',c',h1,h2⟩:=aHP h
      exact⟨j+1,n',c',by simpa using h1,by rw [h2];congr 1;omega⟩
theorem aHQ:∀{cs:List (Nat×List SV)} {n:Nat} {c:List SV},(n,c)∈cs→Ch.ro n c∈roS cs
  | (n', c') :: r, n, c, h => by
    rcases List.mem_cons.1 h with h | h
    · cases h;exact List.mem_cons_self ..
    · exact List.mem_cons_of_mem _ (aHQ h)
theorem aRC{B:Bl}{cs:List (Nat×List SV)}{cap:List Value}:aW (RC B) (cs.map (·.1))=some cap→∃Bs:Bl,cap=VW Bs∧Bs.length=cs.length∧∀(j:Nat) n c,cs[j]?=some (n,c)→∃b,Bs[j]?=some b∧B[n]?=some b:=by
  induction cs generalizing cap with
  | nil=>intro h;cases h;exact⟨[],rfl,rfl,by simp⟩
  | cons p r ih =>
    obtain⟨n,c⟩:=p
    intro h
    simp only [List.map_cons,aW] at h
    split at h
    · cases h
    · rename_i v hv
      split at h
      · cases h
      · rename_i vs hvs
        cases h
        obtain⟨Bs,h1,h2,h3⟩:=ih hvs
        simp only [RC] at hv
        split at hv
        · rename_i b z hb
          cases hv
          refine⟨(b,z) :: Bs,by simp [VW,h1],by simp [h2],fun j n' c' hj=>?_⟩
          cases j with
          | zero=>simp at hj;obtain⟨rfl,rfl⟩:=hj;exact⟨(b,z),rfl,hb⟩
          | succ j=>simpa using h3 j n' c' (by simpa using hj)
        · cases hv
def aDK:List (Nat×List SV)→Bool
  | []=>true
  | (_,c) :: r=>CI.okC 0 c && aDK r
theorem aDL:∀{cs:List (Nat×List SV)} {j n:Nat} {c:List SV},aDK cs=true→cs[j]?=some (n,c)→CI.okC 0 c=true
  | (n', c') :: r, 0, n, c, h, hj => by
    simp only [aDK,Bool.and_eq_true] at h
    simp at hj;rw [←hj.2];exact h.1
  | (n', c') :: r, j + 1, n, c, h, hj => by
    simp only [aDK,Bool.and_eq_true] at h
    exact aDL h.2 (by simpa using hj)
theorem aRD{w:World}{B Bs:Bl}{cs:List (Nat×List SV)}(hS:kZ c w B L)(hk:∀x∈roS cs,x∈L)(ho:aDK cs=true)(hB:∀(j:Nat) n c,cs[j]?=some (n,c)→∃b,Bs[j]?=some b∧B[n]?=some b):∀w1,eY F0 w w1→kZ (cD w1) w1 Bs (roL 0 cs):=by
  intro w1 hkp
  have facts:∀x∈roL 0 cs,∃(f:Fact),f.P (KZ w1) w1∧(∀R,f∈R→roF Bs R x)∧iS Bs x=DL:=by
    intro x hx
    obtain⟨j,n,cc,h1,h2⟩:=aHP hx
    subst h2
    obtain⟨⟨R,s1,s2⟩,s0⟩:=hS
    obtain⟨b,z,vs,g1,g2,g3⟩:=s2 _ (hk _ (aHQ (List.mem_of_getElem? h1)))
    obtain⟨b',q1,q2⟩:=hB j n cc h1
    rw [g1] at q2;cases q2
    have hc0:=CN (aDL ho h1) g2
    rw [List.take_zero] at hc0
    obtain⟨i,hi⟩:=List.getElem?_of_mem g3
    refine⟨fAt b z vs,aSE (s1.fact i hi) hkp,fun R hR=>⟨b,z,vs,by simpa using q1,eF (fun x v h=>by simpa using eZ (B:=[]) Bs h) hc0,hR⟩,rfl⟩
  have build:∀M:List Ch,(∀x∈M,x∈roL 0 cs)→∃R:List Fact,(∀f∈R,f.P (KZ w1) w1)∧(∀x∈M,roF Bs R x)∧M.map (iS Bs)=List.replicate M.length DL:=by
    intro M
    induction M with
    | nil=>exact fun _=>⟨[],by simp,by simp,rfl⟩
    | cons x M ih =>
      intro hM
      obtain⟨R,h1,h2,h3⟩:=ih fun y hy=>hM y (List.mem_cons_of_mem _ hy)
      obtain⟨f,f1,f2,f3⟩:=facts x (hM x (by simp))
      refine⟨f :: R,fun g hg=>?_,fun y hy=>?_,by simp [f3,h3,List.replicate_succ]⟩
      · rcases List.mem_cons.1 hg with hg | hg
        · subst hg;exact f1
        · exact h1 g hg
      · rcases List.mem_cons.1 hy with hy | hy
        · subst hy;exact f2 _ (by simp)
        · exact PH (fun g hg=>List.mem_cons_of_mem _ hg) (h2 y hy)
  obtain⟨R,h1,h2,h3⟩:=build (roL 0 cs) fun _ h=>h
  refine⟨⟨R,?_,h2⟩,fun _ _ h=>h⟩
  rw [h3]
  have h4:St (cD w1) w1 [] R:=St.enter h1
  generalize (roL 0 cs).length=k
  clear h3
  induction k with
  | zero=>exact h4
  | succ k ih =>
    rw [List.replicate_succ']
    exact St.more (ch:=DL) ih (eY.refl _ _) ⟨F0,fun _ _ h=>h,fun _ _ h=>h.elim⟩
def shr(ns:List Nat):List Ch→List Ch
  | []=>[]
  | .box n cs :: L => match fD n ns with
    | true=>.box n cs :: shr ns L
    | false=>.ro n cs :: shr ns L
  | x :: L=>x :: shr ns L
theorem St.aRE{w:World}{M:List Chunk}{R:List Fact}{b z i:Nat}{vs:List Value}(h:St c w M R)(hi:M[i]?=some (M4 b z vs)):St c w (M.set i DL) (R ++ [fAt b z vs]):=by
  have h1:=h.take i hi
  obtain⟨F,S,⟨F1,F2,h1,h2,hd,hF⟩,a2,a3,a4,a5,a6⟩:=h1.sep
  have hlt:∀b' o,F1 b' o→b' < w.heap.size:=fun _ _ hf=>Chunk.lt (M4 b z vs) h1 hf
  obtain⟨g1,g2,g3⟩:=h1
  refine⟨h.gG,⟨F2,fun b o=>S b o∨F1 b o,h2,?_,fun b o hf=>a3 b o ((hF b o).2 (.inr hf)),?_,?_,?_⟩,h.apart⟩
  · rintro b o hf (hs | hs)
    · exact a2 b o ((hF b o).2 (.inr hf)) hs
    · exact hd b o hs hf
  · rintro b o (hs | hs)
    · exact a4 b o hs
    · rcases a3 b o ((hF b o).2 (.inl hs)) with h | h
      · exact .inr (.inl h)
      · exact .inr (.inr h)
  · rintro b o (hs | hs)
    · exact a5 b o hs
    · exact hlt b o hs
  · intro f hf
    rcases List.mem_append.1 hf with hf | hf
    · exact f.mono (a6 f hf) fun b o hs=>.inl hs
    · simp at hf;subst hf
      exact⟨g1,fun o ho=>.inr ((g3 b o).2 ho)⟩
theorem aLQ{w:World}{B:Bl}(ns:List Nat):∀(M L:List Ch),kZ c w B (M++L)→kZ c w B (M++shr ns L)
  | M,[],h=>h
  | M, x :: L, h => by
    have gen:kZ c w B (M++x :: shr ns L):=by
      have:=aLQ ns (M ++ [x]) L (by simpa using h)
      simpa using this
    cases x with
    | box n cs =>
      simp only [shr]
      split
      · exact gen
      · obtain⟨⟨R,s1,s2⟩,s0⟩:=gen
        have hi:((M++Ch.box n cs :: shr ns L).map (iS B))[M.length]?=some (K1 B n cs):=by simp [iS]
        obtain⟨F,b,z,vs,h3,h4,h5⟩:=s1.chunk (ch:=K1 B n cs) M.length hi
        have s3:=s1.imp (hC.put M.length hi fun F ⟨b',z',vs',q1,q2,q3⟩=>by
          rw [h3] at q1;cases q1;rw [h4] at q2;cases q2;exact q3)
        have s4:=s3.aRE (b:=b) (z:=z) (vs:=vs) (i:=M.length) (by rw [List.getElem?_set_self];simp)
        refine⟨⟨R ++ [fAt b z vs],?_,fun x hx=>?_⟩,s0⟩
        · have:((M++Ch.ro n cs :: shr ns L).map (iS B))=(((M++Ch.box n cs :: shr ns L).map (iS B)).set M.length (M4 b z vs)).set M.length DL:=by
            simp [iS]
          rw [this];exact s4
        · rcases List.mem_append.1 hx with hx | hx
          · exact PH (fun f hf=>List.mem_append_left _ hf) (s2 x (List.mem_append_left _ hx))
          · rcases List.mem_cons.1 hx with hx | hx
            · subst hx;exact⟨b,z,vs,h3,h4,by simp⟩
            · exact PH (fun f hf=>List.mem_append_left _ hf) (s2 x (List.mem_append_right _ (List.mem_cons_of_mem _ hx)))
    | _=>exact gen
theorem mf{f:FuncId}{caps:Array Operand}{ops:Array Oper}{l:List Oper}(ns:List Nat)(hs:iZ T n K cf m e L=.op o Lv (.r ops l) cf2 K' m' e' L')(ho:(o.op,o.dst)=(.makeFunc (.func f) #[] caps,some d))(hx:aW (gN e') caps.toList=some (ns.map fun n=>.p n 0))
    (k:G (.mk P T hT n c B0 N X Q) K' m' ((d,.f f ns) :: e') (shr ns L') cf2):G (.mk P T hT n c B0 N X Q) K m e L cf:=by
  refine fE (g:=.mk P T hT n c B0 N X Q) ?_
  rw [hs]
  intro hdn _ hE
  refine hE Unit (fun _=>m') (fun _=>(d,.f f ns) :: e') (fun _=>shr ns L') (fun _=>trivial) (fun B a w next Q' hm hA hS hnext=>?_) (fun _=>k)
  obtain⟨vs,h1,h2⟩:=SJ hA hx
  have hd:o.dst=some d:=congrArg Prod.snd ho
  have h3:∀{ns:List Nat} {vs:List Value},aW (eS (PD (.mk P T hT n c B0 N X Q) (.r ops l)++B)) (ns.map fun n=>SV.p n 0)=some vs→aW (RC (PD (.mk P T hT n c B0 N X Q) (.r ops l)++B)) ns=some vs:=by
    intro ns
    induction ns with
    | nil=>intro vs h;exact h
    | cons jj ns ih =>
      intro vs h
      simp only [List.map_cons,aW] at h
      split at h
      · cases h
      · rename_i v hv
        split at h
        · cases h
        · rename_i vs' hvs
          cases h
          have:RC (PD (.mk P T hT n c B0 N X Q) (.r ops l)++B) jj=some v:=by
            simp only [eS,gV,bK] at hv
            simp only [RC]
            split at hv
            · simpa using hv
            · cases hv
          simp [aW,this,ih hvs]
  have h5:∀{os:List Operand} {vs:List Value},VC (vE (PD (.mk P T hT n c B0 N X Q) (.r ops l)++B) e') os=some vs→os.map (ev (vE (PD (.mk P T hT n c B0 N X Q) (.r ops l)++B) e'))=vs.map some:=by
    intro os
    induction os with
    | nil=>intro vs h;cases h;rfl
    | cons o os ih =>
      intro vs h
      simp only [VC] at h
      split at h
      · rename_i v vs' hv hvs
        cases h
        simp [hv,ih hvs]
      · cases h
  have h6:=aNT (P:=P) (w:=w) (vf:=[]) (vc:=vs) (congrArg Prod.fst ho) rfl (h5 h2)
  unfold Oper.wp
  rw [h6 _ a hA.env,Oper.upon_value,hd]
  rw [hd] at hdn
  have h7:eS (PD (.mk P T hT n c B0 N X Q) (.r ops l)++B) (.f f ns)=some (.func (.func f) #[] vs.toArray):=by simp only [eS,h3 h1]
  exact hnext () _ _ ⟨[],by simpa using hm,by simpa using hA.of h7 (hA.env.put (by simpa [oN,Nat.blt_eq] using hdn) _),by simpa using aLQ ns [] L' hS⟩
theorem clc{α β:Type}{fo:Option α}{kf:α→Option β}{q:β}{f g:FuncId}{xs xs0:List SV}{sv:α→SV}(is:List Nat)(cs:List (Nat×List SV))(hs:iZ T n K cf m e L=.callp o (some d) f xs cf1 cf2 K' m' e' L')(hk:kl L' is=roS cs)(ho:(aDK cs && okA xs.dropLast)=true)(hx:xs=xs.dropLast ++ [.f g (cs.map (·.1))])
    (hc:∀{w},HS c w L'→∀{Bs:Bl},Bs.length=cs.length→(∀w1,eY F0 w w1→kZ (cD w1) w1 Bs (roL 0 cs))→∀{x},fo=some x→Fn0 P f (cD w) (xs.dropLast ++ [.k (.func (.func g) #[] (VW Bs).toArray)]) sv x) (hF:fo.bind kf=some q)
    (k:∀x,fo=some x→kf x=some q→G (.mk P T hT n c B0 N X Q) K' m' ((d,sv x) :: e') L' cf2):G (.mk P T hT n c B0 N X Q) K m e L cf:=by
  refine fE (g:=.mk P T hT n c B0 N X Q) ?_
  rw [hs]
  intro fo' args ats ho' hd hf ⟨ys,hys,hxs⟩ hdn hE
  rw [Bool.and_eq_true] at ho
  cases hfo:fo with
  | none=>rw [hfo] at hF;cases hF
  | some x =>
    rw [hfo] at hF
    refine hE Unit (fun _=>m') (fun _=>(d,sv x) :: e') (fun _=>L') (fun _=>by simpa using uY (L:=L') []) (fun B a w next Q' hm hA hS hnext=>?_) (fun _=>k x hfo hF)
    obtain⟨vs,h1,h2⟩:=SJ hA hys
    obtain⟨v,h3,h4⟩:=dU hA hf
    simp [eS,aW] at h3
    subst h3
    rw [←M7,hxs] at h1
    rw [hx] at h1
    have split:∀{as:List SV} {b:SV} {vs:List Value} {B:Bl},aW (eS B) (as ++ [b])=some vs→∃us v,aW (eS B) as=some us∧eS B b=some v∧vs=us ++ [v]:=by
      intro as
      induction as with
      | nil =>
        intro b vs B h
        simp only [List.nil_append,aW] at h
        split at h
        · cases h
        · rename_i v hv;cases h;exact⟨[],v,rfl,hv,rfl⟩
      | cons a as ih =>
        intro b vs B h
        simp only [List.cons_append,aW] at h
        split at h
        · cases h
        · rename_i u hu
          split at h
          · cases h
          · rename_i us' hus
            cases h
            obtain⟨us,v,g1,g2,rfl⟩:=ih hus
            exact⟨u :: us,v,by simp [aW,hu,g1],g2,rfl⟩
    obtain⟨us,fv,g1,g2,rfl⟩:=split h1
    simp only [eS] at g2
    split at g2
    · rename_i cap hcap
      cases g2
      obtain⟨Bs,b1,b2,b3⟩:=aRC hcap
      subst b1
      have hmem:∀x∈roS cs,x∈L':=fun x hx=>aBG (is:=is) (by rw [hk];exact hx)
      obtain⟨hcall,hrun⟩:=hc ⟨_,hS⟩ b2 (aRD hS hmem ho.1 b3) hfo
      have join:∀{as:List SV} {us:List Value} {b:SV} {v:Value},aW (eS []) as=some us→eS [] b=some v→aW (eS []) (as ++ [b])=some (us ++ [v]):=by
        intro as
        induction as with
        | nil=>intro us b v h hb;cases h;simp [aW,hb]
        | cons a as ih =>
          intro us b v h hb
          simp only [aW] at h
          split at h
          · cases h
          · rename_i u hu
            split at h
            · cases h
            · rename_i us' hus;cases h;simp [aW,hu,ih hus hb]
      have h5:=hrun (us ++ [.func (.func g) #[] (VW Bs).toArray]) (join (U0 ho.2 g1) (by simp [eS,gV,bK,Value.oneCell'])) (aIP w)
      have h6:=PL (w:=w) hcall ho' h4 h2
      unfold Oper.wp
      rw [h6 _ a hA.env,Oper.upon_enter]
      refine Calls.mono h5 fun en w' ⟨v,hv,y,e1,e2⟩=>?_
      subst hv
      rw [hd]
      have g3:=z9 (PD (.mk P T hT n c B0 N X Q) cf1++B) e1
      exact hnext () _ _ ⟨[],by simpa using hm,by simpa using hA.of (by simpa using g3) (hA.env.put (by simpa [oN,Nat.blt_eq] using hdn) v),by simpa using hS.after (L2:=[]) rfl e2⟩
    · cases g2
theorem HS.u1{α β:Type}{iR:aI α}{C:G9 α}{sr:β→SV}{g:FuncId}{cap:List Value}{w:World}{p:α→Option β}(h:HS c w L)(H:VV P c C sr g cap p):VV P (cD w) C sr g cap p:=by
  obtain⟨B,hS⟩:=h.ex
  exact⟨H.1,fun w1 hk=>H.2 w1 (hS.aLM.trans hk fun _ _ _ h=>h.elim)⟩
theorem HS.u2{α α' β:Type}{iR:aI α}{iR':aI α'}{C:G9 α}{C':G9 α'}{sr:β→SV}{g:FuncId}{cap:List Value}{w:World}{p:α→α'→Option β}(h:HS c w L)(H:Fu2 P c C C' sr g cap p):Fu2 P (cD w) C C' sr g cap p:=by
  obtain⟨B,hS⟩:=h.ex
  exact⟨H.1,fun w1 hk=>H.2 w1 (hS.aLM.trans hk fun _ _ _ h=>h.elim)⟩
theorem aT2{α β:Type}{fo:Option α}{kf:α→Option β}{q:β}{f g:FuncId}{xs:List SV}{sv:α→SV}{n1:Nat}{c1:List SV}(is:List Nat)(hs:iZ T n K cf m e L=.callp o (some d) f xs cf1 cf2 K' m' e' L')(hk:kl L' is=[.ro n1 c1])(ho:(aDK [(n1,c1)] && okA xs.dropLast)=true)(hx:xs=xs.dropLast ++ [.f g [n1]])
    (hc:∀{w},HS c w L'→∀{b1:Nat×Nat},(∀w1,eY F0 w w1→kZ (cD w1) w1 [b1] [.ro 0 c1])→∀{x},fo=some x→Fn0 P f (cD w) (xs.dropLast ++ [.k (.func (.func g) #[] (VW [b1]).toArray)]) sv x) (hF:fo.bind kf=some q)
    (k:∀x,fo=some x→kf x=some q→G (.mk P T hT n c B0 N X Q) K' m' ((d,sv x) :: e') L' cf2):G (.mk P T hT n c B0 N X Q) K m e L cf:=
  clc (xs0:=[]) is [(n1,c1)] hs hk ho hx (fun h Bs hl hB=>match Bs,hl,hB with | [_],_,hB=>hc h hB) hF k
end
end Go.Gv
end
noncomputable section
set_option linter.unusedVariables false
namespace Go.Gv
noncomputable section
variable {P:Program} {T:TT} {hT:CJ P T} {n:Nat} {c:Ctx} {B0:Bl} {N:Act→World→Prop} {X:Nat→Act→World→Prop} {Q:Act→World→Prop} {K K':List Fr} {m m':Nat} {e e':SE} {L L':List Ch} {cf cf1 cf2:tH} {o:Oper} {Lv:List Ch} {d:Nat}
variable {x y z:Operand} {t t2:TypeId} {k k2:IntKind} {i j:Int} {α β:Type} {A:Option β} {q:β}
theorem aT3(hs:VM (iZ T n K cf m e L)=some (o,Lv,cf1,cf2,K',m',e',L'))(ho:(o.op,o.dst)=(.call {callee:=.builtin .min,args:=#[x,y],argTypes:=#[t,t2]},some d))(hx:(gN e' x).bind pQ=some (.i64,i))(hy:(gN e' y).bind pQ=some (k,j))
    (kk:G (.mk P T hT n c B0 N X Q) K' m' ((d,.i .i64 (if j < i then j else i)) :: e') L' cf2):G (.mk P T hT n c B0 N X Q) K m e L cf:=
  pu hs (congrArg Prod.snd ho) (fun B a w hA _=>⟨_,rfl,aQR (congrArg Prod.fst ho) (tN hA hx) (tN hA hy)⟩) kk
theorem aT4(hs:VM (iZ T n K cf m e L)=some (o,Lv,cf1,cf2,K',m',e',L'))(ho:(o.op,o.dst)=(.call {callee:=.builtin .max,args:=#[x,y],argTypes:=#[t,t2]},some d))(hx:(gN e' x).bind pQ=some (.i64,i))(hy:(gN e' y).bind pQ=some (k,j))
    (kk:G (.mk P T hT n c B0 N X Q) K' m' ((d,.i .i64 (if i < j then j else i)) :: e') L' cf2):G (.mk P T hT n c B0 N X Q) K m e L cf:=
  pu hs (congrArg Prod.snd ho) (fun B a w hA _=>⟨_,rfl,aQS (congrArg Prod.fst ho) (tN hA hx) (tN hA hy)⟩) kk
noncomputable section
variable {l:List UInt8} {b1:Bool} {n1:Nat} {z1:List SV}
theorem aSV(ht:wZ T t=some ⟨.s,b1,n1,z1⟩)(hT:CJ P T):P.underlying t=some .string:=by
  obtain⟨dd,hd1,hd2⟩:=hT.und _ _ ht
  simp only at hd2;subst hd2
  exact hd1
theorem qsi{kf:UInt8→Option β}(hs:VM (iZ T n K cf m e L)=some (o,Lv,cf1,cf2,K',m',e',L'))(ho:(o.op,o.dst)=(.index t x y,some d))(ht:wZ T t=some ⟨.s,b1,n1,z1⟩)(hx:gN e' x=some (.s l))(hy:(gN e' y).bind pQ=some (k,i))(hF:(idx l i).bind kf=some q)
    (kk:∀u,idx l i=some u→kf u=some q→G (.mk P T hT n c B0 N X Q) K' m' ((d,.y u) :: e') L' cf2):G (.mk P T hT n c B0 N X Q) K m e L cf:=by
  cases hi:idx l i with
  | none=>rw [hi] at hF;cases hF
  | some u =>
    rw [hi] at hF
    exact pu hs (congrArg Prod.snd ho) (fun B a w hA _=>⟨_,rfl,aN3 (aSV ht hT) hi (congrArg Prod.fst ho) (aT0 hA hx) (tN hA hy)⟩) (kk u hi hF)
end
noncomputable section
variable [aI α] {s:AC} {l:List α} {el:TypeId} {b1 b2:Bool} {n1 sz:Nat} {z1 z2:List SV} {kt:TK}
theorem VX{B:Bl}{a:Act}(hA:eU n B e a){ln:Nat}(h:gN e x=some (.h s ln)):ev (vE B e) x=some (s.v ln):=by
  obtain⟨v,h1,h2⟩:=dU hA h
  cases h1;exact h2
theorem CP(ht:wZ T t=some ⟨.sl el,b1,n1,z1⟩)(hT:CJ P T):P.underlying t=some (.slice el):=by
  obtain⟨dd,hd1,hd2⟩:=hT.und _ _ ht
  simp only at hd2;subst hd2
  exact hd1
theorem qsb{a b:Nat}(h1:bS c s l)(hb:a≤b∧b≤l.length)(hs:VM (iZ T n K cf m e L)=some (o,Lv,cf1,cf2,K',m',e',L'))(hd:o.dst=some d)(hr:∀B act w,eU n B e' act→aI.rd c.S0 w [s.v l.length] l→dJ P o (vE B e') w (fM (aI.n α) a b (s.v l.length)) w)
    (kk:∀s',bS c s' ((l.take b).drop a)→G (.mk P T hT n c B0 N X Q) K' m' ((d,.h s' ((l.take b).drop a).length) :: e') L' cf2):G (.mk P T hT n c B0 N X Q) K m e L cf:=by
  have h2:=aFG (n:=aI.n α) (a:=a) (b:=b) rfl h1 hb.1 hb.2
  obtain⟨ad,cp,e1,_⟩:=VJ h2
  rw [e1] at h2
  exact pu hs hd (fun B act w hA hS=>⟨_,by rw [e1];simp [eS,gV,bK],hr B act w hA (aBK hS (f:=wY [s.v l.length] l) h1)⟩) (kk ⟨ad,cp⟩ h2)
theorem aFS(hs:VM (iZ T n K cf m e L)=some (o,Lv,cf1,cf2,K',m',e',L'))(ho:(o.op,o.dst)=(.slice t x (some y) (some z) none,some d))(ht:wZ T t=some ⟨.sl el,b1,n1,z1⟩)(he:wZ T el=some ⟨kt,b2,sz,z2⟩)(hn:aI.n α=sz)(h1:bS c s l)(hx:gN e' x=some (.h s l.length))(hy:(gN e' y).bind pQ=some (k,i))(hz:(gN e' z).bind pQ=some (k2,j))(hF:need (0≤i∧i≤j∧j≤(l.length:Int)) A=some q)
    (kk:A=some q→∀s',bS c s' ((l.take j.toNat).drop i.toNat)→G (.mk P T hT n c B0 N X Q) K' m' ((d,.h s' ((l.take j.toNat).drop i.toNat).length) :: e') L' cf2):G (.mk P T hT n c B0 N X Q) K m e L cf:=by
  have hb:=(iQ hF).1
  subst hn
  exact qsb h1 (by omega) hs (congrArg Prod.snd ho) (fun B act w hA h=>aIJ h rfl (CP ht hT) (hT.size _ _ he) hb (congrArg Prod.fst ho) (VX hA hx) (tN hA hy) (tN hA hz)) (kk (iQ hF).2)
theorem aSW(hs:VM (iZ T n K cf m e L)=some (o,Lv,cf1,cf2,K',m',e',L'))(ho:(o.op,o.dst)=(.slice t x none (some z) none,some d))(ht:wZ T t=some ⟨.sl el,b1,n1,z1⟩)(he:wZ T el=some ⟨kt,b2,sz,z2⟩)(hn:aI.n α=sz)(h1:bS c s l)(hx:gN e' x=some (.h s l.length))(hz:(gN e' z).bind pQ=some (k2,j))(hF:need (0≤j∧j≤(l.length:Int)) A=some q)
    (kk:A=some q→∀s',bS c s' ((l.take j.toNat).drop 0)→G (.mk P T hT n c B0 N X Q) K' m' ((d,.h s' ((l.take j.toNat).drop 0).length) :: e') L' cf2):G (.mk P T hT n c B0 N X Q) K m e L cf:=by
  have hb:=(iQ hF).1
  subst hn
  exact qsb h1 (by omega) hs (congrArg Prod.snd ho) (fun B act w hA h=>aKC h rfl (CP ht hT) (hT.size _ _ he) hb (congrArg Prod.fst ho) (VX hA hx) (tN hA hz)) (kk (iQ hF).2)
end
noncomputable section
variable {zv:Value} {n1 m1:Nat} {el:TypeId}
theorem aLR{B:Bl}{xs:List SV}{vs:List Value}(h:aW (eS []) xs=some vs):aW (eS B) xs=some vs:=eF (fun x v h=>by simpa using z9 (B:=[]) B h) h
theorem qba{ps:Array (Nat×Operand)}{xs:List SV}{vs cells:List Value}(cs:List SV)(hz:∀w,(zeroValue t).run P w=.ok zv w)(hu:P.underlying t=some (.array n1 el))(hp:∀w,(sizeOf el).run P w=.ok m1 w)(hs:VM (iZ T n K cf m e L)=some (o,Lv,cf1,cf2,K',m',e',L'))(ho:(o.op,o.dst)=(.build t ps,some d))(hv:aW (gN e') (ps.toList.map (·.2))=some xs)(hvs:aW (eS []) xs=some vs)(hcs:aW (bK []) cs=some cells)(hc:Instr.fill (fun i=>some (i * m1,m1)) zv.cells ((ps.toList.map (·.1)).zip vs)=some cells.toArray)
    (kk:G (.mk P T hT n c B0 N X Q) K' m' ((d,.g cs) :: e') L' cf2):G (.mk P T hT n c B0 N X Q) K m e L cf:=
  pu hs (congrArg Prod.snd ho) (fun B a w hA _=>⟨.agg cells.toArray,by
    simp only [eS,gV]
    rw [eF (g:=bK B) (fun x v h=>by simpa using eZ (B:=[]) B h) hcs],by
    obtain⟨us,h1,h2⟩:=SJ hA hv
    rw [aLR hvs] at h1
    cases h1
    exact Q9 (ps:=ps.toList) (by have:=congrArg Prod.fst ho;simpa using this) hz hu hp h2 hc⟩) kk
theorem qai{γ:Type}(f:γ→Value)(g:γ→SV){l:List γ}{cs:List SV}{kf:γ→Option β}(hu:P.underlying t=some (.array n1 el))(hz:∀w,(sizeOf el).run P w=.ok 1 w)(hg:∀w,(isAgg el).run P w=.ok false w)(hgf:∀u,eS [] (g u)=some (f u))(hs:VM (iZ T n K cf m e L)=some (o,Lv,cf1,cf2,K',m',e',L'))(ho:(o.op,o.dst)=(.index t x y,some d))(hx:gN e' x=some (.g cs))(hcs:aW (bK []) cs=some (l.map f))(hn:l.length=n1)(hy:(gN e' y).bind pQ=some (k,i))(hF:(idx l i).bind kf=some q)
    (kk:∀u,idx l i=some u→kf u=some q→G (.mk P T hT n c B0 N X Q) K' m' ((d,g u) :: e') L' cf2):G (.mk P T hT n c B0 N X Q) K m e L cf:=by
  cases hi:idx l i with
  | none=>rw [hi] at hF;cases hF
  | some u =>
    rw [hi] at hF
    refine pu hs (congrArg Prod.snd ho) (fun B a w hA _=>⟨f u,by simpa using z9 (B:=[]) B (hgf u),?_⟩) (kk u hi hF)
    obtain⟨v,h1,h2⟩:=dU hA hx
    simp only [eS,gV] at h1
    rw [eF (g:=bK B) (fun x v h=>by simpa using eZ (B:=[]) B h) hcs] at h1
    cases h1
    exact aQU f hu hz hg hi hn rfl (congrArg Prod.fst ho) h2 (tN hA hy)
end
end
end Go.Gv
end
noncomputable section
set_option linter.unusedVariables false
namespace Go.Gv
noncomputable section
variable {P:Program} {T:TT} {hT:CJ P T} {n:Nat} {c:Ctx} {B0:Bl} {N:Act→World→Prop} {X:Nat→Act→World→Prop} {Q:Act→World→Prop} {K K':List Fr} {m m':Nat} {e e':SE} {L L':List Ch} {cf cf1 cf2:tH} {o:Oper} {Lv:List Ch} {d:Nat}
theorem chg{g:Gx}{ι:Type}(m2:ι→Nat)(e2:ι→SE)(L2:ι→List Ch)(h:∀B a w,B.length=m→eU g.n B e a→kZ g.c w B L→∃i B',(B++B').length=m2 i∧eU g.n (B++B') (e2 i) a∧kZ g.c w (B++B') (L2 i))
    (hz:∀i,Frz g cf L (L2 i)) (k:∀i,G g K (m2 i) (e2 i) (L2 i) cf):G g K m e L cf:=by
  have key:∀a w,Rel g m e L a w→∃i,Rel g (m2 i) (e2 i) (L2 i) a w:=fun a w ⟨B,h1,h2,h3⟩=>by
    obtain⟨i,B',k1,k2,k3⟩:=h _ a w h1 h2 h3
    exact⟨i,B++B',by simpa using k1,by simpa using k2,by simpa using k3⟩
  cases cf with
  | n=>exact fun a w hr=>let ⟨i,hi⟩:=key a w hr;k i a w hi
  | c x=>exact fun a w hr=>let ⟨i,hi⟩:=key a w hr;k i a w hi
  | r ops l=>exact fun a w hr=>let ⟨i,hi⟩:=key a w hr;k i a w hi
  | d B1 ops l is Lf Lv =>
    refine fun hD a w ⟨B,h1,h2,h3,h4⟩=>?_
    obtain⟨i,B',k1,k2,k3⟩:=h _ a w h1 h2 h3
    obtain⟨z1,z2⟩:=hz i hD
    exact k i ⟨hD.pre,hD.len,hD.free,z1,z2,hD.okf,hD.ap⟩ a w ⟨B++B',by simpa using k1,by simpa using k2,by simpa using k3,fun w' hw=>by
      have:=(h4 w' hw).app B'
      simpa using this⟩
  | o B1 ops l is Lf Lv ii =>
    refine fun hD a w ⟨B,h1,h2,h3,h4⟩=>?_
    obtain⟨i,B',k1,k2,k3⟩:=h _ a w h1 h2 h3
    obtain⟨z1,z2⟩:=hz i hD
    exact k i ⟨hD.pre,hD.len,hD.free,z1,z2,hD.okf,hD.ap⟩ a w ⟨B++B',by simpa using k1,by simpa using k2,by simpa using k3,fun w' hw=>by
      have:=(h4 w' hw).app B'
      simpa using this⟩
theorem zI{α β:Type}[aI α]{x y:Operand}{t el sz:Nat}{i:Int}{zv:Value}{b1:Bool}{n1:Nat}{z1:List SV}{A:Option β}{q:β}(zd:α)(hinf:PC P el sz zv)(hzd:∀w,aI.own w zv.cells.toList zd F0)(hs:iZ T n K cf m e L=.op o Lv cf1 cf2 K' m' e' L')(ho:(o.op,o.dst)=(.makeSlice t x y,some d))(ht:wZ T t=some ⟨.sl el,b1,n1,z1⟩)(hn:aI.n α=sz)(hzs:zv.cells.size=sz)(hx:(gN e' x).bind pQ=some (.i64,i))(hy:(gN e' y).bind pQ=some (.i64,i))(hF:need (0≤i∧i≤4294967296) A=some q)
    (k:A=some q→∀s':AC,G (.mk P T hT n c B0 N X Q) K' m' ((d,.h s' (List.replicate i.toNat zd).length) :: e') (L' ++ [ow s' (List.replicate i.toNat zd)]) cf2):G (.mk P T hT n c B0 N X Q) K m e L cf:=by
  refine fE (g:=.mk P T hT n c B0 N X Q) ?_
  rw [hs]
  intro hdn _ hE
  refine hE AC (fun _=>m') (fun s'=>(d,.h s' (List.replicate i.toNat zd).length) :: e') (fun s'=>L' ++ [ow s' (List.replicate i.toNat zd)]) (fun _=>uY _) (fun B a w next Q' hm hA hS hnext=>?_) (k (iQ hF).2)
  obtain⟨⟨R,s1,s2⟩,s0⟩:=hS
  have hd:o.dst=some d:=congrArg Prod.snd ho
  obtain⟨v,w',k1,k2⟩:=aJ9 zd s1 hn (CP ht hT) hinf hzs hzd (iQ hF).1 (congrArg Prod.fst ho) (tN hA hx) (tN hA hy)
  have hrd:∃s':AC,v=s'.v (List.replicate i.toNat zd).length:=by
    have h1:=k2.aGY (cs:=[v]) (d:=List.replicate i.toNat zd) (L'.map (iS (PD (.mk P T hT n c B0 N X Q) cf1++B))).length (by simp)
    obtain⟨ad,cp,h2,_⟩:=VJ h1
    exact⟨⟨ad,cp⟩,h2⟩
  obtain⟨s',rfl⟩:=hrd
  unfold Oper.wp
  rw [k1 _ a hA.env,Oper.upon_value,hd]
  refine hnext s' _ _ ⟨[],by simpa using hm,by simpa using hA.of (by simp [eS,gV,bK]) (hA.env.put (by rw [hd] at hdn;simpa [oN,Nat.blt_eq] using hdn) _),⟨⟨R,by simpa [iS] using k2,fun x hx=>?_⟩,fun b o hb=>Nat.lt_of_lt_of_le (s0 b o hb) (Nat.le_refl _)⟩⟩
  rcases List.mem_append.1 hx with hx | hx
  · simpa using s2 x hx
  · simp at hx;subst hx;exact trivial
end
end Go.Gv
end
noncomputable section
set_option linter.unusedVariables false
namespace Go.Gv
def tH.w4:tH→List Nat
  | .d _ _ _ is _ _=>is
  | .o _ _ _ is _ _ _=>is
  | _=>[]
theorem NB{L M:List Ch}{j:Nat}{z:Ch}:∀{is:List Nat},(∀i∈is,i < L.length)→fD j is=true→kl (L.set j z++M) is=kl L is
  | [],_,_=>rfl
  | i :: is, h, hn => by
    have hi:=h i (by simp)
    have h1:=VT hn
    have hne:j≠i:=fun he=>h1 (by simp [he])
    have h2:(L.set j z++M)[i]?=L[i]?:=by rw [List.getElem?_append_left (by simpa using hi),List.getElem?_set_ne hne]
    have h3:fD j is=true:=by
      unfold fD at hn
      split at hn
      · cases hn
      · exact hn
    simp only [kl,h2,NB (fun i hi=>h i (List.mem_cons_of_mem _ hi)) h3]
theorem aHR{L M:List Ch}:∀{is:List Nat},(∀i∈is,i < L.length)→kl (L++M) is=kl L is
  | [],_=>rfl
  | i :: is, h => by
    simp only [kl,List.getElem?_append_left (h i (by simp)),aHR (M:=M) (fun i hi=>h i (List.mem_cons_of_mem _ hi))]
theorem aBM{g:Gx}{cf:tH}{L M:List Ch}{j:Nat}{z:Ch}(hn:fD j cf.w4=true):Frz g cf L (L.set j z++M):=by
  cases cf with
  | d B1 ops l is Lf Lv =>
    exact fun hD=>⟨(NB hD.rng hn).trans hD.w4,fun i hi=>by have:=hD.rng i hi;simp;omega⟩
  | o B1 ops l is Lf Lv i =>
    exact fun hD=>⟨(NB hD.rng hn).trans hD.w4,fun i hi=>by have:=hD.rng i hi;simp;omega⟩
  | _=>trivial
theorem aLS{c:Ctx}{w:World}{A:List Chunk}{R:List Fact}(h:St c w A R):St c w (A ++ [DL]) R:=by
  obtain⟨F,S,h1,rest⟩:=h.sep
  exact⟨h.gG,⟨F,S,Sep.append.2 ⟨F,F0,h1,Sep.one.2 (fun _ _ h=>h),fun _ _ _ h=>h,fun b o=>by simp [F0]⟩,rest⟩,h.apart⟩
structure CO (α:Type) [aI α] where
  ex:Type
  cs:α→ex→List SV
  Lx:α→ex→List Ch
  op:∀{w F ec q},aI.own w ec q F→∃y,aW (bK []) (cs q y)=some ec
  pk:∀{q y ec},aW (bK []) (cs q y)=some ec→OP ec q ((Lx q y).map (iS []))
  no:∀q y,noF (Lx q y)=true
  nb:∀q y B,(Lx q y).map (iS B)=(Lx q y).map (iS [])
noncomputable section
variable {P:Program} {T:TT} {hT:CJ P T} {n:Nat} {c:Ctx} {B0:Bl} {N:Act→World→Prop} {X:Nat→Act→World→Prop} {Q:Act→World→Prop} {K K':List Fr} {m m':Nat} {e e':SE} {L L':List Ch} {cf cf1 cf2:tH} {o:Oper} {Lv:List Ch} {d:Nat}
theorem aT5{g:Gx}{ι:Type}(m2:ι→Nat)(e2:ι→SE)(L2:ι→List Ch)(Ln:ι→List Ch)(h:∀B a w,B.length=m→eU g.n B e a→kZ g.c w B L→∃i B',(B++B').length=m2 i∧eU g.n (B++B') (e2 i) a∧kZ g.c w (B++B') (L2 i)∧∀w' M,kZ g.c w' B M→kZ g.c w' (B++B') (M++Ln i))
    (hz:∀i,Frz g cf L (L2 i)) (k:∀i,G g K (m2 i) (e2 i) (L2 i) (cf.ext (Ln i))):G g K m e L cf:=by
  have key:∀a w,Rel g m e L a w→∃i,Rel g (m2 i) (e2 i) (L2 i) a w:=fun a w ⟨B,h1,h2,h3⟩=>by
    obtain⟨i,B',k1,k2,k3,_⟩:=h _ a w h1 h2 h3
    exact⟨i,B++B',by simpa using k1,by simpa using k2,by simpa using k3⟩
  cases cf with
  | n=>exact fun a w hr=>let ⟨i,hi⟩:=key a w hr;k i a w hi
  | c x=>exact fun a w hr=>let ⟨i,hi⟩:=key a w hr;k i a w hi
  | r ops l=>exact fun a w hr=>let ⟨i,hi⟩:=key a w hr;k i a w hi
  | d B1 ops l is Lf Lv =>
    refine fun hD a w ⟨B,h1,h2,h3,h4⟩=>?_
    obtain⟨i,B',k1,k2,k3,k4⟩:=h _ a w h1 h2 h3
    obtain⟨z1,z2⟩:=hz i hD
    exact k i ⟨hD.pre,hD.len,hD.free,z1,z2,hD.okf,hD.ap⟩ a w ⟨B++B',by simpa using k1,by simpa using k2,by simpa using k3,fun w' hw=>by
      have:=k4 w' _ (h4 w' hw)
      simpa using this⟩
  | o B1 ops l is Lf Lv ii =>
    refine fun hD a w ⟨B,h1,h2,h3,h4⟩=>?_
    obtain⟨i,B',k1,k2,k3,k4⟩:=h _ a w h1 h2 h3
    obtain⟨z1,z2⟩:=hz i hD
    exact k i ⟨hD.pre,hD.len,hD.free,z1,z2,hD.okf,hD.ap⟩ a w ⟨B++B',by simpa using k1,by simpa using k2,by simpa using k3,fun w' hw=>by
      have:=k4 w' _ (h4 w' hw)
      simpa using this⟩
abbrev Shp(s:AC)(len:Nat):Prop:=∃b off m,s.v len=.slice (some ⟨b,off,none⟩) len m∧len≤maxLen
abbrev wOf(α:Type)[aI α](nb:Nat)(s:AC)(len i:Nat):Ch:=.w nb (K7 (s.v len)) (K0 (aI.n α) i (s.v len))
theorem oe{α β:Type}[aI α](E:CO α)(j:Nat){t:TypeId}{s:AC}{i:Int}{ls:List α}{kf:α→Option β}{q:β}(hs:iZ T n K cf m e L=.idx o d t s ls.length i Lv cf1 cf2 K' m' e' L')(hj:L'[j]?=some (ow s ls))(hz:fD j cf1.w4=true)(hF:(idx ls i).bind kf=some q)
    (k:∀x,idx ls i=some x→kf x=some q→∀y:E.ex,Shp s ls.length→G (.mk P T hT n c B0 N X Q) K' (m'+1) e' (L'.set j .no++([.o (tC (s.v ls.length) ls i.toNat),.box m' (E.cs x y),wOf α m' s ls.length i.toNat]++E.Lx x y)) (cf1.ext [wOf α m' s ls.length i.toNat])):G (.mk P T hT n c B0 N X Q) K m e L cf:=by
  refine fE (g:=.mk P T hT n c B0 N X Q) ?_
  rw [hs]
  intro x' y' ho hd hx hy hP
  cases hi:idx ls i with
  | none=>rw [hi] at hF;cases hF
  | some x =>
    rw [hi] at hF
    refine aT5 (fun _=>m'+1) (fun _=>e') (fun y:{y:E.ex // Shp s ls.length}=>L'.set j .no++([.o (tC (s.v ls.length) ls i.toNat),.box m' (E.cs x y.1),wOf α m' s ls.length i.toNat]++E.Lx x y.1)) (fun _=>[wOf α m' s ls.length i.toNat]) (fun B a w hm hA hS=>?_) (fun y=>aBM hz) (fun y=>k x hi hF y.1 y.2)
    obtain⟨⟨R,s1,s2⟩,s0⟩:=hS
    have hj2:(L'.map (iS B))[j]?=some (eV [s.v ls.length] ls):=by simp [hj,iS]
    obtain⟨ec,h1⟩:=s1.open j hj2 (iP hi).2.2
    have hlen:((L'.map (iS B)).set j DL).length=L'.length:=by simp
    have hsh:Shp s ls.length:=aN0 (k:=i.toNat) h1 L'.length (by rw [List.getElem?_append_right (by omega)];simp)
    obtain⟨F,hF'⟩:=h1.chunk (L'.length+2) (by rw [List.getElem?_append_right (by omega)];simp;rfl)
    obtain⟨y,hy2⟩:=E.op (show aI.own w ec x F from hF')
    have h2:=h1.unpack (L'.length+2) (by rw [List.getElem?_append_right (by omega)];simp) (E.pk hy2)
    have hset:((L'.map (iS B)).set j DL ++ [tC (s.v ls.length) ls i.toNat,M4 (K7 (s.v ls.length)) (K0 (aI.n α) i.toNat (s.v ls.length)) ec,eV ec x]).set (L'.length+2) DL=(L'.map (iS B)).set j DL ++ [tC (s.v ls.length) ls i.toNat,M4 (K7 (s.v ls.length)) (K0 (aI.n α) i.toNat (s.v ls.length)) ec,DL]:=by
      rw [List.set_append_right _ _ (by omega)]
      simp
    rw [hset] at h2
    refine⟨⟨y,hsh⟩,[(K7 (s.v ls.length),K0 (aI.n α) i.toNat (s.v ls.length))],by simp [hm],hA.app _,⟨⟨R,?_,fun z hz=>?_⟩,s0⟩,fun w' M hM=>?_⟩
    · have e1:(L'.set j Ch.no).map (iS B)=(L'.map (iS B)).set j DL:=by rw [List.map_set];rfl
      refine h2.imp ?_
      rw [List.map_append,List.map_append,←e1,List.append_assoc]
      refine hC.append (M6 _ _) (hC.append (.cons (fun _ h=>h) (.cons (fun F h=>⟨_,_,ec,by simp [←hm],eF (fun x v h=>by simpa using eZ (B:=[]) _ h) hy2,h⟩) (.cons (fun _ h=>h) .nil))) ?_)
      have:=M6 (B:=[]) (B ++ [(K7 (s.v ls.length),K0 (aI.n α) i.toNat (s.v ls.length))]) (w:=w) (E.Lx x y)
      simpa using this
    · rcases List.mem_append.1 hz with hz | hz
      · rcases List.mem_or_eq_of_mem_set hz with hz | hz
        · exact aA9 _ (s2 z hz)
        · subst hz;trivial
      · rcases List.mem_append.1 hz with hz | hz
        · simp at hz
          rcases hz with rfl | rfl | rfl
          · trivial
          · trivial
          · show(B++_)[m']?=_
            simp [←hm]
        · exact aBL (E.no x y) z hz
    · obtain⟨⟨R',t1,t2⟩,t0⟩:=hM.app [(K7 (s.v ls.length),K0 (aI.n α) i.toNat (s.v ls.length))]
      refine⟨⟨R',by simpa [iS] using aLS t1,fun z hz=>?_⟩,t0⟩
      rcases List.mem_append.1 hz with hz | hz
      · exact t2 z hz
      · simp at hz;subst hz
        show(B++_)[m']?=_
        simp [←hm]
theorem ie{α:Type}[aI α](p:Nat){t el sz:Nat}{s:AC}{i:Int}{ls:List α}{x:α}{nb:Nat}{b1 b2:Bool}{n1:Nat}{z1 z2:List SV}{k2:TK}(hsh:Shp s ls.length)(hs:iZ T n K cf m e L=.idx o d t s ls.length i Lv cf1 cf2 K' m' e' L')(hi:idx ls i=some x)(hw:Lv[p]?=some (wOf α nb s ls.length i.toNat))(ht:wZ T t=some ⟨.sl el,b1,n1,z1⟩)(he:wZ T el=some ⟨k2,b2,sz,z2⟩)(hn:aI.n α=sz)
    (k:G (.mk P T hT n c B0 N X Q) K' m' ((d,.p nb 0) :: e') L' cf2):G (.mk P T hT n c B0 N X Q) K m e L cf:=by
  refine fE (g:=.mk P T hT n c B0 N X Q) ?_
  rw [hs]
  intro x' y' ho hd hx hy hP
  subst hn
  refine hP d (.p nb 0) [] (fun _=>[]) 0 hd (fun _=>rfl) (fun B a w hA hS hm=>?_) (fun B w L _ hS=>by simpa using hS) (by rw [ext_nil];simpa using k)
  obtain⟨v,g1,g2⟩:=dU hA hx
  obtain⟨u,g3,g4⟩:=dU hA hy
  cases g1;cases g3
  obtain⟨⟨R,s1,s2⟩,s0⟩:=hS
  have hB:B[nb]?=some (K7 (s.v ls.length),K0 (aI.n α) i.toNat (s.v ls.length)):=s2 _ (List.mem_of_getElem? hw)
  exact⟨_,by simp [eS,gV,bK,hB],aN1 (P:=P) (o:=o) (w:=w) hsh rfl hi (CP ht hT) (hT.size _ _ he) ho g2 g4⟩
def LF:List Ch→List Nat→List Ch
  | L,[]=>L
  | L,i :: r=>LF (L.set i .no) r
theorem IT{B:Bl}:∀(js:List Nat) (L:List Ch),(LF L js).map (iS B)=blank (L.map (iS B)) js
  | [],L=>rfl
  | j :: js,L=>by simp only [LF,blank];rw [IT js,List.map_set];rfl
theorem PM{x:Ch}:∀(js:List Nat) (L:List Ch),x∈LF L js→x∈L∨x=.no
  | [],L,h=>.inl h
  | j :: js, L, h => by
    rcases PM js _ h with h | h
    · exact List.mem_or_eq_of_mem_set h
    · exact .inr h
theorem U1{g:Gx}{cf:tH}{M:List Ch}:∀(js:List Nat) {L:List Ch},(js.all fun j=>fD j cf.w4)=true→Frz g cf L (LF L js++M):=by
  intro js L hj
  have main:∀{B1:Bl} {ops:Array Oper} {l:List Bool} {is:List Nat} {Lf:List Ch},(js.all fun j=>fD j is)=true→RD g B1 ops l is Lf L→kl (LF L js++M) is=Lf∧∀j∈is,j < (LF L js++M).length:=by
    intro B1 ops l is Lf hj hD
    have key:∀(js:List Nat) (L:List Ch),(js.all fun j=>fD j is)=true→(∀i∈is,i < L.length)→kl (LF L js++M) is=kl L is∧(LF L js).length=L.length:=by
      intro js
      induction js with
      | nil =>
        intro L _ hr
        exact⟨aHR hr,rfl⟩
      | cons j js ih =>
        intro L hj hr
        simp only [List.all_cons,Bool.and_eq_true] at hj
        obtain⟨h1,h2⟩:=ih (L.set j .no) hj.2 (fun i hi=>by simpa using hr i hi)
        refine⟨h1.trans ?_,by simpa [LF] using h2⟩
        have:=NB (M:=[]) (z:=.no) hr hj.1
        simpa using this
    obtain⟨k1,k2⟩:=key js L hj hD.rng
    exact⟨k1.trans hD.w4,fun i hi=>by have:=hD.rng i hi;simp [k2];omega⟩
  cases cf with
  | d B1 ops l is Lf Lv=>exact fun hD=>main hj hD
  | o B1 ops l is Lf Lv i=>exact fun hD=>main hj hD
  | _=>trivial
def ovh(v:SV)(e:SE):List Nat→SE
  | []=>e
  | k :: ks=>(k,v) :: ovh v e ks
theorem aBN{v:SV}{B:Bl}{a:Act}:∀(ks:List Nat),aW (zL e) ks=some (ks.map fun _=>v)→eU n B e a→eU n B (ovh v e ks) a:=by
  intro ks
  have key:∀(ks:List Nat),aW (zL e) ks=some (ks.map fun _=>v)→∀k∈ks,zL e k=some v:=by
    intro ks
    induction ks with
    | nil=>intro _ k hk;cases hk
    | cons s ks ih =>
      intro hs
      simp only [aW,List.map_cons] at hs
      split at hs
      · cases hs
      · rename_i h1
        split at hs
        · cases hs
        · rename_i h2
          cases hs
          intro k hk
          rcases List.mem_cons.1 hk with hk | hk
          · subst hk;exact h1
          · exact ih h2 k hk
  intro hs hA
  have hk:=key ks hs
  clear hs key
  have lk2:∀k x,zL (ovh v e ks) k=some x→zL e k=some x:=by
    induction ks with
    | nil=>exact fun k x h=>h
    | cons j ks ih =>
      intro k x h
      simp only [ovh,zL] at h
      split at h
      · rename_i hb
        have:=Nat.eq_of_beq_eq_true hb
        subst this
        cases h
        exact hk k (by simp)
      · exact ih (fun k hk'=>hk k (List.mem_cons_of_mem _ hk')) k x h
  exact⟨hA.d,hA.size,fun k x h=>hA.get k x (lk2 k x h)⟩
theorem U2{B:Bl}:∀{is:List Nat} {M:List Ch},aW (fun i=>L[i]?) is=some M→pick (L.map (iS B)) is=M.map (iS B)
  | [],M,h=>by cases h;rfl
  | i :: is, M, h => by
    simp only [aW] at h
    split at h
    · cases h
    · rename_i h1
      split at h
      · cases h
      · rename_i h2
        cases h
        simp only [pick,List.getElem?_map,h1,Option.map_some,Option.getD_some,U2 h2,List.map_cons]
theorem aLT{α:Type}[aI α](E:CO α)(h b v:Nat)(is ks:List Nat){s:AC}{l:List α}{k nb:Nat}(x:α)(y:E.ex){cs0:List SV}{ec:List Value}(hs:L[h]?=some (.o (tC (s.v l.length) l k)))(hb:L[b]?=some (.box nb cs0))(hv:L[v]?=some (wOf α nb s l.length k))(hi:aW (fun i=>L[i]?) is=some (E.Lx x y))(hc:nbL cs0=E.cs x y)(hec:aW (bK []) (E.cs x y)=some ec)(ha:cZ (h :: b :: is)=true)(hk:aW (zL e) ks=some (ks.map fun _=>.h s l.length)){B:Bl}{a:Act}{w:World}(hA:eU n B e a)(hS:kZ c w B L) :
    eU n B (ovh (.h s (l.set k x).length) e ks) a∧kZ c w B (LF L (h :: b :: is) ++ [ow s (l.set k x)]):=by
  have hlen:(l.set k x).length=l.length:=List.length_set
  unfold ow
  rw [hlen]
  refine⟨aBN ks hk hA,?_⟩
  obtain⟨⟨R,s1,s2⟩,s0⟩:=hS
  have hB:B[nb]?=some (K7 (s.v l.length),K0 (aI.n α) k (s.v l.length)):=s2 _ (List.mem_of_getElem? hv)
  refine⟨⟨R,?_,fun z hz=>?_⟩,s0⟩
  · rw [List.map_append,IT]
    refine s1.shift (h :: b :: is) ha fun F hF=>?_
    simp only [pick,List.getElem?_map,hs,hb,Option.map_some,Option.getD_some,U2 hi,E.nb] at hF
    have hE:aW (bK B) cs0=some ec:=by rw [←IS,hc];exact eF (fun x v h=>by simpa using eZ (B:=[]) B h) hec
    have h2:Sep w ([tC (s.v l.length) l k,M4 (K7 (s.v l.length)) (K0 (aI.n α) k (s.v l.length)) ec]++(E.Lx x y).map (iS [])) F:=by
      refine Sep.imp (.cons (fun _ h=>h) (.cons (fun F h=>?_) (hC.refl _))) hF
      obtain⟨bb,z,vs,k1,k2,k3⟩:=h
      rw [hB] at k1;cases k1
      rw [hE] at k2;cases k2
      exact k3
    obtain⟨F1,F2,g1,g2,gd,gF⟩:=Sep.append.1 h2
    have h3:Sep w ([tC (s.v l.length) l k,M4 (K7 (s.v l.length)) (K0 (aI.n α) k (s.v l.length)) ec] ++ [eV ec x]) F:=Sep.append.2 ⟨F1,F2,g1,Sep.one.2 ((E.pk hec w F2).2 g2),gd,gF⟩
    exact Sep.one.2 (Z4 h3)
  · rcases List.mem_append.1 hz with hz | hz
    · rcases PM _ _ hz with hz | hz
      · exact s2 z hz
      · subst hz;trivial
    · simp at hz;subst hz;trivial
theorem ce{α:Type}[aI α](E:CO α)(h b v:Nat)(is ks:List Nat){s:AC}{l:List α}{k nb:Nat}(x:α)(y:E.ex){cs0:List SV}{ec:List Value}(hs:L[h]?=some (.o (tC (s.v l.length) l k)))(hb:L[b]?=some (.box nb cs0))(hv:L[v]?=some (wOf α nb s l.length k))(hi:aW (fun i=>L[i]?) is=some (E.Lx x y))(hc:nbL cs0=E.cs x y)(hec:aW (bK []) (E.cs x y)=some ec)(ha:cZ (h :: b :: is)=true)(hz:((h :: b :: is).all fun j=>fD j cf.w4)=true)(hk:aW (zL e) ks=some (ks.map fun _=>.h s l.length))
    (kk:G (.mk P T hT n c B0 N X Q) K m (ovh (.h s (l.set k x).length) e ks) (LF L (h :: b :: is) ++ [ow s (l.set k x)]) cf):G (.mk P T hT n c B0 N X Q) K m e L cf:=by
  refine chg (fun _:Unit=>m) (fun _=>ovh (.h s (l.set k x).length) e ks) (fun _=>LF L (h :: b :: is) ++ [ow s (l.set k x)]) (fun B a w hm hA hS=>?_) (fun _=>U1 _ hz) (fun _=>kk)
  obtain⟨h1,h2⟩:=aLT E h b v is ks x y hs hb hv hi hc hec ha hk hA hS
  exact⟨(),[],by simpa using hm,by simpa using h1,by simpa using h2⟩
end
end Go.Gv
end
noncomputable section
set_option linter.unusedVariables false
namespace Go.Gv
noncomputable section
variable {P:Program} {T:TT} {hT:CJ P T} {n:Nat} {c:Ctx} {B0:Bl} {N:Act→World→Prop} {X:Nat→Act→World→Prop} {Q:Act→World→Prop} {K K':List Fr} {m m':Nat} {e e':SE} {L L':List Ch} {cf cf':tH}
theorem ceS{α:Type}[aI α](E:CO α)(h:Nat)(is ks:List Nat){s:AC}{l:List α}{k nb:Nat}(x:α)(y:E.ex){cs0:List SV}{ec:List Value}(h0:OO (iZ T n K cf m e L)=some (K',cf',m',e',L'))(hs:L'[h]?=some (.o (tC (s.v l.length) l k)))(hb:L'[h+1]?=some (.box nb cs0))(hv:L'[h+2]?=some (wOf α nb s l.length k))(hi:aW (fun i=>L'[i]?) is=some (E.Lx x y))(hc:nbL cs0=E.cs x y)(hec:aW (bK []) (E.cs x y)=some ec)(ha:cZ (h :: (h+1) :: is)=true)(hz:((h :: (h+1) :: is).all fun j=>fD j cf'.w4)=true)(hk:aW (zL e') ks=some (ks.map fun _=>.h s l.length))
    (kk:G (.mk P T hT n c B0 N X Q) K' m' (ovh (.h s (l.set k x).length) e' ks) (LF L' (h :: (h+1) :: is) ++ [ow s (l.set k x)]) cf'):G (.mk P T hT n c B0 N X Q) K m e L cf:=
  fE (g:=.mk P T hT n c B0 N X Q) (UX h0 (ce E h (h+1) (h+2) is ks x y hs hb hv hi hc hec ha hz hk kk))
theorem sF(hs:iZ T n K cf m e L=.fin m' e' L')(h:∀a w,nN n c B0 m' e' L' a w→N a w):G (.mk P T hT n c B0 N X Q) K m e L cf:=
  fE (g:=.mk P T hT n c B0 N X Q) (by rw [hs];exact h)
theorem sX{id:Nat}(hs:iZ T n K cf m e L=.ex id m' e' L')(h:∀a w,nN n c B0 m' e' L' a w→X id a w):G (.mk P T hT n c B0 N X Q) K m e L cf:=
  fE (g:=.mk P T hT n c B0 N X Q) (by rw [hs];exact h)
theorem sR(hs:iZ T n K cf m e L=.ret m' e' L')(h:∀a w,nN n c B0 m' e' L' a w→Q a w):G (.mk P T hT n c B0 N X Q) K m e L cf:=
  fE (g:=.mk P T hT n c B0 N X Q) (by rw [hs];exact h)
theorem nxR{σ ρ υ:Type}{o:Step σ ρ}{mj:Nat}{el:σ→υ→SE}{Ll:σ→υ→List Ch}{s:σ}(u:υ)(is:List Nat)(hG:some (Step.next s)=some o)(h:NQ B0.length m' e' L' is mj (el s u) (Ll s u)=some (el s u,Ll s u)):∀a w,nN n c B0 m' e' L' a w→NxP n c B0 o mj el Ll a w:=by
  cases hG
  exact fun a w hr=>⟨s,u,rfl,hr.NQ is h⟩
theorem rW{π υ:Type}{eq:π→Prop}{mj:Nat}{ej:π→υ→SE}{Lj:π→υ→List Ch}{p:π}(u:υ)(is:List Nat)(hF:eq p)(h:NQ B0.length m' e' L' is mj (ej p u) (Lj p u)=some (ej p u,Lj p u)):∀a w,nN n c B0 m' e' L' a w→JP n c B0 eq mj ej Lj a w:=
  fun a w hr=>⟨p,u,hF,nN.NQ hr is h⟩
theorem bkR{σ ρ β υ:Type}{o:Step σ ρ}{ro:ρ}{enc:β→ρ}{mj id:Nat}{ej:β→υ→SE}{Lj:β→υ→List Ch}{b:β}(u:υ)(is:List Nat)(hG:some (Step.stop (enc b))=some o)(hr:∀p,o=.stop p→p=ro)(h:NQ B0.length m' e' L' is mj (ej b u) (Lj b u)=some (ej b u,Lj b u)):∀a w,nN n c B0 m' e' L' a w→BkP n c B0 ro enc mj ej Lj id X id a w:=by
  cases hG
  have:=hr _ rfl
  subst this
  intro a w hr
  unfold BkP
  rw [if_pos rfl]
  exact⟨b,u,rfl,hr.NQ is h⟩
include hT in
theorem qD{fn:Func}{ρ ex:Type}{sv:ρ→ex→SV}{Lf:ρ→ex→List Ch}{r r':ρ}{rs:List ResultVar}{zz:Option ρ}(y:ex)(is:List Nat)(hF:zz=some r)(hz:zz=some r')(hr:fn.results=rs.toArray){x:SV}(hv:aA8 T e' L' rs=some x)(hx:nbS x=sv r' y)(hk:CI B0.length (sv r' y)=true)(hL:NQ B0.length m' e' L' is B0.length [] (Lf r' y)=some ([],Lf r' y)):∀a w,nN n c B0 m' e' L' a w→QS P fn c B0 sv Lf r a w:=by
  subst hz;cases hF
  intro a w hr'
  obtain⟨B,hm,hA,hS⟩:=id hr'
  obtain⟨v,h1,h2⟩:=UZ hr hT hA hS hv
  obtain⟨B',hm',_,hS'⟩:=hr'.NQ is hL
  have hB':B'=[]:=(by simpa using hm')
  subst hB'
  refine⟨hA.d,v,h2,y,?_,by simpa using hS'⟩
  rw [←hx] at hk ⊢
  have:=IQ hk (by rw [UU];exact h1)
  rw [List.take_append_of_le_length (Nat.le_refl _),List.take_length] at this
  exact this
theorem pI{Z:Act→World→Prop}{α:Type}[aI α](E:CO α)(h:Nat)(is ks:List Nat){s:AC}{l:List α}{k nb:Nat}(x:α)(y:E.ex){cs0:List SV}{ec:List Value}(hs:L[h]?=some (.o (tC (s.v l.length) l k)))(hb:L[h+1]?=some (.box nb cs0))(hv:L[h+2]?=some (wOf α nb s l.length k))(hi:aW (fun i=>L[i]?) is=some (E.Lx x y))(hc:nbL cs0=E.cs x y)(hec:aW (bK []) (E.cs x y)=some ec)(ha:cZ (h :: (h+1) :: is)=true)(hk:aW (zL e) ks=some (ks.map fun _=>.h s l.length))
    (kk:∀a w,nN n c B0 m (ovh (.h s (l.set k x).length) e ks) (LF L (h :: (h+1) :: is) ++ [ow s (l.set k x)]) a w→Z a w):∀a w,nN n c B0 m e L a w→Z a w:=by
  intro a w ⟨B,hm,hA,hS⟩
  obtain⟨h1,h2⟩:=aLT E h (h+1) (h+2) is ks x y hs hb hv hi hc hec ha hk hA hS
  exact kk a w ⟨B,hm,h1,h2⟩
end
def wAt(n:Nat):List Ch→Option (Nat×Nat)
  | []=>none
  | .w k b z :: L => match Nat.beq n k with
    | true=>some (b,z)
    | false=>wAt n L
  | _ :: L=>wAt n L
theorem IU{n b z:Nat}:∀{L:List Ch},wAt n L=some (b,z)→Ch.w n b z∈L
  | [],h=>by cases h
  | x :: L, h => by
    cases x with
    | w k b' z' =>
      simp only [wAt] at h
      split at h
      · rename_i hb
        have:=Nat.eq_of_beq_eq_true hb
        subst this
        cases h;simp
      · exact List.mem_cons_of_mem _ (IU h)
    | box k cs=>exact List.mem_cons_of_mem _ (IU (L:=L) h)
    | ro k cs=>exact List.mem_cons_of_mem _ (IU (L:=L) h)
    | o ch=>exact List.mem_cons_of_mem _ (IU (L:=L) h)
    | f g=>exact List.mem_cons_of_mem _ (IU (L:=L) h)
    | no=>exact List.mem_cons_of_mem _ (IU (L:=L) h)
noncomputable section
variable {P:Program} {T:TT} {hT:CJ P T} {n:Nat} {c:Ctx} {B0:Bl} {N:Act→World→Prop} {X:Nat→Act→World→Prop} {Q:Act→World→Prop} {K K':List Fr} {m m':Nat} {e e':SE} {L L' Lv:List Ch} {cf cf1 cf2:tH} {o:Oper} {d:Nat}
theorem nP{α:Type}[aI α](nb:Nat){t el sz:Nat}{s:AC}{i:Int}{ls:List α}{x:α}{b1 b2:Bool}{n1:Nat}{z1 z2:List SV}{k2:TK}(hsh:Shp s ls.length)(hi:idx ls i=some x)(hs:iZ T n K cf m e L=.idx o d t s ls.length i Lv cf1 cf2 K' m' e' L')(hw:wAt nb Lv=some (K7 (s.v ls.length),K0 (aI.n α) i.toNat (s.v ls.length)))(ht:wZ T t=some ⟨.sl el,b1,n1,z1⟩)(he:wZ T el=some ⟨k2,b2,sz,z2⟩)(hn:aI.n α=sz)
    (k:G (.mk P T hT n c B0 N X Q) K' m' ((d,.p nb 0) :: e') L' cf2):G (.mk P T hT n c B0 N X Q) K m e L cf:=by
  obtain⟨p,hp⟩:=List.mem_iff_getElem?.1 (IU hw)
  exact ie p hsh hs hi hp ht he hn k
end
def G9.o{α:Type}[aI α](C:G9 α)(Lx:α→C.ex→List Ch)(pk:∀{q y ec},aW (bK []) (C.cs q y)=some ec→OP ec q ((Lx q y).map (iS [])))(no:∀q y,noF (Lx q y)=true)(nb:∀q y B,(Lx q y).map (iS B)=(Lx q y).map (iS [])):CO α:=
  ⟨C.ex,C.cs,Lx,fun h=>let ⟨y,h1,_⟩:=C.ok (aI.own_rd h);⟨y,h1⟩,pk,no,nb⟩
def oI:CO Int:=cI.o (fun _ _=>[]) (fun h=>by cases h;exact fB rfl) (fun _ _=>rfl) (fun _ _ _=>rfl)
def oU:CO UInt8:=cU.o (fun _ _=>[]) (fun h=>by cases h;exact fB rfl) (fun _ _=>rfl) (fun _ _ _=>rfl)
theorem kH{α:Type}[aI α][Flat α]{cs:List Value}{d:α}(h:aI.rd F0 default cs d)(w:World):aI.own w cs d F0:=Flat.own_of h
end Go.Gv
end
noncomputable section
set_option linter.unusedVariables false
namespace Go.Gv
noncomputable section
variable {P:Program} {T:TT} {hT:CJ P T} {n:Nat} {c:Ctx} {B0:Bl} {N:Act→World→Prop} {X:Nat→Act→World→Prop} {Q:Act→World→Prop} {K K':List Fr} {m m':Nat} {e e':SE} {L L':List Ch} {cf:tH}
variable {b:Bool} {α:Type} {A B':Option α} {q:Option α}
theorem csK{o:Operand}{x y:Code}(ss:List Nat)(hs:iZ T n K cf m e L=.cond o b x y K' m' e' L')(ho:aW (zL e') ss=some (ss.map fun _=>SV.b b))(hF:(if b=true then A else B')=q)
    (k1:b=true→A=q→G (.mk P T hT n c B0 N X Q) K' m' (YM true e' ss) L' (.c x)) (k2:b=false→B'=q→G (.mk P T hT n c B0 N X Q) K' m' (YM false e' ss) L' (.c y)):G (.mk P T hT n c B0 N X Q) K m e L cf:=
  fE (g := .mk P T hT n c B0 N X Q) (by
    rw [hs]
    intro he a w hr
    have ⟨B,hm,hA,hS⟩:=hr
    obtain⟨v,h1,h2⟩:=dU hA he
    cases h1
    refine jT hA.env h2 (fun hc=>?_) (fun hc=>?_)
    · rw [if_pos hc] at hF
      exact k1 hc hF a w (UY hc ss ho hr)
    · rw [if_neg (by rw [hc];simp)] at hF
      exact k2 hc hF a w (UY hc ss ho hr))
theorem caK{cf':tH}(ss:List Nat)(hs:iZ T n K cf m e L=.case b cf' K' m' e' L')(ho:aW (zL e') ss=some (ss.map fun _=>SV.b b))(hF:(if b=true then A else B')=q)
    (k1:b=true→A=q→G (.mk P T hT n c B0 N X Q) K' m' (YM true e' ss) L' cf') (k2:b=false→B'=q→G (.mk P T hT n c B0 N X Q) K' m' (YM false e' ss) L' cf'):G (.mk P T hT n c B0 N X Q) K m e L cf:=
  fE (g:=.mk P T hT n c B0 N X Q) (by
    rw [hs]
    cases b with
    | true=>exact VU (fun a B hA=>NA rfl ss ho hA) (k1 rfl (by simpa using hF))
    | false=>exact VU (fun a B hA=>NA rfl ss ho hA) (k2 rfl (by simpa using hF)))
end
end Go.Gv
end
noncomputable section
set_option linter.unusedVariables false
namespace Go.Gv
noncomputable section
variable {P:Program} {T:TT} {hT:CJ P T} {n:Nat} {c:Ctx} {B0:Bl} {N:Act→World→Prop} {X:Nat→Act→World→Prop} {Q:Act→World→Prop} {K K':List Fr} {m m':Nat} {e e':SE} {L L' Lv:List Ch} {cf cf1 cf2:tH} {o:Oper} {d:Nat}
theorem aIQ{α:Type}[aI α]{l:List α}(L2:AC→List Ch)(hs:iZ T n K cf m e L=.op o Lv cf1 cf2 K' m' e' L')(hd:o.dst=some d)(hz:∀s',Frz (.mk P T hT n c B0 N X Q) cf1 L' (L2 s'))(h:∀B a w,eU n B e' a→kZ c w B L'→∃s' w',dJ P o (vE B e') w (AC.v s' l.length) w'∧kZ c w' B (L2 s'))
    (k:∀s':AC,G (.mk P T hT n c B0 N X Q) K' m' ((d,.h s' l.length) :: e') (L2 s') cf2):G (.mk P T hT n c B0 N X Q) K m e L cf:=by
  refine fE (g:=.mk P T hT n c B0 N X Q) ?_
  rw [hs]
  intro hdn _ hE
  refine hE AC (fun _=>m') (fun s'=>(d,.h s' l.length) :: e') L2 hz (fun B a w next Q' hm hA hS hnext=>?_) k
  obtain⟨s',w',k1,k2⟩:=h _ a w hA hS
  unfold Oper.wp
  rw [k1 _ a hA.env,Oper.upon_value,hd]
  exact hnext s' _ _ ⟨[],by simpa using hm,by simpa using hA.of (by simp [eS,gV,bK]) (hA.env.put (by rw [hd] at hdn;simpa [oN,Nat.blt_eq] using hdn) _),by simpa using k2⟩
theorem RG{α:Type}[aI α]{w:World}{A:List Chunk}{R:List Fact}{v:Value}{l:List α}(h:St c w A R)(i:Nat)(hi:A[i]?=some (eV [v] l)):∃s':AC,v=s'.v l.length:=by
  obtain⟨ad,cp,h2,_⟩:=VJ (h.aGY i hi)
  exact⟨⟨ad,cp⟩,h2⟩
noncomputable section
variable {x y:Operand} {t el sz:Nat} {zv:Value} {b1:Bool} {n1:Nat} {z1:List SV}
theorem YN{α:Type}[aI α](hinf:PC P el sz zv)(hs:iZ T n K cf m e L=.op o Lv cf1 cf2 K' m' e' L')(ho:(o.op,o.dst)=(.buildSlice t 0 #[],some d))(ht:wZ T t=some ⟨.sl el,b1,n1,z1⟩)(hn:aI.n α=sz)
    (k:∀s':AC,G (.mk P T hT n c B0 N X Q) K' m' ((d,.h s' ([]:List α).length) :: e') (L' ++ [ow s' ([]:List α)]) cf2):G (.mk P T hT n c B0 N X Q) K m e L cf:=by
  refine aIQ (l:=([]:List α)) (fun s'=>L' ++ [ow s' ([]:List α)]) hs (congrArg Prod.snd ho) (fun _=>uY _) (fun B a w hA hS=>?_) k
  obtain⟨⟨R,s1,s2⟩,s0⟩:=hS
  obtain⟨v,w',k1,k2⟩:=aN4 (α:=α) (e:=vE B e') (o:=o) s1 hn (CP ht hT) hinf (congrArg Prod.fst ho)
  obtain⟨s',rfl⟩:=RG (v:=v) (l:=([]:List α)) k2 (L'.map (iS B)).length (by simp)
  refine⟨s',w',k1,⟨⟨R,by simpa [iS] using k2,fun z hz=>?_⟩,s0⟩⟩
  rcases List.mem_append.1 hz with hz | hz
  · exact s2 z hz
  · simp at hz;subst hz;trivial
theorem DX{g:Gx}{cf:tH}{L:List Ch}{j:Nat}{z:Ch}(hn:fD j cf.w4=true):Frz g cf L (L.set j z):=by
  have:=aBM (g:=g) (M:=[]) (z:=z) (L:=L) hn
  simpa using this
theorem ap{α β:Type}[aI α][Flat α]{A:Option β}{q:β}{s s2:AC}{l xs:List α}(i:Nat)(hinf:PC P el sz zv)(hs:iZ T n K cf m e L=.op o Lv cf1 cf2 K' m' e' L')(ho:(o.op,o.dst)=(.call {callee:=.builtin .append,args:=#[x,y],argTypes:=#[t,t]},some d))(ht:wZ T t=some ⟨.sl el,b1,n1,z1⟩)(hn:aI.n α=sz)(hzs:zv.cells.size=sz)(hi:L'[i]?=some (ow s l))(hz:fD i cf1.w4=true)(hsrc:∀{w},HS c w L'→bS (cD w) s2 xs)(hx:gN e' x=some (.h s l.length))(hy:gN e' y=some (.h s2 xs.length))(hF:need (l.length+xs.length≤1073741824) A=some q)
    (k:A=some q→∀s':AC,G (.mk P T hT n c B0 N X Q) K' m' ((d,.h s' (l++xs).length) :: e') (L'.set i (ow s' (l++xs))) cf2):G (.mk P T hT n c B0 N X Q) K m e L cf:=by
  refine aIQ (l:=l++xs) (fun s'=>L'.set i (ow s' (l++xs))) hs (congrArg Prod.snd ho) (fun _=>DX hz) (fun B a w hA hS=>?_) (k (iQ hF).2)
  have hr:bS (cD w) s2 xs:=hsrc ⟨_,hS⟩
  obtain⟨⟨R,s1,s2'⟩,s0⟩:=hS
  have hj2:(L'.map (iS B))[i]?=some (eV [s.v l.length] l):=by simp [hi,iS]
  obtain⟨v,w',k1,k2⟩:=Z2 i s1 hj2 hr hn (CP ht hT) hinf hzs (iQ hF).1 (congrArg Prod.fst ho) (VX hA hx) (VX hA hy)
  have hlt:i < L'.length:=(List.getElem?_eq_some_iff.1 hi).1
  obtain⟨s',rfl⟩:=RG k2 i (by rw [List.getElem?_set_self (by simpa using hlt)])
  refine⟨s',w',k1,⟨⟨R,?_,fun z hz=>?_⟩,s0⟩⟩
  · rw [List.map_set];exact k2
  · rcases List.mem_or_eq_of_mem_set hz with hz | hz
    · exact s2' z hz
    · subst hz;trivial
end
end
end Go.Gv
end
noncomputable section
set_option linter.unusedVariables false
namespace Go.Gv
theorem aDN{α:Type}{l:List α}{i:Int}{x:α}(h:idx l i=some x):l.set i.toNat x=l:=by
  obtain⟨hk,h2⟩:=List.getElem?_eq_some_iff.1 (iP h).2.2
  rw [←h2];simp
noncomputable section
variable {P:Program} {T:TT} {hT:CJ P T} {n:Nat} {c:Ctx} {B0:Bl} {N:Act→World→Prop} {X:Nat→Act→World→Prop} {Q:Act→World→Prop} {K K':List Fr} {m m':Nat} {e e':SE} {L L' Lv:List Ch} {cf cf' cf1 cf2:tH} {o:Oper} {d:Nat}
theorem PN{α:Type}[aI α](E:CO α)(h:Nat)(is:List Nat){s:AC}{l:List α}{i:Int}{nb:Nat}{x:α}(hx:idx l i=some x)(y:E.ex){cs0:List SV}{ec:List Value}(h0:OO (iZ T n K cf m e L)=some (K',cf',m',e',L'))(hs:L'[h]?=some (.o (tC (s.v l.length) l i.toNat)))(hb:L'[h+1]?=some (.box nb cs0))(hv:L'[h+2]?=some (wOf α nb s l.length i.toNat))(hi:aW (fun i=>L'[i]?) is=some (E.Lx x y))(hc:nbL cs0=E.cs x y)(hec:aW (bK []) (E.cs x y)=some ec)(ha:cZ (h :: (h+1) :: is)=true)(hz:((h :: (h+1) :: is).all fun j=>fD j cf'.w4)=true)
    (kk:G (.mk P T hT n c B0 N X Q) K' m' e' (LF L' (h :: (h+1) :: is) ++ [ow s l]) cf'):G (.mk P T hT n c B0 N X Q) K m e L cf:=
  ceS E h is [] x y h0 hs hb hv hi hc hec ha hz rfl (by rw [aDN hx];exact kk)
theorem oO{Z:Act→World→Prop}{α:Type}[aI α](E:CO α)(h:Nat)(is:List Nat){s:AC}{l:List α}{i:Int}{nb:Nat}{x:α}(hx:idx l i=some x)(y:E.ex){cs0:List SV}{ec:List Value}(hs:L[h]?=some (.o (tC (s.v l.length) l i.toNat)))(hb:L[h+1]?=some (.box nb cs0))(hv:L[h+2]?=some (wOf α nb s l.length i.toNat))(hi:aW (fun i=>L[i]?) is=some (E.Lx x y))(hc:nbL cs0=E.cs x y)(hec:aW (bK []) (E.cs x y)=some ec)(ha:cZ (h :: (h+1) :: is)=true)
    (kk:∀a w,nN n c B0 m e (LF L (h :: (h+1) :: is) ++ [ow s l]) a w→Z a w):∀a w,nN n c B0 m e L a w→Z a w:=
  pI E h is [] x y hs hb hv hi hc hec ha rfl (by rw [aDN hx];exact kk)
noncomputable section
variable {x:Operand} {t el:Nat} {zv:Value} {b1:Bool} {n1:Nat} {z1:List SV}
theorem lt1{k:IntKind}{i:Int}(hk:k=.i64)(hinf:PC P el 1 zv)(hs:iZ T n K cf m e L=.op o Lv cf1 cf2 K' m' e' L')(ho:(o.op,o.dst)=(.buildSlice t 1 #[(0,x)],some d))(ht:wZ T t=some ⟨.sl el,b1,n1,z1⟩)(hx:(gN e' x).bind pQ=some (k,i))
    (kk:∀s':AC,G (.mk P T hT n c B0 N X Q) K' m' ((d,.h s' [i].length) :: e') (L' ++ [ow s' [i]]) cf2):G (.mk P T hT n c B0 N X Q) K m e L cf:=by
  subst hk
  refine aIQ (l:=[i]) (fun s'=>L' ++ [ow s' [i]]) hs (congrArg Prod.snd ho) (fun _=>uY _) (fun B a w hA hS=>?_) kk
  obtain⟨⟨R,s1,s2⟩,s0⟩:=hS
  obtain⟨v,w',k1,k2⟩:=aN5 (α:=Int) (e:=vE B e') (o:=o) i s1 rfl (CP ht hT) hinf (c0:=.int .i64 i) rfl (congrArg Prod.fst ho) (tN hA hx) rfl
  obtain⟨s',rfl⟩:=RG (v:=v) (l:=[i]) k2 (L'.map (iS B)).length (by simp)
  refine⟨s',w',k1,⟨⟨R,by simpa [iS] using k2,fun z hz=>?_⟩,s0⟩⟩
  rcases List.mem_append.1 hz with hz | hz
  · exact s2 z hz
  · simp at hz;subst hz;trivial
end
end
end Go.Gv
end
noncomputable section
set_option linter.unusedVariables false
namespace Go.Gv
theorem bS.sub{c:Ctx}{α:Type}[aI α]{s s':AC}{l:List α}{a b:Nat}(h:bS c s l)(hp:fM (aI.n α) a b (s.v l.length)=s'.v ((l.take b).drop a).length)(hb:a≤b∧b≤l.length):bS c s' ((l.take b).drop a):=by
  have:=aFG (n:=aI.n α) rfl h hb.1 hb.2
  rw [hp] at this
  exact this
noncomputable section
variable {P:Program} {T:TT} {hT:CJ P T} {n:Nat} {c:Ctx} {B0:Bl} {N:Act→World→Prop} {X:Nat→Act→World→Prop} {Q:Act→World→Prop} {K K':List Fr} {m m':Nat} {e e':SE} {L L' Lv:List Ch} {cf cf1 cf2:tH} {o:Oper} {d:Nat}
variable {x y z:Operand} {t el sz:Nat} {k k2:IntKind} {i j:Int} {α β:Type} [aI α] {A:Option β} {q:β} {s:AC} {l:List α} {b1 b2:Bool} {n1:Nat} {z1 z2:List SV} {kt:TK}
end
end Go.Gv
end
noncomputable section
set_option linter.unusedVariables false
namespace Go.Gv
theorem Sep.perm{w:World}{A B:List Chunk}(h:A.Perm B):∀{F:cB},Sep w A F→Sep w B F:=by
  induction h with
  | nil=>exact fun h=>h
  | cons a _ ih=>exact fun⟨F1,F2,h1,h2,hd,hF⟩=>⟨F1,F2,h1,ih h2,hd,hF⟩
  | swap a b L =>
    intro F h
    have h:Sep w (([b] ++ [a])++L) F:=h
    obtain⟨F1,F2,h1,h2,hd,hF⟩:=Sep.append.1 h
    exact(Sep.append (A:=[a] ++ [b])).2 ⟨F1,F2,h1.swap,h2,hd,hF⟩
  | trans _ _ i1 i2=>exact fun h=>i2 (i1 h)
theorem St.via{c:Ctx}{w:World}{A B:List Chunk}{R:List Fact}(h:St c w A R)(hs:∀F,Sep w A F→Sep w B F):St c w B R:=by
  obtain⟨F,S,hsep,rest⟩:=h.sep
  exact⟨h.gG,⟨F,S,hs F hsep,rest⟩,h.apart⟩
structure PV where
  b:Nat
  z:Nat
  A:List Value
  V:List Value
  C:List Value
def PV.whole(p:PV):Chunk:=M4 p.b p.z (p.A++(p.V++p.C))
def PV.mid(p:PV):Chunk:=M4 p.b (p.z+p.A.length) p.V
def PV.rest(p:PV):List Chunk:=[M4 p.b p.z p.A,M4 p.b (p.z+p.A.length+p.V.length) p.C]
theorem aP0{α:Type}{a v c:α}{M R:List α}:(a :: v :: c :: (M++R)).Perm (v :: (M++(a :: c :: R))):=by
  refine(List.Perm.swap v a _).trans (List.Perm.cons v ?_)
  exact((List.perm_middle (a:=c)).symm.cons a).trans (List.perm_middle (a:=a)).symm
theorem aSY{w:World}:∀{ps:List PV} {F:cB},Sep w (ps.map PV.whole) F→Sep w (ps.map PV.mid++ps.flatMap PV.rest) F
  | [],F,h=>h
  | p :: ps, F, h => by
    obtain⟨F1,F2,h1,h2,hd,hF⟩:=h
    exact Sep.perm aP0 (Sep.append.2 ⟨F1,F2,aII h1,aSY h2,hd,hF⟩)
theorem aSZ{w:World}:∀{ps:List PV} {F:cB},Sep w (ps.map PV.mid++ps.flatMap PV.rest) F→Sep w (ps.map PV.whole) F
  | [],F,h=>h
  | p :: ps, F, h => by
    have h2:Sep w ([M4 p.b p.z p.A,p.mid,M4 p.b (p.z+p.A.length+p.V.length) p.C]++(ps.map PV.mid++ps.flatMap PV.rest)) F:=Sep.perm (aP0 (M:=ps.map PV.mid) (R:=ps.flatMap PV.rest)).symm h
    obtain⟨F1,F2,h1,h3,hd,hF⟩:=Sep.append.1 h2
    exact⟨F1,F2,aKB h1,aSZ h3,hd,hF⟩
theorem St.aS0{c:Ctx}{w:World}{A M:List Chunk}{R:List Fact}(h:St c w (A++M) R)(s0:∀b o,c.S0 b o→b < c.w0.heap.size) :
    ∃κ:Ctx,κ.w0=w∧(∀b o,κ.S0 b o→b < w.heap.size)∧St κ w A []∧(∀f:Fact,f.P c.S0 c.w0→f.P κ.S0 w)∧(∀f∈R,f.P κ.S0 w) ∧
      (∀ch∈M,∀f:Fact,(∀w F,ch.P w F→f.P F w)→f.P κ.S0 w)∧∀w' A' R',St κ w' A' R'→St c w' (A'++M) R:=by
  obtain⟨F,S,hsep,hFS,hFW,hSS,hSlt,hR⟩:=h.sep
  obtain⟨F1,F2,h1,h2,hd,hF⟩:=Sep.append.1 hsep
  have hk0:c.w0.heap.size≤w.heap.size:=h.gG.size
  have h1S0:∀b o,F1 b o→c.S0 b o→False:=fun b o p q=>by
    rcases hFW b o ((hF b o).2 (.inl p)) with hw | hw
    · exact h.apart b o hw q
    · have:=s0 b o q;omega
  have hlt:∀b o,(S b o∨F2 b o)∨c.S0 b o→b < w.heap.size:=by
    rintro b o ((q | q) | q)
    · exact hSlt b o q
    · exact Sep.lt h2 q
    · have:=s0 b o q;omega
  have hap:∀b o,F1 b o→((S b o∨F2 b o)∨c.S0 b o)→False:=by
    rintro b o p ((q | q) | q)
    · exact hFS b o ((hF b o).2 (.inl p)) q
    · exact hd b o p q
    · exact h1S0 b o p q
  refine⟨⟨w,F1,fun b o=>(S b o∨F2 b o)∨c.S0 b o⟩,rfl,hlt,⟨eY.refl _ _,⟨F1,fun b o=>(S b o∨F2 b o)∨c.S0 b o,h1,hap,fun _ _ h=>.inl h,fun _ _ h=>.inl h,hlt,by simp⟩,hap⟩,fun f hf=>?_,fun f hf=>f.mono (hR f hf) fun b o q=>.inl (.inl q),fun ch hch f hf=>?_,?_⟩
  · exact f.mono (f.CG hf fun b o q=>h.gG.cell b o (s0 b o q) fun hw=>h.apart b o hw q) fun b o q=>.inr q
  · obtain⟨j,hj⟩:=List.getElem?_of_mem hch
    obtain⟨G1,G2,g1,_,_,gF⟩:=(Sep.take hj).1 h2
    exact f.mono (hf w G1 g1) fun b o q=>.inl (.inr ((gF b o).2 (.inl q)))
  · intro w' A' R' k
    obtain⟨F',S',b1,b2,b3,b4,b5,b6⟩:=k.sep
    have hk:eY F1 w w':=k.gG
    have hGW:∀b o,b < c.w0.heap.size→F1 b o→c.W b o:=fun b o hb g=>by
      rcases hFW b o ((hF b o).2 (.inl g)) with h | h
      · exact h
      · omega
    refine⟨h.gG.trans hk hGW,⟨fun b o=>F' b o∨F2 b o,S,Sep.append.2 ⟨F',F2,b1,Sep.gG hk h2 fun b o hf g=>hd b o g hf,?_,fun _ _=>Iff.rfl⟩,?_,?_,hSS,fun b o hS=>Nat.lt_of_lt_of_le (hSlt b o hS) hk.size,?_⟩,h.apart⟩
    · intro b o hg hf
      rcases b3 b o hg with h | h
      · exact hd b o h hf
      · have h:w.heap.size≤b:=h
        have:=Sep.lt h2 hf;omega
    · rintro b o (hf | hf) hS
      · rcases b3 b o hf with h | h
        · exact hFS b o ((hF b o).2 (.inl h)) hS
        · have h:w.heap.size≤b:=h
          have:=hSlt b o hS;omega
      · exact hFS b o ((hF b o).2 (.inr hf)) hS
    · rintro b o (hf | hf)
      · rcases b3 b o hf with h' | h'
        · exact hFW b o ((hF b o).2 (.inl h'))
        · exact .inr (Nat.le_trans h.gG.size h')
      · exact hFW b o ((hF b o).2 (.inr hf))
    · intro f hf
      exact f.CG (hR f hf) fun b o hS=>hk.cell b o (hSlt b o hS) fun g=>hFS b o ((hF b o).2 (.inl g)) hS
abbrev PS:=List (Nat×Nat×Nat×Nat)
def aBO:Nat→List (List SV)→List Ch
  | _,[]=>[]
  | k,c :: r=>.box k c :: aBO (k+1) r
def E8(L:List Ch)(i n:Nat):List SV:=match L[i]? with
  | some (.box k cs) => match Nat.beq n k with
    | true=>cs
    | false=>[]
  | _=>[]
def aDO(L:List Ch):PS→Option (List (List SV))
  | []=>some []
  | (i, n, o, k) :: r => match Nat.ble (o + k) (E8 L i n).length, Nat.ble 1 k, frc (((E8 L i n).drop o).take k), aDO L r with
    | true,true,some d,some ds=>some (d :: ds)
    | _,_,_,_=>none
def IV(L M:List Ch):PS→List (List SV)→List Ch
  | (i,n,o,_) :: r,c :: cs=>IV L (M.set i (.box n (VL (E8 L i n) o c))) r cs
  | _,_=>M
def zK:PS→List Nat
  | []=>[]
  | p :: r=>p.1 :: zK r
def rnP:PS→Nat→SV→Option SV
  | [], _, x => match CI 0 x with
    | true=>some x
    | false=>none
  | (_, n, o, _) :: r, j, x => match x with
    | .p n' o' => match Nat.beq n n', Nat.beq o o' with
      | true,true=>some (.p j 0)
      | _,_=>rnP r (j+1) (.p n' o')
    | x=>rnP r (j+1) x
structure HG (c κ:Ctx) (L:List Ch) (js:List Nat):Prop where
  a:∀{α:Type} [aI α] {s:AC} {d:List α},bS c s d→bS κ s d
  o:∀{α:Type} [aI α] {s:AC} {d:List α} (i:Nat),L[i]?=some (ow s d)→fD i js=true→bS κ s d
  f:∀{α:Type} [aI α] {s:AC} {d:List α} (i:Nat),L[i]?=some (fr s d)→bS κ s d
def PvR(B:Bl)(L:List Ch):PS→List (List SV)→List PV→Prop
  | [],[],[]=>True
  | (i,n,o,k) :: r,d :: ds,p :: ps=>(∃cs vs,L[i]?=some (.box n cs)∧B[n]?=some (p.b,p.z)∧aW (bK B) cs=some vs∧o+k≤cs.length∧p.A=vs.take o∧p.V=(vs.drop o).take k∧p.C=vs.drop (o+k)∧d=(cs.drop o).take k)∧PvR B L r ds ps
  | _,_,_=>False
def blP(pv:List PV):Bl:=pv.map fun p=>(p.b,p.z+p.A.length)
noncomputable section
variable {c:Ctx} {w:World} {B:Bl} {L:List Ch} {R:List Fact}
theorem aDP{i n:Nat}{x:SV}{r:List SV}(h:E8 L i n=x :: r):L[i]?=some (.box n (x :: r)):=by
  unfold E8 at h
  split at h
  · rename_i k cs hk
    split at h
    · rename_i hb
      rw [Nat.eq_of_beq_eq_true hb,hk,h]
    · cases h
  · cases h
theorem aP1(hS:St c w (L.map (iS B)) R):∀{ps:PS} {ds:List (List SV)},aDO L ps=some ds→∃pv,PvR B L ps ds pv
  | [],ds,h=>by cases h;exact⟨[],trivial⟩
  | (i, n, o, k) :: r, ds, h => by
    simp only [aDO] at h
    split at h
    · rename_i d ds' h1 h2 h3 h4
      cases h
      have h1:=Nat.le_of_ble_eq_true h1
      have h2:=Nat.le_of_ble_eq_true h2
      obtain⟨pv,hpv⟩:=aP1 hS h4
      have h3:=F7 h3
      subst h3
      cases hc:E8 L i n with
      | nil=>rw [hc] at h1;simp at h1;omega
      | cons x cs =>
        have hL:=aDP hc
        obtain⟨F,b,z,vs,g1,g2,g3⟩:=hS.chunk (ch:=K1 B n (x :: cs)) i (by simp [hL,iS])
        exact⟨⟨b,z,vs.take o,(vs.drop o).take k,vs.drop (o+k)⟩ :: pv,⟨x :: cs,vs,hL,g1,g2,by rw [←hc];exact h1,rfl,rfl,rfl,by simp only [hc]⟩,hpv⟩
    · cases h
theorem parts{vs:List Value}{o k:Nat}:vs.take o++((vs.drop o).take k++vs.drop (o+k))=vs:=by
  rw [←List.drop_drop,List.take_append_drop,List.take_append_drop]
theorem aHS{F:cB}:∀{ps:PS} {ds:List (List SV)} {pv:List PV} {F:cB},PvR B L ps ds pv→Sep w (pick (L.map (iS B)) (zK ps)) F→Sep w (pv.map PV.whole) F
  | [],[],[],F,_,h=>h
  | (i, n, o, k) :: r, d :: ds, p :: ps, F, ⟨⟨cs, vs, h1, h2, h3, h4, h5, h6, h7, h8⟩, hr⟩, h => by
    simp only [zK,pick,List.getElem?_map,h1,Option.map_some,Option.getD_some] at h
    obtain⟨F1,F2,g1,g2,gd,gF⟩:=h
    refine⟨F1,F2,?_,aHS (F:=F) hr g2,gd,gF⟩
    obtain⟨b,z,vs',k1,k2,k3⟩:=g1
    rw [h2] at k1;cases k1
    rw [h3] at k2;cases k2
    unfold PV.whole
    rw [h5,h6,h7,parts]
    exact k3
theorem aFU{Bs:Bl}{p:PV}{ps:List PV}{j:Nat}(h:∀i,Bs[j+i]?=(blP (p :: ps))[i]?):Bs[j]?=some (p.b,p.z+p.A.length)∧∀i,Bs[j+1+i]?=(blP ps)[i]?:=by
  refine⟨?_,fun i=>?_⟩
  · have:=h 0
    simpa [blP] using this
  · have:=h (i+1)
    rw [show j+1+i=j+(i+1) by omega,this]
    simp [blP]
theorem aLW{Bs:Bl}:∀{ps:PS} {ds:List (List SV)} {pv:List PV} {j:Nat} {F:cB},PvR B L ps ds pv→ds.all (CI.okC 0)=true→(∀i,Bs[j+i]?=(blP pv)[i]?)→Sep w (pv.map PV.mid) F→Sep w ((aBO j ds).map (iS Bs)) F
  | [],[],[],_,F,_,_,_,h=>h
  | (i, n, o, k) :: r, d :: ds, p :: ps, j, F, ⟨⟨cs, vs, h1, h2, h3, h4, h5, h6, h7, h8⟩, hr⟩, ho, hB, h => by
    simp only [List.all_cons,Bool.and_eq_true] at ho
    obtain⟨F1,F2,g1,g2,gd,gF⟩:=h
    obtain⟨b1,b2⟩:=aFU hB
    refine⟨F1,F2,⟨p.b,p.z+p.A.length,p.V,b1,?_,g1⟩,aLW hr ho.2 b2 g2,gd,gF⟩
    have e1:aW (bK B) d=some p.V:=by rw [h8,h6];exact HL k (HK o h3)
    have e2:=CN ho.1 e1
    rw [List.take_zero] at e2
    exact eF (fun x v h=>by simpa using eZ (B:=[]) Bs h) e2
theorem aFV{Bs:Bl}:∀{ps:PS} {ds:List (List SV)} {pv:List PV} {j:Nat} {x x':SV} {v:Value},PvR B L ps ds pv→(∀i,Bs[j+i]?=(blP pv)[i]?)→rnP ps j x=some x'→eS B x=some v→eS Bs x'=some v
  | [], [], [], j, x, x', v, _, _, hx, hv => by
    simp only [rnP] at hx
    split at hx
    · rename_i h0
      cases hx
      have:=IQ h0 hv
      rw [List.take_zero] at this
      simpa using z9 (B:=[]) Bs this
    · cases hx
  | (i, n, o, k) :: r, d :: ds, p :: ps, j, x, x', v, ⟨⟨cs, vs, h1, h2, h3, h4, h5, h6, h7, h8⟩, hr⟩, hB, hx, hv => by
    obtain⟨b1,b2⟩:=aFU hB
    simp only [rnP] at hx
    split at hx
    · rename_i n' o'
      split at hx
      · rename_i e1 e2
        cases hx
        have e1:=Nat.eq_of_beq_eq_true e1
        have e2:=Nat.eq_of_beq_eq_true e2
        subst e1;subst e2
        simp only [eS,gV,bK,h2] at hv
        have hA:p.A.length=o:=by rw [h5,List.length_take,jQ h3];omega
        simp only [eS,gV,bK,b1,hA,Nat.add_zero]
        exact hv
      · exact aFV hr b2 hx hv
    · exact aFV hr b2 hx hv
theorem aHT{Bs:Bl}{ps:PS}{ds:List (List SV)}{pv:List PV}(hr:PvR B L ps ds pv)(hB:∀i,Bs[0+i]?=(blP pv)[i]?):∀{xs xs':List SV} {vs:List Value},aW (rnP ps 0) xs=some xs'→aW (eS B) xs=some vs→aW (eS Bs) xs'=some vs
  | [],_,_,h,hv=>by cases h;exact hv
  | x :: xs, xs', vs, h, hv => by
    simp only [aW] at h hv
    split at h
    · cases h
    · rename_i h1
      split at h
      · cases h
      · rename_i h2
        cases h
        split at hv
        · cases hv
        · rename_i v1
          split at hv
          · cases hv
          · rename_i v2
            cases hv
            simp only [aW,aFV hr hB h1 v1,aHT hr hB h2 v2]
def PvN(B:Bl):List PV→List (List SV)→List PV→Prop
  | [],[],[]=>True
  | p :: ps,d :: ds,q :: qs=>(q.b=p.b∧q.z=p.z∧q.A=p.A∧q.C=p.C∧q.V.length=p.V.length∧aW (bK B) d=some q.V)∧PvN B ps ds qs
  | _,_,_=>False
theorem aDQ:∀{ps:List PV} {ds:List (List SV)} {qs:List PV},PvN B ps ds qs→qs.flatMap PV.rest=ps.flatMap PV.rest∧blP qs=blP ps
  | [],[],[],_=>⟨rfl,rfl⟩
  | p :: ps, d :: ds, q :: qs, ⟨⟨h1, h2, h3, h4, h5, h6⟩, hr⟩ => by
    obtain⟨e1,e2⟩:=aDQ hr
    simp only [List.flatMap_cons,e1,PV.rest,h1,h2,h3,h4,h5]
    refine⟨trivial,?_⟩
    simp only [blP,List.map_cons,h1,h2,h3] at e2 ⊢
    rw [e2]
def VY:PS→List (List SV)→Bool
  | [],[]=>true
  | (_, _, _, k) :: r, d :: ds => match Nat.beq d.length k with
    | true=>VY r ds
    | false=>false
  | _,_=>false
theorem aLX:∀{ps:PS} {ds:List (List SV)} {pv:List PV},PvR B L ps ds pv→pv.length=ps.length
  | [],[],[],_=>rfl
  | (i,n,o,k) :: r,d :: ds,p :: ps,⟨_,hr⟩=>by simp [aLX hr]
theorem aHU{Bs:Bl}:∀{ps:PS} {ds:List (List SV)} {pv:List PV} {es:List (List SV)} {j:Nat},PvR B L ps ds pv→VY ps es=true→es.all (CI.okC 0)=true→(∀i,Bs[j+i]?=(blP pv)[i]?)→(∀i cs,es[i]?=some cs→∃F,(K1 Bs (j+i) cs).P w F)→∃qs,PvN B pv es qs∧hC w ((aBO j es).map (iS Bs)) (qs.map PV.mid)
  | [],[],[],[],j,_,_,_,_,_=>⟨[],trivial,.nil⟩
  | [],[],[],e :: es,j,_,hl,_,_,_=>by simp [VY] at hl
  | (i,n,o,k) :: r,d :: ds,p :: ps,[],j,_,hl,_,_,_=>by simp [VY] at hl
  | (i, n, o, k) :: r, d :: ds, p :: ps, e :: es, j, ⟨⟨cs, vs, h1, h2, h3, h4, h5, h6, h7, h8⟩, hr⟩, hl, ho, hB, hc => by
    simp only [VY] at hl
    split at hl
    · rename_i he
      have he:=Nat.eq_of_beq_eq_true he
      simp only [List.all_cons,Bool.and_eq_true] at ho
      obtain⟨b1,b2⟩:=aFU hB
      obtain⟨qs,q1,q2⟩:=aHU hr hl ho.2 b2 fun i cs hi=>by
        have:=hc (i+1) cs (by simpa using hi)
        rwa [show j+(i+1)=j+1+i by omega] at this
      obtain⟨F,b,z,us,g1,g2,g3⟩:=hc 0 e rfl
      have hlen:=jQ h3
      have g4:=CN ho.1 g2
      rw [List.take_zero] at g4
      refine⟨⟨p.b,p.z,p.A,us,p.C⟩ :: qs,⟨⟨rfl,rfl,rfl,rfl,?_,eF (fun x v h=>by simpa using eZ (B:=[]) B h) g4⟩,q1⟩,.cons (fun F hF=>?_) q2⟩
      · rw [jQ g2,h6,List.length_take,List.length_drop,he];omega
      · obtain⟨b',z',us',k1,k2,k3⟩:=hF
        rw [show j=j+0 by omega] at b1
        simp only [Nat.add_zero] at g2 k2 k1 b1
        rw [b1] at k1;cases k1
        rw [g2] at k2;cases k2
        exact k3
    · cases hl
theorem VZ:∀{ws vs:List Value} {o:Nat},o+ws.length≤vs.length→NM vs o ws=vs.take o++(ws++vs.drop (o+ws.length))
  | [],vs,o,h=>by simp [NM]
  | x :: ws, vs, o, h => by
    simp only [List.length_cons] at h
    simp only [NM]
    rw [VZ (by simp;omega)]
    have t1:(vs.set o x).take (o+1)=vs.take o ++ [x]:=by
      rw [List.take_add_one,List.getElem?_set_self (by omega)]
      rw [List.take_set,List.set_eq_of_length_le (by simp;omega)]
      rfl
    have t2:(vs.set o x).drop (o+1+ws.length)=vs.drop (o+(ws.length+1)):=by
      rw [List.drop_set_of_lt (by omega),show o+1+ws.length=o+(ws.length+1) by omega]
    rw [t1,t2]
    simp
theorem aLY:∀{ps:PS} {ds es:List (List SV)} {pv qs:List PV} {M:List Ch} {F:cB},PvR B L ps ds pv→PvN B pv es qs→(∀i∈zK ps,M[i]?=some .no)→cZ (zK ps)=true→Sep w (qs.map PV.whole++M.map (iS B)) F→Sep w ((IV L M ps es).map (iS B)) F
  | [],[],[],[],[],M,F,_,_,_,_,h=>h
  | (i, n, o, k) :: r, d :: ds, e :: es, p :: ps, q :: qs, M, F, ⟨⟨cs, vs, h1, h2, h3, h4, h5, h6, h7, h8⟩, hr⟩, ⟨⟨n1, n2, n3, n4, n5, n6⟩, hn⟩, hM, ha, h => by
    simp only [zK,cZ,Bool.and_eq_true] at ha
    have hi:M[i]?=some .no:=hM i (by simp [zK])
    have hlt:i < M.length:=(List.getElem?_eq_some_iff.1 hi).1
    simp only [IV]
    refine aLY (ps:=r) (ds:=ds) (es:=es) (pv:=ps) (qs:=qs) hr hn (fun j hj=>?_) ha.2 ?_
    · have hne:i≠j:=fun e=>by
        subst e
        have:=List.all_eq_true.1 ha.1 _ hj
        simp at this
      rw [List.getElem?_set_ne hne]
      exact hM j (by simp [zK,hj])
    · have h9:Sep w (qs.map PV.whole++(q.whole :: M.map (iS B))) F:=Sep.perm List.perm_middle.symm h
      obtain⟨F1,F2,g1,g2,gd,gF⟩:=Sep.append.1 h9
      refine Sep.append.2 ⟨F1,F2,g1,?_,gd,gF⟩
      have hc:E8 L i n=cs:=by
        unfold E8
        rw [h1]
        simp
      have e0:(M.map (iS B)).set i DL=M.map (iS B):=by
        have:(M.map (iS B))[i]?=some DL:=by simp [hi,iS]
        obtain⟨hl,he⟩:=List.getElem?_eq_some_iff.1 this
        rw [←he];exact List.set_getElem_self hl
      have e1:Sep w ((M.map (iS B)).set i q.whole) F2:=Sep.put (by simpa using hlt) (by rw [e0];exact g2)
      rw [List.map_set,hc]
      refine Sep.imp ?_ e1
      refine hC.set i (hC.refl _) fun F hF=>⟨p.b,p.z,q.A++(q.V++q.C),h2,?_,by rw [←n1,←n2];exact hF⟩
      have hlen:=jQ h3
      have hV:p.V.length=k:=by rw [h6,List.length_take,List.length_drop];omega
      have hVe:e.length=k:=by rw [←jQ n6,n5,hV]
      rw [aBB _ _ _ (by omega),n3,n4,h5,h7]
      have:=PG o h3 n6
      rw [this,VZ (by omega),n5,hV]
  | [],[],e :: es,[],_,M,F,_,hn,_,_,_=>by simp [PvN] at hn
  | [],[],[],[],q :: qs,M,F,_,hn,_,_,_=>by simp [PvN] at hn
  | (i,n,o,k) :: r,d :: ds,[],p :: ps,qs,M,F,_,hn,_,_,_=>by simp [PvN] at hn
  | (i,n,o,k) :: r,d :: ds,e :: es,p :: ps,[],M,F,_,hn,_,_,_=>by simp [PvN] at hn
theorem aDR{x:Ch}:∀{ps:PS} {es:List (List SV)} {M:List Ch},x∈IV L M ps es→x∈M∨∃n cs,x=.box n cs
  | [],_,M,h=>.inl (by simpa [IV] using h)
  | (i,n,o,k) :: r,[],M,h=>.inl (by simpa [IV] using h)
  | (i, n, o, k) :: r, e :: es, M, h => by
    rcases aDR (ps:=r) (es:=es) (by simpa [IV] using h) with h | h
    · rcases List.mem_or_eq_of_mem_set h with h | h
      · exact .inl h
      · exact .inr ⟨_,_,h⟩
    · exact .inr h
end
end Go.Gv
end
noncomputable section
set_option linter.unusedVariables false
namespace Go.Gv
def cpS:Stop→Option (Oper×Option Nat×FuncId×List SV×tH×tH×List Fr×Nat×SE×List Ch)
  | .call o d f xs cf cf' K m e L=>some (o,d,f,xs,cf,cf',K,m,e,L)
  | .callp o d f xs cf cf' K m e L=>some (o,d,f,xs,cf,cf',K,m,e,L)
  | _=>none
def dse(d:Option Nat)(v:SV)(e:SE):SE:=match d with
  | some d=>(d,v) :: e
  | none=>e
def LG:List Ch→Bool
  | []=>true
  | .o _ :: L=>LG L
  | _ :: _=>false
theorem V1{B B':Bl}:∀{L:List Ch},LG L=true→L.map (iS B)=L.map (iS B')
  | [],_=>rfl
  | .o c :: L,h=>by simp only [List.map_cons,iS];rw [V1 (L:=L) h]
theorem V2{B:Bl}{R:List Fact}:∀{L:List Ch},LG L=true→∀x∈L,roF B R x
  | [],_,x,hx=>by cases hx
  | .o c :: L, h, x, hx => by
    rcases List.mem_cons.1 hx with hx | hx
    · subst hx;trivial
    · exact V2 (L:=L) h x hx
theorem aDS{B:Bl}{R:List Fact}:∀{cs:List (List SV)} {k:Nat},∀x∈aBO k cs,roF B R x
  | [],k,x,hx=>by cases hx
  | c :: cs, k, x, hx => by
    rcases List.mem_cons.1 hx with hx | hx
    · subst hx;trivial
    · exact aDS x hx
theorem V3:∀{cs:List (List SV)} {k i:Nat} {c:List SV},cs[i]?=some c→(aBO k cs)[i]?=some (.box (k+i) c)
  | c' :: cs,k,0,c,h=>by simp at h;subst h;rfl
  | c' :: cs, k, i + 1, c, h => by
    have:=V3 (k:=k+1) (show cs[i]?=some c by simpa using h)
    simpa [aBO,Nat.add_assoc,Nat.add_comm 1] using this
theorem PO{L:List Chunk}:∀{a b:List Nat},pick L (a++b)=pick L a++pick L b
  | [],b=>rfl
  | i :: a,b=>by simp only [List.cons_append,pick,PO (a:=a)]
theorem U3:∀{js:List Nat} {L:List Ch},(LF L js).length=L.length
  | [],L=>rfl
  | j :: js,L=>by simp only [LF];rw [U3];simp
theorem aLZ:∀{js:List Nat} {L:List Ch} {i:Nat},i < L.length→L[i]?=some .no∨i∈js→(LF L js)[i]?=some .no
  | [],L,i,_,h=>by rcases h with h | h;exact h;cases h
  | j :: js, L, i, hl, h => by
    simp only [LF]
    refine aLZ (by simpa using hl) ?_
    by_cases e:j=i
    · subst e;left;rw [List.getElem?_set_self hl]
    · rw [List.getElem?_set_ne e]
      rcases h with h | h
      · exact .inl h
      · rcases List.mem_cons.1 h with h | h
        · exact absurd h.symm e
        · exact .inr h
theorem aL0{B:Bl}{L:List Ch}:∀{ps:PS} {ds:List (List SV)} {pv:List PV},PvR B L ps ds pv→∀i∈zK ps,i < L.length
  | [],[],[],_,i,h=>by cases h
  | (i, n, o, k) :: r, d :: ds, p :: ps, ⟨⟨cs, vs, h1, _⟩, hr⟩, j, h => by
    rcases List.mem_cons.1 h with h | h
    · subst h;exact(List.getElem?_eq_some_iff.1 h1).1
    · exact aL0 hr j h
theorem aHV:∀{a b:List Nat},cZ (a++b)=true→cZ a=true
  | [],b,_=>rfl
  | i :: a, b, h => by
    simp only [List.cons_append,cZ,Bool.and_eq_true,List.all_append] at h ⊢
    exact⟨h.1.1,aHV h.2⟩
theorem aDT{g:Gx}{cf:tH}{L M:List Ch}{j:Nat}{z:Ch}(h:Frz g cf L M)(hn:fD j cf.w4=true):Frz g cf L (M.set j z):=by
  cases cf with
  | d B1 ops l is Lf Lv =>
    intro hD
    obtain⟨h1,h2⟩:=h hD
    have:=NB (L:=M) (M:=[]) (j:=j) (z:=z) h2 hn
    rw [List.append_nil] at this
    exact⟨by rw [this];exact h1,fun i hi=>by simpa using h2 i hi⟩
  | o B1 ops l is Lf Lv ii =>
    intro hD
    obtain⟨h1,h2⟩:=h hD
    have:=NB (L:=M) (M:=[]) (j:=j) (z:=z) h2 hn
    rw [List.append_nil] at this
    exact⟨by rw [this];exact h1,fun i hi=>by simpa using h2 i hi⟩
  | _=>trivial
theorem aDU{g:Gx}{cf:tH}{L L0:List Ch}:∀{ps:PS} {es:List (List SV)} {M:List Ch},Frz g cf L M→((zK ps).all fun j=>fD j cf.w4)=true→Frz g cf L (IV L0 M ps es)
  | [],_,M,h,_=>by simpa [IV] using h
  | (i,n,o,k) :: r,[],M,h,_=>by simpa [IV] using h
  | (i, n, o, k) :: r, e :: es, M, h, hz => by
    simp only [zK,List.all_cons,Bool.and_eq_true] at hz
    exact aDU (ps:=r) (es:=es) (aDT h hz.1) hz.2
theorem aAD{i:Nat}:∀{js:List Nat},fD i js=true→(js.all fun j=>!Nat.beq j i)=true
  | [],_=>rfl
  | j :: js, h => by
    simp only [fD] at h
    split at h
    · cases h
    · rename_i hb
      simp only [List.all_cons,Bool.and_eq_true,Bool.not_eq_true']
      refine⟨?_,aAD h⟩
      cases hji:Nat.beq j i with
      | false=>rfl
      | true =>
        rw [Nat.eq_of_beq_eq_true hji] at hb
        simp at hb
theorem aRF{g:Gx}{s:Stop}{o:Oper}{d:Option Nat}{f:FuncId}{xs:List SV}{cf cf':tH}{K:List Fr}{m:Nat}{e:SE}{L:List Ch}(hs:cpS s=some (o,d,f,xs,cf,cf',K,m,e,L))
    (h:∀fo args ats,o.op=.call {callee:=.value fo,args:=args,argTypes:=ats}→o.dst=d→gN e fo=some (.f f [])→(∃ys,aW (gN e) args.toList=some ys∧nbA ys=xs)→oN g.n d=true→SI g K m e L o cf cf'→G g K m e L cf):Gs g s:=by
  cases s <;> simp only [cpS] at hs <;> cases hs
  · exact fun fo args ats a1 a2 a3 a4 _ a6 a7=>h fo args ats a1 a2 a3 a4 a6 a7
  · exact h
noncomputable section
variable {P:Program} {T:TT} {hT:CJ P T} {n:Nat} {c:Ctx} {B0:Bl} {N:Act→World→Prop} {X:Nat→Act→World→Prop} {Q:Act→World→Prop} {K K':List Fr} {m m':Nat} {e e':SE} {L L':List Ch} {cf cf1 cf2:tH} {o:Oper}
theorem cwk{α β ex:Type}{fo:Option α}{kf:α→Option β}{q:β}{d:Option Nat}{f:FuncId}{xs xs0:List SV}{cs0:List (List SV)}{M:List Ch}{sv:α→ex→SV}{cb:α→ex→List (List SV)}{Lr:α→ex→List Ch}(ps:PS)(is:List Nat)
    (hs:cpS (iZ T n K cf m e L)=some (o,d,f,xs,cf1,cf2,K',m',e',L')) (hb:aDO L' ps=some cs0) (hi:aW (fun i=>L'[i]?) is=some M) (hx:aW (rnP ps 0) xs=some xs0)
    (hk:(LG M && (cs0.all (CI.okC 0) && (cZ (zK ps++is) && (zK ps++is).all fun j=>fD j cf1.w4)))=true)
    (hn:∀x y,(VY ps (cb x y) && ((cb x y).all (CI.okC 0) && (LG (Lr x y) && CI 0 (sv x y))))=true)
    (hc:∀{κ:Ctx},HG c κ L' (zK ps++is)→∀{Bs:Bl},Bs.length=ps.length→∀{x},fo=some x→FnS P f κ xs0 Bs (aBO 0 cs0++M) sv (fun x y=>aBO 0 (cb x y)++Lr x y) x)
    (hF:fo.bind kf=some q)
    (k:∀x,fo=some x→kf x=some q→∀y:ex,G (.mk P T hT n c B0 N X Q) K' m' (dse d (sv x y) e') (IV L' (LF L' (zK ps++is)++Lr x y) ps (cb x y)) cf2):G (.mk P T hT n c B0 N X Q) K m e L cf:=by
  refine fE (g:=.mk P T hT n c B0 N X Q) (aRF hs ?_)
  intro fo' args ats ho hd hf ⟨ys,hys,hxs⟩ hdn hE
  simp only [Bool.and_eq_true] at hk hn
  obtain⟨hkM,hkc,hka,hkz⟩:=hk
  cases hfo:fo with
  | none=>rw [hfo] at hF;cases hF
  | some x =>
    rw [hfo] at hF
    have hz2:((zK ps).all fun j=>fD j cf1.w4)=true:=by
      rw [List.all_append,Bool.and_eq_true] at hkz;exact hkz.1
    refine hE ex (fun _=>m') (fun y=>dse d (sv x y) e') (fun y=>IV L' (LF L' (zK ps++is)++Lr x y) ps (cb x y)) (fun y=>aDU (U1 _ hkz) hz2) (fun B a w next Q' hm hA hS hnext=>?_) (k x hfo hF)
    generalize hBB:PD (.mk P T hT n c B0 N X Q) cf1++B=BB at hm hA hS hnext
    obtain⟨⟨R,s1,s2⟩,s0⟩:=hS
    obtain⟨pv,hpv⟩:=aP1 s1 hb
    have hBs:(blP pv).length=ps.length:=by simp [blP,aLX hpv]
    have hB0:∀i,(blP pv)[0+i]?=(blP pv)[i]?:=fun i=>by rw [Nat.zero_add]
    have f1:=s1.front (zK ps++is) hka
    have f2:St c w ((pv.map PV.mid++M.map (iS BB))++(pv.flatMap PV.rest++blank (L'.map (iS BB)) (zK ps++is))) R:=by
      refine f1.via fun F h=>?_
      rw [PO,U2 hi] at h
      obtain⟨F1,F2,g1,g2,gd,gF⟩:=Sep.append.1 h
      obtain⟨F3,F4,g3,g4,gd2,gF2⟩:=Sep.append.1 g1
      have g5:=aSY (aHS (F:=F) hpv g3)
      have g6:Sep w (((pv.map PV.mid++pv.flatMap PV.rest)++M.map (iS BB))++blank (L'.map (iS BB)) (zK ps++is)) F:=Sep.append.2 ⟨F1,F2,Sep.append.2 ⟨F3,F4,g5,g4,gd2,gF2⟩,g2,gd,gF⟩
      refine Sep.perm ?_ g6
      simp only [List.append_assoc]
      refine List.Perm.append_left _ ?_
      rw [←List.append_assoc,←List.append_assoc]
      exact List.Perm.append_right _ List.perm_append_comm
    obtain⟨κ,k1,k2,k3,k4,k5,k6,k7⟩:=f2.aS0 s0
    subst k1
    have hHG:HG c κ L' (zK ps++is):=by
      refine⟨fun{α} _ {s d} h=>k4 (wY [s.v d.length] d) h,fun{α} _ {s d} i hi hj=>?_,fun{α} _ {s d} i hi=>k5 _ (s2 _ (List.mem_of_getElem? hi))⟩
      have:(blank (L'.map (iS BB)) (zK ps++is))[i]?=some (eV [s.v d.length] d):=by
        rw [Z5 (aAD hj),List.getElem?_map,hi];rfl
      exact k6 _ (List.mem_append_right _ (List.mem_of_getElem? this)) (wY [s.v d.length] d) fun w F h=>aI.own_rd h
    obtain⟨hcall,hrun⟩:=hc hHG hBs hfo
    obtain⟨vs,h1,h2⟩:=SJ hA hys
    obtain⟨v,h3,h4⟩:=dU hA hf
    simp [eS,aW] at h3
    subst h3
    have h1':aW (eS BB) xs=some vs:=by rw [←hxs,M7];exact h1
    have hst:kZ κ κ.w0 (blP pv) (aBO 0 cs0++M):=by
      refine⟨⟨[],?_,fun x hx=>?_⟩,k2⟩
      · rw [List.map_append,V1 (B':=BB) hkM]
        refine k3.via fun F h=>?_
        obtain⟨F1,F2,g1,g2,gd,gF⟩:=Sep.append.1 h
        exact Sep.append.2 ⟨F1,F2,aLW hpv hkc hB0 g1,g2,gd,gF⟩
      · rcases List.mem_append.1 hx with hx | hx
        · exact aDS x hx
        · exact V2 hkM x hx
    have h5:=hrun vs (aHT hpv hB0 hx h1') hst
    have h6:=PL (w:=κ.w0) hcall ho h4 h2
    unfold Oper.wp
    rw [h6 _ a hA.env,Oper.upon_enter]
    refine Calls.mono h5 fun en w' ⟨v,hv,y,g1,g2⟩=>?_
    subst hv
    obtain⟨n1,n2,n3,n4⟩:=hn x y
    have g3:=z9 BB (aLO n4 g1)
    rw [List.nil_append] at g3
    obtain⟨⟨R',t1,t2⟩,t0⟩:=g2
    obtain⟨qs,q1,q2⟩:=aHU (w:=w') hpv n1 n2 hB0 fun i cs hi=>t1.chunk (ch:=K1 (blP pv) (0+i) cs) i (by
      rw [List.getElem?_map,List.getElem?_append_left (by
        have:=(List.getElem?_eq_some_iff.1 (V3 (k:=0) hi)).1
        exact this),V3 hi];rfl)
    obtain⟨e1,e2⟩:=aDQ q1
    have t3:St κ w' (qs.map PV.mid++(Lr x y).map (iS BB)) R':=by
      refine t1.imp ?_
      rw [List.map_append,V1 (B:=blP pv) (B':=BB) n3]
      exact hC.append q2 (hC.refl _)
    have t4:=k7 w' _ R' t3
    have t5:St c w' ((IV L' (LF L' (zK ps++is)++Lr x y) ps (cb x y)).map (iS BB)) R:=by
      refine t4.via fun F h=>?_
      refine aLY hpv q1 (fun i hi=>?_) (aHV hka) ?_
      · have hl:=aL0 hpv i hi
        rw [List.getElem?_append_left (by rw [U3];exact hl)]
        exact aLZ hl (.inr (List.mem_append_left _ hi))
      · rw [List.map_append,IT]
        have h7:Sep w' ((qs.map PV.mid++qs.flatMap PV.rest)++(blank (L'.map (iS BB)) (zK ps++is)++(Lr x y).map (iS BB))) F:=by
          rw [e1]
          refine Sep.perm ?_ h
          simp only [List.append_assoc]
          refine List.Perm.append_left _ ?_
          rw [←List.append_assoc (pv.flatMap PV.rest)]
          exact List.perm_append_comm
        obtain⟨F1,F2,p1,p2,pd,pF⟩:=Sep.append.1 h7
        exact Sep.append.2 ⟨F1,F2,aSZ p1,p2,pd,pF⟩
    have t6:kZ c w' BB (IV L' (LF L' (zK ps++is)++Lr x y) ps (cb x y)):=by
      refine⟨⟨R,t5,fun z hz=>?_⟩,s0⟩
      rcases aDR hz with hz | ⟨_,_,hz⟩
      · rcases List.mem_append.1 hz with hz | hz
        · rcases PM _ _ hz with hz | hz
          · exact s2 z hz
          · subst hz;trivial
        · exact V2 n3 z hz
      · subst hz;trivial
    rw [hd]
    cases d with
    | none=>exact hnext y _ _ ⟨[],by simpa using hm,by simpa [dse,Act.put] using hA,by simpa using t6⟩
    | some d=>exact hnext y _ _ ⟨[],by simpa using hm,by simpa [dse] using hA.of g3 (hA.env.put (by simpa [oN,Nat.blt_eq] using hdn) v),by simpa using t6⟩
end
end Go.Gv
end
noncomputable section
set_option linter.unusedVariables false
namespace Go.Gv
noncomputable section
variable {P:Program} {T:TT} {hT:CJ P T} {n:Nat} {c:Ctx} {B0:Bl} {N:Act→World→Prop} {X:Nat→Act→World→Prop} {Q:Act→World→Prop} {K K':List Fr} {m m':Nat} {e e':SE} {L L' Lv:List Ch} {cf cf' cf1 cf2:tH} {o:Oper}
noncomputable section
variable {α β ex:Type} {fo:Option α} {kf:α→Option β} {q:β} {d:Option Nat} {f:FuncId} {xs xs0:List SV} {M:List Ch} {sv:α→ex→SV} {Lr:α→ex→List Ch}
theorem cw0(is:List Nat)
    (hs:cpS (iZ T n K cf m e L)=some (o,d,f,xs,cf1,cf2,K',m',e',L')) (hi:aW (fun i=>L'[i]?) is=some M) (hx:aW (rnP [] 0) xs=some xs0)
    (hk:(LG M && (cZ is && is.all fun j=>fD j cf1.w4))=true) (hn:∀x y,(LG (Lr x y) && CI 0 (sv x y))=true)
    (hc:∀{κ:Ctx},HG c κ L' is→∀{x},fo=some x→FnS P f κ xs0 [] M sv Lr x) (hF:fo.bind kf=some q)
    (k:∀x,fo=some x→kf x=some q→∀y:ex,G (.mk P T hT n c B0 N X Q) K' m' (dse d (sv x y) e') (LF L' is++Lr x y) cf2):G (.mk P T hT n c B0 N X Q) K m e L cf:=
  cwk (cb:=fun _ _=>[]) (Lr:=Lr) [] is hs rfl hi hx (by simpa [zK] using hk) (fun x y=>by simpa [VY] using hn x y) (fun{κ} h Bs hl x hx=>match Bs,hl with | [],_=>hc (by simpa [zK] using h) hx) hF (fun x h1 h2 y=>by simpa [IV,zK] using k x h1 h2 y)
theorem cw1{c1:List SV}{a1:α→ex→List SV}(i1 n1 o1 k1:Nat)(is:List Nat)
    (hs:cpS (iZ T n K cf m e L)=some (o,d,f,xs,cf1,cf2,K',m',e',L')) (hb:aDO L' [(i1,n1,o1,k1)]=some [c1]) (hi:aW (fun i=>L'[i]?) is=some M) (hx:aW (rnP [(i1,n1,o1,k1)] 0) xs=some xs0)
    (hk:(LG M && ([c1].all (CI.okC 0) && (cZ (i1 :: is) && (i1 :: is).all fun j=>fD j cf1.w4)))=true) (hn:∀x y,(VY [(i1,n1,o1,k1)] [a1 x y] && ([a1 x y].all (CI.okC 0) && (LG (Lr x y) && CI 0 (sv x y))))=true)
    (hc:∀{κ:Ctx},HG c κ L' (i1 :: is)→∀{b1:Nat×Nat} {x},fo=some x→FnS P f κ xs0 [b1] (.box 0 c1 :: M) sv (fun x y=>.box 0 (a1 x y) :: Lr x y) x) (hF:fo.bind kf=some q)
    (k:∀x,fo=some x→kf x=some q→∀y:ex,G (.mk P T hT n c B0 N X Q) K' m' (dse d (sv x y) e') (IV L' (LF L' (i1 :: is)++Lr x y) [(i1,n1,o1,k1)] [a1 x y]) cf2):G (.mk P T hT n c B0 N X Q) K m e L cf:=
  cwk (cb:=fun x y=>[a1 x y]) (Lr:=Lr) [(i1,n1,o1,k1)] is hs hb hi hx hk hn (fun{κ} h Bs hl x hx=>match Bs,hl with | [b1],_=>hc h hx) hF k
theorem cw2{c1 c2:List SV}{a1 a2:α→ex→List SV}(i1 n1 o1 k1:Nat)(i2 n2 o2 k2:Nat)(is:List Nat)
    (hs:cpS (iZ T n K cf m e L)=some (o,d,f,xs,cf1,cf2,K',m',e',L')) (hb:aDO L' [(i1,n1,o1,k1),(i2,n2,o2,k2)]=some [c1,c2]) (hi:aW (fun i=>L'[i]?) is=some M) (hx:aW (rnP [(i1,n1,o1,k1),(i2,n2,o2,k2)] 0) xs=some xs0)
    (hk:(LG M && ([c1,c2].all (CI.okC 0) && (cZ (i1 :: i2 :: is) && (i1 :: i2 :: is).all fun j=>fD j cf1.w4)))=true) (hn:∀x y,(VY [(i1,n1,o1,k1),(i2,n2,o2,k2)] [a1 x y,a2 x y] && ([a1 x y,a2 x y].all (CI.okC 0) && (LG (Lr x y) && CI 0 (sv x y))))=true)
    (hc:∀{κ:Ctx},HG c κ L' (i1 :: i2 :: is)→∀{b1 b2:Nat×Nat} {x},fo=some x→FnS P f κ xs0 [b1,b2] (.box 0 c1 :: .box 1 c2 :: M) sv (fun x y=>.box 0 (a1 x y) :: .box 1 (a2 x y) :: Lr x y) x) (hF:fo.bind kf=some q)
    (k:∀x,fo=some x→kf x=some q→∀y:ex,G (.mk P T hT n c B0 N X Q) K' m' (dse d (sv x y) e') (IV L' (LF L' (i1 :: i2 :: is)++Lr x y) [(i1,n1,o1,k1),(i2,n2,o2,k2)] [a1 x y,a2 x y]) cf2):G (.mk P T hT n c B0 N X Q) K m e L cf:=
  cwk (cb:=fun x y=>[a1 x y,a2 x y]) (Lr:=Lr) [(i1,n1,o1,k1),(i2,n2,o2,k2)] is hs hb hi hx hk hn (fun{κ} h Bs hl x hx=>match Bs,hl with | [b1,b2],_=>hc h hx) hF k
end
theorem aS1(s:AC)(n1 n2:Nat):K7 (s.v n1)=K7 (s.v n2):=by obtain⟨a,c⟩:=s;cases a <;> rfl
theorem aS2(s:AC)(q k n1 n2:Nat):K0 q k (s.v n1)=K0 q k (s.v n2):=by obtain⟨a,c⟩:=s;cases a <;> rfl
theorem ro{α β:Type}[aI α](E:CO α)(j v nb:Nat){s:AC}{i:Int}{n0:Nat}{ls:List α}{kf:α→Option β}{q:β}(hs:OO (iZ T n K cf m e L)=some (K',cf',m',e',L'))(hj:L'[j]?=some (ow s ls))(hv:L'[v]?=some (wOf α nb s n0 i.toNat))(hz:fD j cf'.w4=true)(hF:(idx ls i).bind kf=some q)
    (k:∀x,idx ls i=some x→kf x=some q→∀y:E.ex,G (.mk P T hT n c B0 N X Q) K' m' e' (L'.set j .no++([.o (tC (s.v ls.length) ls i.toNat),.box nb (E.cs x y),wOf α nb s ls.length i.toNat]++E.Lx x y)) cf'):G (.mk P T hT n c B0 N X Q) K m e L cf:=by
  refine go hs ?_
  cases hi:idx ls i with
  | none=>rw [hi] at hF;cases hF
  | some x =>
    rw [hi] at hF
    refine chg (fun _=>m') (fun _=>e') (fun y:E.ex=>L'.set j .no++([.o (tC (s.v ls.length) ls i.toNat),.box nb (E.cs x y),wOf α nb s ls.length i.toNat]++E.Lx x y)) (fun B a w hm hA hS=>?_) (fun y=>aBM hz) (fun y=>k x hi hF y)
    obtain⟨⟨R,s1,s2⟩,s0⟩:=hS
    have hB:B[nb]?=some (K7 (s.v ls.length),K0 (aI.n α) i.toNat (s.v ls.length)):=by
      rw [aS1 s ls.length n0,aS2 s _ _ ls.length n0];exact s2 _ (List.mem_of_getElem? hv)
    have hj2:(L'.map (iS B))[j]?=some (eV [s.v ls.length] ls):=by simp [hj,iS]
    obtain⟨ec,h1⟩:=s1.open j hj2 (iP hi).2.2
    have hlen:((L'.map (iS B)).set j DL).length=L'.length:=by simp
    obtain⟨F,hF'⟩:=h1.chunk (L'.length+2) (by rw [List.getElem?_append_right (by omega)];simp;rfl)
    obtain⟨y,hy2⟩:=E.op (show aI.own w ec x F from hF')
    have h2:=h1.unpack (L'.length+2) (by rw [List.getElem?_append_right (by omega)];simp) (E.pk hy2)
    have hset:((L'.map (iS B)).set j DL ++ [tC (s.v ls.length) ls i.toNat,M4 (K7 (s.v ls.length)) (K0 (aI.n α) i.toNat (s.v ls.length)) ec,eV ec x]).set (L'.length+2) DL=(L'.map (iS B)).set j DL ++ [tC (s.v ls.length) ls i.toNat,M4 (K7 (s.v ls.length)) (K0 (aI.n α) i.toNat (s.v ls.length)) ec,DL]:=by
      rw [List.set_append_right _ _ (by omega)]
      simp
    rw [hset] at h2
    refine⟨y,[],by simpa using hm,by simpa using hA,⟨⟨R,?_,fun z hz=>?_⟩,s0⟩⟩
    · have e1:(L'.set j Ch.no).map (iS B)=(L'.map (iS B)).set j DL:=by rw [List.map_set];rfl
      refine h2.imp ?_
      rw [List.append_nil,List.map_append,List.map_append,←e1,List.append_assoc]
      refine hC.append (hC.refl _) (hC.append (.cons (fun _ h=>h) (.cons (fun F h=>⟨_,_,ec,hB,eF (fun x v h=>by simpa using eZ (B:=[]) B h) hy2,h⟩) (.cons (fun _ h=>h) .nil))) ?_)
      rw [E.nb x y B];exact hC.refl _
    · rw [List.append_nil]
      rcases List.mem_append.1 hz with hz | hz
      · rcases List.mem_or_eq_of_mem_set hz with hz | hz
        · exact s2 z hz
        · subst hz;trivial
      · rcases List.mem_append.1 hz with hz | hz
        · simp at hz
          rcases hz with rfl | rfl | rfl
          · trivial
          · trivial
          · exact hB
        · exact aBL (E.no x y) z hz
theorem bx(i:Nat){nb:Nat}{cs:List SV}(hs:OO (iZ T n K cf m e L)=some (K',cf',m',e',L'))(hb:L'[i]?=some (.box nb cs))(hz:fD i cf'.w4=true)(k:G (.mk P T hT n c B0 N X Q) K' m' e' (L'.set i (.box nb (nbL cs))) cf'):G (.mk P T hT n c B0 N X Q) K m e L cf:=by
  refine go hs (chg (fun _:Unit=>m') (fun _=>e') (fun _=>L'.set i (.box nb (nbL cs))) (fun B a w hm hA hS=>?_) (fun _=>DX hz) (fun _=>k))
  obtain⟨⟨R,s1,s2⟩,s0⟩:=hS
  have e1:(L'.set i (.box nb (nbL cs))).map (iS B)=L'.map (iS B):=by
    obtain⟨hl,he⟩:=List.getElem?_eq_some_iff.1 hb
    rw [List.map_set]
    have:iS B (.box nb (nbL cs))=(L'.map (iS B))[i]'(by simpa using hl):=by
      rw [List.getElem_map,he];simp only [iS,K1,IS]
    rw [this];exact List.set_getElem_self _
  refine⟨(),[],by simpa using hm,by simpa using hA,⟨⟨R,?_,fun z hz=>?_⟩,s0⟩⟩
  · rw [List.append_nil,e1];exact s1
  · rw [List.append_nil]
    rcases List.mem_or_eq_of_mem_set hz with hz | hz
    · exact s2 z hz
    · subst hz;trivial
theorem nw(α:Type)[aI α](hs:OO (iZ T n K cf m e L)=some (K',cf',m',e',L'))
    (k:G (.mk P T hT n c B0 N X Q) K' m' e' (L' ++ [ow ⟨none,0⟩ ([]:List α)]) cf'):G (.mk P T hT n c B0 N X Q) K m e L cf:=by
  refine go hs ?_
  refine chg (fun _:Unit=>m') (fun _=>e') (fun _=>L' ++ [ow ⟨none,0⟩ ([]:List α)]) (fun B a w hm hA hS=>?_) (fun _=>uY _) (fun _=>k)
  obtain⟨⟨R,s1,s2⟩,s0⟩:=hS
  refine⟨(),[],by simpa using hm,by simpa using hA,⟨⟨R,?_,fun z hz=>?_⟩,s0⟩⟩
  · rw [List.append_nil,List.map_append]
    exact St.more s1 (eY.refl _ _) ⟨F0,⟨none,0,rfl,Nat.le_refl _,Nat.zero_le _,.inl ⟨rfl,rfl,fun _ _ h=>h⟩⟩,fun _ _ h=>h.elim⟩
  · rw [List.append_nil]
    rcases List.mem_append.1 hz with hz | hz
    · exact s2 z hz
    · simp at hz;subst hz;trivial
theorem Q5{Z:Act→World→Prop}(α:Type)[aI α](kk:∀a w,nN n c B0 m e (L ++ [ow ⟨none,0⟩ ([]:List α)]) a w→Z a w):∀a w,nN n c B0 m e L a w→Z a w:=by
  intro a w ⟨B,hm,hA,hS⟩
  refine kk a w ⟨B,hm,hA,?_⟩
  obtain⟨⟨R,s1,s2⟩,s0⟩:=hS
  refine⟨⟨R,?_,fun z hz=>?_⟩,s0⟩
  · rw [List.map_append]
    exact St.more s1 (eY.refl _ _) ⟨F0,⟨none,0,rfl,Nat.le_refl _,Nat.zero_le _,.inl ⟨rfl,rfl,fun _ _ h=>h⟩⟩,fun _ _ h=>h.elim⟩
  · rcases List.mem_append.1 hz with hz | hz
    · exact s2 z hz
    · simp at hz;subst hz;trivial
end
end Go.Gv
end
noncomputable section
set_option linter.unusedVariables false
namespace Go.Gv
def AC.sub(s:AC)(n a:Nat):AC:=⟨if s.c=a then s.a else s.a.map (·.add (a * n)),s.c - a⟩
theorem J0{α:Type}{l:List α}{s:AC}{n a b k:Nat}(h1:a≤b)(h2:b≤l.length):fM n a b (s.v k)=(s.sub n a).v ((l.take b).drop a).length:=by
  rw [w3 h1 h2];rfl
noncomputable section
variable {P:Program} {T:TT} {hT:CJ P T} {n:Nat} {c:Ctx} {B0:Bl} {N:Act→World→Prop} {X:Nat→Act→World→Prop} {Q:Act→World→Prop} {K K':List Fr} {m m':Nat} {e e':SE} {L L' Lv:List Ch} {cf cf' cf1 cf2:tH} {o:Oper} {d:Nat}
theorem cpc{α:Type}[aI α](j:Nat){s:AC}{l:List α}(hs:OO (iZ T n K cf m e L)=some (K',cf',m',e',L'))(hj:L'[j]?=some (ow s l))(k:l.length≤s.c→G (.mk P T hT n c B0 N X Q) K' m' e' L' cf'):G (.mk P T hT n c B0 N X Q) K m e L cf:=by
  refine go hs ?_
  refine chg (fun _:PLift (l.length≤s.c)=>m') (fun _=>e') (fun _=>L') (fun B a w hm hA hS=>?_) (fun _=>by simpa using uY (L:=L') []) (fun h=>k h.down)
  obtain⟨⟨R,s1,s2⟩,s0⟩:=hS
  obtain⟨F,hF⟩:=s1.chunk (ch:=eV [s.v l.length] l) j (by simp [hj,iS])
  obtain⟨ad,cp,h1,h2⟩:=DM (show aI.own w [s.v l.length] l F from hF)
  simp only [AC.v,Value.slice.injEq] at h1
  exact⟨⟨by omega⟩,[],by simpa using hm,by simpa using hA,⟨⟨R,by simpa using s1,by simpa using s2⟩,s0⟩⟩
noncomputable section
variable {x y z u:Operand} {t el sz:Nat} {k1 k2 k3:IntKind} {i j p:Int} {α β:Type} [aI α] {A:Option β} {q:β} {s:AC} {l:List α} {b1 b2:Bool} {n1:Nat} {z1 z2:List SV} {kt:TK}
theorem aFW(hc:l.length≤s.c)(hs:VM (iZ T n K cf m e L)=some (o,Lv,cf1,cf2,K',m',e',L'))(ho:(o.op,o.dst)=(.slice t x (some y) none none,some d))(ht:wZ T t=some ⟨.sl el,b1,n1,z1⟩)(he:wZ T el=some ⟨kt,b2,sz,z2⟩)(hx:gN e' x=some (.h s l.length))(hy:(gN e' y).bind pQ=some (k1,i))(hF:need (0≤i∧i≤(l.length:Int)) A=some q)
    (kk:A=some q→(i.toNat≤l.length∧l.length≤l.length)→G (.mk P T hT n c B0 N X Q) K' m' ((d,.h (s.sub sz i.toNat) ((l.take l.length).drop i.toNat).length) :: e') L' cf2):G (.mk P T hT n c B0 N X Q) K m e L cf:=by
  have hop:o.op=.slice t x (some y) none none:=congrArg Prod.fst ho
  have hb:=(iQ hF).1
  have hb2:i.toNat≤l.length∧l.length≤l.length:=by omega
  refine pu hs (congrArg Prod.snd ho) (fun B a w hA hS=>⟨fM sz i.toNat l.length (s.v l.length),by rw [J0 hb2.1 hb2.2];simp [eS,gV,bK],fun _ a hA'=>?_⟩) (kk (iQ hF).2 hb2)
  obtain⟨h0,h1⟩:=hb
  have h5:max i 0=i:=by omega
  simp [execOp,hop,Instr.sliceAt,Instr.slice,run_underlying (CP ht hT),Instr.sliceBounds,hA'.eval (VX hA hx),hA'.eval (tN hA hy),Instr.sliceBound,asIntOf,hT.size _ _ he,h0,h1,hc,h5,fM]
theorem aL1(hc:l.length≤s.c)(hs:VM (iZ T n K cf m e L)=some (o,Lv,cf1,cf2,K',m',e',L'))(ho:(o.op,o.dst)=(.slice t x none (some z) none,some d))(ht:wZ T t=some ⟨.sl el,b1,n1,z1⟩)(he:wZ T el=some ⟨kt,b2,sz,z2⟩)(hx:gN e' x=some (.h s l.length))(hz:(gN e' z).bind pQ=some (k2,j))(hF:need (0≤j∧j≤(l.length:Int)) A=some q)
    (kk:A=some q→(0≤j.toNat∧j.toNat≤l.length)→G (.mk P T hT n c B0 N X Q) K' m' ((d,.h (s.sub sz 0) ((l.take j.toNat).drop 0).length) :: e') L' cf2):G (.mk P T hT n c B0 N X Q) K m e L cf:=by
  have hop:o.op=.slice t x none (some z) none:=congrArg Prod.fst ho
  have hb:=(iQ hF).1
  have hb2:0≤j.toNat∧j.toNat≤l.length:=by omega
  refine pu hs (congrArg Prod.snd ho) (fun B a w hA hS=>⟨fM sz 0 j.toNat (s.v l.length),by rw [J0 hb2.1 hb2.2];simp [eS,gV,bK],fun _ a hA'=>?_⟩) (kk (iQ hF).2 hb2)
  obtain⟨h0,h1⟩:=hb
  have h3:j≤(s.c:Int):=by omega
  have h5:max j 0=j:=by omega
  simp [execOp,hop,Instr.sliceAt,Instr.slice,run_underlying (CP ht hT),Instr.sliceBounds,hA'.eval (VX hA hx),hA'.eval (tN hA hz),Instr.sliceBound,asIntOf,hT.size _ _ he,h0,h3,h5,fM]
theorem aS3(hc:l.length≤s.c)(hs:VM (iZ T n K cf m e L)=some (o,Lv,cf1,cf2,K',m',e',L'))(ho:(o.op,o.dst)=(.slice t x none (some z) (some u),some d))(ht:wZ T t=some ⟨.sl el,b1,n1,z1⟩)(he:wZ T el=some ⟨kt,b2,sz,z2⟩)(hx:gN e' x=some (.h s l.length))(hz:(gN e' z).bind pQ=some (k2,j))(hu:(gN e' u).bind pQ=some (k3,p))(hF:need (0≤j∧j≤p∧p≤(l.length:Int)) A=some q)
    (kk:A=some q→(0≤j.toNat∧j.toNat≤p.toNat∧p.toNat≤l.length)→G (.mk P T hT n c B0 N X Q) K' m' ((d,.h ⟨(s.sub sz 0).a,p.toNat⟩ ((l.take j.toNat).drop 0).length) :: e') L' cf2):G (.mk P T hT n c B0 N X Q) K m e L cf:=by
  have hop:o.op=.slice t x none (some z) (some u):=congrArg Prod.fst ho
  have hb:=(iQ hF).1
  have hb2:0≤j.toNat∧j.toNat≤p.toNat∧p.toNat≤l.length:=by omega
  have hl:=w3 (l:=l) (a:=0) (b:=j.toNat) (by omega) (by omega)
  refine pu hs (congrArg Prod.snd ho) (fun B a w hA hS=>⟨AC.v ⟨(s.sub sz 0).a,p.toNat⟩ ((l.take j.toNat).drop 0).length,by simp [eS,gV,bK],fun _ a hA'=>?_⟩) (kk (iQ hF).2 hb2)
  obtain⟨h0,h1,h2⟩:=hb
  have h3:p≤(s.c:Int):=by omega
  have h4:0≤p:=by omega
  have h5:max j 0=j:=by omega
  have h6:max p 0=p:=by omega
  rw [hl]
  have hadd:s.a.map (fun x=>x.add 0)=s.a:=by cases s.a <;> simp [Addr.add]
  by_cases hp:p=0
  · subst hp
    simp [execOp,hop,Instr.sliceAt,Instr.slice,run_underlying (CP ht hT),Instr.sliceBounds,hA'.eval (VX hA hx),hA'.eval (tN hA hz),hA'.eval (tN hA hu),Instr.sliceBound,asIntOf,hT.size _ _ he,h0,h1,h3,h4,h5,h6,AC.sub,hadd]
  · simp [execOp,hop,Instr.sliceAt,Instr.slice,run_underlying (CP ht hT),Instr.sliceBounds,hA'.eval (VX hA hx),hA'.eval (tN hA hz),hA'.eval (tN hA hu),Instr.sliceBound,asIntOf,hT.size _ _ he,h0,h1,h3,h4,h5,h6,AC.sub,hadd]
end
end
end Go.Gv
end
noncomputable section
set_option linter.unusedVariables false
namespace Go.Gv
noncomputable section
variable {P:Program} {T:TT} {hT:CJ P T} {n:Nat} {c:Ctx} {B0:Bl} {N:Act→World→Prop} {X:Nat→Act→World→Prop} {Q:Act→World→Prop} {K K':List Fr} {m m':Nat} {e e':SE} {L L' Lv:List Ch} {cf cf' cf1 cf2:tH} {o:Oper} {d:Nat}
theorem aP3{α:Type}[aI α]{B:Bl}{w:World}{R:List Fact}{j a b sz:Nat}{s s':AC}{l l':List α}(hn:aI.n α=sz)(hj:L[j]?=some (ow s l))(hb:a≤b∧b≤l.length)(hl:(l.take b).drop a=l')(hs:∀w F,aI.own w [s.v l.length] l F→∃F',aI.own w [s'.v l'.length] l' F'∧∀b o,F' b o→F b o)(hS:kZ c w B L):kZ c w B (L.set j (ow s' l')):=by
  obtain⟨⟨R,s1,s2⟩,s0⟩:=hS
  refine⟨⟨R,?_,fun z hz=>?_⟩,s0⟩
  · rw [List.map_set]
    refine s1.Q7 j (by rw [List.getElem?_map,hj];rfl) fun F hF=>?_
    obtain⟨F',h1,h2⟩:=hs w F hF
    exact⟨F',F0,eY.refl _ _,fun _ _ h=>h.elim,h1,fun b o h=>.inl (h2 b o h)⟩
  · rcases List.mem_or_eq_of_mem_set hz with hz | hz
    · exact s2 z hz
    · subst hz;trivial
theorem aL2{α:Type}[aI α]{s:AC}{l l':List α}{sz a b:Nat}(hn:aI.n α=sz)(hb:a≤b∧b≤l.length)(hl:(l.take b).drop a=l'):∀w F,aI.own w [s.v l.length] l F→∃F',aI.own w [(s.sub sz a).v l'.length] l' F'∧∀b o,F' b o→F b o:=by
  intro w F h
  obtain⟨F',h1,h2⟩:=aG4 hn h hb.1 hb.2
  rw [J0 hb.1 hb.2,hl] at h1
  exact⟨F',h1,h2⟩
theorem aL3{α:Type}[aI α]{s:AC}{l l':List α}{sz b p:Nat}(hn:aI.n α=sz)(hb:0≤b∧b≤p∧p≤l.length)(hl:(l.take b).drop 0=l'):∀w F,aI.own w [s.v l.length] l F→∃F',aI.own w [AC.v ⟨(s.sub sz 0).a,p⟩ l'.length] l' F'∧∀b o,F' b o→F b o:=by
  intro w F h
  obtain⟨F',h1,h2⟩:=aKM hn h hb.1 hb.2.1 hb.2.2
  have hadd:s.a.map (fun x=>x.add 0)=s.a:=by cases s.a <;> simp [Addr.add]
  have hln:=w3 (l:=l) (a:=0) (b:=b) (by omega) (by omega)
  rw [hl] at hln h1
  refine⟨F',?_,h2⟩
  have:aIK sz 0 b p (s.v l.length)=AC.v ⟨(s.sub sz 0).a,p⟩ l'.length:=by
    rw [hln]
    simp only [aIK,AC.v,AC.sub,Nat.zero_mul,hadd,Nat.sub_zero]
    by_cases hp:p=0 <;> simp [hp,hadd]
  rw [this] at h1
  exact h1
theorem poR{Z:Act→World→Prop}{α:Type}[aI α](j a b:Nat){sz:Nat}{s:AC}{l l':List α}(hn:aI.n α=sz)(hj:L[j]?=some (ow s l))(hb:a≤b∧b≤l.length)(hl:(l.take b).drop a=l')
    (kk:∀a' w,nN n c B0 m e (L.set j (ow (s.sub sz a) l')) a' w→Z a' w):∀a' w,nN n c B0 m e L a' w→Z a' w:=by
  intro a' w ⟨B,hm,hA,hS⟩
  exact kk a' w ⟨B,hm,hA,aP3 (R:=[]) hn hj hb hl (aL2 hn hb hl) hS⟩
theorem pmR{Z:Act→World→Prop}{α:Type}[aI α](j b p:Nat){sz:Nat}{s:AC}{l l':List α}(hn:aI.n α=sz)(hj:L[j]?=some (ow s l))(hb:0≤b∧b≤p∧p≤l.length)(hl:(l.take b).drop 0=l')
    (kk:∀a' w,nN n c B0 m e (L.set j (ow ⟨(s.sub sz 0).a,p⟩ l')) a' w→Z a' w):∀a' w,nN n c B0 m e L a' w→Z a' w:=by
  intro a' w ⟨B,hm,hA,hS⟩
  exact kk a' w ⟨B,hm,hA,aP3 (R:=[]) hn hj ⟨by omega,by omega⟩ hl (aL3 hn hb hl) hS⟩
theorem aL4{α:Type}{l xs:List α}{k a n:Nat}(h:k≤n∧n≤l.length)(ha:a≤l.length):k≤n∧n≤(cX l a xs).length:=⟨h.1,by rw [eE ha];exact h.2⟩
theorem aHW{α:Type}{l xs:List α}{k a:Nat}(h:k≤a)(ha:a≤l.length):((cX l a xs).take k).drop 0=(l.take k).drop 0:=by
  simp only [List.drop_zero,cX]
  rw [List.take_append_of_le_length (by simp;omega),List.take_take,Nat.min_eq_left h]
def AC.aOV(s:AC)(n a p:Nat):AC:=⟨if p=a then s.a else s.a.map (·.add (a * n)),p - a⟩
noncomputable section
variable {x y z:Operand} {t el sz:Nat} {zv:Value} {k1 k2:IntKind} {i j:Int} {α β:Type} [aI α] {A:Option β} {q:β} {s:AC} {l:List α} {b1 b2:Bool} {n1:Nat} {z1 z2:List SV} {kt:TK}
theorem ap2[Flat α](p a b:Nat)(hb:a≤b∧b≤l.length)(hs:iZ T n K cf m e L=.op o Lv cf1 cf2 K' m' e' L')(ho:(o.op,o.dst)=(.call {callee:=.builtin .append,args:=#[x,y],argTypes:=#[t,t]},some d))(ht:wZ T t=some ⟨.sl el,b1,n1,z1⟩)(he:wZ T el=some ⟨kt,b2,sz,z2⟩)(hn:aI.n α=sz)(hp:L'[p]?=some (ow s l))(hz:fD p cf1.w4=true)(hx:gN e' x=some (.h (s.sub sz 0) ((l.take a).drop 0).length))(hy:gN e' y=some (.h (s.sub sz b) ((l.take l.length).drop b).length))
    (k:(0≤a+(l.length - b)∧a+(l.length - b)≤(cX l a (l.drop b)).length)→G (.mk P T hT n c B0 N X Q) K' m' ((d,.h (s.sub sz 0) (((cX l a (l.drop b)).take (a+(l.length - b))).drop 0).length) :: e') (L'.set p (ow s (cX l a (l.drop b)))) cf2):G (.mk P T hT n c B0 N X Q) K m e L cf:=by
  have hlen:(cX l a (l.drop b)).length=l.length:=eE (by omega)
  have hk:0≤a+(l.length - b)∧a+(l.length - b)≤(cX l a (l.drop b)).length:=by omega
  refine fE (g:=.mk P T hT n c B0 N X Q) ?_
  rw [hs]
  intro hdn _ hE
  refine hE Unit (fun _=>m') (fun _=>(d,.h (s.sub sz 0) (((cX l a (l.drop b)).take (a+(l.length - b))).drop 0).length) :: e') (fun _=>L'.set p (ow s (cX l a (l.drop b)))) (fun _=>DX hz) (fun B act w next Q' hm hA hS hnext=>?_) (fun _=>k hk)
  obtain⟨⟨R,s1,s2⟩,s0⟩:=hS
  have hx2:ev (vE (PD (.mk P T hT n c B0 N X Q) cf1++B) e') x=some (fM sz 0 a (s.v l.length)):=by rw [VX hA hx,J0 (Nat.zero_le a) (Nat.le_trans hb.1 hb.2)]
  have hy2:ev (vE (PD (.mk P T hT n c B0 N X Q) cf1++B) e') y=some (fM sz b l.length (s.v l.length)):=by rw [VX hA hy,J0 hb.2 (Nat.le_refl _)]
  have hop:o.op=.call {callee:=.builtin .append,args:=#[x,y],argTypes:=#[t,t]}:=congrArg Prod.fst ho
  have hd:o.dst=some d:=congrArg Prod.snd ho
  obtain⟨v,w',k1,rfl,k2⟩:=aFK p s1 (by rw [List.getElem?_map,hp];rfl) hn hb.1 hb.2 (CP ht hT) (hT.size _ _ he) hop hx2 hy2
  unfold Oper.wp
  rw [k1 _ act hA.env,Oper.upon_value,hd]
  have hv:eS (PD (.mk P T hT n c B0 N X Q) cf1++B) (.h (s.sub sz 0) (((cX l a (l.drop b)).take (a+(l.length - b))).drop 0).length)=some (fM sz 0 (a+(l.length - b)) (s.v l.length)):=by
    have:=J0 (l:=cX l a (l.drop b)) (s:=s) (n:=sz) (k:=l.length) hk.1 hk.2
    rw [this]
    simp [eS,gV,bK]
  refine hnext () _ _ ⟨[],by simpa using hm,by simpa using hA.of hv (hA.env.put (by rw [hd] at hdn;simpa [oN,Nat.blt_eq] using hdn) _),?_⟩
  rw [List.append_nil]
  refine⟨⟨R,?_,fun z hz=>?_⟩,s0⟩
  · rw [List.map_set]
    show St c w' ((L'.map _).set p (eV [s.v (cX l a (l.drop b)).length] _)) R
    rw [hlen];exact k2
  · rcases List.mem_or_eq_of_mem_set hz with hz | hz
    · exact s2 z hz
    · subst hz;trivial
theorem aP4(p k':Nat)(hk:k'≤l.length){l0:List α}(h0:l0.length=k')(hs:VM (iZ T n K cf m e L)=some (o,Lv,cf1,cf2,K',m',e',L'))(ho:(o.op,o.dst)=(.slice t x (some y) (some z) none,some d))(ht:wZ T t=some ⟨.sl el,b1,n1,z1⟩)(he:wZ T el=some ⟨kt,b2,sz,z2⟩)(hn:aI.n α=sz)(hp:Lv[p]?=some (ow s l))(hx:gN e' x=some (.h (s.sub sz 0) l0.length))(hy:(gN e' y).bind pQ=some (k1,i))(hz:(gN e' z).bind pQ=some (k2,j))(hF:need (0≤i∧i≤j∧j≤(l.length:Int)) A=some q)
    (kk:A=some q→(i.toNat≤j.toNat∧j.toNat≤l.length)→G (.mk P T hT n c B0 N X Q) K' m' ((d,.h (s.sub sz i.toNat) ((l.take j.toNat).drop i.toNat).length) :: e') L' cf2):G (.mk P T hT n c B0 N X Q) K m e L cf:=by
  have hop:o.op=.slice t x (some y) (some z) none:=congrArg Prod.fst ho
  have hb:=(iQ hF).1
  have hb2:i.toNat≤j.toNat∧j.toNat≤l.length:=by omega
  refine pu hs (congrArg Prod.snd ho) (fun B a w hA hS=>⟨fM sz i.toNat j.toNat (s.v l.length),by rw [J0 hb2.1 hb2.2];simp [eS,gV,bK],?_⟩) (kk (iQ hF).2 hb2)
  obtain⟨⟨R,s1,s2⟩,s0⟩:=hS
  have hx2:ev (vE B e') x=some (fM sz 0 k' (s.v l.length)):=by
    rw [VX hA hx,h0];rfl
  exact aFL p s1 (by rw [List.getElem?_map,hp];rfl) hn (CP ht hT) (hT.size _ _ he) hb hop hx2 (tN hA hy) (tN hA hz)
theorem clr[Flat α](p a b:Nat)(zd:α)(hb:a≤b∧b≤l.length)(hinf:PC P el sz zv)(hzs:zv.cells.size=sz)(hzd:∀w,aI.rd F0 w zv.cells.toList zd)(hone:(zv.cells.toList.all fun v=>v.oneCell')=true)(hs:iZ T n K cf m e L=.op o Lv cf1 cf2 K' m' e' L')(ho:(o.op,o.dst)=(.call {callee:=.builtin .clear,args:=#[x],argTypes:=#[t]},none))(ht:wZ T t=some ⟨.sl el,b1,n1,z1⟩)(hn:aI.n α=sz)(hp:L'[p]?=some (ow s l))(hz:fD p cf1.w4=true)(hx:gN e' x=some (.h (s.sub sz a) ((l.take b).drop a).length))
    (k:G (.mk P T hT n c B0 N X Q) K' m' e' (L'.set p (ow s (cX l a (List.replicate (b - a) zd)))) cf2):G (.mk P T hT n c B0 N X Q) K m e L cf:=by
  have hlen:(cX l a (List.replicate (b - a) zd)).length=l.length:=eE (by omega)
  refine fE (g:=.mk P T hT n c B0 N X Q) ?_
  rw [hs]
  intro hdn _ hE
  refine hE Unit (fun _=>m') (fun _=>e') (fun _=>L'.set p (ow s (cX l a (List.replicate (b - a) zd)))) (fun _=>DX hz) (fun B act w next Q' hm hA hS hnext=>?_) (fun _=>k)
  obtain⟨⟨R,s1,s2⟩,s0⟩:=hS
  have hx2:ev (vE (PD (.mk P T hT n c B0 N X Q) cf1++B) e') x=some (fM sz a b (s.v l.length)):=by rw [VX hA hx,J0 hb.1 hb.2]
  have hop:o.op=.call {callee:=.builtin .clear,args:=#[x],argTypes:=#[t]}:=congrArg Prod.fst ho
  have hd:o.dst=none:=congrArg Prod.snd ho
  obtain⟨v,w',k1,rfl,k2⟩:=aKR zd p s1 (by rw [List.getElem?_map,hp];rfl) hn hb.1 hb.2 (CP ht hT) hinf hzs hzd (fun v hv=>List.all_eq_true.1 hone v hv) hop hx2
  unfold Oper.wp
  rw [k1 _ act hA.env,Oper.upon_value,hd]
  refine hnext () _ _ ⟨[],by simpa using hm,by simpa [Act.put] using hA,?_⟩
  rw [List.append_nil]
  refine⟨⟨R,?_,fun z hz=>?_⟩,s0⟩
  · rw [List.map_set]
    show St c w' ((L'.map _).set p (eV [s.v (cX l a (List.replicate (b - a) zd)).length] _)) R
    rw [hlen];exact k2
  · rcases List.mem_or_eq_of_mem_set hz with hz | hz
    · exact s2 z hz
    · subst hz;trivial
theorem aL5{u:Operand}{k3:IntKind}{pz:Int}(hc:l.length≤s.c)(hs:VM (iZ T n K cf m e L)=some (o,Lv,cf1,cf2,K',m',e',L'))(ho:(o.op,o.dst)=(.slice t x (some y) (some z) (some u),some d))(ht:wZ T t=some ⟨.sl el,b1,n1,z1⟩)(he:wZ T el=some ⟨kt,b2,sz,z2⟩)(hx:gN e' x=some (.h s l.length))(hy:(gN e' y).bind pQ=some (k1,i))(hz:(gN e' z).bind pQ=some (k2,j))(hu:(gN e' u).bind pQ=some (k3,pz))(hF:need (0≤i∧i≤j∧j≤pz∧pz≤(l.length:Int)) A=some q)
    (kk:A=some q→(i.toNat≤j.toNat∧j.toNat≤pz.toNat∧pz.toNat≤l.length)→G (.mk P T hT n c B0 N X Q) K' m' ((d,.h (s.aOV sz i.toNat pz.toNat) ((l.take j.toNat).drop i.toNat).length) :: e') L' cf2):G (.mk P T hT n c B0 N X Q) K m e L cf:=by
  have hop:o.op=.slice t x (some y) (some z) (some u):=congrArg Prod.fst ho
  have hb:=(iQ hF).1
  have hb2:i.toNat≤j.toNat∧j.toNat≤pz.toNat∧pz.toNat≤l.length:=by omega
  have hl:=w3 (l:=l) (a:=i.toNat) (b:=j.toNat) (by omega) (by omega)
  refine pu hs (congrArg Prod.snd ho) (fun B a w hA hS=>⟨AC.v (s.aOV sz i.toNat pz.toNat) ((l.take j.toNat).drop i.toNat).length,by simp [eS,gV,bK],fun _ a hA'=>?_⟩) (kk (iQ hF).2 hb2)
  obtain⟨h0,h1,h2,h2'⟩:=hb
  have h3:pz≤(s.c:Int):=by omega
  have h4:0≤pz:=by omega
  have h4':0≤j:=by omega
  have h5:max j 0=j:=by omega
  have h6:max pz 0=pz:=by omega
  have h7:max i 0=i:=by omega
  rw [hl]
  by_cases hp:pz.toNat=i.toNat
  · have:pz=i:=by omega
    subst this
    simp [execOp,hop,Instr.sliceAt,Instr.slice,run_underlying (CP ht hT),Instr.sliceBounds,hA'.eval (VX hA hx),hA'.eval (tN hA hy),hA'.eval (tN hA hz),hA'.eval (tN hA hu),Instr.sliceBound,asIntOf,hT.size _ _ he,h0,h1,h2,h3,h4,h4',h5,h6,h7,AC.aOV]
  · have hp2:¬pz=i:=fun h=>hp (by rw [h])
    simp [execOp,hop,Instr.sliceAt,Instr.slice,run_underlying (CP ht hT),Instr.sliceBounds,hA'.eval (VX hA hx),hA'.eval (tN hA hy),hA'.eval (tN hA hz),hA'.eval (tN hA hu),Instr.sliceBound,asIntOf,hT.size _ _ he,h0,h1,h2,h3,h4,h4',h5,h6,h7,hp,hp2,AC.aOV]
theorem aT8{t2:Nat}(hs:VM (iZ T n K cf m e L)=some (o,Lv,cf1,cf2,K',m',e',L'))(ho:(o.op,o.dst)=(.binOp .shl t x y t2,some d))(hx:(gN e' x).bind pQ=some (k1,i))(hy:(gN e' y).bind pQ=some (k2,j))(hF:need (0≤j) A=some q)
    (kk:A=some q→G (.mk P T hT n c B0 N X Q) K' m' ((d,.i k1 (Z1 k1 i j)) :: e') L' cf2):G (.mk P T hT n c B0 N X Q) K m e L cf:=
  pu hs (congrArg Prod.snd ho) (fun B a w hA _=>⟨_,rfl,aJT (congrArg Prod.fst ho) (tN hA hx) (tN hA hy) (by have:=(iQ hF).1;omega)⟩) (kk (iQ hF).2)
theorem eqn{t2:Nat}{ln:Nat}(hs:VM (iZ T n K cf m e L)=some (o,Lv,cf1,cf2,K',m',e',L'))(ho:(o.op,o.dst)=(.binOp .eql t x (.const (.slice none 0 0)) t2,some d))(ht:wZ T t=some ⟨.sl el,b1,n1,z1⟩)(hx:gN e' x=some (.h s ln))
    (kt:s.a=none→G (.mk P T hT n c B0 N X Q) K' m' ((d,.l true) :: e') L' cf2) (kf:G (.mk P T hT n c B0 N X Q) K' m' ((d,.l false) :: e') L' cf2):G (.mk P T hT n c B0 N X Q) K m e L cf:=by
  cases hs':s.a with
  | none=>exact pu hs (congrArg Prod.snd ho) (fun B a w hA _=>⟨_,rfl,aFH (CP ht hT) ⟨ln,s.c,by simp [AC.v,hs']⟩ (congrArg Prod.fst ho) (VX hA hx) rfl⟩) (kt hs')
  | some ad=>exact pu hs (congrArg Prod.snd ho) (fun B a w hA _=>⟨_,rfl,aFI (CP ht hT) ⟨ad,ln,s.c,by simp [AC.v,hs']⟩ (congrArg Prod.fst ho) (VX hA hx) rfl⟩) kf
theorem cln{w:Ctx}{r:List α}(h:bS w s l)(hn:s.a=none)(hF:need (([]:List α).length+l.length≤1073741824) (some (([]:List α)++l))=some r):some ([]:List α)=some r:=by
  obtain⟨ad,cp,h1,h2,h3,h4⟩:=(show pU w.S0 w.w0 [s.v l.length] l from h)
  have:l=[]:=by
    rcases h4 with h4 | ⟨b,off,h4,_⟩
    · exact h4
    · simp only [AC.v,List.cons.injEq,Value.slice.injEq] at h1
      rw [hn,h4] at h1
      exact absurd h1.1.1 (by simp)
  subst this
  simpa [need] using hF
end
noncomputable section
variable {x y:Operand} {t el sz:Nat} {zv:Value} {b1:Bool} {n1:Nat} {z1:List SV}
theorem YJ{α:Type}[aI α](E:CO α)(is:List Nat)(q:α)(ye:E.ex)(hinf:PC P el sz zv)(hs:iZ T n K cf m e L=.op o Lv cf1 cf2 K' m' e' L')(ho:(o.op,o.dst)=(.buildSlice t 1 #[(0,x)],some d))(ht:wZ T t=some ⟨.sl el,b1,n1,z1⟩)(hn:aI.n α=sz)(hm:Nat.ble 1 sz=true)(hm2:Nat.ble sz 16777216=true)(hx:(gN e' x).map (fun v=>nbL (mS v))=some (E.cs q ye))(hxc:(gN e' x).map CM=some true)(hle:(E.cs q ye).length=sz)(hec:(aW (bK []) (E.cs q ye)).isSome=true)(hi:aW (fun i=>L'[i]?) is=some (E.Lx q ye))(ha:cZ is=true)(hz:(is.all fun j=>fD j cf1.w4)=true)
    (k:∀s':AC,G (.mk P T hT n c B0 N X Q) K' m' ((d,.h s' [q].length) :: e') (LF L' is ++ [ow s' [q]]) cf2):G (.mk P T hT n c B0 N X Q) K m e L cf:=by
  obtain⟨ec,hec⟩:=Option.isSome_iff_exists.1 hec
  refine aIQ (l:=[q]) (fun s'=>LF L' is ++ [ow s' [q]]) hs (congrArg Prod.snd ho) (fun _=>U1 _ hz) (fun B a w hA hS=>?_) k
  obtain⟨⟨R,s1,s2⟩,s0⟩:=hS
  have hecl:ec.length=sz:=by rw [jQ hec,hle]
  cases hxv:gN e' x with
  | none=>rw [hxv] at hx;cases hx
  | some xv =>
    rw [hxv] at hx hxc
    simp at hx hxc
    obtain⟨v,v1,v2⟩:=dU hA hxv
    have hcell:aW (bK B) (mS xv)=some ec:=by
      rw [←IS,hx];exact eF (fun x v h=>by simpa using eZ (B:=[]) B h) hec
    have hvc:v.cells.toList=ec:=HM v1 hcell
    have p1:=s1.shift is ha (A':=[eV ec q]) fun F hF=>by
      rw [U2 hi,E.nb] at hF
      exact Sep.one.2 ((E.pk hec w F).2 hF)
    have hlen:(blank (L'.map (iS B)) is).length=L'.length:=by rw [←IT];simp [U3]
    obtain⟨v',w',k1,k2⟩:=aNY (e:=vE B e') (o:=o) (ps:=[(0,x)]) (vs:=[v]) (cells:=ec) [q] p1 [L'.length] rfl ⟨[],by
        simp only [pick,List.getElem?_append_right (Nat.le_of_eq hlen),hlen,Nat.sub_self]
        rw [show ec.take sz=ec by rw [←hecl];exact List.take_length]
        rfl,by rw [List.length_take,hecl];omega,⟨by rw [←hecl];exact List.drop_length,rfl⟩⟩ hn (CP ht hT) hinf rfl hm (by simpa using hm2) (congrArg Prod.fst ho) (by simp [VC,v2]) (aC8 (vs:=[v]) (ps:=[(0,x)]) rfl rfl (by simp;rw [←Array.length_toList,hvc,hecl]) (by simp [hvc]))
    have hb2:blank (blank (L'.map (iS B)) is ++ [eV ec q]) [L'.length]=blank (L'.map (iS B)) is ++ [DL]:=by
      simp only [blank]
      rw [List.set_append_right _ _ (by omega),hlen];simp
    rw [hb2] at k2
    obtain⟨s',rfl⟩:=RG (v:=v') (l:=[q]) k2 (L'.length+1) (by rw [List.getElem?_append_right (by simp [hlen])];simp [hlen])
    refine⟨s',w',k1,⟨⟨R,?_,fun z hz=>?_⟩,s0⟩⟩
    · have k3:=k2.IL ((List.range L'.length) ++ [L'.length+1]) ?_
      · refine k3.imp ?_
        rw [List.map_append,IT,PO]
        refine hC.append ?_ ?_
        · have:pick (blank (L'.map (iS B)) is ++ [DL] ++ [eV [s'.v [q].length] [q]]) (List.range L'.length)=blank (L'.map (iS B)) is:=by
            have gen:∀(M M':List Chunk) (j:Nat),pick (M++M') ((List.range j))=(M++M').take j∨¬j≤(M++M').length:=by
              intro M M' j
              by_cases hj:j≤(M++M').length
              · left
                induction j with
                | zero=>rfl
                | succ j ih =>
                  rw [List.range_succ,PO,ih (by omega)]
                  simp only [pick]
                  rw [List.take_add_one,List.getElem?_eq_getElem (by omega)]
                  rfl
              · exact .inr hj
            rcases gen (blank (L'.map (iS B)) is ++ [DL]) [eV [s'.v [q].length] [q]] L'.length with h | h
            · rw [h,List.append_assoc,List.take_append_of_le_length (by omega),←hlen,List.take_length]
            · exact absurd (by simp [hlen]) h
          rw [this];exact hC.refl _
        · simp only [pick]
          rw [List.getElem?_append_right (by simp [hlen])]
          simp [hlen,iS]
          try exact hC.refl _
      · have gen:∀(j:Nat),cZ (List.range' j (L'.length - j) ++ [L'.length+1])=true:=by
          intro j
          generalize hk:L'.length - j=k
          induction k generalizing j with
          | zero=>rfl
          | succ k ih =>
            rw [List.range'_succ,List.cons_append]
            simp only [cZ,Bool.and_eq_true,List.all_eq_true,Bool.not_eq_true']
            refine⟨fun i hi=>?_,ih (j+1) (by omega)⟩
            cases hb:Nat.beq j i with
            | false=>rfl
            | true =>
              have:=Nat.eq_of_beq_eq_true hb
              subst this
              rcases List.mem_append.1 hi with hi | hi
              · rw [List.mem_range'] at hi
                obtain⟨p,_,hp⟩:=hi
                omega
              · simp at hi;omega
        have:=gen 0
        rwa [Nat.sub_zero,←List.range_eq_range'] at this
    · rcases List.mem_append.1 hz with hz | hz
      · rcases PM _ _ hz with hz | hz
        · exact s2 z hz
        · subst hz;trivial
      · simp at hz;subst hz;trivial
theorem apN{α β:Type}[aI α]{A:Option β}{q:β}{s s2:AC}{l xs:List α}(i j:Nat)(hinf:PC P el sz zv)(hs:iZ T n K cf m e L=.op o Lv cf1 cf2 K' m' e' L')(ho:(o.op,o.dst)=(.call {callee:=.builtin .append,args:=#[x,y],argTypes:=#[t,t]},some d))(ht:wZ T t=some ⟨.sl el,b1,n1,z1⟩)(hn:aI.n α=sz)(hzs:zv.cells.size=sz)(hi:L'[i]?=some (ow s l))(hj:L'[j]?=some (ow s2 xs))(ha:cZ [i,j]=true)(hz:([i,j].all fun j=>fD j cf1.w4)=true)(hx:gN e' x=some (.h s l.length))(hy:gN e' y=some (.h s2 xs.length))(hF:need (l.length+xs.length≤1073741824) A=some q)
    (k:A=some q→∀s':AC,G (.mk P T hT n c B0 N X Q) K' m' ((d,.h s' (l++xs).length) :: e') (LF L' [i,j] ++ [ow s' (l++xs)]) cf2):G (.mk P T hT n c B0 N X Q) K m e L cf:=by
  refine aIQ (l:=l++xs) (fun s'=>LF L' [i,j] ++ [ow s' (l++xs)]) hs (congrArg Prod.snd ho) (fun _=>U1 _ hz) (fun B a w hA hS=>?_) (k (iQ hF).2)
  obtain⟨⟨R,s1,s2'⟩,s0⟩:=hS
  have hp:pick (L'.map (iS B)) [i,j]=[eV [s.v l.length] l,eV [s2.v xs.length] xs]:=by simp [pick,hi,hj,iS]
  obtain⟨v,w',k1,k2⟩:=aNZ [i,j] s1 ha hp hn (CP ht hT) hinf hzs (iQ hF).1 (congrArg Prod.fst ho) (VX hA hx) (VX hA hy)
  have hlen:(blank (L'.map (iS B)) [i,j]).length=L'.length:=by rw [←IT];simp [U3]
  obtain⟨s',rfl⟩:=RG k2 L'.length (by rw [List.getElem?_append_right (Nat.le_of_eq hlen),hlen,Nat.sub_self];rfl)
  refine⟨s',w',k1,⟨⟨R,?_,fun z hz=>?_⟩,s0⟩⟩
  · rw [List.map_append,IT];exact k2
  · rcases List.mem_append.1 hz with hz | hz
    · rcases PM _ _ hz with hz | hz
      · exact s2' z hz
      · subst hz;trivial
    · simp at hz;subst hz;trivial
end
theorem kb{b cb:Bool}(ss:List Nat)(hb:b=cb)(hs:OO (iZ T n K cf m e L)=some (K',cf',m',e',L'))(ho:aW (zL e') ss=some (ss.map fun _=>SV.b b))(k:G (.mk P T hT n c B0 N X Q) K' m' (YM cb e' ss) L' cf'):G (.mk P T hT n c B0 N X Q) K m e L cf:=
  go hs (VU (fun a B hA=>NA hb ss ho hA) k)
def rhE(v:SV)(e:SE):List (Nat×Nat)→SE
  | []=>e
  | (k, j) :: r => match zL e k with
    | some (.g cs)=>(k,.g (VL cs j [v])) :: rhE v e r
    | some (.t cs)=>(k,.t (VL cs j [v])) :: rhE v e r
    | _=>rhE v e r
def rhL(v:SV)(L:List Ch):List (Nat×Nat)→List Ch
  | []=>L
  | (k, j) :: r => match L[k]? with
    | some (.box n cs)=>rhL v (L.set k (.box n (VL cs j [v]))) r
    | _=>rhL v L r
theorem U4{B:Bl}{f:Bl→SV→Option Value}{u v:SV}(huv:∀B,f B u=f B v):∀{cs:List SV} {j:Nat},cs[j]?=some u→aW (f B) (VL cs j [v])=aW (f B) cs
  | [],j,h=>by simp at h
  | x :: cs, 0, h => by
    simp at h;subst h
    show aW (f B) (v :: VL cs 0 [])=_
    rw [aBA]
    simp only [aW,huv]
  | x :: cs, j + 1, h => by
    show aW (f B) (x :: VL cs j [v])=_
    simp only [aW,U4 (B:=B) huv (show cs[j]?=some u by simpa using h)]
theorem aL6{s:AC}{n0 n1:Nat}(hn:n0=n1){B:Bl}:∀{ps:List (Nat×Nat)} {k:Nat} {x:SV},(∀p∈ps,∃cs,(zL e p.1=some (.g cs)∨zL e p.1=some (.t cs))∧cs[p.2]?=some (.h s n0))→zL (rhE (.h s n1) e ps) k=some x→∃y,zL e k=some y∧eS B x=eS B y
  | [],k,x,_,h=>⟨x,h,rfl⟩
  | (k', j) :: r, k, x, hp, h => by
    have ih:=fun h=>aL6 hn (B:=B) (ps:=r) (k:=k) (x:=x) (fun p hp'=>hp p (List.mem_cons_of_mem _ hp')) h
    obtain⟨cs,h1,h2⟩:=hp (k',j) (by simp)
    have hc:∀B,bK B (.h s n0)=bK B (.h s n1):=fun B=>by rw [hn]
    have hg:∀B,gV B (.h s n0)=gV B (.h s n1):=fun B=>by rw [hn]
    rcases h1 with h1 | h1
    · simp only [rhE,h1,zL] at h
      split at h
      · rename_i hb
        cases h
        have:=Nat.eq_of_beq_eq_true hb
        subst this
        exact⟨_,h1,by simp only [eS,gV,U4 (f:=bK) hc h2]⟩
      · exact ih h
    · simp only [rhE,h1,zL] at h
      split at h
      · rename_i hb
        cases h
        have:=Nat.eq_of_beq_eq_true hb
        subst this
        exact⟨_,h1,by simp only [eS,U4 (f:=gV) hg h2]⟩
      · exact ih h
theorem aHY{s:AC}{n0 n1:Nat}(hn:n0=n1){B:Bl}{w:World}{R:List Fact}:∀{ps:List (Nat×Nat)} {L:List Ch},(∀p∈ps,∃k cs,L[p.1]?=some (.box k cs)∧cs[p.2]?=some (.h s n0))→cZ (ps.map (·.1))=true→hC w (L.map (iS B)) ((rhL (.h s n1) L ps).map (iS B))∧((∀x∈L,roF B R x)→∀x∈rhL (.h s n1) L ps,roF B R x)
  | [],L,_,_=>⟨hC.refl _,fun h=>h⟩
  | (i, j) :: r, L, hp, ha => by
    obtain⟨k,cs,h1,h2⟩:=hp (i,j) (by simp)
    have hc:∀B,bK B (.h s n0)=bK B (.h s n1):=fun B=>by rw [hn]
    simp only [List.map_cons,cZ,Bool.and_eq_true] at ha
    have ih:=aHY hn (B:=B) (w:=w) (R:=R) (ps:=r) (L:=L.set i (.box k (VL cs j [.h s n1]))) (fun p hp'=>by
      obtain⟨k',cs',h3,h4⟩:=hp p (List.mem_cons_of_mem _ hp')
      have hne:i≠p.1:=fun he=>by
        have:=List.all_eq_true.1 ha.1 p.1 (List.mem_map_of_mem hp')
        rw [he] at this;simp at this
      exact⟨k',cs',by rw [List.getElem?_set_ne hne];exact h3,h4⟩) ha.2
    simp only [rhL,h1]
    refine⟨?_,fun h=>ih.2 fun x hx=>?_⟩
    · have h5:hC w (L.map (iS B)) ((L.set i (.box k (VL cs j [.h s n1]))).map (iS B)):=by
        rw [List.map_set]
        exact hC.put (a:=K1 B k cs) (b:=K1 B k (VL cs j [.h s n1])) i (by rw [List.getElem?_map,h1];rfl) fun F ⟨b,z,vs,q1,q2,q3⟩=>⟨b,z,vs,q1,by rw [U4 (f:=bK) hc h2];exact q2,q3⟩
      have tr:∀{A B C:List Chunk},hC w A B→hC w B C→hC w A C:=by
        intro A B C h1
        induction h1 generalizing C with
        | nil=>exact fun h=>h
        | cons h t ih=>intro h2;cases h2 with | cons h' t'=>exact .cons (fun F hF=>h' F (h F hF)) (ih t')
      exact tr h5 ih.1
    · rcases List.mem_or_eq_of_mem_set hx with hx | hx
      · exact h x hx
      · subst hx;trivial
def atE(e:SE)(p:Nat×Nat):Option SV:=match zL e p.1 with
  | some (.g cs)=>cs[p.2]?
  | some (.t cs)=>cs[p.2]?
  | _=>none
def atL(L:List Ch)(p:Nat×Nat):Option SV:=match L[p.1]? with
  | some (.box _ cs)=>cs[p.2]?
  | _=>none
theorem aHZ{B:Bl}{a:Act}{w:World}(s:AC){n0 n1:Nat}(hn:n0=n1){ps qs:List (Nat×Nat)}(hp:aW (atE e) ps=some (ps.map fun _=>.h s n0))(hq:aW (atL L) qs=some (qs.map fun _=>.h s n0))(ha:cZ (qs.map (·.1))=true)(hA:eU n B e a)(hS:kZ c w B L):eU n B (rhE (.h s n1) e ps) a∧kZ c w B (rhL (.h s n1) L qs):=by
  have key:∀{γ:Type} {f:γ→Option SV} {ps:List γ},aW f ps=some (ps.map fun _=>.h s n0)→∀p∈ps,f p=some (.h s n0):=by
    intro γ f ps
    induction ps with
    | nil=>intro _ p hp;cases hp
    | cons q ps ih =>
      intro h p hp
      simp only [aW,List.map_cons] at h
      split at h
      · cases h
      · rename_i h1
        split at h
        · cases h
        · rename_i h2
          cases h
          rcases List.mem_cons.1 hp with hp | hp
          · subst hp;exact h1
          · exact ih h2 p hp
  refine⟨⟨hA.d,hA.size,fun k x hk=>?_⟩,?_⟩
  · obtain⟨y,h1,h2⟩:=aL6 hn (B:=B) (fun p hp'=>by
      have:=key hp p hp'
      unfold atE at this
      split at this
      · rename_i cs hc;exact⟨cs,.inl hc,this⟩
      · rename_i cs hc;exact⟨cs,.inr hc,this⟩
      · cases this) hk
    obtain⟨v,h3,h4⟩:=hA.get k y h1
    exact⟨v,by rw [h2];exact h3,h4⟩
  · obtain⟨⟨R,s1,s2⟩,s0⟩:=hS
    obtain⟨h1,h2⟩:=aHY hn (B:=B) (w:=w) (R:=R) (L:=L) (fun p hp'=>by
      have:=key hq p hp'
      unfold atL at this
      split at this
      · rename_i k cs hc;exact⟨k,cs,hc,this⟩
      · cases this) ha
    exact⟨⟨R,s1.imp h1,h2 s2⟩,s0⟩
theorem PQ{g:Gx}{cf:tH}{v:SV}:∀{qs:List (Nat×Nat)} {L M:List Ch},Frz g cf L M→((qs.map (·.1)).all fun j=>fD j cf.w4)=true→Frz g cf L (rhL v M qs)
  | [],L,M,h,_=>h
  | (i, j) :: r, L, M, h, hz => by
    simp only [List.map_cons,List.all_cons,Bool.and_eq_true] at hz
    simp only [rhL]
    split
    · exact PQ (qs:=r) (aDT h hz.1) hz.2
    · exact PQ (qs:=r) h hz.2
theorem rh(s:AC){n0 n1:Nat}(hn:n0=n1)(ps qs:List (Nat×Nat))(hp:aW (atE e) ps=some (ps.map fun _=>.h s n0))(hq:aW (atL L) qs=some (qs.map fun _=>.h s n0))(ha:(cZ (qs.map (·.1)) && (qs.map (·.1)).all fun j=>fD j cf.w4)=true)
    (k:G (.mk P T hT n c B0 N X Q) K m (rhE (.h s n1) e ps) (rhL (.h s n1) L qs) cf):G (.mk P T hT n c B0 N X Q) K m e L cf:=by
  rw [Bool.and_eq_true] at ha
  refine chg (fun _:Unit=>m) (fun _=>rhE (.h s n1) e ps) (fun _=>rhL (.h s n1) L qs) (fun B a w hm hA hS=>?_) (fun _=>PQ (by simpa using uY (L:=L) []) ha.2) (fun _=>k)
  obtain⟨h1,h2⟩:=aHZ s hn hp hq ha.1 hA hS
  exact⟨(),[],by simpa using hm,by simpa using h1,by simpa using h2⟩
theorem wO{Z:Act→World→Prop}(s:AC){n0 n1:Nat}(hn:n0=n1)(ps qs:List (Nat×Nat))(hp:aW (atE e) ps=some (ps.map fun _=>.h s n0))(hq:aW (atL L) qs=some (qs.map fun _=>.h s n0))(ha:cZ (qs.map (·.1))=true)
    (kk:∀a w,nN n c B0 m (rhE (.h s n1) e ps) (rhL (.h s n1) L qs) a w→Z a w):∀a w,nN n c B0 m e L a w→Z a w:=by
  intro a w ⟨B,hm,hA,hS⟩
  obtain⟨h1,h2⟩:=aHZ s hn hp hq ha hA hS
  exact kk a w ⟨B,hm,h1,h2⟩
end
end Go.Gv
end
noncomputable section
set_option linter.unusedVariables false
namespace Go.Gv
noncomputable section
variable {P:Program} {T:TT} {hT:CJ P T} {n:Nat} {c:Ctx} {B0:Bl} {N:Act→World→Prop} {X:Nat→Act→World→Prop} {Q:Act→World→Prop} {K K':List Fr} {m m':Nat} {e e':SE} {L L' Lv:List Ch} {cf cf' cf1 cf2:tH} {o:Oper} {d:Nat}
noncomputable section
variable {x:Operand} {t t2 el sz:Nat} {b1 b2 b3:Bool} {n1 n2 n3:Nat} {z1 z2 z3:List SV}
theorem qbo(p:Nat){s:AC}{l:List UInt8}(hs:VM (iZ T n K cf m e L)=some (o,Lv,cf1,cf2,K',m',e',L'))(ho:(o.op,o.dst)=(.convert t t2 x,some d))(ht:wZ T t=some ⟨.sl el,b1,n1,z1⟩)(he:wZ T el=some ⟨.i .u8,b2,n2,z2⟩)(h2:wZ T t2=some ⟨.s,b3,n3,z3⟩)(hp:Lv[p]?=some (ow s l))(hx:gN e' x=some (.h s l.length))
    (kk:G (.mk P T hT n c B0 N X Q) K' m' ((d,.s l) :: e') L' cf2):G (.mk P T hT n c B0 N X Q) K m e L cf:=by
  refine pu hs (congrArg Prod.snd ho) (fun B a w hA hS=>⟨_,rfl,?_⟩) kk
  obtain⟨⟨R,s1,s2⟩,s0⟩:=hS
  have hr:=s1.aGY (cs:=[s.v l.length]) (d:=l) p (by simp [hp,iS])
  obtain⟨de,q1,q2⟩:=hT.und _ _ he
  exact aQT hr (CP ht hT) (by rw [q1];simp only at q2;rw [q2]) (aSV h2 hT) (congrArg Prod.fst ho) (VX hA hx)
theorem aOW{α:Type}[aI α](E:CO α){q:α}{y:E.ex}{ec:List Value}(h:aW (bK []) (E.cs q y)=some ec)(hL:E.Lx q y=[])(w:World):aI.rd F0 w ec q:=by
  have:=(E.pk h w F0).2 (by rw [hL];exact fun _ _ h=>h)
  exact aI.own_rd this
theorem lits{α:Type}[aI α](E:CO α)(y:E.ex){sz:Nat}{B:Bl}{a:Act}(hA:eU n B e a)(hL:∀q,E.Lx q y=[]):∀{ps:List (Nat×Operand)} {qs:List α},aW (fun p=>(gN e p.2).map fun v=>nbL (mS v)) ps=some (qs.map fun q=>E.cs q y)→(qs.all fun q=>Nat.beq (E.cs q y).length sz && (aW (bK []) (E.cs q y)).isSome)=true →
    ∃vs cells,VC (vE B e) (ps.map (·.2))=some vs∧vs.length=ps.length∧(vs.all fun v=>v.cells.size == sz)=true∧(vs.flatMap fun v=>v.cells.toList)=cells∧Z3 sz cells qs
  | [],[],_,_=>⟨[],[],rfl,rfl,rfl,rfl,rfl⟩
  | [],q :: qs,h,_=>by cases h
  | p :: ps, [], h, _ => by
    simp only [aW] at h
    split at h
    · cases h
    · split at h <;> cases h
  | p :: ps, q :: qs, h, hc => by
    simp only [aW,List.map_cons] at h
    split at h
    · cases h
    · rename_i c0 h1
      split at h
      · cases h
      · rename_i cs h2
        simp only [Option.some.injEq,List.cons.injEq] at h
        obtain⟨rfl,rfl⟩:=h
        simp only [List.all_cons,Bool.and_eq_true] at hc
        obtain⟨⟨hl,hsome⟩,hc⟩:=hc
        obtain⟨vs,cells,g1,g2,g3,g4,g5⟩:=lits E y hA hL h2 (by simpa using hc)
        obtain⟨ec,hec⟩:=Option.isSome_iff_exists.1 hsome
        cases hxv:gN e p.2 with
        | none=>rw [hxv] at h1;cases h1
        | some xv =>
          rw [hxv] at h1
          simp at h1
          obtain⟨v,v1,v2⟩:=dU hA hxv
          have hcell:aW (bK B) (mS xv)=some ec:=by
            rw [←IS,h1];exact eF (fun x v h=>by simpa using eZ (B:=[]) B h) hec
          have hvc:v.cells.toList=ec:=HM v1 hcell
          have hecl:ec.length=sz:=by rw [jQ hec];exact Nat.eq_of_beq_eq_true hl
          refine⟨v :: vs,ec++cells,by simp [VC,v2,g1],by simp [g2],?_,by simp [hvc,g4],?_,?_⟩
          · rw [List.all_cons,g3,←Array.length_toList,hvc,hecl];simp
          · rw [List.take_append_of_le_length (Nat.le_of_eq hecl.symm),←hecl,List.take_length]
            exact aOW E hec (hL q) _
          · rw [List.drop_append_of_le_length (Nat.le_of_eq hecl.symm),←hecl,List.drop_length,List.nil_append,hecl]
            exact g5
theorem ltK{α:Type}[aI α][Flat α](E:CO α)(y:E.ex)(qs:List α){len:Nat}{ps:List (Nat×Operand)}{zv:Value}(hinf:PC P el sz zv)(hs:iZ T n K cf m e L=.op o Lv cf1 cf2 K' m' e' L')(ho:(o.op,o.dst)=(.buildSlice t len ⟨ps⟩,some d))(ht:wZ T t=some ⟨.sl el,b1,n1,z1⟩)(hn:aI.n α=sz)(hl:qs.length=len)(hm:Nat.ble 1 sz=true)(hsm:Nat.ble (len * sz) 16777216=true)(hix:ps.map (·.1)=List.range' 0 len)(hev:aW (fun p=>(gN e' p.2).map fun v=>nbL (mS v)) ps=some (qs.map fun q=>E.cs q y))(hec:(qs.all fun q=>Nat.beq (E.cs q y).length sz && (aW (bK []) (E.cs q y)).isSome)=true)(hL:∀q,E.Lx q y=[])
    (k:∀s':AC,G (.mk P T hT n c B0 N X Q) K' m' ((d,.h s' qs.length) :: e') (L' ++ [ow s' qs]) cf2):G (.mk P T hT n c B0 N X Q) K m e L cf:=by
  refine aIQ (l:=qs) (fun s'=>L' ++ [ow s' qs]) hs (congrArg Prod.snd ho) (fun _=>uY _) (fun B a w hA hS=>?_) k
  obtain⟨⟨R,s1,s2⟩,s0⟩:=hS
  obtain⟨vs,cells,g1,g2,g3,g4,g5⟩:=lits E y (sz:=sz) hA hL hev hec
  have hpl:ps.length=len:=by
    have:=congrArg List.length hix
    simpa using this
  obtain⟨v,w',k1,k2⟩:=aFE (e:=vE B e') (o:=o) (ps:=ps) (vs:=vs) (cells:=cells) qs s1 hn (CP ht hT) hinf hl hm hsm g5 (congrArg Prod.fst ho) g1 (aC8 hix (by rw [g2,hpl]) g3 g4)
  obtain⟨s',rfl⟩:=RG (v:=v) (l:=qs) k2 (L'.map (iS B)).length (by simp)
  refine⟨s',w',k1,⟨⟨R,by simpa [iS] using k2,fun z hz=>?_⟩,s0⟩⟩
  rcases List.mem_append.1 hz with hz | hz
  · exact s2 z hz
  · simp at hz;subst hz;trivial
end
end
end Go.Gv
end
noncomputable section
set_option linter.unusedVariables false
namespace Go.Gv
theorem aS4{P:Program}{f:FuncId}{κ:Ctx}{xs:List SV}{ρ:Type}{sv:ρ→SV}{r:ρ}(hcall:∀args w,(callFunc f args).run P w=.ok (.enter f args) w)
    (H:(∀f:Fact,f.P κ.S0 κ.w0→f.P (KZ κ.w0) κ.w0)→∀vs,aW (eS []) xs=some vs→Calls P f vs.toArray κ.w0 (Ret fun v w'=>eS [] (sv r)=some v∧St (cD κ.w0) w' [] [])):Fn0 P f κ xs sv r:=
  ⟨hcall,fun vs hv hS=>Calls.mono (H (fun f hf=>f.mono hf fun b o hb=>hS.s0 b o hb) vs hv) fun en w' ⟨v,h1,h2,h3⟩=>⟨v,h1,(),h2,hS.aLK h3.gG⟩⟩
noncomputable section
variable {P:Program} {T:TT} {hT:CJ P T} {n:Nat} {c:Ctx} {B0:Bl} {N:Act→World→Prop} {X:Nat→Act→World→Prop} {Q:Act→World→Prop} {K K':List Fr} {m m':Nat} {e e':SE} {L L' Lv:List Ch} {cf cf' cf1 cf2:tH} {o:Oper} {d:Nat}
theorem un{α:Type}[aI α](j:Nat)(ks:List Nat)(ps qs:List (Nat×Nat)){s:AC}{n0:Nat}{l:List α}(hj:L[j]?=some (.o (eV [s.v n0] l)))(hz:fD j cf.w4=true)(hk:aW (zL e) ks=some (ks.map fun _=>.h s n0))(hp:aW (atE (ovh (.h s l.length) e ks)) ps=some (ps.map fun _=>.h s n0))(hq:aW (atL (L.set j (ow s l))) qs=some (qs.map fun _=>.h s n0))(ha:(cZ (qs.map (·.1)) && (qs.map (·.1)).all fun j=>fD j cf.w4)=true)
    (k:l.length=n0→G (.mk P T hT n c B0 N X Q) K m (rhE (.h s l.length) (ovh (.h s l.length) e ks) ps) (rhL (.h s l.length) (L.set j (ow s l)) qs) cf):G (.mk P T hT n c B0 N X Q) K m e L cf:=by
  rw [Bool.and_eq_true] at ha
  refine chg (fun _:PLift (l.length=n0)=>m) (fun _=>rhE (.h s l.length) (ovh (.h s l.length) e ks) ps) (fun _=>rhL (.h s l.length) (L.set j (ow s l)) qs) (fun B a w hm hA hS=>?_) (fun _=>PQ (DX hz) ha.2) (fun h=>k h.down)
  have hn:l.length=n0:=by
    obtain⟨⟨R,s1,s2⟩,s0⟩:=hS
    obtain⟨F,hF⟩:=s1.chunk (ch:=eV [s.v n0] l) j (by simp [hj,iS])
    obtain⟨ad,cp,h1,h2⟩:=DM (show aI.own w [s.v n0] l F from hF)
    simp only [AC.v,Value.slice.injEq] at h1
    exact h1.2.1.symm
  subst hn
  have hS':kZ c w B (L.set j (ow s l)):=by
    have:L.set j (ow s l)=L:=by
      obtain⟨hl,he⟩:=List.getElem?_eq_some_iff.1 hj
      show L.set j (.o (eV [s.v l.length] l))=L
      rw [←he];exact List.set_getElem_self hl
    rw [this];exact hS
  obtain⟨h1,h2⟩:=aHZ s rfl hp hq ha.1 (aBN ks hk hA) hS'
  exact⟨⟨rfl⟩,[],by simpa using hm,by simpa using h1,by simpa using h2⟩
theorem rr(s:AC){n0 n1:Nat}(hn:n0=n1)(ks:List Nat)(ps qs:List (Nat×Nat))(hk:aW (zL e) ks=some (ks.map fun _=>.h s n0))(hp:aW (atE (ovh (.h s n1) e ks)) ps=some (ps.map fun _=>.h s n0))(hq:aW (atL L) qs=some (qs.map fun _=>.h s n0))(ha:(cZ (qs.map (·.1)) && (qs.map (·.1)).all fun j=>fD j cf.w4)=true)
    (k:G (.mk P T hT n c B0 N X Q) K m (rhE (.h s n1) (ovh (.h s n1) e ks) ps) (rhL (.h s n1) L qs) cf):G (.mk P T hT n c B0 N X Q) K m e L cf:=by
  rw [Bool.and_eq_true] at ha
  subst hn
  refine chg (fun _:Unit=>m) (fun _=>rhE (.h s n0) (ovh (.h s n0) e ks) ps) (fun _=>rhL (.h s n0) L qs) (fun B a w hm hA hS=>?_) (fun _=>PQ (by simpa using uY (L:=L) []) ha.2) (fun _=>k)
  obtain⟨h1,h2⟩:=aHZ s rfl hp hq ha.1 (aBN ks hk hA) hS
  exact⟨(),[],by simpa using hm,by simpa using h1,by simpa using h2⟩
theorem cpy{d:Option Nat}{x y:Operand}{t t2 el sz:Nat}{α:Type}[aI α][Flat α]{s s2:AC}{l xs:List α}{b1 b2:Bool}{n1:Nat}{z1 z2:List SV}{kt:TK}(p a:Nat)(hb:a≤l.length∧l.length≤l.length)(hsrc:∀{w},HS c w L'→bS (cD w) s2 xs)(hs:iZ T n K cf m e L=.op o Lv cf1 cf2 K' m' e' L')(ho:(o.op,o.dst)=(.call {callee:=.builtin .copy,args:=#[x,y],argTypes:=#[t,t2]},d))(ht:wZ T t=some ⟨.sl el,b1,n1,z1⟩)(he:wZ T el=some ⟨kt,b2,sz,z2⟩)(hn:aI.n α=sz)(hp:(L'[p]?,fD p cf1.w4)=(some (ow s l),true))(hx:gN e' x=some (.h (s.sub sz a) ((l.take l.length).drop a).length))(hy:gN e' y=some (.h s2 xs.length))
    (k:G (.mk P T hT n c B0 N X Q) K' m' (dse d (.i .i64 ((min xs.length (l.length - a):Nat):Int)) e') (L'.set p (ow s (cX l a xs))) cf2):G (.mk P T hT n c B0 N X Q) K m e L cf:=by
  have hp1:L'[p]?=some (ow s l):=congrArg Prod.fst hp
  have hz:fD p cf1.w4=true:=congrArg Prod.snd hp
  have hlen:(cX l a xs).length=l.length:=eE hb.1
  refine fE (g:=.mk P T hT n c B0 N X Q) ?_
  rw [hs]
  intro hdn _ hE
  refine hE Unit (fun _=>m') (fun _=>dse d (.i .i64 ((min xs.length (l.length - a):Nat):Int)) e') (fun _=>L'.set p (ow s (cX l a xs))) (fun _=>DX hz) (fun B act w next Q' hm hA hS hnext=>?_) (fun _=>k)
  have hr:bS (cD w) s2 xs:=hsrc ⟨_,hS⟩
  obtain⟨⟨R,s1,s2'⟩,s0⟩:=hS
  have hx2:ev (vE (PD (.mk P T hT n c B0 N X Q) cf1++B) e') x=some (fM sz a l.length (s.v l.length)):=by rw [VX hA hx,J0 hb.1 hb.2]
  have hop:o.op=.call {callee:=.builtin .copy,args:=#[x,y],argTypes:=#[t,t2]}:=congrArg Prod.fst ho
  have hd:o.dst=d:=congrArg Prod.snd ho
  obtain⟨v,w',k1,rfl,k2⟩:=aG7 p s1 (by rw [List.getElem?_map,hp1];rfl) hr hn hb.1 (CP ht hT) (hT.size _ _ he) hop hx2 (VX hA hy)
  unfold Oper.wp
  rw [k1 _ act hA.env,Oper.upon_value,hd]
  have hS2:kZ c w' (PD (.mk P T hT n c B0 N X Q) cf1++B) (L'.set p (ow s (cX l a xs))):=by
    refine⟨⟨R,?_,fun z hz=>?_⟩,s0⟩
    · rw [List.map_set]
      show St c w' ((L'.map _).set p (eV [s.v (cX l a xs).length] _)) R
      rw [hlen];exact k2
    · rcases List.mem_or_eq_of_mem_set hz with hz | hz
      · exact s2' z hz
      · subst hz;trivial
  cases d with
  | none=>exact hnext () _ _ ⟨[],by simpa using hm,by simpa [Act.put,dse] using hA,by simpa using hS2⟩
  | some d=>exact hnext () _ _ ⟨[],by simpa using hm,by simpa [dse] using hA.of (by simp [eS,gV,bK]) (hA.env.put (by rw [hd] at hdn;simpa [oN,Nat.blt_eq] using hdn) _),by simpa using hS2⟩
theorem cp0{d:Option Nat}{x y:Operand}{t t2 el sz:Nat}{α:Type}[aI α][Flat α]{s s2:AC}{l xs:List α}{b1 b2:Bool}{n1:Nat}{z1 z2:List SV}{kt:TK}(p:Nat)(hsrc:∀{w},HS c w L'→bS (cD w) s2 xs)(hs:iZ T n K cf m e L=.op o Lv cf1 cf2 K' m' e' L')(ho:(o.op,o.dst)=(.call {callee:=.builtin .copy,args:=#[x,y],argTypes:=#[t,t2]},d))(ht:wZ T t=some ⟨.sl el,b1,n1,z1⟩)(he:wZ T el=some ⟨kt,b2,sz,z2⟩)(hn:aI.n α=sz)(hp:(L'[p]?,fD p cf1.w4)=(some (ow s l),true))(hx:gN e' x=some (.h s l.length))(hy:gN e' y=some (.h s2 xs.length))
    (k:G (.mk P T hT n c B0 N X Q) K' m' (dse d (.i .i64 ((min xs.length (l.length - 0):Nat):Int)) e') (L'.set p (ow s (cX l 0 xs))) cf2):G (.mk P T hT n c B0 N X Q) K m e L cf:=by
  have hp1:L'[p]?=some (ow s l):=congrArg Prod.fst hp
  have hz:fD p cf1.w4=true:=congrArg Prod.snd hp
  have hlen:(cX l 0 xs).length=l.length:=eE (Nat.zero_le _)
  refine fE (g:=.mk P T hT n c B0 N X Q) ?_
  rw [hs]
  intro hdn _ hE
  refine hE Unit (fun _=>m') (fun _=>dse d (.i .i64 ((min xs.length (l.length - 0):Nat):Int)) e') (fun _=>L'.set p (ow s (cX l 0 xs))) (fun _=>DX hz) (fun B act w next Q' hm hA hS hnext=>?_) (fun _=>k)
  have hr:bS (cD w) s2 xs:=hsrc ⟨_,hS⟩
  obtain⟨⟨R,s1,s2'⟩,s0⟩:=hS
  have hop:o.op=.call {callee:=.builtin .copy,args:=#[x,y],argTypes:=#[t,t2]}:=congrArg Prod.fst ho
  have hd:o.dst=d:=congrArg Prod.snd ho
  obtain⟨v,w',k1,rfl,k2⟩:=aKO p s1 (by rw [List.getElem?_map,hp1];rfl) hr hn (CP ht hT) (hT.size _ _ he) hop (VX hA hx) (VX hA hy)
  unfold Oper.wp
  rw [k1 _ act hA.env,Oper.upon_value,hd]
  have hS2:kZ c w' (PD (.mk P T hT n c B0 N X Q) cf1++B) (L'.set p (ow s (cX l 0 xs))):=by
    refine⟨⟨R,?_,fun z hz=>?_⟩,s0⟩
    · rw [List.map_set]
      show St c w' ((L'.map _).set p (eV [s.v (cX l 0 xs).length] _)) R
      rw [hlen];exact k2
    · rcases List.mem_or_eq_of_mem_set hz with hz | hz
      · exact s2' z hz
      · subst hz;trivial
  cases d with
  | none=>exact hnext () _ _ ⟨[],by simpa using hm,by simpa [Act.put,dse] using hA,by simpa using hS2⟩
  | some d=>exact hnext () _ _ ⟨[],by simpa using hm,by simpa [dse] using hA.of (by simp [eS,gV,bK]) (hA.env.put (by rw [hd] at hdn;simpa [oN,Nat.blt_eq] using hdn) _),by simpa using hS2⟩
theorem fR{Z:Act→World→Prop}{e1:SE}{L1:List Ch}(h1:aKV e=some e1)(h2:aKW L=some L1)(kk:∀a w,nN n c B0 m e1 L1 a w→Z a w):∀a w,nN n c B0 m e L a w→Z a w:=by
  have:=aBI h1
  have:=aBJ h2
  subst e1;subst L1
  exact kk
end
end Go.Gv
end
noncomputable section
set_option linter.unusedVariables false
namespace Go.Gv
noncomputable section
variable {B B':Bl} {i j:Nat}
end
noncomputable section
variable {n:Nat} {c:Ctx} {B0:Bl} {m:Nat} {e:SE} {L:List Ch}
theorem pnR{Z:Act→World→Prop}{α:Type}[aI α](j:Nat){s:AC}{l:List α}{n0:Nat}(hl:l.length=n0)(hj:L[j]?=some (ow s l))
    (kk:∀a w,nN n c B0 m e (L.set j (.o (eV [s.v n0] l))) a w→Z a w):∀a w,nN n c B0 m e L a w→Z a w:=by
  subst hl
  have:L.set j (.o (eV [s.v l.length] l))=L:=by
    obtain⟨h1,h2⟩:=List.getElem?_eq_some_iff.1 hj
    rw [←show L[j]=.o (eV [s.v l.length] l) from h2];exact List.set_getElem_self h1
  rw [this] at kk
  exact kk
end
end Go.Gv
end
