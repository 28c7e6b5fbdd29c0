import Derived.Test.YtbdmodalljibjaaGreatXQE
set_option linter.unusedVariables false
set_option linter.unusedSimpArgs false
set_option linter.unusedSectionVars false
set_option linter.constructorNameAsVariable false
set_option linter.unnecessarySimpa false
noncomputable section
namespace Go.Gv
theorem iC(w:Int):dT w=some (decide (0≤w∧w≤2)):=by
  unfold dT;rw [d9];rfl
noncomputable section
variable {c:aK} (hc:EN c) {w:Int} (hw:0≤w∧w≤2)
include hc
theorem EN.small:c.bM.length≤1048576∧c.bM.length≤maxLen:=by
  have:=hc.2.1;simp only [maxLen];omega
theorem EN.YW{k:Nat}{p:gQ}(hp:YR c.aI p):EN ⟨c.aI,c.bM.set k p⟩:=⟨hc.1,by simpa using hc.2.1,fun q hq=>(List.mem_or_eq_of_mem_set hq).elim (hc.2.2 q) (fun e=>e ▸ hp)⟩
theorem EN.aOV(h:c.aI+1≤100000):EN ⟨c.aI+1,c.bM⟩:=by
  have h1:=hc.1
  exact⟨⟨by simp only;omega,h⟩,hc.2.1,fun q hq=>by
    obtain⟨a,b,d⟩:=hc.2.2 q hq
    exact⟨⟨a.1,by simp only;omega⟩,b,d⟩⟩
include hw
theorem aBR:∃p,idx c.bM w=some p∧YR c.aI p:=by
  have h3:=hc.2.1
  rw [fB hw.1 (by omega)]
  exact⟨_,rfl,hc.2.2 _ (List.getElem_mem _)⟩
theorem W2(e:Int):∃r,pH c w e=some r∧DN c w e=some r∧EN r.1∧r.1.aI=c.aI:=by
  obtain⟨p,hp,h1,⟨hs0,hs1⟩,h2⟩:=aBR hc hw
  have h3:=hc.2.1
  unfold pH DN
  rw [jH hc.small.1,sN hc.small.1,gG,n8 hc.small.2,iC,bL,bB hc,bB hw]
  simp only [aH,eU,bE,if_false,pG,vY,hp]
  cases h4:p.On
  · exact⟨_,rfl,rfl,hc,rfl⟩
  · cases h5:p.eR
    · by_cases h6:p.aI=e
      · simp only [jP,mE,h6,beq_self_eq_true,if_true,eU,bE,if_false]
        exact⟨_,rfl,rfl,hc,rfl⟩
      · have h6':(p.aI == e)=false:=by simpa using h6
        simp only [jP,mE,h6',eU,bE,if_false,hp,aH]
        by_cases h7:p.Seen=2
        · simp only [h7,beq_self_eq_true,if_true,show ¬((2:Int) < 2) by omega,decide_false,bE,if_false]
          exact⟨_,rfl,rfl,hc.YW ⟨h1,by simp,fun q=>by simp [h4] at q⟩,rfl⟩
        · have h7':(p.Seen == 2)=false:=by simpa using h7
          simp only [h7',show p.Seen < 2 by omega,decide_true,if_true,bE,if_false]
          have hw7:aW (p.Seen+1)=p.Seen+1:=aO (by omega) (by omega)
          exact⟨_,rfl,rfl,hc.YW ⟨h1,by simp only [hw7];omega,fun q=>by simp [h4] at q⟩,rfl⟩
    · exact⟨_,rfl,rfl,hc,rfl⟩
theorem aAD(e:Int):∃r,tW c w e=some r∧F6 c w e=some r∧(EN r.1∧r.1.aI=c.aI)∧(r.2=false→r.1=c):=by
  obtain⟨p,hp,hpk⟩:=aBR hc hw
  have h3:=hc.2.1
  unfold tW F6
  rw [jH hc.small.1,sN hc.small.1,gG,n8 hc.small.2,iC,bL,bL,d9,bB hc,bB hw]
  simp only [aH,eU,bE,if_false,oD,sA,hp]
  by_cases h:0≤e∧e≤c.aI
  · simp only [bB h,eU,bE,if_false]
    exact⟨_,rfl,rfl,⟨hc.YW ⟨h,by simp,fun q=>by cases q⟩,rfl⟩,fun q=>by cases q⟩
  · simp only [bK h,wX,if_true]
    exact⟨_,rfl,rfl,⟨hc,rfl⟩,fun _=>rfl⟩
omit hw in
theorem aDJ(e:Int):∃r,xH c e=some r∧J2 c e=some r∧EN r.1∧c.aI≤r.1.aI:=by
  have h3:=hc.2.1
  unfold xH J2
  rw [jH hc.small.1,sN hc.small.1,gG,n8 hc.small.2,bB hc]
  simp only [aH,eU,bE,if_false,qS,vZ]
  by_cases h:c.aI=e
  · subst h
    simp only [bne_self_eq_false,bE,if_false]
    by_cases h:c.aI=100000
    · simp only [h,beq_self_eq_true,if_true];exact⟨_,rfl,rfl,hc,by simp [h]⟩
    · have h':(c.aI == 100000)=false:=by simpa using h
      have hE:=hc.1
      have hw7:aW (c.aI+1)=c.aI+1:=aO (by omega) (by omega)
      simp only [h',bE,if_false,hw7];exact⟨_,rfl,rfl,hc.aOV (by omega),by simp only;omega⟩
  · have h':(c.aI != e)=true:=by simpa using h
    simp only [h',if_true];exact⟨_,rfl,rfl,hc,Int.le_refl _⟩
end
theorem aM0{b:aG}(hc:EN b.aK){w:Int}(hw:0≤w∧w≤2)(s:Sub) :
    ∃x y,uM b w s=some (x,y)∧qZ s b w=some (y,x)∧∃cl,x=⟨b.Mem,cl,b.aP,b.nZ⟩∧EN cl∧b.aK.aI≤cl.aI:=by
  obtain⟨r,e1,e2,h3,h4⟩:=aAD hc hw s.E
  unfold uM qZ
  rw [e1,e2]
  simp only [bA,aZ,rM,aH]
  by_cases p0:s.Pc=0
  · simp only [p0,beq_self_eq_true,if_true];exact⟨_,_,rfl,rfl,_,rfl,hc,by omega⟩
  · have p0':(s.Pc == 0)=false:=by simpa using p0
    simp only [p0',bE,if_false]
    by_cases p1:s.Pc=1
    · simp only [p1,beq_self_eq_true,if_true]
      cases h:r.2
      · rw [h4 h];exact⟨_,_,rfl,rfl,_,rfl,hc,by omega⟩
      · exact⟨_,_,rfl,rfl,_,rfl,h3.1,by rw [h3.2];exact Int.le_refl _⟩
    · have p1':(s.Pc == 1)=false:=by simpa using p1
      simp only [p1',bE,if_false]
      by_cases p2:s.Pc=2
      · simp only [p2,beq_self_eq_true,if_true]
        by_cases q:b.aK.aI=s.E
        · simp only [q,beq_self_eq_true,if_true];exact⟨_,_,rfl,rfl,_,rfl,hc,by omega⟩
        · have q':(b.aK.aI == s.E)=false:=by simpa using q
          simp only [q',bE,if_false];exact⟨_,_,rfl,rfl,_,rfl,hc,by omega⟩
      · have p2':(s.Pc == 2)=false:=by simpa using p2
        simp only [p2',bE,if_false];exact⟨_,_,rfl,rfl,_,rfl,hc,by omega⟩
theorem aBS{b:aG}(hc:EN b.aK)(s:Sub) :
    ∃x y,kJ b s=some (x,y)∧kZ s b=some (y,x)∧∃cl,x=⟨b.Mem,cl,b.aP,b.nZ⟩∧EN cl∧b.aK.aI≤cl.aI:=by
  obtain⟨r2,e3,e4,h4⟩:=aDJ hc s.E
  unfold kJ kZ iI
  rw [e3,e4,bL,iC]
  simp only [bA,aZ,jQ,jR,iH,aH]
  by_cases p0:s.Pc=0
  · simp only [p0,beq_self_eq_true,if_true];exact⟨_,_,rfl,rfl,_,rfl,hc,by omega⟩
  · have p0':(s.Pc == 0)=false:=by simpa using p0
    simp only [p0',bE,if_false]
    by_cases p1:s.Pc=1
    · simp only [p1,beq_self_eq_true,if_true,show((1:Int) == 2)=false from rfl,bE,if_false]
      by_cases hB:0≤s.B∧s.B≤2
      · obtain⟨r,e1,e2,h3,h3'⟩:=W2 hc hB s.E
        simp only [bB hB,eU,bE,if_false,if_true,e1,e2,aH]
        cases h:r.2
        · exact⟨_,_,rfl,rfl,_,rfl,h3,by rw [h3'];exact Int.le_refl _⟩
        · by_cases q:aW (s.B+1)=3
          · simp only [q,beq_self_eq_true,if_true,eU,bE,if_false];exact⟨_,_,rfl,rfl,_,rfl,h3,by rw [h3'];exact Int.le_refl _⟩
          · have q':(aW (s.B+1) == 3)=false:=by simpa using q
            simp only [q',eU,bE,if_false];exact⟨_,_,rfl,rfl,_,rfl,h3,by rw [h3'];exact Int.le_refl _⟩
      · simp only [bK hB,wX,bE,if_false,if_true]
        exact⟨_,_,rfl,rfl,_,rfl,hc,by omega⟩
    · have p1':(s.Pc == 1)=false:=by simpa using p1
      simp only [p1',bE,if_false]
      by_cases p2:s.Pc=2
      · simp only [p2,beq_self_eq_true,if_true]
        cases h:r2.2
        · simp only [bE,if_false];exact⟨_,_,rfl,rfl,_,rfl,h4⟩
        · simp only [if_true];exact⟨_,_,rfl,rfl,_,rfl,h4⟩
      · have p2':(s.Pc == 2)=false:=by simpa using p2
        simp only [p2',bE,if_false];exact⟨_,_,rfl,rfl,_,rfl,hc,by omega⟩
end Go.Gv
end
noncomputable section
namespace Go.Gv
theorem aBT:∀(n:Nat) (l:List Int),l.Nodup→(∀x∈l,0≤x∧x < (n:Int))→l.length≤n
  | 0, l, _, h => by
    cases l with
    | nil=>simp
    | cons a t=>have:=h a (by simp);omega
  | n + 1, l, hn, h => by
    have ih:=aBT n (l.erase (n:Int)) (hn.erase _) (fun x hx=>by
      have h1:=(hn.mem_erase_iff).1 hx
      have h2:=h x h1.2
      have:=h1.1
      omega)
    have:=List.length_erase (a:=(n:Int)) (l:=l)
    split at this <;> omega
theorem YX(a b:List aN):a9 (a++b)=a9 a++a9 b:=by simp [a9]
theorem NI(a b:List aE):cA (a++b)=cA a++cA b:=by simp [cA]
theorem uR{l:List aN}{k:Nat}(hk:k < l.length)(x:aN):a9 (l.set k x)=a9 (l.take k)++(x.Rows++a9 (l.drop (k+1))):=by
  rw [List.set_eq_take_append_cons_drop,if_pos hk,YX];simp [a9]
theorem qH{l:List aN}{k:Nat}(hk:k < l.length):a9 l=a9 (l.take k)++(l[k].Rows++a9 (l.drop (k+1))):=by
  conv=>lhs;rw [←List.set_getElem_self hk,uR hk]
theorem xP{l:List aE}{k:Nat}(hk:k < l.length)(x:aE):cA (l.set k x)=cA (l.take k)++(x.aL++cA (l.drop (k+1))):=by
  rw [List.set_eq_take_append_cons_drop,if_pos hk,NI];simp [cA]
theorem uS{l:List aE}{k:Nat}(hk:k < l.length):cA l=cA (l.take k)++(l[k].aL++cA (l.drop (k+1))):=by
  conv=>lhs;rw [←List.set_getElem_self hk,xP hk]
def FK(l:List aN)(s:Int):Prop:=∃r∈a9 l,mU r.Handle∧r.Handle % 32=s
instance (l:List aN) (s:Int):Decidable (FK l s):=by unfold FK;infer_instance
noncomputable section
variable {l:List aN} (hl:lK l)
include hl
theorem lK.small:(a9 l).length≤1073741824∧l.length≤maxLen∧l.length≤1048576∧∀s∈l,s.Rows.length≤24:=by
  have:=hl.1;have h2:=hl.2.1
  refine⟨by omega,by simp only [maxLen];omega,by omega,fun s hs=>?_⟩
  have:=FJ hs;omega
theorem AK(s:Int):vB l s=some (decide (FK l s)):=by
  have hm:=hl.small
  unfold vB
  rw [CS hm.1 hm.2.1,aH]
  have key:=mP (f:=kI s (a9 l)) (a9 l) (fun k=>(k:Int)) (fun r=>¬(mU r.Handle∧r.Handle % 32=s)) (Out.brk ()) (Out.ret true)
    (fun k hk hp=>by
      have hk':=hl.2.1
      simp only [kI,nR]
      rw [if_pos (by simp;omega),aV hk,i3 (show k < maxLen by simp only [maxLen];omega)]
      simp only [aH,gP,dA]
      by_cases q:mU (a9 l)[k].Handle
      · have:((a9 l)[k].Handle % 32 == s)=false:=by simpa using fun a=>hp ⟨q,a⟩
        simp [q,this]
      · simp [q])
    (fun k hk hp=>by
      have hp:=Classical.not_not.1 hp
      simp only [kI,nR]
      rw [if_pos (by simp;omega),aV hk]
      simp [gP,dA,hp.1,hp.2])
    (by simp [kI])
  have key':loop (kI s (a9 l)) 0=_:=key
  rw [key']
  by_cases q:FK l s
  · rw [if_neg (fun a=>by obtain⟨r,hr,e⟩:=q;exact a r hr e),bB q];rfl
  · rw [if_pos (fun r hr e=>q ⟨r,hr,e⟩),bK q];rfl
theorem QP(s:Int):BA l s=some (decide (FK l s)):=by
  have hm:=hl.small
  unfold BA
  have e1:∀(r:bJ),mD r s=some (decide (mU r.Handle∧r.Handle % 32=s)):=by
    intro r
    unfold mD lR
    rw [mR]
    by_cases q:mU r.Handle
    · rw [q.mod.1];simp [q];rfl
    · simp [q]
  have e2:∀x∈l,vX x s=some (x.Rows.any fun r=>decide (mU r.Handle∧r.Handle % 32=s)):=by
    intro x hx
    unfold vX
    have:x.Rows.length≤maxLen:=by have:=hm.2.2.2 x hx;simp only [maxLen];omega
    rw [show(fun y0=>mD y0 s)=fun r=>some (decide (mU r.Handle∧r.Handle % 32=s)) from funext e1,K9 this];rfl
  rw [JF hm.2.1 (fun x=>x.Rows.any fun r=>decide (mU r.Handle∧r.Handle % 32=s)) _ e2]
  simp only [aH]
  congr 1
  rw [Bool.eq_iff_iff,decide_eq_true_iff]
  simp only [List.any_eq_true,decide_eq_true_eq,FK,a9,List.mem_flatMap]
  constructor
  · rintro⟨x,hx,r,hr,h⟩;exact⟨r,⟨x,hx,hr⟩,h⟩
  · rintro⟨r,⟨x,hx,hr⟩,h⟩;exact⟨x,hx,r,hr,h⟩
theorem lK.more{k:Nat}(hk:k < l.length){r:bJ}(hr:sM r)(hn:¬FK l (r.Handle % 32)):lK (l.set k ⟨l[k].Rows ++ [r]⟩):=by
  have e:=uR hk (⟨l[k].Rows ++ [r]⟩:aN)
  have p:(a9 (l.set k ⟨l[k].Rows ++ [r]⟩)).Perm (r :: a9 l):=by
    rw [e,qH hk]
    refine List.Perm.trans ?_ List.perm_middle
    simp only [List.append_assoc]
    exact List.Perm.append_left _ (by simp only [List.singleton_append];exact(List.perm_middle (l₁:=l[k].Rows) (l₂:=a9 (l.drop (k+1))) (a:=r)))
  have h1:∀x∈a9 (l.set k ⟨l[k].Rows ++ [r]⟩),sM x:=fun x hx=>by
    rcases List.mem_cons.1 (p.mem_iff.1 hx) with rfl | h
    · exact hr
    · exact hl.2.2.1 x h
  have h2:((a9 (l.set k ⟨l[k].Rows ++ [r]⟩)).map gL).Nodup:=by
    refine(List.Perm.nodup_iff (p.map gL)).2 ?_
    rw [List.map_cons,List.nodup_cons]
    refine⟨fun h=>hn ?_,hl.2.2.2⟩
    obtain⟨x,hx,e⟩:=List.mem_map.1 h
    exact⟨x,hx,(hl.2.2.1 x hx).1,e⟩
  refine⟨by simpa using hl.1,?_,h1,h2⟩
  have:=aBT 24 _ h2 (fun x hx=>by
    obtain⟨y,hy,rfl⟩:=List.mem_map.1 hx
    have:=(h1 y hy).1.mod
    unfold gL;omega)
  simpa using this
end
theorem aEG{b:aG}(hb:fL b)(hs:xO b){w:Int}(hw:0≤w∧w≤2)(s:Sub) :
    ∃x y,l6 b w s=some (x,y)∧lS s b w=some (y,x)∧∃L,x=⟨b.Mem,b.aK,L,b.nZ⟩∧lK L∧∀r∈a9 L,rF b r:=by
  have hL:=hb.1.2.2.1
  have hm:=hb.1.1
  have hlen:w.toNat < b.aP.length:=by have:=hL.1;omega
  have hx:idx b.aP w=some b.aP[w.toNat]:=fB hw.1 (by omega)
  have hg:b.Mem.aA.Global.length≤maxLen:=by rw [hm.1.2.1];simp [maxLen]
  have ho:b.Mem.aA.bD.length≤maxLen:=by rw [hm.1.2.2.1];simp [maxLen]
  have hall:(cS b.Mem.aA).length≤1073741824:=by have:=hs.1.2.2.2.2;omega
  have hrow:=hL.small.2.2.2 _ (List.getElem_mem hlen)
  have he:=hb.1.2.1.1
  unfold l6 lS jA
  rw [bL,d9,iU hm.1.1.1 hall hg ho,CU hm.1.1.1 hall hg ho,dA]
  simp only [bA,aZ,aH,kV,oS,i9]
  by_cases p0:s.Pc=0
  · simp only [p0,beq_self_eq_true,if_true];exact⟨_,_,rfl,rfl,_,rfl,hL,hb.2⟩
  · have p0' : (s.Pc == 0) = false := by simpa using p0
    simp only [p0',bE,if_false]
    by_cases p1:s.Pc=1
    · simp only [p1,beq_self_eq_true,bne_self_eq_false,bE,if_false,if_true]
      by_cases q1:0≤s.E∧s.E≤b.aK.aI
      · simp only [bB q1,eU,bE,if_false]
        by_cases q2:jG b.Mem s.A
        · have hh:=q2.1
          simp only [bB q2,eU,bE,if_false,if_pos hh,hh.mod.1,AK hL,QP hL,aH]
          by_cases q3:FK b.aP (s.A % 32)
          · simp only [bB q3,if_true];exact⟨_,_,rfl,rfl,_,rfl,hL,hb.2⟩
          · have hmore:=hL.more hlen (r:=⟨s.A,s.E⟩) ⟨hh,q1.1,by simp only;omega⟩ q3
            have e:yI b.aP w s.A s.E=some (b.aP.set w.toNat ⟨b.aP[w.toNat].Rows ++ [⟨s.A,s.E⟩]⟩,true):=by
              unfold yI qX
              rw [tQ hL.small.1,iC,ER hL.small.2.2.1 (fun s h=>by have:=hL.small.2.2.2 s h;omega)]
              simp only [bB hL,bB hw,aH,eU,bE,if_false,hx]
              rw [aS (by simp;omega),tQ hmore.small.1,bB hmore];rfl
            simp only [bK q3,bE,if_false,hx,e,aH]
            rw [aS (by simp;omega)]
            refine⟨_,_,rfl,rfl,_,rfl,hmore,fun r hr=>?_⟩
            rw [uR hlen] at hr
            have hsp:=qH hlen
            rcases List.mem_append.1 hr with h | h
            · exact hb.2 r (by rw [hsp];exact List.mem_append_left _ h)
            · rcases List.mem_append.1 h with h | h
              · rcases List.mem_append.1 h with h | h
                · exact hb.2 r (by rw [hsp];exact List.mem_append_right _ (List.mem_append_left _ h))
                · simp at h;subst h;exact⟨q2,q1.2⟩
              · exact hb.2 r (by rw [hsp];exact List.mem_append_right _ (List.mem_append_right _ h))
        · simp only [bK q2,wX,if_true];exact⟨_,_,rfl,rfl,_,rfl,hL,hb.2⟩
      · simp only [bK q1,wX,if_true];exact⟨_,_,rfl,rfl,_,rfl,hL,hb.2⟩
    · have p1':(s.Pc == 1)=false:=by simpa using p1
      have p1'':(s.Pc != 1)=true:=by simpa using p1
      simp only [p1',p1'',bE,if_false,if_true];exact⟨_,_,rfl,rfl,_,rfl,hL,hb.2⟩
end Go.Gv
end
noncomputable section
namespace Go.Gv
def RE(b:List Int)(a:Nat)(n:Int):List Int:=(((b.set a 0).set (a+1) 0).set (a+2) 0).set (a+3) n
theorem y9(b:List Int)(a:Nat)(n:Int):(RE b a n).length=b.length:=by simp [RE]
theorem aAE{b:List Int}(h:oX b)(a:Nat){n:Int}(hn:0≤n∧n≤255):oX (RE b a n):=by
  have key:∀{l:List Int} (i:Nat) (v:Int),oX l→0≤v∧v≤255→oX (l.set i v):=fun i v hl hv x hx=>by
    rcases List.mem_or_eq_of_mem_set hx with h | rfl
    · exact hl x h
    · exact hv
  exact key _ _ (key _ _ (key _ _ (key _ _ h (by omega)) (by omega)) (by omega)) hn
theorem aH5{n:Int}(hn:0≤n∧n≤255):((u8 n).toNat:Int)=n:=by
  obtain⟨m,rfl⟩:=Int.eq_ofNat_of_zero_le hn.1
  unfold u8
  rw [UInt8.toNat_ofNat'];omega
theorem NJ{l:List Int}(i:Nat){v:Int}(hl:oX l)(hv:0≤v∧v≤255):oX (l.set i v):=fun x hx=>by
  rcases List.mem_or_eq_of_mem_set hx with h | rfl
  · exact hl x h
  · exact hv
def ES(b:List Int)(a:Nat)(n:Int):List Int:=(((b.set a (n / 16777216)).set (a+1) (n / 65536 % 256)).set (a+2) (n / 256 % 256)).set (a+3) (n % 256)
theorem NL(b:List Int)(a:Nat)(n:Int):(ES b a n).length=b.length:=by simp [ES]
theorem aEH{b:List Int}(h:oX b)(a:Nat){n:Int}(hn:0≤n∧n≤4294967295):oX (ES b a n):=by
  unfold ES
  exact NJ _ (NJ _ (NJ _ (NJ _ h (by omega)) (by omega)) (by omega)) (by omega)
theorem aEI(b:List Int)(a:Nat)(x y z u:Int):(((b.set (a+3) u).set (a+2) z).set (a+1) y).set a x=(((b.set a x).set (a+1) y).set (a+2) z).set (a+3) u:=by
  refine List.ext_getElem (by simp) fun j h1 h2=>?_
  simp only [List.getElem_set]
  by_cases j0:a=j
  · subst j0;simp
  · by_cases j1:a+1=j
    · subst j1;simp
    · by_cases j2:a+2=j
      · subst j2;simp
      · by_cases j3:a+3=j
        · subst j3;simp
        · simp [j0,j1,j2,j3]
theorem W3{b:List Int}{a:Nat}(h:a+4≤b.length)(hl:b.length≤100000){n:Int}(hn:0≤n∧n≤4294967295):gU b (a:Int) 4 n=some (ES b a n):=by
  have st:∀(c:List Int) (m:Int) (i:Nat),c.length=b.length→0≤m→m≤4294967295→i < 4→nQ (a:Int) (c,m,(i:Int))=some (.next (c.set (a+i) (m % 256),m / 256,(i:Int) - 1)):=fun c m i hc h0 h1 hi=>by
    simp only [nQ]
    rw [if_pos (by simp),aO (x:=(a:Int)+i) (by omega) (by omega),show(a:Int)+i=((a+i:Nat):Int) by omega,aV (by omega),aH,n7 h0,zQ h0,aO (x:=m / 256) (by omega) (by omega),aO (x:=(i:Int) - 1) (by omega) (by omega),Int.toNat_natCast]
  unfold gU
  rw [show aW (4 - 1)=((3:Nat):Int) from by rw [aO (by omega) (by omega)];rfl]
  rw [bT (st b n 3 rfl hn.1 hn.2 (by omega)),show((3:Nat):Int) - 1=((2:Nat):Int) by rfl,
    bT (st _ _ 2 (by simp) (by omega) (by omega) (by omega)),show((2:Nat):Int) - 1=((1:Nat):Int) by rfl,
    bT (st _ _ 1 (by simp) (by omega) (by omega) (by omega)),show((1:Nat):Int) - 1=((0:Nat):Int) by rfl,
    bT (st _ _ 0 (by simp) (by omega) (by omega) (by omega)),bP (r:=ES b a n)]
  · rfl
  · simp only [nQ]
    rw [if_neg (by simp)]
    have e1:n / 256 / 256=n / 65536:=by omega
    have e2:n / 256 / 256 / 256=n / 16777216:=by omega
    have e3:n / 16777216 % 256=n / 16777216:=by omega
    rw [e1,show n / 65536 / 256=n / 16777216 by omega,e3]
    unfold ES
    simp only [Nat.add_zero]
    rw [aEI]
def LB(n:Int):List UInt8:=[u8 (n / 16777216),u8 (n / 65536),u8 (n / 256),u8 n]
theorem UD{n:Int}(hn:0≤n∧n≤4294967295):tZ n 4=some (LB n):=by
  have hw:nF 4=some true:=by unfold nF;rw [d9];rfl
  unfold tZ
  rw [hw]
  have e1:IntKind.u64.wrap (aW (8 * 4))=32:=by decide
  have e2:WG .i64 1 32=4294967296:=by decide
  simp only [aH,eU,bE,if_false,e1,e2]
  rw [if_neg (by simp;omega),aS (by omega),bK (by omega)]
  simp only [r8,bE,if_false]
  rw [aS (by omega),show aW (4 - 1)=((3:Nat):Int) from by rw [aO (by omega) (by omega)];rfl]
  have st:∀(m:Int) (c:List UInt8) (i:Nat),i < c.length→i < 4→0≤m→yF (m,c,(i:Int))=some (.next (m / 256,c.set i (u8 m),(i:Int) - 1)):=fun m c i hc hi h0=>by
    simp only [yF]
    rw [if_pos (by simp),aV hc,aH,show(8:Int)=((8:Nat):Int) from rfl,aKJ h0 (by omega),aO (by omega) (by omega),Int.toNat_natCast];rfl
  rw [bT (st n _ 3 (by simp) (by omega) hn.1),show((3:Nat):Int) - 1=((2:Nat):Int) by rfl,
    bT (st _ _ 2 (by simp) (by omega) (by omega)),show((2:Nat):Int) - 1=((1:Nat):Int) by rfl,
    bT (st _ _ 1 (by simp) (by omega) (by omega)),show((1:Nat):Int) - 1=((0:Nat):Int) by rfl,
    bT (st _ _ 0 (by simp) (by omega) (by omega)),bP (r:=LB n)]
  · rfl
  · simp only [yF]
    rw [if_neg (by simp)]
    have e1:n / 256 / 256=n / 65536:=by omega
    rw [e1,show n / 65536 / 256=n / 16777216 by omega]
    rfl
theorem YY{n:Int}(hn:0≤n):((u8 n).toNat:Int)=n % 256:=by
  have:u8 n=u8 (n % 256):=by
    unfold u8
    congr 1
    omega
  rw [this,aH5 (by omega)]
theorem UE{b:List Int}{a:Nat}(h:a+4≤b.length)(hl:b.length≤100000){n:Int}(hn:0≤n∧n≤4294967295):pU b (a:Int) (LB n)=some (ES b a n):=by
  have st:∀(c:List Int) (i:Nat) (v:UInt8),c.length=b.length→i < 4→idx (LB n) (i:Int)=some v→vV b (a:Int) (LB n) (c,(i:Int))=some (.next (c.set (a+i) (v.toNat:Int),((i+1:Nat):Int))):=fun c i v hc hi hv=>by
    simp only [vV]
    rw [aS hc,if_pos (by simp [LB];omega),hv,aH,aO (x:=(a:Int)+i) (by omega) (by omega),show(a:Int)+i=((a+i:Nat):Int) by omega,aV (by omega),aH,aO (by omega) (by omega),Int.toNat_natCast];rfl
  unfold pU
  rw [show(0:Int)=((0:Nat):Int) from rfl,bT (st b 0 _ rfl (by omega) rfl),bT (st _ 1 _ (by simp) (by omega) rfl),bT (st _ 2 _ (by simp) (by omega) rfl),bT (st _ 3 _ (by simp) (by omega) rfl),bP (r:=ES b a n)]
  · simp only [aH,IB,IA]
    rw [aS (NL b a n)]
  · simp only [vV]
    rw [aS (by simp),if_neg (by simp [LB])]
    simp only [YY hn.1,YY (show 0≤n / 16777216 by omega),YY (show 0≤n / 65536 by omega),YY (show 0≤n / 256 by omega)]
    rw [show n / 16777216 % 256=n / 16777216 by omega]
    rfl
theorem aH6{b:List Int}{a:Nat}{n:Int}(hn:0≤n∧n≤255):ES b a n=RE b a n:=by
  unfold ES RE
  rw [show n / 16777216=0 by omega,show n / 65536 % 256=0 by omega,show n / 256 % 256=0 by omega,show n % 256=n by omega]
theorem AL{b:List Int}{a:Nat}(h:a+4≤b.length)(hl:b.length≤100000){n:Int}(hn:0≤n∧n≤255):gU b (a:Int) 4 n=some (RE b a n):=by
  rw [W3 h hl ⟨hn.1,by omega⟩,aH6 hn]
theorem aOW{n:Int}(hn:0≤n∧n≤255):LB n=[0,0,0,u8 n]:=by
  unfold LB
  rw [show n / 16777216=0 by omega,show n / 65536=0 by omega,show n / 256=0 by omega];rfl
theorem LC{n:Int}(hn:0≤n∧n≤255):tZ n 4=some [0,0,0,u8 n]:=by
  rw [UD ⟨hn.1,by omega⟩,aOW hn]
theorem JJ{b:List Int}{a:Nat}(h:a+4≤b.length)(hl:b.length≤100000){n:Int}(hn:0≤n∧n≤255):pU b (a:Int) [0,0,0,u8 n]=some (RE b a n):=by
  rw [←aOW hn,UE h hl ⟨hn.1,by omega⟩,aH6 hn]
end Go.Gv
end
noncomputable section
namespace Go.Gv
theorem aLE{x y z:Int}:∀(a:Nat) (l:List Int),a+3≤l.length→cT l a [x,y,z]=((l.set a x).set (a+1) y).set (a+2) z
  | 0, l, h => by
    match l,h with
    | _ :: _ :: _ :: t,_=>simp [cT]
  | a + 1, l, h => by
    match l,h with
    | u :: t, h =>
      have ih:=aLE (x:=x) (y:=y) (z:=z) a t (by simp at h;omega)
      simp only [List.set_cons_succ,←ih]
      simp [cT,Nat.add_right_comm]
def aH7(p k:Nat)(c:Int):Nat:=(eI ((p:Int) * 4+k) c).toNat
def gB(b:List Int)(p:Nat)(c:Int):Nat→List Int
  | 0=>((b.set (p * 64) 171).set (p * 64+1) c).set (p * 64+2) (bW c)
  | k+1=>RE (gB b p c k) (aH7 p k c) 1
theorem CV(b:List Int)(p:Nat)(c:Int):∀k,(gB b p c k).length=b.length
  | 0=>by simp [gB]
  | k+1=>by rw [gB,y9,CV b p c k]
theorem UF{l:List Int}(i:Nat){v:Int}(hl:oX l)(hv:0≤v∧v≤255):oX (l.set i v):=fun x hx=>by
  rcases List.mem_or_eq_of_mem_set hx with h | rfl
  · exact hl x h
  · exact hv
theorem YZ{b:List Int}(hb:oX b)(p:Nat){c:Int}(hc:0≤c∧c≤2):∀k,oX (gB b p c k)
  | 0 => by
    have:=jB c
    exact UF _ (UF _ (UF _ hb (by omega)) (by omega)) (by omega)
  | k+1=>aAE (YZ hb p hc k) _ (by omega)
def gS(p:Nat)(n:Nat):List Int:=(List.range n).map fun(i:Nat)=>(p:Int) * 4+(i:Int)
theorem CX(p n:Nat):(gS p n).length=n:=by simp [gS]
theorem aDK(p n:Nat):gS p (n+1)=gS p n ++ [(p:Int) * 4+(n:Int)]:=by simp [gS,List.range_succ]
theorem Y0{p k:Nat}{c:Int}(hp:p < 6)(hk:(k:Int) < bW c):eI ((p:Int) * 4+k) c=(aH7 p k c:Int)∧aH7 p k c+4≤384:=by
  have h4:=jB c
  have hm:=CM (c:=c) (i:=(k:Int)) (by omega) hk
  have hst:4≤aR c:=by
    have:0≤c∧c≤2:=gK.1 (by omega)
    rcases eO this with e | e | e <;> rw [e] <;> decide
  have e:eI ((p:Int) * 4+k) c=(p:Int) * 64+8+(k:Int) * aR c:=by
    unfold eI
    rw [if_pos ⟨by omega,by omega⟩,show((p:Int) * 4+k) / 4=p by omega,show((p:Int) * 4+k) % 4=k by omega]
  unfold aH7
  rw [e];omega
theorem W4{p k:Nat}(hp:p < 6)(hk:k < 4):mV (p:Int) (k:Int)=some ((p:Int) * 4+k)∧DM (p:Int) (k:Int)=some ((p:Int) * 4+k):=by
  have a:0≤(p:Int)∧(p:Int)≤5:=by omega
  have b:0≤(k:Int)∧(k:Int)≤3:=by omega
  have e1:aW ((p:Int) * 4)=(p:Int) * 4:=aO (by omega) (by omega)
  have e2:aW ((p:Int) * 4+k)=(p:Int) * 4+k:=aO (by omega) (by omega)
  constructor
  · unfold mV o7;rw [bL,bL,bB a,bB b,e1,e2];rfl
  · unfold DM vW;rw [d9,d9,bB a,bB b,e1,e2];rfl
noncomputable section
variable {b:List Int} (hb:b.length=384) {p:Nat} (hp:p < 6) {c:Int} (hc:0≤c∧c≤2)
include hb hp hc
theorem UG:loop (sU c (p:Int)) ([],0,gB b p c 0)=some (gS p (bW c).toNat,gB b p c (bW c).toNat):=by
  have h4:=jB c
  refine gZ (bW c).toNat (fun k=>(gS p k,(k:Int),gB b p c k)) _ (fun k hk=>?_) ?_
  · have ho:=Y0 (c:=c) hp (k:=k) (by omega)
    simp only [sU,zY,eH,aH]
    rw [if_pos (by simp;omega),(W4 hp (by omega)).1]
    simp only [aH,lI,ho.1]
    rw [AL (by rw [CV];omega) (by rw [CV];omega) (by omega)]
    simp only [aH]
    rw [aS (by rw [CX];simp;omega),aO (by omega) (by omega),aDK];rfl
  · simp only [sU,eH,aH]
    rw [if_neg (by simp;omega)]
theorem aBU:loop (yG c (p:Int) (bW c)) ([],0,gB b p c 0)=some (gS p (bW c).toNat,gB b p c (bW c).toNat):=by
  have h4:=jB c
  refine gZ (bW c).toNat (fun k=>(gS p k,(k:Int),gB b p c k)) _ (fun k hk=>?_) ?_
  · have ho:=Y0 (c:=c) hp (k:=k) (by omega)
    simp only [yG,D4]
    rw [if_pos (by simp;omega),(W4 hp (by omega)).2]
    simp only [aH,sK,ho.1]
    rw [LC (by omega),aH,JJ (by rw [CV];omega) (by rw [CV];omega) (by omega)]
    simp only [aH]
    rw [aS (by rw [CX];simp;omega),aO (by omega) (by omega),aDK];rfl
  · simp only [yG]
    rw [if_neg (by simp;omega)]
end
theorem aAF{h:aB}(hh:LV h){c:Int}(hc:0≤c∧c≤2) :
    (i5 h c=some (h,[])∧xK h c=some (h,[])) ∨
    ∃p,p < 6∧bQ h p < 0∧i5 h c=some (⟨gB h.Bytes p c (bW c).toNat,h.Class.set p c⟩,gS p (bW c).toNat)∧xK h c=some (⟨gB h.Bytes p c (bW c).toNat,h.Class.set p c⟩,gS p (bW c).toNat):=by
  have hs:=hh.1
  have h6:=hs.2.1
  have h384:=hs.1
  have hp4:=jB c
  have hcp:=GP (h:=h) (by omega) (by omega)
  have hne:∀j (hj:j < 6),j < h.Class.findIdx (fun x=>decide (x = -1))→h.Class[j]≠-1:=fun j hj hlt=>by
    have:=List.not_of_lt_findIdx hlt
    simpa using this
  generalize hq:h.Class.findIdx (fun x=>decide (x = -1))=q at hne
  have hq6:q≤6:=by rw [←hq,←h6];exact List.findIdx_le_length
  have s1:∀k (hk:k < q),dI h c (k:Int)=some (.next ((k+1:Nat):Int)):=fun k hk=>by
    have:=hne k (by omega) hk
    have n:(h.Class[k] != -1)=true:=by simpa using this
    simp only [dI,sT]
    rw [if_pos (by simp;omega),aV (by omega),aH,n,if_pos rfl,aO (by omega) (by omega)];rfl
  have s2:∀k (hk:k < q),dD h.Class (-1) (k:Int)=some (.next ((k+1:Nat):Int)):=fun k hk=>by
    have:=hne k (by omega) hk
    have n:((-1:Int) == h.Class[k])=false:=by simpa using fun a=>this a.symm
    simp only [dD]
    rw [if_pos (by simp;omega),aV (by omega),aH,n,aO (by omega) (by omega)];rfl
  have hm:h.Bytes.length≤maxLen:=by rw [h384];simp [maxLen]
  by_cases h5:q=6
  · left
    have a1:loop (dI h c) 0=some (Out.brk ()):=gZ q (fun k=>(k:Int)) _ s1 (by simp only [dI];rw [if_neg (by simp;omega)])
    have a2:loop (dD h.Class (-1)) 0=some (Out.brk ()):=gZ q (fun k=>(k:Int)) _ s2 (by simp only [dD];rw [if_neg (by simp;omega)])
    constructor
    · unfold i5;rw [a1];rfl
    · unfold xK jM
      rw [a2,hcp,CQ hm,gD,bB hh,bB hc];rfl
  · right
    have hq5:q < 6:=by omega
    have he:h.Class[q] = -1:=by
      have:=List.findIdx_getElem (xs:=h.Class) (p:=fun x=>decide (x = -1)) (w:=by rw [hq];omega)
      simp only [hq,decide_eq_true_eq] at this
      exact this
    refine⟨q,hq5,by rw [←J5 hs hq5,he];omega,?_,?_⟩
    · have a1:loop (dI h c) 0=some (Out.ret (⟨gB h.Bytes q c (bW c).toNat,h.Class.set q c⟩,gS q (bW c).toNat)):=gZ q (fun k=>(k:Int)) _ s1 (by
        have e0:aW ((q:Int) * 64)=((q * 64:Nat):Int):=by rw [aO (by omega) (by omega)];omega
        have e1:aW (((q * 64:Nat):Int)+1)=((q * 64+1:Nat):Int):=by rw [aO (by omega) (by omega)];omega
        have e2:aW (((q * 64:Nat):Int)+2)=((q * 64+2:Nat):Int):=by rw [aO (by omega) (by omega)];omega
        have n:(h.Class[q] != -1)=false:=by simpa using he
        simp only [dI,e0,e1,e2,Int.toNat_natCast]
        rw [if_pos (by simp;omega),aV (by omega),aH,n,if_neg (by simp),aV (by omega),aH,aV (by simp;omega),aH,eH,aH,aV (by simp;omega),aH]
        have:=UG h384 hq5 hc
        simp only [gB] at this
        rw [this];rfl)
      unfold i5;rw [a1];rfl
    · have a2:loop (dD h.Class (-1)) 0=some (Out.ret (q:Int)):=gZ q (fun k=>(k:Int)) _ s2 (by
        have n:((-1:Int) == h.Class[q])=true:=by rw [he];rfl
        simp only [dD]
        rw [if_pos (by simp;omega),aV (by omega),aH,n];rfl)
      unfold xK jM
      rw [a2,hcp,CQ hm,gD,bB hh,bB hc]
      have e0:aW ((q:Int) * 64)=((q * 64:Nat):Int):=by rw [aO (by omega) (by omega)];omega
      simp only [aH,lP,eU,bE,if_false,r9,e0,tO,D5,Int.toNat_natCast]
      rw [bK (by omega),if_neg (by simp),aV (by omega),aH,aS (by omega),aLE _ _ (by omega)]
      have:=aBU h384 hq5 hc
      simp only [gB] at this
      rw [this];rfl
theorem U2.count{l:aA}(h:U2 l):(cS l).length≤24:=aBT 24 _ h.2.2.2.2 (fun x hx=>by have:=h.2.2.2.1 x hx;omega)
theorem W5{m:Mem}(hs:dM m.aB){s:Int}(hc:0≤aX m.aB s):∃h,lD m s=some h∧yH m s=some h:=by
  unfold lD yH jC D6 gN qW
  rw [lJ hs hc,y5 hs hc,aH,aH,bL,bL,qF,d9]
  have h1:=(rE hc).1
  simp only [bB h1,aH,eU,bE,if_false]
  by_cases q:1≤g7 m.aB s∧g7 m.aB s≤6
  · simp only [bB q,eU,bE,if_false];exact⟨_,rfl,rfl⟩
  · simp only [bK q,wX,if_true];exact⟨_,rfl,rfl⟩
theorem xQ{l:List aE}{k:Nat}(hk:k < l.length)(t:List Int):(cA (l.set k ⟨l[k].aL++t⟩)).length=(cA l).length+t.length:=by
  rw [xP hk,uS hk];simp;omega
end Go.Gv
end
noncomputable section
namespace Go.Gv
def bt(b:List Int)(i:Nat):Int:=b.getD i 0
theorem UH{b:List Int}{i:Nat}(h:i < b.length):b[i]=bt b i:=by
  unfold bt;rw [List.getD_eq_getElem?_getD,List.getElem?_eq_getElem h];rfl
theorem ld4{b:List Int}{a:Nat}(h:a+4≤b.length):ld b a 4=((bt b a * 256+bt b (a+1)) * 256+bt b (a+2)) * 256+bt b (a+3):=by
  unfold ld
  rw [List.drop_eq_getElem_cons (by omega),List.drop_eq_getElem_cons (by omega),List.drop_eq_getElem_cons (by omega),List.drop_eq_getElem_cons (by omega)]
  simp only [List.take_succ_cons,List.take_zero,ldF,List.foldl_cons,List.foldl_nil,UH (b:=b) (i:=a) (by omega),UH (b:=b) (i:=a+1) (by omega),UH (b:=b) (i:=a+1+1) (by omega),UH (b:=b) (i:=a+1+1+1) (by omega)]
  simp only [Nat.add_assoc,Nat.reduceAdd];omega
theorem CY{b:List Int}{i j:Nat}{v:Int}(hi:i < b.length):bt (b.set i v) j=if j=i then v else bt b j:=by
  unfold bt
  rw [List.getD_eq_getElem?_getD,List.getD_eq_getElem?_getD,List.getElem?_set]
  by_cases h:i=j
  · subst h;simp [hi]
  · have h':¬j=i:=fun q=>h q.symm
    simp [h,h']
theorem uB{b:List Int}{a:Nat}{n:Int}(h:a+4≤b.length)(j:Nat):bt (RE b a n) j=if j=a+3 then n else if a≤j∧j < a+3 then 0 else bt b j:=by
  unfold RE
  rw [CY (by simp;omega),CY (by simp;omega),CY (by simp;omega),CY (by omega)]
  by_cases h1:j=a+3
  · simp [h1]
  · rw [if_neg h1,if_neg h1]
    by_cases h2:a≤j∧j < a+3
    · rw [if_pos h2]
      by_cases h3:j=a+2
      · simp [h3]
      · rw [if_neg h3]
        by_cases h4:j=a+1
        · simp [h4]
        · rw [if_neg h4,if_pos (by omega)]
    · rw [if_neg h2,if_neg (by omega),if_neg (by omega),if_neg (by omega)]
theorem aBV{b:List Int}{a:Nat}{n:Int}(h:a+4≤b.length):ld (RE b a n) a 4=n:=by
  rw [ld4 (by rw [y9];exact h),uB h,uB h,uB h,uB h,if_neg (by omega),if_pos (by omega),if_neg (by omega),if_pos (by omega),if_neg (by omega),if_pos (by omega),if_pos rfl]
  omega
theorem J8{b b':List Int}{a:Nat}(h:a+4≤b.length)(hl:b'.length=b.length)(hs:∀j,a≤j→j < a+4→bt b' j=bt b j):ld b' a 4=ld b a 4:=by
  rw [ld4 (by omega),ld4 h,hs a (by omega) (by omega),hs (a+1) (by omega) (by omega),hs (a+2) (by omega) (by omega),hs (a+3) (by omega) (by omega)]
def QQ(h:aB)(p:Nat):Prop:=
  if bQ h p < 0 then ∀k,k < 64→bt h.Bytes (p * 64+k)=0
  else ((bt h.Bytes (p * 64)=171∧bt h.Bytes (p * 64+1)=bQ h p∧bt h.Bytes (p * 64+2)=bW (bQ h p))∧(∀k,3≤k→k < 8→bt h.Bytes (p * 64+k)=0)∧∀i,i < (bW (bQ h p)).toNat→1≤ld h.Bytes (p * 64+8+i * (aR (bQ h p)).toNat) 4∧ld h.Bytes (p * 64+8+i * (aR (bQ h p)).toNat) 4≤7)
theorem W6{h:aB}(hs:dM h){p:Nat}(hp:p < 6){k:Nat}(hk:k < 64):(cR h p).getD k 0=bt h.Bytes (p * 64+k):=by
  rw [←WX hs hp hk,UH (by have:=hs.1;omega)]
theorem NM{l:List Int}{x:Int}:x∈l↔∃k,k < l.length∧l.getD k 0=x:=by
  rw [List.mem_iff_getElem]
  constructor
  · rintro⟨k,hk,e⟩
    exact⟨k,hk,by rw [List.getD_eq_getElem?_getD,List.getElem?_eq_getElem hk];exact e⟩
  · rintro⟨k,hk,e⟩
    exact⟨k,hk,by rw [List.getD_eq_getElem?_getD,List.getElem?_eq_getElem hk] at e;exact e⟩
theorem FL{h:aB}(hs:dM h){p:Nat}(hp:p < 6):j4 h p↔QQ h p:=by
  unfold j4 QQ
  have hl:=CP hs hp
  split
  · constructor
    · intro q k hk
      rw [←W6 hs hp hk]
      exact q _ (NM.2 ⟨k,by omega,rfl⟩)
    · intro q x hx
      obtain⟨k,hk,rfl⟩:=NM.1 hx
      rw [W6 hs hp (by omega)];exact q k (by omega)
  · rw [W6 hs hp (by omega),W6 hs hp (by omega),W6 hs hp (by omega)]
    have e:(∀x∈((cR h p).drop 3).take 5,x=0)↔∀k,3≤k→k < 8→bt h.Bytes (p * 64+k)=0:=by
      have g:∀j,j < 5→(((cR h p).drop 3).take 5).getD j 0=bt h.Bytes (p * 64+(3+j)):=fun j hj=>by
        rw [←W6 hs hp (by omega),List.getD_eq_getElem?_getD,List.getD_eq_getElem?_getD,List.getElem?_take,if_pos hj,List.getElem?_drop]
      constructor
      · intro q k h3 h8
        have:=q _ (NM.2 ⟨k - 3,by simp [hl];omega,rfl⟩)
        rw [g _ (by omega)] at this
        rw [show 3+(k - 3)=k by omega] at this;exact this
      · intro q x hx
        obtain⟨k,hk,rfl⟩:=NM.1 hx
        simp [hl] at hk
        rw [g _ hk];exact q _ (by omega) (by omega)
    rw [e];rfl
theorem QQ.same{h h':aB}{p:Nat}(hp:p < 6)(hs:dM h)(hl:h'.Bytes.length=h.Bytes.length)(hc:bQ h' p=bQ h p)(hb:∀k,k < 64→bt h'.Bytes (p * 64+k)=bt h.Bytes (p * 64+k))(q:QQ h p):QQ h' p:=by
  have h1:=hs.1
  unfold QQ at q ⊢
  rw [hc]
  split
  · rename_i q0;rw [if_pos q0] at q
    exact fun k hk=>by rw [hb k hk];exact q k hk
  · rename_i q0;rw [if_neg q0] at q
    obtain⟨⟨a1,a2,a3⟩,a4,a5⟩:=q
    have b0:=hb 0 (by omega);have b1:=hb 1 (by omega);have b2:=hb 2 (by omega)
    simp only [Nat.add_zero] at b0
    refine⟨⟨by rw [b0];exact a1,by rw [b1];exact a2,by rw [b2];exact a3⟩,fun k k3 k8=>by rw [hb k (by omega)];exact a4 k k3 k8,fun i hi=>?_⟩
    have hz:=rD hs hp (c:=bQ h p) rfl hi
    rw [J8 (b:=h.Bytes) (by omega) hl fun j j1 j2=>by
      have:=hb (j - p * 64) (by omega)
      rw [show p * 64+(j - p * 64)=j by omega] at this;exact this]
    exact a5 i hi
theorem zS{h:aB}{s:Int}(hc:0≤aX h s):∃p i,p < 6∧i < (bW (bQ h p)).toNat∧s=(p:Int) * 4+i∧aX h s=bQ h p∧(eI s (aX h s)).toNat=p * 64+8+i * (aR (bQ h p)).toNat∧(s / 4).toNat=p:=by
  obtain⟨h1,h2,h3⟩:=rE hc
  have hle:=jB (bQ h (s / 4).toNat)
  refine⟨(s / 4).toNat,(s % 4).toNat,by omega,by omega,by omega,h3,?_,rfl⟩
  rw [h3]
  unfold eI
  rw [if_pos ⟨h1,by omega⟩]
  have hst:=(LU (bQ h (s / 4).toNat)).1
  have e:s % 4 * aR (bQ h (s / 4).toNat)=(((s % 4).toNat * (aR (bQ h (s / 4).toNat)).toNat:Nat):Int):=by
    rw [Int.natCast_mul,Int.toNat_of_nonneg (by omega),Int.toNat_of_nonneg hst]
  omega
theorem GQ{c:Int}{i j:Nat}(hi:i < (bW c).toNat)(hj:j < (bW c).toNat)(hn:i≠j):i * (aR c).toNat+4≤j * (aR c).toNat∨j * (aR c).toNat+4≤i * (aR c).toNat:=by
  have hc:0≤c∧c≤2:=gK.1 (by omega)
  have h12:12≤(aR c).toNat:=by rcases eO hc with rfl | rfl | rfl <;> decide
  rcases Nat.lt_or_gt_of_ne hn with q | q
  · left
    have:(i+1) * (aR c).toNat≤j * (aR c).toNat:=Nat.mul_le_mul_right _ q
    rw [Nat.add_mul] at this;omega
  · right
    have:(j+1) * (aR c).toNat≤i * (aR c).toNat:=Nat.mul_le_mul_right _ q
    rw [Nat.add_mul] at this;omega
theorem LV.aH8{h:aB}(hh:LV h){s g:Int}(hc:0≤aX h s)(hg:1≤g∧g≤7) :
    LV ⟨RE h.Bytes (eI s (aX h s)).toNat g,h.Class⟩∧∀t,0≤aX h t→g7 ⟨RE h.Bytes (eI s (aX h s)).toNat g,h.Class⟩ t=if t=s then g else g7 h t:=by
  obtain⟨hs,hp⟩:=hh
  have h384:=hs.1
  have hs':dM ⟨RE h.Bytes (eI s (aX h s)).toNat g,h.Class⟩:=⟨by rw [y9];exact hs.1,hs.2.1,aAE hs.2.2.1 _ (by omega),hs.2.2.2⟩
  obtain⟨p,i,p6,hi,es,ec,eo,ep⟩:=zS hc
  have hz:=rD hs p6 rfl hi
  have h4:=jB (bQ h p)
  refine⟨⟨hs',fun q hq=>?_⟩,fun t ht=>?_⟩
  · rw [FL hs' hq]
    have hold:=(FL hs hq).1 (hp q hq)
    by_cases e:q=p
    · subst e
      have hpos:0 < bW (bQ h q):=by omega
      have hcl:¬bQ h q < 0:=by have:=gK.1 hpos;omega
      unfold QQ at hold ⊢
      have hcl':bQ ⟨RE h.Bytes (eI s (aX h s)).toNat g,h.Class⟩ q=bQ h q:=rfl
      rw [hcl']
      rw [if_neg hcl] at hold ⊢
      obtain⟨⟨a1,a2,a3⟩,a4,a5⟩:=hold
      have bs:∀k,k < 8→bt (RE h.Bytes (eI s (aX h s)).toNat g) (q * 64+k)=bt h.Bytes (q * 64+k):=fun k hk=>by
        rw [uB (by omega),if_neg (by omega),if_neg (by omega)]
      have b0:=bs 0 (by omega);have b1:=bs 1 (by omega);have b2:=bs 2 (by omega)
      simp only [Nat.add_zero] at b0
      refine⟨⟨by rw [b0];exact a1,by rw [b1];exact a2,by rw [b2];exact a3⟩,fun k k3 k8=>by rw [bs k k8];exact a4 k k3 k8,fun j hj=>?_⟩
      have hzj:=rD hs p6 rfl hj
      by_cases ej:j=i
      · subst ej
        simp only [eo]
        rw [aBV (by omega)];exact hg
      · rw [J8 (b:=h.Bytes) (by omega) (by simp only [y9]) fun k k1 k2=>?_]
        · exact a5 j hj
        · simp only [eo]
          have:=GQ hi hj (fun q=>ej q.symm)
          rw [uB (by omega),if_neg (by omega),if_neg (by omega)]
    · refine QQ.same hq hs (by simp only [y9]) rfl (fun k hk=>?_) hold
      rw [uB (by omega),if_neg (by omega),if_neg (by omega)]
  · have e2:aX ⟨RE h.Bytes (eI s (aX h s)).toNat g,h.Class⟩ t=aX h t:=rfl
    unfold g7
    rw [e2]
    by_cases e:t=s
    · subst e;rw [if_pos rfl];simp only;rw [aBV (by omega)]
    · rw [if_neg e]
      obtain⟨p',i',p6',hi',es',ec',eo',ep'⟩:=zS ht
      have hz':=rD hs p6' rfl hi'
      rw [J8 (b:=h.Bytes) (by omega) (by simp only [y9]) fun k k1 k2=>?_]
      simp only
      by_cases ee:p'=p
      · subst ee
        have:=GQ hi hi' (fun q=>e (by rw [es,es',q]))
        rw [uB (by omega),if_neg (by omega),if_neg (by omega)]
      · have h4':=jB (bQ h p')
        rw [uB (by omega),if_neg (by omega),if_neg (by omega)]
theorem RF{p k:Nat}{c:Int}(hp:p < 6)(hk:(k:Int) < bW c):aH7 p k c=p * 64+8+k * (aR c).toNat∧8+k * (aR c).toNat+4≤64:=by
  have hc:0≤c∧c≤2:=gK.1 (by omega)
  have h1:=Y0 (c:=c) hp hk
  have hle:=jB c
  have e:=h1.1
  unfold eI at e
  rw [if_pos (by omega)] at e
  have e1:((p:Int) * 4+k) / 4=p:=by omega
  have e2:((p:Int) * 4+k) % 4=k:=by omega
  rw [e1,e2] at e
  rcases eO hc with rfl | rfl | rfl
  · rw [show aR 0=12 from rfl] at e ⊢
    rw [show bW 0=4 from rfl] at hk
    rw [show(12:Int).toNat=12 from rfl]
    omega
  · rw [show aR 1=20 from rfl] at e ⊢
    rw [show bW 1=2 from rfl] at hk
    rw [show(20:Int).toNat=20 from rfl]
    omega
  · rw [show aR 2=44 from rfl] at e ⊢
    rw [show bW 2=1 from rfl] at hk
    rw [show(44:Int).toNat=44 from rfl]
    omega
theorem aLF{b:List Int}{p:Nat}{c:Int}(hl:b.length=384)(hp:p < 6)(hc:0≤c∧c≤2):∀k:Nat,(k:Int)≤bW c→∀j,(j < p * 64∨p * 64+64≤j→bt (gB b p c k) j=bt b j)∧(3≤j→j < 8→bt (gB b p c k) (p * 64+j)=bt b (p * 64+j))∧bt (gB b p c k) (p * 64)=171∧bt (gB b p c k) (p * 64+1)=c∧bt (gB b p c k) (p * 64+2)=bW c
  | 0, hk, j => by
    have key:∀i,bt (gB b p c 0) i=if i=p * 64+2 then bW c else if i=p * 64+1 then c else if i=p * 64 then 171 else bt b i:=fun i=>by
      unfold gB
      rw [CY (by simp;omega),CY (by simp;omega),CY (by omega)]
    refine⟨fun h=>?_,fun h1 h2=>?_,?_,?_,?_⟩
    · rw [key,if_neg (by omega),if_neg (by omega),if_neg (by omega)]
    · rw [key,if_neg (by omega),if_neg (by omega),if_neg (by omega)]
    · rw [key,if_neg (by omega),if_neg (by omega),if_pos rfl]
    · rw [key,if_neg (by omega),if_pos rfl]
    · rw [key,if_pos rfl]
  | k + 1, hk, j => by
    have ih:=aLF hl hp hc k (by omega)
    have hoff:=RF (c:=c) hp (by omega:(k:Int) < bW c)
    have hbl:=CV b p c k
    unfold gB
    refine⟨fun h=>?_,fun h1 h2=>?_,?_,?_,?_⟩
    · rw [uB (by omega),if_neg (by omega),if_neg (by omega)];exact(ih j).1 h
    · rw [uB (by omega),if_neg (by omega),if_neg (by omega)];exact(ih j).2.1 h1 h2
    · rw [uB (by omega),if_neg (by omega),if_neg (by omega)];exact(ih j).2.2.1
    · rw [uB (by omega),if_neg (by omega),if_neg (by omega)];exact(ih j).2.2.2.1
    · rw [uB (by omega),if_neg (by omega),if_neg (by omega)];exact(ih j).2.2.2.2
theorem aH9{b:List Int}{p:Nat}{c:Int}(hl:b.length=384)(hp:p < 6):∀k:Nat,(k:Int)≤bW c→∀i,i < k→ld (gB b p c k) (p * 64+8+i * (aR c).toNat) 4=1
  | 0,_,i,h=>absurd h (by omega)
  | k + 1, hk, i, h => by
    have hbl:=CV b p c k
    have ho:=RF (c:=c) hp (by omega:(k:Int) < bW c)
    unfold gB
    by_cases e:i=k
    · subst e;rw [←ho.1];exact aBV (by omega)
    · have hoi:=RF (c:=c) hp (by omega:(i:Int) < bW c)
      have ha:=GQ (c:=c) (i:=i) (j:=k) (by omega) (by omega) e
      rw [J8 (b:=gB b p c k) (by omega) (by rw [y9]) fun j j1 j2=>by rw [uB (by omega),if_neg (by omega),if_neg (by omega)]]
      exact aH9 hl hp k (by omega) i (by omega)
theorem NN{h:aB}(hs:dM h){B:List Int}{p q:Nat}(hq:q < 6){c:Int}:bQ ⟨B,h.Class.set p c⟩ q=if q=p then c else bQ h q:=by
  have h6:=hs.2.1
  unfold bQ
  rw [List.getD_eq_getElem?_getD,List.getD_eq_getElem?_getD,List.getElem?_set]
  by_cases e:p=q
  · subst e;simp [h6,hq]
  · have e':¬q=p:=fun z=>e z.symm
    simp [e,e']
theorem LV.aOX{h:aB}(hh:LV h){p:Nat}(hp:p < 6)(hun:bQ h p < 0){c:Int}(hc:0≤c∧c≤2) :
    LV ⟨gB h.Bytes p c (bW c).toNat,h.Class.set p c⟩∧(∀t,(t / 4).toNat≠p→aX ⟨gB h.Bytes p c (bW c).toNat,h.Class.set p c⟩ t=aX h t)∧(∀t,0≤aX h t→(t / 4).toNat≠p∧g7 ⟨gB h.Bytes p c (bW c).toNat,h.Class.set p c⟩ t=g7 h t) ∧
      ∀i,i < (bW c).toNat→aX ⟨gB h.Bytes p c (bW c).toNat,h.Class.set p c⟩ ((p:Int) * 4+i)=c∧g7 ⟨gB h.Bytes p c (bW c).toNat,h.Class.set p c⟩ ((p:Int) * 4+i)=1:=by
  obtain⟨hs,hpg⟩:=hh
  have h384:=hs.1
  have hle:=jB c
  have hpn:((bW c).toNat:Int)≤bW c:=by omega
  have hb:=aLF h384 hp hc (bW c).toNat hpn
  have hbl:=CV h.Bytes p c (bW c).toNat
  have hs':dM ⟨gB h.Bytes p c (bW c).toNat,h.Class.set p c⟩:=⟨by simp only [hbl];exact h384,by simp only [List.length_set];exact hs.2.1,YZ hs.2.2.1 p hc _,fun x hx=>by
    rcases List.mem_or_eq_of_mem_set hx with q | rfl
    · exact hs.2.2.2 x q
    · omega⟩
  have hcls:∀t:Int,(t / 4).toNat≠p→aX ⟨gB h.Bytes p c (bW c).toNat,h.Class.set p c⟩ t=aX h t:=fun t ht=>by
    unfold aX
    by_cases q:0≤t∧t≤23
    · rw [NN hs (by omega),if_neg ht]
    · rw [if_neg (fun z=>q z.1),if_neg (fun z=>q z.1)]
  refine⟨⟨hs',fun q hq=>?_⟩,hcls,fun t ht=>?_,fun i hi=>?_⟩
  · rw [FL hs' hq]
    have hold:=(FL hs hq).1 (hpg q hq)
    by_cases e:q=p
    · subst e
      unfold QQ at hold ⊢
      rw [if_pos hun] at hold
      rw [NN hs hq,if_pos rfl,if_neg (by omega)]
      refine⟨(hb 0).2.2,fun k k3 k8=>?_,fun i hi=>?_⟩
      · simp only;rw [(hb k).2.1 k3 k8];exact hold k (by omega)
      · simp only;rw [aH9 h384 hp _ hpn i hi];omega
    · refine QQ.same hq hs (by simp only [hbl]) (by rw [NN hs hq,if_neg e]) (fun k hk=>?_) hold
      exact(hb _).1 (by omega)
  · obtain⟨p',i',p6',hi',es',ec',eo',ep'⟩:=zS ht
    have hne:(t / 4).toNat≠p:=fun z=>by rw [ec',←ep',z] at ht;omega
    refine⟨hne,?_⟩
    have hz':=rD hs p6' rfl hi'
    unfold g7
    rw [hcls t hne,J8 (b:=h.Bytes) (by omega) (by simp only [hbl]) fun k k1 k2=>(hb k).1 (by omega)]
  · have e1:((p:Int) * 4+i) / 4=p:=by omega
    have e2:((p:Int) * 4+i) % 4=i:=by omega
    have ec:aX ⟨gB h.Bytes p c (bW c).toNat,h.Class.set p c⟩ ((p:Int) * 4+i)=c:=by
      unfold aX
      rw [e1,e2,Int.toNat_natCast,NN hs hp,if_pos rfl,if_pos (by omega)]
    refine⟨ec,?_⟩
    unfold g7
    rw [ec]
    have ho:=RF (c:=c) hp (by omega:(i:Int) < bW c)
    have:(eI ((p:Int) * 4+i) c).toNat=p * 64+8+i * (aR c).toNat:=ho.1
    rw [this]
    exact aH9 h384 hp _ hpn i hi
def rI(m m':Mem)(k:Int):Prop:=j7 m'∧∀s,dX m s=3→s≠k→dX m' s=3∧g7 m'.aB s=g7 m.aB s∧aX m'.aB s=aX m.aB s
theorem rI.refl{m:Mem}(h:j7 m)(k:Int):rI m m k:=⟨h,fun _ h _=>⟨h,rfl,rfl⟩⟩
theorem rI.live{m m':Mem}{k h:Int}(q:rI m m' k)(hl:jG m h)(hn:h % 32≠k):jG m' h:=by
  obtain⟨h1,h2,h3⟩:=hl
  obtain⟨a,b,_⟩:=q.2 _ h2 hn
  exact⟨h1,a,by rw [b];exact h3⟩
theorem DX{l:List aE}{k j:Nat}(hk:k < l.length){t:aE}:eF (l.set k t) j=if j=k then t.aL else eF l j:=by
  unfold eF
  rw [List.getD_eq_getElem?_getD,List.getD_eq_getElem?_getD,List.getElem?_set]
  by_cases e:k=j
  · subst e;simp [hk]
  · have e':¬j=k:=fun z=>e z.symm
    simp [e,e']
theorem W7{l:List aE}{k:Nat}(hk:k < l.length){t:aE}(ht:t.aL.Sublist l[k].aL):(cA (l.set k t)).Sublist (cA l):=by
  rw [xP hk,uS hk]
  exact(List.Sublist.refl _).append (ht.append (List.Sublist.refl _))
theorem BP{l:List aE}{k:Nat}(hk:k < l.length){xs:List Int}{s:Int}:s∈cA (l.set k ⟨l[k].aL++xs⟩)↔s∈cA l∨s∈xs:=by
  rw [xP hk,uS hk]
  simp only [List.mem_append]
  constructor
  · rintro(h | (h | h) | h)
    · exact .inl (.inl h)
    · exact .inl (.inr (.inl h))
    · exact .inr h
    · exact .inl (.inr (.inr h))
  · rintro((h | h | h) | h)
    · exact .inl h
    · exact .inr (.inl (.inl h))
    · exact .inr (.inr h)
    · exact .inr (.inl (.inr h))
theorem JK{l:List aE}{k:Nat}(hk:k < l.length){xs r q:List Int}(h:(q++(cA l++r)).Nodup)(hx:xs.Nodup)(hd:∀x∈xs,x∉q++(cA l++r)):(q++(cA (l.set k ⟨l[k].aL++xs⟩)++r)).Nodup:=by
  have hp:(q++(cA (l.set k ⟨l[k].aL++xs⟩)++r)).Perm (xs++(q++(cA l++r))):=by
    rw [xP hk,uS hk]
    have e1:q++(cA (l.take k)++(l[k].aL++xs++cA (l.drop (k+1)))++r)=(q++cA (l.take k)++l[k].aL)++(xs++(cA (l.drop (k+1))++r)):=by simp
    have e2:xs++(q++(cA (l.take k)++(l[k].aL++cA (l.drop (k+1)))++r))=xs++((q++cA (l.take k)++l[k].aL)++(cA (l.drop (k+1))++r)):=by simp
    rw [e1,e2]
    exact List.perm_append_comm_assoc _ _ _
  rw [hp.nodup_iff,List.nodup_append]
  exact⟨hx,h,fun a ha b hb e=>hd a ha (e ▸ hb)⟩
theorem Y1{m m':Mem}{s:Int}(h1:aX m'.aB s=aX m.aB s)(h2:g7 m'.aB s=g7 m.aB s)(h3:s∈cS m'.aA↔s∈cS m.aA):dX m' s=dX m s:=by
  unfold dX
  rw [h1,h2]
  by_cases q:s∈cS m.aA
  · rw [if_pos q,if_pos (h3.2 q)]
  · rw [if_neg q,if_neg (fun z=>q (h3.1 z))]
theorem mS{m:Mem}{s:Int}:dX m s=3↔0≤aX m.aB s∧s∉cS m.aA∧g7 m.aB s≤6:=by
  unfold dX
  constructor
  · intro h
    split at h
    · omega
    · split at h
      · omega
      · split at h
        · omega
        · exact⟨by omega,by assumption,by omega⟩
  · rintro⟨a,b,c⟩
    rw [if_neg (by omega),if_neg b,if_neg (by omega)]
noncomputable section
variable {m:Mem} (hm:j7 m)
include hm
theorem j7.aM1{k:Nat}(hk:k < 9){t:aE}(ht:t.aL.Sublist (eF m.aA.bD k)):rI m ⟨m.aB,⟨m.aA.Global,m.aA.bD.set k t⟩⟩ (-1):=by
  obtain⟨⟨hh,h3,h9,h2,hr,hn⟩,hg,ho⟩:=hm
  have hk':k < m.aA.bD.length:=by omega
  have ht':t.aL.Sublist m.aA.bD[k].aL:=by rw [cQ hk'];exact ht
  have hsub:(cS ⟨m.aA.Global,m.aA.bD.set k t⟩).Sublist (cS m.aA):=(List.Sublist.refl _).append (W7 hk' ht')
  refine⟨⟨⟨hh,h3,by simpa using h9,fun s hs=>?_,fun x hx=>hr x (hsub.subset hx),hsub.nodup hn⟩,hg,fun j hj=>?_⟩,fun s hs _=>⟨?_,rfl,rfl⟩⟩
  · rcases List.mem_or_eq_of_mem_set hs with q | rfl
    · exact h2 s q
    · have:=ht'.length_le;have:=h2 _ (List.getElem_mem hk');omega
  · unfold wU
    simp only [DX hk']
    split
    · rename_i e;subst e
      exact fun x hx=>ho j hj x (ht.subset hx)
    · exact ho j hj
  · rw [mS] at hs ⊢
    exact⟨hs.1,fun q=>hs.2.1 (hsub.subset q),hs.2.2⟩
theorem j7.aEJ{k:Nat}(hk:k < 3){t:aE}(ht:t.aL.Sublist (eF m.aA.Global k)):rI m ⟨m.aB,⟨m.aA.Global.set k t,m.aA.bD⟩⟩ (-1):=by
  obtain⟨⟨hh,h3,h9,h2,hr,hn⟩,hg,ho⟩:=hm
  have hk':k < m.aA.Global.length:=by omega
  have ht':t.aL.Sublist m.aA.Global[k].aL:=by rw [cQ hk'];exact ht
  have hsub:(cS ⟨m.aA.Global.set k t,m.aA.bD⟩).Sublist (cS m.aA):=(W7 hk' ht').append (List.Sublist.refl _)
  refine⟨⟨⟨hh,by simpa using h3,h9,h2,fun x hx=>hr x (hsub.subset hx),hsub.nodup hn⟩,fun j hj=>?_,ho⟩,fun s hs _=>⟨?_,rfl,rfl⟩⟩
  · unfold C7
    simp only [DX hk']
    split
    · rename_i e;subst e
      exact fun x hx=>hg j hj x (ht.subset hx)
    · exact hg j hj
  · rw [mS] at hs ⊢
    exact⟨hs.1,fun q=>hs.2.1 (hsub.subset q),hs.2.2⟩
theorem j7.aKL{k:Nat}(hk:k < 9){xs:List Int}(hl:(eF m.aA.bD k).length+xs.length≤2)(hx:xs.Nodup)(hf:wT m.aB xs ((k % 3:Nat):Int))(hd:∀x∈xs,x∉cS m.aA)(hk':k < m.aA.bD.length) :
    j7 ⟨m.aB,⟨m.aA.Global,m.aA.bD.set k ⟨m.aA.bD[k].aL++xs⟩⟩⟩∧∀s,s∉xs→dX m s=3→dX ⟨m.aB,⟨m.aA.Global,m.aA.bD.set k ⟨m.aA.bD[k].aL++xs⟩⟩⟩ s=3:=by
  obtain⟨⟨hh,h3,h9,h2,hr,hn⟩,hg,ho⟩:=hm
  have hmem:∀s,s∈cS ⟨m.aA.Global,m.aA.bD.set k ⟨m.aA.bD[k].aL++xs⟩⟩↔s∈cS m.aA∨s∈xs:=fun s=>by
    unfold cS;simp only [List.mem_append,BP hk'];rw [or_assoc]
  have hcl:∀x∈xs,0≤x∧x≤23:=fun x h=>by
    have:=(hf x h).1
    exact(rE (h:=m.aB) (s:=x) (by omega)).1
  refine⟨⟨⟨hh,h3,by simpa using h9,fun s hs=>?_,fun x hx=>?_,?_⟩,hg,fun j hj=>?_⟩,fun s hs h3=>?_⟩
  · rcases List.mem_or_eq_of_mem_set hs with q | rfl
    · exact h2 s q
    · rw [←cQ hk'] at hl;simpa using hl
  · rcases(hmem x).1 hx with q | q
    · exact hr x q
    · exact hcl x q
  · have:=JK (q:=cA m.aA.Global) (r:=[]) hk' (by simpa [cS] using hn) hx (by simpa [cS] using hd)
    simpa [cS] using this
  · unfold wU
    simp only [DX hk']
    split
    · rename_i e;subst e
      intro x hx
      rcases List.mem_append.1 hx with q | q
      · rw [cQ hk'] at q;exact ho j hj x q
      · exact hf x q
    · exact ho j hj
  · rw [mS] at h3 ⊢
    exact⟨h3.1,fun q=>(((hmem s).1 q).elim h3.2.1 hs),h3.2.2⟩
theorem j7.UI{k:Nat}(hk:k < 3){xs:List Int}(hx:xs.Nodup)(hf:wT m.aB xs (k:Int))(hd:∀x∈xs,x∉cS m.aA)(hk':k < m.aA.Global.length) :
    j7 ⟨m.aB,⟨m.aA.Global.set k ⟨m.aA.Global[k].aL++xs⟩,m.aA.bD⟩⟩∧∀s,s∉xs→dX m s=3→dX ⟨m.aB,⟨m.aA.Global.set k ⟨m.aA.Global[k].aL++xs⟩,m.aA.bD⟩⟩ s=3:=by
  obtain⟨⟨hh,h3,h9,h2,hr,hn⟩,hg,ho⟩:=hm
  have hmem:∀s,s∈cS ⟨m.aA.Global.set k ⟨m.aA.Global[k].aL++xs⟩,m.aA.bD⟩↔s∈cS m.aA∨s∈xs:=fun s=>by
    unfold cS;simp only [List.mem_append,BP hk'];rw [or_right_comm]
  have hcl:∀x∈xs,0≤x∧x≤23:=fun x h=>by
    have:=(hf x h).1
    exact(rE (h:=m.aB) (s:=x) (by omega)).1
  refine⟨⟨⟨hh,by simpa using h3,h9,h2,fun x hx=>?_,?_⟩,fun j hj=>?_,ho⟩,fun s hs h3=>?_⟩
  · rcases(hmem x).1 hx with q | q
    · exact hr x q
    · exact hcl x q
  · have:=JK (q:=[]) (r:=cA m.aA.bD) hk' (by simpa [cS] using hn) hx (by simpa [cS] using hd)
    simpa [cS] using this
  · unfold C7
    simp only [DX hk']
    split
    · rename_i e;subst e
      intro x hx
      rcases List.mem_append.1 hx with q | q
      · rw [cQ hk'] at q;exact hg j hj x q
      · exact hf x q
    · exact hg j hj
  · rw [mS] at h3 ⊢
    exact⟨h3.1,fun q=>(((hmem s).1 q).elim h3.2.1 hs),h3.2.2⟩
theorem j7.JL{x:Int}(hx:x∈cS m.aA):0≤aX m.aB x∧g7 m.aB x≤6:=by
  obtain⟨⟨hh,h3,h9,h2,hr,hn⟩,hg,ho⟩:=hm
  have key:∀(l:List aE),x∈cA l→∃k,k < l.length∧x∈eF l k:=fun l h=>by
    obtain⟨s,h1,h2⟩:=J7.1 h
    obtain⟨k,hk,rfl⟩:=List.mem_iff_getElem.1 h1
    exact⟨k,hk,by rw [←cQ hk];exact h2⟩
  rcases List.mem_append.1 hx with q | q
  · obtain⟨k,hk,h⟩:=key _ q
    have:=hg k (by omega) x h
    exact⟨by omega,this.2⟩
  · obtain⟨k,hk,h⟩:=key _ q
    have:=ho k (by omega) x h
    exact⟨by omega,this.2⟩
theorem j7.heap{h':aB}(hh:LV h')(hs:∀x∈cS m.aA,aX h' x=aX m.aB x∧g7 h' x=g7 m.aB x):j7 ⟨h',m.aA⟩:=by
  obtain⟨⟨_,hl⟩,hg,ho⟩:=hm
  have key:∀(l:List aE) k x,x∈eF l k→x∈cA l:=fun l k x h=>by
    unfold eF at h
    rw [List.getD_eq_getElem?_getD] at h
    cases hk:l[k]? with
    | none=>rw [hk] at h;simp at h
    | some s=>rw [hk] at h;exact J7.2 ⟨s,List.mem_of_getElem? hk,h⟩
  refine⟨⟨hh,hl⟩,fun k hk x hx=>?_,fun k hk x hx=>?_⟩
  · obtain⟨a,b⟩:=hs x (List.mem_append_left _ (key _ k x hx))
    show aX h' x=_∧g7 h' x≤6
    rw [a,b];exact hg k hk x hx
  · obtain⟨a,b⟩:=hs x (List.mem_append_right _ (key _ k x hx))
    show aX h' x=_∧g7 h' x≤6
    rw [a,b];exact ho k hk x hx
theorem j7.aP9{s g:Int}(hu:dX m s=3)(hg:1≤g∧g≤7):rI m ⟨⟨RE m.aB.Bytes (eI s (aX m.aB s)).toNat g,m.aB.Class⟩,m.aA⟩ s∧g7 ⟨RE m.aB.Bytes (eI s (aX m.aB s)).toNat g,m.aB.Class⟩ s=g:=by
  have hu':=mS.1 hu
  obtain⟨a,b⟩:=LV.aH8 hm.1.1 hu'.1 hg
  refine⟨⟨j7.heap hm a fun x hx=>⟨rfl,?_⟩,fun t ht hn=>?_⟩,by rw [b s hu'.1,if_pos rfl]⟩
  · rw [b x (j7.JL hm hx).1,if_neg (show ¬x=s from fun e=>hu'.2.1 (e ▸ hx))]
  · have ht':=mS.1 ht
    have e:g7 ⟨RE m.aB.Bytes (eI s (aX m.aB s)).toNat g,m.aB.Class⟩ t=g7 m.aB t:=by rw [b t ht'.1,if_neg hn]
    exact⟨mS.2 ⟨ht'.1,ht'.2.1,by simp only [e];exact ht'.2.2⟩,e,rfl⟩
theorem j7.aDL{p:Nat}(hp:p < 6)(hun:bQ m.aB p < 0){c:Int}(hc:0≤c∧c≤2){xs:List Int}(hxs:∀x∈xs,∃i,i < (bW c).toNat∧x=(p:Int) * 4+(i:Nat))(hx:xs.Nodup)(hk':c.toNat < m.aA.Global.length) :
    rI m ⟨⟨gB m.aB.Bytes p c (bW c).toNat,m.aB.Class.set p c⟩,⟨m.aA.Global.set c.toNat ⟨m.aA.Global[c.toNat].aL++xs⟩,m.aA.bD⟩⟩ (-1):=by
  obtain⟨a,b,d,e⟩:=LV.aOX hm.1.1 hp hun hc
  have h1:j7 ⟨⟨gB m.aB.Bytes p c (bW c).toNat,m.aB.Class.set p c⟩,m.aA⟩:=j7.heap hm a fun x hx=>by
    obtain⟨q,r⟩:=d x (j7.JL hm hx).1
    exact⟨b x q,r⟩
  have hno:∀x∈xs,¬0≤aX m.aB x:=fun x h q=>by
    obtain⟨i,hi,rfl⟩:=hxs x h
    have h4:=jB c
    exact(d _ q).1 (by omega)
  obtain⟨f,g⟩:=j7.UI h1 (k:=c.toNat) (by omega) hx (fun x h=>by
    obtain⟨i,hi,rfl⟩:=hxs x h
    have:=e i hi
    exact⟨by simp only [this.1];omega,by simp only [this.2];omega⟩) (fun x h q=>hno x h (j7.JL hm q).1) hk'
  refine⟨f,fun s hs _=>?_⟩
  have hs':=mS.1 hs
  obtain⟨q,r⟩:=d s hs'.1
  have h2:dX ⟨⟨gB m.aB.Bytes p c (bW c).toNat,m.aB.Class.set p c⟩,m.aA⟩ s=3:=mS.2 ⟨by simp only [b s q];exact hs'.1,hs'.2.1,by simp only [r];exact hs'.2.2⟩
  exact⟨g s (fun h=>hno s h hs'.1) h2,r,b s q⟩
end
end Go.Gv
end
noncomputable section
namespace Go.Gv
theorem aM2{p n:Nat}{x:Int}(h:x∈gS p n):∃i,i < n∧x=(p:Int) * 4+(i:Nat):=by
  simp only [gS,List.mem_map,List.mem_range] at h
  obtain⟨i,h1,h2⟩:=h
  exact⟨i,h1,h2.symm⟩
theorem aIA(p n:Nat):(gS p n).Nodup:=by
  unfold gS
  rw [List.Nodup,List.pairwise_map]
  exact List.Pairwise.imp (fun h e=>h (by omega)) (List.nodup_range (n:=n))
theorem UJ{m:Mem}(hm:j7 m){c:Int}(hc:0≤c∧c≤2) :
    ∃m' s,m5 m c=some (m',s)∧A9 m c=some (m',s)∧mQ m'∧(0≤s→dM m'.aB∧0≤aX m'.aB s)∧rI m m' (-1):=by
  have hl:=hm.1.2
  have hcnt:=hl.count
  have hs:=hm.1.1.1
  have hsl:=hl.O4 (by omega)
  have hp4:=jB c
  have hpp:0 < bW c:=gK.2 hc
  have hall:=fE m.aA
  have hsG:∀s∈m.aA.Global,s.aL.length≤24:=fun s h=>by have:=qG h;omega
  have hsO:∀s∈m.aA.bD,s.aL.length≤24:=fun s h=>by have:=qG h;omega
  have h3:=hl.1
  have h9:=hl.2.1
  have hcpl:=EP (l:=m.aA) (by omega) (by omega) (fun s h=>by have:=hsG s h;omega) (fun s h=>by have:=hsO s h;omega)
  unfold m5 A9
  rcases aAF hm.1.1 hc with ⟨e1,e2⟩ | ⟨p,hp,hun,e1,e2⟩
  · rw [e1,e2,hcpl]
    have h1:=hs.1;have h2:=hs.2.1
    exact⟨_,_,rfl,rfl,⟨by simp only;omega,by simp only;omega,by simp only;omega,by simp only;omega,by simp only;omega⟩,fun h=>absurd h (by omega),rI.refl hm _⟩
  · rw [e1,e2,hcpl]
    simp only [aH,z5,z4,sV,CX]
    have hn:(((bW c).toNat:Int) == 0)=false:=by simpa using (by omega:¬((bW c).toNat:Int)=0)
    have hk:c.toNat < m.aA.Global.length:=by omega
    have hg0:=hsG _ (List.getElem_mem hk)
    have hx:idx m.aA.Global c=some m.aA.Global[c.toNat]:=fB hc.1 (by omega)
    have hz:idx (gS p (bW c).toNat) 0=some ((p:Int) * 4):=by
      have:=aV (l:=gS p (bW c).toNat) (k:=0) (by rw [CX];omega)
      rw [show((0:Nat):Int)=0 from rfl] at this
      rw [this];simp [gS]
    have hlen:(List.drop (1:Int).toNat (List.take (bW c).toNat (gS p (bW c).toNat))).length≤4:=by simp [CX];omega
    simp only [hn,bE,if_false,hx,aH,hz]
    rw [aS (by omega),aS (by omega)]
    have hcl:bQ ⟨gB m.aB.Bytes p c (bW c).toNat,m.aB.Class.set p c⟩ p=c:=by
      have h6:=hs.2.1
      unfold bQ;simp [List.getD_eq_getElem?_getD,List.getElem?_set,h6,hp]
    refine⟨_,_,rfl,rfl,⟨by simp only [CV];have:=hs.1;omega,by simp only [List.length_set];have:=hs.2.1;omega,by simp only [List.length_set];omega,by simp only;omega,?_⟩,fun _=>⟨⟨by simp only [CV];exact hs.1,by simp only [List.length_set];exact hs.2.1,YZ hs.2.2.1 p hc _,fun x hx=>?_⟩,?_⟩,?_⟩
    · rw [fE];simp only [xQ hk];omega
    · rcases List.mem_or_eq_of_mem_set hx with h | rfl
      · exact hs.2.2.2 x h
      · omega
    · unfold aX
      have e4:((p:Int) * 4 / 4).toNat=p:=by omega
      rw [e4]
      simp only [hcl]
      rw [if_pos ⟨by omega,by omega⟩];exact hc.1
    · exact j7.aDL hm hp hun hc (fun x hx=>aM2 (List.mem_of_mem_take (List.mem_of_mem_drop hx))) ((aIA p _).sublist ((List.drop_sublist _ _).trans (List.take_sublist _ _))) hk
theorem UK(n:Int):∃c,m4 n=some c∧A7 n=some c∧(c = -1∨(0≤c∧c≤2)):=by
  have s1:∀k,0≤k∧k≤2→dN n k=some (if 1≤n∧n≤fC k then .stop (Out.ret k) else .next (k+1)):=fun k hk=>by
    simp only [dN]
    rw [if_pos (by simp;omega),wS,aH,bL,aH,aO (by omega) (by omega)]
    by_cases q:1≤n∧n≤fC k
    · rw [bB q,if_pos rfl,if_pos q]
    · rw [bK q,if_neg (by simp),if_neg q]
  have s2:∀k,0≤k∧k≤2→gA n k=some (if 1≤n∧n≤fC k then .stop (Out.ret k) else .next (k+1)):=fun k hk=>by
    simp only [gA,tD]
    rw [if_pos (by simp;omega),I6,aH,aO (by omega) (by omega)]
    by_cases q1:1≤n
    · by_cases q2:n≤fC k <;> simp [q1,q2]
    · simp [q1]
  have st:∀k,0≤k∧k≤2→1≤n∧n≤fC k→loop (dN n) k=some (Out.ret k)∧loop (gA n) k=some (Out.ret k):=fun k hk h=>
    ⟨bP (by rw [s1 k hk,if_pos h]),bP (by rw [s2 k hk,if_pos h])⟩
  have nx:∀k,0≤k∧k≤2→¬(1≤n∧n≤fC k)→loop (dN n) k=loop (dN n) (k+1)∧loop (gA n) k=loop (gA n) (k+1):=fun k hk h=>
    ⟨bT (by rw [s1 k hk,if_neg h]),bT (by rw [s2 k hk,if_neg h])⟩
  unfold m4 A7
  by_cases q0:1≤n∧n≤fC 0
  · have:=st 0 (by omega) q0
    rw [this.1,this.2];exact⟨_,rfl,rfl,.inr (by omega)⟩
  · have h0:=nx 0 (by omega) q0
    rw [h0.1,h0.2,show(0:Int)+1=1 from rfl]
    by_cases q1:1≤n∧n≤fC 1
    · have:=st 1 (by omega) q1
      rw [this.1,this.2];exact⟨_,rfl,rfl,.inr (by omega)⟩
    · have h1:=nx 1 (by omega) q1
      rw [h1.1,h1.2,show(1:Int)+1=2 from rfl]
      by_cases q2:1≤n∧n≤fC 2
      · have:=st 2 (by omega) q2
        rw [this.1,this.2];exact⟨_,rfl,rfl,.inr (by omega)⟩
      · have h2:=nx 2 (by omega) q2
        rw [h2.1,h2.2,show(2:Int)+1=3 from rfl,bP (body:=dN n) (r:=Out.brk ()) (by simp [dN]),bP (body:=gA n) (r:=Out.brk ()) (by simp [gA])]
        exact⟨_,rfl,rfl,.inl rfl⟩
theorem aIB{s:aE}(hl:s.aL.length≤1048576):∃t x,iM s=some (t,x)∧pT s=some (x,t)∧t.aL.length≤s.aL.length∧(0≤x→x∈s.aL)∧t.aL.Sublist s.aL:=by
  unfold iM pT xW
  rw [aO (by omega) (by omega)]
  by_cases q:s.aL.length=0
  · rw [if_pos (by simpa using q),if_pos (by simp;omega)]
    exact⟨_,_,rfl,rfl,Nat.le_refl _,fun h=>absurd h (by omega),List.Sublist.refl _⟩
  · have hx:idx s.aL ((s.aL.length:Int) - 1)=some (s.aL[s.aL.length - 1]'(by omega)):=by
      rw [show((s.aL.length:Int) - 1)=((s.aL.length - 1:Nat):Int) by omega,aV (by omega)]
    rw [if_neg (by simpa using q),if_neg (by simp;omega),aS (by omega),hx]
    simp only [aH]
    rw [aS (by omega)]
    exact⟨_,_,rfl,rfl,by simp,fun _=>List.getElem_mem _,(List.drop_sublist _ _).trans (List.take_sublist _ _)⟩
theorem zT{w c:Int}(hw:0≤w∧w≤2)(hc:0≤c∧c≤2):jO w c=some (w * 3+c)∧BZ w c=some (w * 3+c):=by
  have e:aW (aW (w * 3)+c)=w * 3+c:=by rw [aO (x:=w * 3) (by omega) (by omega),aO (by omega) (by omega)]
  constructor
  · unfold jO oA;rw [bL,bL,bB hw,bB hc,e];rfl
  · unfold BZ yE;rw [iC,gD,bB hw,bB hc,e];rfl
theorem UL{l:List aE}{k:Nat}(hk:k < l.length){t:aE}(ht:t.aL.length≤l[k].aL.length):(cA (l.set k t)).length≤(cA l).length:=by
  rw [xP hk,uS hk];simp;omega
noncomputable section
variable {m:Mem} (hm:j7 m)
include hm
theorem j7.facts:(cS m.aA).length≤24∧m.aA.Global.length=3∧m.aA.bD.length=9∧m.aB.Bytes.length=384∧m.aB.Class.length=6∧mQ m∧e7 m.aA=some m.aA∧gW m.aA=some true ∧
    (∀s∈m.aA.Global,s.aL.length≤24)∧(∀s∈m.aA.bD,s.aL.length≤24):=by
  have hl:=hm.1.2
  have hcnt:=hl.count
  have hall:=fE m.aA
  have hsG:∀s∈m.aA.Global,s.aL.length≤24:=fun s h=>by have:=qG h;omega
  have hsO:∀s∈m.aA.bD,s.aL.length≤24:=fun s h=>by have:=qG h;omega
  have h3:=hl.1;have h9:=hl.2.1
  have h1:=hm.1.1.1.1;have h2:=hm.1.1.1.2.1
  refine⟨hcnt,h3,h9,h1,h2,⟨by omega,by omega,by omega,by omega,by omega⟩,EP (by omega) (by omega) (fun s h=>by have:=hsG s h;omega) (fun s h=>by have:=hsO s h;omega),by rw [HI (by omega),bB hl],hsG,hsO⟩
theorem LX{w c:Int}(hw:0≤w∧w≤2)(hc:0≤c∧c≤2) :
    ∃l t x,idx m.aA.bD (w * 3+c)=some l∧iM l=some (t,x)∧A8 m.aA w c=some (⟨m.aA.Global,m.aA.bD.set (w * 3+c).toNat t⟩,x) ∧
      mQ ⟨m.aB,⟨m.aA.Global,m.aA.bD.set (w * 3+c).toNat t⟩⟩∧(0≤x→0≤aX m.aB x)∧rI m ⟨m.aB,⟨m.aA.Global,m.aA.bD.set (w * 3+c).toNat t⟩⟩ (-1):=by
  obtain⟨hcnt,h3,h9,h1,h2,hsm,hcp,hlo,hsG,hsO⟩:=j7.facts hm
  have hk:(w * 3+c).toNat < m.aA.bD.length:=by omega
  have hx:idx m.aA.bD (w * 3+c)=some m.aA.bD[(w * 3+c).toNat]:=fB (by omega) (by omega)
  have h24:=hsO _ (List.getElem_mem hk)
  obtain⟨t,x,e1,e2,ht,hmem,hsub⟩:=aIB (s:=m.aA.bD[(w * 3+c).toNat]) (by omega)
  have hall:=fE m.aA
  refine⟨_,t,x,hx,e1,?_,⟨by simp only;omega,by simp only;omega,by simp only;omega,by simp only [List.length_set];omega,?_⟩,fun h0=>?_,j7.aM1 hm (by omega) (by rw [←cQ hk];exact hsub)⟩
  · unfold A8 tE
    rw [hcp,(zT hw hc).2,hlo]
    simp only [aH,eU,bE,if_false]
    rw [bK (by omega),if_neg (by simp),hx,aH,e2];rfl
  · have:=UL hk ht
    rw [fE];simp only;omega
  · have:=hm.2.2 (w * 3+c).toNat (by omega) x (by rw [←cQ hk];exact hmem h0)
    omega
theorem ET{c:Int}(hc:0≤c∧c≤2) :
    ∃l t x,idx m.aA.Global c=some l∧iM l=some (t,x)∧tF m.aA c=some (⟨m.aA.Global.set c.toNat t,m.aA.bD⟩,x) ∧
      mQ ⟨m.aB,⟨m.aA.Global.set c.toNat t,m.aA.bD⟩⟩∧(0≤x→0≤aX m.aB x)∧rI m ⟨m.aB,⟨m.aA.Global.set c.toNat t,m.aA.bD⟩⟩ (-1):=by
  obtain⟨hcnt,h3,h9,h1,h2,hsm,hcp,hlo,hsG,hsO⟩:=j7.facts hm
  have hk:c.toNat < m.aA.Global.length:=by omega
  have hx:idx m.aA.Global c=some m.aA.Global[c.toNat]:=fB (by omega) (by omega)
  have h24:=hsG _ (List.getElem_mem hk)
  obtain⟨t,x,e1,e2,ht,hmem,hsub⟩:=aIB (s:=m.aA.Global[c.toNat]) (by omega)
  have hall:=fE m.aA
  refine⟨_,t,x,hx,e1,?_,⟨by simp only;omega,by simp only;omega,by simp only [List.length_set];omega,by simp only;omega,?_⟩,fun h0=>?_,j7.aEJ hm (by omega) (by rw [←cQ hk];exact hsub)⟩
  · unfold tF nE
    rw [hcp,hlo,gD,bB hc]
    simp only [aH,eU,bE,if_false]
    rw [hx,aH,e2];rfl
  · have:=UL hk ht
    rw [fE];simp only;omega
  · have:=hm.2.1 c.toNat (by omega) x (by rw [←cQ hk];exact hmem h0)
    omega
theorem aDM{w h:Int}(hw:0≤w∧w≤2)(hv:jG m h):∃m',pJ m w (h % 32)=some m'∧F5 m w h=some m'∧mQ m'∧rI m m' (h % 32):=by
  obtain⟨hcnt,h3,h9,h1,h2,hsm,hcp,hlo,hsG,hsO⟩:=j7.facts hm
  have hs:=hm.1.1.1
  have hh:=hv.1
  have hhm:=hh.mod
  have hcl:=mX hv.2.1
  have hgo:=y4 hcl
  have hc2:0≤aX m.aB (h % 32)∧aX m.aB (h % 32)≤2:=by
    obtain⟨_,q,e⟩:=rE hcl
    rw [e];exact gK.1 (by omega)
  have hg6:1≤h / 32∧h / 32≤6:=by unfold mU at hh;omega
  have hbl:m.aB.Bytes.length≤maxLen:=by rw [h1];simp [maxLen]
  have hnot:h % 32∉cS m.aA:=fun q=>by
    have:=hv.2.1;unfold dX at this;rw [if_neg (by omega),if_pos q] at this;omega
  have hcpH:=GP (h:=m.aB) (by omega) (by omega)
  have eo:eI (h % 32) (aX m.aB (h % 32))=(((eI (h % 32) (aX m.aB (h % 32))).toNat:Nat):Int):=by omega
  have ew:aW (h / 32+1)=h / 32+1:=aO (by omega) (by omega)
  have ed:aW (Int.tdiv h 32)=h / 32:=by rw [zQ (by unfold mU at hh;omega),aO (by omega) (by omega)]
  have hall:=fE m.aA
  obtain⟨hr1,hr2⟩:=j7.aP9 hm hv.2.1 (g:=h / 32+1) (by omega)
  have hu:=mS.1 hv.2.1
  unfold pJ F5 ID vR
  rw [hhm.1,gE hs,hcpH,CN hbl,bB hs,kN hs,ed,ew,hcp]
  simp only [aH,eU,bE,if_false,B4,v7,B3]
  rw [lJ hs hcl,hv.2.2,d9,bK (show ¬aX m.aB (h % 32) < 0 by omega),bB (show 1≤h / 32+1∧h / 32+1≤7 by omega)]
  simp only [aH,eU,bE,if_false,lI,sK,ew]
  generalize hgn:(eI (h % 32) (aX m.aB (h % 32))).toNat=a at eo
  rw [hgn] at hr1 hr2
  rw [eo,AL (by omega) (by omega) (by omega),LC (by omega)]
  simp only [aH]
  rw [JJ (by omega) (by omega) (by omega)]
  simp only [aH,vH,D8,ed,ew,hhm.1]
  by_cases q:h / 32+1≤6
  · have hk:(w * 3+aX m.aB (h % 32)).toNat < m.aA.bD.length:=by omega
    have hx:idx m.aA.bD (w * 3+aX m.aB (h % 32))=some m.aA.bD[(w * 3+aX m.aB (h % 32)).toNat]:=fB (by omega) (by omega)
    have hk2:(aX m.aB (h % 32)).toNat < m.aA.Global.length:=by omega
    have hx2:idx m.aA.Global (aX m.aB (h % 32))=some m.aA.Global[(aX m.aB (h % 32)).toNat]:=fB (by omega) (by omega)
    have b1:=hsO _ (List.getElem_mem hk)
    have b2:=hsG _ (List.getElem_mem hk2)
    rw [bB q,if_pos rfl,if_pos rfl]
    unfold uL N4 qY
    rw [kN hs,aH,hcp,(zT hw hc2).1,(zT hw hc2).2,hlo,qF,bB (show 0≤h % 32∧h % 32≤23 by omega),JH (by omega) (by simp only [maxLen];omega) (by simp only [maxLen];omega),bK hnot]
    simp only [aH,eU,bE,if_false,hx,hx2]
    have nz:¬w * 3+aX m.aB (h % 32) < 0:=by omega
    simp only [bK nz,bE,if_false]
    by_cases q2:m.aA.bD[(w * 3+aX m.aB (h % 32)).toNat].aL.length < 2
    · have y1:(m.aA.bD[(w * 3+aX m.aB (h % 32)).toNat].aL.length:Int) < 2:=by omega
      have y2:¬(2:Int)≤m.aA.bD[(w * 3+aX m.aB (h % 32)).toNat].aL.length:=by omega
      simp only [bB y1,bK y2,bE,if_false,if_true]
      rw [aS (by simp;omega),aS (by simp;omega)]
      refine⟨_,rfl,rfl,⟨by simp only [y9];omega,by simp only;omega,by simp only;omega,by simp only [List.length_set];omega,?_⟩,?_⟩
      · rw [fE];simp only [xQ hk];simp;omega
      · have hmod:((w * 3+aX m.aB (h % 32)).toNat % 3:Nat)=(aX m.aB (h % 32)).toNat:=by omega
        obtain⟨z1,z2⟩:=j7.aKL hr1.1 (k:=(w * 3+aX m.aB (h % 32)).toNat) (by omega) (xs:=[h % 32]) (by simp only [←cQ hk,List.length_cons,List.length_nil];omega) (by simp) (fun x hx=>by
          simp at hx;subst hx
          exact⟨by rw [hmod];show aX m.aB (h % 32)=_;omega,by rw [hr2];omega⟩) (fun x hx=>by simp at hx;subst hx;exact hnot) hk
        refine⟨z1,fun s h1 h2=>?_⟩
        obtain⟨y1,y2,y3⟩:=hr1.2 s h1 h2
        exact⟨z2 s (by simpa using h2) y1,y2,y3⟩
    · have y1:¬(m.aA.bD[(w * 3+aX m.aB (h % 32)).toNat].aL.length:Int) < 2:=by omega
      have y2:(2:Int)≤m.aA.bD[(w * 3+aX m.aB (h % 32)).toNat].aL.length:=by omega
      simp only [bB y2,bK y1,bE,if_false,if_true]
      rw [aS (by simp;omega),aS (by simp;omega)]
      refine⟨_,rfl,rfl,⟨by simp only [y9];omega,by simp only;omega,by simp only [List.length_set];omega,by simp only;omega,?_⟩,?_⟩
      · rw [fE];simp only [xQ hk2];simp;omega
      · obtain⟨z1,z2⟩:=j7.UI hr1.1 (k:=(aX m.aB (h % 32)).toNat) (by omega) (xs:=[h % 32]) (by simp) (fun x hx=>by
          simp at hx;subst hx
          exact⟨by show aX m.aB (h % 32)=_;omega,by rw [hr2];omega⟩) (fun x hx=>by simp at hx;subst hx;exact hnot) hk2
        refine⟨z1,fun s h1 h2=>?_⟩
        obtain⟨y1,y2,y3⟩:=hr1.2 s h1 h2
        exact⟨z2 s (by simpa using h2) y1,y2,y3⟩
  · rw [bK q,if_neg (by simp),if_neg (by simp)]
    refine⟨_,rfl,rfl,⟨by simp only [y9];omega,by simp only;omega,by simp only;omega,by simp only;omega,by rw [fE];simp only;omega⟩,hr1⟩
end
theorem alloc_eq{b:aG}(hm:j7 b.Mem){w:Int}(hw:0≤w∧w≤2)(s:Sub) :
    ∃x y,oC b w s=some (x,y)∧nG s b w=some (y,x)∧∃m',x=⟨m',b.aK,b.aP,b.nZ⟩∧mQ m'∧rI b.Mem m' (-1):=by
  have hsm:=(j7.facts hm).2.2.2.2.2.1
  have hs:=hm.1.1.1
  obtain⟨c,ec,ei,hcc⟩:=UK s.A
  unfold oC nG
  rw [ec,ei]
  simp only [aH]
  by_cases c0:c < 0
  · simp only [bB c0,if_true,bA,aZ];exact⟨_,_,rfl,rfl,_,rfl,hsm,rI.refl hm _⟩
  have hc:0≤c∧c≤2:=by omega
  simp only [bK c0,bE,if_false]
  have fin:∀(m':Mem) (x:Int),mQ m'→rI b.Mem m' (-1)→(0≤x→dM m'.aB∧0≤aX m'.aB x) →
      ∃X Y,eM s x ⟨m',b.aK,b.aP,b.nZ⟩=some (X,Y)∧eZ s x ⟨m',b.aK,b.aP,b.nZ⟩=some (Y,X)∧∃m',X=⟨m',b.aK,b.aP,b.nZ⟩∧mQ m'∧rI b.Mem m' (-1):=by
    intro m' x hs' hst hx
    unfold eM eZ
    simp only [lZ,A2,bA,aZ]
    by_cases x0:0≤x
    · obtain⟨h,e1,e2⟩:=W5 (m:=m') (hx x0).1 (hx x0).2
      rw [bK (show ¬x < 0 by omega),bB x0]
      simp only [bE,if_false,if_true,e1,e2,aH]
      exact⟨_,_,rfl,rfl,m',rfl,hs',hst⟩
    · rw [bB (show x < 0 by omega),bK x0]
      by_cases p3:s.Pc=3
      · simp only [p3,beq_self_eq_true,if_true,bE,if_false,aH];exact⟨_,_,rfl,rfl,m',rfl,hs',hst⟩
      · have p3':(s.Pc == 3)=false:=by simpa using p3
        simp only [p3',if_true,bE,if_false,aH];exact⟨_,_,rfl,rfl,m',rfl,hs',hst⟩
  by_cases p0:s.Pc=0
  · obtain⟨l,t,x,e1,e2,e3,h1,h2,h3⟩:=LX hm hw hc
    simp only [p0,beq_self_eq_true,if_true,(zT hw hc).1,aH,e1,e2,e3]
    exact fin _ x h1 h3 (fun h=>⟨hs,h2 h⟩)
  · have p0':(s.Pc == 0)=false:=by simpa using p0
    simp only [p0',bE,if_false,l5,j6]
    obtain⟨l,t,x,e1,e2,e3,h1,h2,h3⟩:=ET hm hc
    by_cases p1:s.Pc=1
    · simp only [p1,beq_self_eq_true,if_true,aH,e1,e2,e3]
      exact fin _ x h1 h3 (fun h=>⟨hs,h2 h⟩)
    · have p1':(s.Pc == 1)=false:=by simpa using p1
      simp only [p1',bE,if_false]
      by_cases p3:s.Pc=3
      · simp only [p3,beq_self_eq_true,if_true,aH,e1,e2,e3]
        exact fin _ x h1 h3 (fun h=>⟨hs,h2 h⟩)
      · have p3':(s.Pc == 3)=false:=by simpa using p3
        simp only [p3',bE,if_false]
        by_cases p2:s.Pc=2
        · obtain⟨m',x,e1,e2,h1,h2,h3⟩:=UJ hm hc
          simp only [p2,beq_self_eq_true,if_true,aH,e1,e2]
          exact fin m' x h1 h3 h2
        · have p2':(s.Pc == 2)=false:=by simpa using p2
          simp only [p2',bE,if_false,bA,aZ];exact⟨_,_,rfl,rfl,_,rfl,hsm,rI.refl hm _⟩
end Go.Gv
end
noncomputable section
namespace Go.Gv
theorem aDN(r:bJ)(e:Int):∃v,qT r e=some v∧E9 r e=some v:=by
  unfold qT E9 vC BC
  by_cases h:2≤e
  · simp only [bB h,if_true];exact⟨_,rfl,rfl⟩
  · simp only [bK h,bE,if_false];exact⟨_,rfl,rfl⟩
theorem aKM{b:aG}{w:Int}{l:aN}(hx:idx b.aP w=some l)(hl:l.Rows.length≤1000)(s:Sub) :
    (m6 l.Rows s.Row s.E=some (-1)∧k9 s b w=(aZ s 0).bind fun x=>some (x,b)) ∨
    ∃k,∃h:k < l.Rows.length,m6 l.Rows s.Row s.E=some (k:Int)∧k9 s b w=some (⟨s.Kind,s.A,2,s.E,(k:Int),0,l.Rows[k].Handle,s.Out,s.Code,s.dV⟩,b):=by
  have key:∀d k,k+d=l.Rows.length →
      (loop (cX l.Rows s.E) (k:Int)=some (Out.brk ())∧loop (dK s b w) (k:Int)=some (Out.brk ())) ∨
      ∃j,∃h:j < l.Rows.length,loop (cX l.Rows s.E) (k:Int)=some (Out.ret (j:Int))∧loop (dK s b w) (k:Int)=some (Out.ret (⟨s.Kind,s.A,2,s.E,(j:Int),0,l.Rows[j].Handle,s.Out,s.Code,s.dV⟩,b)):=by
    intro d
    induction d with
    | zero =>
      intro k hk
      left
      exact⟨bP (by simp only [cX];rw [if_neg (by simp;omega)]),bP (by simp only [dK,hx,aH];rw [if_neg (by simp;omega)])⟩
    | succ d ih =>
      intro k hk
      have hk':k < l.Rows.length:=by omega
      obtain⟨v,e1,e2⟩:=aDN l.Rows[k] s.E
      cases v with
      | true =>
        right
        refine⟨k,hk',bP ?_,bP ?_⟩
        · simp only [cX]
          rw [if_pos (by simp;omega),aV hk',aH,e1];rfl
        · simp only [dK,hx,aH]
          rw [if_pos (by simp;omega),aV hk',aH,e2];rfl
      | false =>
        have n1:cX l.Rows s.E (k:Int)=some (.next ((k+1:Nat):Int)):=by
          simp only [cX]
          rw [if_pos (by simp;omega),aV hk',aH,e1,aH,aO (by omega) (by omega)];rfl
        have n2:dK s b w (k:Int)=some (.next ((k+1:Nat):Int)):=by
          simp only [dK,hx,aH]
          rw [if_pos (by simp;omega),aV hk',aH,e2,aH,aO (by omega) (by omega)];rfl
        rw [bT n1,bT n2]
        exact ih (k+1) (by omega)
  unfold m6 k9
  have hst:∃i:Nat,(if 0 < s.Row then s.Row else 0)=(i:Int)∧(if s.Row < 0 then 0 else s.Row)=(i:Int):=by
    refine⟨s.Row.toNat,?_,?_⟩ <;> split <;> omega
  obtain⟨i,i1,i2⟩:=hst
  rw [i1,i2]
  by_cases hi:i≤l.Rows.length
  · rcases key (l.Rows.length - i) i (by omega) with ⟨a,c⟩ | ⟨j,hj,a,c⟩
    · left;rw [a,c];exact⟨rfl,rfl⟩
    · right;rw [a,c];exact⟨j,hj,rfl,rfl⟩
  · left
    rw [bP (body:=cX l.Rows s.E) (r:=Out.brk ()) (by simp only [cX];rw [if_neg (by simp;omega)]),
      bP (body:=dK s b w) (r:=Out.brk ()) (by simp only [dK,hx,aH];rw [if_neg (by simp;omega)])]
    exact⟨rfl,rfl⟩
theorem del_eq{α:Type}{l:List α}{k:Nat}(h:k < l.length):((cT l k (l.drop (k+1))).take (k+(l.length - (k+1)))).drop 0=l.eraseIdx k:=by
  have h1:(l.take k).length=k:=by rw [List.length_take];omega
  have h2:(l.drop (k+1)).length=l.length - (k+1):=by simp
  unfold cT
  rw [List.drop_zero,List.eraseIdx_eq_take_drop_succ,List.take_of_length_le (l:=l.drop (k+1)) (by rw [h2];omega),←List.append_assoc]
  rw [show k+(l.length - (k+1))=(l.take k++l.drop (k+1)).length by rw [List.length_append,h1,h2]]
  exact List.take_left
theorem UM{α:Type}{l:List α}{k:Nat}(h:k < l.length):l.Perm (l[k] :: l.eraseIdx k):=by
  have e:l=l.take k++l[k] :: l.drop (k+1):=by rw [←List.drop_eq_getElem_cons h,List.take_append_drop]
  rw [List.eraseIdx_eq_take_drop_succ]
  refine(List.Perm.of_eq e).trans ?_
  exact List.perm_middle
theorem lK.drop{b:List aN}(hL:lK b){w:Nat}(hw:w < b.length):∀k (hk:k < b[w].Rows.length),lK (b.set w ⟨b[w].Rows.eraseIdx k⟩)∧∀r∈a9 (b.set w ⟨b[w].Rows.eraseIdx k⟩),r∈a9 b∧r.Handle % 32≠b[w].Rows[k].Handle % 32:=by
  intro k hk
  have hsub:(a9 (b.set w ⟨b[w].Rows.eraseIdx k⟩)).Sublist (a9 b):=by
    rw [uR hw,qH hw]
    exact(List.Sublist.refl _).append ((List.eraseIdx_sublist _ _).append (List.Sublist.refl _))
  have hnd:=hL.2.2.2
  refine⟨⟨by simpa using hL.1,Nat.le_trans hsub.length_le hL.2.1,fun r hr=>hL.2.2.1 r (hsub.subset hr),(hsub.map gL).nodup hnd⟩,fun r hr=>⟨hsub.subset hr,?_⟩⟩
  have hp:(a9 b).Perm (b[w].Rows[k] :: a9 (b.set w ⟨b[w].Rows.eraseIdx k⟩)):=by
    rw [uR hw,qH hw]
    refine List.Perm.trans (List.Perm.append_left _ (List.Perm.append_right _ (UM hk))) ?_
    exact List.perm_middle
  have:=(hp.map gL).nodup_iff.1 hnd
  rw [List.map_cons,List.nodup_cons] at this
  exact fun e=>this.1 (List.mem_map.2 ⟨r,hr,e⟩)
theorem aBW{b:aG}(hb:fL b){w:Int}(hw:0≤w∧w≤2)(s:Sub) :
    ∃x y,kK b w s=some (x,y)∧lA s b w=some (y,x)∧∃m' L,x=⟨m',b.aK,L,b.nZ⟩∧mQ m'∧j7 m'∧lK L∧∀r∈a9 L,jG m' r.Handle∧r.aI≤b.aK.aI:=by
  have hm:=hb.1.1
  have hL:=hb.1.2.2.1
  have hZ:=hb.1.2.2.2
  have hsm:=(j7.facts hm).2.2.2.2.2.1
  have hlen:w.toNat < b.aP.length:=by have:=hL.1;omega
  have hx:idx b.aP w=some b.aP[w.toNat]:=fB hw.1 (by omega)
  have hrow:=hL.small.2.2.2 _ (List.getElem_mem hlen)
  have hmemL:b.aP[w.toNat]∈b.aP:=List.getElem_mem hlen
  have hset:=lK.drop hL hlen
  generalize b.aP[w.toNat]=l at hx hrow hset hmemL
  have done:∀y:Sub,∃x z,(some (b,y):Option (aG×Sub))=some (x,z)∧(some (y,b):Option (Sub×aG))=some (z,x)∧∃m' L,x=⟨m',b.aK,L,b.nZ⟩∧mQ m'∧j7 m'∧lK L∧∀r∈a9 L,jG m' r.Handle∧r.aI≤b.aK.aI:=
    fun y=>⟨_,_,rfl,rfl,b.Mem,b.aP,rfl,hsm,hm,hL,hb.2⟩
  have hw1:aW ((l.Rows.length:Int) - 1)=(l.Rows.length:Int) - 1:=aO (by omega) (by omega)
  have hhas:zI b.aP w s.Row=some (decide (0≤s.Row∧s.Row≤(l.Rows.length:Int) - 1)):=by
    unfold zI v5
    rw [iC,bB hw,aH,if_pos rfl,hx,aH,d9,hw1];rfl
  unfold kK lA
  rw [hhas,hx]
  simp only [aH,bA,bL,hw1]
  have hat:∃a:Bool,(if decide (0≤s.Row∧s.Row≤(l.Rows.length:Int) - 1)=true then (idx l.Rows s.Row).bind fun x15=>dR s b w (x15.Handle == s.H) else dR s b w false)=dR s b w a ∧
      (if (!decide (0≤s.Row∧s.Row≤(l.Rows.length:Int) - 1))=true then c8 b s true else (idx l.Rows s.Row).bind fun x11=>c8 b s (x11.Handle != s.H))=c8 b s (!a) ∧
      (a=true→∃r,r∈l.Rows∧idx l.Rows s.Row=some r∧r.Handle=s.H∧0≤s.Row∧s.Row < l.Rows.length) ∧
      (a=false→∀f:bJ→Option (aG×Sub),(if (!decide (0≤s.Row∧s.Row≤(l.Rows.length:Int) - 1))=true then c9 b w s l true else (idx l.Rows s.Row).bind fun x=>if (x.Handle != s.H)=true then c9 b w s l true else f x)=c9 b w s l true):=by
    by_cases q:0≤s.Row∧s.Row≤(l.Rows.length:Int) - 1
    · have hr:idx l.Rows s.Row=some (l.Rows[s.Row.toNat]'(by omega)):=fB q.1 (by omega)
      by_cases q2:(l.Rows[s.Row.toNat]'(by omega)).Handle=s.H
      · refine⟨true,?_,?_,fun _=>⟨_,List.getElem_mem _,hr,q2,q.1,by omega⟩,fun h=>by cases h⟩
        · rw [bB q,if_pos rfl,hr,aH,q2,beq_self_eq_true]
        · rw [bB q,if_neg (by simp),hr,aH,q2,bne_self_eq_false];rfl
      · have n1:((l.Rows[s.Row.toNat]'(by omega)).Handle == s.H)=false:=by simpa using q2
        have n2:((l.Rows[s.Row.toNat]'(by omega)).Handle != s.H)=true:=by simpa using q2
        refine⟨false,?_,?_,(fun h=>by cases h),fun _ f=>?_⟩
        · rw [bB q,if_pos rfl,hr,aH,n1]
        · rw [bB q,if_neg (by simp),hr,aH,n2];rfl
        · rw [bB q,if_neg (by simp),hr,aH,n2,if_pos rfl]
    · refine⟨false,?_,?_,(fun h=>by cases h),fun _ f=>?_⟩
      · rw [bK q,if_neg (by simp)]
      · rw [bK q,if_pos (by simp)];rfl
      · rw [bK q,if_pos (by simp)]
  obtain⟨a,ha1,ha2,ha3,ha4⟩:=hat
  rw [ha1,ha2]
  unfold dR
  by_cases p0:s.Pc=0
  · simp only [p0,beq_self_eq_true,if_true];exact done _
  have p0':(s.Pc == 0)=false:=by simpa using p0
  simp only [p0',bE,if_false]
  by_cases p1:s.Pc=1
  · simp only [p1,beq_self_eq_true,if_true]
    rcases aKM hx (by omega) s with ⟨e1,e2⟩ | ⟨k,hk,e1,e2⟩
    · rw [e1,e2,aH,if_pos (by simp)];simp only [aZ,p1,aH];exact done _
    · rw [e1,e2,aH,if_neg (by simp),aV hk];simp only [aH];exact done _
  have p1':(s.Pc == 1)=false:=by simpa using p1
  simp only [p1',bE,if_false]
  by_cases p2:s.Pc=2
  · simp only [p2,beq_self_eq_true,if_true,iC,aH]
    by_cases hB:0≤s.B∧s.B≤2
    · rw [bB hB]
      simp only [eU,bE,if_false,if_true]
      cases a with
      | true =>
        have hz:idx b.nZ s.B=some (b.nZ[s.B.toNat]'(by have:=hZ.1;omega)):=fB hB.1 (by have:=hZ.1;omega)
        simp only [c8,dB,eU,bE,if_false,if_true,hz,aH,jS]
        by_cases q:(b.nZ[s.B.toNat]'(by have:=hZ.1;omega))=s.H
        · simp only [q,beq_self_eq_true,if_true];exact done _
        · have q':((b.nZ[s.B.toNat]'(by have:=hZ.1;omega)) == s.H)=false:=by simpa using q
          simp only [q',bE,if_false]
          by_cases q3:aW (s.B+1)=3
          · simp only [q3,beq_self_eq_true,if_true];exact done _
          · have q3':(aW (s.B+1) == 3)=false:=by simpa using q3
            simp only [q3',bE,if_false];exact done _
      | false =>
        simp only [c8,dB,cG,bA,aZ,wX,if_true,bE,if_false,p2,show((2:Int) == 3)=false from rfl,aH]
        exact done _
    · rw [bK hB]
      simp only [c8,dB,cG,bA,aZ,wX,if_true,bE,if_false,p2,show((2:Int) == 3)=false from rfl,aH]
      exact done _
  have p2':(s.Pc == 2)=false:=by simpa using p2
  simp only [p2',bE,if_false,dB]
  by_cases p3:s.Pc=3
  · simp only [p3,beq_self_eq_true,if_true]
    cases a with
    | false =>
      rw [ha4 rfl]
      simp only [c9,cG,bA,aZ,if_true,bE,if_false,aH]
      exact done _
    | true =>
      obtain⟨r,hrm,hr,hrH,r0,r1⟩:=ha3 rfl
      obtain⟨v,e1,e2⟩:=aDN r s.E
      rw [bB (show 0≤s.Row∧s.Row≤(l.Rows.length:Int) - 1 by omega)]
      simp only [eU,bE,if_false,if_true,hr,aH,hrH,bne_self_eq_false,hx,e1,e2]
      cases v with
      | false =>
        simp only [c9,cG,bA,aZ,wX,if_true,bE,if_false,aH]
        exact done _
      | true =>
        have hlive:jG b.Mem s.H:=by
          have:r∈a9 b.aP:=List.mem_flatMap.2 ⟨l,hmemL,hrm⟩
          have:=(hb.2 r this).1
          rwa [hrH] at this
        obtain⟨m',f1,f2,f3,f4⟩:=aDM hm hw hlive
        have ew:aW (s.Row+1)=s.Row+1:=aO (by omega) (by omega)
        have hdrop:BD b.aP w s.Row=some (b.aP.set w.toNat ⟨((cT l.Rows s.Row.toNat (l.Rows.drop (s.Row+1).toNat)).take (s.Row.toNat+(l.Rows.length - (s.Row+1).toNat))).drop 0⟩,true):=by
          unfold BD tG
          rw [ER hL.small.2.2.1 (fun s h=>by have:=hL.small.2.2.2 s h;omega),tQ hL.small.1,bB hL,hhas,bB (show 0≤s.Row∧s.Row≤(l.Rows.length:Int) - 1 by omega)]
          simp only [aH,eU,bE,if_false,hx,ew]
          unfold t7
          rw [aS (by omega),if_neg (by simp;omega),aS (by omega),aS (by omega),aS (by omega),aS]
          · rfl
          · rw [eW (by omega)]
            simp only [List.drop_zero,List.length_take,eW (show s.Row.toNat≤l.Rows.length by omega)]
            omega
        simp only [c9,cG,m7,ew,eU,bE,if_false,if_true]
        rw [aS (by omega),aS (by omega),aS (by omega),dA,if_pos hlive.1,aH,f1,f2,hdrop]
        have hk:s.Row.toNat < l.Rows.length:=by omega
        have eL:((cT l.Rows s.Row.toNat (l.Rows.drop (s.Row+1).toNat)).take (s.Row.toNat+(l.Rows.length - (s.Row+1).toNat))).drop 0=l.Rows.eraseIdx s.Row.toNat:=by
          rw [show(s.Row+1).toNat=s.Row.toNat+1 by omega];exact del_eq hk
        have er:l.Rows[s.Row.toNat]=r:=by
          have:=aV hk
          rw [show((s.Row.toNat:Nat):Int)=s.Row by omega,hr] at this
          exact(Option.some.inj this).symm
        rw [eL] at hdrop ⊢
        obtain⟨g1,g2⟩:=hset s.Row.toNat hk
        refine⟨_,_,rfl,rfl,m',_,rfl,f3,f4.1,g1,fun q hq=>?_⟩
        obtain⟨g3,g4⟩:=g2 q hq
        obtain⟨g5,g6⟩:=hb.2 q g3
        refine⟨f4.live g5 fun e=>?_,g6⟩
        rw [er,hrH] at g4
        exact g4 e
  · have p3':(s.Pc == 3)=false:=by simpa using p3
    simp only [p3',bE,if_false,cG,aZ,aH]
    exact done _
end Go.Gv
end
noncomputable section
namespace Go.Gv
theorem xO.fits{b:aG}(h:xO b):b.Mem.aB.Bytes.length≤maxLen∧(cS b.Mem.aA).length≤1073741824∧b.aK.bM.length≤maxLen∧b.aP.length≤maxLen∧(a9 b.aP).length≤1073741824∧b.nZ.length≤maxLen:=by
  have hb:(1048576:Nat)≤maxLen:=by simp [maxLen]
  have g1:=h.1.1;have g2:=h.1.2.2.2.2;have g3:=h.2.1;have g4:=h.2.2.1;have g5:=h.2.2.2.1;have g6:=h.2.2.2.2
  exact⟨by omega,by omega,by omega,by omega,by omega,by omega⟩
theorem step_eq{b:aG}(hb:fL b)(hs:xO b){w:Int}(hw:0≤w∧w≤2)(s:Sub) :
    ∃x y,xI b w s=some (x,y)∧lG s b w=some (y,x)∧fL x:=by
  have hz:=hb.1.2.2.2.1
  have hl:=hb.1.2.2.1
  unfold xI lG
  cases hd:s.dV with
  | true=>exact⟨_,_,rfl,rfl,hb⟩
  | false =>
    simp only [bE,if_false]
    by_cases k1:s.Kind=1
    · obtain⟨x,y,e1,e2,m,rfl,h1,h2⟩:=alloc_eq hb.1.1 hw s
      simp only [k1,beq_self_eq_true,if_true,e1,e2,aH]
      exact⟨_,_,rfl,rfl,⟨h2.1,hb.1.2⟩,fun r hr=>⟨h2.live (hb.2 r hr).1 (by have:=(hb.2 r hr).1.1;unfold mU at this;omega),(hb.2 r hr).2⟩⟩
    have k1':(s.Kind == 1)=false:=by simpa using k1
    simp only [k1',bE,if_false]
    by_cases k2:s.Kind=2
    · obtain⟨x,y,e1,e2,L,rfl,h1,h2⟩:=aEG hb hs hw s
      simp only [k2,beq_self_eq_true,if_true,e1,e2,aH]
      exact⟨_,_,rfl,rfl,⟨hb.1.1,hb.1.2.1,h1,hb.1.2.2.2⟩,h2⟩
    have k2':(s.Kind == 2)=false:=by simpa using k2
    simp only [k2',bE,if_false]
    by_cases k3:s.Kind=3
    · obtain⟨x,y,e1,e2,c,rfl,h1,h2⟩:=aBS hb.1.2.1 s
      simp only [k3,beq_self_eq_true,if_true,e1,e2,aH]
      exact⟨_,_,rfl,rfl,⟨hb.1.1,h1,hb.1.2.2⟩,fun r hr=>⟨(hb.2 r hr).1,Int.le_trans (hb.2 r hr).2 h2⟩⟩
    have k3':(s.Kind == 3)=false:=by simpa using k3
    simp only [k3',bE,if_false]
    by_cases k4:s.Kind=4
    · obtain⟨x,y,e1,e2,m,L,rfl,h1,h2,h3,h4⟩:=aBW hb hw s
      simp only [k4,beq_self_eq_true,if_true,e1,e2,aH]
      exact⟨_,_,rfl,rfl,⟨h2,hb.1.2.1,h3,hb.1.2.2.2⟩,h4⟩
    have k4':(s.Kind == 4)=false:=by simpa using k4
    simp only [k4',bE,if_false]
    by_cases k5:s.Kind=5
    · obtain⟨x,y,e1,e2,c,rfl,h1,h2⟩:=aM0 hb.1.2.1 hw s
      simp only [k5,beq_self_eq_true,if_true,e1,e2,aH]
      exact⟨_,_,rfl,rfl,⟨hb.1.1,h1,hb.1.2.2⟩,fun r hr=>⟨(hb.2 r hr).1,Int.le_trans (hb.2 r hr).2 h2⟩⟩
    have k5':(s.Kind == 5)=false:=by simpa using k5
    simp only [k5',bE,if_false,bA,aZ,aH]
    exact⟨_,_,rfl,rfl,hb⟩
theorem fL.small{b:aG}(hb:fL b):xO b:=by
  have h1:=hb.1.2.1.2.1;have h2:=hb.1.2.2.1.1;have h3:=hb.1.2.2.1.2.1;have h4:=hb.1.2.2.2.1
  exact⟨(j7.facts hb.1.1).2.2.2.2.2.1,by omega,by omega,by omega,by omega⟩
end Go.Gv
end
noncomputable section
namespace Go.Gv
theorem RG{b:List Int}{a:Nat}{n:Int}(h:a+4≤b.length){j:Nat}(hj:j < a∨a+4≤j):bt (ES b a n) j=bt b j:=by
  unfold ES
  rw [CY (by simp;omega),CY (by simp;omega),CY (by simp;omega),CY (by omega),if_neg (by omega),if_neg (by omega),if_neg (by omega),if_neg (by omega)]
theorem LV.put{h:aB}(hh:LV h){s:Int}(hc:0≤aX h s){n:Int}(hn:0≤n∧n≤4294967295) :
    LV ⟨ES h.Bytes ((eI s (aX h s)).toNat+4) n,h.Class⟩∧∀t,0≤aX h t→g7 ⟨ES h.Bytes ((eI s (aX h s)).toNat+4) n,h.Class⟩ t=g7 h t:=by
  obtain⟨hs,hp⟩:=hh
  have h384:=hs.1
  have hs':dM ⟨ES h.Bytes ((eI s (aX h s)).toNat+4) n,h.Class⟩:=⟨by rw [NL];exact hs.1,hs.2.1,aEH hs.2.2.1 _ hn,hs.2.2.2⟩
  obtain⟨p,i,p6,hi,es,ec,eo,ep⟩:=zS hc
  have hcl:0≤bQ h p∧bQ h p≤2:=gK.1 (by omega)
  have hroom:8+i * (aR (bQ h p)).toNat+8≤64∧∀j,j < (bW (bQ h p)).toNat→j * (aR (bQ h p)).toNat+4≤i * (aR (bQ h p)).toNat+4∨i * (aR (bQ h p)).toNat+12≤j * (aR (bQ h p)).toNat:=by
    generalize bQ h p=c at hi hcl
    rcases eO hcl with rfl | rfl | rfl
    · rw [show(bW 0).toNat=4 from rfl] at *;rw [show(aR 0).toNat=12 from rfl]
      exact⟨by omega,fun j hj=>by omega⟩
    · rw [show(bW 1).toNat=2 from rfl] at *;rw [show(aR 1).toNat=20 from rfl]
      exact⟨by omega,fun j hj=>by omega⟩
    · rw [show(bW 2).toNat=1 from rfl] at *;rw [show(aR 2).toNat=44 from rfl]
      exact⟨by omega,fun j hj=>by omega⟩
  have hgen:∀q j,q < 6→j < (bW (bQ h q)).toNat→ld (ES h.Bytes ((eI s (aX h s)).toNat+4) n) (q * 64+8+j * (aR (bQ h q)).toNat) 4=ld h.Bytes (q * 64+8+j * (aR (bQ h q)).toNat) 4:=fun q j hq hj=>by
    have hz:=rD hs hq rfl hj
    refine J8 (by omega) (by simp only [NL]) fun k k1 k2=>?_
    by_cases e:q=p
    · subst e
      have:=hroom.2 j hj
      exact RG (by omega) (by omega)
    · exact RG (by omega) (by omega)
  refine⟨⟨hs',fun q hq=>?_⟩,fun t ht=>?_⟩
  · rw [FL hs' hq]
    have hold:=(FL hs hq).1 (hp q hq)
    by_cases e:q=p
    · subst e
      have hcl':¬bQ h q < 0:=by omega
      unfold QQ at hold ⊢
      have hcc:bQ ⟨ES h.Bytes ((eI s (aX h s)).toNat+4) n,h.Class⟩ q=bQ h q:=rfl
      rw [hcc]
      rw [if_neg hcl'] at hold ⊢
      obtain⟨⟨a1,a2,a3⟩,a4,a5⟩:=hold
      have bs:∀k,k < 8→bt (ES h.Bytes ((eI s (aX h s)).toNat+4) n) (q * 64+k)=bt h.Bytes (q * 64+k):=fun k hk=>RG (by omega) (by omega)
      have b0:=bs 0 (by omega);have b1:=bs 1 (by omega);have b2:=bs 2 (by omega)
      simp only [Nat.add_zero] at b0
      refine⟨⟨by rw [b0];exact a1,by rw [b1];exact a2,by rw [b2];exact a3⟩,fun k k3 k8=>by rw [bs k k8];exact a4 k k3 k8,fun j hj=>?_⟩
      rw [hgen q j hq hj];exact a5 j hj
    · refine QQ.same hq hs (by simp only [NL]) rfl (fun k hk=>RG (by omega) (by omega)) hold
  · obtain⟨p',i',p6',hi',es',ec',eo',ep'⟩:=zS ht
    have e2:aX ⟨ES h.Bytes ((eI s (aX h s)).toNat+4) n,h.Class⟩ t=aX h t:=rfl
    unfold g7
    rw [e2,eo']
    exact hgen p' i' p6' hi'
theorem j7.put{m:Mem}(hm:j7 m){s:Int}(hc:0≤aX m.aB s){n:Int}(hn:0≤n∧n≤4294967295):rI m ⟨⟨ES m.aB.Bytes ((eI s (aX m.aB s)).toNat+4) n,m.aB.Class⟩,m.aA⟩ (-1):=by
  obtain⟨a,b⟩:=LV.put hm.1.1 hc hn
  refine⟨j7.heap hm a fun x hx=>⟨rfl,b x (j7.JL hm hx).1⟩,fun t ht _=>?_⟩
  have ht':=mS.1 ht
  have e:=b t ht'.1
  exact⟨mS.2 ⟨ht'.1,ht'.2.1,by simp only [e];exact ht'.2.2⟩,e,rfl⟩
theorem start_eq{h:aB}(hs:dM h){s:Int}(hc:0≤aX h s):A3 s (aX h s)=some (eI s (aX h s)+4)∧F7 s (aX h s)=some (eI s (aX h s)+4):=by
  have hg:=y4 hc
  unfold A3 F7
  rw [lI,sK,aH,if_neg (by simp;omega),aO (by omega) (by omega)]
  exact⟨rfl,rfl⟩
theorem aBX{h:aB}(hs:dM h){s:Int}(hc:0≤aX h s):BE h s 0 4=some (eI s (aX h s)+4):=by
  have hg:=y4 hc
  have hc2:0≤aX h s∧aX h s≤2:=by
    obtain⟨_,q,e⟩:=rE hc
    rw [e];exact gK.1 (by omega)
  have hz:8≤fC (aX h s)∧fC (aX h s)≤40:=by rcases eO hc2 with e | e | e <;> rw [e] <;> decide
  unfold BE MX
  rw [kN hs,aH,(start_eq hs hc).2,aH,if_neg (by simp;omega),I6]
  simp only [aH,d9]
  rw [aO (x:=eI s (aX h s)+4+fC (aX h s)) (by omega) (by omega),aO (x:=eI s (aX h s)+4+fC (aX h s) - (eI s (aX h s)+4)) (by omega) (by omega),aO (x:=eI s (aX h s)+4+fC (aX h s) - (eI s (aX h s)+4) - 4) (by omega) (by omega),bB (by omega),aO (by omega) (by omega)]
  simp
theorem aAG{n:Int}(hn:0≤n∧n≤65535):∃t:List UInt8,tX n 4=some t∧(t == [])=false:=by
  have st:∀(m:Int) (c:List UInt8) (i:Nat),c.length≤4→i < 4→0≤m→m≤4294967295→rW 4 (m,c,(i:Int))=some (.next (m / 256,[u8 (m % 256)]++c,((i+1:Nat):Int))):=fun m c i hc hi h0 h1=>by
    simp only [rW]
    rw [if_pos (by simp;omega),aS (by simp;omega),n7 h0,zQ h0,aO (x:=m / 256) (by omega) (by omega),aO (by omega) (by omega)];rfl
  unfold tX
  rw [bL]
  simp only [aH,show(decide ((1:Int)≤4∧(4:Int)≤7))=true from rfl,eU,bE,if_false,rX,bK (show ¬n < 0 by omega)]
  rw [show(0:Int)=((0:Nat):Int) from rfl,bT (st n [] 0 (by simp) (by omega) hn.1 (by omega)),bT (st _ _ 1 (by simp) (by omega) (by omega) (by omega)),bT (st _ _ 2 (by simp) (by omega) (by omega) (by omega)),bT (st _ _ 3 (by simp) (by omega) (by omega) (by omega)),bP (by simp only [rW];rw [if_neg (by simp)])]
  simp only [aH,D3,D2]
  rw [if_neg (by simp;omega)]
  exact⟨_,rfl,rfl⟩
theorem aBY{m:Mem}(hm:j7 m){h n:Int}(hn:0≤n∧n≤65535):∃x c,m8 m h 0 4 n=some (x,c)∧MY m h 0 4 n=some (x,c)∧rI m x (-1)∧(c≠0→x=m):=by
  obtain⟨hcnt,h3,h9,h1,h2,hsm,hcp,hlo,hsG,hsO⟩:=j7.facts hm
  have hs:=hm.1.1.1
  have hbl:m.aB.Bytes.length≤maxLen:=by rw [h1];simp [maxLen]
  have hall:(cS m.aA).length≤1073741824:=by omega
  have hg:m.aA.Global.length≤maxLen:=by rw [h3];simp [maxLen]
  have ho:m.aA.bD.length≤maxLen:=by rw [h9];simp [maxLen]
  have hw4:nF 4=some true:=by unfold nF;rw [d9];rfl
  unfold m8 MY DG OX
  rw [zR hsm,O5 hsm,EM hbl hall,K8 hbl hall,bB hm,bL,hw4,UD ⟨hn.1,by omega⟩]
  simp only [aH,eU,bE,if_false,pL,B5,show(decide ((1:Int)≤4∧(4:Int)≤7))=true from rfl,iU hs hall hg ho,CU hs hall hg ho]
  by_cases hv:jG m h
  · have hh:=hv.1
    have hcl:=mX hv.2.1
    have hgo:=y4 hcl
    have hc2:0≤aX m.aB (h % 32)∧aX m.aB (h % 32)≤2:=by
      obtain⟨_,q,e⟩:=rE hcl
      rw [e];exact gK.1 (by omega)
    have hz:8≤fC (aX m.aB (h % 32))∧fC (aX m.aB (h % 32))≤40:=by rcases eO hc2 with e | e | e <;> rw [e] <;> decide
    obtain⟨p,i,p6,hi,es,ec,eo,ep⟩:=zS hcl
    have hroom:(eI (h % 32) (aX m.aB (h % 32))).toNat+8≤384:=by
      rw [eo]
      have hcl':0≤bQ m.aB p∧bQ m.aB p≤2:=by rw [←ec];exact hc2
      generalize bQ m.aB p=c at hi hcl'
      rcases eO hcl' with rfl | rfl | rfl
      · rw [show(bW 0).toNat=4 from rfl] at hi;rw [show(aR 0).toNat=12 from rfl];omega
      · rw [show(bW 1).toNat=2 from rfl] at hi;rw [show(aR 1).toNat=20 from rfl];omega
      · rw [show(bW 2).toNat=1 from rfl] at hi;rw [show(aR 2).toNat=44 from rfl];omega
    simp only [bB hv,eU,bE,if_false,dA,if_pos hh,aH,gE hs,wS,bL,hh.mod.1,aBX hs hcl]
    rw [aO (x:=fC (aX m.aB (h % 32)) - 1) (by omega) (by omega),bB (show(0:Int)≤0∧(0:Int)≤fC (aX m.aB (h % 32)) - 1 by omega),aO (x:=fC (aX m.aB (h % 32)) - 0) (by omega) (by omega),bK (show ¬fC (aX m.aB (h % 32)) - 0 < 4 by omega)]
    simp only [eU,bE,if_false,pK,(start_eq hs hcl).1,aH]
    rw [aO (x:=eI (h % 32) (aX m.aB (h % 32))+4+0) (by omega) (by omega),Int.add_zero,bK (show ¬eI (h % 32) (aX m.aB (h % 32))+4 < 0 by omega)]
    have eo':eI (h % 32) (aX m.aB (h % 32))+4=(((eI (h % 32) (aX m.aB (h % 32))).toNat+4:Nat):Int):=by omega
    have hput:=j7.put hm hcl (n:=n) ⟨hn.1,by omega⟩
    have hspf:∃t:List UInt8,tX n 4=some t∧(t == [])=false:=aAG hn
    obtain⟨t,ht1,ht2⟩:=hspf
    have hld:nA m.aB.Bytes (((eI (h % 32) (aX m.aB (h % 32))).toNat+4:Nat):Int) 4=some (ld m.aB.Bytes ((eI (h % 32) (aX m.aB (h % 32))).toNat+4) 4):=AI hs.2.2.1 (w:=4) (by omega) (by omega) (by omega)
    rw [eo',hld]
    simp only [aH,bE,if_false,bne_self_eq_false,ht1,ht2,show(LB n == [])=false from rfl]
    rw [W3 (by omega) (by omega) ⟨hn.1,by omega⟩,UE (by omega) (by omega) ⟨hn.1,by omega⟩]
    exact⟨_,_,rfl,rfl,hput,fun q=>absurd rfl q⟩
  · simp only [bK hv,wX,if_true,aH,show((4:Int) != 0)=true from rfl]
    exact⟨_,_,rfl,rfl,rI.refl hm _,fun _=>rfl⟩
end Go.Gv
end
noncomputable section
namespace Go.Gv
def Y2(k:Int):Prop:=k=1∨k=2∨k=3∨k=7
instance (k:Int):Decidable (Y2 k):=by unfold Y2;infer_instance
def W8(o:GOp):Prop:=(1≤o.Kind∧o.Kind≤7)∧(Y2 o.Kind∨o.Cell=0)∧(0≤o.Cell∧o.Cell≤1)∧if o.Kind=1 then (0≤o.aH1∧o.aH1≤100)∧0≤o.Val∧o.Val≤65535 else o.aH1=0∧o.Val=0
instance (o:GOp):Decidable (W8 o):=by unfold W8;infer_instance
theorem hb0(x:Int):(x == 0)=decide (x=0):=by rw [Bool.eq_iff_iff];simp
def aIC(l:List GOp):Prop:=∀o∈l,W8 o
instance (l:List GOp):Decidable (aIC l):=by unfold aIC;infer_instance
def QOk(q:Queue):Prop:=q.MA.length≤12∧aIC q.MA
instance (q:Queue):Decidable (QOk q):=by unfold QOk;infer_instance
def aM3(l:List Queue):Prop:=l.length=3∧∀q∈l,QOk q
instance (l:List Queue):Decidable (aM3 l):=by unfold aM3;infer_instance
def aLG:MR:=⟨false,⟨0,0,0,0⟩,0,0,⟨0,0,0,0,0,0,0,0,0,false⟩,0,0,0,0⟩
def JOk(j:MR):Prop:=if j.YB then W8 j.Op∧j5 j.H∧j5 j.Old else j=aLG
instance (j:MR):Decidable (JOk j):=by unfold JOk;infer_instance
def SOk(s:uG):Prop:=fL s.aG∧s.Cells.length=2∧s.TH.length=3∧aM3 s.OB∧(0≤s.AD∧s.AD≤1000000)∧(∀h∈s.Cells,j5 h)∧∀j∈s.TH,JOk j
instance (s:uG):Decidable (SOk s):=by unfold SOk;infer_instance
noncomputable section
variable {s:uG} (hf:s.aG.Mem.aB.Bytes.length≤maxLen∧(cS s.aG.Mem.aA).length≤1073741824∧s.aG.aK.bM.length≤maxLen∧s.aG.aP.length≤maxLen∧(a9 s.aG.aP).length≤1073741824∧s.aG.nZ.length≤maxLen) (ht:s.OB.length≤maxLen) (hq:∀q∈s.OB,q.MA.length≤maxLen) (hcl:s.Cells.length≤maxLen) (hjl:s.TH.length≤maxLen)
include hf ht
include hq hcl hjl
end
end Go.Gv
end
noncomputable section
namespace Go.Gv
theorem aM4{a b:Int}(h:¬a=b):(a == b)=false:=by simpa using h
theorem aAH{c:aK}(hc:EN c){w:Int}(hw:0≤w∧w≤2):∃r,BX c w=some r∧S4 c w=some r∧EN r.1∧r.1.aI=c.aI:=by
  obtain⟨p,hp,hpk⟩:=aBR hc hw
  unfold BX S4
  rw [jH hc.small.1,sN hc.small.1,gG,n8 hc.small.2,iC,bL,bB hc,bB hw]
  simp only [aH,eU,bE,if_false,hp,rY,yJ]
  cases p.On with
  | true =>
    simp only [eU,bE,if_false]
    have h0:=hc.1
    exact⟨_,rfl,rfl,hc.YW ⟨by simp only;omega,by simp,fun _=>rfl⟩,rfl⟩
  | false=>simp only [wX,if_true];exact⟨_,rfl,rfl,hc,rfl⟩
theorem CT.set{z:List Int}(hz:CT z)(k:Nat){h:Int}(hh:j5 h):CT (z.set k h):=⟨by simpa using hz.1,fun q hq=>(List.mem_or_eq_of_mem_set hq).elim (hz.2 q) (fun e=>e ▸ hh)⟩
theorem UN{z:List Int}(hz:CT z){w:Int}(hw:0≤w∧w≤2)(h:Int):∃r,vI z w h=some r∧MZ z w h=some r∧CT r.1:=by
  have h3:=hz.1
  have hx:idx z w=some (z[w.toNat]'(by omega)):=fB hw.1 (by omega)
  unfold vI MZ
  rw [BR (by omega),nJ (by omega),y7 (by simp only [maxLen];omega),EO (by simp only [maxLen];omega),bB hz,bL,iC,bB hw,gP,mR]
  simp only [aH,eU,bE,if_false,nS,tH,hx]
  by_cases q:mU h
  · simp only [bB q,eU,bE,if_false];exact⟨_,rfl,rfl,hz.set _ (.inr q)⟩
  · simp only [bK q,wX,if_true];exact⟨_,rfl,rfl,hz⟩
theorem aID{z:List Int}(hz:CT z){w:Int}(hw:0≤w∧w≤2):∃r,FY z w=some r∧S5 z w=some r∧CT r.1:=by
  have h3:=hz.1
  have hx:idx z w=some (z[w.toNat]'(by omega)):=fB hw.1 (by omega)
  unfold FY S5
  rw [BR (by omega),nJ (by omega),y7 (by simp only [maxLen];omega),EO (by simp only [maxLen];omega),bB hz,bL,iC,bB hw]
  simp only [aH,eU,bE,if_false,rZ,yK,hx]
  by_cases q:(z[w.toNat]'(by omega))=0
  · simp only [q,beq_self_eq_true,if_true];exact⟨_,rfl,rfl,hz⟩
  · simp only [aM4 q,bE,if_false];exact⟨_,rfl,rfl,hz.set _ (.inl rfl)⟩
theorem fL.clock{b:aG}(hb:fL b){cl:aK}(h:EN cl)(e:b.aK.aI≤cl.aI):fL ⟨b.Mem,cl,b.aP,b.nZ⟩:=⟨⟨hb.1.1,h,hb.1.2.2⟩,fun r hr=>⟨(hb.2 r hr).1,Int.le_trans (hb.2 r hr).2 e⟩⟩
theorem fL.haz{b:aG}(hb:fL b){z:List Int}(h:CT z):fL ⟨b.Mem,b.aK,b.aP,z⟩:=⟨⟨hb.1.1,hb.1.2.1,hb.1.2.2.1,h⟩,hb.2⟩
theorem fL.mem{b:aG}(hb:fL b){m:Mem}(h:rI b.Mem m (-1)):fL ⟨m,b.aK,b.aP,b.nZ⟩:=⟨⟨h.1,hb.1.2⟩,fun r hr=>⟨h.live (hb.2 r hr).1 (by have:=(hb.2 r hr).1.1;unfold mU at this;omega),(hb.2 r hr).2⟩⟩
theorem SOk.put{s:uG}(hs:SOk s){w:Int}{b:aG}(hb:fL b){c:List Int}(hc:c.length=2∧∀h∈c,j5 h){j:MR}(hj:JOk j)(l:List Ev):SOk ⟨b,c,s.TH.set w.toNat j,s.OB,l,s.AD⟩:=
  ⟨hb,hc.1,by simpa using hs.2.2.1,hs.2.2.2.1,hs.2.2.2.2.1,hc.2,fun q hq=>(List.mem_or_eq_of_mem_set hq).elim (hs.2.2.2.2.2.2 q) (fun e=>e ▸ hj)⟩
noncomputable section
variable {s:uG} (hs:SOk s) (hl:s.Log.length≤1000000000) {w:Int} (hw:0≤w∧w≤2) {j:MR} (hj:idx s.TH w=some j) (hb:j.YB=true) (hjo:W8 j.Op∧j5 j.H∧j5 j.Old)
include hs hl hw hj hb hjo
end
end Go.Gv
end
noncomputable section
namespace Go.Gv
def EU(s:Sub)(code:Int):Sub:={s with Code:=code,dV:=true}
def CZ(n:Int):Int:=if 1≤n∧n≤8 then 0 else if 1≤n∧n≤16 then 1 else if 1≤n∧n≤40 then 2 else -1
theorem aBZ(n:Int):-1≤CZ n∧CZ n≤2:=by unfold CZ;split <;> (try split) <;> (try split) <;> omega
theorem aEK(n:Int):m4 n=some (CZ n):=by
  have s1:∀k,0≤k∧k≤2→dN n k=some (if 1≤n∧n≤fC k then .stop (Out.ret k) else .next (k+1)):=fun k hk=>by
    simp only [dN]
    rw [if_pos (by simp;omega),wS,aH,bL,aH,aO (by omega) (by omega)]
    by_cases q:1≤n∧n≤fC k
    · rw [bB q,if_pos rfl,if_pos q]
    · rw [bK q,if_neg (by simp),if_neg q]
  have z0:fC 0=8:=rfl
  have z1:fC 1=16:=rfl
  have z2:fC 2=40:=rfl
  unfold m4 CZ
  by_cases q0:1≤n∧n≤8
  · rw [bP (by rw [s1 0 (by omega),if_pos (by omega)]),if_pos q0];rfl
  · rw [bT (by rw [s1 0 (by omega),if_neg (by omega)]),if_neg q0,show(0:Int)+1=1 from rfl]
    by_cases q1:1≤n∧n≤16
    · rw [bP (by rw [s1 1 (by omega),if_pos (by omega)]),if_pos q1];rfl
    · rw [bT (by rw [s1 1 (by omega),if_neg (by omega)]),if_neg q1,show(1:Int)+1=2 from rfl]
      by_cases q2:1≤n∧n≤40
      · rw [bP (by rw [s1 2 (by omega),if_pos (by omega)]),if_pos q2];rfl
      · rw [bT (by rw [s1 2 (by omega),if_neg (by omega)]),if_neg q2,show(2:Int)+1=3 from rfl,bP (body:=dN n) (r:=Out.brk ()) (by simp [dN])];rfl
def WC(l:List Int):List Int×Int:=(l.dropLast,l.getLastD (-1))
theorem RH{s:aE}(h:s.aL.length≤1048576):iM s=some (⟨(WC s.aL).1⟩,(WC s.aL).2):=by
  unfold iM xW WC
  obtain⟨l⟩:=s
  rcases List.eq_nil_or_concat l with rfl | ⟨L,b,rfl⟩
  · rfl
  · simp only [List.concat_eq_append] at h ⊢
    have hl:(L ++ [b]).length=L.length+1:=by simp
    rw [hl,aO (by omega) (by omega),show((L.length+1:Nat):Int) - 1=(L.length:Int) by omega,if_neg (by simp;omega),aS (by omega),aV (by rw [hl];omega)]
    simp
def NO(m:Mem)(w c:Int):Mem×Int:=(⟨m.aB,⟨m.aA.Global,m.aA.bD.set (w * 3+c).toNat ⟨(WC (eF m.aA.bD (w * 3+c).toNat)).1⟩⟩⟩,(WC (eF m.aA.bD (w * 3+c).toNat)).2)
def FM(m:Mem)(c:Int):Mem×Int:=(⟨m.aB,⟨m.aA.Global.set c.toNat ⟨(WC (eF m.aA.Global c.toNat)).1⟩,m.aA.bD⟩⟩,(WC (eF m.aA.Global c.toNat)).2)
def OJ(h:aB):Nat:=h.Class.findIdx (fun x=>decide (x = -1))
def LY(m:Mem)(c:Int):Mem×Int:=if OJ m.aB=6 then (m,-1) else
  (⟨⟨gB m.aB.Bytes (OJ m.aB) c (bW c).toNat,m.aB.Class.set (OJ m.aB) c⟩,⟨m.aA.Global.set c.toNat ⟨eF m.aA.Global c.toNat++(gS (OJ m.aB) (bW c).toNat).drop 1⟩,m.aA.bD⟩⟩,(OJ m.aB:Int) * 4)
theorem aIE{h:aB}(hs:dM h):OJ h≤6:=by rw [←hs.2.1];exact List.findIdx_le_length
theorem aM5{h:aB}(hs:dM h)(hq:OJ h≠6):OJ h < 6∧bQ h (OJ h) = -1:=by
  have h6:=hs.2.1
  have hlt:OJ h < 6:=by have:=aIE hs;omega
  refine⟨hlt,?_⟩
  rw [←J5 hs hlt]
  have:=List.findIdx_getElem (xs:=h.Class) (p:=fun x=>decide (x = -1)) (w:=by show OJ h < _;omega)
  exact of_decide_eq_true this
theorem aKN{h:aB}(hs:dM h):∀j (hj:j < 6),j < OJ h→bQ h j≠-1:=fun j hj hlt=>by
  have:=List.not_of_lt_findIdx hlt
  rw [←J5 hs hj]
  simpa using this
theorem aM6{h:aB}(hh:LV h){c:Int}(hc:0≤c∧c≤2):i5 h c=some (if OJ h=6 then (h,[]) else (⟨gB h.Bytes (OJ h) c (bW c).toNat,h.Class.set (OJ h) c⟩,gS (OJ h) (bW c).toNat)):=by
  have hs:=hh.1
  have h6:=hs.2.1
  have h384:=hs.1
  have hle:=aIE hs
  have s1:∀k (hk:k < OJ h),dI h c (k:Int)=some (.next ((k+1:Nat):Int)):=fun k hk=>by
    have n:(h.Class[k] != -1)=true:=by
      have:=aKN hs k (by omega) hk
      rw [←J5 hs (by omega)] at this
      simpa using this
    simp only [dI,sT]
    rw [if_pos (by simp;omega),aV (by omega),aH,n,if_pos rfl,aO (by omega) (by omega)];rfl
  unfold i5
  by_cases hq:OJ h=6
  · have a1:loop (dI h c) 0=some (Out.brk ()):=gZ (OJ h) (fun k=>(k:Int)) _ s1 (by simp only [dI];rw [if_neg (by simp;omega)])
    rw [a1,if_pos hq];rfl
  · obtain⟨hlt,he⟩:=aM5 hs hq
    rw [←J5 hs hlt] at he
    generalize hqq:OJ h=q at *
    have a1:loop (dI h c) 0=some (Out.ret (⟨gB h.Bytes q c (bW c).toNat,h.Class.set q c⟩,gS q (bW c).toNat)):=gZ q (fun k=>(k:Int)) _ s1 (by
      have e0:aW ((q:Int) * 64)=((q * 64:Nat):Int):=by rw [aO (by omega) (by omega)];omega
      have e1:aW (((q * 64:Nat):Int)+1)=((q * 64+1:Nat):Int):=by rw [aO (by omega) (by omega)];omega
      have e2:aW (((q * 64:Nat):Int)+2)=((q * 64+2:Nat):Int):=by rw [aO (by omega) (by omega)];omega
      have n:(h.Class[q] != -1)=false:=by simpa using he
      simp only [dI,e0,e1,e2,Int.toNat_natCast]
      rw [if_pos (by simp;omega),aV (by omega),aH,n,if_neg (by simp),aV (by omega),aH,aV (by simp;omega),aH,eH,aH,aV (by simp;omega),aH]
      have:=UG h384 hlt hc
      simp only [gB] at this
      rw [this];rfl)
    rw [a1,if_neg hq];rfl
theorem aEL{m:Mem}(hm:j7 m){c:Int}(hc:0≤c∧c≤2):m5 m c=some (LY m c):=by
  have h3:=hm.1.2.1
  have hpp:0 < bW c:=gK.2 hc
  have hp4:=jB c
  obtain⟨_,_,_,_,_,_,_,_,hsG,_⟩:=j7.facts hm
  unfold m5 LY
  rw [aM6 hm.1.1 hc]
  by_cases hq:OJ m.aB=6
  · simp only [if_pos hq,aH];rfl
  · have hk:c.toNat < m.aA.Global.length:=by omega
    have hg0:=hsG _ (List.getElem_mem hk)
    have hx:idx m.aA.Global c=some m.aA.Global[c.toNat]:=fB hc.1 (by omega)
    have hz:idx (gS (OJ m.aB) (bW c).toNat) 0=some ((OJ m.aB:Int) * 4):=by
      have:=aV (l:=gS (OJ m.aB) (bW c).toNat) (k:=0) (by rw [CX];omega)
      rw [show((0:Nat):Int)=0 from rfl] at this
      rw [this];simp [gS]
    have hn:(((bW c).toNat:Int) == 0)=false:=by simpa using (by omega:¬((bW c).toNat:Int)=0)
    have ht:(gS (OJ m.aB) (bW c).toNat).take (bW c).toNat=gS (OJ m.aB) (bW c).toNat:=List.take_of_length_le (by rw [CX];omega)
    have hd:((gS (OJ m.aB) (bW c).toNat).drop 1).length≤4:=by rw [List.length_drop,CX];omega
    simp only [if_neg hq,aH,CX,hn,bE,if_false,hx,hz,sV,ht]
    rw [aS (by omega),aS (by simp only [List.length_drop,CX,Int.toNat_one];omega),cQ hk];rfl
def aM7(m:Mem)(s:Int):Int:=if 1≤g7 m.aB s∧g7 m.aB s≤6 then g7 m.aB s * 32+s else 0
theorem aKO{m:Mem}(hs:dM m.aB){s:Int}(hc:0≤aX m.aB s):lD m s=some (aM7 m s):=by
  unfold lD jC gN aM7
  rw [lJ hs hc,aH,bL,bL]
  have h1:=(rE hc).1
  simp only [bB h1,aH,eU,bE,if_false]
  by_cases q:1≤g7 m.aB s∧g7 m.aB s≤6
  · simp only [bB q,eU,bE,if_false,if_pos q]
    rw [aO (x:=g7 m.aB s * 32) (by omega) (by omega),aO (by omega) (by omega)];rfl
  · simp only [bK q,wX,if_true,if_neg q];rfl
def OK(b:aG)(s:Sub)(p:Mem×Int):aG×Sub:=
  if 0≤p.2 then ({b with Mem:=p.1},EU {s with Out:=aM7 p.1 p.2} 0) else if s.Pc=3 then ({b with Mem:=p.1},EU s 3) else ({b with Mem:=p.1},{s with Pc:=s.Pc+1})
def aB0(b:aG)(w:Int)(s:Sub):aG×Sub:=
  if CZ s.A < 0 then (b,EU s 2)
  else if s.Pc=0 then OK b s (NO b.Mem w (CZ s.A))
  else if s.Pc=1∨s.Pc=3 then OK b s (FM b.Mem (CZ s.A))
  else if s.Pc=2 then OK b s (LY b.Mem (CZ s.A))
  else (b,EU s 1)
theorem aEM{b:aG}(hm:j7 b.Mem){w:Int}(hw:0≤w∧w≤2)(s:Sub):oC b w s=some (aB0 b w s):=by
  obtain⟨hcnt,h3,h9,h1,h2,hsm,hcp,hlo,hsG,hsO⟩:=j7.facts hm
  have hs:=hm.1.1.1
  have hr:=aBZ s.A
  unfold oC aB0
  rw [aEK]
  simp only [aH]
  by_cases c0:CZ s.A < 0
  · simp only [bB c0,if_true,bA,if_pos c0];rfl
  generalize CZ s.A=c at *
  have hc:0≤c∧c≤2:=by omega
  simp only [bK c0,bE,if_false,if_neg c0]
  have fin:∀(p:Mem×Int),-1≤p.2→(0≤p.2→dM p.1.aB∧0≤aX p.1.aB p.2)→s.Pc≤3∧0≤s.Pc→eM s p.2 ⟨p.1,b.aK,b.aP,b.nZ⟩=some (OK b s p):=by
    intro p hp hx hpc
    unfold eM OK
    simp only [lZ,A2,bA]
    by_cases x0:0≤p.2
    · rw [bK (show ¬p.2 < 0 by omega),bB x0]
      simp only [bE,if_false,if_true,if_pos x0,aKO (hx x0).1 (hx x0).2,aH];rfl
    · rw [bB (show p.2 < 0 by omega),bK x0]
      by_cases p3:s.Pc=3
      · have p3':(s.Pc == 3)=true:=by simpa using p3
        simp only [p3',if_true,if_neg x0,if_pos p3,aH];rfl
      · have p3':(s.Pc == 3)=false:=by simpa using p3
        have e:aW (s.Pc+1)=s.Pc+1:=aO (by omega) (by omega)
        simp only [p3',if_true,bE,if_false,if_neg x0,if_neg p3,aH,e]
  have popL:∀l:List Int,-1≤(WC l).2∨(WC l).2∈l:=fun l=>by
    unfold WC
    rcases List.eq_nil_or_concat l with rfl | ⟨L,b,rfl⟩
    · left;simp
    · right;simp
  by_cases p0:s.Pc=0
  · have hk:(w * 3+c).toNat < b.Mem.aA.bD.length:=by omega
    have hx:idx b.Mem.aA.bD (w * 3+c)=some b.Mem.aA.bD[(w * 3+c).toNat]:=fB (by omega) (by omega)
    obtain⟨l,t,x,e1,e2,e3,g1,g2,g3⟩:=LX hm hw hc
    have hl:=hsO _ (List.getElem_mem hk)
    rw [hx] at e1;cases e1
    rw [RH (by omega)] at e2
    have ep:NO b.Mem w c=(⟨b.Mem.aB,⟨b.Mem.aA.Global,b.Mem.aA.bD.set (w * 3+c).toNat t⟩⟩,x):=by
      unfold NO
      rw [←cQ hk]
      injection e2 with e2;injection e2 with e4 e5
      rw [←e4,←e5]
    have hx0:-1≤x:=by
      injection e2 with e2;injection e2 with e4 e5
      rcases popL b.Mem.aA.bD[(w * 3+c).toNat].aL with h | h
      · rw [←e5];exact h
      · rw [←e5];have:=hm.1.2.2.2.2.1 _ (List.mem_append_right _ (List.mem_flatMap.2 ⟨_,List.getElem_mem hk,h⟩));omega
    have p0':(s.Pc == 0)=true:=by simpa using p0
    have:=fin (NO b.Mem w c) (by rw [ep];exact hx0) (by rw [ep];exact fun h=>⟨hs,g2 h⟩) (by omega)
    rw [ep] at this
    simp only [p0',if_true,if_pos p0,(zT hw hc).1,aH,hx]
    rw [RH (show b.Mem.aA.bD[(w * 3+c).toNat].aL.length≤1048576 by omega),e2,aH,ep]
    exact this
  · have p0':(s.Pc == 0)=false:=by simpa using p0
    simp only [p0',bE,if_false,l5,if_neg p0]
    have hk:c.toNat < b.Mem.aA.Global.length:=by omega
    have hx:idx b.Mem.aA.Global c=some b.Mem.aA.Global[c.toNat]:=fB (by omega) (by omega)
    obtain⟨l,t,x,e1,e2,e3,g1,g2,g3⟩:=ET hm hc
    have hl:=hsG _ (List.getElem_mem hk)
    rw [hx] at e1;cases e1
    rw [RH (by omega)] at e2
    have ep:FM b.Mem c=(⟨b.Mem.aB,⟨b.Mem.aA.Global.set c.toNat t,b.Mem.aA.bD⟩⟩,x):=by
      unfold FM
      rw [←cQ hk]
      injection e2 with e2;injection e2 with e4 e5
      rw [←e4,←e5]
    have hx0:-1≤x:=by
      injection e2 with e2;injection e2 with e4 e5
      rcases popL b.Mem.aA.Global[c.toNat].aL with h | h
      · rw [←e5];exact h
      · rw [←e5];have:=hm.1.2.2.2.2.1 _ (List.mem_append_left _ (List.mem_flatMap.2 ⟨_,List.getElem_mem hk,h⟩));omega
    have tg:0≤s.Pc∧s.Pc≤3→(idx b.Mem.aA.Global c).bind (fun x13=>(iM x13).bind fun x14=>eM s x14.2 ({b with Mem:=(⟨b.Mem.aB,(⟨b.Mem.aA.Global.set c.toNat x14.1,b.Mem.aA.bD⟩:aA)⟩:Mem)}:aG))=some (OK b s (FM b.Mem c)):=fun hpc=>by
      have:=fin (FM b.Mem c) (by rw [ep];exact hx0) (by rw [ep];exact fun h=>⟨hs,g2 h⟩) (by omega)
      rw [hx,aH,RH (by omega),e2,aH,←this,ep]
    by_cases p1:s.Pc=1
    · have p1':(s.Pc == 1)=true:=by simpa using p1
      simp only [p1',if_true]
      rw [tg (by omega),if_pos (.inl p1)]
    · have p1':(s.Pc == 1)=false:=by simpa using p1
      simp only [p1',bE,if_false]
      by_cases p3:s.Pc=3
      · have p3':(s.Pc == 3)=true:=by simpa using p3
        simp only [p3',if_true]
        rw [tg (by omega),if_pos (.inr p3)]
      · have p3':(s.Pc == 3)=false:=by simpa using p3
        have n13:¬(s.Pc=1∨s.Pc=3):=by omega
        simp only [p3',bE,if_false,if_neg n13]
        by_cases p2:s.Pc=2
        · obtain⟨m',y,f1,f2,k1,k2,k3⟩:=UJ hm hc
          have hg:=aEL hm hc
          rw [f1] at hg
          have hg':LY b.Mem c=(m',y):=by injection hg with hg;exact hg.symm
          have hy:-1≤(LY b.Mem c).2:=by unfold LY;split <;> simp only <;> omega
          have p2':(s.Pc == 2)=true:=by simpa using p2
          simp only [p2',if_true,if_pos p2,f1,aH]
          have:=fin (LY b.Mem c) hy (by rw [hg'];exact k2) (by omega)
          rw [hg'] at this ⊢
          exact this
        · have p2':(s.Pc == 2)=false:=by simpa using p2
          simp only [p2',bE,if_false,bA,if_neg p2,aH];rfl
end Go.Gv
end
noncomputable section
namespace Go.Gv
def lC(c:aK)(w:Int):gQ:=c.bM.getD w.toNat ⟨false,0,false,0⟩
theorem OL{c:aK}(hc:EN c){w:Int}(hw:0≤w∧w≤2):idx c.bM w=some (lC c w):=by
  have:=hc.2.1
  rw [fB hw.1 (by omega)]
  simp [lC,List.getD_eq_getElem?_getD,List.getElem?_eq_getElem (show w.toNat < c.bM.length by omega)]
def W9(c:aK)(w e:Int):aK×Bool:=
  if (lC c w).On=false∨(lC c w).eR=true∨(lC c w).aI=e then (c,true)
  else if (lC c w).Seen=2 then (⟨c.aI,c.bM.set w.toNat {lC c w with eR:=true,Seen:=0}⟩,true)
  else (⟨c.aI,c.bM.set w.toNat {lC c w with Seen:=(lC c w).Seen+1}⟩,false)
theorem aIF{c:aK}(hc:EN c){w:Int}(hw:0≤w∧w≤2):YR c.aI (lC c w):=by
  have:=OL hc hw
  have h2:=hc.2.1
  rw [fB hw.1 (by omega)] at this
  injection this with this
  rw [←this]
  exact hc.2.2 _ (List.getElem_mem _)
theorem aIG{c:aK}(hc:EN c){w:Int}(hw:0≤w∧w≤2)(e:Int):pH c w e=some (W9 c w e):=by
  have hp:=aIF hc hw
  have hx:=OL hc hw
  have hsm:=hc.small
  unfold pH pG W9
  rw [jH hsm.1,gG,bB hc,bL,bB hw,hx]
  simp only [aH,eU,bE,if_false,jP,hx]
  generalize lC c w=p at *
  have ew:aW (p.Seen+1)=p.Seen+1:=aO (by have:=hp.2.1;omega) (by have:=hp.2.1;omega)
  cases h1:p.On
  · simp
  · cases h2:p.eR
    · by_cases h3:p.aI=e
      · simp [h3]
      · have h3':(p.aI == e)=false:=by simpa using h3
        by_cases h4:p.Seen=2
        · simp [h3,h3',h4]
        · have h4':(p.Seen == 2)=false:=by simpa using h4
          simp [h3,h3',h4,h4',ew]
    · simp
def aAI(c:aK)(e:Int):aK×Bool:=if c.aI=e∧e≠100000 then (⟨e+1,c.bM⟩,true) else (c,false)
theorem aIH{c:aK}(hc:EN c)(e:Int):xH c e=some (aAI c e):=by
  have hsm:=hc.small
  unfold xH qS aAI
  rw [jH hsm.1,gG,bB hc]
  simp only [aH,eU,bE,if_false]
  by_cases h1:c.aI=e
  · have he:=hc.1
    have ew:aW (e+1)=e+1:=aO (by omega) (by omega)
    by_cases h2:e=100000
    · simp [h1,h2]
    · have h2':(e == 100000)=false:=by simpa using h2
      simp [h1,h2,h2',ew]
  · simp [h1]
def OM(c:aK)(w e:Int):aK×Bool:=if 0≤e∧e≤c.aI then (⟨c.aI,c.bM.set w.toNat ⟨true,e,false,0⟩⟩,true) else (c,false)
theorem aEN{c:aK}(hc:EN c){w:Int}(hw:0≤w∧w≤2)(e:Int):tW c w e=some (OM c w e):=by
  have hsm:=hc.small
  unfold tW oD OM
  rw [jH hsm.1,gG,bB hc,bL,bB hw,bL]
  simp only [aH,eU,bE,if_false]
  by_cases h1:0≤e∧e≤c.aI
  · simp [h1,OL hc hw]
  · simp [h1]
def UO(b:aG)(s:Sub):aG×Sub:=
  if s.Pc=0 then (b,{s with Pc:=1,E:=b.aK.aI,B:=0})
  else if s.Pc=1 then
    if 0≤s.B∧s.B≤2 then
      if (W9 b.aK s.B s.E).2 then ({b with aK:=(W9 b.aK s.B s.E).1},{s with Pc:=if s.B=2 then 2 else 1,B:=s.B+1})
      else ({b with aK:=(W9 b.aK s.B s.E).1},EU s 8)
    else (b,EU s 1)
  else if s.Pc=2 then ({b with aK:=(aAI b.aK s.E).1},EU {s with Out:=if (aAI b.aK s.E).2 then 1 else s.Out} 0)
  else (b,EU s 1)
theorem aAJ{b:aG}(hc:EN b.aK)(s:Sub):kJ b s=some (UO b s):=by
  unfold kJ UO
  rw [aIH hc,bL]
  simp only [bA,jQ,jR,aH]
  by_cases p0:s.Pc=0
  · have p0':(s.Pc == 0)=true:=by simpa using p0
    simp only [p0',if_true,if_pos p0]
  · have p0':(s.Pc == 0)=false:=by simpa using p0
    simp only [p0',bE,if_false,if_neg p0]
    by_cases p1:s.Pc=1
    · have p1':(s.Pc == 1)=true:=by simpa using p1
      simp only [p1',if_true,if_pos p1]
      by_cases hB:0≤s.B∧s.B≤2
      · have ew:aW (s.B+1)=s.B+1:=aO (by omega) (by omega)
        simp only [bB hB,eU,bE,if_false,if_pos hB,aIG hc hB,aH,ew]
        cases h:(W9 b.aK s.B s.E).2
        · simp [EU]
        · by_cases q:s.B=2
          · have q':(s.B+1 == 3)=true:=by simp [q]
            simp [q',q]
          · have q':(s.B+1 == 3)=false:=by simp;omega
            simp [q',q,p1]
      · simp only [bK hB,wX,if_true,if_neg hB];rfl
    · have p1':(s.Pc == 1)=false:=by simpa using p1
      simp only [p1',bE,if_false,if_neg p1]
      by_cases p2:s.Pc=2
      · have p2':(s.Pc == 2)=true:=by simpa using p2
        simp only [p2',if_true,if_pos p2]
        cases h:(aAI b.aK s.E).2 <;> rfl
      · have p2':(s.Pc == 2)=false:=by simpa using p2
        simp only [p2',bE,if_false,if_neg p2];rfl
def aM8(b:aG)(w:Int)(s:Sub):aG×Sub:=
  if s.Pc=0 then (b,{s with Pc:=1,E:=b.aK.aI})
  else if s.Pc=1 then
    if (OM b.aK w s.E).2 then ({b with aK:=(OM b.aK w s.E).1},{s with Pc:=2}) else ({b with aK:=(OM b.aK w s.E).1},EU s 1)
  else if s.Pc=2 then if b.aK.aI=s.E then (b,EU s 0) else (b,{s with Pc:=0})
  else (b,EU s 1)
theorem aKP{b:aG}(hc:EN b.aK){w:Int}(hw:0≤w∧w≤2)(s:Sub):uM b w s=some (aM8 b w s):=by
  unfold uM aM8
  rw [aEN hc hw]
  simp only [bA,aH]
  by_cases p0:s.Pc=0
  · have p0':(s.Pc == 0)=true:=by simpa using p0
    simp only [p0',if_true,if_pos p0]
  · have p0':(s.Pc == 0)=false:=by simpa using p0
    simp only [p0',bE,if_false,if_neg p0]
    by_cases p1:s.Pc=1
    · have p1':(s.Pc == 1)=true:=by simpa using p1
      simp only [p1',if_true,if_pos p1]
      cases h:(OM b.aK w s.E).2 <;> rfl
    · have p1':(s.Pc == 1)=false:=by simpa using p1
      simp only [p1',bE,if_false,if_neg p1]
      by_cases p2:s.Pc=2
      · have p2':(s.Pc == 2)=true:=by simpa using p2
        simp only [p2',if_true,if_pos p2]
        by_cases q:b.aK.aI=s.E
        · have q':(b.aK.aI == s.E)=true:=by simpa using q
          simp only [q',if_true,if_pos q];rfl
        · have q':(b.aK.aI == s.E)=false:=by simpa using q
          simp only [q',bE,if_false,if_neg q]
      · have p2':(s.Pc == 2)=false:=by simpa using p2
        simp only [p2',bE,if_false,if_neg p2];rfl
def bY(l:List aN)(w:Int):List bJ:=(l.getD w.toNat ⟨[]⟩).Rows
theorem uC{l:List aN}(hl:lK l){w:Int}(hw:0≤w∧w≤2):idx l w=some ⟨bY l w⟩:=by
  have:=hl.1
  rw [fB hw.1 (by omega)]
  simp [bY,List.getD_eq_getElem?_getD,List.getElem?_eq_getElem (show w.toNat < l.length by omega)]
theorem FN{l:List aN}(hl:lK l){w:Int}(hw:0≤w∧w≤2):(bY l w).length≤24:=by
  have h:=uC hl hw
  have h3:=hl.1
  rw [fB hw.1 (by omega)] at h
  injection h with h
  have:=hl.small.2.2.2 _ (List.getElem_mem (show w.toNat < l.length by omega))
  rw [h] at this;exact this
def Y3(b:aG)(w:Int)(s:Sub):aG×Sub:=
  if s.Pc=0 then (b,{s with Pc:=1,E:=b.aK.aI})
  else if s.Pc=1 then
    if 0≤s.E∧s.E≤b.aK.aI then
      if jG b.Mem s.A∧¬FK b.aP (s.A % 32) then ({b with aP:=b.aP.set w.toNat ⟨bY b.aP w ++ [⟨s.A,s.E⟩]⟩},EU s 0) else (b,EU s 4)
    else (b,EU s 1)
  else (b,EU s 1)
theorem aB1{b:aG}(hb:fL b){w:Int}(hw:0≤w∧w≤2)(s:Sub):l6 b w s=some (Y3 b w s):=by
  have hL:=hb.1.2.2.1
  have hm:=hb.1.1
  obtain⟨h1,h2,h3,_⟩:=j7.facts hm
  have hx:=uC hL hw
  have hrow:=FN hL hw
  unfold l6 Y3
  rw [bL,iU hm.1.1.1 (by omega) (by simp only [maxLen];omega) (by simp only [maxLen];omega),dA]
  simp only [bA,aH,kV,oS]
  by_cases p0:s.Pc=0
  · have p0':(s.Pc == 0)=true:=by simpa using p0
    simp only [p0',if_true,if_pos p0]
  · have p0':(s.Pc == 0)=false:=by simpa using p0
    simp only [p0',bE,if_false,if_neg p0]
    by_cases p1:s.Pc=1
    · have p1':(s.Pc == 1)=true:=by simpa using p1
      simp only [p1',if_true,if_pos p1]
      by_cases q1:0≤s.E∧s.E≤b.aK.aI
      · simp only [bB q1,eU,bE,if_false,if_pos q1]
        by_cases q2:jG b.Mem s.A
        · have hh:=q2.1
          simp only [bB q2,eU,bE,if_false,if_pos hh,AK hL,aH]
          by_cases q3:FK b.aP (s.A % 32)
          · simp only [bB q3,if_true,if_neg (show ¬(jG b.Mem s.A∧¬FK b.aP (s.A % 32)) from fun h=>h.2 q3)];rfl
          · simp only [bK q3,bE,if_false,hx,aH,if_pos (show jG b.Mem s.A∧¬FK b.aP (s.A % 32) from ⟨q2,q3⟩)]
            rw [aS (by simp;omega)];rfl
        · simp only [bK q2,wX,if_true,if_neg (show ¬(jG b.Mem s.A∧¬FK b.aP (s.A % 32)) from fun h=>q2 h.1)];rfl
      · simp only [bK q1,wX,if_true,if_neg q1];rfl
    · have p1':(s.Pc == 1)=false:=by simpa using p1
      simp only [p1',bE,if_false,if_neg p1];rfl
def rJ(r:bJ)(e:Int):Prop:=2≤e∧r.aI≤aW (e - 2)
instance (r:bJ) (e:Int):Decidable (rJ r e):=by unfold rJ;infer_instance
theorem JM(r:bJ)(e:Int):qT r e=some (decide (rJ r e)):=by
  unfold qT vC rJ
  by_cases h:2≤e
  · rw [bB h,if_pos rfl]
    simp [h]
  · simp [h]
def mT(l:List bJ)(e:Int)(k:Nat):Nat:=k+(l.drop k).findIdx (fun r=>decide (rJ r e))
theorem aII{l:List bJ}(hl:l.length≤1000){from_ e:Int}:m6 l from_ e=some (if mT l e from_.toNat < l.length then (mT l e from_.toNat:Int) else -1):=by
  have hst:(if 0 < from_ then from_ else 0)=(from_.toNat:Int):=by split <;> omega
  unfold m6
  rw [hst]
  have key:∀d k:Nat,l.length≤k+d→loop (cX l e) (k:Int)=some (if mT l e k < l.length then Out.ret (mT l e k:Int) else Out.brk ()):=by
    intro d
    induction d with
    | zero =>
      intro k hk
      rw [bP (r:=Out.brk ()) (by simp only [cX];rw [if_neg (by simp;omega)]),if_neg (by unfold mT;omega)]
    | succ d ih =>
      intro k hk
      by_cases hkl:k < l.length
      · have hd:l.drop k=l[k] :: l.drop (k+1):=List.drop_eq_getElem_cons hkl
        by_cases hr:rJ l[k] e
        · have hs:mT l e k=k:=by unfold mT;rw [hd,List.findIdx_cons,bB hr];rfl
          rw [bP (r:=Out.ret (k:Int)) (by simp only [cX];rw [if_pos (by simp;omega),aV hkl,aH,JM _ e,aH,bB hr,if_pos rfl]),hs,if_pos hkl]
        · have hs:mT l e k=mT l e (k+1):=by unfold mT;rw [hd,List.findIdx_cons,bK hr];simp only [cond_false];omega
          rw [bT (s':=((k+1:Nat):Int)) (by simp only [cX];rw [if_pos (by simp;omega),aV hkl,aH,JM _ e,aH,bK hr,if_neg (by simp),aO (by omega) (by omega)];rfl),ih (k+1) (by omega),hs]
      · rw [bP (r:=Out.brk ()) (by simp only [cX];rw [if_neg (by simp;omega)]),if_neg (by unfold mT;omega)]
  rw [key l.length from_.toNat (by omega)]
  split <;> rfl
theorem UP{l:List bJ}{e:Int}{k:Nat}(h:mT l e k < l.length):k≤mT l e k∧rJ l[mT l e k] e:=by
  refine⟨by unfold mT;omega,?_⟩
  have h1:(l.drop k).findIdx (fun r=>decide (rJ r e)) < (l.drop k).length:=by
    rw [List.length_drop];unfold mT at h;omega
  have:=List.findIdx_getElem (xs:=l.drop k) (p:=fun r=>decide (rJ r e)) (w:=h1)
  rw [List.getElem_drop] at this
  exact of_decide_eq_true this
def AR(m:Mem)(w h:Int):Mem:=
  if h / 32+1≤6 then
    if (eF m.aA.bD (w * 3+aX m.aB (h % 32)).toNat).length < 2 then ⟨⟨RE m.aB.Bytes (eI (h % 32) (aX m.aB (h % 32))).toNat (h / 32+1),m.aB.Class⟩,⟨m.aA.Global,m.aA.bD.set (w * 3+aX m.aB (h % 32)).toNat ⟨eF m.aA.bD (w * 3+aX m.aB (h % 32)).toNat ++ [h % 32]⟩⟩⟩
    else ⟨⟨RE m.aB.Bytes (eI (h % 32) (aX m.aB (h % 32))).toNat (h / 32+1),m.aB.Class⟩,⟨m.aA.Global.set (aX m.aB (h % 32)).toNat ⟨eF m.aA.Global (aX m.aB (h % 32)).toNat ++ [h % 32]⟩,m.aA.bD⟩⟩
  else ⟨⟨RE m.aB.Bytes (eI (h % 32) (aX m.aB (h % 32))).toNat (h / 32+1),m.aB.Class⟩,m.aA⟩
theorem aIJ{m:Mem}(hm:j7 m){w h:Int}(hw:0≤w∧w≤2)(hv:jG m h):pJ m w (h % 32)=some (AR m w h):=by
  obtain⟨hcnt,h3,h9,h1,h2,hsm,hcp,hlo,hsG,hsO⟩:=j7.facts hm
  have hs:=hm.1.1.1
  have hh:=hv.1
  have hcl:=mX hv.2.1
  have hgo:=y4 hcl
  have hc2:0≤aX m.aB (h % 32)∧aX m.aB (h % 32)≤2:=by
    obtain⟨_,q,e⟩:=rE hcl
    rw [e];exact gK.1 (by omega)
  have hg6:1≤h / 32∧h / 32≤6:=by unfold mU at hh;omega
  have eo:eI (h % 32) (aX m.aB (h % 32))=(((eI (h % 32) (aX m.aB (h % 32))).toNat:Nat):Int):=by omega
  have ew:aW (h / 32+1)=h / 32+1:=aO (by omega) (by omega)
  unfold pJ AR
  rw [gE hs,aH,lJ hs hcl,hv.2.2,aH,lI,aH,ew]
  generalize hgn:(eI (h % 32) (aX m.aB (h % 32))).toNat=a at eo
  rw [eo,AL (by omega) (by omega) (by omega)]
  simp only [aH,vH,vG,ew]
  generalize aX m.aB (h % 32)=c at *
  by_cases q:h / 32+1≤6
  · have hk:(w * 3+c).toNat < m.aA.bD.length:=by omega
    have hx:idx m.aA.bD (w * 3+c)=some m.aA.bD[(w * 3+c).toNat]:=fB (by omega) (by omega)
    have hk2:c.toNat < m.aA.Global.length:=by omega
    have hx2:idx m.aA.Global c=some m.aA.Global[c.toNat]:=fB (by omega) (by omega)
    have b1:=hsO _ (List.getElem_mem hk)
    have b2:=hsG _ (List.getElem_mem hk2)
    rw [bB q,if_pos rfl,if_pos q]
    unfold uL
    rw [(zT hw hc2).1]
    simp only [aH,hx,hx2,pI,vD,vF,←cQ hk,←cQ hk2]
    by_cases q2:m.aA.bD[(w * 3+c).toNat].aL.length < 2
    · have y1:(m.aA.bD[(w * 3+c).toNat].aL.length:Int) < 2:=by omega
      simp only [bB y1,if_true,if_pos q2]
      rw [aS (by simp;omega)];rfl
    · have y1:¬(m.aA.bD[(w * 3+c).toNat].aL.length:Int) < 2:=by omega
      simp only [bK y1,bE,if_false,if_neg q2]
      rw [aS (by simp;omega)];rfl
  · rw [bK q,if_neg (by simp),if_neg q]
def AS(z:List Int)(w:Int):Int:=z.getD w.toNat 0
theorem XA{z:List Int}(hz:CT z){w:Int}(hw:0≤w∧w≤2):idx z w=some (AS z w):=by
  have:=hz.1
  rw [fB hw.1 (by omega)]
  simp [AS,List.getD_eq_getElem?_getD,List.getElem?_eq_getElem (show w.toNat < z.length by omega)]
def FO(l:List bJ)(k:Int):bJ:=l.getD k.toNat ⟨0,0⟩
theorem JN{l:List bJ}{k:Int}(h:0≤k∧k < l.length):idx l k=some (FO l k):=by
  rw [fB h.1 h.2]
  simp [FO,List.getD_eq_getElem?_getD,List.getElem?_eq_getElem (show k.toNat < l.length by omega)]
def AT(l:List bJ)(s:Sub):Prop:=0≤s.Row∧s.Row < l.length∧(FO l s.Row).Handle=s.H
instance (l:List bJ) (s:Sub):Decidable (AT l s):=by unfold AT;infer_instance
def qI(b:aG)(w:Int)(s:Sub):aG×Sub:=
  if s.Pc=0 then (b,{s with Pc:=1,E:=b.aK.aI,Row:=0})
  else if s.Pc=1 then
    if mT (bY b.aP w) s.E s.Row.toNat < (bY b.aP w).length then (b,{s with Pc:=2,Row:=(mT (bY b.aP w) s.E s.Row.toNat:Int),B:=0,H:=(FO (bY b.aP w) (mT (bY b.aP w) s.E s.Row.toNat:Int)).Handle})
    else (b,EU s 0)
  else if s.Pc=2 then
    if (0≤s.B∧s.B≤2)∧AT (bY b.aP w) s then
      if AS b.nZ s.B=s.H then (b,{s with Pc:=1,Row:=s.Row+1}) else (b,{s with Pc:=if s.B=2 then 3 else 2,B:=s.B+1})
    else (b,EU s 1)
  else if s.Pc=3 then
    if AT (bY b.aP w) s∧rJ (FO (bY b.aP w) s.Row) s.E then ({b with Mem:=AR b.Mem w s.H,aP:=b.aP.set w.toNat ⟨(bY b.aP w).eraseIdx s.Row.toNat⟩},{s with Pc:=1,Out:=aW (s.Out+1)})
    else (b,EU s 1)
  else (b,EU s 1)
theorem JO{l:List aN}(hl:lK l){w:Int}(hw:0≤w∧w≤2){r:bJ}(hr:r∈bY l w):r∈a9 l:=by
  have h:=uC hl hw
  have h3:=hl.1
  rw [fB hw.1 (by omega)] at h
  injection h with h
  exact List.mem_flatMap.2 ⟨l[w.toNat],List.getElem_mem _,by rw [h];exact hr⟩
theorem aIK{l:List bJ}{k:Int}(h:0≤k∧k < l.length):FO l k∈l:=by
  have:=JN h
  rw [fB h.1 h.2] at this
  injection this with this
  rw [←this];exact List.getElem_mem _
theorem aAK{b:aG}(hb:fL b){w:Int}(hw:0≤w∧w≤2)(s:Sub):kK b w s=some (qI b w s):=by
  have hL:=hb.1.2.2.1
  have hm:=hb.1.1
  have hx:=uC hL hw
  have hrow:=FN hL hw
  have hfl:=fun r hr=>JO hL hw (r:=r) hr
  unfold kK qI
  rw [hx]
  simp only [aH,bA]
  generalize bY b.aP w=l at *
  by_cases p0:s.Pc=0
  · have p0':(s.Pc == 0)=true:=by simpa using p0
    simp only [p0',if_true,if_pos p0]
  have p0':(s.Pc == 0)=false:=by simpa using p0
  simp only [p0',bE,if_false,if_neg p0]
  by_cases p1:s.Pc=1
  · have p1':(s.Pc == 1)=true:=by simpa using p1
    simp only [p1',if_true,if_pos p1,aII (show l.length≤1000 by omega),aH]
    by_cases q:mT l s.E s.Row.toNat < l.length
    · have n:¬(mT l s.E s.Row.toNat:Int) < 0:=by omega
      simp only [if_pos q,bK n,bE,if_false,JN (l:=l) (k:=(mT l s.E s.Row.toNat:Int)) (by omega),aH]
    · simp only [if_neg q,bB (show(-1:Int) < 0 by omega),if_true];rfl
  have p1':(s.Pc == 1)=false:=by simpa using p1
  simp only [p1',bE,if_false,if_neg p1]
  have el:aW ((l.length:Int) - 1)=(l.length:Int) - 1:=aO (by omega) (by omega)
  by_cases p2:s.Pc=2
  · have p2':(s.Pc == 2)=true:=by simpa using p2
    simp only [p2',if_true,if_pos p2,bL,el,aH,c8,jS,bA]
    by_cases hB:0≤s.B∧s.B≤2
    · simp only [bB hB,eU,bE,if_false]
      by_cases hR:0≤s.Row∧s.Row≤(l.length:Int) - 1
      · simp only [bB hR,eU,bE,if_false,JN (l:=l) (k:=s.Row) (by omega),aH]
        by_cases hH:(FO l s.Row).Handle=s.H
        · have hH':((FO l s.Row).Handle != s.H)=false:=by simpa using hH
          have ha:(0≤s.B∧s.B≤2)∧AT l s:=⟨hB,hR.1,by omega,hH⟩
          have e1:aW (s.B+1)=s.B+1:=aO (by omega) (by omega)
          have e2:aW (s.Row+1)=s.Row+1:=aO (by omega) (by omega)
          simp only [hH',bE,if_false,if_pos ha,XA hb.1.2.2.2 hB,aH,e1,e2]
          by_cases hz:AS b.nZ s.B=s.H
          · have hz':(AS b.nZ s.B == s.H)=true:=by simpa using hz
            simp only [hz',if_true,if_pos hz]
          · have hz':(AS b.nZ s.B == s.H)=false:=by simpa using hz
            simp only [hz',bE,if_false,if_neg hz]
            by_cases q:s.B=2
            · have q':(s.B+1 == 3)=true:=by simp [q]
              simp only [q',if_true,if_pos q]
            · have q':(s.B+1 == 3)=false:=by simp;omega
              simp only [q',bE,if_false,if_neg q,p2]
        · have hH':((FO l s.Row).Handle != s.H)=true:=by simpa using hH
          have ha:¬((0≤s.B∧s.B≤2)∧AT l s):=fun h=>hH h.2.2.2
          simp only [hH',if_true,if_neg ha,aH];rfl
      · have ha:¬((0≤s.B∧s.B≤2)∧AT l s):=fun h=>hR ⟨h.2.1,by have:=h.2.2.1;omega⟩
        simp only [bK hR,wX,if_true,if_neg ha,aH];rfl
    · have ha:¬((0≤s.B∧s.B≤2)∧AT l s):=fun h=>hB h.1
      simp only [bK hB,wX,if_true,if_neg ha,aH];rfl
  have p2':(s.Pc == 2)=false:=by simpa using p2
  simp only [p2',bE,if_false,if_neg p2]
  by_cases p3:s.Pc=3
  · have p3':(s.Pc == 3)=true:=by simpa using p3
    simp only [p3',if_true,if_pos p3,bL,el,aH,c9,m7,bA]
    by_cases hR:0≤s.Row∧s.Row≤(l.length:Int) - 1
    · simp only [bB hR,eU,bE,if_false,JN (l:=l) (k:=s.Row) (by omega),aH]
      by_cases hH:(FO l s.Row).Handle=s.H
      · have hH':((FO l s.Row).Handle != s.H)=false:=by simpa using hH
        simp only [hH',bE,if_false,JM,aH]
        by_cases hr:rJ (FO l s.Row) s.E
        · have ha:AT l s∧rJ (FO l s.Row) s.E:=⟨⟨hR.1,by omega,hH⟩,hr⟩
          have e2:aW (s.Row+1)=s.Row+1:=aO (by omega) (by omega)
          have hlive:=(hb.2 _ (hfl _ (aIK (l:=l) (k:=s.Row) (by omega)))).1
          rw [hH] at hlive
          have et:(s.Row+1).toNat=s.Row.toNat+1:=by omega
          simp only [bB hr,eU,bE,if_false,if_pos ha,e2,dA,if_pos hlive.1,aH,aIJ hm hw hlive,et]
          rw [aS (by omega),aS (by omega),aS (by omega),del_eq (by omega)]
        · have ha:¬(AT l s∧rJ (FO l s.Row) s.E):=fun h=>hr h.2
          simp only [bK hr,wX,if_true,if_neg ha,aH];rfl
      · have hH':((FO l s.Row).Handle != s.H)=true:=by simpa using hH
        have ha:¬(AT l s∧rJ (FO l s.Row) s.E):=fun h=>hH h.1.2.2
        simp only [hH',if_true,if_neg ha,aH];rfl
    · have ha:¬(AT l s∧rJ (FO l s.Row) s.E):=fun h=>hR ⟨h.1.1,by have:=h.1.2.1;omega⟩
      simp only [bK hR,wX,if_true,if_neg ha,aH];rfl
  · have p3':(s.Pc == 3)=false:=by simpa using p3
    simp only [p3',bE,if_false,if_neg p3];rfl
def C1(b:aG)(w:Int)(s:Sub):aG×Sub:=
  if s.dV then (b,s) else if s.Kind=1 then aB0 b w s else if s.Kind=2 then Y3 b w s else if s.Kind=3 then UO b s else if s.Kind=4 then qI b w s else if s.Kind=5 then aM8 b w s else (b,EU s 1)
theorem aDO{b:aG}(hb:fL b){w:Int}(hw:0≤w∧w≤2)(s:Sub):xI b w s=some (C1 b w s):=by
  unfold xI C1
  rw [aEM hb.1.1 hw,aB1 hb hw,aAJ hb.1.2.1,aAK hb hw,aKP hb.1.2.1 hw]
  simp only [aH,bA]
  cases s.dV
  · simp only [bE,if_false,beq_iff_eq]
    split <;> (try rfl)
    split <;> (try rfl)
    split <;> (try rfl)
    split <;> (try rfl)
    split <;> rfl
  · rfl
theorem aDP{b:aG}(hb:fL b){w:Int}(hw:0≤w∧w≤2)(s:Sub):fL (C1 b w s).1:=by
  obtain⟨x,y,e1,_,h⟩:=step_eq hb hb.small hw s
  rw [aDO hb hw] at e1
  injection e1 with e1
  rw [e1];exact h
end Go.Gv
end
noncomputable section
namespace Go.Gv
def aDQ:aB:=⟨List.replicate 384 0,[-1,-1,-1,-1,-1,-1]⟩
def aM9:aA:=⟨List.replicate 3 ⟨[]⟩,List.replicate 9 ⟨[]⟩⟩
def aIL:aG:=⟨⟨aDQ,aM9⟩,⟨0,List.replicate 3 ⟨false,0,false,0⟩⟩,List.replicate 3 ⟨[]⟩,List.replicate 3 0⟩
theorem AM:v9=some aDQ:=by
  unfold v9
  have key:loop nW (0,[])=some (List.replicate 6 (-1)):=gZ (f:=nW) 6 (fun k=>((k:Int),List.replicate k (-1))) _ (fun k hk=>by
    simp only [nW]
    rw [if_pos (by simp;omega),aS (by simp;omega),aO (by omega) (by omega),List.replicate_succ'];rfl) (by simp [nW])
  rw [aS (by omega),key];rfl
theorem aNA:wE [-1] 6=some [-1,-1,-1,-1,-1,-1]:=by
  unfold wE
  rw [if_neg (by simp),show KO (IntKind.u64.wrap (([-1]:List Int).length:Int)) (IntKind.u64.wrap 6)=some (0,6) by kernel_rfl]
  simp only [aH]
  rw [if_neg (by simp),bK (by omega)]
  simp only [pZ,bE,if_false]
  rw [show IntKind.i64.wrap 6=6 from wrap_i64 (by omega) (by omega),aS (by omega),
    show(cT (List.replicate (Int.toNat 6) 0) 0 [-1],((min ([-1]:List Int).length ((List.replicate (Int.toNat 6) (0:Int)).length - 0):Nat):Int))=([-1,0,0,0,0,0],1) by kernel_rfl,
    bT (body:=hY) (s':=([-1,-1,0,0,0,0],2)) (by kernel_rfl),bT (body:=hY) (s':=([-1,-1,-1,-1,0,0],4)) (by kernel_rfl),
    bT (body:=hY) (s':=([-1,-1,-1,-1,-1,-1],6)) (by kernel_rfl),bP (body:=hY) (r:=[-1,-1,-1,-1,-1,-1]) (by kernel_rfl)]
  rfl
theorem QT:GF=some aDQ:=by
  unfold GF
  rw [aS (by omega),aNA];rfl
theorem aB2:BF=some aIL∧M0=some aIL:=by
  unfold BF M0 zK OY oJ KQ sB KR sC KS zL OZ
  rw [AM,QT,aS (by omega),aS (by omega),aS (by omega),aS (by omega),aS (by omega)]
  exact⟨rfl,rfl⟩
theorem aIM:fL aIL:=of_decide_eq_true (by kernel_rfl)
end Go.Gv
end
noncomputable section
namespace Go.Gv
def aDR(s:uG):Prop:=xO s.aG∧s.Cells.length≤1048576∧s.TH.length≤1048576∧s.OB.length≤1048576∧(∀q∈s.OB,q.MA.length≤1048576)∧s.Log.length≤1048576
theorem aDR.fits{s:uG}(h:aDR s):s.aG.Mem.aB.Bytes.length≤maxLen∧(cS s.aG.Mem.aA).length≤1073741824∧s.aG.aK.bM.length≤maxLen∧s.aG.aP.length≤maxLen∧(a9 s.aG.aP).length≤1073741824∧s.aG.nZ.length≤maxLen:=by
  obtain⟨⟨⟨a1,a2,a3,a4,a5⟩,b1,b2,b3,b4⟩,_⟩:=h
  simp only [maxLen];omega
end Go.Gv
end
noncomputable section
namespace Go.Gv
theorem aLI{h:aB}{s:Int}(hcl:0≤aX h s):(eI s (aX h s)).toNat+8≤384∧8≤fC (aX h s)∧fC (aX h s)≤40:=by
  have hc2:0≤aX h s∧aX h s≤2:=by
    obtain⟨_,q,e⟩:=rE hcl
    rw [e];exact gK.1 (by omega)
  have hz:8≤fC (aX h s)∧fC (aX h s)≤40:=by rcases eO hc2 with e | e | e <;> rw [e] <;> decide
  obtain⟨p,i,p6,hi,es,ec,eo,ep⟩:=zS hcl
  refine⟨?_,hz⟩
  rw [eo]
  have hcl':0≤bQ h p∧bQ h p≤2:=by rw [←ec];exact hc2
  generalize bQ h p=c at hi hcl'
  rcases eO hcl' with rfl | rfl | rfl
  · rw [show(bW 0).toNat=4 from rfl] at hi;rw [show(aR 0).toNat=12 from rfl];omega
  · rw [show(bW 1).toNat=2 from rfl] at hi;rw [show(aR 1).toNat=20 from rfl];omega
  · rw [show(bW 2).toNat=1 from rfl] at hi;rw [show(aR 2).toNat=44 from rfl];omega
structure JR where
  b:aG
  c:List Int
  j:MR
  l:List Ev
noncomputable section
variable (s:uG) (w:Int) (j:MR)
end
def aLJ(s:uG)(w:Int):MR:=s.TH.getD w.toNat aLG
noncomputable section
variable {s:uG} (hs:SOk s) (hl:s.Log.length≤1000000000) {w:Int} (hw:0≤w∧w≤2) {j:MR} (hjo:W8 j.Op∧j5 j.H∧j5 j.Old)
include hs
include hw
include hl hjo
omit hjo
end
end Go.Gv
end
noncomputable section
namespace Go.Gv
def eS(b:aG)(s:Int):Int:=if dX b.Mem s=3 then (if FK b.aP s then 3 else 4) else dX b.Mem s
theorem LZ(m:Mem)(s:Int):0≤dX m s∧dX m s≤3:=by unfold dX;split <;> (try split) <;> (try split) <;> omega
theorem UQ(b:aG)(s:Int):0≤eS b s∧eS b s≤4:=by
  have:=LZ b.Mem s
  unfold eS;split <;> (try split) <;> omega
def kB(b:aG):Nat→List Int
  | 0=>List.replicate 5 0
  | k+1=>(kB b k).set (eS b k).toNat ((kB b k).getD (eS b k).toNat 0+1)
theorem L4(b:aG)(k:Nat):(kB b k).length=5:=by induction k with | zero=>rfl | succ k ih=>simp [kB,ih]
theorem aB3(b:aG)(k:Nat):∀j,0≤(kB b k).getD j 0∧(kB b k).getD j 0≤k:=by
  induction k with
  | zero=>intro j;simp only [kB,List.getD_eq_getElem?_getD,List.getElem?_replicate];split <;> simp
  | succ k ih =>
    intro j
    have h1:=ih j
    have h2:=ih (eS b k).toNat
    simp only [kB,List.getD_eq_getElem?_getD,List.getElem?_set] at h1 h2 ⊢
    split
    · split
      · simp only [Option.getD_some];omega
      · simp;omega
    · omega
noncomputable section
variable {b:aG} (hb:fL b)
include hb
theorem aAL(s:Int):yT b s=some (eS b s):=by
  have hm:=hb.1.1
  obtain⟨h1,h2,h3,_⟩:=j7.facts hm
  unfold yT eS
  rw [HJ hm.1.1.1 (by omega) (by simp only [maxLen];omega) (by simp only [maxLen];omega),aH,AK hb.1.2.2.1]
  by_cases q:dX b.Mem s=3
  · by_cases r:FK b.aP s <;> simp [q,r,mL]
  · simp [q,mL]
theorem aEO(k:Nat):idx (kB b k) (eS b k)=some ((kB b k).getD (eS b k).toNat 0):=by
  have:=UQ b k
  have hl:=L4 b k
  rw [fB this.1 (by omega)]
  simp [List.getD_eq_getElem?_getD,List.getElem?_eq_getElem (show(eS b k).toNat < (kB b k).length by omega)]
theorem fL.fits:b.Mem.aB.Bytes.length≤maxLen∧(cS b.Mem.aA).length≤1073741824∧b.aK.bM.length≤maxLen∧b.aP.length≤maxLen∧(a9 b.aP).length≤1073741824∧b.nZ.length≤maxLen:=by
  obtain⟨h1,h2,h3,h4,_⟩:=j7.facts hb.1.1
  have a:=hb.1.2.1.2.1;have c:=hb.1.2.2.1.1;have d:=hb.1.2.2.1.2.1;have e:=hb.1.2.2.2.1
  simp only [maxLen];omega
theorem UR:CD b=some (kB b 24):=by
  unfold CD
  rw [aS (by omega),wV (fL.fits hb),bB hb,aH]
  have:=gZ (f:=sH b true) 24 (fun k=>(kB b k,(k:Int))) (kB b 24) (fun k hk=>by
    have hr:=aB3 b k (eS b k).toNat
    simp only [sH,sG]
    rw [if_pos (by simp;omega),if_pos trivial,aAL hb,aH,aEO hb,aH,aO (x:=(k:Int)+1) (by omega) (by omega),aO (by omega) (by omega)];rfl) (by simp [sH,sG])
  rw [show(List.replicate ((5:Int).toNat) (0:Int))=kB b 0 from rfl]
  have this':loop (sH b true) (kB b 0,0)=_:=this
  rw [this'];rfl
end
end Go.Gv
end
noncomputable section
namespace Go.Gv
def fO{α:Type}(o:Option α)(Q:α→Prop):Prop:=∃x,o=some x∧Q x
abbrev XB{σ ρ:Type}(I:σ→Prop)(Q:ρ→Prop):Step σ ρ→Prop
  | .next s=>I s
  | .stop r=>Q r
namespace fO
variable {α β σ ρ:Type} {Q:α→Prop}
theorem ret{x:α}(h:Q x):fO (some x) Q:=⟨x,rfl,h⟩
theorem bind{P:β→Prop}{o:Option β}{f:β→Option α}(h:fO o P)(hf:∀x,P x→fO (f x) Q):fO (o.bind f) Q:=by
  obtain⟨x,e,hx⟩:=h
  rw [e];exact hf x hx
theorem need{p:Prop}[Decidable p]{k:Option α}(h:p)(hk:fO k Q):fO (Gv.need p k) Q:=by rw [aS h];exact hk
theorem ite{c:Prop}[Decidable c]{a b:Option α}(h1:c→fO a Q)(h2:¬c→fO b Q):fO (if c then a else b) Q:=by
  by_cases h:c
  · rw [if_pos h];exact h1 h
  · rw [if_neg h];exact h2 h
theorem mono{P:α→Prop}{o:Option α}(h:fO o P)(hf:∀x,P x→Q x):fO o Q:=by obtain⟨x,e,hx⟩:=h;exact⟨x,e,hf x hx⟩
theorem idx{l:List β}{i:Int}(h:0≤i∧i < l.length):fO (Gv.idx l i) (fun x=>x∈l):=⟨_,fB h.1 h.2,List.getElem_mem _⟩
theorem loop{Q:ρ→Prop}{f:σ→Option (Step σ ρ)}{s:σ}(μ:σ→Nat)(Inv:σ→Prop)(h0:Inv s)(hb:∀s,Inv s→fO (f s) (XB (fun s'=>Inv s'∧μ s' < μ s) (fun r=>Q r))):fO (Gv.loop f s) Q:=by
  have key:∀n s,μ s < n→Inv s→fO (Gv.loop f s) Q:=by
    intro n
    induction n with
    | zero=>intro s h;omega
    | succ n ih =>
      intro s h hs
      obtain⟨q,e,hq⟩:=hb s hs
      cases q with
      | next s'=>rw [bT e];exact ih s' (by have:=hq.2;omega) hq.1
      | stop r=>rw [bP e];exact⟨r,rfl,hq⟩
  exact key _ s (Nat.lt_succ_self _) h0
theorem of{o:Option α}{x:α}(h:o=some x):fO o (fun y=>y=x):=⟨x,h,rfl⟩
end fO
def Cu(b:List UInt8)(i:Int):Prop:=(0≤i∧i≤b.length)∧b.length≤1048576
theorem aIN(x:Int):0≤eG .and .i64 x 255∧eG .and .i64 x 255≤255:=by
  have e:eG .and .i64 x 255=IntKind.i64.wrap ((BitVec.ofInt 64 x &&& BitVec.ofInt 64 255).toNat:Int):=rfl
  have h:(BitVec.ofInt 64 x &&& BitVec.ofInt 64 255).toNat≤255:=by
    rw [BitVec.toNat_and];exact Nat.le_trans Nat.and_le_right (by decide)
  rw [e,wrap_i64 (by omega) (by omega)];omega
noncomputable section
variable {b:List UInt8} {i h:Int} (hc:Cu b i)
include hc
theorem aAM:fO (mW ⟨b,i,h⟩) (fun x=>(0≤x.1∧x.1≤255)∧Cu b x.2.1):=by
  unfold mW v8
  obtain⟨⟨a1,a2⟩,a3⟩:=hc
  refine .ite (fun q=>?_) (fun q=>?_)
  · have q':=of_decide_eq_true q
    simp only at q'
    refine .bind (.idx ⟨a1,q'⟩) fun x _=>.ret ⟨aIN _,?_⟩
    show Cu b (aW (i+1))
    rw [aO (by omega) (by omega)]
    exact⟨by omega,a3⟩
  · exact .ret ⟨aIN _,⟨a1,a2⟩,a3⟩
theorem below{n:Int}(hn:n≤1000000):fO (aQ ⟨b,i,h⟩ n) (fun x=>(0≤x.1∧(x.1 < n∨n≤0∧x.1=0))∧Cu b x.2.1):=by
  unfold aQ
  refine .ite (fun q=>?_) (fun q=>?_)
  · have q':=of_decide_eq_true q
    exact .ret ⟨by simp;omega,hc⟩
  · have q0:0 < n:=by simpa using q
    refine .ite (fun q=>?_) (fun q=>?_)
    · refine .bind (aAM hc) fun x ⟨hx,h1⟩=>.need (by omega) (.ret ⟨?_,h1⟩)
      simp only [n7 hx.1]
      exact⟨Int.emod_nonneg _ (by omega),.inl (Int.emod_lt_of_pos _ q0)⟩
    · refine .bind (aAM hc) fun x ⟨hx,h1⟩=>.bind (aAM h1) fun y ⟨hy,h2⟩=>.bind (aAM h2) fun z ⟨hz,h3⟩=>.bind (aAM h3) fun w ⟨hw,h4⟩=>.need (by omega) (.ret ⟨?_,h4⟩)
      have e:aW (aW (aW (aW (x.1 * 16777216)+aW (y.1 * 65536))+aW (z.1 * 256))+w.1)=x.1 * 16777216+y.1 * 65536+z.1 * 256+w.1:=by
        rw [aO (x:=x.1 * 16777216) (by omega) (by omega),aO (x:=y.1 * 65536) (by omega) (by omega),aO (x:=z.1 * 256) (by omega) (by omega),aO (x:=x.1 * 16777216+y.1 * 65536) (by omega) (by omega),aO (x:=x.1 * 16777216+y.1 * 65536+z.1 * 256) (by omega) (by omega),aO (by omega) (by omega)]
      simp only [e]
      rw [n7 (by omega)]
      exact⟨Int.emod_nonneg _ (by omega),.inl (Int.emod_lt_of_pos _ q0)⟩
theorem aAN{n:Int}(hn:n≤1000000):fO (pW ⟨b,i,h⟩ n) (fun x=>Cu b x.2.1):=
  .bind (below hc hn) fun _ ⟨_,h1⟩=>.ret h1
theorem XC{l:List Int}(hl:0 < l.length)(hl2:l.length≤1000):fO (hU ⟨b,i,h⟩ l) (fun x=>x.1∈l∧Cu b x.2.1):=
  .bind (below hc (by omega)) fun x ⟨hx,h1⟩=>.bind (.idx (by omega)) fun y hy=>.ret ⟨hy,h1⟩
end
theorem aQB{code:List UInt8}(hl:code.length≤1048576):fO (F8 code) (fun x=>Cu code x.1):=by
  unfold F8
  refine .bind (P:=fun _=>True) (.loop (fun s=>code.length - s.2.toNat) (fun s=>0≤s.2∧s.2≤code.length) ⟨by simp,by simp⟩ ?_) fun x _=>.ret ⟨⟨by simp,by simp⟩,hl⟩
  rintro⟨a,k⟩ ⟨h1,h2⟩
  simp only [KP,yL]
  simp only at h1 h2
  have nx:k < code.length→fO ((idx code k).bind fun x7=>some (Step.next (eG .and .i64 (aW ((aW ((aW (a * 131))+(x7.toNat:Int)))+7)) 1073741823,aW (k+1)))) (XB (ρ:=Int) (fun s'=>(0≤s'.2∧s'.2≤code.length)∧code.length - s'.2.toNat < code.length - k.toNat) (fun r=>True)):=fun hk=>by
    refine .bind (.idx ⟨h1,hk⟩) fun x _=>.ret ?_
    rw [aO (x:=k+1) (by omega) (by omega)]
    refine⟨⟨?_,?_⟩,?_⟩ <;> (try simp only) <;> omega
  refine .ite (fun q=>?_) (fun q=>?_)
  · have q':=of_decide_eq_true q
    exact .ite (fun _=>nx q') (fun _=>.ret trivial)
  · rw [if_neg (by simp)];exact .ret trivial
end Go.Gv
end
noncomputable section
namespace Go.Gv
def Y4(j:MR):Prop:=j.YB=true∧(j.Op.Kind=2∨j.Op.Kind=5)∧j.Pc=0
def Adv(j:MR):Prop:=j.YB=true∧j.Op.Kind=4∧j.Pc=0
def JI(e:Int)(p:gQ)(j:MR):Prop:=j.YB=true →
  (j.Op.Kind=1→j.Sub.Kind=1∨j.Sub.Kind=2)∧(j.Op.Kind=4→j.Pc=1→j.Sub.Kind=4) ∧
  (Adv j→j.Sub.Kind=3∧j.Sub.dV=false∧(j.Sub.Pc=0∨j.Sub.E≤e∧(j.Sub.Pc=1∧(0≤j.Sub.B∧j.Sub.B≤2)∨j.Sub.Pc=2∧j.Sub.B=3))) ∧
  (Y4 j→j.Sub.Kind=5∧j.Sub.dV=false∧(j.Sub.Pc=0∨j.Sub.Pc=1∧(0≤j.Sub.E∧j.Sub.E≤e)∨j.Sub.Pc=2∧p.aI=j.Sub.E))
def Ep(c:aK)(J:Int→MR):Prop:=(∀w,0≤w∧w≤2→JI c.aI (lC c w) (J w))∧∀p,0≤p∧p≤2→¬Y4 (J p)→(lC c p).On=true→(lC c p).eR=false→c.aI≤(lC c p).aI+1∧(c.aI=(lC c p).aI+1→∀a,0≤a∧a≤2→Adv (J a)→(J a).Sub.Pc≠0→(J a).Sub.E=c.aI→(J a).Sub.B≤p)
def upJ(J:Int→MR)(w:Int)(j:MR):Int→MR:=fun v=>if v=w then j else J v
theorem US(J:Int→MR)(w:Int)(j:MR):upJ J w j w=j:=if_pos rfl
theorem ON(J:Int→MR){w v:Int}(j:MR)(h:v≠w):upJ J w j v=J v:=if_neg h
noncomputable section
variable {c:aK} {J:Int→MR} (h:Ep c J)
include h
theorem Ep.congr{J':Int→MR}(e:∀v,0≤v∧v≤2→J' v=J v):Ep c J':=by
  refine⟨fun w hw=>by rw [e w hw];exact h.1 w hw,fun p hp hn h1 h2=>?_⟩
  rw [e p hp] at hn
  obtain⟨a1,a2⟩:=h.2 p hp hn h1 h2
  exact⟨a1,fun q a ha=>by rw [e a ha];exact a2 q a ha⟩
variable {w:Int} (hw:0≤w∧w≤2) {j:MR}
include hw
theorem Ep.step{c':aK}(he:c'.aI=c.aI)(hp:∀v,0≤v∧v≤2→v≠w→lC c' v=lC c v)(hj:JI c.aI (lC c' w) j)
    (h2:¬Y4 j→(lC c' w).On=true→(lC c' w).eR=false→c.aI≤(lC c' w).aI+1∧(c.aI=(lC c' w).aI+1→∀a,0≤a∧a≤2→a≠w→Adv (J a)→(J a).Sub.Pc≠0→(J a).Sub.E=c.aI→(J a).Sub.B≤w))
    (ha:Adv j→j.Sub.Pc=0∨j.Sub.B=0):Ep c' (upJ J w j):=by
  constructor
  · intro v hv
    rw [he]
    by_cases q:v=w
    · subst q;rw [US];exact hj
    · rw [ON _ _ q,hp v hv q];exact h.1 v hv
  · intro p hpr hn o1 o2
    rw [he]
    have hadv:∀a,0≤a∧a≤2→(∀q:a≠w,Adv (J a)→(J a).Sub.Pc≠0→(J a).Sub.E=c.aI→(J a).Sub.B≤p)→Adv (upJ J w j a)→(upJ J w j a).Sub.Pc≠0→(upJ J w j a).Sub.E=c.aI→(upJ J w j a).Sub.B≤p:=by
      intro a har hk
      by_cases q:a=w
      · subst q
        rw [US]
        intro x1 x2 _
        rcases ha x1 with y | y
        · exact absurd y x2
        · omega
      · rw [ON _ _ q];exact hk q
    by_cases q:p=w
    · subst q
      rw [US] at hn
      obtain⟨a1,a2⟩:=h2 hn o1 o2
      exact⟨a1,fun e a har=>hadv a har (fun q=>a2 e a har q)⟩
    · rw [ON _ _ q] at hn
      rw [hp p hpr q] at o1 o2 ⊢
      obtain⟨a1,a2⟩:=h.2 p hpr hn o1 o2
      exact⟨a1,fun e a har=>hadv a har (fun _=>a2 e a har)⟩
end
end Go.Gv
end
noncomputable section
namespace Go.Gv
noncomputable section
variable (s:uG) (w:Int) (j:MR)
end
noncomputable section
variable {s:uG} (hs:SOk s) {w:Int} (hw:0≤w∧w≤2) (h:Ep s.aG.aK (aLJ s))
include hs hw h
end
def aIO(s:uG)(k:Nat):Prop:=(lC s.aG.aK k).On=true∧(aLJ s k).YB=false
instance (s:uG) (k:Nat):Decidable (aIO s k):=by unfold aIO;infer_instance
end Go.Gv
end
noncomputable section
namespace Go.Gv
def Hk(h:aB):Prop:=h.Bytes.length=384∧h.Class.length=6
def Wk(m:Mem):Prop:=Hk m.aB∧m.aA.Global.length=3∧m.aA.bD.length=9∧(cS m.aA).length≤24
theorem j7.wk{m:Mem}(hm:j7 m):Wk m:=by obtain⟨a,b,c,d,e,_⟩:=j7.facts hm;exact⟨⟨d,e⟩,b,c,a⟩
theorem Wk.small{m:Mem}(h:Wk m):mQ m:=by obtain⟨⟨a,b⟩,c,d,e⟩:=h;exact⟨by omega,by omega,by omega,by omega,by omega⟩
theorem Wk.XD{m:Mem}(h:Wk m):m3 m=some (decide (j7 m)):=by
  obtain⟨⟨a,b⟩,c,d,e⟩:=h
  exact EM (by rw [a];simp [maxLen]) (by omega)
theorem aNC{m:Mem}(h:Wk m){w n:Int}:fO (yN m w n) (fun x=>Wk x.1):=by
  unfold yN
  obtain⟨c,ec,_,hr⟩:=UK n
  rw [zR h.small,aH,ec,aH,h.XD,aH]
  by_cases hm:j7 m
  rotate_left
  · rw [bK hm,if_pos (by simp)];exact .ret h
  rw [bB hm,if_neg (by simp),bL,aH]
  by_cases hw:0≤w∧w≤2
  rotate_left
  · rw [bK hw];exact .ret h
  rw [bB hw]
  unfold q6
  rw [if_neg (by simp)]
  refine .ite (fun _=>.ret h) fun q=>?_
  have hc0:¬c < 0:=by simpa using q
  have hc:0≤c∧c≤2:=by omega
  have take:∀m:Mem,j7 m→∃t x,BH m.aA w c=some (⟨m.aA.Global,m.aA.bD.set (w * 3+c).toNat t⟩,x)∧(0≤x→0≤aX m.aB x)∧j7 ⟨m.aB,⟨m.aA.Global,m.aA.bD.set (w * 3+c).toNat t⟩⟩:=fun m hm=>by
    obtain⟨l,t,x,e1,e2,_,_,e3,e4⟩:=LX hm hw hc
    obtain⟨hcnt,h3,h9,h1,h2,hsm,hcp,hlo,hsG,hsO⟩:=j7.facts hm
    refine⟨t,x,?_,e3,e4.1⟩
    unfold BH tI
    rw [y8 (by omega) (by omega) (fun s h=>by have:=hsG s h;omega) (fun s h=>by have:=hsO s h;omega),aH,(zT hw hc).1,aH,tP (by omega),bB hm.1.2,aH,if_neg (by simp),bK (by omega),if_neg (by simp),e1,aH,e2,aH]
  have takeG:∀m:Mem,j7 m→∃t x,tJ m.aA c=some (⟨m.aA.Global.set c.toNat t,m.aA.bD⟩,x)∧(0≤x→0≤aX m.aB x)∧j7 ⟨m.aB,⟨m.aA.Global.set c.toNat t,m.aA.bD⟩⟩:=fun m hm=>by
    obtain⟨l,t,x,e1,e2,_,_,e3,e4⟩:=ET hm hc
    obtain⟨hcnt,h3,h9,h1,h2,hsm,hcp,hlo,hsG,hsO⟩:=j7.facts hm
    refine⟨t,x,?_,e3,e4.1⟩
    unfold tJ nH
    rw [y8 (by omega) (by omega) (fun s h=>by have:=hsG s h;omega) (fun s h=>by have:=hsO s h;omega),aH,tP (by omega),bB hm.1.2,aH,if_neg (by simp),bL,bB hc,aH,if_neg (by simp),e1,aH,e2,aH]
  have fin:∀(x:Int) (m:Mem),j7 m→(0≤x→0≤aX m.aB x)→fO (mG x m) (fun x=>Wk x.1):=fun x m hm hx=>by
    unfold mG
    refine .ite (fun _=>.ret hm.wk) fun q=>?_
    obtain⟨v,e,_⟩:=W5 hm.1.1.1 (hx (by simpa using q))
    rw [e,aH]
    exact .ret hm.wk
  have aDL:∀(x:Int) (M:Mem) (g o:List aE),j7 ⟨M.aB,⟨g,o⟩⟩→(0≤x→0≤aX M.aB x)→fO (mH c x M g o) (fun x=>Wk x.1):=fun x M g o hm hx=>by
    unfold mH
    refine .ite (fun _=>?_) fun _=>fin x _ hm hx
    obtain⟨m',s,e1,_,_,e2,e3⟩:=UJ hm hc
    rw [e1,aH]
    exact fin s m' e3.1 (fun q=>(e2 q).2)
  obtain⟨t,x,e1,e2,e3⟩:=take m hm
  rw [e1,aH]
  refine .ite (fun q=>?_) fun q=>aDL x _ _ _ e3 e2
  obtain⟨t',x',f1,f2,f3⟩:=takeG _ e3
  simp only at f1
  rw [f1,aH]
  exact aDL x' _ _ _ f3 f2
theorem aOY{m:Mem}(h:Wk m){w x:Int}:fO (BI m w x) (fun x=>Wk x.1):=by
  unfold BI
  rw [zR h.small,aH,h.XD,aH]
  by_cases hm:j7 m
  rotate_left
  · rw [bK hm,if_pos (by simp)];exact .ret h
  rw [bB hm,if_neg (by simp),bL,aH]
  by_cases hw:0≤w∧w≤2
  rotate_left
  · rw [bK hw];exact .ret h
  rw [bB hw]
  unfold tK
  obtain⟨hcnt,h3,h9,h1,h2,hsm,hcp,hlo,hsG,hsO⟩:=j7.facts hm
  rw [if_neg (by simp),iU hm.1.1.1 (by omega) (by simp only [maxLen];omega) (by simp only [maxLen];omega),aH]
  by_cases hv:jG m x
  rotate_left
  · rw [bK hv];exact .ret h
  obtain⟨m',e1,_,_,e2⟩:=aDM hm hw hv
  rw [bB hv,if_neg (by simp),dA,if_pos hv.1,aH,e1,aH]
  exact .ret e2.1.wk
theorem aAO{b:List Int}{a w n:Int}(ha:0≤a)(hw:1≤w∧w≤7)(h:a+w≤b.length)(hl:b.length≤1000):fO (gU b a w n) (fun x=>x.length=b.length):=by
  unfold gU
  rw [aO (x:=w - 1) (by omega) (by omega)]
  refine .bind (P:=fun x=>x.length=b.length) (.loop (fun s=>(s.2.2+1).toNat) (fun s=>s.1.length=b.length∧-1≤s.2.2∧s.2.2≤w - 1) ⟨rfl,by (try simp only);omega⟩ ?_) fun x hx=>.ret hx
  rintro⟨l,v,k⟩ ⟨h1,h2,h3⟩
  simp only at h1 h2 h3
  simp only [nQ]
  refine .ite (fun q=>?_) (fun q=>.ret h1)
  have q':=of_decide_eq_true q
  rw [aO (x:=a+k) (by omega) (by omega),aO (x:=k - 1) (by omega) (by omega)]
  refine .bind (.idx (by omega)) fun x _=>.ret ⟨⟨by simpa using h1,by (try simp only);omega⟩,by (try simp only);omega⟩
theorem aND{n w:Int}(hw:1≤w∧w≤7):fO (tX n w) (fun _=>True):=by
  unfold tX
  rw [bL,bB hw,aH,if_neg (by simp)]
  unfold rX
  refine .ite (fun _=>.ret trivial) fun _=>?_
  refine .bind (P:=fun _=>True) (.loop (fun s=>100 - (s.2.2).toNat) (fun s=>(s.2.1.length:Int)=s.2.2∧s.2.2≤w) ⟨rfl,by (try simp only);omega⟩ ?_) ?_
  · rintro⟨x,l,k⟩ ⟨h1,h2⟩
    simp only at h1 h2
    simp only [rW]
    refine .ite (fun q=>?_) (fun q=>.ret trivial)
    have q':=of_decide_eq_true q
    refine .need (by simp;omega) (.ret ?_)
    rw [aO (x:=k+1) (by omega) (by omega)]
    exact⟨⟨by simp;omega,by (try simp only);omega⟩,by (try simp only);omega⟩
  · rintro⟨x,l⟩ _
    simp only [D3,D2]
    exact .ite (fun _=>.ret trivial) fun _=>.ret trivial
theorem aOZ{h:aB}{s:Int}(hcl:0≤aX h s):eI s (aX h s)+4+fC (aX h s)≤384:=by
  have hc2:0≤aX h s∧aX h s≤2:=by
    obtain⟨_,q,e⟩:=rE hcl
    rw [e];exact gK.1 (by omega)
  obtain⟨p,i,p6,hi,es,ec,eo,ep⟩:=zS hcl
  have hgo:=y4 hcl
  have hcl':0≤bQ h p∧bQ h p≤2:=by rw [←ec];exact hc2
  rw [ec] at eo hgo ⊢
  generalize bQ h p=c at hi hcl' eo hgo
  rcases eO hcl' with rfl | rfl | rfl
  · rw [show(bW 0).toNat=4 from rfl] at hi;rw [show(aR 0).toNat=12 from rfl] at eo;rw [show fC 0=8 from rfl];omega
  · rw [show(bW 1).toNat=2 from rfl] at hi;rw [show(aR 1).toNat=20 from rfl] at eo;rw [show fC 1=16 from rfl];omega
  · rw [show(bW 2).toNat=1 from rfl] at hi;rw [show(aR 2).toNat=44 from rfl] at eo;rw [show fC 2=40 from rfl];omega
theorem aNE{m:Mem}(h:Wk m){x a w n:Int}(hw:1≤w∧w≤7):fO (m8 m x a w n) (fun x=>Wk x.1):=by
  unfold m8 DG
  rw [zR h.small,aH,h.XD,aH,bL]
  by_cases hm:j7 m
  rotate_left
  · rw [bK hm,if_pos (by simp)];exact .ret h
  rw [bB hm,if_neg (by simp),bB hw,aH]
  obtain⟨hcnt,h3,h9,h1,h2,hsm,hcp,hlo,hsG,hsO⟩:=j7.facts hm
  have hs:=hm.1.1.1
  unfold pL
  rw [if_neg (by simp),iU hs (by omega) (by simp only [maxLen];omega) (by simp only [maxLen];omega),aH]
  by_cases hv:jG m x
  rotate_left
  · rw [bK hv];exact .ret h
  have hcl:=mX hv.2.1
  obtain⟨hroom,hz⟩:=aLI hcl
  have hgo:=y4 hcl
  rw [bB hv,if_neg (by simp),dA,if_pos hv.1,aH,gE hs,aH,wS,aH,bL,aH,aO (x:=fC (aX m.aB (x % 32)) - 1) (by omega) (by omega)]
  by_cases ha:0≤a∧a≤fC (aX m.aB (x % 32)) - 1
  rotate_left
  · rw [bK ha,if_pos (by simp)];exact .ret h
  rw [bB ha,if_neg (by simp),aH,aO (x:=fC (aX m.aB (x % 32)) - a) (by omega) (by omega)]
  by_cases hb:fC (aX m.aB (x % 32)) - a < w
  · rw [bB hb];exact .ret h
  rw [bK hb]
  unfold pK
  rw [if_neg (by simp),(start_eq hs hcl).1,aH,aH,if_neg (by simp)]
  refine .bind (aND hw) fun t _=>.ite (fun _=>.ret h) fun _=>?_
  have room:eI (x % 32) (aX m.aB (x % 32))+4+fC (aX m.aB (x % 32))≤384:=aOZ hcl
  refine .bind (aAO (a:=aW (eI (x % 32) (aX m.aB (x % 32))+4+a)) (by rw [aO (by omega) (by omega)];omega) hw (by rw [aO (by omega) (by omega)];omega) (by omega)) fun y hy=>.ret ⟨⟨by (try simp only);omega,h.1.2⟩,h.2⟩
noncomputable section
variable {b:List UInt8} {i h:Int} (hc:Cu b i)
include hc
theorem Y5:fO (oK ⟨b,i,h⟩) (fun x=>Cu b x.2.1):=by
  unfold oK
  refine .bind (aAN hc (by omega)) fun x1 h1=>.ite (fun _=>.bind (XC h1 (by decide) (by decide)) fun x ⟨_,h2⟩=>.ret h2) fun _=>.bind (below h1 (by omega)) fun x3 ⟨_,h3⟩=>.bind (below h3 (by omega)) fun x4 ⟨_,h4⟩=>?_
  unfold jC gN
  rw [bL,aH,bL,aH]
  refine .bind (P:=fun _=>True) (.ite (fun _=>.ite (fun _=>.ret trivial) fun _=>.ret trivial) fun _=>.ite (fun _=>.ret trivial) fun _=>.ret trivial) fun x _=>.ret h4
theorem aO0{m:Int}(hm:m≤1000):fO (DO ⟨b,i,h⟩ m) (fun x=>Wk x.1∧Cu b x.2.2.1):=by
  unfold DO zK
  rw [AM,aH]
  unfold oJ q5
  rw [aS (by omega),aS (by omega),aH,aH]
  have h0:Wk ⟨aDQ,⟨List.replicate (3:Int).toNat ⟨[]⟩,List.replicate (9:Int).toNat ⟨[]⟩⟩⟩:=⟨⟨List.length_replicate,rfl⟩,rfl,rfl,by decide⟩
  refine .bind (below hc (by omega)) fun x2 ⟨hx2,h2⟩=>?_
  refine .bind (P:=fun x=>(1≤x.1.length∧x.1.length≤2000)∧Cu b x.2.1∧Wk x.2.2.2) (.loop (fun s=>s.2.1.toNat) (fun s=>(0≤s.2.1∧1≤s.1.length∧(s.1.length:Int)+s.2.1≤1500)∧Cu b s.2.2.1∧Wk s.2.2.2.2) ⟨⟨hx2.1,by simp,by simp;omega⟩,h2,h0⟩ ?_) ?_
  · rintro⟨l,n,i1,h1,m1⟩ ⟨⟨n0,l1,l2⟩,c1,w1⟩
    simp only at n0 l1 l2 c1 w1
    simp only [IF]
    refine .ite (fun q=>?_) (fun q=>.ret ⟨by (try simp only);omega,c1,w1⟩)
    have q':=of_decide_eq_true q
    have nx:∀(l':List Int) (i' h':Int) (m':Mem),l'.length≤l.length+1→1≤l'.length→Cu b i'→Wk m'→fO (mI n l' i' h' m') (XB (fun s'=>((0≤s'.2.1∧1≤s'.1.length∧(s'.1.length:Int)+s'.2.1≤1500)∧Cu b s'.2.2.1∧Wk s'.2.2.2.2)∧s'.2.1.toNat < n.toNat) (fun x=>(1≤x.1.length∧x.1.length≤2000)∧Cu b x.2.1∧Wk x.2.2.2)):=fun l' i' h' m' a1 a2 a3 a4=>by
      unfold mI
      rw [aO (by omega) (by omega)]
      exact .ret ⟨⟨⟨by (try simp only);omega,a2,by (try simp only);omega⟩,a3,a4⟩,by (try simp only);omega⟩
    have body:∀(z:Bool) (i' h':Int),Cu b i'→fO (pY ⟨b,i,h⟩ l n z i' h' m1) (XB (fun s'=>((0≤s'.2.1∧1≤s'.1.length∧(s'.1.length:Int)+s'.2.1≤1500)∧Cu b s'.2.2.1∧Wk s'.2.2.2.2)∧s'.2.1.toNat < n.toNat) (fun x=>(1≤x.1.length∧x.1.length≤2000)∧Cu b x.2.1∧Wk x.2.2.2)):=fun z i' h' c2=>by
      unfold pY B7
      refine .ite (fun _=>?_) (fun _=>?_)
      · exact .bind (below c2 (by omega)) fun x35 ⟨_,c3⟩=>.bind (below c3 (by omega)) fun x36 ⟨hx,c4⟩=>.bind (.idx (by omega)) fun x37 _=>.bind (aOY w1) fun x38 w2=>nx _ _ _ _ (by omega) l1 c4 w2
      · refine .bind (below c2 (by omega)) fun x53 ⟨_,c3⟩=>.bind (below c3 (by omega)) fun x54 ⟨_,c4⟩=>.bind (aNC w1) fun x55 w2=>?_
        unfold B9 B8
        refine .ite (fun _=>.need (by simp;omega) ?_) (fun _=>nx _ _ _ _ (by omega) l1 c4 w2)
        exact .bind (below c4 (by omega)) fun x49 ⟨_,c5⟩=>.bind (below c5 (by omega)) fun x50 ⟨hx,c6⟩=>.bind (below c6 (by omega)) fun x51 ⟨_,c7⟩=>.bind (aNE w2 (by rw [aO (by omega) (by omega)];omega)) fun x52 w3=>nx _ _ _ _ (by simp) (by simp) c7 w3
    exact .bind (aAN c1 (by omega)) fun x56 c2=>.ite (fun _=>body _ _ _ c2) fun _=>body _ _ _ c2
  · rintro⟨l,i1,h1,m1⟩ ⟨⟨l1,l2⟩,c1,w1⟩
    simp only at l1 l2 c1 w1
    simp only [IG,IE,B6]
    exact .bind (below c1 (by omega)) fun x21 ⟨hx,c2⟩=>.bind (.idx (by omega)) fun x22 _=>.ret ⟨w1,c2⟩
omit hc in
theorem Hk.XD{h:aB}(hh:Hk h):uI h=some (decide (LV h)):=JD (by rw [hh.1];simp [maxLen])
omit hc in
theorem aNF{h:aB}(hh:Hk h){c:Int}:fO (F9 h c) (fun x=>Hk x.1∧x.2.length≤4):=by
  unfold F9 yO
  rw [GO (by have:=hh.1;omega) (by have:=hh.2;omega),aH,hh.XD,aH]
  by_cases ho:LV h
  rotate_left
  · rw [bK ho,if_pos (by simp)];exact .ret ⟨hh,by simp⟩
  rw [bB ho,if_neg (by simp),bL,aH]
  by_cases hcl:0≤c∧c≤2
  rotate_left
  · rw [bK hcl];exact .ret ⟨hh,by simp⟩
  rw [bB hcl,if_neg (by simp)]
  have:=jB c
  rcases aAF ho hcl with ⟨e,_⟩ | ⟨p,_,_,e,_⟩
  · rw [e,aH];exact .ret ⟨hh,by simp⟩
  · rw [e,aH];exact .ret ⟨⟨by simp only [CV];exact hh.1,by simpa using hh.2⟩,by simp only [CX];omega⟩
omit hc in
theorem aKQ{h:aB}(hh:Hk h){s g:Int}:fO (DP h s g) (fun x=>Hk x.1):=by
  unfold DP wB GA
  rw [GO (by have:=hh.1;omega) (by have:=hh.2;omega),aH,HH (by rw [hh.1];simp [maxLen]),aH]
  by_cases ho:dM h
  rotate_left
  · rw [bK ho,if_pos (by simp),aH,if_pos (by decide)];exact .ret hh
  rw [bB ho,if_neg (by simp),gE ho,aH,aH,aH]
  refine .ite (fun _=>.ret hh) fun q=>?_
  have hcl:0≤aX h s:=by simpa using q
  have hgo:=y4 hcl
  obtain⟨hroom,_⟩:=aLI hcl
  rw [bL,aH]
  refine .ite (fun _=>.ret hh) fun _=>?_
  rw [lI,aH]
  exact .bind (aAO (by omega) (by omega) (by have:=hh.1;omega) (by have:=hh.1;omega)) fun y hy=>.ret ⟨by have:=hh.1;simp only;omega,hh.2⟩
theorem aO1:fO (DQ ⟨b,i,h⟩) (fun x=>Hk x.1∧Cu b x.2.1):=by
  unfold DQ
  rw [AM,aH]
  refine .bind (below hc (by omega)) fun x2 ⟨hx2,h2⟩=>?_
  refine .bind (P:=fun x=>Cu b x.1∧Hk ⟨x.2.2.1,x.2.2.2⟩) (.loop (fun s=>s.1.toNat) (fun s=>(0≤s.1∧s.1≤10)∧Cu b s.2.1∧Hk ⟨s.2.2.2.1,s.2.2.2.2⟩) ⟨⟨hx2.1,by (try simp only);omega⟩,h2,List.length_replicate,rfl⟩ ?_) fun x hx=>.ret ⟨hx.2,hx.1⟩
  rintro⟨n,i1,h1,B,C⟩ ⟨⟨n0,n1⟩,c1,k1⟩
  simp only at n0 n1 c1 k1
  simp only [IL]
  refine .ite (fun q=>?_) (fun q=>.ret ⟨c1,k1⟩)
  have q':=of_decide_eq_true q
  refine .bind (below c1 (by omega)) fun x48 ⟨_,c2⟩=>.bind (aNF k1) fun x49 ⟨k2,l4⟩=>?_
  unfold CB
  refine .bind (P:=fun x=>Cu b x.1∧Hk ⟨x.2.2.1,x.2.2.2⟩) (.loop (fun s=>100 - s.1.toNat) (fun s=>(0≤s.1∧s.1≤4)∧Cu b s.2.1∧Hk ⟨s.2.2.2.1,s.2.2.2.2⟩) ⟨by simp,c2,k2⟩ ?_) ?_
  · rintro⟨k,i2,h2,B2,C2⟩ ⟨⟨m0,m1⟩,c3,k3⟩
    simp only at m0 m1 c3 k3
    simp only [IJ,wC,CA]
    refine .ite (fun q=>?_) (fun q=>.ret ⟨c3,k3⟩)
    have q':=of_decide_eq_true q
    rw [aO (x:=k+1) (by omega) (by omega)]
    refine .bind (aAN c3 (by omega)) fun x40 c4=>.ite (fun _=>?_) fun _=>.ret ⟨⟨by (try simp only);omega,c4,k3⟩,by (try simp only);omega⟩
    exact .bind (.idx (by omega)) fun x45 _=>.bind (below c4 (by omega)) fun x46 ⟨_,c5⟩=>.bind (aKQ k3) fun x47 k4=>.ret ⟨⟨by (try simp only);omega,c5,k4⟩,by (try simp only);omega⟩
  · rintro⟨i2,h2,B2,C2⟩ ⟨c3,k3⟩
    simp only [IK,II]
    rw [aO (by omega) (by omega)]
    exact .ret ⟨⟨by (try simp only);omega,c3,k3⟩,by (try simp only);omega⟩
theorem aIP:fO (GB ⟨b,i,h⟩) (fun x=>(x.1.Bytes.length≤384∧x.1.Class.length≤7)∧Cu b x.2.1):=by
  unfold GB D9 EA EB jE
  refine .bind (aO1 hc) fun x1 ⟨⟨a1,a2⟩,h1⟩=>.bind (below h1 (by omega)) fun x6 ⟨_,h6⟩=>?_
  refine .ite (fun _=>?_) fun _=>.ite (fun _=>?_) fun _=>.ite (fun _=>?_) fun _=>.ite (fun _=>?_) fun _=>.ite (fun _=>?_) fun _=>?_
  · exact .bind (below h6 (by omega)) fun x10 ⟨hx,c⟩=>.need (by omega) (.ret ⟨⟨by simp;omega,by (try simp only);omega⟩,c⟩)
  · exact .need (by simp;omega) (.ret ⟨⟨by (try simp only);omega,by simp;omega⟩,h6⟩)
  · exact .bind (below h6 (by omega)) fun x14 ⟨hx,c⟩=>.bind (XC c (by decide) (by decide)) fun x15 ⟨_,c2⟩=>.bind (.idx (by omega)) fun _ _=>.ret ⟨⟨by (try simp only);omega,by simp;omega⟩,c2⟩
  · exact .bind (below h6 (by omega)) fun x14 ⟨hx,c⟩=>.bind (XC c (by decide) (by decide)) fun x15 ⟨_,c2⟩=>.bind (.idx (by omega)) fun _ _=>.ret ⟨⟨by simp;omega,by (try simp only);omega⟩,c2⟩
  · exact .bind (below h6 (by omega)) fun x23 ⟨hx,c⟩=>.bind (below c (by omega)) fun x24 ⟨hx2,c2⟩=>.bind (below c2 (by omega)) fun x25 ⟨_,c3⟩=>.bind (.idx (by rw [aO (x:=x23.1 * 64) (by omega) (by omega),aO (by omega) (by omega)];omega)) fun _ _=>.ret ⟨⟨by simp;omega,by (try simp only);omega⟩,c3⟩
  · exact .ret ⟨⟨by (try simp only);omega,by (try simp only);omega⟩,h6⟩
def Lk(n:Nat)(l:aA):Prop:=l.Global.length=3∧l.bD.length=9∧(cS l).length≤n
omit hc in
theorem aO2{n:Nat}(hn:n≤1000){l:aA}(hl:Lk n l){w c s:Int}:fO (J3 l w c s) (fun x=>Lk (n+1) x.1):=by
  obtain⟨a1,a2,a3⟩:=hl
  have hal:=fE l
  have hl':Lk (n+1) l:=⟨a1,a2,by omega⟩
  have hg:∀s∈l.Global,s.aL.length≤1000:=fun s h=>by have:=qG h;omega
  have ho:∀s∈l.bD,s.aL.length≤1000:=fun s h=>by have:=qG h;omega
  unfold J3
  rw [y8 (by omega) (by omega) (fun s h=>by have:=hg s h;omega) (fun s h=>by have:=ho s h;omega),aH,tP (by omega),aH]
  refine .ite (fun _=>.ret hl') fun _=>?_
  unfold jO oA
  rw [bL,aH,bL,aH]
  by_cases hw:0≤w∧w≤2
  rotate_left
  · rw [bK hw,if_pos (by simp),if_pos rfl,aH,if_pos (by decide)];exact .ret hl'
  by_cases hcl:0≤c∧c≤2
  rotate_left
  · rw [bB hw,bK hcl,if_neg (by simp),if_pos (by simp),aH,if_pos (by decide)];exact .ret hl'
  rw [bB hw,bB hcl,if_neg (by simp),if_neg (by simp),aH,aO (x:=w * 3) (by omega) (by omega),aO (by omega) (by omega),if_neg (by simp;omega),bL,aH]
  refine .ite (fun _=>.ret hl') fun _=>?_
  rw [EL (by omega) (by simp only [maxLen];omega) (by simp only [maxLen];omega),aH,y6 (by simp only [maxLen];omega),aH]
  unfold q7
  refine .ite (fun _=>.ret hl') fun _=>?_
  refine .bind (P:=fun x=>Lk (n+1) x) ?_ fun x hx=>.ret hx
  unfold uL vD vF pI
  rw [(zT hw hcl).1,aH]
  have kx:(w * 3+c).toNat < l.bD.length:=by omega
  have ky:c.toNat < l.Global.length:=by omega
  have m1:=ho _ (List.getElem_mem kx)
  have m2:=hg _ (List.getElem_mem ky)
  rw [fB (by omega) (by omega),aH,fB hcl.1 (by omega),aH]
  refine .ite (fun _=>.need (by simp;omega) (.ret ⟨a1,by simpa using a2,?_⟩)) fun _=>.need (by simp;omega) (.ret ⟨by simpa using a1,a2,?_⟩)
  · rw [fE];simp only;rw [xQ kx];simp;omega
  · rw [fE];simp only;rw [xQ ky];simp;omega
theorem aNG:fO (BJ ⟨b,i,h⟩) (fun x=>Lk 40 x.1∧Cu b x.2.1):=by
  unfold BJ oJ q5
  rw [aS (by omega),aS (by omega),aH]
  refine .bind (below hc (by omega)) fun x2 ⟨hx2,h2⟩=>?_
  refine .bind (P:=fun x=>Cu b x.1∧Lk 40 ⟨x.2.2.1,x.2.2.2⟩) (.loop (fun s=>s.1.toNat) (fun s=>(0≤s.1∧s.1≤30)∧Cu b s.2.1∧Lk (40 - s.1.toNat) ⟨s.2.2.2.1,s.2.2.2.2⟩) ⟨⟨hx2.1,by (try simp only);omega⟩,h2,rfl,rfl,by simp [cS,cA]⟩ ?_) fun x hx=>.ret ⟨hx.2,hx.1⟩
  rintro⟨n,i1,h1,G,O⟩ ⟨⟨n0,n1⟩,c1,k1⟩
  simp only at n0 n1 c1 k1
  simp only [G6,AA]
  refine .ite (fun q=>?_) (fun q=>.ret ⟨c1,k1.1,k1.2.1,by have:=k1.2.2;simp only;omega⟩)
  have q':=of_decide_eq_true q
  refine .bind (below c1 (by omega)) fun x21 ⟨_,c2⟩=>.bind (below c2 (by omega)) fun x22 ⟨_,c3⟩=>.bind (below c3 (by omega)) fun x23 ⟨_,c4⟩=>.bind (aO2 (by omega) k1) fun x24 k2=>?_
  rw [aO (by omega) (by omega)]
  exact .ret ⟨⟨by (try simp only);omega,c4,k2.1,k2.2.1,Nat.le_trans k2.2.2 (by (try simp only);omega)⟩,by (try simp only);omega⟩
theorem aEP:fO (GC ⟨b,i,h⟩) (fun x=>(x.1.Global.length≤10∧x.1.bD.length≤10∧(cS x.1).length≤100)∧Cu b x.2.1):=by
  unfold GC EC ED lH
  refine .bind (aNG hc) fun x1 ⟨⟨a1,a2,a3⟩,h1⟩=>.bind (below h1 (by omega)) fun x6 ⟨_,h6⟩=>?_
  have hal:=fE x1.1
  have hg:∀s∈x1.1.Global,s.aL.length≤1000:=fun s h=>by have:=qG h;omega
  refine .ite (fun _=>?_) fun _=>.ite (fun _=>?_) fun _=>.ite (fun _=>?_) fun _=>.ite (fun _=>?_) fun _=>?_
  · refine .need (by omega) (.ret ⟨⟨by simp;omega,by (try simp only);omega,?_⟩,h6⟩)
    have:=RD x1.1.Global (2:Int).toNat
    rw [fE];simp only [List.drop_zero];omega
  · refine .need (by simp;omega) (.ret ⟨⟨by (try simp only);omega,by simp;omega,?_⟩,h6⟩)
    rw [fE];simp only [NI,List.length_append];simp [cA] at hal ⊢;omega
  · refine .bind (below h6 (by omega)) fun x10 ⟨hx,c⟩=>.bind (.idx (by omega)) fun _ _=>.ret ⟨⟨by (try simp only);omega,by simp;omega,?_⟩,c⟩
    have kx:x10.1.toNat < x1.1.bD.length:=by omega
    have e1:=xP kx ⟨[1,2,3]⟩
    have e2:=uS kx
    rw [fE]
    simp only [e1,List.length_append,List.length_cons,List.length_nil]
    rw [e2] at hal
    simp only [List.length_append] at hal
    omega
  · refine .bind (below h6 (by omega)) fun x12 ⟨hx,c⟩=>?_
    have kx:x12.1.toNat < x1.1.Global.length:=by omega
    have m1:=hg _ (List.getElem_mem kx)
    rw [fB hx.1 (by omega),aH]
    refine .bind (XC c (by decide) (by decide)) fun x17 ⟨_,c2⟩=>.need (by simp;omega) (.ret ⟨⟨by simp;omega,by (try simp only);omega,?_⟩,c2⟩)
    rw [fE];simp only;rw [xQ kx];simp;omega
  · exact .ret ⟨⟨by (try simp only);omega,by (try simp only);omega,Nat.le_trans a3 (by omega)⟩,h6⟩
theorem aKR:fO (GD ⟨b,i,h⟩) (fun x=>mQ x.1∧Cu b x.2.2.1):=by
  unfold GD
  refine .bind (aO0 hc (by omega)) fun x1 ⟨w1,h1⟩=>.bind (aAN h1 (by omega)) fun x12 h2=>?_
  have key:∀(v i' h':Int),Cu b i'→fO (sE ⟨b,i,h⟩ v i' h' x1.1) (fun x=>mQ x.1∧Cu b x.2.2.1):=fun v i' h' c=>by
    unfold sE sD
    obtain⟨⟨p1,p2⟩,p3,p4,p5⟩:=w1
    refine .bind (below c (by omega)) fun x9 ⟨_,c2⟩=>.ite (fun _=>?_) fun _=>.ite (fun _=>?_) fun _=>.ret ⟨show mQ x1.1 from ⟨by omega,by omega,by omega,by omega,by omega⟩,c2⟩
    · exact .bind (aIP c2) fun x10 ⟨⟨a1,a2⟩,c3⟩=>.ret ⟨⟨by (try simp only);omega,by (try simp only);omega,by (try simp only);omega,by (try simp only);omega,by (try simp only);omega⟩,c3⟩
    · exact .bind (aEP c2) fun x10 ⟨⟨a1,a2,a3⟩,c3⟩=>.ret ⟨show mQ ⟨x1.1.aB,x10.1⟩ from ⟨by (try simp only);omega,by (try simp only);omega,by (try simp only);omega,by (try simp only);omega,by (try simp only);omega⟩,c3⟩
  exact .ite (fun _=>.bind (Y5 h2) fun x13 h3=>key _ _ _ h3) fun _=>key _ _ _ h2
end
end Go.Gv
end
noncomputable section
namespace Go.Gv
def NP(w:Int):Nat→aG→Sub→aG×Sub
  | 0,b,s=>(b,s)
  | n+1,b,s=>if s.dV then (b,s) else NP w n (C1 b w s).1 (C1 b w s).2
def RI(b:aG)(w:Int)(s:Sub):aG×Sub:=if fL b∧0≤w∧w≤2 then NP w 200 b s else (b,s)
theorem aO3{w:Int}(hw:0≤w∧w≤2):∀d k:Nat,k+d=200→∀(s:Sub) (b:aG),fL b→∃s' b',loop (pX w) ((k:Int),s,b)=some (s',b')∧fL b'
  | 0,k,hk,s,b,hb=>⟨s,b,bP (by simp only [pX,mF];rw [if_neg (by simp;omega)];rfl),hb⟩
  | d + 1, k, hk, s, b, hb => by
    cases hd:s.dV with
    | true=>exact⟨s,b,bP (by simp only [pX,mF,hd];rw [if_pos (by simp;omega)];rfl),hb⟩
    | false =>
      obtain⟨x,y,e1,_,hx⟩:=step_eq hb hb.small hw s
      obtain⟨s',b',e3,h⟩:=aO3 hw d (k+1) (by omega) y x hx
      refine⟨s',b',?_,h⟩
      rw [bT (s':=(((k+1:Nat):Int),y,x)) (by
        simp only [pX,mF,hd]
        rw [if_pos (by simp;omega),wX,if_pos rfl,e1,aO (by omega) (by omega)];rfl)]
      exact e3
theorem aDS{b:aG}(hb:fL b){w:Int}(hw:0≤w∧w≤2)(s:Sub):∃r,lB b w s=some r∧fL r.1:=by
  obtain⟨s',b',e,h⟩:=aO3 hw 200 0 rfl s b hb
  rw [show((0:Nat):Int)=0 from rfl] at e
  refine⟨(b',s'),?_,h⟩
  unfold lB wA
  rw [YU hb.small,aH,wV hb.small.fits,aH,bL,aH,bB hb,bB hw,if_neg (by simp),if_neg (by simp),e];rfl
noncomputable section
variable {b:List UInt8} {i h:Int} (hc:Cu b i)
include hc
theorem aO4{m:Int}(hm:m≤1000):fO (BG ⟨b,i,h⟩ m) (fun x=>fL x.1∧Cu b x.2.2.1):=by
  unfold BG
  rw [aB2.1,aH]
  refine .bind (below hc (by omega)) fun x2 ⟨hx2,h2⟩=>?_
  refine .bind (P:=fun x=>(1≤x.1.length∧x.1.length≤2000)∧Cu b x.2.1∧fL x.2.2.2) (.loop (fun s=>s.2.1.toNat) (fun s=>(0≤s.2.1∧1≤s.1.length∧(s.1.length:Int)+s.2.1≤1500)∧Cu b s.2.2.1∧fL s.2.2.2.2) ⟨⟨hx2.1,by simp,by simp;omega⟩,h2,aIM⟩ ?_) ?_
  · rintro⟨l,n,i1,h1,B⟩ ⟨⟨n0,l1,l2⟩,c1,b1⟩
    simp only at n0 l1 l2 c1 b1
    simp only [G4]
    refine .ite (fun q=>?_) (fun q=>.ret ⟨by (try simp only);omega,c1,b1⟩)
    have q':=of_decide_eq_true q
    have nx:∀(l':List Int) (i' h':Int) (B':aG),l'.length≤l.length+1→1≤l'.length→Cu b i'→fL B'→fO (dJ n l' i' h' B') (XB (fun s'=>((0≤s'.2.1∧1≤s'.1.length∧(s'.1.length:Int)+s'.2.1≤1500)∧Cu b s'.2.2.1∧fL s'.2.2.2.2)∧s'.2.1.toNat < n.toNat) (fun x=>(1≤x.1.length∧x.1.length≤2000)∧Cu b x.2.1∧fL x.2.2.2)):=fun l' i' h' B' a1 a2 a3 a4=>by
      unfold dJ
      rw [aO (by omega) (by omega)]
      exact .ret ⟨⟨⟨by (try simp only);omega,a2,by (try simp only);omega⟩,a3,a4⟩,by (try simp only);omega⟩
    refine .bind (below c1 (by omega)) fun w ⟨hw,c2⟩=>.bind (below c2 (by omega)) fun x28 ⟨hx,c3⟩=>.bind (.idx (by omega)) fun x29 _=>.bind (below c3 (by omega)) fun x30 ⟨_,c4⟩=>?_
    have hwr:0≤w.1∧w.1≤2:=by omega
    have EV:∀(s:Sub) (f:aG×Sub→Option (Step ((List Int)×Int×Int×Int×aG) ((List Int)×Int×Int×aG))),(∀r,f r=dJ n l x30.2.1 x30.2.2 r.1)→fO ((lB B w.1 s).bind f) _:=fun s f hf=>by
      obtain⟨r,e,hb⟩:=aDS b1 hwr s
      rw [e,aH,hf]
      exact nx l _ _ _ (by omega) l1 c4 hb
    have f9:∀z,fO (nX ⟨b,i,h⟩ l n w x29 x30 z B) _:=fun z=>by
      unfold nX xL xM xN
      simp only [kU,aH]
      refine .ite (fun _=>EV _ _ fun _=>rfl) fun _=>.ite (fun _=>EV _ _ fun _=>rfl) fun _=>.ite (fun _=>EV _ _ fun _=>rfl) fun _=>.ite (fun _=>?_) fun _=>?_
      · obtain⟨r,e1,_,e2,e3⟩:=aAH b1.1.2.1 hwr
        rw [e1,aH]
        exact nx l _ _ _ (by omega) l1 c4 (b1.clock e2 (by omega))
      · obtain⟨r,e1,_,e2⟩:=UN b1.1.2.2.2 hwr x29
        rw [e1,aH]
        refine .bind (aAN c4 (by omega)) fun x65 c5=>.ite (fun _=>?_) fun _=>nx l _ _ _ (by omega) l1 c5 (b1.haz e2)
        obtain⟨r',f1,_,f2⟩:=aID e2 hwr
        rw [f1,aH]
        exact nx l _ _ _ (by omega) l1 c5 (b1.haz f2)
    have f7:∀z,fO (nY ⟨b,i,h⟩ l n w x29 x30 z B) _:=fun z=>by
      unfold nY z9
      simp only [kU,aH]
      exact .ite (fun _=>EV _ _ fun _=>rfl) fun _=>.ite (fun _=>f9 _) fun _=>f9 _
    have f4:∀z,fO (iT ⟨b,i,h⟩ l n w x29 x30 z B) _:=fun z=>by
      unfold iT
      refine .ite (fun _=>?_) fun _=>.ite (fun _=>f7 _) fun _=>f7 _
      refine .bind (below c4 (by omega)) fun x44 ⟨_,c5⟩=>?_
      simp only [kU,aH]
      obtain⟨r,er,b2⟩:=aDS b1 hwr ⟨1,aW (1+x44.1),0,0,0,0,0,0,0,false⟩
      rw [er,aH]
      unfold z8 z7
      refine .ite (fun _=>.need (by simp;omega) (.bind (below c5 (by omega)) fun x42 ⟨hv,c6⟩=>?_)) fun _=>nx l _ _ _ (by omega) l1 c5 b2
      obtain⟨y,c,e1,_,e2,_⟩:=aBY b2.1.1 (h:=r.2.Out) (n:=x42.1) (by omega)
      rw [e1,aH]
      exact nx _ _ _ _ (by simp) (by simp) c6 (b2.mem e2)
    exact .ite (fun _=>f4 _) fun _=>.ite (fun _=>f4 _) fun _=>.ite (fun _=>f4 _) fun _=>f4 _
  · rintro⟨l,i1,h1,B⟩ ⟨⟨l1,l2⟩,c1,b1⟩
    simp only at l1 l2 c1 b1
    simp only [G5,G3,z6]
    exact .bind (below c1 (by omega)) fun x21 ⟨hx,c2⟩=>.bind (.idx (by omega)) fun x22 _=>.ret ⟨b1,c2⟩
theorem aNH:fO (yP ⟨b,i,h⟩) (fun x=>EN x.1∧Cu b x.2.1):=by
  unfold yP sB
  rw [aS (by omega),aH]
  refine .bind (below hc (by omega)) fun x2 ⟨hx2,h2⟩=>?_
  refine .bind (P:=fun x=>Cu b x.1∧EN ⟨x.2.2.1,x.2.2.2⟩) (.loop (fun s=>s.1.toNat) (fun s=>0≤s.1∧s.1≤100∧Cu b s.2.1∧EN ⟨s.2.2.2.1,s.2.2.2.2⟩) ⟨hx2.1,by (try simp only);omega,h2,of_decide_eq_true (by kernel_rfl)⟩ ?_) fun x hx=>.ret ⟨hx.2,hx.1⟩
  rintro⟨n,i1,h1,E,P⟩ ⟨n0,n1,c1,k1⟩
  simp only at n0 n1 c1 k1
  simp only [FA,q8,jN]
  refine .ite (fun q=>?_) (fun q=>.ret ⟨c1,k1⟩)
  have q':=of_decide_eq_true q
  rw [aO (by omega) (by omega)]
  refine .bind (below c1 (by omega)) fun w ⟨hw,c2⟩=>.bind (below c2 (by omega)) fun x22 ⟨_,c3⟩=>?_
  have hwr:0≤w.1∧w.1≤2:=by omega
  obtain⟨r1,e1,_,⟨d1,_⟩,_⟩:=aAD k1 hwr E
  obtain⟨r2,e2,_,d2,_⟩:=aAH k1 hwr
  obtain⟨r3,e3,_,d3,_⟩:=W2 k1 hwr E
  obtain⟨r4,e4,_,d4,_⟩:=aDJ k1 E
  rw [e1,e2,e3,e4]
  simp only [aH]
  have fin:∀r:aK,EN r→fO (some (Step.next (n - 1,x22.2.1,x22.2.2,r.aI,r.bM):Step (Int×Int×Int×Int×(List gQ)) (Int×Int×Int×(List gQ)))) (XB (fun s'=>(0≤s'.1∧s'.1≤100∧Cu b s'.2.1∧EN ⟨s'.2.2.2.1,s'.2.2.2.2⟩)∧s'.1.toNat < n.toNat) (fun x=>Cu b x.1∧EN ⟨x.2.2.1,x.2.2.2⟩)):=fun r hr=>.ret ⟨⟨by (try simp only);omega,by (try simp only);omega,c3,hr⟩,by (try simp only);omega⟩
  exact .ite (fun _=>fin _ d1) fun _=>.ite (fun _=>fin _ d2) fun _=>.ite (fun _=>.ite (fun _=>fin _ d3) fun _=>fin _ d4) fun _=>.ite (fun _=>fin _ d3) fun _=>fin _ d4
theorem aEQ:fO (DR ⟨b,i,h⟩) (fun x=>x.1.bM.length≤3∧Cu b x.2.1):=by
  unfold DR fV
  refine .bind (aNH hc) fun x1 ⟨k1,h1⟩=>.bind (below h1 (by omega)) fun x2 ⟨hx,h2⟩=>.bind (below h2 (by omega)) fun x7 ⟨_,h7⟩=>?_
  have h3:=k1.2.1
  refine .ite (fun _=>?_) fun _=>.ite (fun _=>?_) fun _=>.ite (fun _=>?_) fun _=>.ite (fun _=>?_) fun _=>.ite (fun _=>?_) fun _=>.ite (fun _=>?_) fun _=>?_
  · exact .bind (XC h7 (by decide) (by decide)) fun x8 ⟨_,c⟩=>.ret ⟨by (try simp only);omega,c⟩
  · exact .need (by omega) (.ret ⟨by simp;omega,h7⟩)
  · exact .bind (.idx (by omega)) fun _ _=>.ret ⟨by simp;omega,h7⟩
  · exact .bind (.idx (by omega)) fun _ _=>.ret ⟨by simp;omega,h7⟩
  · exact .bind (.idx (by omega)) fun _ _=>.ret ⟨by simp;omega,h7⟩
  · exact .bind (.idx (by omega)) fun _ _=>.ret ⟨by simp;omega,h7⟩
  · exact .ret ⟨by (try simp only);omega,h7⟩
def Rk(l:List aN):Prop:=l.length=3∧(a9 l).length≤24
omit hc in
theorem Rk.rows{l:List aN}(hl:Rk l):∀s∈l,s.Rows.length≤24:=fun s hs=>by have:=FJ hs;have:=hl.2;omega
omit hc in
theorem aKS{l:List aN}(hl:Rk l){w x e:Int}:fO (yQ l w x e) (fun x=>Rk x.1):=by
  have hr:=hl.rows
  obtain⟨a1,a2⟩:=hl
  have hcp:=LA (l:=l) (by omega) (fun s h=>by have:=hr s h;omega)
  unfold yQ
  rw [hcp,aH,AJ (by omega) (by simp only [maxLen];omega),aH]
  unfold q9
  refine .ite (fun _=>.ret ⟨a1,a2⟩) fun _=>?_
  rw [bL,aH]
  by_cases hw:0≤w∧w≤2
  rotate_left
  · rw [bK hw];exact .ret ⟨a1,a2⟩
  have kx:w.toNat < l.length:=by omega
  have hm:=hr _ (List.getElem_mem kx)
  have hlen:(a9 (l.set w.toNat ⟨l[w.toNat].Rows ++ [⟨x,e⟩]⟩)).length≤1000:=by
    rw [uR kx]
    rw [qH kx] at a2
    simp only [List.length_append,List.length_cons,List.length_nil] at a2 ⊢
    omega
  rw [bB hw,if_neg (by simp),fB hw.1 (by omega),aH,aS (by simp;omega),AJ (by omega) (by simp only [List.length_set,maxLen];omega),aH]
  by_cases ho:lK (l.set w.toNat ⟨l[w.toNat].Rows ++ [⟨x,e⟩]⟩)
  · rw [bB ho,if_neg (by simp)];exact .ret ⟨ho.1,ho.2.1⟩
  · rw [bK ho,if_pos (by simp),hcp,aH];exact .ret ⟨a1,a2⟩
theorem aNI:fO (yR ⟨b,i,h⟩) (fun x=>Rk x.1∧Cu b x.2.1):=by
  unfold yR sC
  rw [aS (by omega),aH]
  refine .bind (below hc (by omega)) fun x2 ⟨hx2,h2⟩=>?_
  refine .bind (P:=fun x=>Rk x.1∧Cu b x.2.1) (.loop (fun s=>s.2.1.toNat) (fun s=>(0≤s.2.1∧s.2.1≤100)∧Cu b s.2.2.1∧Rk s.1) ⟨⟨hx2.1,by (try simp only);omega⟩,h2,rfl,by simp [a9]⟩ ?_) fun x hx=>.ret hx
  rintro⟨l,n,i1,h1⟩ ⟨⟨n0,n1⟩,c1,k1⟩
  simp only at n0 n1 c1 k1
  simp only [FB]
  refine .ite (fun q=>?_) (fun q=>.ret ⟨k1,c1⟩)
  have q':=of_decide_eq_true q
  rw [aO (by omega) (by omega)]
  exact .bind (below c1 (by omega)) fun x14 ⟨_,c2⟩=>.bind (Y5 c2) fun x15 c3=>.bind (below c3 (by omega)) fun x16 ⟨_,c4⟩=>.bind (aKS k1) fun x17 k2=>.ret ⟨⟨by (try simp only);omega,c4,k2⟩,by (try simp only);omega⟩
theorem aER:fO (DS ⟨b,i,h⟩) (fun x=>(x.1.length≤3∧(a9 x.1).length≤100)∧Cu b x.2.1):=by
  unfold DS CC mJ
  refine .bind (aNI hc) fun x1 ⟨k1,h1⟩=>.bind (below h1 (by omega)) fun x5 ⟨_,h5⟩=>?_
  have hrow:=Rk.rows k1
  obtain⟨a1,a2⟩:=k1
  have more:∀(k:Nat) (hk:k < x1.1.length) (r:List bJ),r.length≤4→(a9 (x1.1.set k ⟨x1.1[k].Rows++r⟩)).length≤100:=fun k hk r hr=>by
    rw [uR hk]
    rw [qH hk] at a2
    simp only [List.length_append] at a2 ⊢
    omega
  refine .ite (fun _=>?_) fun _=>.ite (fun _=>?_) fun _=>.ite (fun _=>?_) fun _=>.ite (fun _=>?_) fun _=>?_
  · refine .need (by omega) (.ret ⟨⟨by simp;omega,?_⟩,h5⟩)
    have:=NF x1.1 (1:Int).toNat
    simp only [List.drop_zero];omega
  · have hm:=hrow _ (List.getElem_mem (show 0 < x1.1.length by omega))
    rw [show idx x1.1 0=some x1.1[0] from aV (k:=0) (by omega),aH]
    exact .need (by simp;omega) (.ret ⟨⟨by simp;omega,more 0 (by omega) _ (by simp)⟩,h5⟩)
  · have hm:=hrow _ (List.getElem_mem (show 1 < x1.1.length by omega))
    rw [show idx x1.1 1=some x1.1[1] from aV (k:=1) (by omega),aH]
    exact .bind (Y5 h5) fun x11 c=>.need (by simp;omega) (.ret ⟨⟨by simp;omega,more 1 (by omega) _ (by simp)⟩,c⟩)
  · have hm:=hrow _ (List.getElem_mem (show 2 < x1.1.length by omega))
    rw [show idx x1.1 2=some x1.1[2] from aV (k:=2) (by omega),aH]
    exact .need (by simp;omega) (.ret ⟨⟨by simp;omega,more 2 (by omega) _ (by simp)⟩,h5⟩)
  · exact .ret ⟨⟨by (try simp only);omega,by (try simp only);omega⟩,h5⟩
theorem aQC:fO (DT ⟨b,i,h⟩) (fun x=>x.1.length≤3∧Cu b x.2.1):=by
  unfold DT zL
  rw [aS (by omega),aH]
  refine .bind (below hc (by omega)) fun x2 ⟨hx2,h2⟩=>?_
  refine .bind (P:=fun x=>CT x.1∧Cu b x.2.1) (.loop (fun s=>s.2.1.toNat) (fun s=>(0≤s.2.1∧s.2.1≤100)∧Cu b s.2.2.1∧CT s.1) ⟨⟨hx2.1,by (try simp only);omega⟩,h2,of_decide_eq_true (by kernel_rfl)⟩ ?_) ?_
  · rintro⟨l,n,i1,h1⟩ ⟨⟨n0,n1⟩,c1,k1⟩
    simp only at n0 n1 c1 k1
    simp only [IN]
    refine .ite (fun q=>?_) (fun q=>.ret ⟨k1,c1⟩)
    have q':=of_decide_eq_true q
    rw [aO (x:=n - 1) (by omega) (by omega)]
    refine .bind (below c1 (by omega)) fun w ⟨hw,c2⟩=>.bind (below c2 (by omega)) fun x22 ⟨_,c3⟩=>.bind (below c3 (by omega)) fun x23 ⟨_,c4⟩=>?_
    unfold jC gN
    rw [bL,aH,bL,aH]
    refine .bind (P:=fun _=>True) (.ite (fun _=>.ite (fun _=>.ret trivial) fun _=>.ret trivial) fun _=>.ite (fun _=>.ret trivial) fun _=>.ret trivial) fun x _=>?_
    obtain⟨r,e1,_,e2⟩:=UN k1 (w:=w.1) (by omega) x
    rw [e1,aH]
    exact .ret ⟨⟨by (try simp only);omega,c4,e2⟩,by (try simp only);omega⟩
  · rintro⟨l,i1,h1⟩ ⟨k1,c1⟩
    simp only at k1 c1
    have h3:=k1.1
    simp only [IP,IM,wD]
    refine .bind (below c1 (by omega)) fun x17 ⟨_,c2⟩=>.ite (fun _=>.need (by omega) (.ret ⟨by simp;omega,c2⟩)) fun _=>.ite (fun _=>?_) fun _=>.ret ⟨by (try simp only);omega,c2⟩
    exact .bind (below c2 (by omega)) fun x18 ⟨hx,c3⟩=>.bind (XC c3 (by decide) (by decide)) fun x19 ⟨_,c4⟩=>.bind (.idx (by omega)) fun _ _=>.ret ⟨by simp;omega,c4⟩
theorem aIQ:fO (DU ⟨b,i,h⟩) (fun x=>xO x.1∧Cu b x.2.2.1):=by
  unfold DU jT
  refine .bind (aO4 hc (by omega)) fun x1 ⟨b1,h1⟩=>.bind (below h1 (by omega)) fun x5 ⟨_,h5⟩=>?_
  have hs:=b1.small
  obtain⟨s1,s2,s3,s4,s5⟩:=hs
  refine .ite (fun _=>?_) fun _=>.ite (fun _=>?_) fun _=>.ite (fun _=>?_) fun _=>.ite (fun _=>?_) fun _=>.ret ⟨⟨s1,s2,s3,s4,s5⟩,h5⟩
  · exact .bind (aKR h5) fun x6 ⟨m,c⟩=>.ret ⟨⟨m,s2,s3,s4,s5⟩,c⟩
  · exact .bind (aEQ h5) fun x6 ⟨m,c⟩=>.ret ⟨⟨s1,by (try simp only);omega,s3,s4,s5⟩,c⟩
  · exact .bind (aER h5) fun x6 ⟨⟨m1,m2⟩,c⟩=>.ret ⟨⟨s1,s2,by (try simp only);omega,by (try simp only);omega,s5⟩,c⟩
  · exact .bind (aQC h5) fun x6 ⟨m,c⟩=>.ret ⟨⟨s1,s2,s3,s4,by (try simp only);omega⟩,c⟩
end
theorem aNJ{code:List UInt8}(hl:code.length≤1048576):fO (wF code) xO:=by
  unfold wF
  exact .bind (aQB hl) fun x1 h1=>.bind (aIQ h1) fun x2 ⟨h2,_⟩=>.ret h2
end Go.Gv
end
noncomputable section
namespace Go.Gv
def C0(p:Nat→Bool)(n:Nat):Nat:=((List.range n).filter p).length
theorem aES(p:Nat→Bool)(n:Nat):C0 p (n+1)=C0 p n+if p n then 1 else 0:=by
  unfold C0
  rw [List.range_succ,List.filter_append,List.length_append]
  cases h:p n <;> simp [List.filter,h]
theorem L5{p q:Nat→Bool}{n:Nat}(h:∀i,i < n→p i=q i):C0 p n=C0 q n:=by
  unfold C0
  rw [List.filter_congr fun i hi=>h i (List.mem_range.1 hi)]
theorem L6:∀{l m:List Int},l.Nodup→(∀x∈l,x∈m)→l.length≤m.length
  | [],_,_,_=>Nat.zero_le _
  | a :: t, m, hn, h => by
    rw [List.nodup_cons] at hn
    have ha:a∈m:=h a (List.mem_cons_self ..)
    have ih:=L6 (l:=t) (m:=m.erase a) hn.2 (fun x hx=>(List.mem_erase_of_ne (fun e:x=a=>hn.1 (by rw [←e];exact hx))).2 (h x (List.mem_cons_of_mem _ hx)))
    have:=List.length_erase_of_mem ha
    have hp:=List.length_pos_of_mem ha
    simp only [List.length_cons];omega
theorem aET{p:Nat→Bool}{n:Nat}{l:List Int}(hn:l.Nodup)(hr:∀x∈l,0≤x∧x < (n:Int))(hp:∀i:Nat,i < n→(p i=true↔(i:Int)∈l)):C0 p n=l.length:=by
  have e:C0 p n=(((List.range n).filter p).map (fun i:Nat=>(i:Int))).length:=by simp [C0]
  have nd:(((List.range n).filter p).map (fun i:Nat=>(i:Int))).Nodup:=by
    rw [List.nodup_iff_pairwise_ne]
    refine List.Pairwise.map (R:=fun a b:Nat=>a≠b) _ (fun a b h=>by omega) ?_
    exact List.Pairwise.filter _ (List.nodup_iff_pairwise_ne.1 List.nodup_range)
  have a:=L6 (m:=l) nd (fun x hx=>by
    obtain⟨i,hi,rfl⟩:=List.mem_map.1 hx
    obtain⟨h1,h2⟩:=List.mem_filter.1 hi
    exact(hp i (List.mem_range.1 h1)).1 h2)
  have b:=L6 (l:=l) (m:=((List.range n).filter p).map (fun i:Nat=>(i:Int))) hn (fun x hx=>by
    have:=hr x hx
    refine List.mem_map.2 ⟨x.toNat,List.mem_filter.2 ⟨List.mem_range.2 (by omega),(hp _ (by omega)).2 (by rw [Int.toNat_of_nonneg this.1];exact hx)⟩,by omega⟩)
  omega
theorem aEU(b:aG)(k:Nat):∀j:Nat,j < 5→(kB b k).getD j 0=(C0 (fun i=>decide (eS b i=(j:Int))) k:Int):=by
  induction k with
  | zero=>intro j hj;simp only [kB,C0,List.range_zero,List.filter_nil,List.length_nil,List.getD_eq_getElem?_getD,List.getElem?_replicate,if_pos hj];rfl
  | succ k ih =>
    intro j hj
    have hr:=UQ b k
    have hl:=L4 b k
    rw [aES]
    simp only [kB,List.getD_eq_getElem?_getD,List.getElem?_set]
    have ihj:=ih j hj
    simp only [List.getD_eq_getElem?_getD] at ihj
    by_cases q:eS b k=(j:Int)
    · have q':(eS b k).toNat=j:=by omega
      rw [q',if_pos rfl,if_pos (by omega),bB q,if_pos rfl,Option.getD_some,ihj];omega
    · rw [if_neg (by omega),bK q,if_neg (by simp),ihj];omega
noncomputable section
variable {b:aG} (hb:fL b)
include hb
theorem UT(s:Int):FK b.aP s↔s∈(a9 b.aP).map gL:=by
  unfold FK gL
  constructor
  · rintro⟨r,h1,_,h3⟩;exact List.mem_map.2 ⟨r,h1,h3⟩
  · intro h;obtain⟨r,h1,h2⟩:=List.mem_map.1 h;exact⟨r,h1,(hb.1.2.2.1.2.2.1 r h1).1,h2⟩
theorem O6:C0 (fun i=>decide (eS b i=3)) 24=(a9 b.aP).length:=by
  have hL:=hb.1.2.2.1
  rw [aET (l:=(a9 b.aP).map gL) hL.2.2.2,List.length_map]
  · intro x hx
    obtain⟨r,h1,rfl⟩:=List.mem_map.1 hx
    have:=(hL.2.2.1 r h1).1
    unfold mU at this;unfold gL;omega
  · intro i hi
    rw [decide_eq_true_iff,←UT hb]
    unfold eS
    have hrng:=LZ b.Mem i
    by_cases q:dX b.Mem i=3
    · rw [if_pos q]
      by_cases r:FK b.aP i
      · simp [r]
      · simp [r]
    · rw [if_neg q]
      refine⟨fun h=>absurd h q,fun h=>?_⟩
      obtain⟨r,h1,h2,h3⟩:=h
      have:=(hb.2 r h1).1.2.1
      rw [h3] at this;exact this
theorem UU:C0 (fun i=>decide (eS b i=0)) 24=C0 (fun i=>decide (aX b.Mem.aB i < 0)) 24:=by
  refine L5 fun i _=>?_
  rw [Bool.eq_iff_iff,decide_eq_true_iff,decide_eq_true_iff]
  unfold eS dX
  by_cases q1:aX b.Mem.aB i < 0
  · simp [q1]
  · simp only [if_neg q1]
    refine⟨fun h=>?_,fun h=>absurd h q1⟩
    exfalso
    split at h
    · split at h <;> omega
    · split at h
      · omega
      · split at h <;> omega
end
end Go.Gv
end
noncomputable section
namespace Go.Gv
theorem aEV{b:aG}(hb:fL b){w:Int}(hw:0≤w∧w≤2)(s:Sub):lG s b w=some ((C1 b w s).2,(C1 b w s).1):=by
  obtain⟨x,y,e1,e2,h⟩:=step_eq hb hb.small hw s
  rw [aDO hb hw] at e1
  injection e1 with e1
  rw [e2,e1]
theorem NQ{w:Int}{s:Sub}(h:s.dV=true):∀d k:Nat,k+d=200→∀b,loop (jU w) ((k:Int),s,b)=some (s,b)
  | 0,k,hk,b=>bP (by simp only [jU];rw [if_neg (by simp;omega)])
  | d + 1, k, hk, b => by
    rw [bT (s':=(((k+1:Nat):Int),s,b)) (by
      simp only [jU]
      rw [if_pos (by simp;omega),show lG s b w=some (s,b) by unfold lG;rw [if_pos h],aO (by omega) (by omega)];rfl)]
    exact NQ h d (k+1) (by omega) b
theorem XE{w:Int}{s:Sub}(h:s.dV=true)(n:Nat)(b:aG):NP w n b s=(b,s):=by
  cases n with
  | zero=>rfl
  | succ n=>rw [NP,if_pos h]
theorem XF{w:Int}{s:Sub}(h:s.dV=false)(n:Nat)(b:aG):NP w (n+1) b s=NP w n (C1 b w s).1 (C1 b w s).2:=by rw [NP,if_neg (by simp [h])]
theorem UW{w:Int}(hw:0≤w∧w≤2):∀d k:Nat,k+d=200→∀(s:Sub) (b:aG),fL b→loop (jU w) ((k:Int),s,b)=some ((NP w d b s).2,(NP w d b s).1)
  | 0, k, hk, s, b, hb => by
    apply bP
    simp only [jU]
    rw [if_neg (by simp;omega)];rfl
  | d + 1, k, hk, s, b, hb => by
    cases hd:s.dV with
    | true=>rw [XE hd,NQ hd (d+1) k hk]
    | false =>
      rw [XF hd,bT (s':=(((k+1:Nat):Int),(C1 b w s).2,(C1 b w s).1))]
      · exact UW hw d (k+1) (by omega) _ _ (aDP hb hw s)
      · simp only [jU]
        rw [if_pos (by simp;omega),aEV hb hw,aH,aO (by omega) (by omega)];rfl
theorem aB4{b:aG}(hs:xO b)(w:Int)(s:Sub):DV b w s=some (RI b w s):=by
  unfold DV RI wG
  rw [YV hs,aH,UB hs.fits,aH,iC,aH]
  by_cases hb:fL b
  · by_cases hw:0≤w∧w≤2
    · rw [bB hb,bB hw,if_neg (by simp),if_neg (by simp),if_pos ⟨hb,hw⟩]
      have:=UW hw 200 0 rfl s b hb
      rw [show((0:Nat):Int)=0 from rfl] at this
      rw [this];rfl
    · rw [bB hb,bK hw,if_neg (by simp),if_pos (by simp),if_neg (fun q=>hw q.2)]
  · rw [bK hb,if_pos (by simp),if_pos rfl,if_neg (fun q=>hb q.1)]
theorem aO5{code:List UInt8}(hl:code.length≤1048576){i:Int}(hi:0≤i∧i≤1000):fO (RB code i) (fun x=>0≤x∧x≤255):=by
  unfold RB
  refine .ite (fun q=>?_) fun q=>?_
  · have q':=of_decide_eq_true q
    exact .bind (.idx ⟨hi.1,q'⟩) fun x _=>.ret (by have:=x.toNat_lt;omega)
  · rw [aO (x:=i * 37) (by omega) (by omega),aO (x:=(code.length:Int) * 11) (by omega) (by omega),aO (by omega) (by omega)]
    refine .ret ?_
    rw [n7 (by omega)];omega
theorem aEW{x:Int}(h:0≤x∧x≤255):0≤Int.tmod x 3∧Int.tmod x 3≤2:=by rw [n7 h.1];omega
end Go.Gv
end
noncomputable section
namespace Go.Gv
def aO6(c:aK)(k:Nat):Prop:=((lC c k).On=true∧(lC c k).eR=false)∧(lC c k).aI < c.aI
instance (c:aK) (k:Nat):Decidable (aO6 c k):=by unfold aO6;infer_instance
def aO7(c:aK)(k:Nat):Prop:=(lC c k).On=true∧(lC c k).eR=false
instance (c:aK) (k:Nat):Decidable (aO7 c k):=by unfold aO7;infer_instance
end Go.Gv
end
noncomputable section
set_option maxRecDepth 20000
namespace Go.Gv
noncomputable section
variable {b:List UInt8} {i h:Int} (hc:Cu b i)
include hc
end
def aQD(w:Int)(I:aG→Sub→Nat→Prop):Prop:=∀b s m,fL b→s.dV=false→I b s m→1≤m∧((C1 b w s).2.dV=true∨((C1 b w s).2.dV=false∧I (C1 b w s).1 (C1 b w s).2 (m - 1)))
def I4(w:Int)(b:aG)(s:Sub)(m:Nat):Prop:=s.Kind=4∧(s.Pc=0∧2+5 * (bY b.aP w).length≤m∨s.Pc=1∧0≤s.Row∧1+5 * ((bY b.aP w).length - s.Row.toNat)≤m ∨
  s.Pc=2∧(0≤s.B∧s.B≤2)∧AT (bY b.aP w) s∧5 * ((bY b.aP w).length - s.Row.toNat)≤m+s.B∨s.Pc=3∧AT (bY b.aP w) s∧5 * ((bY b.aP w).length - s.Row.toNat)≤m+3)
theorem UX{l:List aN}(h3:l.length=3){w:Int}(hw:0≤w∧w≤2)(r:List bJ):bY (l.set w.toNat ⟨r⟩) w=r:=by
  unfold bY
  rw [List.getD_eq_getElem?_getD,List.getElem?_set_self (by omega)];rfl
theorem mu4{w:Int}(hw:0≤w∧w≤2):aQD w (I4 w):=fun b s m hb hd ⟨k,hp⟩=>by
  have h3:=hb.1.2.2.1.1
  have h24:=FN hb.1.2.2.1 hw
  have e:C1 b w s=qI b w s:=by unfold C1;simp [hd,k]
  rw [e]
  unfold qI
  rcases hp with ⟨p,hm⟩ | ⟨p,r0,hm⟩ | ⟨p,hB,ha,hm⟩ | ⟨p,ha,hm⟩
  · refine⟨by omega,?_⟩
    rw [if_pos p]
    exact .inr ⟨hd,k,.inr (.inl ⟨rfl,by simp,by simp only [Int.toNat_zero];omega⟩)⟩
  · refine⟨by omega,?_⟩
    rw [if_neg (by omega),if_pos p]
    by_cases q:mT (bY b.aP w) s.E s.Row.toNat < (bY b.aP w).length
    · rw [if_pos q]
      have:=(UP q).1
      exact .inr ⟨hd,k,.inr (.inr (.inl ⟨rfl,by simp,⟨by (try simp only);omega,by (try simp only);omega,rfl⟩,by simp only [Int.toNat_natCast];omega⟩))⟩
    · rw [if_neg q];exact .inl rfl
  · have ha':=ha
    obtain⟨a0,a1,a2⟩:=ha'
    refine⟨by omega,?_⟩
    rw [if_neg (by omega),if_neg (by omega),if_pos p,if_pos ⟨hB,ha⟩]
    split
    · exact .inr ⟨hd,k,.inr (.inl ⟨rfl,by (try simp only);omega,by (try simp only);omega⟩)⟩
    · by_cases z:s.B=2
      · exact .inr ⟨hd,k,.inr (.inr (.inr ⟨by simp only [if_pos z],⟨a0,a1,a2⟩,by (try simp only);omega⟩))⟩
      · exact .inr ⟨hd,k,.inr (.inr (.inl ⟨by simp only [if_neg z],by (try simp only);omega,⟨a0,a1,a2⟩,by (try simp only);omega⟩))⟩
  · have ha':=ha
    obtain⟨a0,a1,a2⟩:=ha'
    refine⟨by omega,?_⟩
    rw [if_neg (by omega),if_neg (by omega),if_neg (by omega),if_pos p]
    split
    · refine .inr ⟨hd,k,.inr (.inl ⟨rfl,a0,?_⟩)⟩
      simp only
      rw [UX h3 hw,List.length_eraseIdx_of_lt (by omega)]
      omega
    · exact .inl rfl
end Go.Gv
end
noncomputable section
namespace Go.Gv
def Aft{α:Type}(o:Option α)(Q:α→Prop):Prop:=∀x,o=some x→Q x
namespace Aft
variable {α β:Type} {Q:α→Prop}
theorem ret{x:α}(h:Q x):Aft (some x) Q:=fun _ e=>by injection e with e;rw [←e];exact h
theorem bind{o:Option β}{f:β→Option α}(h:∀x,o=some x→Aft (f x) Q):Aft (o.bind f) Q:=fun y e=>by
  cases ho:o with
  | none=>rw [ho] at e;cases e
  | some x=>rw [ho] at e;exact h x ho y e
theorem ite{c:Prop}[Decidable c]{a b:Option α}(h1:Aft a Q)(h2:Aft b Q):Aft (if c then a else b) Q:=by
  split
  · exact h1
  · exact h2
theorem need{p:Prop}[Decidable p]{k:Option α}(h:p→Aft k Q):Aft (Gv.need p k) Q:=fun y e=>by
  unfold Gv.need at e
  split at e
  · rename_i q;exact h q y e
  · cases e
end Aft
noncomputable section
variable (s:uG) (w:Int) (j:MR)
end
end Go.Gv
end
noncomputable section
set_option maxRecDepth 20000
namespace Go.Gv
def aLK(s:uG):Prop:=(∀j∈s.TH,j.YB=false)∧∀q∈s.OB,q.MA=[]
instance (s:uG):Decidable (aLK s):=by unfold aLK;infer_instance
end Go.Gv
end
noncomputable section
namespace Go.Gv
theorem UY{m:Mem}(hm:j7 m){w h:Int}(hw:0≤w∧w≤2)(hv:jG m h):(∀t,aX (AR m w h).aB t=aX m.aB t)∧(∀t,0≤aX m.aB t→g7 (AR m w h).aB t=if t=h % 32 then h / 32+1 else g7 m.aB t) ∧
    (∀t,t≠h % 32→(t∈cS (AR m w h).aA↔t∈cS m.aA))∧dX (AR m w h) (h % 32)≠3:=by
  obtain⟨hcnt,h3,h9,h1,h2,hsm,hcp,hlo,hsG,hsO⟩:=j7.facts hm
  have hcl:=mX hv.2.1
  have hc2:0≤aX m.aB (h % 32)∧aX m.aB (h % 32)≤2:=by
    obtain⟨_,q,e⟩:=rE hcl
    rw [e];exact gK.1 (by omega)
  have hg6:1≤h / 32∧h / 32≤6:=by have:=hv.1;unfold mU at this;omega
  obtain⟨_,hg⟩:=LV.aH8 hm.1.1 hcl (g:=h / 32+1) (by omega)
  have hh:(AR m w h).aB=⟨RE m.aB.Bytes (eI (h % 32) (aX m.aB (h % 32))).toNat (h / 32+1),m.aB.Class⟩:=by
    unfold AR;simp only [apply_ite Mem.aB,ite_self]
  have kx:(w * 3+aX m.aB (h % 32)).toNat < m.aA.bD.length:=by omega
  have ky:(aX m.aB (h % 32)).toNat < m.aA.Global.length:=by omega
  have hl:∀t,t∈cS (AR m w h).aA↔t∈cS m.aA∨(h / 32+1≤6∧t=h % 32):=fun t=>by
    unfold AR cS
    by_cases q:h / 32+1≤6
    · rw [if_pos q]
      split
      · rw [←cQ kx]
        simp only [List.mem_append,BP kx,List.mem_singleton,q,true_and]
        constructor
        · rintro(a | a | a)
          · exact .inl (.inl a)
          · exact .inl (.inr a)
          · exact .inr a
        · rintro((a | a) | a)
          · exact .inl a
          · exact .inr (.inl a)
          · exact .inr (.inr a)
      · rw [←cQ ky]
        simp only [List.mem_append,BP ky,List.mem_singleton,q,true_and]
        constructor
        · rintro((a | a) | a)
          · exact .inl (.inl a)
          · exact .inr a
          · exact .inl (.inr a)
        · rintro((a | a) | a)
          · exact .inl (.inl a)
          · exact .inr a
          · exact .inl (.inr a)
    · rw [if_neg q]
      simp only [List.mem_append,q,false_and,or_false]
  refine⟨fun t=>by rw [hh];rfl,fun t ht=>by rw [hh];exact hg t ht,fun t ht=>by rw [hl];exact⟨fun x=>x.elim id fun y=>absurd y.2 ht,.inl⟩,fun hu=>?_⟩
  have hu':=mS.1 hu
  have e1:g7 (AR m w h).aB (h % 32)=h / 32+1:=by rw [hh,hg _ hcl,if_pos rfl]
  rw [e1] at hu'
  exact hu'.2.1 ((hl _).2 (.inr ⟨hu'.2.2,rfl⟩))
theorem aB5{m:Mem}(hm:j7 m){w h:Int}(hw:0≤w∧w≤2)(hv:jG m h){t:Int}(ht:t≠h % 32):dX (AR m w h) t=dX m t:=by
  obtain⟨a,b,c,_⟩:=UY hm hw hv
  by_cases q:0≤aX m.aB t
  · exact Y1 (a t) (by rw [b t q,if_neg ht]) (c t ht)
  · have e:aX (AR m w h).aB t=aX m.aB t:=a t
    unfold dX
    rw [e,if_pos (by omega),if_pos (by omega)]
def aB6(z:List Int)(h:Int):Prop:=∀v:Int,0≤v∧v≤2→AS z v≠h
def aLL(e:Int)(z:List Int)(r:bJ):Prop:=rJ r e∧aB6 z r.Handle
def aDT(m:Mem)(r:bJ):Prop:=0≤aX m.aB (r.Handle % 32)∧r.Handle / 32 < g7 m.aB (r.Handle % 32)
theorem aDT.not{m:Mem}{r:bJ}(h:aDT m r):¬jG m r.Handle:=fun l=>by have:=l.2.2;have:=h.2;omega
structure Gc (w:Int) (b b':aG) (row out:Int):Prop where
  kept:∀j:Nat,(j:Int) < row→∀hj:j < (bY b'.aP w).length,¬aLL b.aK.aI b.nZ (bY b'.aP w)[j]
  len:((bY b'.aP w).length:Int)+out=(bY b.aP w).length
  flat:((a9 b'.aP).length:Int)+out=(a9 b.aP).length
  gone:∀r∈bY b.aP w,r∈bY b'.aP w∨aDT b'.Mem r
  used:∀i:Nat,i < 24→(eS b' i=4↔eS b i=4)
  cls:∀t,aX b'.Mem.aB t=aX b.Mem.aB t
  pos:0≤out
def Cj(w:Int)(b b':aG)(s:Sub):Prop:=s.Kind=4∧fL b'∧b'.aK=b.aK∧b'.nZ=b.nZ ∧
  (s.dV=true→s.Code=0∧Gc w b b' (bY b'.aP w).length s.Out) ∧
  (s.dV=false→s.Pc=0∧s.Out=0∧b'=b∨s.E=b.aK.aI∧Gc w b b' s.Row s.Out ∧
    (s.Pc=1∧0≤s.Row∨s.Pc=2∧(0≤s.B∧s.B≤2)∧AT (bY b'.aP w) s∧rJ (FO (bY b'.aP w) s.Row) s.E∧(∀v:Int,0≤v∧v < s.B→AS b.nZ v≠s.H) ∨
      s.Pc=3∧AT (bY b'.aP w) s∧rJ (FO (bY b'.aP w) s.Row) s.E∧aB6 b.nZ s.H))
theorem UZ{l:List bJ}{j:Nat}(h:j < l.length):FO l (j:Int)=l[j]:=by
  have:=JN (l:=l) (k:=(j:Int)) (by omega)
  rw [aV h] at this
  injection this with this
  exact this.symm
theorem aEX{l:List bJ}{e:Int}{k j:Nat}(hj:j < l.length)(h1:k≤j)(h2:j < mT l e k):¬rJ l[j] e:=by
  unfold mT at h2
  have h3:j - k < (l.drop k).findIdx (fun r=>decide (rJ r e)):=by omega
  have h4:=List.not_of_lt_findIdx h3
  rw [List.getElem_drop] at h4
  have h5:k+(j - k)=j:=by omega
  simp only [h5] at h4
  simpa using h4
noncomputable section
variable {w:Int} (hw:0≤w∧w≤2) {b b':aG} (hL0:(bY b.aP w).length≤24) {s:Sub} (hd:s.dV=false)
include hw hL0 hd
theorem aEY(h:Cj w b b' s):Cj w b (qI b' w s).1 (qI b' w s).2:=by
  obtain⟨k4,hb,hc,hz,_,hp⟩:=h
  have hp:=hp hd
  have ok:fL (qI b' w s).1:=by
    have:=aDP hb hw s
    have e:C1 b' w s=qI b' w s:=by unfold C1;simp [hd,k4]
    rw [e] at this;exact this
  have nd:∀{p:Prop},s.dV=true→p:=fun x=>by rw [hd] at x;cases x
  have hL3:=hb.1.2.2.1.1
  unfold qI at ok ⊢
  rcases hp with ⟨p0,o0,rfl⟩ | ⟨hE,g,⟨p1,r0⟩ | ⟨p2,hB,ha,hr,hh⟩ | ⟨p3,ha,hr,hu⟩⟩
  · rw [if_pos p0]
    refine⟨k4,hb,rfl,rfl,fun x=>nd x,fun _=>.inr ⟨rfl,⟨fun j hj=>by simp only at hj;omega,by simp only;omega,by simp only;omega,fun r hr=>.inl hr,fun i _=>Iff.rfl,fun t=>rfl,by simp only;omega⟩,.inl ⟨rfl,by simp⟩⟩⟩
  · rw [if_neg (by omega),if_pos p1]
    have kept:∀n:Int,n≤(mT (bY b'.aP w) s.E s.Row.toNat:Int)→∀j:Nat,(j:Int) < n→∀hj:j < (bY b'.aP w).length,¬aLL b.aK.aI b.nZ (bY b'.aP w)[j]:=fun n hn j hj1 hj=>by
      by_cases q:(j:Int) < s.Row
      · exact g.kept j q hj
      · exact fun f=>aEX (e:=s.E) (k:=s.Row.toNat) hj (by omega) (by omega) (by rw [hE];exact f.1)
    by_cases q:mT (bY b'.aP w) s.E s.Row.toNat < (bY b'.aP w).length
    · rw [if_pos q]
      obtain⟨q1,q2⟩:=UP q
      refine⟨k4,hb,hc,hz,fun x=>nd x,fun _=>.inr ⟨hE,⟨kept _ (Int.le_refl _),g.len,g.flat,g.gone,g.used,g.cls,g.pos⟩,.inr (.inl ⟨rfl,by simp,⟨by simp only;omega,by simp only;omega,rfl⟩,?_,fun v hv=>by simp only at hv;omega⟩)⟩⟩
      simp only
      rw [UZ q];exact q2
    · rw [if_neg q]
      exact⟨k4,hb,hc,hz,fun _=>⟨rfl,⟨kept _ (by simp only;omega),g.len,g.flat,g.gone,g.used,g.cls,g.pos⟩⟩,fun x=>by cases x⟩
  · rw [if_neg (by omega),if_neg (by omega),if_pos p2,if_pos ⟨hB,ha⟩]
    obtain⟨a0,a1,a2⟩:=ha
    by_cases q:AS b'.nZ s.B=s.H
    · rw [if_pos q]
      refine⟨k4,hb,hc,hz,fun x=>nd x,fun _=>.inr ⟨hE,⟨fun j hj1 hj=>?_,g.len,g.flat,g.gone,g.used,g.cls,g.pos⟩,.inl ⟨rfl,by simp only;omega⟩⟩⟩
      simp only at hj1
      by_cases z:(j:Int) < s.Row
      · exact g.kept j z hj
      · intro f
        have ej:(j:Int)=s.Row:=by omega
        rw [←ej,UZ hj] at a2
        exact f.2 s.B hB (by rw [←hz,q,a2])
    · rw [if_neg q]
      have hh':∀v:Int,0≤v∧v < s.B+1→AS b.nZ v≠s.H:=fun v hv=>by
        by_cases z:v=s.B
        · rw [z,←hz];exact q
        · exact hh v (by omega)
      by_cases z:s.B=2
      · refine⟨k4,hb,hc,hz,fun x=>nd x,fun _=>.inr ⟨hE,g,.inr (.inr ⟨by simp only [if_pos z],⟨a0,a1,a2⟩,hr,fun v hv=>hh' v (by omega)⟩)⟩⟩
      · refine⟨k4,hb,hc,hz,fun x=>nd x,fun _=>.inr ⟨hE,g,.inr (.inl ⟨by simp only [if_neg z],by simp only;omega,⟨a0,a1,a2⟩,hr,hh'⟩)⟩⟩
  · rw [if_neg (by omega), if_neg (by omega), if_neg (by omega), if_pos p3, if_pos ⟨ha, hr⟩] at ok ⊢
    obtain⟨a0,a1,a2⟩:=ha
    obtain⟨j,hj⟩:=Int.eq_ofNat_of_zero_le a0
    have hjl:j < (bY b'.aP w).length:=by omega
    rw [hj,UZ hjl] at a2
    have hmem:(bY b'.aP w)[j]∈bY b'.aP w:=List.getElem_mem hjl
    have hfl:=JO hb.1.2.2.1 hw hmem
    have hlive:=(hb.2 _ hfl).1
    rw [a2] at hlive
    obtain⟨f1,f2,f3,f4⟩:=UY hb.1.1 hw hlive
    have ej:s.Row.toNat=j:=by omega
    have ew:aW (s.Out+1)=s.Out+1:=by have:=g.len;have:=g.pos;exact aO (by omega) (by omega)
    have hro:bY (b'.aP.set w.toNat ⟨(bY b'.aP w).eraseIdx s.Row.toNat⟩) w=(bY b'.aP w).eraseIdx j:=by rw [UX hL3 hw,ej]
    have hlen:((bY b'.aP w).eraseIdx j).length=(bY b'.aP w).length - 1:=List.length_eraseIdx_of_lt hjl
    have kx:w.toNat < b'.aP.length:=by omega
    have hrow:b'.aP[w.toNat].Rows=bY b'.aP w:=by
      have:=uC hb.1.2.2.1 hw
      rw [fB hw.1 (by omega)] at this
      injection this with this
      rw [this]
    have hperm:=UM hjl
    have hmemL:∀r,r∈bY b'.aP w↔r=(bY b'.aP w)[j]∨r∈(bY b'.aP w).eraseIdx j:=fun r=>by rw [hperm.mem_iff,List.mem_cons]
    have hset:∀x:List bJ,a9 (b'.aP.set w.toNat ⟨x⟩)=a9 (b'.aP.take w.toNat)++(x++a9 (b'.aP.drop (w.toNat+1))):=fun x=>uR kx ⟨x⟩
    have hspl:a9 b'.aP=a9 (b'.aP.take w.toNat)++(bY b'.aP w++a9 (b'.aP.drop (w.toNat+1))):=by rw [qH kx,hrow]
    refine⟨k4,ok,hc,hz,fun x=>nd x,fun _=>.inr ⟨hE,⟨?_,?_,?_,?_,?_,?_,?_⟩,.inl ⟨rfl,a0⟩⟩⟩
    · intro i hi1 hi2
      simp only at hi1 hi2 ⊢
      simp only [hro] at hi2 ⊢
      rw [List.getElem_eraseIdx_of_lt hi2 (by omega)]
      exact g.kept i hi1 (by omega)
    · simp only
      rw [hro,hlen,ew]
      have:=g.len;omega
    · simp only
      rw [hset,ew,ej]
      have:=g.flat
      rw [hspl] at this
      simp only [List.length_append] at this ⊢
      omega
    · intro r hr
      simp only
      rw [hro]
      rcases g.gone r hr with q | ⟨q1,q2⟩
      · rcases(hmemL r).1 q with e | e
        · right
          have hcl:=mX hlive.2.1
          rw [e]
          unfold aDT
          rw [a2]
          exact⟨by rw [f1];exact hcl,by rw [f2 _ hcl,if_pos rfl];omega⟩
        · exact .inl e
      · right
        refine⟨by rw [f1];exact q1,?_⟩
        rw [f2 _ q1]
        split
        · rename_i e
          rw [e] at q2
          have:=hlive.2.2
          omega
        · exact q2
    · intro i hi
      rw [←g.used i hi]
      have hbi:=UT hb (i:Int)
      have hbo:=UT ok (i:Int)
      simp only at hbo
      by_cases e:(i:Int)=s.H % 32
      · have h1:eS b' i≠4:=by
          unfold eS
          rw [e,if_pos hlive.2.1,if_pos (by rw [←e];exact hbi.2 (List.mem_map.2 ⟨_,hfl,by unfold gL;rw [a2,e]⟩))]
          decide
        have h2:eS ⟨AR b'.Mem w s.H,b'.aK,b'.aP.set w.toNat ⟨(bY b'.aP w).eraseIdx s.Row.toNat⟩,b'.nZ⟩ i≠4:=by
          unfold eS
          simp only
          rw [e,if_neg f4]
          have:=LZ (AR b'.Mem w s.H) (s.H % 32)
          omega
        exact⟨fun x=>absurd x h2,fun x=>absurd x h1⟩
      · have hst:=aB5 hb.1.1 hw hlive e
        have hheld:FK (b'.aP.set w.toNat ⟨(bY b'.aP w).eraseIdx s.Row.toNat⟩) i↔FK b'.aP i:=by
          rw [hbo,hbi,hset,hspl,ej]
          simp only [List.map_append,List.mem_append,List.mem_map]
          constructor
          · rintro(x | ⟨r,x,y⟩ | x)
            · exact .inl x
            · exact .inr (.inl ⟨r,(hmemL r).2 (.inr x),y⟩)
            · exact .inr (.inr x)
          · rintro(x | ⟨r,x,y⟩ | x)
            · exact .inl x
            · rcases(hmemL r).1 x with z | z
              · exfalso
                apply e
                rw [←y,z]
                unfold gL
                rw [a2]
              · exact .inr (.inl ⟨r,z,y⟩)
            · exact .inr (.inr x)
        unfold eS
        simp only
        rw [hst]
        simp only [hheld]
    · intro t
      rw [←g.cls t]
      exact f1 t
    · simp only
      rw [ew]
      have:=g.pos;omega
omit hd in
theorem aIR:∀(n m:Nat) b' s,Cj w b b' s→s.dV=false→I4 w b' s m→m≤n→Cj w b (NP w n b' s).1 (NP w n b' s).2∧(NP w n b' s).2.dV=true:=by
  intro n
  induction n with
  | zero=>intro m b' s h hd hi hm;have:=(mu4 hw b' s m h.2.1 hd hi).1;omega
  | succ n ih =>
    intro m b' s h hd hi hm
    obtain⟨m1,hx⟩:=mu4 hw b' s m h.2.1 hd hi
    have e:C1 b' w s=qI b' w s:=by unfold C1;simp [hd,h.1]
    rw [XF hd]
    have st:=aEY hw hL0 hd h
    rw [←e] at st
    rcases hx with hd' | ⟨hd',hi'⟩
    · rw [XE hd'];exact⟨st,hd'⟩
    · exact ih (m - 1) _ _ st hd' hi' (by omega)
end
end Go.Gv
end
noncomputable section
namespace Go.Gv
def wW(z:List Int)(h:Int):Nat→List Int
  | 0=>[]
  | k+1=>if AS z k=h then wW z h k ++ [(k:Int)] else wW z h k
theorem aEZ(z:List Int)(h:Int)(k:Nat):(wW z h k).length≤k:=by
  induction k with
  | zero=>simp [wW]
  | succ k ih=>unfold wW;split <;> (try simp) <;> omega
theorem aB7{z:List Int}{h:Int}:∀n,(wW z h n).length=0↔∀v:Nat,v < n→AS z v≠h:=by
  intro n
  induction n with
  | zero=>simp [wW]
  | succ n ih =>
    have e:wW z h (n+1)=if AS z n=h then wW z h n ++ [(n:Int)] else wW z h n:=rfl
    rw [e]
    by_cases q:AS z n=h
    · rw [if_pos q]
      exact⟨fun x=>by simp at x,fun x=>absurd q (x n (by omega))⟩
    · rw [if_neg q,ih]
      constructor
      · intro x v hv
        by_cases e:v=n
        · rw [e];exact q
        · exact x v (by omega)
      · exact fun x v hv=>x v (by omega)
theorem XG{z:List Int}(hz:CT z){h:Int}(hh:h≠0):zN z h=some (wW z h 3):=by
  have h3:=hz.1
  unfold zN
  have key:loop (p7 z h) ([],0)=some (wW z h 3):=gZ (f:=p7 z h) 3 (fun k=>(wW z h k,(k:Int))) _ (fun k hk=>by
    have:=aEZ z h k
    have ew:aW ((k:Int)+1)=((k+1:Nat):Int):=by rw [aO (by omega) (by omega)];rfl
    have hne:(h != 0)=true:=by simpa using hh
    have e:wW z h (k+1)=if AS z k=h then wW z h k ++ [(k:Int)] else wW z h k:=rfl
    simp only [p7,mK,wH]
    rw [if_pos (by simp;omega),y7 (by simp only [maxLen];omega),bB hz,aH,if_pos rfl,hne,if_pos rfl,XA hz (w:=(k:Int)) (by omega),aH,ew,e]
    by_cases q:AS z k=h
    · rw [if_pos (by simpa using q),aS (by simp;omega),if_pos q]
    · rw [if_neg (by simpa using q),if_neg q]) (by simp [p7,mK,h3])
  rw [key];rfl
theorem O7{z:List Int}{h:Int}:(wW z h 3).length=0↔aB6 z h:=by
  rw [aB7]
  constructor
  · intro x v hv
    have:=x v.toNat (by omega)
    rwa [Int.toNat_of_nonneg hv.1] at this
  · intro x v hv
    exact x v (by omega)
theorem aIS{m:Mem}(hm:j7 m)(h:Int):GG m h=some (decide (jG m h)):=by
  obtain⟨hcnt,h3,h9,_⟩:=j7.facts hm
  unfold GG yS
  rw [hm.wk.XD,bB hm,aH,if_pos rfl,iU hm.1.1.1 (by omega) (by simp only [maxLen];omega) (by simp only [maxLen];omega),aH]
noncomputable section
variable {b:aG} (hb:fL b)
include hb
theorem FP:∀k:Nat,k < 5→idx (kB b 24) (k:Int)=some (C0 (fun i=>decide (eS b i=(k:Int))) 24:Int):=fun k hk=>by
  have tl:=L4 b 24
  rw [aV (by omega),←aEU b 24 k hk,List.getD_eq_getElem?_getD,List.getElem?_eq_getElem (by omega)];rfl
end
theorem U0{code:List UInt8}(_:fit code):AB code=some true:=by
  unfold AB S6
  rw [aH]
  by_cases hcl:1048576 < (code.length:Int)
  · rw [if_pos (by simpa using hcl)]
  rw [if_neg (by simpa using hcl)]
  obtain⟨b,eb,hs⟩:=aNJ (code:=code) (by omega)
  obtain⟨a,ea,ha⟩:=aO5 (code:=code) (by omega) (i:=0) (by omega)
  have hw:=aEW ha
  rw [eb,aH,ea,aH,wV hs.fits,aH]
  by_cases hb:fL b
  rotate_left
  · rw [bK hb,if_pos (by simp)]
  rw [bB hb,if_neg (by simp)]
  unfold DL
  rw [aH,aB4 hs,aH]
  have L24:=FN hb.1.2.2.1 hw
  have h0:Cj (Int.tmod a 3) b b ⟨4,0,0,0,0,0,0,0,0,false⟩:=⟨rfl,hb,rfl,rfl,fun x=>by simp at x,fun _=>.inl ⟨rfl,rfl,rfl⟩⟩
  obtain⟨hC,hD⟩:=aIR hw L24 200 (2+5 * (bY b.aP (Int.tmod a 3)).length) b _ h0 rfl ⟨rfl,.inl ⟨rfl,Nat.le_refl _⟩⟩ (by omega)
  have er:RI b (Int.tmod a 3) ⟨4,0,0,0,0,0,0,0,0,false⟩=NP (Int.tmod a 3) 200 b ⟨4,0,0,0,0,0,0,0,0,false⟩:=by
    unfold RI;rw [if_pos ⟨hb,hw⟩]
  rw [er]
  generalize hwa:Int.tmod a 3=w at *
  generalize hxs:NP w 200 b ⟨4,0,0,0,0,0,0,0,0,false⟩=p at *
  obtain⟨x,s⟩:=p
  simp only at hC hD
  obtain⟨_,hx,hcx,hzx,hfin,_⟩:=hC
  obtain⟨hcode,g⟩:=hfin hD
  have glen:=g.len
  have gpos:=g.pos
  have hrx:=uC hx.1.2.2.1 hw
  have hrb:=uC hb.1.2.2.1 hw
  have X24:=FN hx.1.2.2.1 hw
  simp only [uA,hD,eU,bE,if_false,hcode,bne_self_eq_false,wV hx.small.fits,bB hx,aH,hwa,hrx,hrb,gO]
  rw [aO (x:=((bY x.aP w).length:Int)+s.Out) (by omega) (by omega),glen]
  simp only [bne_self_eq_false,t9,bE,if_false]
  have nz:∀(c:aG),fL c→∀r∈bY c.aP w,r.Handle≠0:=fun c hc r hr=>by
    have:=(hc.1.2.2.1.2.2.1 r (JO hc.1.2.2.1 hw hr)).1
    unfold mU at this;omega
  have ew:∀k:Nat,k < 24→aW ((k:Int)+1)=((k+1:Nat):Int):=fun k hk=>by rw [aO (by omega) (by omega)];rfl
  have heB:=fun r hr=>XG hb.1.2.2.2 (nz b hb r hr)
  have heX:=fun r hr=>XG hb.1.2.2.2 (nz x hx r hr)
  have k3:loop (jY a) (0,b,x)=some (Out.brk (b,x)):=gZ (f:=jY a) (bY x.aP w).length (fun k=>((k:Int),b,x)) _ (fun k hk=>by
    have hm:(bY x.aP w)[k]∈bY x.aP w:=List.getElem_mem hk
    have hkp:=g.kept k (by omega) hk
    simp only [jY,nI]
    rw [hwa,hrx,aH,if_pos (by simp;omega),aV hk,aH,JM,aH,ew k (by omega)]
    by_cases q:rJ (bY x.aP w)[k] b.aK.aI
    · have hu:¬(wW b.nZ (bY x.aP w)[k].Handle 3).length=0:=fun z=>hkp ⟨q,O7.1 z⟩
      rw [bB q,if_pos rfl,heX _ hm,aH,if_neg (by simpa using hu)]
    · rw [bK q,if_neg (by simp),if_neg (by simp)]) (by simp only [jY];rw [hwa,hrx,aH,if_neg (by simp)])
  rw [show((0:Int),b,x)=(((0:Nat):Int),b,x) from rfl] at k3
  rw [show((0:Int),b,x)=(((0:Nat):Int),b,x) from rfl,k3,aH]
  simp only [CH,CG]
  have k4:loop (jX a) (0,b,x)=some (Out.brk (b,x)):=gZ (f:=jX a) (bY b.aP w).length (fun k=>((k:Int),b,x)) _ (fun k hk=>by
    have hm:(bY b.aP w)[k]∈bY b.aP w:=List.getElem_mem hk
    simp only [jX,jW]
    rw [hwa,hrb,aH,if_pos (by simp;omega),aV hk,aH,JM,aH,ew k (by omega)]
    by_cases q:rJ (bY b.aP w)[k] b.aK.aI
    · rw [bB q,if_pos rfl,heB _ hm,aH]
      by_cases u:(wW b.nZ (bY b.aP w)[k].Handle 3).length=0
      · have hl:¬jG x.Mem (bY b.aP w)[k].Handle:=by
          rcases g.gone _ hm with z | z
          · exfalso
            obtain⟨j,hj,ej⟩:=List.mem_iff_getElem.1 z
            have:=g.kept j (by omega) hj
            rw [ej] at this
            exact this ⟨q,O7.1 u⟩
          · exact z.not
        rw [if_pos (by simpa using u),aIS hx.1.1,aH,bK hl,if_neg (by simp)]
      · rw [if_neg (by simpa using u),if_neg (by simp)]
    · rw [bK q,if_neg (by simp),if_neg (by simp)]) (by simp only [jX];rw [hwa,hrb,aH,if_neg (by simp)])
  rw [show((0:Int),b,x)=(((0:Nat):Int),b,x) from rfl] at k4
  rw [show((0:Int),b,x)=(((0:Nat):Int),b,x) from rfl,k4,aH]
  have t4:=FP hb 4 (by omega);have u4:=FP hx 4 (by omega)
  have t3:=FP hb 3 (by omega);have u3:=FP hx 3 (by omega)
  have t0:=FP hb 0 (by omega);have u0:=FP hx 0 (by omega)
  have e4:C0 (fun i=>decide (eS x i=((4:Nat):Int))) 24=C0 (fun i=>decide (eS b i=((4:Nat):Int))) 24:=L5 fun i hi=>by
    rw [Bool.eq_iff_iff,decide_eq_true_iff,decide_eq_true_iff];exact g.used i hi
  have e0:C0 (fun i=>decide (eS x i=((0:Nat):Int))) 24=C0 (fun i=>decide (eS b i=((0:Nat):Int))) 24:=by
    have a1:=UU hx
    have a2:=UU hb
    have a3:C0 (fun i=>decide (aX x.Mem.aB i < 0)) 24=C0 (fun i=>decide (aX b.Mem.aB i < 0)) 24:=L5 fun i _=>by rw [g.cls]
    exact(a1.trans a3).trans a2.symm
  have l1:C0 (fun i=>decide (eS x i=((3:Nat):Int))) 24=(a9 x.aP).length:=O6 hx
  have l2:C0 (fun i=>decide (eS b i=((3:Nat):Int))) 24=(a9 b.aP).length:=O6 hb
  rw [e4] at u4
  rw [e0] at u0
  rw [l1] at u3
  rw [l2] at t3
  have gf:=g.flat
  have F24:=hb.1.2.2.1.2.1
  have w3:aW (((a9 b.aP).length:Int) - s.Out)=((a9 x.aP).length:Int):=by rw [aO (by omega) (by omega)];omega
  have ts:=UR hb
  have tx:=UR hx
  generalize kB b 24=T at *
  generalize kB x 24=U at *
  simp only [CF,CE,ts,tx,aH]
  have c4:((4:Nat):Int)=4:=rfl
  have c3:((3:Nat):Int)=3:=rfl
  have c0:((0:Nat):Int)=0:=rfl
  rw [c4] at t4 u4
  rw [c3] at t3 u3
  rw [c0] at t0 u0
  rw [u4,aH,t4,aH,if_pos (by simp),u0,aH,t0,aH,if_pos (by simp),u3,aH,t3,aH,w3,if_pos (by simp)]
  rfl
end Go.Gv
end
