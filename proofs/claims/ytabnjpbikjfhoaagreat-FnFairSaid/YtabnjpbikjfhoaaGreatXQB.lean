import Derived.Test.YtabnjpbikjfhoaaGreatXQA
set_option linter.unusedVariables false
set_option linter.unusedSimpArgs false
set_option linter.unusedSectionVars false
set_option linter.constructorNameAsVariable false
set_option linter.unnecessarySimpa false
noncomputable section
namespace Go.Gv
def NN(B:Bl)(n:Nat)(cs:List SV):Chunk where
  P:=fun w F=>∃b z vs,B[n]?=some (b,z)∧aZ (bZ B) cs=some vs∧(P4 b z vs).P w F
  keep:=fun⟨b,z,vs,h1,h2,h3⟩ hk hd=>⟨b,z,vs,h1,h2,(P4 b z vs).keep h3 hk hd⟩
  lt:=fun⟨b,z,vs,_,_,h3⟩ hf=>(P4 b z vs).lt h3 hf
def jW(B:Bl):Ch→Chunk
  | .box n cs=>NN B n cs
  | .o c=>c
  | _=>GL
def roF(B:Bl)(R:List Fact):Ch→Prop
  | .ro n cs=>∃b z vs,B[n]?=some (b,z)∧aZ (bZ B) cs=some vs∧fAt b z vs∈R
  | .f f=>f∈R
  | .w n b z=>B[n]?=some (b,z)
  | _=>True
structure mW (c:Ctx) (w:World) (B:Bl) (L:List Ch):Prop where
  ex:∃R,St c w (L.map (jW B)) R∧∀x∈L,roF B R x
  s0:∀b o,c.S0 b o→b < c.w0.heap.size
inductive jB (w:World):List Chunk→List Chunk→Prop where
  | nil:jB w [] []
  | cons {a b:Chunk} {A B:List Chunk} (h:∀F,a.P w F→b.P w F) (t:jB w A B):jB w (a :: A) (b :: B)
theorem Sep.imp{w:World}:∀{A B:List Chunk} {F:cV},jB w A B→Sep w A F→Sep w B F
  | _,_,_,.nil,h=>h
  | _,_,_,.cons h t,⟨F1,F2,h1,h2,hd,hF⟩=>⟨F1,F2,h F1 h1,Sep.imp t h2,hd,hF⟩
theorem St.imp{c:Ctx}{w:World}{A B:List Chunk}{R:List Fact}(h:St c w A R)(hi:jB w A B):St c w B R:=by
  obtain⟨F,S,hsep,rest⟩:=h.sep
  exact⟨h.keep,⟨F,S,Sep.imp hi hsep,rest⟩,h.apart⟩
theorem jB.refl{w:World}:∀(A:List Chunk),jB w A A
  | []=>.nil
  | _ :: A=>.cons (fun _ h=>h) (jB.refl A)
theorem jB.append{w:World}:∀{A B A' B':List Chunk},jB w A B→jB w A' B'→jB w (A++A') (B++B')
  | _,_,_,_,.nil,h=>h
  | _,_,_,_,.cons h t,h2=>.cons h (jB.append t h2)
theorem jB.set{w:World}{a b:Chunk}:∀{A B:List Chunk} (i:Nat),jB w A B→(∀F,a.P w F→b.P w F)→jB w (A.set i a) (B.set i b)
  | _,_,_,.nil,_=>.nil
  | _,_,0,.cons _ t,h=>.cons h t
  | _,_,i+1,.cons g t,h=>.cons g (jB.set i t h)
theorem jB.put{w:World}{a b:Chunk}:∀{A:List Chunk} (i:Nat),A[i]?=some a→(∀F,a.P w F→b.P w F)→jB w A (A.set i b)
  | [],_,h,_=>by simp at h
  | x :: A,0,h,g=>by simp at h;subst h;exact .cons g (jB.refl A)
  | x :: A,i+1,h,g=>.cons (fun _ h=>h) (jB.put i (by simpa using h) g)
theorem aRX{B:Bl}(B':Bl){n:Nat}{cs:List SV}{w:World}{F:cV}(h:(NN B n cs).P w F):(NN (B++B') n cs).P w F:=by
  obtain⟨b,z,vs,h1,h2,h3⟩:=h
  exact⟨b,z,vs,Bl.app B' h1,fH (fun _ _=>gH B') h2,h3⟩
theorem aVC{B:Bl}(B':Bl){x:Ch}{w:World}{F:cV}(h:(jW B x).P w F):(jW (B++B') x).P w F:=by
  cases x <;> first | exact aRX B' h | exact h
theorem R1{B:Bl}(B':Bl){w:World}:∀(L:List Ch),jB w (L.map (jW B)) (L.map (jW (B++B')))
  | []=>.nil
  | _ :: L=>.cons (fun _ h=>aVC B' h) (R1 B' L)
theorem aHZ{B:Bl}(B':Bl){R:List Fact}{x:Ch}(h:roF B R x):roF (B++B') R x:=by
  cases x <;> try exact h
  · obtain⟨b,z,vs,h1,h2,h3⟩:=h
    exact⟨b,z,vs,Bl.app B' h1,fH (fun _ _=>gH B') h2,h3⟩
  · exact Bl.app B' h
theorem QA{B:Bl}{R R':List Fact}(hR:∀f∈R,f∈R'){x:Ch}(h:roF B R x):roF B R' x:=by
  cases x <;> try exact h
  · obtain⟨b,z,vs,h1,h2,h3⟩:=h
    exact⟨b,z,vs,h1,h2,hR _ h3⟩
  · exact hR _ h
noncomputable section
variable {P:Program} {T:TT} {n:Nat} {B:Bl} {e:SE} {E:Env} {o:Oper} {w w':World} {x y:Operand} {c:Ctx} {L:List Ch}
theorem mW.app(h:mW c w B L)(B':Bl):mW c w (B++B') L:=by
  obtain⟨⟨R,h1,h2⟩,h3⟩:=h
  exact⟨⟨R,h1.imp (R1 B' L),fun x hx=>aHZ B' (h2 x hx)⟩,h3⟩
theorem aG0{n:Nat}{cs:List SV}:∀{L:List Ch},HB n L=some cs→Ch.box n cs∈L∨Ch.ro n cs∈L
  | [],h=>by cases h
  | x :: L, h => by
    have ih:HB n L=some cs→Ch.box n cs∈x :: L∨Ch.ro n cs∈x :: L:=fun h=>by
      rcases aG0 h with h | h
      · exact .inl (jV _ h)
      · exact .inr (jV _ h)
    cases x <;> simp only [HB] at h <;> try exact ih h
    · split at h
      · rename_i hb;cases h;rw [l7 hb];exact .inl (YM ..)
      · exact ih h
    · split at h
      · rename_i hb;cases h;rw [l7 hb];exact .inr (YM ..)
      · exact ih h
theorem mW.cells(h:mW c w B L){n:Nat}{cs:List SV}(hb:HB n L=some cs):∃b z vs,B[n]?=some (b,z)∧aZ (bZ B) cs=some vs∧cD w b z vs:=by
  obtain⟨⟨R,h1,h2⟩,_⟩:=h
  rcases aG0 hb with hm | hm
  · obtain⟨i,hi⟩:=YJ hm
    obtain⟨F,b,z,vs,h3,h4,h5⟩:=h1.chunk (ch:=NN B n cs) i (by rw [FU,hi];rfl)
    exact⟨b,z,vs,h3,h4,h5.1⟩
  · obtain⟨b,z,vs,h3,h4,h5⟩:=h2 _ hm
    obtain⟨i,hi⟩:=YJ h5
    exact⟨b,z,vs,h3,h4,h1.fat i hi⟩
theorem UT{b z o m:Nat}{vs:List Value}(h:cD w b z vs)(_hm:o+m≤vs.length):cD w b (z+o) ((vs.drop o).take m):=by
  intro q u hq
  rw [G8] at hq
  split at hq
  · rw [UM] at hq
    have:=h (o+q) u hq
    rw [show z+o+q=z+(o+q) from by omega];exact this
  · cases hq
theorem aNU:∀(cs:List SV) (o:Nat) (v:SV) (vs:List SV),o < cs.length→ovw cs o (v :: vs)=ovw (cs.set o v) (o+1) vs
  | [],o,v,vs,h=>by simp at h
  | c :: cs,0,v,vs,_=>by simp [ovw]
  | c :: cs, o + 1, v, vs, h => by
    simp only [ovw,List.set_cons_succ]
    rw [aNU cs o v vs (by simpa using h)]
theorem aH0:∀(cs:List SV) (o:Nat),ovw cs o []=cs
  | [],o=>by simp [ovw]
  | c :: cs,0=>by simp [ovw]
  | c :: cs,o+1=>by simp [ovw,aH0 cs o]
theorem aH1:∀(vs cs:List SV) (o:Nat),o+vs.length≤cs.length→ovw cs o vs=aU7 cs o vs
  | [],cs,o,_=>by rw [aH0];rfl
  | v :: vs, cs, o, h => by
    simp at h
    rw [aNU cs o v vs (by omega),aH1 vs _ _ (by simp;omega)];rfl
theorem LD{α:Type}:∀{l r:List α},frc l=some r→r=l
  | [],r,h=>by cases h;rfl
  | x :: l, r, h => by
    simp only [frc] at h
    split at h
    · rename_i s hs;cases h;rw [LD hs]
    · cases h
theorem aRY(hT:HD P T){t:TypeId}{a r:SV}{va:Value}(hS:mW c w B L)(ho:o.op=.load t x)(hx:ev E x=some va)(ha:fX B a=some va)(h:aJY T t a L=some r):∃v,fX B r=some v∧dW P o E w v w:=by
  unfold aJY at h
  split at h
  · rename_i n0 o0
    split at h
    · rename_i cs _ m _ hb hl
      split at h
      · rename_i hle
        split at h
        case h_2=>cases h
        rename_i ds hds
        cases h
        have:=LD hds
        subst this
        obtain⟨b,z,vs,h1,h2,h3⟩:=hS.cells hb
        have hlen:=mL h2
        have hle:=AR hle
        simp only [fX,gV,bZ,h1] at ha
        cases ha
        have h4:=R0 m (RZ o0 h2)
        refine⟨_,by simp only [fX,gV,h4],P6 (cs:=(vs.drop o0).take m) ho hx (hT.agg _ _ hl) (hT.size _ _ hl) (by simp;omega) (UT h3 (by omega))⟩
      · cases h
    · rename_i cs _ _ _ hb hl
      obtain⟨b,z,vs,h1,h2,h3⟩:=hS.cells hb
      simp only [fX,gV,bZ,h1] at ha
      cases ha
      obtain⟨v,h4,h5⟩:=P9 h2 h
      exact⟨v,aRS h4,iY ho hx (hT.agg _ _ hl) (h3 o0 v h5)⟩
    · cases h
  · cases h
theorem MP{a:SV}{v:Value}{vs:List Value}(ha:fX B a=some v)(h:aZ (bZ B) (pL a)=some vs):v.cells.toList=vs:=by
  cases a
  case g cs=>
    simp only [pL] at h
    simp only [fX,gV,h] at ha
    cases ha;rfl
  all_goals
    simp only [pL,aZ] at h
    split at h
    · cases h
    · rename_i u hu
      cases h
      have h2:=aRS hu
      rw [ha] at h2;cases h2
      have:=aJ1 hu
      cases v <;> first | rfl | cases this
end
theorem aZS{B:Bl}{a:SV}{v:Value}(h:bZ B a=some v)(hc:pL a=[a]):∃vs,aZ (bZ B) (pL a)=some vs:=⟨[v],by rw [hc];simp only [aZ,h]⟩
theorem T1{B:Bl}{a:SV}{v:Value}(h:isCells a=true)(ha:fX B a=some v):∃vs,aZ (bZ B) (pL a)=some vs:=by
  cases a
  case g cs=>
    simp only [fX,gV] at ha
    split at ha
    · rename_i vs hv;exact⟨vs,hv⟩
    · cases ha
  case t=>cases h
  case f=>cases h
  case u=>cases h
  all_goals exact aZS ha rfl
theorem aWU(off:Nat):∀(vs:List Value) (k:Nat) (cells:Array Value),((vs.zipIdx k).foldl (fun cs (q:Value×Nat)=>cs.setIfInBounds (off+q.2) q.1) cells).toList=SG cells.toList (off+k) vs
  | [],k,cells=>rfl
  | v :: vs, k, cells => by
    simp only [List.zipIdx_cons,List.foldl_cons,SG]
    rw [aWU off vs (k+1)]
    simp [UP]
theorem aG1{n:Nat}{B:Bl}{e:SE}{a:Act}(hA:fY n B e a){fs:List (Nat×Nat)}:∀(ps:List (Nat×Operand)) {cs r:List SV} {cells:Array Value},aZ (bZ B) cs=some cells.toList→aHV e fs ps cs=some r →
    ∃vs rs,evs (vE B e) (ps.map (·.2))=some vs∧aZ (bZ B) r=some rs∧Instr.fill (fs.toArray[·]?) cells ((ps.map (·.1)).zip vs)=some rs.toArray
  | [], cs, r, cells, hc, h => by
    cases h
    exact⟨[],cells.toList,rfl,hc,by simp [Instr.fill]⟩
  | (ix, o) :: ps, cs, r, cells, hc, h => by
    simp only [aHV] at h
    split at h
    · rename_i f m v h1 h2
      split at h
      · rename_i h3 h4 h5
        split at h
        case h_2=>cases h
        rename_i ds hds
        have h4:=l7 h4
        have h5:=AR h5
        have:=LD hds
        rw [aH1 _ _ _ (by omega)] at this
        subst this
        obtain⟨u,h6,h7⟩:=eR hA h2
        obtain⟨ws,h8⟩:=T1 h3 h6
        have h9:=MP h6 h8
        have hl:=mL h8
        have hl2:=mL hc
        have hu:u.cells.size=m:=by rw [←Array.length_toList,h9,hl,h4]
        have hcs:cells.size=cs.length:=by rw [←hl2];simp
        have h10:aZ (bZ B) (aU7 cs f (pL v))=some ((u.cells.zipIdx.foldl (fun cs (q:Value×Nat)=>cs.setIfInBounds (f+q.2) q.1) cells).toList):=by
          have:=aWU f u.cells.toList 0 cells
          rw [←Array.toList_zipIdx,Array.foldl_toList] at this
          rw [this,h9]
          exact US f hc h8
        obtain⟨vs,rs,g1,g2,g3⟩:=aG1 hA ps h10 h
        refine⟨u :: vs,rs,by simp only [DX,evs,h7,g1],g2,?_⟩
        have hp:fs.toArray[ix]?=some (f,m):=by simpa using h1
        simp only [DX,List.zip_cons_cons,Instr.fill,hp]
        rw [if_neg (by rw [hu,hcs];simp;omega)]
        exact g3
      · cases h
    · cases h
noncomputable section
variable {P:Program} {T:TT} {n:Nat} {B:Bl} {e:SE} {a:Act} {o:Oper} {w w':World} {x y:Operand} {c:Ctx} {L:List Ch}
theorem aPE(hT:HD P T)(hA:fY n B e a){t:TypeId}{ps:Array (Nat×Operand)}{r:SV}(ho:o.op=.build t ps)(h:aL5 T e t ps.toList=some r):∃v,fX B r=some v∧dW P o (vE B e) w v w:=by
  unfold aL5 at h
  split at h
  · rename_i fs _ z h1
    split at h
    · rename_i cs h2
      cases h
      obtain⟨d,hd,Fs,rfl,_,_,hp⟩:=hT.und _ _ h1
      obtain⟨zv,hz,hzc⟩:=hT.zero _ _ h1
      have hzc':aZ (bZ B) z=some zv.cells.toList:=by
        have:=fH (g:=bZ B) (fun x v h=>by simpa using gH (B:=[]) B h) hzc
        exact this
      obtain⟨vs,rs,g1,g2,g3⟩:=aG1 hA ps.toList hzc' h2
      exact⟨_,by simp only [fX,gV,g2],aQT (ps:=ps.toList) (by simpa using ho) hz hd hp g1 g3⟩
    · cases h
  · cases h
theorem aH2(hT:HD P T)(hA:fY n B e a)(hS:mW c w B L){r:SV}(h:ev1 T e L o.op=some r):∃v,fX B r=some v∧dW P o (vE B e) w v w:=by
  generalize ho:o.op=op at h
  unfold ev1 at h
  split at h
  · obtain⟨v,h1,h2⟩:=eR hA h;exact⟨v,h1,nL ho h2⟩
  · obtain⟨v,h1,h2⟩:=eR hA h;exact⟨v,h1,D1 ho h2⟩
  · split at h
    · rename_i heq
      cases h;obtain⟨v,h1,h2⟩:=eR hA heq
      refine⟨v,h1,?_⟩
      simp only [fX,gV,bZ] at h1
      split at h1
      · cases h1;exact aQI ho h2
      · cases h1
    · rename_i heq
      cases h;obtain⟨v,h1,h2⟩:=eR hA heq
      refine⟨v,h1,?_⟩
      cases h1;exact aQI ho h2
    · rename_i heq
      cases h;obtain⟨v,h1,h2⟩:=eR hA heq
      refine⟨v,h1,?_⟩
      simp only [fX] at h1
      split at h1
      · cases h1;exact aNG ho (fun _ h=>by cases h) h2
      · cases h1
    · rename_i heq
      cases h;obtain⟨v,h1,h2⟩:=eR hA heq
      refine⟨v,h1,?_⟩
      simp only [fX,gV,bZ] at h1
      split at h1
      · cases h1;exact aNG ho (fun _ h=>by cases h) h2
      · cases h1
    · cases h
  · split at h
    · rename_i heq
      obtain⟨v,h1,h2⟩:=eR hA heq
      cases h1
      obtain⟨u,h3,h4⟩:=eR hA h
      exact⟨u,h3,wD ho h2 rfl h4⟩
    · rename_i heq
      obtain⟨v,h1,h2⟩:=eR hA heq
      cases h1
      obtain⟨u,h3,h4⟩:=eR hA h
      exact⟨u,h3,AT ho h2 rfl h4⟩
    · cases h
  · split at h
    · rename_i heq
      cases h;obtain⟨v,h1,h2⟩:=eR hA heq
      cases h1;exact⟨_,rfl,aBU ho h2⟩
    · rename_i heq
      cases h;obtain⟨v,h1,h2⟩:=eR hA heq
      cases h1;exact⟨_,rfl,aBU ho h2⟩
    · cases h
  · split at h
    · rename_i heq
      cases h;obtain⟨v,h1,h2⟩:=eR hA heq
      cases h1;exact⟨_,rfl,aXF ho h2⟩
    · cases h
  · split at h
    · rename_i h1 h2
      obtain⟨v,g1,g2⟩:=eR hA h1
      obtain⟨u,g3,g4⟩:=eR hA h2
      exact aX6 hT ho g2 g4 g1 g3 h2 h
    · cases h
  · split at h
    · rename_i h1
      obtain⟨v,g1,g2⟩:=eR hA h1
      exact aVB hT ho g2 g1 h
    · cases h
  · split at h
    · rename_i h1
      obtain⟨v,g1,g2⟩:=eR hA h1
      simp only [fX] at g1
      split at g1
      · rename_i xs _ vs h3
        cases g1
        obtain⟨u,h4,h5⟩:=P9 h3 h
        exact⟨u,aZR h4,aLX ho g2 (by simpa using h5)⟩
      · cases g1
    · cases h
  · split at h
    · rename_i h1
      obtain⟨v,g1,g2⟩:=eR hA h1
      exact aRV hT ho g2 g1 h
    · cases h
  · split at h
    · rename_i h1
      obtain⟨v,g1,g2⟩:=eR hA h1
      exact aRY hT hS ho g2 g1 h
    · cases h
  · exact aPE hT hA ho h
  · split at h
    · rename_i h1 h2
      obtain⟨v,g1,g2⟩:=eR hA h1
      obtain⟨d,hd,hd2⟩:=hT.und _ _ h2
      unfold aZQ at h
      split at h
      · split at h
        · cases h;cases g1;simp only at hd2;subst hd2
          exact⟨_,rfl,aQL hd ho g2⟩
        · cases h
      · split at h
        · cases h;cases g1;simp only at hd2;subst hd2
          exact⟨_,rfl,aUO hd ho g2⟩
        · cases h
      · cases h
    · cases h
  · cases h
end
def qV(n:Nat)(c:Ctx)(B0:Bl)(m:Nat)(e:SE)(L:List Ch)(a:Act)(w:World):Prop:=∃B,(B0++B).length=m∧fY n (B0++B) e a∧mW c w (B0++B) L
end Go.Gv
end
noncomputable section
namespace Go.Gv
noncomputable section
variable {m:Nat} {e:SE} {L:List Ch}
theorem aB8{B:Bl}{m:Nat}{x:SV}{v:Value}(hv:bZ B x=some v)(h:∀n o,x=.p n o→n < m):bZ (B.take m) x=some v:=by
  cases x <;> simp only [bZ] at hv ⊢ <;> try exact hv
  rename_i n o
  rw [G8,if_pos (h n o rfl)];exact hv
theorem HI{B:Bl}{m:Nat}:∀{cs:List SV} {vs:List Value},HC.okC m cs=true→aZ (bZ B) cs=some vs→aZ (bZ (B.take m)) cs=some vs
  | [],vs,_,h=>h
  | x :: cs, vs, ho, h => by
    simp only [aZ] at h
    split at h
    · cases h
    · rename_i h1
      split at h
      · cases h
      · rename_i h2
        cases h
        have hx:(∀n o,x=.p n o→n < m)∧HC.okC m cs=true:=by
          simp only [HC.okC] at ho
          cases x <;> try exact⟨fun _ _ h=>(by cases h),ho⟩
          · rename_i n o
            simp only at ho
            split at ho
            · rename_i hb
              exact⟨fun n' o' he=>by cases he;simpa [pI] using hb,ho⟩
            · cases ho
          · cases ho
        simp [aZ,aB8 h1 hx.1,HI hx.2 h2]
theorem aNV{B:Bl}{m:Nat}:∀{cs:List SV} {vs:List Value},HC.okT m cs=true→aZ (gV B) cs=some vs→aZ (gV (B.take m)) cs=some vs
  | [],vs,_,h=>h
  | x :: cs, vs, ho, h => by
    simp only [aZ] at h
    split at h
    · cases h
    · rename_i y0 h1
      split at h
      · cases h
      · rename_i h2
        cases h
        have hx:gV (B.take m) x=some y0∧HC.okT m cs=true:=by
          simp only [HC.okT] at ho
          cases x <;> try exact⟨h1,ho⟩
          · rename_i n o
            simp only at ho
            split at ho
            · rename_i hb
              refine⟨aB8 (x:=.p n o) h1 (fun n' o' he=>by cases he;simpa [pI] using hb),ho⟩
            · cases ho
          · rename_i ds
            simp only at ho
            split at ho
            · rename_i hb
              refine⟨?_,ho⟩
              simp only [gV] at h1 ⊢
              split at h1
              · rename_i h3;rw [HI hb h3];exact h1
              · cases h1
            · cases ho
        simp [aZ,hx.1,aNV hx.2 h2]
theorem aNW{B:Bl}{m:Nat}:∀{cs:List Nat} {vs:List Value},HC.okF m cs=true→aZ (W4 B) cs=some vs→aZ (W4 (B.take m)) cs=some vs
  | [],vs,_,h=>h
  | x :: cs, vs, ho, h => by
    simp only [aZ] at h
    split at h
    · cases h
    · rename_i y0 h1
      split at h
      · cases h
      · rename_i h2
        cases h
        simp only [HC.okF] at ho
        split at ho
        · rename_i hb
          have hx:W4 (B.take m) x=some y0:=by
            unfold W4 at h1 ⊢
            rw [G8,if_pos (by simpa [pI] using hb)];exact h1
          simp [aZ,hx,aNW ho h2]
        · cases ho
theorem NO{B:Bl}{m:Nat}{x:SV}{v:Value}(h:HC m x=true)(hv:fX B x=some v):fX (B.take m) x=some v:=by
  cases x
  case p n o=>exact aB8 (x:=.p n o) hv (fun n' o' he=>by cases he;simpa [HC,pI] using h)
  case g cs=>
    simp only [fX,gV] at hv ⊢
    split at hv
    · rename_i h1;rw [HI h h1];exact hv
    · cases hv
  case t cs=>
    simp only [fX] at hv ⊢
    split at hv
    · rename_i h1;rw [aNV h h1];exact hv
    · cases hv
  case f f cs=>
    simp only [fX] at hv ⊢
    split at hv
    · rename_i h1;rw [aNW h h1];exact hv
    · cases hv
  all_goals exact hv
theorem aRZ{B:Bl}{z x:SV}:bZ B (re1 z x)=bZ B x:=by
  cases z <;> cases x <;> rfl
theorem aVD{B:Bl}{z x:SV}:fX B (re1 z x)=fX B x:=by
  cases z <;> cases x <;> rfl
theorem aNX{B:Bl}:∀{cs ds:List SV},aZ (bZ B) (reC cs ds)=aZ (bZ B) ds
  | [],[]=>rfl
  | [],_ :: _=>rfl
  | _ :: _,[]=>rfl
  | c :: cs,d :: ds=>by simp only [reC,aZ,aRZ,aNX]
theorem aR0{B:Bl}{x:SV}:bZ B (nb1 x)=bZ B x:=by cases x <;> rfl
theorem NP{B:Bl}:∀{cs:List SV},aZ (bZ B) (nbL cs)=aZ (bZ B) cs
  | []=>rfl
  | c :: cs=>by simp only [nbL,aZ,aR0,NP]
theorem aX7{B:Bl}{x:SV}:gV B (nbG x)=gV B x:=by
  cases x <;> try rfl
  simp only [nbG,gV,NP]
theorem aNY{B:Bl}:∀{cs:List SV},aZ (gV B) (nbT cs)=aZ (gV B) cs
  | []=>rfl
  | c :: cs=>by simp only [nbT,aZ,aX7,aNY]
theorem aH3{B:Bl}{x:SV}:fX B (nbG x)=fX B x:=by
  cases x <;> try rfl
  simp only [nbG,fX,gV,NP]
theorem aA8{B:Bl}{x:SV}:fX B (nbS x)=fX B x:=by
  cases x with
  | g cs=>exact aH3 (x:=.g cs)
  | t xs=>simp only [nbS,fX,aNY]
  | _=>rfl
theorem aNZ{B:Bl}:∀{cs:List SV},aZ (fX B) (nbT cs)=aZ (fX B) cs
  | []=>rfl
  | c :: cs=>by simp only [nbT,aZ,aH3,aNZ]
theorem R2{B:Bl}:∀{cs:List SV},aZ (fX B) (nbA cs)=aZ (fX B) cs
  | []=>rfl
  | c :: cs => by
    simp only [nbA]
    split
    · simp only [aZ,R2];rfl
    · simp only [aZ,aH3,R2]
theorem aR1{e:SE}:∀{e' s:SE} {k:Nat} {x:SV},reE e e'=some s→DY s k=some x→∃y,DY e k=some y∧∀B,fX B x=fX B y
  | [],s,k,x,h,hk=>by cases h;cases hk
  | (j, y) :: r, s, k, x, h, hk => by
    simp only [reE] at h
    split at h
    · rename_i z hz
      split at h
      · rename_i s' hs
        cases h
        simp only [DY] at hk
        cases hb:Nat.beq k j with
        | true=>rw [hb] at hk;cases hk;rw [l7 hb];exact⟨z,hz,fun B=>aVD⟩
        | false=>rw [hb] at hk;exact aR1 hs hk
      · cases h
    · cases h
theorem aH4{B:Bl}{w:World}{R:List Fact}:∀(M L:List Ch),jB w (L.map (jW B)) ((reL M L).map (jW B))∧((∀x∈L,roF B R x)→∀x∈reL M L,roF B R x)
  | [],L=>by simp only [reL];exact⟨jB.refl _,fun h=>h⟩
  | x :: M,[]=>by cases x <;> exact⟨.nil,fun h=>h⟩
  | x :: M, y :: L => by
    obtain⟨h1,h2⟩:=aH4 (B:=B) (w:=w) (R:=R) M L
    have gen:reL (x :: M) (y :: L)=y :: reL M L→jB w ((y :: L).map (jW B)) ((reL (x :: M) (y :: L)).map (jW B))∧((∀x∈y :: L,roF B R x)→∀z∈reL (x :: M) (y :: L),roF B R z):=fun he=>by
      rw [he]
      refine⟨.cons (fun _ h=>h) h1,fun h z hz=>?_⟩
      rcases iA.1 hz with hz | hz
      · subst hz;exact h _ (by simp)
      · exact h2 (fun x hx=>h x (jV _ hx)) z hz
    cases x with
    | box n cs =>
      cases y with
      | box k ds =>
        simp only [reL]
        refine⟨.cons (fun F ⟨b,z,vs,k1,k2,k3⟩=>⟨b,z,vs,k1,by rw [aNX];exact k2,k3⟩) h1,fun h z hz=>?_⟩
        rcases iA.1 hz with hz | hz
        · subst hz;trivial
        · exact h2 (fun x hx=>h x (jV _ hx)) z hz
      | _=>exact gen rfl
    | _=>exact gen (by cases y <;> rfl)
theorem aR2{m:Nat}:∀{s:SE} {k:Nat} {x:SV},okE m s=true→DY s k=some x→HC m x=true
  | [],k,x,h,hk=>by cases hk
  | (j, y) :: r, k, x, h, hk => by
    simp only [okE] at h
    split at h
    · rename_i ho
      simp only [DY] at hk
      cases hb:Nat.beq k j with
      | true=>rw [hb] at hk;cases hk;exact ho
      | false=>rw [hb] at hk;exact aR2 h hk
    · cases h
theorem aH5{m:Nat}:∀{L:List Ch} {x:Ch},okL m L=true→x∈L→(∀n cs,x=.box n cs∨x=.ro n cs→n < m∧HC.okC m cs=true)
  | y :: L, x, h, hx, n, cs, he => by
    have key:(∀n cs,y=.box n cs∨y=.ro n cs→n < m∧HC.okC m cs=true)∧okL m L=true:=by
      cases y with
      | box k c =>
        simp only [okL] at h
        split at h
        · rename_i h1 h2
          refine⟨fun n cs he=>?_,h⟩
          rcases he with he | he <;> cases he
          exact⟨by simpa [pI] using h1,h2⟩
        · cases h
      | ro k c =>
        simp only [okL] at h
        split at h
        · rename_i h1 h2
          refine⟨fun n cs he=>?_,h⟩
          rcases he with he | he <;> cases he
          exact⟨by simpa [pI] using h1,h2⟩
        · cases h
      | o c=>exact⟨fun n cs he=>(by rcases he with he | he <;> cases he),h⟩
      | f c=>exact⟨fun n cs he=>(by rcases he with he | he <;> cases he),h⟩
      | no=>exact⟨fun n cs he=>(by rcases he with he | he <;> cases he),h⟩
      | w k b z =>
        simp only [okL] at h
        split at h
        · exact⟨fun n cs he=>(by rcases he with he | he <;> cases he),h⟩
        · cases h
    rcases iA.1 hx with hx | hx
    · subst hx;exact key.1 n cs he
    · exact aH5 key.2 hx n cs he
theorem aWV{m n b z:Nat}:∀{L:List Ch},okL m L=true→Ch.w n b z∈L→n < m
  | y :: L, h, hx => by
    have key:(y=.w n b z→n < m)∧okL m L=true:=by
      cases y with
      | box k c =>
        simp only [okL] at h
        split at h
        · exact⟨fun he=>(by cases he),h⟩
        · cases h
      | ro k c =>
        simp only [okL] at h
        split at h
        · exact⟨fun he=>(by cases he),h⟩
        · cases h
      | w k b z =>
        simp only [okL] at h
        split at h
        · rename_i h1
          exact⟨fun he=>(by cases he;simpa [pI] using h1),h⟩
        · cases h
      | o c=>exact⟨fun he=>(by cases he),h⟩
      | f c=>exact⟨fun he=>(by cases he),h⟩
      | no=>exact⟨fun he=>(by cases he),h⟩
    rcases iA.1 hx with hx | hx
    · exact key.1 hx.symm
    · exact aWV key.2 hx
theorem aH6{L:List Ch}:∀{is:List Nat} {x:Ch},x∈kl L is→x∈L
  | i :: is, x, h => by
    simp only [kl] at h
    split at h
    · rename_i y hy
      rcases iA.1 h with h | h
      · subst h;exact AQ hy
      · exact aH6 h
    · exact aH6 h
theorem aN0{B:Bl}{w:World}{L:List Ch}:∀(is:List Nat),∃is',(∀j∈is',j∈is)∧(dR is=true→dR is'=true)∧jB w (pick (L.map (jW B)) is') ((kl L is).map (jW B))
  | []=>⟨[],by simp,fun h=>h,.nil⟩
  | i :: is => by
    obtain⟨is',h1,h2,h3⟩:=aN0 (B:=B) (w:=w) (L:=L) is
    cases hi:L[i]? with
    | none =>
      refine⟨is',fun j hj=>jV _ (h1 j hj),fun h=>h2 ?_,?_⟩
      · simp only [dR,DS] at h;exact h.2
      · simp only [kl,hi];exact h3
    | some x =>
      refine⟨i :: is',fun j hj=>?_,fun h=>?_,?_⟩
      · rcases iA.1 hj with h | h
        · subst h;simp
        · exact jV _ (h1 j h)
      · simp only [dR,DS] at h ⊢
        refine⟨?_,h2 h.2⟩
        rw [WZ] at h ⊢
        exact fun j hj=>h.1 j (h1 j hj)
      · simp only [kl,hi,pick,FU,OO,Option.getD_some,DX]
        exact .cons (fun _ h=>h) h3
theorem aR3{c:Ctx}{w:World}{B:Bl}(h:mW c w B L)(is:List Nat)(ha:dR is=true):mW c w B (kl L is):=by
  obtain⟨⟨R,s1,s2⟩,s0⟩:=h
  obtain⟨is',_,h2,h3⟩:=aN0 (B:=B) (w:=w) (L:=L) is
  exact⟨⟨R,(s1.NI is' (h2 ha)).imp h3,fun x hx=>s2 x (aH6 hx)⟩,s0⟩
theorem aH7{c:Ctx}{w:World}{B:Bl}{m:Nat}{L:List Ch}(h:mW c w B L)(ho:okL m L=true):mW c w (B.take m) L:=by
  obtain⟨⟨R,s1,s2⟩,s0⟩:=h
  have key:∀x∈L,∀F,(jW B x).P w F→(jW (B.take m) x).P w F:=by
    intro x hx F hF
    cases x with
    | box n cs =>
      obtain⟨h1,h2⟩:=aH5 ho hx n cs (.inl rfl)
      obtain⟨b,z,vs,k1,k2,k3⟩:=hF
      exact⟨b,z,vs,by rw [G8,if_pos h1];exact k1,HI h2 k2,k3⟩
    | _=>exact hF
  have imp:∀(M:List Ch),(∀x∈M,x∈L)→jB w (M.map (jW B)) (M.map (jW (B.take m))):=by
    intro M
    induction M with
    | nil=>exact fun _=>.nil
    | cons x M ih=>exact fun hM=>.cons (key x (hM x (by simp))) (ih fun y hy=>hM y (jV _ hy))
  refine⟨⟨R,s1.imp (imp L fun _ h=>h),fun x hx=>?_⟩,s0⟩
  have:=s2 x hx
  cases x with
  | ro n cs =>
    obtain⟨h1,h2⟩:=aH5 ho hx n cs (.inr rfl)
    obtain⟨b,z,vs,k1,k2,k3⟩:=this
    exact⟨b,z,vs,by rw [G8,if_pos h1];exact k1,HI h2 k2,k3⟩
  | w n b z =>
    have h1:=aWV ho hx
    exact(by rw [G8,if_pos h1];exact this:(List.take m B)[n]?=some (b,z))
  | _=>exact this
theorem aX8{c:Ctx}{w:World}{B:Bl}{L:List Ch}(h:mW c w B L)(M:List Ch):mW c w B (reL M L):=by
  obtain⟨⟨R,s1,s2⟩,s0⟩:=h
  exact⟨⟨R,s1.imp (aH4 (R:=R) M L).1,(aH4 (w:=w) M L).2 s2⟩,s0⟩
theorem Rel.as{n:Nat}{c:Ctx}{B0:Bl}{m':Nat}{e':SE}{L':List Ch}{a:Act}{w:World}(hr:qV n c B0 m e L a w)(is:List Nat)(ha:dR is=true){f:SE}{M:List Ch}(h:asS e L is m' f M=some (e',L'))(hm:m'≤m)(h0:B0.length≤m'):qV n c B0 m' e' L' a w:=by
  unfold asS at h
  split at h
  · rename_i s hs
    split at h
    · rename_i h1 h2
      cases h
      obtain⟨B,hl,hA,hS⟩:=hr
      have hB:(B0++B).take m'=B0++B.take (m' - B0.length):=by
        rw [List.take_append,List.take_of_length_le h0]
      refine⟨B.take (m' - B0.length),by rw [←hB];simp only [xZ,hl];omega,?_,?_⟩
      · rw [←hB]
        exact⟨hA.d,hA.size,fun k x hk=>by
          obtain⟨y,q1,q2⟩:=aR1 hs hk
          obtain⟨v,k1,k2⟩:=hA.get k y q1
          exact⟨v,NO (aR2 h1 hk) (by rw [q2];exact k1),k2⟩⟩
      · rw [←hB]
        exact aH7 (aX8 (aR3 hS is ha) _) h2
    · cases h
  · cases h
theorem qV.SW{n:Nat}{c:Ctx}{B0:Bl}{m':Nat}{e':SE}{L':List Ch}{a:Act}{w:World}(hr:qV n c B0 m e L a w)(is:List Nat){f:SE}{M:List Ch}(h:SW B0.length m e L is m' f M=some (e',L')):qV n c B0 m' e' L' a w:=by
  unfold Go.Gv.SW at h
  split at h
  · rename_i h1 h2 h3
    exact Rel.as hr is h3 h (AR h2) (AR h1)
  · cases h
end
end Go.Gv
end
noncomputable section
namespace Go.Gv
noncomputable section
variable {P:Program} {T:TT} {n:Nat} {B:Bl} {e:SE} {a:Act} {o:Oper} {w w':World} {x y:Operand} {c:Ctx} {L:List Ch}
theorem T2{ops:Array Oper}(h:AF ops e o.guard=.yes):Want ops o (vE B e) true:=by
  unfold AF at h
  split at h
  · exact cA (by assumption)
  · rename_i j w hg
    split at h
    · rename_i q hq
      split at h
      · rename_i s hs
        have hj:(ops[j]?).bind (·.dst)=some s:=by rw [←Array.getElem?_toList,hq];exact hs
        split at h
        · rename_i c hl
          have hv:lk (vE B e) s=some (.bool c):=by rw [aB7 hl];rfl
          refine cG hg hj hv ?_
          split at h <;> first | rfl | cases h
        all_goals cases h
      · cases h
    · cases h
theorem aWW{ops:Array Oper}(h:AF ops e o.guard=.no):Want ops o (vE B e) false:=by
  unfold AF at h
  split at h
  · cases h
  · rename_i j w hg
    split at h
    · rename_i q hq
      split at h
      · rename_i s hs
        have hj:(ops[j]?).bind (·.dst)=some s:=by rw [←Array.getElem?_toList,hq];exact hs
        split at h
        · rename_i c hl
          have hv:lk (vE B e) s=some (.bool c):=by rw [aB7 hl];rfl
          refine cG hg hj hv ?_
          cases c <;> cases w <;> first | rfl | cases h
        · rename_i hl
          exact aUR hg hj (by rw [aB7 hl];rfl)
        all_goals cases h
      · cases h
    · cases h
theorem aJ3{m:Nat}:∀{L:List Ch},OQ m L=true→∃i cs,L[i]?=some (.box m cs)∧HB m L=some cs∧∀cs',xS m cs' L=L.set i (.box m cs')
  | [],h=>by cases h
  | x :: L, h => by
    have ih:OQ m L=true→HB m (x :: L)=HB m L→(∀cs',xS m cs' (x :: L)=x :: xS m cs' L)→∃i cs,(x :: L)[i]?=some (.box m cs)∧HB m (x :: L)=some cs∧∀cs',xS m cs' (x :: L)=(x :: L).set i (.box m cs'):=fun h h2 h3=>by
      obtain⟨i,cs,g1,g2,g3⟩:=aJ3 h
      exact⟨i+1,cs,by simpa using g1,by rw [h2,g2],fun cs'=>by rw [h3,g3];rfl⟩
    cases x with
    | box k cs =>
      simp only [OQ] at h
      split at h
      · rename_i hb
        have:=l7 hb
        subst this
        exact⟨0,cs,rfl,by simp only [HB,hb],fun cs'=>by simp only [xS,hb];rfl⟩
      · rename_i hb
        exact ih h (by simp only [HB,hb]) (fun cs'=>by simp only [xS,hb])
    | ro k cs =>
      simp only [OQ] at h
      split at h
      · cases h
      · rename_i hb
        exact ih h (by simp only [HB,hb]) (fun cs'=>by simp only [xS])
    | o ch=>exact ih h rfl (fun _=>rfl)
    | f g=>exact ih h rfl (fun _=>rfl)
    | no=>exact ih h rfl (fun _=>rfl)
    | w k b z=>exact ih h rfl (fun _=>rfl)
theorem aPF(hT:HD P T)(hA:fY n B e a)(hS:mW c w B L){t:TypeId}{p v:SV}{L':List Ch}(ho:o.op=.store t x y)(hx:iO e x=some p)(hy:iO e y=some v)(h:TZ T t p v L=some L'):∃w',aQG P o (vE B e) w w'∧mW c w' B L':=by
  unfold TZ at h
  split at h
  · rename_i m j
    split at h
    · rename_i hb
      split at h
      · rename_i cs _ _ sz _ h1 h2
        split at h
        · rename_i h3 h4 h5
          split at h
          case h_2=>cases h
          rename_i ds hds
          have h4:=l7 h4
          have h5:=AR h5
          have:=LD hds
          rw [aH1 _ _ _ (by omega)] at this
          subst this
          split at h
          case h_2=>cases h
          rename_i L2 hL2
          cases h
          have:=LD hL2
          subst this
          obtain⟨i,cs',g1,g2,g3⟩:=aJ3 hb
          rw [h1] at g2;cases g2
          obtain⟨pv,hp1,hp2⟩:=eR hA hx
          obtain⟨u,hu1,hu2⟩:=eR hA hy
          obtain⟨vs,hv⟩:=T1 h3 hu1
          obtain⟨b,z,rs,k1,k2,_⟩:=hS.cells h1
          simp only [fX,gV,bZ,k1] at hp1
          cases hp1
          have hl:=mL hv
          have hl2:=mL k2
          obtain⟨⟨R,s1,s2⟩,s0⟩:=hS
          have hlt:=(jU.1 g1).1
          have gi:(L.map (jW B))[i]?=some (NN B m cs):=by rw [FU,g1];rfl
          have s3:St c w ((L.map (jW B)).set i (P4 b z rs)) R:=s1.imp (jB.put i gi fun F ⟨b',z',vs',q1,q2,q3⟩=>by
            rw [k1] at q1;cases q1;rw [k2] at q2;cases q2;exact q3)
          obtain⟨w2,r1,r2⟩:=aZM (P:=P) (o:=o) (e:=vE B e) (b:=b) (q:=z) (cs:=rs) (vs:=vs) (j:=j) (m:=sz) s3 (i:=i) (by rw [YK (by simpa using hlt)]) ho hp2 hu2 (MP hu1 hv) (hT.size _ _ h2) (by omega) (Nat.ble_eq_true_of_le (by omega)) (WZ.2 fun q hq=>by
            obtain⟨k,hk⟩:=YJ hq
            have hk2:k < (pL v).length:=by rw [←hl];exact(jU.1 hk).1
            obtain⟨q',hq1,hq2⟩:=P9 hv (eI hk2)
            rw [hk] at hq2;cases hq2
            exact aJ1 hq1)
          refine⟨w2,r1,⟨⟨R,?_,?_⟩,s0⟩⟩
          · rw [KC] at r2
            rw [g3,KB]
            exact r2.imp (jB.set i (jB.refl _) fun F hF=>⟨b,z,_,k1,US j k2 hv,hF⟩)
          · rw [g3]
            intro q hq
            rcases oW hq with hq | hq
            · exact s2 q hq
            · subst hq;trivial
        · cases h
      · cases h
    · cases h
  · cases h
theorem mW.box(hS:mW c w B L){w':World}{b:Nat}{cs:List SV}{vs:List Value}(hc:aZ (bZ B) cs=some vs)(h:∀M R,St c w M R→St c w' (M ++ [DT b vs]) R):mW c w' (B ++ [(b,0)]) (L ++ [.box B.length cs]):=by
  obtain⟨⟨R,s1,s2⟩,s0⟩:=hS
  refine⟨⟨R,?_,?_⟩,s0⟩
  · rw [BJ]
    refine(h _ _ s1).imp (jB.append (R1 _ L) (.cons (fun F hF=>⟨b,0,vs,by simp,fH (fun _ _=>gH _) hc,hF⟩) .nil))
  · intro q hq
    rcases gK.1 hq with hq | hq
    · exact aHZ _ (s2 q hq)
    · simp at hq;subst hq;trivial
theorem aR4(hT:HD P T)(hS:mW c w B L){t:TypeId}{i:TI}{E:Env}(ho:o.op=.alloc t)(h:BF T t=some i):∃v w' b,dW P o E w v w'∧v=.pointer (some ⟨b,0,none⟩)∧mW c w' (B ++ [(b,0)]) (L ++ [.box B.length i.z]):=by
  obtain⟨z,hz,hzc⟩:=hT.zero _ _ h
  have hzc':aZ (bZ B) i.z=some z.cells.toList:=fH (fun x v h=>by simpa using gH (B:=[]) B h) hzc
  refine⟨_,_,w.heap.size,fun _ a hA=>?_,rfl,hS.box hzc' fun M R hM=>hM.alloc z.cells.toList t⟩
  simp [execOp,ho,Instr.alloc,hz,newVar,newRow]
theorem aX9(hA:fY n B e a)(hS:mW c w B L){t:TypeId}{v:SV}(ho:o.op=.box t x)(h:iO e x=some v)(hc:isCells v=true):∃u w' b,dW P o (vE B e) w u w'∧u=.pointer (some ⟨b,0,none⟩)∧mW c w' (B ++ [(b,0)]) (L ++ [.box B.length (pL v)]):=by
  obtain⟨u,h1,h2⟩:=eR hA h
  obtain⟨vs,h3⟩:=T1 hc h1
  have h4:=MP h1 h3
  subst h4
  refine⟨_,_,w.heap.size,fun _ a hA=>?_,rfl,hS.box h3 fun M R hM=>hM.alloc u.cells.toList t⟩
  simp [execOp,ho,Instr.box,hA.eval h2,newVar,newRow]
end
structure Gx where
  P:Program
  T:TT
  hT:HD P T
  n:Nat
  c:Ctx
  B0:Bl
  N:Act→World→Prop
  X:Nat→Act→World→Prop
  Q:Act→World→Prop
abbrev Rel(g:Gx)(m:Nat)(e:SE)(L:List Ch)(a:Act)(w:World):Prop:=qV g.n g.c g.B0 m e L a w
mutual
def NK(g:Gx):List Fr→Act→World→Prop
  | []=>g.N
  | .s y :: K=>fun a w=>CW g.P y (NK g K) (XK g K) g.Q a w
  | .k _ :: K=>NK g K
def XK(g:Gx):List Fr→Nat→Act→World→Prop
  | []=>g.X
  | .s _ :: K=>XK g K
  | .k id :: K=>YP id (NK g K) (XK g K)
end
structure W5 (g:Gx) (B1:Bl) (ops:Array Oper) (l:List Bool) (is:List Nat) (Lf L:List Ch):Prop where
  pre:∃B,B1=g.B0++B
  len:l.length=ops.size
  free:aJ0 ops=true
  BM:kl L is=Lf
  rng:∀j∈is,j < L.length
  okf:okL B1.length Lf=true
  ap:dR is=true
abbrev Sd(g:Gx)(B1:Bl)(Lf:List Ch):World→Prop:=fun w=>mW g.c w B1 Lf
def aZT(g:Gx)(B1:Bl)(Lf Lv:List Ch)(m:Nat)(e:SE)(L:List Ch)(a:Act)(w:World):Prop:=∃B,(B1++B).length=m∧fY g.n (B1++B) e a∧mW g.c w (B1++B) L∧∀w',mW g.c w' B1 Lf→mW g.c w' (B1++B) Lv
def G(g:Gx)(K:List Fr)(m:Nat)(e:SE)(L:List Ch):xR→Prop
  | .n=>∀a w,Rel g m e L a w→NK g K a w
  | .c x=>∀a w,Rel g m e L a w→CW g.P x (NK g K) (XK g K) g.Q a w
  | .r ops l=>∀a w,Rel g m e L a w→wpList g.P ops (mkQ (NK g K) (XK g K) g.Q) l a w
  | .d B1 ops l is Lf Lv=>W5 g B1 ops l is Lf L→∀a w,aZT g B1 Lf Lv m e L a w→wpAnyH g.P .any ops (mkQ (NK g K) (XK g K) g.Q) (Sd g B1 Lf) (l.count false) l.toArray a w
  | .o B1 ops l is Lf Lv i=>W5 g B1 ops l is Lf L→∀a w,aZT g B1 Lf Lv m e L a w→wpOp g.P ops (mkQ (NK g K) (XK g K) g.Q) i (fun a' w'=>Sd g B1 Lf w'∧wpAnyH g.P .any ops (mkQ (NK g K) (XK g K) g.Q) (Sd g B1 Lf) ((l.set i true).count false) (l.set i true).toArray a' w') a w
def UJ(g:Gx):xR→Bl
  | .d B1 _ _ _ _ _=>B1
  | .o B1 _ _ _ _ _ _=>B1
  | _=>g.B0
def Frz(g:Gx)(cf:xR)(L L':List Ch):Prop:=match cf with
  | .d B1 ops l is Lf _=>W5 g B1 ops l is Lf L→kl L' is=Lf∧∀j∈is,j < L'.length
  | .o B1 ops l is Lf _ _=>W5 g B1 ops l is Lf L→kl L' is=Lf∧∀j∈is,j < L'.length
  | _=>True
def UU(g:Gx)(K:List Fr)(m:Nat)(e:SE)(L:List Ch)(o:Oper)(Lv:List Ch)(cf cf':xR):Prop:=
  ∀(d:Nat) (x:SV) (Ln:List Ch) (nb:World→Bl) (k:Nat),o.dst=some d→(∀w,(nb w).length=k) →
    (∀B a w,fY g.n B e a→mW g.c w B Lv→B.length=m→∃v,fX (B++nb g.c.w0) x=some v∧dW g.P o (vE B e) w v w) →
    (∀B w L,B.length=m→mW g.c w B L→mW g.c w (B++nb g.c.w0) (L++Ln)) →
    G g K (m+k) ((d,x) :: e) (L++Ln) (cf'.ext Ln)→G g K m e L cf
def YT(g:Gx)(K:List Fr)(m:Nat)(e:SE)(L:List Ch)(o:Oper)(cf cf':xR):Prop:=
  ∀(ι:Type) (m':ι→Nat) (e':ι→SE) (L':ι→List Ch),(∀i,Frz g cf L (L' i)) →
    (∀B a w (next:Act→World→Prop) (Q:Exit→Act→World→Prop),(UJ g cf++B).length=m→fY g.n (UJ g cf++B) e a→mW g.c w (UJ g cf++B) L→(∀i a' w',qV g.n g.c (UJ g cf++B) (m' i) (e' i) (L' i) a' w'→next a' w')→o.wp g.P a w next Q) →
    (∀i,G g K (m' i) (e' i) (L' i) cf')→G g K m e L cf
def Gs(g:Gx):Stop→Prop
  | .ret m e L=>∀a w,Rel g m e L a w→g.Q a w
  | .fin m e L=>∀a w,Rel g m e L a w→g.N a w
  | .ex id m e L=>∀a w,Rel g m e L a w→g.X id a w
  | .cond o b x y K m e L=>iO e o=some (.b b)→G g K m e L (.c (.cond o x y))
  | .case _ cf K m e L=>G g K m e L cf
  | .loop id y K m e L=>G g K m e L (.c (.block id (.loop y)))
  | .idx o d t s n i Lv cf cf' K m e L=>(∀x y,o.op=.indexAddr t x y→o.dst=some d→iO e x=some (.h s n)→iO e y=some (.i .i64 i)→UU g K m e L o Lv cf cf'→G g K m e L cf)
  | .call o d f xs cf cf' K m e L=>(∀fo args ats,o.op=.call {callee:=.value fo,args:=args,argTypes:=ats}→o.dst=d→iO e fo=some (.f f [])→(∃ys,aZ (iO e) args.toList=some ys∧nbA ys=xs)→okA xs=true→rY g.n d=true→YT g K m e L o cf cf'→G g K m e L cf)
  | .callp o d f xs cf cf' K m e L=>(∀fo args ats,o.op=.call {callee:=.value fo,args:=args,argTypes:=ats}→o.dst=d→iO e fo=some (.f f [])→(∃ys,aZ (iO e) args.toList=some ys∧nbA ys=xs)→rY g.n d=true→YT g K m e L o cf cf'→G g K m e L cf)
  | .op o Lv cf cf' K m e L=>rY g.n o.dst=true→UU g K m e L o Lv cf cf'→YT g K m e L o cf cf'→G g K m e L cf
  | .opp o Lv cf cf' K m e L=>rY g.n o.dst=true→UU g K m e L o Lv cf cf'→G g K m e L cf
  | .rgn id ops K m e L=>G g K m e L (.c (.region id ops true))
  | .alt cf K m e L=>G g K m e L cf
  | .stuck=>False
noncomputable section
variable {g:Gx} {K:List Fr} {m:Nat} {e:SE} {L:List Ch}
theorem aWX{a:Act}{w:World}:∀{K:List Fr},(match pop K with | some (y,K')=>CW g.P y (NK g K') (XK g K') g.Q a w | none=>g.N a w)→NK g K a w
  | [],h=>by simpa [pop,NK] using h
  | .s y :: K,h=>by simpa [pop,NK] using h
  | .k _ :: K, h => by
    have:NK g K a w:=aWX (by simpa [pop] using h)
    simpa [NK] using this
theorem aR5{a:Act}{w:World}{id:Nat}:∀{K:List Fr},(match xit id K with | some K'=>NK g K' a w | none=>g.X id a w)→XK g K id a w
  | [],h=>by simpa [xit,XK] using h
  | .s y :: K, h => by
    have:XK g K id a w:=aR5 (by simpa [xit] using h)
    simpa [XK] using this
  | .k j :: K, h => by
    simp only [xit] at h
    simp only [XK,YP]
    cases hb:Nat.beq id j with
    | true =>
      rw [hb] at h
      rw [if_pos (l7 hb)];exact h
    | false =>
      rw [hb] at h
      rw [if_neg (fun e=>by rw [e] at hb;simp at hb)]
      exact aR5 h
theorem aN1{F:Nat}(ih:∀K c m e L,Gs g (UR g.T g.n F K c m e L)→G g K m e L c)(h:Gs g (match pop K with | some (y,K')=>UR g.T g.n F K' (.c y) m e L | none=>.fin m e L)):∀a w,Rel g m e L a w→NK g K a w:=fun a w hr=>by
  refine aWX ?_
  split
  · rename_i y K' hp
    rw [hp] at h
    exact ih _ _ _ _ _ h a w hr
  · rename_i hp
    rw [hp] at h
    exact h a w hr
theorem fY.ext{n:Nat}{B nb:Bl}{a a':Act}{d:Nat}{x:SV}{v:Value}(hA:fY n B e a)(hx:fX (B++nb) x=some v)(hA':lL n ((d,v) :: vE B e) a'):fY n (B++nb) ((d,x) :: e) a':=by
  refine(hA.app nb).of hx ⟨hA'.d,hA'.size,fun k u hk=>?_⟩
  simp only [lk] at hk
  cases hb:Nat.beq k d with
  | true=>rw [hb] at hk;exact hA'.get k u (by simp only [lk,hb];exact hk)
  | false =>
    rw [hb] at hk
    obtain⟨y,h2,h3⟩:=aRT hk
    obtain⟨u2,h4,h5⟩:=hA.get k y h2
    rw [EP nb h4] at h3
    refine hA'.get k u ?_
    simp only [lk,hb]
    rw [aB7 h2,h4];simpa using h3.symm
theorem aVE{ops:Array Oper}{l:List Oper}{o:Oper}(hg:AF ops e o.guard=.yes)(hd:rY g.n o.dst=true):UU g K m e L o L (.r ops (o :: l)) (.r ops l):=by
  intro d x Ln nb k hdst hk hv hs hG a w ⟨B,hm,hA,hS⟩
  obtain⟨v,h1,h2⟩:=hv _ a w hA hS hm
  rw [hdst] at hd
  refine fF h2 (T2 hg) hdst hd (fun a' hA'=>hG a' w ⟨B++nb g.c.w0,?_,?_,?_⟩) a hA.env
  · rw [←j8,G9,hm,hk]
  · rw [←j8];exact hA.ext h1 hA'
  · rw [←j8];exact hs _ w _ hm hS
theorem aN2{ops:Array Oper}{l:List Oper}{o:Oper}(hg:AF ops e o.guard=.yes):YT g K m e L o (.r ops (o :: l)) (.r ops l):=by
  intro ι m' e' L' _ hrun hG a w hr
  have ⟨B,hm,hA,hS⟩:=hr
  refine wpList_step fun K' hK=>?_
  rw [T2 hg _ a hA.env,if_pos rfl]
  exact hrun B a w K' _ hm hA hS (fun i a' w' ⟨B',h1,h2,h3⟩=>hK a' w' (hG i a' w' ⟨B++B',by rw [←j8];exact h1,by rw [←j8];exact h2,by rw [←j8];exact h3⟩))
theorem W5.S{B1:Bl}{ops:Array Oper}{l:List Bool}{is:List Nat}{Lf:List Ch}(h:W5 g B1 ops l is Lf L){w:World}{B:Bl}(hS:mW g.c w (B1++B) L):mW g.c w B1 Lf:=by
  have h1:=aR3 hS is h.ap
  rw [h.BM] at h1
  have h2:=aH7 h1 h.okf
  rwa [YN (iW _),IV] at h2
theorem W6{d:Edge}:Region.binds .any d=aRM d.ground:=by
  cases d with
  | mk on g=>cases g <;> rfl
theorem aA9{l:List Bool}:∀{es:List Edge},LC l es=true↔∀d∈es,Region.binds .any d=true→l[d.on]?=some true
  | []=>by simp [LC]
  | ⟨on, gr⟩ :: r => by
    have ih:=aA9 (l:=l) (es:=r)
    simp only [LC,iA,forall_eq_or_imp,W6]
    cases hb:aRM gr with
    | true =>
      simp only
      split
      · rename_i h1;rw [ih];simp [h1,W6]
      · rename_i h1
        constructor
        · intro h;cases h
        · intro h;exact absurd (h.1 trivial) (by simpa using h1)
    | false=>simp only;rw [ih];simp [W6]
theorem R3{ops:Array Oper}{l:List Bool}(hl:l.length=ops.size){j:Nat}:j∈Region.ready .any ops l.toArray↔l[j]?=some false∧∃o,ops.toList[j]?=some o∧LC l o.after.toList=true:=by
  rw [mem_ready]
  have h1:(l.toArray.getD j true=false)↔l[j]?=some false:=by
    rw [aQD,List.getElem?_toArray]
    cases l[j]? <;> simp
  rw [h1]
  refine and_congr_right fun _=>?_
  constructor
  · rintro⟨o,h2,h3⟩
    refine⟨o,by simpa using h2,aA9.2 fun d hd hb=>?_⟩
    have:=h3 d (by simpa using hd) hb
    rw [aQD,List.getElem?_toArray] at this
    cases hx:l[d.on]? with
    | none=>rw [hx] at this;cases this
    | some b=>rw [hx] at this;simp at this;rw [this]
  · rintro⟨o,h2,h3⟩
    refine⟨o,by simpa using h2,fun d hd hb=>?_⟩
    have:=aA9.1 h3 d (by simpa using hd) hb
    rw [aQD,List.getElem?_toArray,this];rfl
theorem W7{i:Nat}:∀{es:List Edge},T0 i es=true↔∃d∈es,Region.binds .any d=true∧d.on=i
  | []=>by simp [T0]
  | ⟨on, gr⟩ :: r => by
    have ih:=W7 (i:=i) (es:=r)
    simp only [T0,iA,exists_eq_or_imp,W6]
    cases hb:aRM gr with
    | true =>
      simp only
      cases hi:Nat.beq on i with
      | true=>simp [l7 hi]
      | false =>
        simp only
        have hne:on≠i:=fun h=>by rw [h] at hi;simp at hi
        rw [ih];simp [hne,W6]
    | false=>simp only;rw [ih];simp [W6]
theorem aVF{ops:Array Oper}{l:List Bool}(hl:l.length=ops.size)(hf:aJ0 ops=true){i:Nat}{o:Oper}(ho:ops.toList[i]?=some o)(hr:LC l o.after.toList=true):Region.noSelect ops=true∧Region.free .any ops l.toArray i=true:=by
  unfold aJ0 at hf
  rw [DS,WZ] at hf
  refine⟨hf.1,?_⟩
  unfold Region.free
  have hoi:ops[i]?=some o:=by simpa using ho
  rw [hoi]
  simp only [WZ,List.mem_range]
  intro j hj
  have hoj:ops[j]?=some ops[j]:=by simp [hj]
  rw [hoj]
  simp only [Bool.or_eq_true,beq_iff_eq]
  by_cases hji:j=i
  · exact .inl (.inl hji)
  · have h1:=hf.2 (o,i) (List.mk_mem_zipIdx_iff_getElem?.2 ho)
    rw [WZ] at h1
    have h2:=h1 (ops[j],j) (List.mk_mem_zipIdx_iff_getElem?.2 (by simp [hj]))
    simp only [Bool.or_eq_true] at h2
    rcases h2 with ((h2 | h2) | h2) | h2
    · exact absurd (l7 h2).symm hji
    · obtain⟨d,hd,hb,he⟩:=W7.1 h2
      refine .inr (.inl ?_)
      rw [←Array.any_toList,List.any_eq_true]
      exact⟨d,hd,by simp [hb,he]⟩
    · obtain⟨d,hd,hb,he⟩:=W7.1 h2
      have:=aA9.1 hr d hd hb
      rw [he] at this
      refine .inl (.inr ?_)
      rw [aQD,List.getElem?_toArray,this];rfl
    · exact .inr (.inr h2)
theorem count_set{l:List Bool}:∀{i:Nat},l[i]?=some false→l.count false=(l.set i true).count false+1:=by
  induction l with
  | nil=>intro i h;simp at h
  | cons b l ih =>
    intro i h
    cases i with
    | zero=>simp at h;subst h;simp
    | succ i =>
      have:=ih (i:=i) (by simpa using h)
      simp only [List.set_cons_succ,List.count_cons]
      omega
theorem aL8{B1:Bl}{ops:Array Oper}{l:List Bool}{is:List Nat}{Lf:List Ch}{i:Nat}{o:Oper}{d:Nat}{v:Value}{a:Act}{w:World}{B:Bl}(hD:W5 g B1 ops l is Lf L)(ho:ops.toList[i]?=some o)(hl:l[i]?=some false)(hr:LC l o.after.toList=true)(hdst:o.dst=some d)(hdn:Nat.blt d g.n=true)(hA:fY g.n (B1++B) e a)(hS:mW g.c w (B1++B) L)
    (hy:(Want ops o (vE (B1++B) e) true∧∀w',Sd g B1 Lf w'→dW g.P o (vE (B1++B) e) w' v w')∨(Want ops o (vE (B1++B) e) false∧v=undef))
    (k:∀a',lL g.n ((d,v) :: vE (B1++B) e) a'→wpAnyH g.P .any ops (mkQ (NK g K) (XK g K) g.Q) (Sd g B1 Lf) ((l.set i true).count false) (l.set i true).toArray a' w):wpAnyH g.P .any ops (mkQ (NK g K) (XK g K) g.Q) (Sd g B1 Lf) (l.count false) l.toArray a w:=by
  obtain⟨f1,f2⟩:=aVF hD.len hD.free ho hr
  rw [count_set hl]
  refine wpAnyH_take (v:=v) (by simpa using ho) f1 f2 (by simpa using (R3 hD.len).2 ⟨hl,o,ho,hr⟩) (fun _ _ _ h=>h.elim) ?_ (hD.S hS) ?_
  · rcases hy with ⟨h1,h2⟩ | ⟨h1,h2⟩
    · exact .inl ⟨h1 _ a hA.env,fun w' hS'=>h2 w' hS' _ a hA.env⟩
    · exact .inr ⟨h1 _ a hA.env,h2⟩
  · rw [hdst]
    have:=k _ (hA.env.put (by simpa [pI] using hdn) v)
    simpa using this
theorem W5.set{B1:Bl}{ops:Array Oper}{l:List Bool}{is:List Nat}{Lf L':List Ch}(h:W5 g B1 ops l is Lf L)(i:Nat)(hz:kl L' is=Lf∧∀j∈is,j < L'.length):W5 g B1 ops (l.set i true) is Lf L':=
  ⟨h.pre,by simpa using h.len,h.free,hz.1,hz.2,h.okf,h.ap⟩
theorem aR6{L Ln:List Ch}:∀{is:List Nat},(∀j∈is,j < L.length)→kl (L++Ln) is=kl L is
  | [],_=>rfl
  | i :: is, h => by
    simp only [kl,P1 (h i (by simp)),aR6 (fun j hj=>h j (jV _ hj))]
theorem W5.aB9{B1:Bl}{ops:Array Oper}{l:List Bool}{is:List Nat}{Lf:List Ch}(h:W5 g B1 ops l is Lf L)(Ln:List Ch):kl (L++Ln) is=Lf∧∀j∈is,j < (L++Ln).length:=
  ⟨by rw [aR6 h.rng];exact h.BM,fun j hj=>by have:=h.rng j hj;simp;omega⟩
theorem aVG{B1:Bl}{ops:Array Oper}{l:List Bool}{is:List Nat}{Lf Lv:List Ch}{i:Nat}{o:Oper}(ho:ops.toList[i]?=some o)(hl:l[i]?=some false)(hr:LC l o.after.toList=true)(hg:AF ops e o.guard=.yes)(hd:rY g.n o.dst=true):UU g K m e L o Lv (.d B1 ops l is Lf Lv) (.d B1 ops (l.set i true) is Lf Lv):=by
  intro d x Ln nb k hdst hk hv hs hG hD a w ⟨B,hm,hA,hS,hV⟩
  rw [hdst] at hd
  obtain⟨v,h1,h2⟩:=hv _ a w hA (hV w (hD.S hS)) hm
  refine aL8 (v:=v) hD ho hl hr hdst hd hA hS (.inl ⟨T2 hg,fun w' hS'=>?_⟩) fun a' hA'=>?_
  · obtain⟨v',h3,h4⟩:=hv _ a w' hA (hV w' hS') hm
    rw [h1] at h3;cases h3;exact h4
  · refine hG (hD.set i (hD.aB9 Ln)) a' w ⟨B++nb g.c.w0,?_,?_,?_,fun w' hS'=>?_⟩
    · rw [←j8,G9,hm,hk]
    · rw [←j8];exact hA.ext h1 hA'
    · rw [←j8];exact hs _ w _ hm hS
    · rw [←j8];exact hs _ w' _ hm (hV w' hS')
theorem aJ4{l:List Bool}{i:Nat}:∀{os:List Oper} {j0:Nat},YS l i os j0=true→∀j o,os[j]?=some o→l[j0+j]?=some false→(LC l o.after.toList=true↔j0+j=i)
  | [],_,_,j,o,h,_=>by simp at h
  | p :: os, j0, h, j, o, hj, hl => by
    simp only [YS] at h
    cases j with
    | zero =>
      simp at hj;subst hj
      simp only [MH] at hl ⊢
      rw [hl] at h
      simp only at h
      cases hb:Nat.beq j0 i with
      | true =>
        rw [hb] at h;simp only at h
        split at h
        · rename_i hr;simp [hr,l7 hb]
        · cases h
      | false =>
        rw [hb] at h;simp only at h
        have hne:j0≠i:=fun h=>by rw [h] at hb;simp at hb
        split at h
        · cases h
        · rename_i hr;simp [hr,hne]
    | succ j =>
      have h':YS l i os (j0+1)=true:=by
        split at h
        · split at h
          · split at h
            · exact h
            · cases h
          · split at h
            · cases h
            · exact h
        · exact h
        · cases h
      have:=aJ4 h' j o (by simpa using hj) (by rw [show j0+1+j=j0+(j+1) from by omega];exact hl)
      rw [this];omega
theorem aVH{B1:Bl}{ops:Array Oper}{l:List Bool}{is:List Nat}{Lf Lv:List Ch}{i:Nat}{o:Oper}(ho:ops.toList[i]?=some o)(hg:AF ops e o.guard=.yes):YT g K m e L o (.o B1 ops l is Lf Lv i) (.d B1 ops (l.set i true) is Lf Lv):=by
  intro ι m' e' L' hz hrun hG hD a w hr
  have ⟨B,hm,hA,hS,hV⟩:=hr
  unfold wpOp
  have hoi:ops[i]?=some o:=by simpa using ho
  simp only [hoi,T2 hg _ a hA.env,if_true]
  refine .inl (hrun B a w _ _ hm hA hS fun j a' w' h=>?_)
  have hD':=hD.set i (hz j hD)
  obtain⟨B',q1,q2,q3⟩:=h
  refine⟨?_,?_⟩
  · refine hD'.S (B:=B++B') ?_
    rw [←j8];exact q3
  · have:=hG j hD' a' w' ⟨B++B',by rw [←j8];exact q1,by rw [←j8];exact q2,by rw [←j8];exact q3,fun w2 h2=>by rw [←j8];exact(hV w2 h2).app B'⟩
    simpa using this
theorem aVI{B1:Bl}{ops:Array Oper}{l:List Bool}{is:List Nat}{Lf Lv:List Ch}{i:Nat}{o:Oper}(ho:ops.toList[i]?=some o)(hg:AF ops e o.guard=.yes)(hd:rY g.n o.dst=true):UU g K m e L o Lv (.o B1 ops l is Lf Lv i) (.d B1 ops (l.set i true) is Lf Lv):=by
  intro d x Ln nb k hdst hk hv hs hG hD a w ⟨B,hm,hA,hS,hV⟩
  rw [hdst] at hd
  obtain⟨v,h1,h2⟩:=hv _ a w hA (hV w (hD.S hS)) hm
  unfold wpOp
  have hoi:ops[i]?=some o:=by simpa using ho
  simp only [hoi,T2 hg _ a hA.env,if_true]
  refine .inl ?_
  unfold Oper.wp
  rw [h2 _ a hA.env,Oper.upon_value,hdst]
  have hA':=hA.env.put (show d < g.n by simpa [rY,pI] using hd) v
  refine⟨hD.S hS,hG (hD.set i (hD.aB9 Ln)) _ w ⟨B++nb g.c.w0,?_,?_,?_,fun w' hS'=>?_⟩⟩
  · rw [←j8,G9,hm,hk]
  · rw [←j8];exact hA.ext h1 hA'
  · rw [←j8];exact hs _ w _ hm hS
  · rw [←j8];exact hs _ w' _ hm (hV w' hS')
theorem aG2{l:List Bool}{j:Nat}:∀{os:List Oper} {j0:Nat} {o:Oper},os[j]?=some o→l[j0+j]?=some false→LC l o.after.toList=true→j0+j∈uH l os j0:=by
  intro os
  induction os generalizing j with
  | nil=>intro j0 o h;simp at h
  | cons p os ih =>
    intro j0 o h hl hr
    cases j with
    | zero =>
      simp at h;subst h
      simp only [MH] at hl ⊢
      simp [uH,hl,hr]
    | succ j =>
      have h2:=ih (j:=j) (j0:=j0+1) (o:=o) (by simpa using h) (by rw [show j0+1+j=j0+(j+1) by omega];exact hl) hr
      rw [show j0+1+j=j0+(j+1) by omega] at h2
      simp only [uH]
      split
      · split
        · exact jV _ h2
        · exact h2
      · exact h2
theorem aZU{B1:Bl}{ops:Array Oper}{l:List Bool}{is:List Nat}{Lf Lv:List Ch}(hex:∃i,i∈uH l ops.toList 0)(h:∀i∈uH l ops.toList 0,G g K m e L (.o B1 ops l is Lf Lv i))(hok:∀i∈uH l ops.toList 0,l[i]?=some false∧∃o,ops.toList[i]?=some o∧LC l o.after.toList=true):G g K m e L (.d B1 ops l is Lf Lv):=by
  intro hD a w hr
  obtain⟨i0,hi0⟩:=hex
  obtain⟨q1,q2⟩:=hok i0 hi0
  have hm:i0∈Region.ready .any ops l.toArray:=(R3 hD.len).2 ⟨q1,q2⟩
  rw [count_set q1]
  refine⟨fun h=>(by rw [h] at hm;cases hm),fun j hj=>?_⟩
  obtain⟨h1,p,h2,h3⟩:=(R3 hD.len).1 hj
  have h4:=aG2 (j0:=0) h2 (by simpa using h1) h3
  rw [HA] at h4
  have h5:=h j h4 hD a w hr
  have h6:(l.set i0 true).count false=(l.set j true).count false:=by
    have:=count_set q1
    have:=count_set h1
    omega
  rw [h6]
  simpa using h5
theorem aCA{l:List Bool}{i:Nat}:∀{os:List Oper} {j0:Nat},i∈uH l os j0→l[i]?=some false∧∃j o,os[j]?=some o∧j0+j=i∧LC l o.after.toList=true:=by
  intro os
  induction os with
  | nil=>intro j0 h;cases h
  | cons p os ih =>
    intro j0 h
    have tail:i∈uH l os (j0+1)→l[i]?=some false∧∃j o,(p :: os)[j]?=some o∧j0+j=i∧LC l o.after.toList=true:=fun h=>by
      obtain⟨h1,j,o,h2,h3,h4⟩:=ih h
      exact⟨h1,j+1,o,by simpa using h2,by omega,h4⟩
    simp only [uH] at h
    split at h
    · rename_i hl
      split at h
      · rename_i hr
        rcases iA.1 h with h | h
        · subst h;exact⟨hl,0,p,rfl,by omega,hr⟩
        · exact tail h
      · exact tail h
    · exact tail h
theorem aR7{B1:Bl}{ops:Array Oper}{l:List Bool}{is:List Nat}{Lf Lv:List Ch}{i0:Nat}{r:List Nat}(hr:uH l ops.toList 0=i0 :: r)(h:∀i∈i0 :: r,G g K m e L (.o B1 ops l is Lf Lv i)):G g K m e L (.d B1 ops l is Lf Lv):=
  aZU ⟨i0,by rw [hr];simp⟩ (fun i hi=>h i (by rw [←hr];exact hi)) fun i hi=>by
    obtain⟨h1,j,o,h2,h3,h4⟩:=aCA hi
    rw [HA] at h3;subst h3
    exact⟨h1,o,h2,h4⟩
theorem aVJ{l:List Bool}{i:Nat}{ops:Array Oper}(h:YS l i ops.toList 0=true):∀j∈uH l ops.toList 0,j=i:=fun j hj=>by
  obtain⟨h1,k,o,h2,h3,h4⟩:=aCA hj
  rw [HA] at h3;subst h3
  have:=(aJ4 h k o h2 (by simpa using h1)).1 h4
  simpa using this
def PsG(g:Gx)(K:List Fr)(m:Nat)(L:List Ch)(B1:Bl)(ops:Array Oper)(is:List Nat)(Lf Lv:List Ch):Ps→Prop
  | .bad=>False
  | .ask _ l e=>G g K m e L (.d B1 ops l is Lf Lv)
  | .pur j o l e=>ops.toList[j]?=some o→l[j]?=some false→LC l o.after.toList=true→AF ops e o.guard=.yes→G g K m e L (.d B1 ops l is Lf Lv)
  | .fin l e _=>G g K m e L (.d B1 ops l is Lf Lv)
theorem R4{B1:Bl}{ops:Array Oper}{is:List Nat}{Lf Lv:List Ch}:∀(r:List Oper) (i:Nat) (l:List Bool) (e:SE) (q:List (Nat×Oper)),(∀j,r[j]?=ops.toList[i+j]?) →
    PsG g K m L B1 ops is Lf Lv (pass g.T g.n ops Lv r i l e q)→G g K m e L (.d B1 ops l is Lf Lv)
  | [], i, l, e, q, hr, h => by
    unfold pass at h
    exact h
  | o :: r, i, l, e, q, hr, h => by
    have ho:ops.toList[i]?=some o:=by have:=hr 0;simpa using this.symm
    have hr':∀j,r[j]?=ops.toList[i+1+j]?:=fun j=>by
      have:=hr (j+1)
      rw [show i+1+j=i+(j+1) from by omega,←this];simp
    unfold pass at h
    cases hl:l[i]? with
    | none=>simp only [hl] at h;exact h.elim
    | some b =>
      cases b with
      | true=>simp only [hl] at h;exact R4 r (i+1) l e q hr' h
      | false =>
        cases hre:LC l o.after.toList with
        | false=>simp only [hl,hre] at h;exact R4 r (i+1) l e q hr' h
        | true =>
          cases hgd:AF ops e o.guard with
          | bad=>simp only [hl,hre,hgd] at h;exact h.elim
          | ask c=>simp only [hl,hre,hgd] at h;exact h
          | no =>
            cases hd:o.dst with
            | none=>simp only [hl,hre,hgd,hd] at h;exact h.elim
            | some d =>
              cases hb:Nat.blt d g.n with
              | false=>simp only [hl,hre,hgd,hd,hb] at h;exact h.elim
              | true =>
                simp only [hl,hre,hgd,hd,hb] at h
                have ih:=R4 r (i+1) _ _ q hr' h
                intro hD a w ⟨B,hm,hA,hS,hV⟩
                refine aL8 (v:=undef) hD ho hl hre hd hb hA hS (.inr ⟨aWW hgd,rfl⟩) fun a' hA'=>?_
                exact ih (hD.set i ⟨hD.BM,hD.rng⟩) a' w ⟨B,hm,hA.of (x:=.u) rfl hA',hS,hV⟩
          | yes =>
            cases hv:ev1 g.T e Lv o.op with
            | some v =>
              cases hd:o.dst with
              | none=>simp only [hl,hre,hgd,hv,hd] at h;exact h.elim
              | some d =>
                cases hb:Nat.blt d g.n with
                | false=>simp only [hl,hre,hgd,hv,hd,hb] at h;exact h.elim
                | true =>
                  simp only [hl,hre,hgd,hv,hd,hb] at h
                  have ih:=R4 r (i+1) _ _ q hr' h
                  intro hD a w ⟨B,hm,hA,hS,hV⟩
                  obtain⟨u,h1,h2⟩:=aH2 g.hT hA (hV w (hD.S hS)) hv
                  refine aL8 (v:=u) hD ho hl hre hd hb hA hS (.inl ⟨T2 hgd,fun w' hS'=>?_⟩) fun a' hA'=>?_
                  · obtain⟨u',h3,h4⟩:=aH2 (w:=w') g.hT hA (hV w' hS') hv
                    rw [h1] at h3;cases h3;exact h4
                  · exact ih (hD.set i ⟨hD.BM,hD.rng⟩) a' w ⟨B,hm,hA.of h1 hA',hS,hV⟩
            | none =>
              cases hp:aWT o.op with
              | true=>simp only [hl,hre,hgd,hv,hp] at h;exact h ho hl hre hgd
              | false =>
                simp only [hl,hre,hgd,hv,hp] at h
                exact R4 r (i+1) l e ((i,o) :: q) hr' h
theorem aN3:∀{l:List Bool} {i:Nat},aU9 l=true→l[i]?≠some false
  | [],i,_=>by simp
  | b :: l, i, h => by
    unfold aU9 at h
    cases b with
    | false=>cases h
    | true =>
      cases i with
      | zero=>simp
      | succ i=>simpa using aN3 (l:=l) (i:=i) h
theorem aG3{k:Nat}:∀{L:List Ch},OQ k L=true→∃i,(∀cs',xS k cs' L=L.set i (.box k cs'))∧∀k0,aHW k L k0=k0+i
  | [],h=>by cases h
  | x :: L, h => by
    have ih:OQ k L=true→(∀cs',xS k cs' (x :: L)=x :: xS k cs' L)→(∀k0,aHW k (x :: L) k0=aHW k L (k0+1))→∃i,(∀cs',xS k cs' (x :: L)=(x :: L).set i (.box k cs'))∧∀k0,aHW k (x :: L) k0=k0+i:=fun h h2 h3=>by
      obtain⟨i,g1,g2⟩:=aG3 h
      exact⟨i+1,fun cs'=>by rw [h2,g1];rfl,fun k0=>by rw [h3,g2];omega⟩
    cases x with
    | box j cs =>
      simp only [OQ] at h
      split at h
      · rename_i hb
        exact⟨0,fun cs'=>by simp only [xS,hb];rw [l7 hb];rfl,fun k0=>by simp only [aHW,hb];rfl⟩
      · rename_i hb
        exact ih h (fun cs'=>by simp only [xS,hb]) (fun k0=>by simp only [aHW,hb])
    | ro j cs =>
      simp only [OQ] at h
      split at h
      · cases h
      · exact ih h (fun _=>rfl) (fun _=>rfl)
    | o ch=>exact ih h (fun _=>rfl) (fun _=>rfl)
    | f g=>exact ih h (fun _=>rfl) (fun _=>rfl)
    | no=>exact ih h (fun _=>rfl) (fun _=>rfl)
    | w k b z=>exact ih h (fun _=>rfl) (fun _=>rfl)
theorem aCB{i:Nat}:∀{is:List Nat},gO i is=true→i∉is
  | [],_=>by simp
  | j :: r, h => by
    unfold gO at h
    cases hb:Nat.beq i j with
    | true=>rw [hb] at h;cases h
    | false =>
      rw [hb] at h
      have hne:i≠j:=fun e=>by rw [e] at hb;simp at hb
      simpa [hne] using aCB h
theorem aR8{L:List Ch}{i:Nat}{x:Ch}:∀{is:List Nat},i∉is→kl (L.set i x) is=kl L is
  | [],_=>rfl
  | j :: is, h => by
    have hne:i≠j:=fun e=>h (by simp [e])
    simp only [kl,OM hne,aR8 (fun hj=>h (jV _ hj))]
theorem aL9{T:TT}{t:TypeId}{p v:SV}{L':List Ch}{x y:Operand}{is:List Nat}(h:TZ T t p v L=some L')(hp:iO e x=some p)(hf:aX2 e L is (.store t x y)=true)(hr:∀j∈is,j < L.length):kl L' is=kl L is∧∀j∈is,j < L'.length:=by
  unfold TZ at h
  split at h
  · rename_i k o
    split at h
    · rename_i hb
      split at h
      · split at h
        · split at h
          case h_2=>cases h
          split at h
          case h_2=>cases h
          rename_i L2 hL2
          cases h
          have:=LD hL2
          subst this
          obtain⟨i,h1,h2⟩:=aG3 hb
          simp only [aX2,hp,h2] at hf
          have:=aCB hf
          rw [HA] at this
          rw [h1]
          exact⟨aR8 this,by simpa using hr⟩
        · cases h
      · cases h
    · cases h
  · cases h
theorem aVK{a a':Act}{w':World}{B0 B:Bl}{d b:Nat}{cs:List SV}(hm:(B0++B).length=m)(hA:fY g.n (B0++B) e a)(hA':lL g.n ((d,.pointer (some ⟨b,0,none⟩)) :: vE (B0++B) e) a')(hS':mW g.c w' ((B0++B) ++ [(b,0)]) (L ++ [.box (B0++B).length cs])):qV g.n g.c (B0++B) (m+1) ((d,.p m 0) :: e) (L ++ [.box m cs]) a' w':=by
  refine⟨[(b,0)],by simp at hm ⊢;omega,?_,?_⟩
  · exact hA.ext (nb:=[(b,0)]) (x:=.p m 0) (by simp [fX,gV,bZ,←hm]) hA'
  · rw [←hm];exact hS'
theorem zE{cf:xR}(Ln:List Ch):Frz g cf L (L++Ln):=by
  cases cf with
  | d B1 ops l is Lf Lv=>exact fun hD=>hD.aB9 Ln
  | o B1 ops l is Lf Lv i=>exact fun hD=>hD.aB9 Ln
  | _=>trivial
theorem aN4{T:TT}{op:Op}{v:SV}(h:eff T e L op=.val v):ev1 T e L op=some v:=by
  unfold eff at h
  split at h
  · rename_i hv;cases h;exact hv
  · repeat' (split at h)
    all_goals cases h
theorem aVL{T:TT}{op:Op}{cs:List SV}(h:eff T e L op=.box cs):(∃t i,op=.alloc t∧BF T t=some i∧cs=i.z)∨(∃t x v,op=.box t x∧iO e x=some v∧isCells v=true∧cs=pL v):=by
  unfold eff at h
  split at h
  · cases h
  · split at h
    · split at h
      · rename_i hl;cases h;exact .inl ⟨_,_,rfl,hl,rfl⟩
      · cases h
    · split at h
      · rename_i hv
        split at h
        · rename_i hc;cases h;exact .inr ⟨_,_,_,rfl,hv,hc,rfl⟩
        · cases h
      · cases h
    · split at h
      · split at h <;> cases h
      · cases h
    · cases h
theorem aYA{T:TT}{op:Op}{L':List Ch}(h:eff T e L op=.st L'):∃t x y p v,op=.store t x y∧iO e x=some p∧TZ T t p v L=some L':=by
  unfold eff at h
  split at h
  · cases h
  · split at h
    · split at h <;> cases h
    · split at h
      · split at h <;> cases h
      · cases h
    · split at h
      · rename_i hx hy
        split at h
        · rename_i hs;cases h;exact⟨_,_,_,_,_,rfl,hx,hs⟩
        · cases h
      · cases h
    · cases h
theorem aVM{T:TT}{op:Op}{L':List Ch}(h:eff T e L op=.st L'):∃t x y p v,op=.store t x y∧iO e x=some p∧iO e y=some v∧TZ T t p v L=some L':=by
  unfold eff at h
  split at h
  · cases h
  · split at h
    · split at h <;> cases h
    · split at h
      · split at h <;> cases h
      · cases h
    · split at h
      · rename_i hx hy
        split at h
        · rename_i hs;cases h;exact⟨_,_,_,_,_,rfl,hx,hy,hs⟩
        · cases h
      · cases h
    · cases h
theorem aR9{o:Oper}{cf cf':xR}(hE:YT g K m e L o cf cf') :
    (∀d cs,eff g.T e L o.op=.box cs→o.dst=some d→Nat.blt d g.n=true→Frz g cf L (L ++ [.box m cs])→G g K (m+1) ((d,.p m 0) :: e) (L ++ [.box m cs]) cf'→G g K m e L cf) ∧
    (∀L',eff g.T e L o.op=.st L'→o.dst=none→Frz g cf L L'→G g K m e L' cf'→G g K m e L cf):=by
  refine⟨fun d cs hf hd hdn hz hG=>hE Unit (fun _=>m+1) (fun _=>(d,.p m 0) :: e) (fun _=>L ++ [.box m cs]) (fun _=>hz) (fun B a w next Q hm hA hS hnext=>?_) (fun _=>hG),fun L' hf hd hz hG=>hE Unit (fun _=>m) (fun _=>e) (fun _=>L') (fun _=>hz) (fun B a w next Q hm hA hS hnext=>?_) (fun _=>hG)⟩
  · have fin:∀{u:Value} {w':World} {b:Nat},dW g.P o (vE (UJ g cf++B) e) w u w'→u=.pointer (some ⟨b,0,none⟩)→mW g.c w' ((UJ g cf++B) ++ [(b,0)]) (L ++ [.box (UJ g cf++B).length cs])→o.wp g.P a w next Q:=by
      intro u w' b hR hu hS'
      subst hu
      unfold Oper.wp
      rw [hR _ a hA.env,Oper.upon_value,hd]
      exact hnext () _ _ (aVK hm hA (hA.env.put (by simpa [pI] using hdn) _) hS')
    rcases aVL hf with ⟨t,i,ho,hl,rfl⟩ | ⟨t,x,v,ho,hv,hc,rfl⟩
    · obtain⟨u,w',b,k1,k2,k3⟩:=aR4 (E:=vE (UJ g cf++B) e) g.hT hS ho hl
      exact fin k1 k2 k3
    · obtain⟨u,w',b,k1,k2,k3⟩:=aX9 (P:=g.P) hA hS ho hv hc
      exact fin k1 k2 k3
  · obtain⟨t,x,y,p,v,ho,hx,hy,hs⟩:=aVM hf
    obtain⟨w',k1,k2⟩:=aPF g.hT hA hS ho hx hy hs
    unfold Oper.wp
    rw [k1 _ a hA.env,Oper.upon_skip,hd]
    exact hnext () _ _ ⟨[],by simpa using hm,by rw [FT];exact⟨hA.d,hA.size,hA.get⟩,by simpa using k2⟩
theorem aSA{o:Oper}{Lv:List Ch}{cf cf':xR}(h:Gs g (aU8 e o Lv cf cf' K m L o.op))(hd:rY g.n o.dst=true)(hP:UU g K m e L o Lv cf cf')(hE:YT g K m e L o cf cf'):G g K m e L cf:=by
  generalize hop:o.op=op at h
  unfold aU8 at h
  split at h
  · split at h
    · exact h
    · exact h.elim
  · split at h
    · rename_i h1 h2 h3
      exact h _ _ hop h3 h1 h2 hP
    · exact h hd hP hE
  · split at h
    · rename_i h1 h2
      split at h
      · rename_i hx
        exact h _ _ _ hop rfl h1 ⟨_,h2,rfl⟩ hx hd hE
      · exact h _ _ _ hop rfl h1 ⟨_,h2,rfl⟩ hd hE
    · exact h hd hP hE
  · exact h hd hP hE
theorem aVN{o:Oper}{Lv:List Ch}{cf cf':xR}(h:Gs g (aX1 e o Lv cf cf' K m L o.op))(hd:rY g.n o.dst=true)(hP:UU g K m e L o Lv cf cf'):G g K m e L cf:=by
  generalize hop:o.op=op at h
  unfold aX1 at h
  split at h
  · split at h
    · exact h
    · exact h.elim
  · split at h
    · rename_i h1 h2 h3
      exact h _ _ hop h3 h1 h2 hP
    · exact h hd hP
  · exact h hd hP
theorem T3 : ∀ (F : Nat) (K : List Fr) (c : xR) (m : Nat) (e : SE) (L : List Ch), Gs g (UR g.T g.n F K c m e L) → G g K m e L c
  | 0,_,_,_,_,_,h=>h.elim
  | F + 1, K, .c x, m, e, L, h => by
    have ih:=T3 F
    unfold UR at h
    cases x with
    | skip=>exact fun a w hr=>oX (aN1 ih h a w hr)
    | seq x y=>exact fun a w hr=>bW (ih _ _ _ _ _ h a w hr)
    | block id b =>
      simp only at h
      split at h
      · exact h
      · exact fun a w hr=>lM (ih _ _ _ _ _ h a w hr)
    | exit id =>
      simp only at h
      refine fun a w hr=>KD (aR5 ?_)
      cases hx:xit id K with
      | some K'=>rw [hx] at h;exact aN1 ih h a w hr
      | none=>rw [hx] at h;exact h a w hr
    | ret=>exact fun a w hr=>AD (h a w hr)
    | cond o x y =>
      simp only at h
      split at h
      · rename_i c ho
        intro a w hr
        obtain⟨B,hm,hA,hS⟩:=hr
        obtain⟨v,h1,h2⟩:=eR hA ho
        cases h1
        cases c with
        | true=>exact aXE hA.env h2 rfl (ih _ _ _ _ _ h a w ⟨B,hm,hA,hS⟩)
        | false=>exact aZJ hA.env h2 rfl (ih _ _ _ _ _ h a w ⟨B,hm,hA,hS⟩)
      · rename_i c ho
        exact h ho
      · exact h.elim
    | region id ops d =>
      cases d with
      | false=>exact fun a w hr=>aGS (ih _ _ _ _ _ h a w hr)
      | true=>exact h
    | _=>exact h.elim
  | F + 1, K, .n, m, e, L, h => by
    have ih:=T3 F
    unfold UR at h
    exact fun a w hr=>aN1 ih h a w hr
  | F + 1, K, .r ops [], m, e, L, h => by
    have ih:=T3 F
    unfold UR at h
    exact fun a w hr=>aN1 ih h a w hr
  | F + 1, K, .r ops (⟨dst, op, ty, ps, af, gd⟩ :: l), m, e, L, h => by
    have ih:=T3 F
    unfold UR at h
    generalize hg:AF ops e gd=gv at h
    cases gv with
    | bad=>exact h.elim
    | ask c=>exact h
    | no =>
      simp only at h
      split at h
      · rename_i d
        split at h
        · rename_i hd
          intro a w ⟨B,hm,hA,hS⟩
          exact fO (aWW hg) rfl hd (fun a' hA'=>ih _ _ _ _ _ h a' w ⟨B,hm,hA.of (x:=.u) (v:=undef) rfl hA',hS⟩) a hA.env
        · exact h.elim
      · exact h.elim
    | yes =>
      simp only at h
      have hE:=aR9 (g:=g) (K:=K) (m:=m) (e:=e) (L:=L) (o:=⟨dst,op,ty,ps,af,gd⟩) (cf:=.r ops (⟨dst,op,ty,ps,af,gd⟩ :: l)) (cf':=.r ops l) (aN2 hg)
      split at h
      · rename_i d v hf
        split at h
        · rename_i hd
          intro a w ⟨B,hm,hA,hS⟩
          obtain⟨u,h1,h2⟩:=aH2 (o:=⟨_,op,ty,ps,af,gd⟩) g.hT hA hS (aN4 hf)
          exact fF h2 (T2 hg) rfl hd (fun a' hA'=>ih _ _ _ _ _ h a' w ⟨B,hm,hA.of h1 hA',hS⟩) a hA.env
        · exact h.elim
      · rename_i d cs hf
        split at h
        · rename_i hd
          exact hE.1 _ _ hf rfl hd trivial (ih _ _ _ _ _ h)
        · exact h.elim
      · rename_i L' hf
        exact hE.2 _ hf rfl trivial (ih _ _ _ _ _ h)
      · split at h
        · rename_i hd
          exact aSA h hd (aVE hg hd) (aN2 hg)
        · exact h.elim
      · exact h.elim
  | F + 1, K, .d B1 ops l is Lf Lv, m, e, L, h => by
    have ih:=T3 F
    unfold UR at h
    refine R4 ops.toList 0 l e [] (fun j=>by simp) ?_
    generalize pass g.T g.n ops Lv ops.toList 0 l e []=ps at h
    cases ps with
    | bad=>exact h.elim
    | ask c l' e'=>exact h
    | pur i o l' e' =>
      intro h1 h2 h3 h4
      simp only at h
      split at h
      · rename_i hd
        exact aVN h hd (aVG h1 h2 h3 h4 hd)
      · exact h.elim
    | fin l' e' q =>
      cases q with
      | nil =>
        simp only at h
        split at h
        · rename_i hall
          intro hD a w hr
          have hn:=ih _ _ _ _ _ h
          obtain⟨B2,hB2⟩:=hD.pre
          have hr':Rel g m e' L a w:=by
            obtain⟨B,hm,hA,hS,_⟩:=hr
            subst hB2
            exact⟨B2++B,by rw [←j8];exact hm,by rw [←j8];exact hA,by rw [←j8];exact hS⟩
          have hempty:Region.ready .any ops l'.toArray=[]:=by
            refine List.eq_nil_iff_forall_not_mem.2 fun j hj=>?_
            exact aN3 hall ((R3 hD.len).1 hj).1
          exact wpAnyH_done hempty (hn a w hr') _
        · exact h.elim
      | cons p q =>
        cases q with
        | cons p' q=>exact h
        | nil =>
          obtain⟨i,o⟩:=p
          simp only at h
          split at h
          · rename_i hon
            have ho:=ih _ _ _ _ _ h
            cases hra:uH l' ops.toList 0 with
            | cons j r =>
              refine aR7 hra fun k hk=>?_
              rw [aVJ hon k (by rw [hra];exact hk)]
              exact ho
            | nil =>
              refine absurd h ?_
              intro h
              unfold UR at h
              cases F with
              | zero=>exact h
              | succ F =>
                simp only at h
                split at h
                · rename_i hi
                  split at h
                  · rename_i h1 h2 h3
                    have:=aG2 (j0:=0) hi (by simpa using h2) h1
                    rw [HA,hra] at this
                    cases this
                  · exact h
                · exact h
          · exact h.elim
  | F + 1, K, .o B1 ops l is Lf Lv i, m, e, L, h => by
    have ih:=T3 F
    unfold UR at h
    split at h
    · rename_i dst op ty ps af gd ho
      split at h
      · rename_i hre hli hg
        have hes:=aVH (g:=g) (K:=K) (m:=m) (e:=e) (L:=L) (B1:=B1) (ops:=ops) (l:=l) (is:=is) (Lf:=Lf) (Lv:=Lv) ho hg
        have hE:=aR9 (g:=g) (K:=K) (m:=m) (e:=e) (L:=L) (o:=⟨dst,op,ty,ps,af,gd⟩) (cf:=.o B1 ops l is Lf Lv i) (cf':=.d B1 ops (l.set i true) is Lf Lv) hes
        split at h
        · rename_i v d hf
          split at h
          · rename_i hd
            have hG:=ih _ _ _ _ _ h
            have hv:=aN4 hf
            refine hes Unit (fun _=>m) (fun _=>(d,v) :: e) (fun _=>L) (fun _ hD=>⟨hD.BM,hD.rng⟩) (fun B a w next Q hm hA hS hnext=>?_) (fun _=>hG)
            obtain⟨u,h1,h2⟩:=aH2 (o:=⟨some d,op,ty,ps,af,gd⟩) g.hT hA hS hv
            unfold Oper.wp
            rw [h2 _ a hA.env,Oper.upon_value]
            exact hnext () _ _ ⟨[],by simpa using hm,by simpa using hA.of h1 (hA.env.put (by simpa [pI] using hd) u),by simpa using hS⟩
          · exact h.elim
        · rename_i d cs hf
          split at h
          · rename_i hd
            exact hE.1 _ _ hf rfl hd (fun hD=>hD.aB9 _) (ih _ _ _ _ _ h)
          · exact h.elim
        · rename_i L' hf
          split at h
          · rename_i hfz
            refine hE.2 _ hf rfl (fun hD=>?_) (ih _ _ _ _ _ h)
            obtain⟨t,x,y,p,v,hop,hx,hs⟩:=aYA hf
            subst hop
            have:=aL9 hs hx hfz hD.rng
            exact⟨by rw [this.1];exact hD.BM,this.2⟩
          · exact h.elim
        · split at h
          · rename_i hd
            exact aSA h hd (aVI ho hg hd) hes
          · exact h.elim
        · exact h.elim
      · exact h.elim
    · exact h.elim
theorem aH8:∀{e r:SE},aRN e=some r→r=e
  | [],r,h=>by cases h;rfl
  | (k, v) :: l, r, h => by
    simp only [aRN] at h
    split at h
    · rename_i s hs;cases h;rw [aH8 hs]
    · cases h
theorem aH9:∀{e r:List Ch},aRO e=some r→r=e
  | [],r,h=>by cases h;rfl
  | x :: l, r, h => by
    simp only [aRO] at h
    split at h
    · rename_i s hs
      have:=aH9 hs
      subst this
      split at h
      · split at h
        · rename_i ds hds;cases h;rw [LD hds]
        · cases h
      · split at h
        · rename_i ds hds;cases h;rw [LD hds]
        · cases h
      · cases h;rfl
    · cases h
theorem gP{K:List Fr}{c:xR}{m:Nat}{e:SE}{L:List Ch}(h:Gs g (kA g.T g.n K c m e L)):G g K m e L c:=by
  unfold kA at h
  split at h
  · rename_i e' L' he hL
    have h1:=aH8 he
    have h2:=aH9 hL
    subst h1;subst h2
    exact T3 _ _ _ _ _ _ h
  · exact h.elim
end
end Go.Gv
end
noncomputable section
namespace Go.Gv
noncomputable section
variable {P:Program} {N N':Act→World→Prop} {X X':Nat→Act→World→Prop} {T T':Act→World→Prop}
theorem QB(h:LetsOut (mkQ N X T)):LetsOut (mkQ N' X' T'):=let ⟨_,_,h⟩:=h;h.elim
theorem aJ5{o:Oper}{a:Act}{next next':Act→World→Prop}{r:Result Next}(hn:∀a w,next a w→next' a w)(h:o.upon P a next (mkQ N X T) r):o.upon P a next' (mkQ N' X' T') r:=by
  unfold Oper.upon at h ⊢
  split at h
  · exact hn _ _ h
  · exact hn _ _ h
  · exact hn _ _ h
  · refine Calls.mono h fun e w' he=>?_
    cases e with
    | returned v=>exact hn _ _ he
    | panicked c=>exact he.elim
    | outgrown=>exact QB he
  · exact Rows.mono h fun u w'' he=>hn _ _ he
  · exact h.elim
  · exact h.elim
theorem T4{ops:Array Oper}(hN:∀a w,N a w→N' a w):∀(l:List Oper) {a:Act} {w:World},wpList P ops (mkQ N X T) l a w→wpList P ops (mkQ N' X' T') l a w
  | [],a,w,h=>hN a w h
  | o :: l, a, w, h => by
    unfold wpList at h ⊢
    split
    · rename_i hw
      rw [if_pos hw] at h
      rcases h with h | ⟨h1,h2⟩
      · exact .inl (aJ5 (fun _ _ h=>T4 hN l h) h)
      · exact .inr ⟨h1,QB h2⟩
    · rename_i hw
      rw [if_neg hw] at h
      exact T4 hN l h
theorem aJ6{ops:Array Oper}{i:Nat}{k k':Act→World→Prop}{a:Act}{w:World}(hk:∀a w,k a w→k' a w)(h:wpOp P ops (mkQ N X T) i k a w):wpOp P ops (mkQ N' X' T') i k' a w:=by
  unfold wpOp at h ⊢
  split
  · rename_i h0;rw [h0] at h;exact hk _ _ h
  · rename_i o h0
    rw [h0] at h
    simp only at h
    split
    · rename_i hw
      rw [if_pos hw] at h
      rcases h with h | ⟨h1,h2⟩
      · exact .inl (aJ5 hk h)
      · exact .inr ⟨h1,QB h2⟩
    · rename_i hw
      rw [if_neg hw] at h
      exact hk _ _ h
theorem T5{ops:Array Oper}{S:World→Prop}(hN:∀a w,N a w→N' a w):∀(fuel:Nat) {RQ:Array Bool} {a:Act} {w:World},wpAnyH P .any ops (mkQ N X T) S fuel RQ a w→wpAnyH P .any ops (mkQ N' X' T') S fuel RQ a w
  | 0,_,a,w,h=>⟨h.1,hN a w h.2⟩
  | f+1,_,a,w,h=>⟨fun h0=>hN a w (h.1 h0),fun i hi=>aJ6 (fun _ _ h=>⟨h.1,T5 hN f h.2⟩) (h.2 i hi)⟩
end
noncomputable section
variable {P:Program} {T:TT} {hT:HD P T} {n:Nat} {c:Ctx} {B0:Bl} {N N1:Act→World→Prop} {X X1:Nat→Act→World→Prop} {Q:Act→World→Prop} {K K':List Fr} {m m':Nat} {e e':SE} {L L':List Ch} {cf cf':xR}
theorem aMA(Kb:List Fr)(hN:∀a w,N1 a w→NK (.mk P T hT n c B0 N X Q) Kb a w)(hX:∀i a w,X1 i a w→XK (.mk P T hT n c B0 N X Q) Kb i a w):∀(Ka:List Fr),(∀a w,NK (.mk P T hT n c B0 N1 X1 Q) Ka a w→NK (.mk P T hT n c B0 N X Q) (Ka++Kb) a w)∧(∀i a w,XK (.mk P T hT n c B0 N1 X1 Q) Ka i a w→XK (.mk P T hT n c B0 N X Q) (Ka++Kb) i a w)
  | []=>⟨hN,hX⟩
  | .s y :: Ka => by
    obtain⟨h1,h2⟩:=aMA Kb hN hX Ka
    exact⟨fun a w h=>CW.mono (show CW P y (NK _ Ka) (XK _ Ka) Q a w from h) h1 h2 (fun _ _ h=>h),h2⟩
  | .k id :: Ka => by
    obtain⟨h1,h2⟩:=aMA Kb hN hX Ka
    refine⟨h1,fun i a w h=>?_⟩
    simp only [XK,YP,YI] at h ⊢
    split
    · rename_i hi;rw [if_pos hi] at h;exact h1 a w h
    · rename_i hi;rw [if_neg hi] at h;exact h2 i a w h
theorem aZV{Ka Kb:List Fr}(hN:∀a w,N1 a w→NK (.mk P T hT n c B0 N X Q) Kb a w)(hX:∀i a w,X1 i a w→XK (.mk P T hT n c B0 N X Q) Kb i a w)(h:G (.mk P T hT n c B0 N1 X1 Q) Ka m e L cf):G (.mk P T hT n c B0 N X Q) (Ka++Kb) m e L cf:=by
  obtain⟨h1,h2⟩:=aMA Kb hN hX Ka
  cases cf with
  | n=>exact fun a w hr=>h1 a w (h a w hr)
  | c x=>exact fun a w hr=>CW.mono (h a w hr) h1 h2 (fun _ _ h=>h)
  | r ops l=>exact fun a w hr=>T4 h1 l (h a w hr)
  | d B1 ops l is Lf Lv=>exact fun hD a w hr=>T5 h1 _ (h ⟨hD.pre,hD.len,hD.free,hD.BM,hD.rng,hD.okf,hD.ap⟩ a w hr)
  | o B1 ops l is Lf Lv i=>exact fun hD a w hr=>aJ6 (fun _ _ h=>⟨h.1,T5 h1 _ h.2⟩) (h ⟨hD.pre,hD.len,hD.free,hD.BM,hD.rng,hD.okf,hD.ap⟩ a w hr)
theorem aBA{g:Gx}{s:Stop}(hs:SH s=some (K,cf,m,e,L))(h:G g K m e L cf):Gs g s:=by
  cases s <;> simp only [SH] at hs <;> cases hs
  · exact fun _=>h
  · exact h
  · exact h
  · exact fun _ _ _ _ _ _ _=>h
  · exact fun _ _ _ _ _ _ _ _ _ _=>h
  · exact fun _ _ _ _ _ _ _ _ _=>h
  · exact fun _ _=>h
  · exact fun _ _ _=>h
  · exact h
  · exact h
def JP(n:Nat)(c:Ctx)(B0:Bl){π υ:Type}(eq:π→Prop)(m:Nat)(ej:π→υ→SE)(Lj:π→υ→List Ch):Act→World→Prop:=fun a w=>∃p u,eq p∧qV n c B0 m (ej p u) (Lj p u) a w
theorem gE{B1:Bl}{ops:Array Oper}{l:List Bool}{is:List Nat}{Lf Lv:List Ch}{i j:Nat}(hs:SH (kA T n K cf m e L)=some (K',.d B1 ops l is Lf Lv,m',e',L'))(hr:uH l ops.toList 0=[i,j])
    (k1:G (.mk P T hT n c B0 N X Q) K' m' e' L' (.o B1 ops l is Lf Lv i)) (k2:G (.mk P T hT n c B0 N X Q) K' m' e' L' (.o B1 ops l is Lf Lv j)):G (.mk P T hT n c B0 N X Q) K m e L cf:=
  gP (g:=.mk P T hT n c B0 N X Q) (aBA hs (aR7 (g:=.mk P T hT n c B0 N X Q) hr fun k hk=>by
    rcases iA.1 hk with hk | hk
    · subst hk;exact k1
    · simp at hk;subst hk;exact k2))
theorem aMB{B1:Bl}{ops:Array Oper}{l:List Bool}{is:List Nat}{Lf Lv:List Ch}{i j p:Nat}(hs:SH (kA T n K cf m e L)=some (K',.d B1 ops l is Lf Lv,m',e',L'))(hr:uH l ops.toList 0=[i,j,p])
    (k1:G (.mk P T hT n c B0 N X Q) K' m' e' L' (.o B1 ops l is Lf Lv i)) (k2:G (.mk P T hT n c B0 N X Q) K' m' e' L' (.o B1 ops l is Lf Lv j)) (k3:G (.mk P T hT n c B0 N X Q) K' m' e' L' (.o B1 ops l is Lf Lv p)):G (.mk P T hT n c B0 N X Q) K m e L cf:=
  gP (g := .mk P T hT n c B0 N X Q) (aBA hs (aR7 (g := .mk P T hT n c B0 N X Q) hr fun k hk => by
    rcases iA.1 hk with hk | hk
    · subst hk;exact k1
    · simp at hk
      rcases hk with rfl | rfl
      · exact k2
      · exact k3))
theorem bd{α β:Type}{A:Option α}{f:α→Option β}{q:β}{C:Prop}(hF:A.bind f=some q)(k:∀x,A=some x→f x=some q→C):C:=by
  cases h:A with
  | none=>rw [h] at hF;cases hF
  | some x=>exact k x h (by rw [h] at hF;exact hF)
theorem nd{β:Type}{p:Prop}[Decidable p]{A:Option β}{q:β}{C:Prop}(hF:need p A=some q)(k:p→A=some q→C):C:=k (jO hF).1 (jO hF).2
theorem rb{α:Type}{A:Option α}{x:α}(h:A=some x):A.bind some=some x:=by rw [h];rfl
theorem rn{p:Prop}[Decidable p](h:p):need p (some ())=some ():=by simp [need,h]
theorem go(hs:SH (kA T n K cf m e L)=some (K',cf',m',e',L'))(k:G (.mk P T hT n c B0 N X Q) K' m' e' L' cf'):G (.mk P T hT n c B0 N X Q) K m e L cf:=
  gP (g:=.mk P T hT n c B0 N X Q) (aBA hs k)
theorem cut{π υ:Type}(j mj:Nat)(eq:π→Prop)(ks:List Nat)(ej:π→υ→SE)(is:List Nat)(Lj:π→υ→List Ch)(hs:SH (kA T n K cf m e L)=some (K',cf',m',e',L'))
    (k1:G (.mk P T hT n c B0 (JP n c B0 eq mj (fun p u=>ej p u++kp e' ks) (fun p u=>Lj p u++kl L' is)) (XK (.mk P T hT n c B0 N X Q) (K'.drop j)) Q) (K'.take j) m' e' L' cf')
    (k2:∀p u,eq p→G (.mk P T hT n c B0 N X Q) (K'.drop j) mj (ej p u++kp e' ks) (Lj p u++kl L' is) .n):G (.mk P T hT n c B0 N X Q) K m e L cf:=by
  refine go hs ?_
  rw [←UO j K']
  refine aZV (fun a w ⟨p,u,h1,h2⟩=>?_) (fun _ _ _ h=>h) k1
  exact k2 p u h1 a w h2
theorem jn{π υ:Type}{eq:π→Prop}{mj:Nat}{ej:π→υ→SE}{Lj:π→υ→List Ch}{p:π}(u:υ)(is:List Nat)(hF:eq p)(hs:kA T n K cf m e L=.fin m' e' L')(h:SW B0.length m' e' L' is mj (ej p u) (Lj p u)=some (ej p u,Lj p u)):G (.mk P T hT n c B0 (JP n c B0 eq mj ej Lj) X Q) K m e L cf:=
  gP (g:=.mk P T hT n c B0 _ X Q) (by
    rw [hs]
    exact fun a w hr=>⟨p,u,hF,qV.SW hr is h⟩)
theorem R5{b cb:Bool}{a:Act}{B:Bl}(hb:b=cb):∀(ss:List Nat),aZ (DY e) ss=some (ss.map fun _=>SV.b b)→fY n B e a→fY n B (ovr cb e ss) a:=by
  intro ss hs hA
  refine⟨hA.d,hA.size,?_⟩
  subst hb
  have key:∀k∈ss,DY e k=some (.b b):=by
    induction ss with
    | nil=>intro k hk;cases hk
    | cons s ss ih =>
      simp only [aZ,DX] at hs
      split at hs
      · cases hs
      · rename_i h1
        split at hs
        · cases hs
        · rename_i h2
          cases hs
          intro k hk
          rcases iA.1 hk with hk | hk
          · subst hk;exact h1
          · exact ih h2 k hk
  clear hs
  induction ss with
  | nil=>exact hA.get
  | cons s ss ih =>
    intro k x hk
    simp only [ovr,DY] at hk
    cases hb:Nat.beq k s with
    | true =>
      rw [hb] at hk;cases hk
      rw [l7 hb]
      exact hA.get s (.b b) (key s (by simp))
    | false =>
      rw [hb] at hk
      exact ih (fun k hk=>key k (jV _ hk)) k x hk
theorem aBB{b cb:Bool}{a:Act}{w:World}(hb:b=cb)(ss:List Nat)(hs:aZ (DY e) ss=some (ss.map fun _=>SV.b b))(h:qV n c B0 m e L a w):qV n c B0 m (ovr cb e ss) L a w:=by
  obtain⟨B,h1,hA,hS⟩:=h
  exact⟨B,h1,R5 hb ss hs hA,hS⟩
theorem aCC{e1:SE}(h:∀a B,fY n B e a→fY n B e1 a)(k:G (.mk P T hT n c B0 N X Q) K m e1 L cf):G (.mk P T hT n c B0 N X Q) K m e L cf:=by
  cases cf with
  | d B1 ops l is Lf Lv=>exact fun hD a w ⟨B,h1,h2,h3,h4⟩=>k hD a w ⟨B,h1,h a _ h2,h3,h4⟩
  | o B1 ops l is Lf Lv i=>exact fun hD a w ⟨B,h1,h2,h3,h4⟩=>k hD a w ⟨B,h1,h a _ h2,h3,h4⟩
  | _=>exact fun a w ⟨B,h1,h2,h3⟩=>k a w ⟨B,h1,h a _ h2,h3⟩
noncomputable section
variable {b:Bool} {α:Type} {A B':Option α} {q:Option α}
theorem cs{o:Operand}{x y:Code}(ss:List Nat)(hs:kA T n K cf m e L=.cond o b x y K' m' e' L')(ho:aZ (DY e') ss=some (ss.map fun _=>SV.b b))(hF:(if b=true then A else B')=q)
    (k1:A=q→G (.mk P T hT n c B0 N X Q) K' m' (ovr true e' ss) L' (.c x)) (k2:B'=q→G (.mk P T hT n c B0 N X Q) K' m' (ovr false e' ss) L' (.c y)):G (.mk P T hT n c B0 N X Q) K m e L cf:=
  gP (g := .mk P T hT n c B0 N X Q) (by
    rw [hs]
    intro he a w hr
    have ⟨B,hm,hA,hS⟩:=hr
    obtain⟨v,h1,h2⟩:=eR hA he
    cases h1
    refine lQ hA.env h2 (fun hc=>?_) (fun hc=>?_)
    · rw [if_pos hc] at hF
      exact k1 hF a w (aBB hc ss ho hr)
    · rw [if_neg (by rw [hc];simp)] at hF
      exact k2 hF a w (aBB hc ss ho hr))
theorem ca{cf':xR}(ss:List Nat)(hs:kA T n K cf m e L=.case b cf' K' m' e' L')(ho:aZ (DY e') ss=some (ss.map fun _=>SV.b b))(hF:(if b=true then A else B')=q)
    (k1:A=q→G (.mk P T hT n c B0 N X Q) K' m' (ovr true e' ss) L' cf') (k2:B'=q→G (.mk P T hT n c B0 N X Q) K' m' (ovr false e' ss) L' cf'):G (.mk P T hT n c B0 N X Q) K m e L cf:=
  gP (g:=.mk P T hT n c B0 N X Q) (by
    rw [hs]
    cases b with
    | true=>exact aCC (fun a B hA=>R5 rfl ss ho hA) (k1 (by simpa using hF))
    | false=>exact aCC (fun a B hA=>R5 rfl ss ho hA) (k2 (by simpa using hF)))
end
def QS(P:Program)(fn:Func)(c:Ctx)(B0:Bl){ρ ex:Type}(sv:ρ→ex→SV)(Lf:ρ→ex→List Ch)(r:ρ):Act→World→Prop:=Fin P fn fun v w'=>∃y,fX B0 (sv r y)=some v∧mW c w' B0 (Lf r y)
theorem aN5{r:ResultVar}{x:SV}{B:Bl}{a:Act}{w:World}(hT:HD P T)(hA:fY n B e a)(hS:mW c w B L)(h:aRP T e L r=some x):∃v,fX B x=some v∧(P8 a.tmps r).run P w=.ok v w:=by
  cases r with
  | tmp t =>
    obtain⟨v,h1,h2⟩:=hA.get t x h
    exact⟨v,h1,by simp [P8,h2]⟩
  | cell t ty =>
    simp only [aRP] at h
    split at h
    · rename_i p hp
      obtain⟨v,h1,h2⟩:=hA.get t p hp
      unfold aJY at h
      split at h
      · rename_i n0 o0
        split at h
        · rename_i cs _ mm _ hb hl
          split at h
          · rename_i hle
            split at h
            case h_2=>cases h
            rename_i ds hds
            cases h
            have:=LD hds
            subst this
            obtain⟨b,z,vs,g1,g2,g3⟩:=hS.cells hb
            have hlen:=mL g2
            have hle:=AR hle
            simp only [fX,gV,bZ,g1] at h1
            cases h1
            have h4:=R0 mm (RZ o0 g2)
            have h5:=UT g3 (o:=o0) (m:=mm) (by omega)
            have h6:=pJ h5 P
            have h7:((vs.drop o0).take mm).length=mm:=by simp;omega
            rw [h7] at h6
            refine⟨.agg ((vs.drop o0).take mm).toArray,by simp only [fX,gV,h4],?_⟩
            simp [P8,h2,asAddr,loadVar,hT.agg _ _ hl,hT.size _ _ hl,h6]
          · cases h
        · rename_i cs _ _ _ hb hl
          obtain⟨b,z,vs,g1,g2,g3⟩:=hS.cells hb
          simp only [fX,gV,bZ,g1] at h1
          cases h1
          obtain⟨u,h4,h5⟩:=P9 g2 h
          refine⟨u,aRS h4,?_⟩
          have h6:=g3 o0 u h5
          simp [P8,h2,asAddr,loadVar,hT.agg _ _ hl,load,Sem.run,h6]
        · cases h
      · cases h
    · cases h
end
end Go.Gv
end
noncomputable section
namespace Go.Gv
noncomputable section
variable {P:Program} {T:TT} {hT:HD P T} {n:Nat} {c:Ctx} {B0:Bl} {N:Act→World→Prop} {X:Nat→Act→World→Prop} {Q:Act→World→Prop} {K K':List Fr} {m m':Nat} {e e':SE} {L L':List Ch} {cf:xR}
theorem aVO{B:Bl}{x:SV}{v:Value}(h:fX B x=some v)(hc:isCells x=true):gV B x=some v:=by
  cases x <;> first | exact h | cases hc
theorem UW{r:ResultVar}{x:SV}{B:Bl}{a:Act}{w:World}(hT:HD P T)(hA:fY n B e a)(hS:mW c w B L)(h:aL6 T e L r=some x):∃v,gV B x=some v∧(P8 a.tmps r).run P w=.ok v w:=by
  unfold aL6 at h
  split at h
  · rename_i hv
    split at h
    · rename_i hc
      cases h
      obtain⟨v,h1,h2⟩:=aN5 hT hA hS hv
      exact⟨v,aVO h1 hc,h2⟩
    · cases h
  · cases h
theorem aBC{rs:List ResultVar}{x:SV}{B:Bl}{a:Act}{w:World}{fn:Func}(hf:fn.results=rs.toArray)(hT:HD P T)(hA:fY n B e a)(hS:mW c w B L)(h:aHY T e L rs=some x):∃v,fX B x=some v∧(results fn a.tmps).run P w=.ok v w:=by
  rw [aBX hf]
  unfold aHY at h
  split at h
  · cases h;exact⟨.tuple #[],rfl,by simp⟩
  · obtain⟨v,h1,h2⟩:=aN5 hT hA hS h
    exact⟨v,h1,by simp [h2]⟩
  · split at h
    · rename_i g1 g2
      cases h
      obtain⟨v1,h1,k1⟩:=UW hT hA hS g1
      obtain⟨v2,h2,k2⟩:=UW hT hA hS g2
      exact⟨.tuple #[v1,v2],by simp [fX,aZ,h1,h2],by simp [k1,k2]⟩
    · cases h
  · split at h
    · rename_i g1 g2 g3
      cases h
      obtain⟨v1,h1,k1⟩:=UW hT hA hS g1
      obtain⟨v2,h2,k2⟩:=UW hT hA hS g2
      obtain⟨v3,h3,k3⟩:=UW hT hA hS g3
      exact⟨.tuple #[v1,v2,v3],by simp [fX,aZ,h1,h2,h3],by simp [k1,k2,k3]⟩
    · cases h
  · cases h
structure FnS (P:Program) (f:FuncId) (c:Ctx) (xs:List SV) (B0:Bl) (L0:List Ch) {ρ ex:Type} (sv:ρ→ex→SV) (Lf:ρ→ex→List Ch) (r:ρ):Prop where
  call:∀args w,(callFunc f args).run P w=.ok (.enter f args) w
  run:∀vs,aZ (fX B0) xs=some vs→mW c c.w0 B0 L0→Calls P f vs.toArray c.w0 (Ret fun v w'=>∃y,fX B0 (sv r y)=some v∧mW c w' B0 (Lf r y))
abbrev Fn0(P:Program)(f:FuncId)(c:Ctx)(xs:List SV){ρ:Type}(sv:ρ→SV)(r:ρ):Prop:=FnS P f c xs [] [] (fun r (_:Unit)=>sv r) (fun _ _=>[]) r
def aG4:Nat→List SV→SE
  | _,[]=>[]
  | k,v :: r=>(k,v) :: aG4 (k+1) r
theorem aG5{B:Bl}:∀{xs:List SV} {vs:List Value} (k:Nat) {j:Nat} {x:SV},aZ (fX B) xs=some vs→DY (aG4 k xs) j=some x→∃v,fX B x=some v∧lk (aHR k vs) j=some v
  | [],vs,k,j,x,h,hj=>by simp [aG4,DY] at hj
  | y :: xs, vs, k, j, x, h, hj => by
    simp only [aZ] at h
    split at h
    · cases h
    · rename_i h1
      split at h
      · cases h
      · rename_i h2
        cases h
        simp only [aG4,DY] at hj
        simp only [aHR,lk]
        cases hb:Nat.beq j k with
        | true=>rw [hb] at hj;cases hj;exact⟨_,h1,rfl⟩
        | false=>rw [hb] at hj;exact aG5 (k+1) h2 hj
theorem en{f:FuncId}{fn:Func}{cd:Code}{xs:List SV}{L0:List Ch}{ρ ex:Type}{sv:ρ→ex→SV}{Lf:ρ→ex→List Ch}{r:ρ}(n:Nat)(hc:∀args w,(callFunc f args).run P w=.ok (.enter f args) w)(hf:P.funcs[f]?=some fn)(hT:HD P T)(hb:fn.body=some cd)(hm:fn.ntmps=n)(hl:Nat.ble xs.length n=true)
    (k:G (.mk P T hT n c B0 (QS P fn c B0 sv Lf r) (fun _ _ _=>False) (QS P fn c B0 sv Lf r)) [] B0.length (aG4 0 xs) L0 (.c cd)):FnS P f c xs B0 L0 sv Lf r:=by
  refine⟨hc,fun vs hv hS=>AU hf hb hm ?_ fun a hA=>?_⟩
  · rw [mL hv];exact hl
  · refine CW.mono (k a c.w0 ⟨[],by simp,⟨hA.d,hA.size,fun j x hj=>?_⟩,by simpa using hS⟩) (fun _ _ h=>h) (fun _ _ _ h=>h) (fun _ _ h=>h)
    obtain⟨v,h1,h2⟩:=aG5 0 hv hj
    exact⟨v,by simpa using h1,hA.get j v h2⟩
theorem aSB(w:World):mW (cW w) w [] []:=⟨⟨[],St.enter (by simp),by simp⟩,fun _ _ h=>h⟩
theorem rt{fn:Func}{ρ ex:Type}{sv:ρ→ex→SV}{Lf:ρ→ex→List Ch}{r r':ρ}{rs:List ResultVar}{zz:Option ρ}(y:ex)(is:List Nat)(hF:zz=some r)(hz:zz=some r')(hs:kA T n K cf m e L=.ret m' e' L')(hr:fn.results=rs.toArray){x:SV}(hv:aHY T e' L' rs=some x)(hx:nbS x=sv r' y)(hk:HC B0.length (sv r' y)=true)(hL:SW B0.length m' e' L' is B0.length [] (Lf r' y)=some ([],Lf r' y)):G (.mk P T hT n c B0 N X (QS P fn c B0 sv Lf r)) K m e L cf:=by
  subst hz;cases hF
  refine gP (g:=.mk P T hT n c B0 N X _) ?_
  rw [hs]
  intro a w hr'
  obtain⟨B,hm,hA,hS⟩:=id hr'
  obtain⟨v,h1,h2⟩:=aBC hr hT hA hS hv
  obtain⟨B',hm',_,hS'⟩:=hr'.SW is hL
  have hB':B'=[]:=(by simpa using hm')
  subst hB'
  refine⟨hA.d,v,h2,y,?_,by simpa using hS'⟩
  rw [←hx] at hk ⊢
  have:=NO hk (by rw [aA8];exact h1)
  rw [YN (iW _),IV] at this
  exact this
theorem rf{fn:Func}{ρ ex:Type}{sv:ρ→ex→SV}{Lf:ρ→ex→List Ch}{r r':ρ}{rs:List ResultVar}{zz:Option ρ}(y:ex)(is:List Nat)(hF:zz=some r)(hz:zz=some r')(hs:kA T n K cf m e L=.fin m' e' L')(hr:fn.results=rs.toArray){x:SV}(hv:aHY T e' L' rs=some x)(hx:nbS x=sv r' y)(hk:HC B0.length (sv r' y)=true)(hL:SW B0.length m' e' L' is B0.length [] (Lf r' y)=some ([],Lf r' y)):G (.mk P T hT n c B0 (QS P fn c B0 sv Lf r) X Q) K m e L cf:=by
  subst hz;cases hF
  refine gP (g:=.mk P T hT n c B0 _ X Q) ?_
  rw [hs]
  intro a w hr'
  obtain⟨B,hm,hA,hS⟩:=id hr'
  obtain⟨v,h1,h2⟩:=aBC hr hT hA hS hv
  obtain⟨B',hm',_,hS'⟩:=hr'.SW is hL
  have hB':B'=[]:=(by simpa using hm')
  subst hB'
  refine⟨hA.d,v,h2,y,?_,by simpa using hS'⟩
  rw [←hx] at hk ⊢
  have:=NO hk (by rw [aA8];exact h1)
  rw [YN (iW _),IV] at this
  exact this
def aX(c:Ctx){α:Type}[aI α](s:AC)(d:List α):Prop:=aI.rd c.S0 c.w0 [s.v d.length] d
structure HS (c:Ctx) (w:World) (L:List Ch):Prop where
  ex:∃B,mW c w B L
abbrev ow{α:Type}[aI α](s:AC)(d:List α):Ch:=.o (cJ [s.v d.length] d)
abbrev fr{α:Type}[aI α](s:AC)(d:List α):Ch:=.f (AS [s.v d.length] d)
theorem aIA{w:World}{B:Bl}(hS:mW c w B L){f:Fact}(h:f.P c.S0 c.w0):f.P c.S0 w:=by
  obtain⟨⟨R,s1,_⟩,s0⟩:=hS
  exact f.agree h fun b o hb=>s1.keep.cell b o (s0 b o hb) fun hw=>s1.apart b o hw hb
theorem aSC{w:World}{B:Bl}(hS:mW c w B L):∀b o,c.S0 b o→NL w b o:=fun b o hb=>by
  obtain⟨⟨R,s1,_⟩,s0⟩:=hS
  exact P3 (s0 b o hb) s1.keep.size
theorem HS.a{w:World}{α:Type}[aI α]{s:AC}{d:List α}(h:HS c w L)(hr:aX c s d):aX (cW w) s d:=by
  obtain⟨B,hS⟩:=h.ex
  have h1:(AS [s.v d.length] d).P c.S0 w:=aIA hS (f:=AS [s.v d.length] d) hr
  exact aI.rd_mono h1 (aSC hS)
theorem HS.o{w:World}{α:Type}[aI α]{s:AC}{d:List α}(h:HS c w L)(i:Nat)(hi:L[i]?=some (ow s d)):aX (cW w) s d:=by
  obtain⟨B,⟨⟨R,s1,_⟩,_⟩⟩:=h.ex
  exact s1.aNF i (by rw [FU,hi];rfl)
theorem HS.f{w:World}{α:Type}[aI α]{s:AC}{d:List α}(h:HS c w L)(i:Nat)(hi:L[i]?=some (fr s d)):aX (cW w) s d:=by
  obtain⟨B,⟨⟨R,s1,s2⟩,_⟩⟩:=h.ex
  obtain⟨j,hj⟩:=YJ (s2 _ (AQ hi))
  exact s1.rd j hj
theorem aBD{B:Bl}:∀{xs:List SV} {vs:List Value},okA xs=true→aZ (fX B) xs=some vs→aZ (fX []) xs=some vs
  | [],vs,_,h=>h
  | x :: xs, vs, ho, h => by
    simp only [okA] at ho
    split at ho
    · rename_i h0
      simp only [aZ] at h
      split at h
      · cases h
      · rename_i h1
        split at h
        · cases h
        · rename_i h2
          cases h
          have h3:=NO h0 h1
          rw [YO] at h3
          simp [aZ,h3,aBD ho h2]
    · cases ho
theorem YU{B:Bl}{a:Act}(hA:fY n B e a):∀{os:List Operand} {xs:List SV},aZ (iO e) os=some xs→∃vs,aZ (fX B) xs=some vs∧evs (vE B e) os=some vs
  | [],xs,h=>by cases h;exact⟨[],rfl,rfl⟩
  | o :: os, xs, h => by
    simp only [aZ] at h
    split at h
    · cases h
    · rename_i h1
      split at h
      · cases h
      · rename_i h2
        cases h
        obtain⟨v,k1,k2⟩:=eR hA h1
        obtain⟨vs,k3,k4⟩:=YU hA h2
        exact⟨v :: vs,by simp [aZ,k1,k3],by simp [evs,k2,k4]⟩
def noF:List Ch→Bool
  | []=>true
  | .ro _ _ :: _=>false
  | .f _ :: _=>false
  | .w _ _ _ :: _=>false
  | _ :: L=>noF L
theorem aIB{B:Bl}{R:List Fact}:∀{L:List Ch},noF L=true→∀x∈L,roF B R x
  | [],_,x,hx=>by cases hx
  | y :: L, h, x, hx => by
    rcases iA.1 hx with hx' | hx'
    · subst hx'
      cases x <;> first | trivial | cases h
    · cases y with
      | ro=>cases h
      | f=>cases h
      | w=>cases h
      | _=>exact aIB (L:=L) h x hx'
theorem mW.after{w w':World}{B:Bl}{L2:List Ch}(h:mW c w B L)(hn:noF L2=true)(k:mW (cW w) w' [] L2):mW c w' B (L++L2):=by
  obtain⟨⟨R,s1,s2⟩,s0⟩:=h
  obtain⟨⟨R',t1,t2⟩,t0⟩:=k
  refine⟨⟨R,?_,fun x hx=>?_⟩,s0⟩
  · rw [BJ]
    have h1:=s1.after t1
    refine h1.imp (jB.append (jB.refl _) ?_)
    have:=R1 (B:=[]) B (w:=w') L2
    simpa using this
  · rcases gK.1 hx with hx | hx
    · exact s2 x hx
    · exact aIB hn x hx
theorem mW.aMC{w w':World}{B:Bl}(h:mW c w B L)(k:gA F0 w w'):mW c w' B L:=by
  obtain⟨⟨R,s1,s2⟩,s0⟩:=h
  exact⟨⟨R,s1.same k,s2⟩,s0⟩
theorem UX{o:Oper}{f:FuncId}{x:Operand}{args:Array Operand}{ts:Array TypeId}{vs:List Value}{E:Env}{w:World}(hcall:∀args w,(callFunc f args).run P w=.ok (.enter f args) w)(ho:o.op=.call {callee:=.value x,args:=args,argTypes:=ts})(hx:ev E x=some (.func (.func f) #[] #[]))(hv:evs E args.toList=some vs):aQH P o E w f vs.toArray:=by
  have:=aJR (w:=w) (cap:=[]) (xs:=args.toList) (vs:=vs) hcall (by simpa using ho) hx hv
  simpa using this
theorem cl{α β ex:Type}{fo:Option α}{kf:α→Option β}{q:β}{o:Oper}{d:Nat}{f:FuncId}{xs:List SV}{cf1 cf2:xR}{sv:α→ex→SV}{Lf:α→ex→List Ch}(hs:kA T n K cf m e L=.call o (some d) f xs cf1 cf2 K' m' e' L')(hn:∀x y,noF (Lf x y)=true)
    (hc:∀{w},HS c w L'→∀{x},fo=some x→FnS P f (cW w) xs [] [] sv Lf x) (hF:fo.bind kf=some q)
    (k:∀x,fo=some x→kf x=some q→∀y:ex,G (.mk P T hT n c B0 N X Q) K' m' ((d,sv x y) :: e') (L'++Lf x y) cf2):G (.mk P T hT n c B0 N X Q) K m e L cf:=by
  refine gP (g:=.mk P T hT n c B0 N X Q) ?_
  rw [hs]
  intro fo' args ats ho hd hf ⟨ys,hys,hxs⟩ hA0 hdn hE
  subst hxs
  cases hfo:fo with
  | none=>rw [hfo] at hF;cases hF
  | some x =>
    rw [hfo] at hF
    refine hE ex (fun _=>m') (fun y=>(d,sv x y) :: e') (fun y=>L'++Lf x y) (fun y=>zE _) (fun B a w next Q' hm hA hS hnext=>?_) (k x hfo hF)
    obtain⟨hcall,hrun⟩:=hc ⟨_,hS⟩ hfo
    obtain⟨vs,h1,h2⟩:=YU hA hys
    obtain⟨v,h3,h4⟩:=eR hA hf
    simp [fX,aZ] at h3
    subst h3
    have h5:=hrun vs (aBD hA0 (by rw [R2];exact h1)) (aSB w)
    have h6:=UX (w:=w) hcall ho h4 h2
    unfold Oper.wp
    rw [h6 _ a hA.env,Oper.upon_enter]
    refine Calls.mono h5 fun en w' ⟨v,hv,y,g1,g2⟩=>?_
    subst hv
    rw [hd]
    have g3:=EP (UJ (.mk P T hT n c B0 N X Q) cf1++B) g1
    exact hnext y _ _ ⟨[],by simpa using hm,by simpa using hA.of (by simpa using g3) (hA.env.put (by simpa [rY,pI] using hdn) v),by simpa using hS.after (hn x y) g2⟩
end
end Go.Gv
end
noncomputable section
namespace Go.Gv
noncomputable section
variable {P:Program} {T:TT} {hT:HD P T} {n:Nat} {c:Ctx} {B0:Bl} {N:Act→World→Prop} {X:Nat→Act→World→Prop} {Q:Act→World→Prop} {K K':List Fr} {m m':Nat} {e e':SE} {L L':List Ch} {cf:xR}
def NxP(n:Nat)(c:Ctx)(B0:Bl){σ ρ υ:Type}(o:Step σ ρ)(m:Nat)(el:σ→υ→SE)(Ll:σ→υ→List Ch):Act→World→Prop:=fun a w=>∃s u,o=.next s∧qV n c B0 m (el s u) (Ll s u) a w
def BkP(n:Nat)(c:Ctx)(B0:Bl){β ρ υ:Type}(ro:ρ)(enc:β→ρ)(m:Nat)(ej:β→υ→SE)(Lj:β→υ→List Ch)(id:Nat)(X:Nat→Act→World→Prop):Nat→Act→World→Prop:=fun i a w=>if i=id then ∃b u,ro=enc b∧qV n c B0 m (ej b u) (Lj b u) a w else X i a w
theorem lp{σ ρ υ β ω α:Type}{id:Nat}{y:Code}{fb:σ→Option (Step σ ρ)}{s0:σ}{gk:ρ→Option α}{q:α}(u0:υ)(ks:List Nat)(el:σ→υ→SE)(is0 is:List Nat)(Ll:σ→υ→List Ch)(enc:β→ρ)(kb:List Nat)(ej:β→ω→SE)(ib:List Nat)(Lj:β→ω→List Ch)
    (hs:kA T n K cf m e L=.loop id y K' m' e' L') (hF:(loop fb s0).bind gk=some q)
    (h0:SW B0.length m' e' L' is0 m' (el s0 u0++kp e' ks) (Ll s0 u0++kl L' is)=some (el s0 u0++kp e' ks,Ll s0 u0++kl L' is))
    (k1:∀ro,gk ro=some q→∀s u o,fb s=some o→(∀p,o=.stop p→p=ro)→G (.mk P T hT n c B0 (NxP n c B0 o m' (fun s u=>el s u++kp e' ks) (fun s u=>Ll s u++kl L' is)) (BkP n c B0 ro enc m' (fun b u=>ej b u++kp e' kb) (fun b u=>Lj b u++kl L' ib) id (XK (.mk P T hT n c B0 N X Q) K')) Q) [] m' (el s u++kp e' ks) (Ll s u++kl L' is) (.c y))
    (k2:∀b u,gk (enc b)=some q→G (.mk P T hT n c B0 N X Q) K' m' (ej b u++kp e' kb) (Lj b u++kl L' ib) .n):G (.mk P T hT n c B0 N X Q) K m e L cf:=by
  refine gP (g:=.mk P T hT n c B0 N X Q) ?_
  rw [hs]
  intro a w hr
  cases hl:loop fb s0 with
  | none=>rw [hl] at hF;cases hF
  | some ro =>
    rw [hl] at hF
    have hF:gk ro=some q:=hF
    refine lM (KE (body:=fb) (r:=ro) (fun s a w=>∃u,qV n c B0 m' (el s u++kp e' ks) (Ll s u++kl L' is) a w) ?_ hl ⟨u0,hr.SW is0 h0⟩)
    intro s a w o ⟨u,hI⟩ hb ho
    refine CW.mono (k1 ro hF s u o hb ho a w hI) ?_ ?_ (fun _ _ h=>h)
    · rintro a w ⟨s',u',h1,h2⟩
      exact⟨s',h1,u',h2⟩
    · intro i a w h
      simp only [XK,BkP,YP] at h ⊢
      split
      · rename_i hi
        rw [if_pos hi] at h
        obtain⟨b,u,h1,h2⟩:=h
        exact k2 b u (h1 ▸ hF) a w h2
      · rename_i hi
        rw [if_neg hi] at h
        exact h
theorem nx{σ ρ υ:Type}{o:Step σ ρ}{mj:Nat}{el:σ→υ→SE}{Ll:σ→υ→List Ch}{s:σ}(u:υ)(is:List Nat)(hG:some (Step.next s)=some o)(hs:kA T n K cf m e L=.fin m' e' L')(h:SW B0.length m' e' L' is mj (el s u) (Ll s u)=some (el s u,Ll s u)):G (.mk P T hT n c B0 (NxP n c B0 o mj el Ll) X Q) K m e L cf:=
  gP (g:=.mk P T hT n c B0 _ X Q) (by
    rw [hs]
    cases hG
    exact fun a w hr=>⟨s,u,rfl,hr.SW is h⟩)
theorem bk{σ ρ β υ:Type}{o:Step σ ρ}{ro:ρ}{enc:β→ρ}{mj id:Nat}{ej:β→υ→SE}{Lj:β→υ→List Ch}{b:β}(u:υ)(is:List Nat)(hG:some (Step.stop (enc b))=some o)(hr:∀p,o=.stop p→p=ro)(hs:kA T n K cf m e L=.ex id m' e' L')(h:SW B0.length m' e' L' is mj (ej b u) (Lj b u)=some (ej b u,Lj b u)):G (.mk P T hT n c B0 N (BkP n c B0 ro enc mj ej Lj id X) Q) K m e L cf:=
  gP (g:=.mk P T hT n c B0 N _ Q) (by
    rw [hs]
    cases hG
    have:=hr _ rfl
    subst this
    intro a w hr
    show BkP n c B0 (enc b) enc mj ej Lj id X id a w
    unfold BkP
    rw [if_pos rfl]
    exact⟨b,u,rfl,hr.SW is h⟩)
theorem re{σ ρ α:Type}{o:Step σ ρ}{p ro:ρ}{F:ρ→Option α}{q:Option α}{zz:Option (Step σ ρ)}(hG:zz=some o)(hz:zz=some (Step.stop p))(hr:∀p,o=.stop p→p=ro)(hF:F ro=q):F p=q:=by
  subst hz;cases hG
  rw [hr _ rfl];exact hF
structure KI (α:Type) [aI α] where
  ex:Type
  cs:α→ex→List SV
  sub:cV→World→α→ex→Prop
  ok:∀{S w ec x},aI.rd S w ec x→∃y,aZ (bZ []) (cs x y)=some ec∧sub S w x y
  sv:α→ex→SV
  a1B:∀{S S' w w' x y},sub S w x y→(∀b o,S b o→w'.cell? ⟨b,o,none⟩=w.cell? ⟨b,o,none⟩)→(∀b o,S b o→S' b o)→sub S' w' x y
def cI:KI Int:=⟨Unit,fun x _=>[.i .i64 x],fun _ _ _ _=>True,fun h=>⟨(),by cases h;rfl,trivial⟩,fun x _=>.i .i64 x,fun _ _ _=>trivial⟩
def cB:KI Bool:=⟨Unit,fun x _=>[.b x],fun _ _ _ _=>True,fun h=>⟨(),by cases h;rfl,trivial⟩,fun x _=>.b x,fun _ _ _=>trivial⟩
def cU:KI UInt8:=⟨Unit,fun x _=>[.y x],fun _ _ _ _=>True,fun h=>⟨(),by cases h;rfl,trivial⟩,fun x _=>.y x,fun _ _ _=>trivial⟩
theorem I0{α:Type}[aI α]{S:cV}{w:World}{ec:List Value}{l:List α}(h:aI.rd S w ec l):∃s:AC,ec=[s.v l.length]:=by
  obtain⟨ad,m,h1,_⟩:=(show tO S w ec l from h)
  exact⟨⟨ad,m⟩,h1⟩
theorem St.aZX{w:World}{M:List Chunk}{R:List Fact}{f:Fact}(h:St c w M R)(s0:∀b o,c.S0 b o→b < c.w0.heap.size)(hf:f.P c.S0 c.w0):St c w M (R ++ [f]):=by
  obtain⟨F,S,a1,a2,a3,a4,a5,a6⟩:=h.sep
  refine⟨h.keep,⟨F,fun b o=>S b o∨c.S0 b o,a1,?_,a3,?_,?_,?_⟩,h.apart⟩
  · rintro b o hF (hs | hs)
    · exact a2 b o hF hs
    · rcases a3 b o hF with hw | hw
      · exact h.apart b o hw hs
      · have:=s0 b o hs;omega
  · rintro b o (hs | hs)
    · exact a4 b o hs
    · exact .inl hs
  · rintro b o (hs | hs)
    · exact a5 b o hs
    · exact P3 (s0 b o hs) h.keep.size
  · intro g hg
    rcases gK.1 hg with hg | hg
    · exact g.mono (a6 g hg) fun b o hs=>.inl hs
    · simp at hg;subst hg
      exact g.mono (g.agree hf fun b o hb=>h.keep.cell b o (s0 b o hb) fun hw=>h.apart b o hw hb) fun b o hs=>.inr hs
theorem mW.aZY{w:World}{B:Bl}{k b z:Nat}{cs:List SV}{vs:List Value}(h:mW c w B L)(hk:B[k]?=some (b,z))(hc:aZ (bZ B) cs=some vs)(hf:(fAt b z vs).P c.S0 c.w0):mW c w B (L ++ [.ro k cs]):=by
  obtain⟨⟨R,s1,s2⟩,s0⟩:=h
  refine⟨⟨R ++ [fAt b z vs],?_,fun x hx=>?_⟩,s0⟩
  · rw [BJ]
    exact St.more (ch:=GL) (St.aZX s1 s0 hf) (gA.refl _ _) ⟨F0,fun _ _ h=>h,fun _ _ h=>h.elim⟩
  · rcases gK.1 hx with hx | hx
    · exact QA (fun f hf=>P2 _ hf) (s2 x hx)
    · simp at hx;subst hx
      exact⟨b,z,vs,hk,hc,by simp⟩
theorem ix{α β:Type}{iR:aI α}(C:KI α){o:Oper}{d t:Nat}{s:AC}{i:Int}{Lv:List Ch}{cf1 cf2:xR}{ls:List α}{kf:α→Option β}{q:β}{el sz:Nat}{b1 b2:Bool}{z1 z2:List SV}{k2:TK}{n1:Nat}(hs:kA T n K cf m e L=.idx o d t s ls.length i Lv cf1 cf2 K' m' e' L')(h1:aX c s ls)(hF:(idx ls i).bind kf=some q)(ht:BF T t=some ⟨.sl el,b1,n1,z1⟩)(he:BF T el=some ⟨k2,b2,sz,z2⟩)(hn:aI.n α=sz)
    (k:∀x,idx ls i=some x→kf x=some q→∀y:C.ex,C.sub c.S0 c.w0 x y→G (.mk P T hT n c B0 N X Q) K' (m'+1) ((d,.p m' 0) :: e') (L' ++ [.ro m' (C.cs x y)]) (cf2.ext [.ro m' (C.cs x y)])):G (.mk P T hT n c B0 N X Q) K m e L cf:=by
  refine gP (g:=.mk P T hT n c B0 N X Q) ?_
  rw [hs]
  intro x' y' ho hd hx hy hP
  cases hi:idx ls i with
  | none=>rw [hi] at hF;cases hF
  | some x =>
    rw [hi] at hF
    obtain⟨dd,hd1,hd2⟩:=hT.und _ _ ht
    simp only at hd2;subst hd2
    obtain⟨ec,p1,p2⟩:=aXY (S:=c.S0) (w:=c.w0) h1 (j9 hi).2.2
    obtain⟨y,p3,p4⟩:=C.ok p2
    subst hn
    refine hP d (.p m' 0) [.ro m' (C.cs x y)] (fun _=>[(P0 (s.v ls.length),PU (aI.n α) i.toNat (s.v ls.length))]) 1 hd (fun _=>rfl) (fun B a w hA hS hm=>?_) (fun B w L hm hS=>?_) (k x hi hF y p4)
    · obtain⟨v,g1,g2⟩:=eR hA hx
      obtain⟨u,g3,g4⟩:=eR hA hy
      cases g1;cases g3
      have hrd:aI.rd c.S0 w [s.v ls.length] ls:=aIA hS (f:=AS [s.v ls.length] ls) h1
      exact⟨_,by simp [fX,gV,bZ,←hm],P7 (P:=P) (o:=o) (w:=w) hrd rfl hi hd1 (hT.size _ _ he) ho g2 g4⟩
    · exact(hS.app _).aZY (b:=P0 (s.v ls.length)) (z:=PU (aI.n α) i.toNat (s.v ls.length)) (by simp [←hm]) (fH (fun x v h=>by simpa using gH (B:=[]) _ h) p3) p1
theorem dr{id:Nat}{ops:Array Oper}(is:List Nat)(hs:kA T n K cf m e L=.rgn id ops K' m' e' L')(hm:P.follows .mixedOrders=true)(hf:(aJ0 ops && (okL m' (kl L' is) && (dR is && is.all fun j=>Nat.blt j L'.length)))=true)
    (k:∀B1,G (.mk P T hT n c B0 N X Q) K' m' e' L' (.d B1 ops (List.replicate ops.size false) is (kl L' is) (kl L' is))):G (.mk P T hT n c B0 N X Q) K m e L cf:=by
  refine gP (g:=.mk P T hT n c B0 N X Q) ?_
  rw [hs]
  intro a w ⟨B,hmm,hA,hS⟩
  simp only [DS,WZ,pI] at hf
  obtain⟨f1,f2,f3,f4⟩:=hf
  refine wp_region_held (S:=Sd (.mk P T hT n c B0 N X Q) (B0++B) (kl L' is)) hm ?_
  have:=k (B0++B) ⟨⟨B,rfl⟩,by simp,f1,rfl,f4,by rw [hmm];exact f2,f3⟩ a w.drew ⟨[],by simpa using hmm,by simpa using hA,by simpa using hS.aMC (gA.drew F0 w),fun w' h=>by simpa using h⟩
  simpa using this
end
end Go.Gv
end
noncomputable section
namespace Go.Gv
inductive StF (P:Program):List Field→List (Nat×Nat)→Prop where
  | n:StF P [] []
  | c {F:Field} {Fs:List Field} {fs:List (Nat×Nat)} {m:Nat} (h:∀w,(sizeOf F.type).run P w=.ok m w) (t:StF P Fs fs):StF P (F :: Fs) ((F.offset,m) :: fs)
noncomputable section
variable {P:Program} {T:TT} {t n:Nat} {a:Bool} {zs:List SV} {z:Value}
theorem StF.off{Fs:List Field}{fs:List (Nat×Nat)}(h:StF P Fs fs):Fs.map (·.offset)=fs.map (·.1):=by
  induction h with
  | n=>rfl
  | c h t ih=>simp [ih]
theorem StF.get{Fs:List Field}{fs:List (Nat×Nat)}(h:StF P Fs fs):∀(j:Nat) F,Fs[j]?=some F→∃m,fs[j]?=some (F.offset,m)∧∀w,(sizeOf F.type).run P w=.ok m w:=by
  induction h with
  | n=>intro j F h;simp at h
  | c h t ih =>
    intro j F hj
    cases j with
    | zero=>simp at hj;subst hj;exact⟨_,rfl,h⟩
    | succ j=>exact ih j F (by simpa using hj)
theorem StF.run{Fs:List Field}{fs:List (Nat×Nat)}(h:StF P Fs fs)(w:World):(Fs.mapM fun f=>(do pure (f.offset,←sizeOf f.type):Sem (Nat×Nat))).run P w=.ok fs w:=by
  induction h with
  | n=>simp
  | c h t ih=>simp [h] at ih ⊢;simp [ih]
theorem HD.nil:HD P []:=⟨fun _ _ h=>(by cases h),fun _ _ h=>(by cases h),fun _ _ h=>(by cases h),fun _ _ h=>(by cases h)⟩
theorem HD.add{k:TK}{d:TypeDesc}(hu:P.underlying t=some d)(hk:match k with
    | .i k=>d=.int k
    | .b=>d=.bool
    | .st fs=>∃Fs:Array Field,d=.struct Fs∧Fs.toList.map (·.offset)=fs.map (·.1)∧(∀(j:Nat) F,Fs[j]?=some F→∃m,fs[j]?=some (F.offset,m)∧∀w,(sizeOf F.type).run P w=.ok m w)∧∀w,(Fs.mapM fun f=>(do pure (f.offset,←sizeOf f.type):Sem (Nat×Nat))).run P w=.ok fs.toArray w
    | .s=>d=.string
    | .sl el=>d=.slice el
    | .x=>True) (ha:∀w,(isAgg t).run P w=.ok a w) (hs:∀w,(sizeOf t).run P w=.ok n w) (hz:∀w,(zeroValue t).run P w=.ok z w) (hc:aZ (bZ []) zs=some z.cells.toList) (h:HD P T):HD P ((t,⟨k,a,n,zs⟩) :: T):=by
  refine⟨fun t' i hi=>?_,fun t' i hi=>?_,fun t' i hi=>?_,fun t' i hi=>?_⟩ <;> simp only [BF] at hi <;> split at hi
  · rename_i hb;cases hi;rw [l7 hb];exact⟨d,hu,hk⟩
  · exact h.und t' i hi
  · rename_i hb;cases hi;rw [l7 hb];exact ha
  · exact h.agg t' i hi
  · rename_i hb;cases hi;rw [l7 hb];exact hs
  · exact h.size t' i hi
  · rename_i hb;cases hi;rw [l7 hb];exact⟨z,hz,hc⟩
  · exact h.zero t' i hi
theorem HD.st{fs:List (Nat×Nat)}{Fs:List Field}(hu:P.underlying t=some (.struct Fs.toArray))(hk:StF P Fs fs)(ha:∀w,(isAgg t).run P w=.ok a w)(hs:∀w,(sizeOf t).run P w=.ok n w)(hz:∀w,(zeroValue t).run P w=.ok z w)(hc:aZ (bZ []) zs=some z.cells.toList)(h:HD P T):HD P ((t,⟨.st fs,a,n,zs⟩) :: T):=
  HD.add (k:=.st fs) hu ⟨Fs.toArray,rfl,by simpa using hk.off,fun j F hj=>hk.get j F (by simpa using hj),fun w=>by
    have:=hk.run w
    simp at this ⊢
    simp [this]⟩ ha hs hz hc h
end
abbrev I(x:Int):SV:=.i .i64 x
end Go.Gv
end
noncomputable section
namespace Go.Gv
noncomputable section
variable {P:Program} {T:TT} {hT:HD P T} {n:Nat} {c:Ctx} {B0:Bl} {N:Act→World→Prop} {X:Nat→Act→World→Prop} {Q:Act→World→Prop} {K K':List Fr} {m m':Nat} {e e':SE} {L L':List Ch} {cf cf1 cf2:xR} {o:Oper} {Lv:List Ch} {d:Nat}
theorem ext_nil:cf.ext []=cf:=by cases cf <;> simp [xR.ext]
theorem pu{x:SV}(hs:opS (kA T n K cf m e L)=some (o,Lv,cf1,cf2,K',m',e',L'))(hd:o.dst=some d)(hv:∀B a w,fY n B e' a→mW c w B Lv→∃v,fX B x=some v∧dW P o (vE B e') w v w)
    (k:G (.mk P T hT n c B0 N X Q) K' m' ((d,x) :: e') L' cf2):G (.mk P T hT n c B0 N X Q) K m e L cf:=by
  refine gP (g:=.mk P T hT n c B0 N X Q) ?_
  have key:UU (.mk P T hT n c B0 N X Q) K' m' e' L' o Lv cf1 cf2→G (.mk P T hT n c B0 N X Q) K' m' e' L' cf1:=fun hP=>by
    refine hP d x [] (fun _=>[]) 0 hd (fun _=>rfl) (fun B a w hA hS _=>?_) (fun B w L _ hS=>by simpa using hS) (by rw [ext_nil];simpa using k)
    obtain⟨v,h1,h2⟩:=hv B a w hA hS
    exact⟨v,by simpa using h1,h2⟩
  generalize kA T n K cf m e L=s at hs
  cases s <;> simp only [opS] at hs <;> cases hs
  · exact fun _ hP=>key hP
  · exact fun _ hP _=>key hP
theorem yC{x:Operand}{k:IntKind}{i:Int}{B:Bl}{a:Act}(hA:fY n B e a)(h:(iO e x).bind tL=some (k,i)):ev (vE B e) x=some (.int k i):=by
  cases hx:iO e x with
  | none=>rw [hx] at h;cases h
  | some y =>
    rw [hx] at h
    obtain⟨v,h1,h2⟩:=eR hA hx
    rw [h2,aL7 (x:=y) h h1]
noncomputable section
variable {x y:Operand} {t z:TypeId} {k:IntKind} {i j:Int} {α:Type} {A:Option α} {q:α}
theorem aZZ(hs:opS (kA T n K cf m e L)=some (o,Lv,cf1,cf2,K',m',e',L'))(ho:(o.op,o.dst)=(.binOp .quo t x y z,some d))(hx:(iO e' x).bind tL=some (k,i))(hy:(iO e' y).bind tL=some (k,j))(hF:need (j≠0) A=some q)
    (kk:A=some q→G (.mk P T hT n c B0 N X Q) K' m' ((d,.i k (k.wrap (i.tdiv j))) :: e') L' cf2):G (.mk P T hT n c B0 N X Q) K m e L cf:=
  pu hs (congrArg Prod.snd ho) (fun B a w hA _=>⟨_,rfl,aLU (congrArg Prod.fst ho) (yC hA hx) (yC hA hy) (jO hF).1⟩) (kk (jO hF).2)
theorem aZ0(hs:opS (kA T n K cf m e L)=some (o,Lv,cf1,cf2,K',m',e',L'))(ho:(o.op,o.dst)=(.binOp .rem t x y z,some d))(hx:(iO e' x).bind tL=some (k,i))(hy:(iO e' y).bind tL=some (k,j))(hF:need (j≠0) A=some q)
    (kk:A=some q→G (.mk P T hT n c B0 N X Q) K' m' ((d,.i k (i.tmod j)) :: e') L' cf2):G (.mk P T hT n c B0 N X Q) K m e L cf:=
  pu hs (congrArg Prod.snd ho) (fun B a w hA _=>⟨_,rfl,W1 (congrArg Prod.fst ho) (yC hA hx) (yC hA hy) (jO hF).1⟩) (kk (jO hF).2)
theorem aYD{x:Operand}{l:List UInt8}{B:Bl}{a:Act}(hA:fY n B e a)(h:iO e x=some (.s l)):ev (vE B e) x=some (sv l):=by
  obtain⟨v,h1,h2⟩:=eR hA h
  cases h1;exact h2
theorem cat{p r:List UInt8}(hs:opS (kA T n K cf m e L)=some (o,Lv,cf1,cf2,K',m',e',L'))(ho:(o.op,o.dst)=(.binOp .add t x y z,some d))(hx:iO e' x=some (.s p))(hy:iO e' y=some (.s r))(hF:need (p.length+r.length≤9223372036854775807) A=some q)
    (kk:A=some q→G (.mk P T hT n c B0 N X Q) K' m' ((d,.s (p++r)) :: e') L' cf2):G (.mk P T hT n c B0 N X Q) K m e L cf:=
  pu hs (congrArg Prod.snd ho) (fun B a w hA _=>⟨_,rfl,aXL (congrArg Prod.fst ho) (aYD hA hx) (aYD hA hy) (jO hF).1⟩) (kk (jO hF).2)
theorem aVP{x:Operand}{cs:List SV}{vs:List Value}{B:Bl}{a:Act}(hA:fY n B e a)(h:(iO e x).map nbS=some (.g cs))(hv:aZ (bZ []) cs=some vs):ev (vE B e) x=some (.agg vs.toArray):=by
  cases hx:iO e x with
  | none=>rw [hx] at h;cases h
  | some y =>
    rw [hx] at h
    simp at h
    obtain⟨v,h1,h2⟩:=eR hA hx
    rw [h2,←h1,←aA8,h]
    simp only [fX,gV]
    have:=fH (g:=bZ B) (fun x v h=>by simpa using gH (B:=[]) B h) hv
    rw [this]
theorem eqS{xs ys:List SV}{vx vy:List Value}{fs:Array Field}{b:Bool}(hg:P.eqGuardType P.depth t=false)(hst:P.stoodInHeld t=false)(hu:P.underlying t=some (.struct fs))(hb:∀w,(Op.eqFields 9999 vx.toArray vy.toArray (match P.underlying t with | some (.struct fs)=>fs | _=>#[]).toList).run P w=.ok b w)(hs:opS (kA T n K cf m e L)=some (o,Lv,cf1,cf2,K',m',e',L'))(ho:(o.op,o.dst)=(.binOp .eql t x y z,some d))(hx:(iO e' x).map nbS=some (.g xs))(hy:(iO e' y).map nbS=some (.g ys))(hvx:aZ (bZ []) xs=some vx)(hvy:aZ (bZ []) ys=some vy)
    (kk:G (.mk P T hT n c B0 N X Q) K' m' ((d,.b b) :: e') L' cf2):G (.mk P T hT n c B0 N X Q) K m e L cf:=
  pu hs (congrArg Prod.snd ho) (fun B a w hA _=>⟨_,rfl,aXP hg hst hu hb (congrArg Prod.fst ho) (aVP hA hx hvx) (aVP hA hy hvy)⟩) kk
theorem neS{xs ys:List SV}{vx vy:List Value}{fs:Array Field}{b:Bool}(hg:P.eqGuardType P.depth t=false)(hst:P.stoodInHeld t=false)(hu:P.underlying t=some (.struct fs))(hb:∀w,(Op.eqFields 9999 vx.toArray vy.toArray (match P.underlying t with | some (.struct fs)=>fs | _=>#[]).toList).run P w=.ok b w)(hs:opS (kA T n K cf m e L)=some (o,Lv,cf1,cf2,K',m',e',L'))(ho:(o.op,o.dst)=(.binOp .neq t x y z,some d))(hx:(iO e' x).map nbS=some (.g xs))(hy:(iO e' y).map nbS=some (.g ys))(hvx:aZ (bZ []) xs=some vx)(hvy:aZ (bZ []) ys=some vy)
    (kk:G (.mk P T hT n c B0 N X Q) K' m' ((d,.b (!b)) :: e') L' cf2):G (.mk P T hT n c B0 N X Q) K m e L cf:=
  pu hs (congrArg Prod.snd ho) (fun B a w hA _=>⟨_,rfl,aUS hg hst hu hb (congrArg Prod.fst ho) (aVP hA hx hvx) (aVP hA hy hvy)⟩) kk
theorem cl0{α β:Type}{fo:Option α}{kf:α→Option β}{q:β}{f:FuncId}{xs:List SV}{sv:α→SV}(hs:kA T n K cf m e L=.call o (some d) f xs cf1 cf2 K' m' e' L')
    (hc:∀{w},HS c w L'→∀{x},fo=some x→Fn0 P f (cW w) xs sv x) (hF:fo.bind kf=some q)
    (k:∀x,fo=some x→kf x=some q→G (.mk P T hT n c B0 N X Q) K' m' ((d,sv x) :: e') L' cf2):G (.mk P T hT n c B0 N X Q) K m e L cf:=
  cl (Lf:=fun _ _=>[]) hs (fun _ _=>rfl) (fun h=>hc h) hF (fun x hx hk _=>by simpa using k x hx hk)
end
end
end Go.Gv
end
noncomputable section
namespace Go.Gv
noncomputable section
variable {P:Program} {T:TT} {hT:HD P T} {n:Nat} {c:Ctx} {B0:Bl} {N:Act→World→Prop} {X:Nat→Act→World→Prop} {Q:Act→World→Prop} {K K':List Fr} {m m':Nat} {e e':SE} {L L':List Ch} {cf cf1 cf2:xR} {o:Oper} {Lv:List Ch} {d:Nat}
def Fu1(P:Program)(c:Ctx){α β:Type}{iR:aI α}(C:KI α)(sr:β→SV)(g:FuncId)(cap:List Value)(p:α→Option β):Prop:=
  (∀args w,(callFunc g args).run P w=.ok (.enter g args) w)∧∀w,gA c.W c.w0 w→∀x y,C.sub (NL w) w x y→∀q,p x=some q→∀v,fX [] (C.sv x y)=some v→Calls P g (v :: cap).toArray w (Ret fun u w'=>fX [] (sr q)=some u∧mW (cW w) w' [] [])
def Fu2(P:Program)(c:Ctx){α α' β:Type}{iR:aI α}{iR':aI α'}(C:KI α)(C':KI α')(sr:β→SV)(g:FuncId)(cap:List Value)(p:α→α'→Option β):Prop:=
  (∀args w,(callFunc g args).run P w=.ok (.enter g args) w)∧∀w,gA c.W c.w0 w→∀x y x' y',C.sub (NL w) w x y→C'.sub (NL w) w x' y'→∀q,p x x'=some q→∀v v',fX [] (C.sv x y)=some v→fX [] (C'.sv x' y')=some v'→Calls P g (v :: v' :: cap).toArray w (Ret fun u w'=>fX [] (sr q)=some u∧mW (cW w) w' [] [])
theorem aSD{α:Type}{iR:aI α}(C:KI α){w:World}{B:Bl}(hS:mW c w B L){x:α}{y:C.ex}(h:C.sub c.S0 c.w0 x y):C.sub (NL w) w x y:=by
  refine C.a1B h (fun b o hb=>?_) (aSC hS)
  obtain⟨⟨R,s1,_⟩,s0⟩:=hS
  exact s1.keep.cell b o (s0 b o hb) fun hw=>s1.apart b o hw hb
theorem mW.aSE{w:World}{B:Bl}(hS:mW c w B L):gA c.W c.w0 w:=by
  obtain⟨⟨R,s1,_⟩,s0⟩:=hS
  exact s1.keep
noncomputable section
variable {α α' β γ:Type} {iR:aI α} {iR':aI α'} {C:KI α} {C':KI α'} {sr:β→SV} {g:FuncId} {cap:List Value} {q:γ} {kf:β→Option γ} {fo:Operand} {args:Array Operand} {ats:Array TypeId}
theorem aSF{f:FuncId}{x:Operand}{ts:Array TypeId}{vs:List Value}{E:Env}{w:World}(hcall:∀args w,(callFunc f args).run P w=.ok (.enter f args) w)(ho:o.op=.call {callee:=.value x,args:=args,argTypes:=ts})(hx:ev E x=some (.func (.func f) #[] cap.toArray))(hv:evs E args.toList=some vs):aQH P o E w f (vs++cap).toArray:=
  aJR (w:=w) (cap:=cap) (xs:=args.toList) (vs:=vs) hcall (by simpa using ho) hx hv
theorem aSG{B:Bl}{x:SV}{v:Value}(h:HC 0 x=true)(hv:fX B x=some v):fX [] x=some v:=by
  have:=NO h hv
  rwa [YO] at this
theorem fa1{p:α→Option β}(H:Fu1 P c C sr g cap p)(x:α)(y:C.ex)(hs:kA T n K cf m e L=.op o Lv cf1 cf2 K' m' e' L')(ho:(o.op,o.dst)=(.call {callee:=.value fo,args:=args,argTypes:=ats},some d))(hf:iO e' fo=some (.k (.func (.func g) #[] cap.toArray)))(hx:(aZ (iO e') args.toList).map nbT=some [C.sv x y])(hz:HC 0 (C.sv x y)=true)(hy:C.sub c.S0 c.w0 x y)(hF:(p x).bind kf=some q)
    (k:∀z,p x=some z→kf z=some q→G (.mk P T hT n c B0 N X Q) K' m' ((d,sr z) :: e') L' cf2):G (.mk P T hT n c B0 N X Q) K m e L cf:=by
  refine gP (g:=.mk P T hT n c B0 N X Q) ?_
  rw [hs]
  intro hdn _ hE
  obtain⟨hcall,hrun⟩:=H
  cases hp:p x with
  | none=>rw [hp] at hF;cases hF
  | some z =>
    rw [hp] at hF
    refine hE Unit (fun _=>m') (fun _=>(d,sr z) :: e') (fun _=>L') (fun _=>by simpa using zE (L:=L') []) (fun B a w next Q' hm hA hS hnext=>?_) (fun _=>k z hp hF)
    cases hys:aZ (iO e') args.toList with
    | none=>rw [hys] at hx;cases hx
    | some ys =>
      rw [hys] at hx
      simp at hx
      obtain⟨vs,h1,h2⟩:=YU hA hys
      obtain⟨u,h3,h4⟩:=eR hA hf
      simp only [fX,gV,bZ] at h3
      split at h3
      · cases h3
        rw [←aNZ,hx] at h1
        simp only [aZ] at h1
        cases hv:fX (UJ (.mk P T hT n c B0 N X Q) cf1++B) (C.sv x y) with
        | none=>rw [hv] at h1;cases h1
        | some v =>
          rw [hv] at h1
          cases h1
          have h6:=aSF (w:=w) hcall (congrArg Prod.fst ho) h4 h2
          have hd:o.dst=some d:=congrArg Prod.snd ho
          unfold Oper.wp
          rw [h6 _ a hA.env,Oper.upon_enter]
          refine Calls.mono (hrun w hS.aSE x y (aSD C hS hy) z hp v (aSG hz hv)) fun en w' ⟨v',hv',g1,g2⟩=>?_
          subst hv'
          rw [hd] at hdn ⊢
          have g3:=EP (UJ (.mk P T hT n c B0 N X Q) cf1++B) g1
          exact hnext () _ _ ⟨[],by simpa using hm,by simpa using hA.of (by simpa using g3) (hA.env.put (by simpa [rY,pI] using hdn) v'),by simpa using hS.after (L2:=[]) rfl g2⟩
      · cases h3
theorem fu1{w:World}{p:α→Option β}(hc:∀args w,(callFunc g args).run P w=.ok (.enter g args) w)(hn:∀{κ:Ctx} {x y},C.sub κ.S0 κ.w0 x y→∀{q},p x=some q→Fn0 P g κ [C.sv x y] sr q):Fu1 P (cW w) C sr g [] p:=
  ⟨hc,fun w1 _ x y hy q hq v hv=>by
    refine Calls.mono ((hn (κ:=cW w1) hy hq).run [v] (by simp [aZ,hv]) (aSB w1)) fun en w' ⟨v',h1,y,h2,h3⟩=>⟨v',h1,h2,h3⟩⟩
end
def roL:Nat→List (Nat×List SV)→List Ch
  | _,[]=>[]
  | k,(_,cs) :: r=>.ro k cs :: roL (k+1) r
def roS:List (Nat×List SV)→List Ch
  | []=>[]
  | (n,cs) :: r=>.ro n cs :: roS r
def aSH:Nat→List (Nat×List SV)→List SV
  | _,[]=>[]
  | k,_ :: r=>.p k 0 :: aSH (k+1) r
def aCE(Bs:Bl):List Value:=Bs.map fun b=>.pointer (some ⟨b.1,b.2,none⟩)
theorem rk{α:Type}[aI α]{w w1:World}{s:AC}{l:List α}(hk:gA F0 w w1)(h:aX (cW w) s l):aX (cW w1) s l:=
  aI.rd_mono (aI.rd_agree h fun b o hb=>hk.cell b o hb fun h=>h) fun b o hb=>P3 hb hk.size
theorem fk1{α β:Type}{iR:aI α}{C:KI α}{sr:β→SV}{g:FuncId}{w:World}{Bs:Bl}{cs:List (Nat×List SV)}{p:α→Option β}(hc:∀args w,(callFunc g args).run P w=.ok (.enter g args) w)(hB:∀w1,gA F0 w w1→mW (cW w1) w1 Bs (roL 0 cs))(hl:aZ (fX Bs) (aSH 0 cs)=some (aCE Bs))(hz:∀q,HC 0 (sr q)=true)(hn:∀{w1 x y},gA F0 w w1→C.sub (NL w1) w1 x y→∀{q},p x=some q→FnS P g (cW w1) (C.sv x y :: aSH 0 cs) Bs (roL 0 cs) (fun r (_:Unit)=>sr r) (fun _ _=>[]) q):Fu1 P (cW w) C sr g (aCE Bs) p:=
  ⟨hc,fun w1 hk x y hy q hq v hv=>by
    have hv':fX Bs (C.sv x y)=some v:=by simpa using EP (B:=[]) Bs hv
    refine Calls.mono ((hn hk hy hq).run (v :: aCE Bs) (by simp [aZ,hv',hl]) (hB w1 hk)) fun en w' ⟨v',h1,y',h2,h3⟩=>⟨v',h1,?_,?_⟩
    · exact aSG (hz q) h2
    · simpa using aH7 (m:=0) h3 rfl⟩
theorem aN6:∀{cs:List (Nat×List SV)} {k:Nat} {x:Ch},x∈roL k cs→∃j n c,cs[j]?=some (n,c)∧x=.ro (k+j) c
  | (n, c) :: r, k, x, h => by
    rcases iA.1 h with h | h
    · exact⟨0,n,c,rfl,by rw [h];rfl⟩
    · obtain⟨j,n',c',h1,h2⟩:=aN6 h
      exact⟨j+1,n',c',by simpa using h1,by rw [h2];congr 1;omega⟩
theorem aN7:∀{cs:List (Nat×List SV)} {n:Nat} {c:List SV},(n,c)∈cs→Ch.ro n c∈roS cs
  | (n', c') :: r, n, c, h => by
    rcases iA.1 h with h | h
    · cases h;exact YM ..
    · exact jV _ (aN7 h)
theorem aYE{B:Bl}{cs:List (Nat×List SV)}{cap:List Value}:aZ (W4 B) (cs.map (·.1))=some cap→∃Bs:Bl,cap=aCE Bs∧Bs.length=cs.length∧∀(j:Nat) n c,cs[j]?=some (n,c)→∃b,Bs[j]?=some b∧B[n]?=some b:=by
  induction cs generalizing cap with
  | nil=>intro h;cases h;exact⟨[],rfl,rfl,by simp⟩
  | cons p r ih =>
    obtain⟨n,c⟩:=p
    intro h
    simp only [DX,aZ] at h
    split at h
    · cases h
    · rename_i v hv
      split at h
      · cases h
      · rename_i vs hvs
        cases h
        obtain⟨Bs,h1,h2,h3⟩:=ih hvs
        simp only [W4] at hv
        split at hv
        · rename_i b z hb
          cases hv
          refine⟨(b,z) :: Bs,by simp [aCE,h1],by simp [h2],fun j n' c' hj=>?_⟩
          cases j with
          | zero=>simp at hj;obtain⟨rfl,rfl⟩:=hj;exact⟨(b,z),rfl,hb⟩
          | succ j=>simpa using h3 j n' c' (by simpa using hj)
        · cases hv
def aJ7:List (Nat×List SV)→Bool
  | []=>true
  | (_,c) :: r=>HC.okC 0 c && aJ7 r
theorem aJ8:∀{cs:List (Nat×List SV)} {j n:Nat} {c:List SV},aJ7 cs=true→cs[j]?=some (n,c)→HC.okC 0 c=true
  | (n', c') :: r, 0, n, c, h, hj => by
    simp only [aJ7,DS] at h
    simp at hj;rw [←hj.2];exact h.1
  | (n', c') :: r, j + 1, n, c, h, hj => by
    simp only [aJ7,DS] at h
    exact aJ8 h.2 (by simpa using hj)
theorem aYF{w:World}{B Bs:Bl}{cs:List (Nat×List SV)}(hS:mW c w B L)(hk:∀x∈roS cs,x∈L)(ho:aJ7 cs=true)(hB:∀(j:Nat) n c,cs[j]?=some (n,c)→∃b,Bs[j]?=some b∧B[n]?=some b):∀w1,gA F0 w w1→mW (cW w1) w1 Bs (roL 0 cs):=by
  intro w1 hkp
  have facts:∀x∈roL 0 cs,∃(f:Fact),f.P (NL w1) w1∧(∀R,f∈R→roF Bs R x)∧jW Bs x=GL:=by
    intro x hx
    obtain⟨j,n,cc,h1,h2⟩:=aN6 hx
    subst h2
    obtain⟨⟨R,s1,s2⟩,s0⟩:=hS
    obtain⟨b,z,vs,g1,g2,g3⟩:=s2 _ (hk _ (aN7 (AQ h1)))
    obtain⟨b',q1,q2⟩:=hB j n cc h1
    rw [g1] at q2;cases q2
    have hc0:=HI (aJ8 ho h1) g2
    rw [YO] at hc0
    obtain⟨i,hi⟩:=YJ g3
    refine⟨fAt b z vs,aZL (s1.fact i hi) hkp,fun R hR=>⟨b,z,vs,by simpa using q1,fH (fun x v h=>by simpa using gH (B:=[]) Bs h) hc0,hR⟩,rfl⟩
  have build:∀M:List Ch,(∀x∈M,x∈roL 0 cs)→∃R:List Fact,(∀f∈R,f.P (NL w1) w1)∧(∀x∈M,roF Bs R x)∧M.map (jW Bs)=List.replicate M.length GL:=by
    intro M
    induction M with
    | nil=>exact fun _=>⟨[],by simp,by simp,rfl⟩
    | cons x M ih =>
      intro hM
      obtain⟨R,h1,h2,h3⟩:=ih fun y hy=>hM y (jV _ hy)
      obtain⟨f,f1,f2,f3⟩:=facts x (hM x (by simp))
      refine⟨f :: R,fun g hg=>?_,fun y hy=>?_,by simp [f3,h3,List.replicate_succ]⟩
      · rcases iA.1 hg with hg | hg
        · subst hg;exact f1
        · exact h1 g hg
      · rcases iA.1 hy with hy | hy
        · subst hy;exact f2 _ (by simp)
        · exact QA (fun g hg=>jV _ hg) (h2 y hy)
  obtain⟨R,h1,h2,h3⟩:=build (roL 0 cs) fun _ h=>h
  refine⟨⟨R,?_,h2⟩,fun _ _ h=>h⟩
  rw [h3]
  have h4:St (cW w1) w1 [] R:=St.enter h1
  generalize (roL 0 cs).length=k
  clear h3
  induction k with
  | zero=>exact h4
  | succ k ih =>
    rw [List.replicate_succ']
    exact St.more (ch:=GL) ih (gA.refl _ _) ⟨F0,fun _ _ h=>h,fun _ _ h=>h.elim⟩
def shr(ns:List Nat):List Ch→List Ch
  | []=>[]
  | .box n cs :: L => match gO n ns with
    | true=>.box n cs :: shr ns L
    | false=>.ro n cs :: shr ns L
  | x :: L=>x :: shr ns L
theorem St.aYG{w:World}{M:List Chunk}{R:List Fact}{b z i:Nat}{vs:List Value}(h:St c w M R)(hi:M[i]?=some (P4 b z vs)):St c w (M.set i GL) (R ++ [fAt b z vs]):=by
  have h1:=h.take i hi
  obtain⟨F,S,⟨F1,F2,h1,h2,hd,hF⟩,a2,a3,a4,a5,a6⟩:=h1.sep
  have hlt:∀b' o,F1 b' o→b' < w.heap.size:=fun _ _ hf=>Chunk.lt (P4 b z vs) h1 hf
  obtain⟨g1,g2,g3⟩:=h1
  refine⟨h.keep,⟨F2,fun b o=>S b o∨F1 b o,h2,?_,fun b o hf=>a3 b o ((hF b o).2 (.inr hf)),?_,?_,?_⟩,h.apart⟩
  · rintro b o hf (hs | hs)
    · exact a2 b o ((hF b o).2 (.inr hf)) hs
    · exact hd b o hs hf
  · rintro b o (hs | hs)
    · exact a4 b o hs
    · rcases a3 b o ((hF b o).2 (.inl hs)) with h | h
      · exact .inr (.inl h)
      · exact .inr (.inr h)
  · rintro b o (hs | hs)
    · exact a5 b o hs
    · exact hlt b o hs
  · intro f hf
    rcases gK.1 hf with hf | hf
    · exact f.mono (a6 f hf) fun b o hs=>.inl hs
    · simp at hf;subst hf
      exact⟨g1,fun o ho=>.inr ((g3 b o).2 ho)⟩
theorem aSI{w:World}{B:Bl}(ns:List Nat):∀(M L:List Ch),mW c w B (M++L)→mW c w B (M++shr ns L)
  | M,[],h=>h
  | M, x :: L, h => by
    have gen:mW c w B (M++x :: shr ns L):=by
      have:=aSI ns (M ++ [x]) L (by simpa using h)
      simpa using this
    cases x with
    | box n cs =>
      simp only [shr]
      split
      · exact gen
      · obtain⟨⟨R,s1,s2⟩,s0⟩:=gen
        have hi:((M++Ch.box n cs :: shr ns L).map (jW B))[M.length]?=some (NN B n cs):=by simp [jW]
        obtain⟨F,b,z,vs,h3,h4,h5⟩:=s1.chunk (ch:=NN B n cs) M.length hi
        have s3:=s1.imp (jB.put M.length hi fun F ⟨b',z',vs',q1,q2,q3⟩=>by
          rw [h3] at q1;cases q1;rw [h4] at q2;cases q2;exact q3)
        have s4:=s3.aYG (b:=b) (z:=z) (vs:=vs) (i:=M.length) (by rw [YK];simp)
        refine⟨⟨R ++ [fAt b z vs],?_,fun x hx=>?_⟩,s0⟩
        · have:((M++Ch.ro n cs :: shr ns L).map (jW B))=(((M++Ch.box n cs :: shr ns L).map (jW B)).set M.length (P4 b z vs)).set M.length GL:=by
            simp [jW]
          rw [this];exact s4
        · rcases gK.1 hx with hx | hx
          · exact QA (fun f hf=>P2 _ hf) (s2 x (P2 _ hx))
          · rcases iA.1 hx with hx | hx
            · subst hx;exact⟨b,z,vs,h3,h4,by simp⟩
            · exact QA (fun f hf=>P2 _ hf) (s2 x (YL _ (jV _ hx)))
    | _=>exact gen
theorem mf{f:FuncId}{caps:Array Operand}{ops:Array Oper}{l:List Oper}(ns:List Nat)(hs:kA T n K cf m e L=.op o Lv (.r ops l) cf2 K' m' e' L')(ho:(o.op,o.dst)=(.makeFunc (.func f) #[] caps,some d))(hx:aZ (iO e') caps.toList=some (ns.map fun n=>.p n 0))
    (k:G (.mk P T hT n c B0 N X Q) K' m' ((d,.f f ns) :: e') (shr ns L') cf2):G (.mk P T hT n c B0 N X Q) K m e L cf:=by
  refine gP (g:=.mk P T hT n c B0 N X Q) ?_
  rw [hs]
  intro hdn _ hE
  refine hE Unit (fun _=>m') (fun _=>(d,.f f ns) :: e') (fun _=>shr ns L') (fun _=>trivial) (fun B a w next Q' hm hA hS hnext=>?_) (fun _=>k)
  obtain⟨vs,h1,h2⟩:=YU hA hx
  have hd:o.dst=some d:=congrArg Prod.snd ho
  have h3:∀{ns:List Nat} {vs:List Value},aZ (fX (UJ (.mk P T hT n c B0 N X Q) (.r ops l)++B)) (ns.map fun n=>SV.p n 0)=some vs→aZ (W4 (UJ (.mk P T hT n c B0 N X Q) (.r ops l)++B)) ns=some vs:=by
    intro ns
    induction ns with
    | nil=>intro vs h;exact h
    | cons jj ns ih =>
      intro vs h
      simp only [DX,aZ] at h
      split at h
      · cases h
      · rename_i v hv
        split at h
        · cases h
        · rename_i vs' hvs
          cases h
          have:W4 (UJ (.mk P T hT n c B0 N X Q) (.r ops l)++B) jj=some v:=by
            simp only [fX,gV,bZ] at hv
            simp only [W4]
            split at hv
            · simpa using hv
            · cases hv
          simp [aZ,this,ih hvs]
  have h5:∀{os:List Operand} {vs:List Value},evs (vE (UJ (.mk P T hT n c B0 N X Q) (.r ops l)++B) e') os=some vs→os.map (ev (vE (UJ (.mk P T hT n c B0 N X Q) (.r ops l)++B) e'))=vs.map some:=by
    intro os
    induction os with
    | nil=>intro vs h;cases h;rfl
    | cons o os ih =>
      intro vs h
      simp only [evs] at h
      split at h
      · rename_i v vs' hv hvs
        cases h
        simp [hv,ih hvs]
      · cases h
  have h6:=aUP (P:=P) (w:=w) (vf:=[]) (vc:=vs) (congrArg Prod.fst ho) rfl (h5 h2)
  unfold Oper.wp
  rw [h6 _ a hA.env,Oper.upon_value,hd]
  rw [hd] at hdn
  have h7:fX (UJ (.mk P T hT n c B0 N X Q) (.r ops l)++B) (.f f ns)=some (.func (.func f) #[] vs.toArray):=by simp only [fX,h3 h1]
  exact hnext () _ _ ⟨[],by simpa using hm,by simpa using hA.of h7 (hA.env.put (by simpa [rY,pI] using hdn) _),by simpa using aSI ns [] L' hS⟩
theorem clc{α β:Type}{fo:Option α}{kf:α→Option β}{q:β}{f g:FuncId}{xs xs0:List SV}{sv:α→SV}(is:List Nat)(cs:List (Nat×List SV))(hs:kA T n K cf m e L=.callp o (some d) f xs cf1 cf2 K' m' e' L')(hk:kl L' is=roS cs)(ho:(aJ7 cs && okA xs.dropLast)=true)(hx:xs=xs.dropLast ++ [.f g (cs.map (·.1))])
    (hc:∀{w},HS c w L'→∀{Bs:Bl},Bs.length=cs.length→(∀w1,gA F0 w w1→mW (cW w1) w1 Bs (roL 0 cs))→∀{x},fo=some x→Fn0 P f (cW w) (xs.dropLast ++ [.k (.func (.func g) #[] (aCE Bs).toArray)]) sv x) (hF:fo.bind kf=some q)
    (k:∀x,fo=some x→kf x=some q→G (.mk P T hT n c B0 N X Q) K' m' ((d,sv x) :: e') L' cf2):G (.mk P T hT n c B0 N X Q) K m e L cf:=by
  refine gP (g:=.mk P T hT n c B0 N X Q) ?_
  rw [hs]
  intro fo' args ats ho' hd hf ⟨ys,hys,hxs⟩ hdn hE
  rw [DS] at ho
  cases hfo:fo with
  | none=>rw [hfo] at hF;cases hF
  | some x =>
    rw [hfo] at hF
    refine hE Unit (fun _=>m') (fun _=>(d,sv x) :: e') (fun _=>L') (fun _=>by simpa using zE (L:=L') []) (fun B a w next Q' hm hA hS hnext=>?_) (fun _=>k x hfo hF)
    obtain⟨vs,h1,h2⟩:=YU hA hys
    obtain⟨v,h3,h4⟩:=eR hA hf
    simp [fX,aZ] at h3
    subst h3
    rw [←R2,hxs] at h1
    rw [hx] at h1
    have split:∀{as:List SV} {b:SV} {vs:List Value} {B:Bl},aZ (fX B) (as ++ [b])=some vs→∃us v,aZ (fX B) as=some us∧fX B b=some v∧vs=us ++ [v]:=by
      intro as
      induction as with
      | nil =>
        intro b vs B h
        simp only [aGP,aZ] at h
        split at h
        · cases h
        · rename_i v hv;cases h;exact⟨[],v,rfl,hv,rfl⟩
      | cons a as ih =>
        intro b vs B h
        simp only [YI,aZ] at h
        split at h
        · cases h
        · rename_i u hu
          split at h
          · cases h
          · rename_i us' hus
            cases h
            obtain⟨us,v,g1,g2,rfl⟩:=ih hus
            exact⟨u :: us,v,by simp [aZ,hu,g1],g2,rfl⟩
    obtain⟨us,fv,g1,g2,rfl⟩:=split h1
    simp only [fX] at g2
    split at g2
    · rename_i cap hcap
      cases g2
      obtain⟨Bs,b1,b2,b3⟩:=aYE hcap
      subst b1
      have hmem:∀x∈roS cs,x∈L':=fun x hx=>aH6 (is:=is) (by rw [hk];exact hx)
      obtain⟨hcall,hrun⟩:=hc ⟨_,hS⟩ b2 (aYF hS hmem ho.1 b3) hfo
      have join:∀{as:List SV} {us:List Value} {b:SV} {v:Value},aZ (fX []) as=some us→fX [] b=some v→aZ (fX []) (as ++ [b])=some (us ++ [v]):=by
        intro as
        induction as with
        | nil=>intro us b v h hb;cases h;simp [aZ,hb]
        | cons a as ih =>
          intro us b v h hb
          simp only [aZ] at h
          split at h
          · cases h
          · rename_i u hu
            split at h
            · cases h
            · rename_i us' hus;cases h;simp [aZ,hu,ih hus hb]
      have h5:=hrun (us ++ [.func (.func g) #[] (aCE Bs).toArray]) (join (aBD ho.2 g1) (by simp [fX,gV,bZ,Value.oneCell'])) (aSB w)
      have h6:=UX (w:=w) hcall ho' h4 h2
      unfold Oper.wp
      rw [h6 _ a hA.env,Oper.upon_enter]
      refine Calls.mono h5 fun en w' ⟨v,hv,y,e1,e2⟩=>?_
      subst hv
      rw [hd]
      have g3:=EP (UJ (.mk P T hT n c B0 N X Q) cf1++B) e1
      exact hnext () _ _ ⟨[],by simpa using hm,by simpa using hA.of (by simpa using g3) (hA.env.put (by simpa [rY,pI] using hdn) v),by simpa using hS.after (L2:=[]) rfl e2⟩
    · cases g2
theorem HS.u1{α β:Type}{iR:aI α}{C:KI α}{sr:β→SV}{g:FuncId}{cap:List Value}{w:World}{p:α→Option β}(h:HS c w L)(H:Fu1 P c C sr g cap p):Fu1 P (cW w) C sr g cap p:=by
  obtain⟨B,hS⟩:=h.ex
  exact⟨H.1,fun w1 hk=>H.2 w1 (hS.aSE.trans hk fun _ _ _ h=>h.elim)⟩
theorem HS.u2{α α' β:Type}{iR:aI α}{iR':aI α'}{C:KI α}{C':KI α'}{sr:β→SV}{g:FuncId}{cap:List Value}{w:World}{p:α→α'→Option β}(h:HS c w L)(H:Fu2 P c C C' sr g cap p):Fu2 P (cW w) C C' sr g cap p:=by
  obtain⟨B,hS⟩:=h.ex
  exact⟨H.1,fun w1 hk=>H.2 w1 (hS.aSE.trans hk fun _ _ _ h=>h.elim)⟩
theorem a05{α β:Type}{fo:Option α}{kf:α→Option β}{q:β}{f g:FuncId}{xs:List SV}{sv:α→SV}{n1:Nat}{c1:List SV}(is:List Nat)(hs:kA T n K cf m e L=.callp o (some d) f xs cf1 cf2 K' m' e' L')(hk:kl L' is=[.ro n1 c1])(ho:(aJ7 [(n1,c1)] && okA xs.dropLast)=true)(hx:xs=xs.dropLast ++ [.f g [n1]])
    (hc:∀{w},HS c w L'→∀{b1:Nat×Nat},(∀w1,gA F0 w w1→mW (cW w1) w1 [b1] [.ro 0 c1])→∀{x},fo=some x→Fn0 P f (cW w) (xs.dropLast ++ [.k (.func (.func g) #[] (aCE [b1]).toArray)]) sv x) (hF:fo.bind kf=some q)
    (k:∀x,fo=some x→kf x=some q→G (.mk P T hT n c B0 N X Q) K' m' ((d,sv x) :: e') L' cf2):G (.mk P T hT n c B0 N X Q) K m e L cf:=
  clc (xs0:=[]) is [(n1,c1)] hs hk ho hx (fun h Bs hl hB=>match Bs,hl,hB with | [_],_,hB=>hc h hB) hF k
end
end Go.Gv
end
noncomputable section
namespace Go.Gv
noncomputable section
variable {P:Program} {T:TT} {hT:HD P T} {n:Nat} {c:Ctx} {B0:Bl} {N:Act→World→Prop} {X:Nat→Act→World→Prop} {Q:Act→World→Prop} {K K':List Fr} {m m':Nat} {e e':SE} {L L':List Ch} {cf cf1 cf2:xR} {o:Oper} {Lv:List Ch} {d:Nat}
variable {x y z:Operand} {t t2:TypeId} {k k2:IntKind} {i j:Int} {α β:Type} {A:Option β} {q:β}
theorem aYH(hs:opS (kA T n K cf m e L)=some (o,Lv,cf1,cf2,K',m',e',L'))(ho:(o.op,o.dst)=(.call {callee:=.builtin .min,args:=#[x,y],argTypes:=#[t,t2]},some d))(hx:(iO e' x).bind tL=some (.i64,i))(hy:(iO e' y).bind tL=some (k,j))
    (kk:G (.mk P T hT n c B0 N X Q) K' m' ((d,.i .i64 (if j < i then j else i)) :: e') L' cf2):G (.mk P T hT n c B0 N X Q) K m e L cf:=
  pu hs (congrArg Prod.snd ho) (fun B a w hA _=>⟨_,rfl,aXS (congrArg Prod.fst ho) (yC hA hx) (yC hA hy)⟩) kk
theorem aZ2(hs:opS (kA T n K cf m e L)=some (o,Lv,cf1,cf2,K',m',e',L'))(ho:(o.op,o.dst)=(.call {callee:=.builtin .max,args:=#[x,y],argTypes:=#[t,t2]},some d))(hx:(iO e' x).bind tL=some (.i64,i))(hy:(iO e' y).bind tL=some (k,j))
    (kk:G (.mk P T hT n c B0 N X Q) K' m' ((d,.i .i64 (if i < j then j else i)) :: e') L' cf2):G (.mk P T hT n c B0 N X Q) K m e L cf:=
  pu hs (congrArg Prod.snd ho) (fun B a w hA _=>⟨_,rfl,aXT (congrArg Prod.fst ho) (yC hA hx) (yC hA hy)⟩) kk
noncomputable section
variable {l:List UInt8} {b1:Bool} {n1:Nat} {z1:List SV}
theorem aZ3(ht:BF T t=some ⟨.s,b1,n1,z1⟩)(hT:HD P T):P.underlying t=some .string:=by
  obtain⟨dd,hd1,hd2⟩:=hT.und _ _ ht
  simp only at hd2;subst hd2
  exact hd1
theorem qsi{kf:UInt8→Option β}(hs:opS (kA T n K cf m e L)=some (o,Lv,cf1,cf2,K',m',e',L'))(ho:(o.op,o.dst)=(.index t x y,some d))(ht:BF T t=some ⟨.s,b1,n1,z1⟩)(hx:iO e' x=some (.s l))(hy:(iO e' y).bind tL=some (k,i))(hF:(idx l i).bind kf=some q)
    (kk:∀u,idx l i=some u→kf u=some q→G (.mk P T hT n c B0 N X Q) K' m' ((d,.y u) :: e') L' cf2):G (.mk P T hT n c B0 N X Q) K m e L cf:=by
  cases hi:idx l i with
  | none=>rw [hi] at hF;cases hF
  | some u =>
    rw [hi] at hF
    exact pu hs (congrArg Prod.snd ho) (fun B a w hA _=>⟨_,rfl,aUZ (aZ3 ht hT) hi (congrArg Prod.fst ho) (aYD hA hx) (yC hA hy)⟩) (kk u hi hF)
end
noncomputable section
variable [aI α] {s:AC} {l:List α} {el:TypeId} {b1 b2:Bool} {n1 sz:Nat} {z1 z2:List SV} {kt:TK}
theorem hdB{B:Bl}{a:Act}(hA:fY n B e a){ln:Nat}(h:iO e x=some (.h s ln)):ev (vE B e) x=some (s.v ln):=by
  obtain⟨v,h1,h2⟩:=eR hA h
  cases h1;exact h2
theorem HJ(ht:BF T t=some ⟨.sl el,b1,n1,z1⟩)(hT:HD P T):P.underlying t=some (.slice el):=by
  obtain⟨dd,hd1,hd2⟩:=hT.und _ _ ht
  simp only at hd2;subst hd2
  exact hd1
theorem qsb{a b:Nat}(h1:aX c s l)(hb:a≤b∧b≤l.length)(hs:opS (kA T n K cf m e L)=some (o,Lv,cf1,cf2,K',m',e',L'))(hd:o.dst=some d)(hr:∀B act w,fY n B e' act→aI.rd c.S0 w [s.v l.length] l→dW P o (vE B e') w (gW (aI.n α) a b (s.v l.length)) w)
    (kk:∀s',aX c s' ((l.take b).drop a)→G (.mk P T hT n c B0 N X Q) K' m' ((d,.h s' ((l.take b).drop a).length) :: e') L' cf2):G (.mk P T hT n c B0 N X Q) K m e L cf:=by
  have h2:=aLZ (n:=aI.n α) (a:=a) (b:=b) rfl h1 hb.1 hb.2
  obtain⟨ad,cp,e1,_⟩:=aB3 h2
  rw [e1] at h2
  exact pu hs hd (fun B act w hA hS=>⟨_,by rw [e1];simp [fX,gV,bZ],hr B act w hA (aIA hS (f:=AS [s.v l.length] l) h1)⟩) (kk ⟨ad,cp⟩ h2)
theorem aMD(hs:opS (kA T n K cf m e L)=some (o,Lv,cf1,cf2,K',m',e',L'))(ho:(o.op,o.dst)=(.slice t x (some y) (some z) none,some d))(ht:BF T t=some ⟨.sl el,b1,n1,z1⟩)(he:BF T el=some ⟨kt,b2,sz,z2⟩)(hn:aI.n α=sz)(h1:aX c s l)(hx:iO e' x=some (.h s l.length))(hy:(iO e' y).bind tL=some (k,i))(hz:(iO e' z).bind tL=some (k2,j))(hF:need (0≤i∧i≤j∧j≤(l.length:Int)) A=some q)
    (kk:A=some q→∀s',aX c s' ((l.take j.toNat).drop i.toNat)→G (.mk P T hT n c B0 N X Q) K' m' ((d,.h s' ((l.take j.toNat).drop i.toNat).length) :: e') L' cf2):G (.mk P T hT n c B0 N X Q) K m e L cf:=by
  have hb:=(jO hF).1
  subst hn
  exact qsb h1 (by omega) hs (congrArg Prod.snd ho) (fun B act w hA h=>aPA h rfl (HJ ht hT) (hT.size _ _ he) hb (congrArg Prod.fst ho) (hdB hA hx) (yC hA hy) (yC hA hz)) (kk (jO hF).2)
theorem aSJ(hs:opS (kA T n K cf m e L)=some (o,Lv,cf1,cf2,K',m',e',L'))(ho:(o.op,o.dst)=(.slice t x none (some z) none,some d))(ht:BF T t=some ⟨.sl el,b1,n1,z1⟩)(he:BF T el=some ⟨kt,b2,sz,z2⟩)(hn:aI.n α=sz)(h1:aX c s l)(hx:iO e' x=some (.h s l.length))(hz:(iO e' z).bind tL=some (k2,j))(hF:need (0≤j∧j≤(l.length:Int)) A=some q)
    (kk:A=some q→∀s',aX c s' ((l.take j.toNat).drop 0)→G (.mk P T hT n c B0 N X Q) K' m' ((d,.h s' ((l.take j.toNat).drop 0).length) :: e') L' cf2):G (.mk P T hT n c B0 N X Q) K m e L cf:=by
  have hb:=(jO hF).1
  subst hn
  exact qsb h1 (by omega) hs (congrArg Prod.snd ho) (fun B act w hA h=>aQ3 h rfl (HJ ht hT) (hT.size _ _ he) hb (congrArg Prod.fst ho) (hdB hA hx) (yC hA hz)) (kk (jO hF).2)
end
noncomputable section
variable {zv:Value} {n1 m1:Nat} {el:TypeId}
theorem aSK{B:Bl}{xs:List SV}{vs:List Value}(h:aZ (fX []) xs=some vs):aZ (fX B) xs=some vs:=fH (fun x v h=>by simpa using EP (B:=[]) B h) h
theorem qba{ps:Array (Nat×Operand)}{xs:List SV}{vs cells:List Value}(cs:List SV)(hz:∀w,(zeroValue t).run P w=.ok zv w)(hu:P.underlying t=some (.array n1 el))(hp:∀w,(sizeOf el).run P w=.ok m1 w)(hs:opS (kA T n K cf m e L)=some (o,Lv,cf1,cf2,K',m',e',L'))(ho:(o.op,o.dst)=(.build t ps,some d))(hv:aZ (iO e') (ps.toList.map (·.2))=some xs)(hvs:aZ (fX []) xs=some vs)(hcs:aZ (bZ []) cs=some cells)(hc:Instr.fill (fun i=>some (i * m1,m1)) zv.cells ((ps.toList.map (·.1)).zip vs)=some cells.toArray)
    (kk:G (.mk P T hT n c B0 N X Q) K' m' ((d,.g cs) :: e') L' cf2):G (.mk P T hT n c B0 N X Q) K m e L cf:=
  pu hs (congrArg Prod.snd ho) (fun B a w hA _=>⟨.agg cells.toArray,by
    simp only [fX,gV]
    rw [fH (g:=bZ B) (fun x v h=>by simpa using gH (B:=[]) B h) hcs],by
    obtain⟨us,h1,h2⟩:=YU hA hv
    rw [aSK hvs] at h1
    cases h1
    exact W2 (ps:=ps.toList) (by have:=congrArg Prod.fst ho;simpa using this) hz hu hp h2 hc⟩) kk
theorem qai{γ:Type}(f:γ→Value)(g:γ→SV){l:List γ}{cs:List SV}{kf:γ→Option β}(hu:P.underlying t=some (.array n1 el))(hz:∀w,(sizeOf el).run P w=.ok 1 w)(hg:∀w,(isAgg el).run P w=.ok false w)(hgf:∀u,fX [] (g u)=some (f u))(hs:opS (kA T n K cf m e L)=some (o,Lv,cf1,cf2,K',m',e',L'))(ho:(o.op,o.dst)=(.index t x y,some d))(hx:iO e' x=some (.g cs))(hcs:aZ (bZ []) cs=some (l.map f))(hn:l.length=n1)(hy:(iO e' y).bind tL=some (k,i))(hF:(idx l i).bind kf=some q)
    (kk:∀u,idx l i=some u→kf u=some q→G (.mk P T hT n c B0 N X Q) K' m' ((d,g u) :: e') L' cf2):G (.mk P T hT n c B0 N X Q) K m e L cf:=by
  cases hi:idx l i with
  | none=>rw [hi] at hF;cases hF
  | some u =>
    rw [hi] at hF
    refine pu hs (congrArg Prod.snd ho) (fun B a w hA _=>⟨f u,by simpa using EP (B:=[]) B (hgf u),?_⟩) (kk u hi hF)
    obtain⟨v,h1,h2⟩:=eR hA hx
    simp only [fX,gV] at h1
    rw [fH (g:=bZ B) (fun x v h=>by simpa using gH (B:=[]) B h) hcs] at h1
    cases h1
    exact aXV f hu hz hg hi hn rfl (congrArg Prod.fst ho) h2 (yC hA hy)
end
end
end Go.Gv
end
noncomputable section
namespace Go.Gv
noncomputable section
variable {P:Program} {T:TT} {hT:HD P T} {n:Nat} {c:Ctx} {B0:Bl} {N:Act→World→Prop} {X:Nat→Act→World→Prop} {Q:Act→World→Prop} {K K':List Fr} {m m':Nat} {e e':SE} {L L':List Ch} {cf cf1 cf2:xR} {o:Oper} {Lv:List Ch} {d:Nat}
theorem chg{g:Gx}{ι:Type}(m2:ι→Nat)(e2:ι→SE)(L2:ι→List Ch)(h:∀B a w,B.length=m→fY g.n B e a→mW g.c w B L→∃i B',(B++B').length=m2 i∧fY g.n (B++B') (e2 i) a∧mW g.c w (B++B') (L2 i))
    (hz:∀i,Frz g cf L (L2 i)) (k:∀i,G g K (m2 i) (e2 i) (L2 i) cf):G g K m e L cf:=by
  have key:∀a w,Rel g m e L a w→∃i,Rel g (m2 i) (e2 i) (L2 i) a w:=fun a w ⟨B,h1,h2,h3⟩=>by
    obtain⟨i,B',k1,k2,k3⟩:=h _ a w h1 h2 h3
    exact⟨i,B++B',by simpa using k1,by simpa using k2,by simpa using k3⟩
  cases cf with
  | n=>exact fun a w hr=>let ⟨i,hi⟩:=key a w hr;k i a w hi
  | c x=>exact fun a w hr=>let ⟨i,hi⟩:=key a w hr;k i a w hi
  | r ops l=>exact fun a w hr=>let ⟨i,hi⟩:=key a w hr;k i a w hi
  | d B1 ops l is Lf Lv =>
    refine fun hD a w ⟨B,h1,h2,h3,h4⟩=>?_
    obtain⟨i,B',k1,k2,k3⟩:=h _ a w h1 h2 h3
    obtain⟨z1,z2⟩:=hz i hD
    exact k i ⟨hD.pre,hD.len,hD.free,z1,z2,hD.okf,hD.ap⟩ a w ⟨B++B',by simpa using k1,by simpa using k2,by simpa using k3,fun w' hw=>by
      have:=(h4 w' hw).app B'
      simpa using this⟩
  | o B1 ops l is Lf Lv ii =>
    refine fun hD a w ⟨B,h1,h2,h3,h4⟩=>?_
    obtain⟨i,B',k1,k2,k3⟩:=h _ a w h1 h2 h3
    obtain⟨z1,z2⟩:=hz i hD
    exact k i ⟨hD.pre,hD.len,hD.free,z1,z2,hD.okf,hD.ap⟩ a w ⟨B++B',by simpa using k1,by simpa using k2,by simpa using k3,fun w' hw=>by
      have:=(h4 w' hw).app B'
      simpa using this⟩
theorem DU{α β:Type}[aI α]{x y:Operand}{t el sz:Nat}{i:Int}{zv:Value}{b1:Bool}{n1:Nat}{z1:List SV}{A:Option β}{q:β}(zd:α)(hinf:SS P el sz zv)(hzd:∀w,aI.own w zv.cells.toList zd F0)(hs:kA T n K cf m e L=.op o Lv cf1 cf2 K' m' e' L')(ho:(o.op,o.dst)=(.makeSlice t x y,some d))(ht:BF T t=some ⟨.sl el,b1,n1,z1⟩)(hn:aI.n α=sz)(hzs:zv.cells.size=sz)(hx:(iO e' x).bind tL=some (.i64,i))(hy:(iO e' y).bind tL=some (.i64,i))(hF:need (0≤i∧i≤4294967296) A=some q)
    (k:A=some q→∀s':AC,G (.mk P T hT n c B0 N X Q) K' m' ((d,.h s' (List.replicate i.toNat zd).length) :: e') (L' ++ [ow s' (List.replicate i.toNat zd)]) cf2):G (.mk P T hT n c B0 N X Q) K m e L cf:=by
  refine gP (g:=.mk P T hT n c B0 N X Q) ?_
  rw [hs]
  intro hdn _ hE
  refine hE AC (fun _=>m') (fun s'=>(d,.h s' (List.replicate i.toNat zd).length) :: e') (fun s'=>L' ++ [ow s' (List.replicate i.toNat zd)]) (fun _=>zE _) (fun B a w next Q' hm hA hS hnext=>?_) (k (jO hF).2)
  obtain⟨⟨R,s1,s2⟩,s0⟩:=hS
  have hd:o.dst=some d:=congrArg Prod.snd ho
  obtain⟨v,w',k1,k2⟩:=aQ0 zd s1 hn (HJ ht hT) hinf hzs hzd (jO hF).1 (congrArg Prod.fst ho) (yC hA hx) (yC hA hy)
  have hrd:∃s':AC,v=s'.v (List.replicate i.toNat zd).length:=by
    have h1:=k2.aNF (cs:=[v]) (d:=List.replicate i.toNat zd) (L'.map (jW (UJ (.mk P T hT n c B0 N X Q) cf1++B))).length (by simp)
    obtain⟨ad,cp,h2,_⟩:=aB3 h1
    exact⟨⟨ad,cp⟩,h2⟩
  obtain⟨s',rfl⟩:=hrd
  unfold Oper.wp
  rw [k1 _ a hA.env,Oper.upon_value,hd]
  refine hnext s' _ _ ⟨[],by simpa using hm,by simpa using hA.of (by simp [fX,gV,bZ]) (hA.env.put (by rw [hd] at hdn;simpa [rY,pI] using hdn) _),⟨⟨R,by simpa [jW] using k2,fun x hx=>?_⟩,fun b o hb=>P3 (s0 b o hb) (iW _)⟩⟩
  rcases gK.1 hx with hx | hx
  · simpa using s2 x hx
  · simp at hx;subst hx;exact trivial
end
end Go.Gv
end
noncomputable section
namespace Go.Gv
def xR.BM:xR→List Nat
  | .d _ _ _ is _ _=>is
  | .o _ _ _ is _ _ _=>is
  | _=>[]
theorem R6{L M:List Ch}{j:Nat}{z:Ch}:∀{is:List Nat},(∀i∈is,i < L.length)→gO j is=true→kl (L.set j z++M) is=kl L is
  | [],_,_=>rfl
  | i :: is, h, hn => by
    have hi:=h i (by simp)
    have h1:=aCB hn
    have hne:j≠i:=fun he=>h1 (by simp [he])
    have h2:(L.set j z++M)[i]?=L[i]?:=by rw [P1 (by simpa using hi),OM hne]
    have h3:gO j is=true:=by
      unfold gO at hn
      split at hn
      · cases hn
      · exact hn
    simp only [kl,h2,R6 (fun i hi=>h i (jV _ hi)) h3]
theorem aN8{L M:List Ch}:∀{is:List Nat},(∀i∈is,i < L.length)→kl (L++M) is=kl L is
  | [],_=>rfl
  | i :: is, h => by
    simp only [kl,P1 (h i (by simp)),aN8 (M:=M) (fun i hi=>h i (jV _ hi))]
theorem aIC{g:Gx}{cf:xR}{L M:List Ch}{j:Nat}{z:Ch}(hn:gO j cf.BM=true):Frz g cf L (L.set j z++M):=by
  cases cf with
  | d B1 ops l is Lf Lv =>
    exact fun hD=>⟨(R6 hD.rng hn).trans hD.BM,fun i hi=>by have:=hD.rng i hi;simp;omega⟩
  | o B1 ops l is Lf Lv i =>
    exact fun hD=>⟨(R6 hD.rng hn).trans hD.BM,fun i hi=>by have:=hD.rng i hi;simp;omega⟩
  | _=>trivial
theorem aSL{c:Ctx}{w:World}{A:List Chunk}{R:List Fact}(h:St c w A R):St c w (A ++ [GL]) R:=by
  obtain⟨F,S,h1,rest⟩:=h.sep
  exact⟨h.keep,⟨F,S,Sep.append.2 ⟨F,F0,h1,Sep.one.2 (fun _ _ h=>h),fun _ _ _ h=>h,fun b o=>by simp [F0]⟩,rest⟩,h.apart⟩
structure CO (α:Type) [aI α] where
  ex:Type
  cs:α→ex→List SV
  Lx:α→ex→List Ch
  op:∀{w F ec q},aI.own w ec q F→∃y,aZ (bZ []) (cs q y)=some ec
  pk:∀{q y ec},aZ (bZ []) (cs q y)=some ec→OP ec q ((Lx q y).map (jW []))
  no:∀q y,noF (Lx q y)=true
  nb:∀q y B,(Lx q y).map (jW B)=(Lx q y).map (jW [])
noncomputable section
variable {P:Program} {T:TT} {hT:HD P T} {n:Nat} {c:Ctx} {B0:Bl} {N:Act→World→Prop} {X:Nat→Act→World→Prop} {Q:Act→World→Prop} {K K':List Fr} {m m':Nat} {e e':SE} {L L':List Ch} {cf cf1 cf2:xR} {o:Oper} {Lv:List Ch} {d:Nat}
theorem a06{g:Gx}{ι:Type}(m2:ι→Nat)(e2:ι→SE)(L2:ι→List Ch)(Ln:ι→List Ch)(h:∀B a w,B.length=m→fY g.n B e a→mW g.c w B L→∃i B',(B++B').length=m2 i∧fY g.n (B++B') (e2 i) a∧mW g.c w (B++B') (L2 i)∧∀w' M,mW g.c w' B M→mW g.c w' (B++B') (M++Ln i))
    (hz:∀i,Frz g cf L (L2 i)) (k:∀i,G g K (m2 i) (e2 i) (L2 i) (cf.ext (Ln i))):G g K m e L cf:=by
  have key:∀a w,Rel g m e L a w→∃i,Rel g (m2 i) (e2 i) (L2 i) a w:=fun a w ⟨B,h1,h2,h3⟩=>by
    obtain⟨i,B',k1,k2,k3,_⟩:=h _ a w h1 h2 h3
    exact⟨i,B++B',by simpa using k1,by simpa using k2,by simpa using k3⟩
  cases cf with
  | n=>exact fun a w hr=>let ⟨i,hi⟩:=key a w hr;k i a w hi
  | c x=>exact fun a w hr=>let ⟨i,hi⟩:=key a w hr;k i a w hi
  | r ops l=>exact fun a w hr=>let ⟨i,hi⟩:=key a w hr;k i a w hi
  | d B1 ops l is Lf Lv =>
    refine fun hD a w ⟨B,h1,h2,h3,h4⟩=>?_
    obtain⟨i,B',k1,k2,k3,k4⟩:=h _ a w h1 h2 h3
    obtain⟨z1,z2⟩:=hz i hD
    exact k i ⟨hD.pre,hD.len,hD.free,z1,z2,hD.okf,hD.ap⟩ a w ⟨B++B',by simpa using k1,by simpa using k2,by simpa using k3,fun w' hw=>by
      have:=k4 w' _ (h4 w' hw)
      simpa using this⟩
  | o B1 ops l is Lf Lv ii =>
    refine fun hD a w ⟨B,h1,h2,h3,h4⟩=>?_
    obtain⟨i,B',k1,k2,k3,k4⟩:=h _ a w h1 h2 h3
    obtain⟨z1,z2⟩:=hz i hD
    exact k i ⟨hD.pre,hD.len,hD.free,z1,z2,hD.okf,hD.ap⟩ a w ⟨B++B',by simpa using k1,by simpa using k2,by simpa using k3,fun w' hw=>by
      have:=k4 w' _ (h4 w' hw)
      simpa using this⟩
abbrev Shp(s:AC)(len:Nat):Prop:=∃b off m,s.v len=.slice (some ⟨b,off,none⟩) len m∧len≤maxLen
abbrev wOf(α:Type)[aI α](nb:Nat)(s:AC)(len i:Nat):Ch:=.w nb (P0 (s.v len)) (PU (aI.n α) i (s.v len))
theorem oe{α β:Type}[aI α](E:CO α)(j:Nat){t:TypeId}{s:AC}{i:Int}{ls:List α}{kf:α→Option β}{q:β}(hs:kA T n K cf m e L=.idx o d t s ls.length i Lv cf1 cf2 K' m' e' L')(hj:L'[j]?=some (ow s ls))(hz:gO j cf1.BM=true)(hF:(idx ls i).bind kf=some q)
    (k:∀x,idx ls i=some x→kf x=some q→∀y:E.ex,Shp s ls.length→G (.mk P T hT n c B0 N X Q) K' (m'+1) e' (L'.set j .no++([.o (xM (s.v ls.length) ls i.toNat),.box m' (E.cs x y),wOf α m' s ls.length i.toNat]++E.Lx x y)) (cf1.ext [wOf α m' s ls.length i.toNat])):G (.mk P T hT n c B0 N X Q) K m e L cf:=by
  refine gP (g:=.mk P T hT n c B0 N X Q) ?_
  rw [hs]
  intro x' y' ho hd hx hy hP
  cases hi:idx ls i with
  | none=>rw [hi] at hF;cases hF
  | some x =>
    rw [hi] at hF
    refine a06 (fun _=>m'+1) (fun _=>e') (fun y:{y:E.ex // Shp s ls.length}=>L'.set j .no++([.o (xM (s.v ls.length) ls i.toNat),.box m' (E.cs x y.1),wOf α m' s ls.length i.toNat]++E.Lx x y.1)) (fun _=>[wOf α m' s ls.length i.toNat]) (fun B a w hm hA hS=>?_) (fun y=>aIC hz) (fun y=>k x hi hF y.1 y.2)
    obtain⟨⟨R,s1,s2⟩,s0⟩:=hS
    have hj2:(L'.map (jW B))[j]?=some (cJ [s.v ls.length] ls):=by simp [hj,jW]
    obtain⟨ec,h1⟩:=s1.open j hj2 (j9 hi).2.2
    have hlen:((L'.map (jW B)).set j GL).length=L'.length:=by simp
    have hsh:Shp s ls.length:=aUW (k:=i.toNat) h1 L'.length (by rw [J9 (by omega)];simp)
    obtain⟨F,hF'⟩:=h1.chunk (L'.length+2) (by rw [J9 (by omega)];simp;rfl)
    obtain⟨y,hy2⟩:=E.op (show aI.own w ec x F from hF')
    have h2:=h1.unpack (L'.length+2) (by rw [J9 (by omega)];simp) (E.pk hy2)
    have hset:((L'.map (jW B)).set j GL ++ [xM (s.v ls.length) ls i.toNat,P4 (P0 (s.v ls.length)) (PU (aI.n α) i.toNat (s.v ls.length)) ec,cJ ec x]).set (L'.length+2) GL=(L'.map (jW B)).set j GL ++ [xM (s.v ls.length) ls i.toNat,P4 (P0 (s.v ls.length)) (PU (aI.n α) i.toNat (s.v ls.length)) ec,GL]:=by
      rw [List.set_append_right _ _ (by omega)]
      simp
    rw [hset] at h2
    refine⟨⟨y,hsh⟩,[(P0 (s.v ls.length),PU (aI.n α) i.toNat (s.v ls.length))],by simp [hm],hA.app _,⟨⟨R,?_,fun z hz=>?_⟩,s0⟩,fun w' M hM=>?_⟩
    · have e1:(L'.set j Ch.no).map (jW B)=(L'.map (jW B)).set j GL:=by rw [KB];rfl
      refine h2.imp ?_
      rw [BJ,BJ,←e1,j8]
      refine jB.append (R1 _ _) (jB.append (.cons (fun _ h=>h) (.cons (fun F h=>⟨_,_,ec,by simp [←hm],fH (fun x v h=>by simpa using gH (B:=[]) _ h) hy2,h⟩) (.cons (fun _ h=>h) .nil))) ?_)
      have:=R1 (B:=[]) (B ++ [(P0 (s.v ls.length),PU (aI.n α) i.toNat (s.v ls.length))]) (w:=w) (E.Lx x y)
      simpa using this
    · rcases gK.1 hz with hz | hz
      · rcases oW hz with hz | hz
        · exact aHZ _ (s2 z hz)
        · subst hz;trivial
      · rcases gK.1 hz with hz | hz
        · simp at hz
          rcases hz with rfl | rfl | rfl
          · trivial
          · trivial
          · show(B++_)[m']?=_
            simp [←hm]
        · exact aIB (E.no x y) z hz
    · obtain⟨⟨R',t1,t2⟩,t0⟩:=hM.app [(P0 (s.v ls.length),PU (aI.n α) i.toNat (s.v ls.length))]
      refine⟨⟨R',by simpa [jW] using aSL t1,fun z hz=>?_⟩,t0⟩
      rcases gK.1 hz with hz | hz
      · exact t2 z hz
      · simp at hz;subst hz
        show(B++_)[m']?=_
        simp [←hm]
theorem ie{α:Type}[aI α](p:Nat){t el sz:Nat}{s:AC}{i:Int}{ls:List α}{x:α}{nb:Nat}{b1 b2:Bool}{n1:Nat}{z1 z2:List SV}{k2:TK}(hsh:Shp s ls.length)(hs:kA T n K cf m e L=.idx o d t s ls.length i Lv cf1 cf2 K' m' e' L')(hi:idx ls i=some x)(hw:Lv[p]?=some (wOf α nb s ls.length i.toNat))(ht:BF T t=some ⟨.sl el,b1,n1,z1⟩)(he:BF T el=some ⟨k2,b2,sz,z2⟩)(hn:aI.n α=sz)
    (k:G (.mk P T hT n c B0 N X Q) K' m' ((d,.p nb 0) :: e') L' cf2):G (.mk P T hT n c B0 N X Q) K m e L cf:=by
  refine gP (g:=.mk P T hT n c B0 N X Q) ?_
  rw [hs]
  intro x' y' ho hd hx hy hP
  subst hn
  refine hP d (.p nb 0) [] (fun _=>[]) 0 hd (fun _=>rfl) (fun B a w hA hS hm=>?_) (fun B w L _ hS=>by simpa using hS) (by rw [ext_nil];simpa using k)
  obtain⟨v,g1,g2⟩:=eR hA hx
  obtain⟨u,g3,g4⟩:=eR hA hy
  cases g1;cases g3
  obtain⟨⟨R,s1,s2⟩,s0⟩:=hS
  have hB:B[nb]?=some (P0 (s.v ls.length),PU (aI.n α) i.toNat (s.v ls.length)):=s2 _ (AQ hw)
  exact⟨_,by simp [fX,gV,bZ,hB],aUX (P:=P) (o:=o) (w:=w) hsh rfl hi (HJ ht hT) (hT.size _ _ he) ho g2 g4⟩
def QC:List Ch→List Nat→List Ch
  | L,[]=>L
  | L,i :: r=>QC (L.set i .no) r
theorem NQ{B:Bl}:∀(js:List Nat) (L:List Ch),(QC L js).map (jW B)=blank (L.map (jW B)) js
  | [],L=>rfl
  | j :: js,L=>by simp only [QC,blank];rw [NQ js,KB];rfl
theorem UY{x:Ch}:∀(js:List Nat) (L:List Ch),x∈QC L js→x∈L∨x=.no
  | [],L,h=>.inl h
  | j :: js, L, h => by
    rcases UY js _ h with h | h
    · exact oW h
    · exact .inr h
theorem aBE{g:Gx}{cf:xR}{M:List Ch}:∀(js:List Nat) {L:List Ch},(js.all fun j=>gO j cf.BM)=true→Frz g cf L (QC L js++M):=by
  intro js L hj
  have main:∀{B1:Bl} {ops:Array Oper} {l:List Bool} {is:List Nat} {Lf:List Ch},(js.all fun j=>gO j is)=true→W5 g B1 ops l is Lf L→kl (QC L js++M) is=Lf∧∀j∈is,j < (QC L js++M).length:=by
    intro B1 ops l is Lf hj hD
    have key:∀(js:List Nat) (L:List Ch),(js.all fun j=>gO j is)=true→(∀i∈is,i < L.length)→kl (QC L js++M) is=kl L is∧(QC L js).length=L.length:=by
      intro js
      induction js with
      | nil =>
        intro L _ hr
        exact⟨aN8 hr,rfl⟩
      | cons j js ih =>
        intro L hj hr
        simp only [aBQ,DS] at hj
        obtain⟨h1,h2⟩:=ih (L.set j .no) hj.2 (fun i hi=>by simpa using hr i hi)
        refine⟨h1.trans ?_,by simpa [QC] using h2⟩
        have:=R6 (M:=[]) (z:=.no) hr hj.1
        simpa using this
    obtain⟨k1,k2⟩:=key js L hj hD.rng
    exact⟨k1.trans hD.BM,fun i hi=>by have:=hD.rng i hi;simp [k2];omega⟩
  cases cf with
  | d B1 ops l is Lf Lv=>exact fun hD=>main hj hD
  | o B1 ops l is Lf Lv i=>exact fun hD=>main hj hD
  | _=>trivial
def ovh(v:SV)(e:SE):List Nat→SE
  | []=>e
  | k :: ks=>(k,v) :: ovh v e ks
theorem aID{v:SV}{B:Bl}{a:Act}:∀(ks:List Nat),aZ (DY e) ks=some (ks.map fun _=>v)→fY n B e a→fY n B (ovh v e ks) a:=by
  intro ks
  have key:∀(ks:List Nat),aZ (DY e) ks=some (ks.map fun _=>v)→∀k∈ks,DY e k=some v:=by
    intro ks
    induction ks with
    | nil=>intro _ k hk;cases hk
    | cons s ks ih =>
      intro hs
      simp only [aZ,DX] at hs
      split at hs
      · cases hs
      · rename_i h1
        split at hs
        · cases hs
        · rename_i h2
          cases hs
          intro k hk
          rcases iA.1 hk with hk | hk
          · subst hk;exact h1
          · exact ih h2 k hk
  intro hs hA
  have hk:=key ks hs
  clear hs key
  have lk2:∀k x,DY (ovh v e ks) k=some x→DY e k=some x:=by
    induction ks with
    | nil=>exact fun k x h=>h
    | cons j ks ih =>
      intro k x h
      simp only [ovh,DY] at h
      split at h
      · rename_i hb
        have:=l7 hb
        subst this
        cases h
        exact hk k (by simp)
      · exact ih (fun k hk'=>hk k (jV _ hk')) k x h
  exact⟨hA.d,hA.size,fun k x h=>hA.get k x (lk2 k x h)⟩
theorem aBF{B:Bl}:∀{is:List Nat} {M:List Ch},aZ (fun i=>L[i]?) is=some M→pick (L.map (jW B)) is=M.map (jW B)
  | [],M,h=>by cases h;rfl
  | i :: is, M, h => by
    simp only [aZ] at h
    split at h
    · cases h
    · rename_i h1
      split at h
      · cases h
      · rename_i h2
        cases h
        simp only [pick,FU,h1,OO,Option.getD_some,aBF h2,DX]
theorem aSM{α:Type}[aI α](E:CO α)(h b v:Nat)(is ks:List Nat){s:AC}{l:List α}{k nb:Nat}(x:α)(y:E.ex){cs0:List SV}{ec:List Value}(hs:L[h]?=some (.o (xM (s.v l.length) l k)))(hb:L[b]?=some (.box nb cs0))(hv:L[v]?=some (wOf α nb s l.length k))(hi:aZ (fun i=>L[i]?) is=some (E.Lx x y))(hc:nbL cs0=E.cs x y)(hec:aZ (bZ []) (E.cs x y)=some ec)(ha:dR (h :: b :: is)=true)(hk:aZ (DY e) ks=some (ks.map fun _=>.h s l.length)){B:Bl}{a:Act}{w:World}(hA:fY n B e a)(hS:mW c w B L) :
    fY n B (ovh (.h s (l.set k x).length) e ks) a∧mW c w B (QC L (h :: b :: is) ++ [ow s (l.set k x)]):=by
  have hlen:(l.set k x).length=l.length:=b9
  unfold ow
  rw [hlen]
  refine⟨aID ks hk hA,?_⟩
  obtain⟨⟨R,s1,s2⟩,s0⟩:=hS
  have hB:B[nb]?=some (P0 (s.v l.length),PU (aI.n α) k (s.v l.length)):=s2 _ (AQ hv)
  refine⟨⟨R,?_,fun z hz=>?_⟩,s0⟩
  · rw [BJ,NQ]
    refine s1.shift (h :: b :: is) ha fun F hF=>?_
    simp only [pick,FU,hs,hb,OO,Option.getD_some,aBF hi,E.nb] at hF
    have hE:aZ (bZ B) cs0=some ec:=by rw [←NP,hc];exact fH (fun x v h=>by simpa using gH (B:=[]) B h) hec
    have h2:Sep w ([xM (s.v l.length) l k,P4 (P0 (s.v l.length)) (PU (aI.n α) k (s.v l.length)) ec]++(E.Lx x y).map (jW [])) F:=by
      refine Sep.imp (.cons (fun _ h=>h) (.cons (fun F h=>?_) (jB.refl _))) hF
      obtain⟨bb,z,vs,k1,k2,k3⟩:=h
      rw [hB] at k1;cases k1
      rw [hE] at k2;cases k2
      exact k3
    obtain⟨F1,F2,g1,g2,gd,gF⟩:=Sep.append.1 h2
    have h3:Sep w ([xM (s.v l.length) l k,P4 (P0 (s.v l.length)) (PU (aI.n α) k (s.v l.length)) ec] ++ [cJ ec x]) F:=Sep.append.2 ⟨F1,F2,g1,Sep.one.2 ((E.pk hec w F2).2 g2),gd,gF⟩
    exact Sep.one.2 (aGX h3)
  · rcases gK.1 hz with hz | hz
    · rcases UY _ _ hz with hz | hz
      · exact s2 z hz
      · subst hz;trivial
    · simp at hz;subst hz;trivial
theorem ce{α:Type}[aI α](E:CO α)(h b v:Nat)(is ks:List Nat){s:AC}{l:List α}{k nb:Nat}(x:α)(y:E.ex){cs0:List SV}{ec:List Value}(hs:L[h]?=some (.o (xM (s.v l.length) l k)))(hb:L[b]?=some (.box nb cs0))(hv:L[v]?=some (wOf α nb s l.length k))(hi:aZ (fun i=>L[i]?) is=some (E.Lx x y))(hc:nbL cs0=E.cs x y)(hec:aZ (bZ []) (E.cs x y)=some ec)(ha:dR (h :: b :: is)=true)(hz:((h :: b :: is).all fun j=>gO j cf.BM)=true)(hk:aZ (DY e) ks=some (ks.map fun _=>.h s l.length))
    (kk:G (.mk P T hT n c B0 N X Q) K m (ovh (.h s (l.set k x).length) e ks) (QC L (h :: b :: is) ++ [ow s (l.set k x)]) cf):G (.mk P T hT n c B0 N X Q) K m e L cf:=by
  refine chg (fun _:Unit=>m) (fun _=>ovh (.h s (l.set k x).length) e ks) (fun _=>QC L (h :: b :: is) ++ [ow s (l.set k x)]) (fun B a w hm hA hS=>?_) (fun _=>aBE _ hz) (fun _=>kk)
  obtain⟨h1,h2⟩:=aSM E h b v is ks x y hs hb hv hi hc hec ha hk hA hS
  exact⟨(),[],by simpa using hm,by simpa using h1,by simpa using h2⟩
end
end Go.Gv
end
noncomputable section
namespace Go.Gv
noncomputable section
variable {P:Program} {T:TT} {hT:HD P T} {n:Nat} {c:Ctx} {B0:Bl} {N:Act→World→Prop} {X:Nat→Act→World→Prop} {Q:Act→World→Prop} {K K':List Fr} {m m':Nat} {e e':SE} {L L':List Ch} {cf cf':xR}
theorem ceS{α:Type}[aI α](E:CO α)(h:Nat)(is ks:List Nat){s:AC}{l:List α}{k nb:Nat}(x:α)(y:E.ex){cs0:List SV}{ec:List Value}(h0:SH (kA T n K cf m e L)=some (K',cf',m',e',L'))(hs:L'[h]?=some (.o (xM (s.v l.length) l k)))(hb:L'[h+1]?=some (.box nb cs0))(hv:L'[h+2]?=some (wOf α nb s l.length k))(hi:aZ (fun i=>L'[i]?) is=some (E.Lx x y))(hc:nbL cs0=E.cs x y)(hec:aZ (bZ []) (E.cs x y)=some ec)(ha:dR (h :: (h+1) :: is)=true)(hz:((h :: (h+1) :: is).all fun j=>gO j cf'.BM)=true)(hk:aZ (DY e') ks=some (ks.map fun _=>.h s l.length))
    (kk:G (.mk P T hT n c B0 N X Q) K' m' (ovh (.h s (l.set k x).length) e' ks) (QC L' (h :: (h+1) :: is) ++ [ow s (l.set k x)]) cf'):G (.mk P T hT n c B0 N X Q) K m e L cf:=
  gP (g:=.mk P T hT n c B0 N X Q) (aBA h0 (ce E h (h+1) (h+2) is ks x y hs hb hv hi hc hec ha hz hk kk))
theorem sF(hs:kA T n K cf m e L=.fin m' e' L')(h:∀a w,qV n c B0 m' e' L' a w→N a w):G (.mk P T hT n c B0 N X Q) K m e L cf:=
  gP (g:=.mk P T hT n c B0 N X Q) (by rw [hs];exact h)
theorem sX{id:Nat}(hs:kA T n K cf m e L=.ex id m' e' L')(h:∀a w,qV n c B0 m' e' L' a w→X id a w):G (.mk P T hT n c B0 N X Q) K m e L cf:=
  gP (g:=.mk P T hT n c B0 N X Q) (by rw [hs];exact h)
theorem sR(hs:kA T n K cf m e L=.ret m' e' L')(h:∀a w,qV n c B0 m' e' L' a w→Q a w):G (.mk P T hT n c B0 N X Q) K m e L cf:=
  gP (g:=.mk P T hT n c B0 N X Q) (by rw [hs];exact h)
theorem nxR{σ ρ υ:Type}{o:Step σ ρ}{mj:Nat}{el:σ→υ→SE}{Ll:σ→υ→List Ch}{s:σ}(u:υ)(is:List Nat)(hG:some (Step.next s)=some o)(h:SW B0.length m' e' L' is mj (el s u) (Ll s u)=some (el s u,Ll s u)):∀a w,qV n c B0 m' e' L' a w→NxP n c B0 o mj el Ll a w:=by
  cases hG
  exact fun a w hr=>⟨s,u,rfl,hr.SW is h⟩
theorem mC{π υ:Type}{eq:π→Prop}{mj:Nat}{ej:π→υ→SE}{Lj:π→υ→List Ch}{p:π}(u:υ)(is:List Nat)(hF:eq p)(h:SW B0.length m' e' L' is mj (ej p u) (Lj p u)=some (ej p u,Lj p u)):∀a w,qV n c B0 m' e' L' a w→JP n c B0 eq mj ej Lj a w:=
  fun a w hr=>⟨p,u,hF,qV.SW hr is h⟩
theorem bkR{σ ρ β υ:Type}{o:Step σ ρ}{ro:ρ}{enc:β→ρ}{mj id:Nat}{ej:β→υ→SE}{Lj:β→υ→List Ch}{b:β}(u:υ)(is:List Nat)(hG:some (Step.stop (enc b))=some o)(hr:∀p,o=.stop p→p=ro)(h:SW B0.length m' e' L' is mj (ej b u) (Lj b u)=some (ej b u,Lj b u)):∀a w,qV n c B0 m' e' L' a w→BkP n c B0 ro enc mj ej Lj id X id a w:=by
  cases hG
  have:=hr _ rfl
  subst this
  intro a w hr
  unfold BkP
  rw [if_pos rfl]
  exact⟨b,u,rfl,hr.SW is h⟩
include hT in
theorem mD{fn:Func}{ρ ex:Type}{sv:ρ→ex→SV}{Lf:ρ→ex→List Ch}{r r':ρ}{rs:List ResultVar}{zz:Option ρ}(y:ex)(is:List Nat)(hF:zz=some r)(hz:zz=some r')(hr:fn.results=rs.toArray){x:SV}(hv:aHY T e' L' rs=some x)(hx:nbS x=sv r' y)(hk:HC B0.length (sv r' y)=true)(hL:SW B0.length m' e' L' is B0.length [] (Lf r' y)=some ([],Lf r' y)):∀a w,qV n c B0 m' e' L' a w→QS P fn c B0 sv Lf r a w:=by
  subst hz;cases hF
  intro a w hr'
  obtain⟨B,hm,hA,hS⟩:=id hr'
  obtain⟨v,h1,h2⟩:=aBC hr hT hA hS hv
  obtain⟨B',hm',_,hS'⟩:=hr'.SW is hL
  have hB':B'=[]:=(by simpa using hm')
  subst hB'
  refine⟨hA.d,v,h2,y,?_,by simpa using hS'⟩
  rw [←hx] at hk ⊢
  have:=NO hk (by rw [aA8];exact h1)
  rw [YN (iW _),IV] at this
  exact this
theorem lN{Z:Act→World→Prop}{α:Type}[aI α](E:CO α)(h:Nat)(is ks:List Nat){s:AC}{l:List α}{k nb:Nat}(x:α)(y:E.ex){cs0:List SV}{ec:List Value}(hs:L[h]?=some (.o (xM (s.v l.length) l k)))(hb:L[h+1]?=some (.box nb cs0))(hv:L[h+2]?=some (wOf α nb s l.length k))(hi:aZ (fun i=>L[i]?) is=some (E.Lx x y))(hc:nbL cs0=E.cs x y)(hec:aZ (bZ []) (E.cs x y)=some ec)(ha:dR (h :: (h+1) :: is)=true)(hk:aZ (DY e) ks=some (ks.map fun _=>.h s l.length))
    (kk:∀a w,qV n c B0 m (ovh (.h s (l.set k x).length) e ks) (QC L (h :: (h+1) :: is) ++ [ow s (l.set k x)]) a w→Z a w):∀a w,qV n c B0 m e L a w→Z a w:=by
  intro a w ⟨B,hm,hA,hS⟩
  obtain⟨h1,h2⟩:=aSM E h (h+1) (h+2) is ks x y hs hb hv hi hc hec ha hk hA hS
  exact kk a w ⟨B,hm,h1,h2⟩
end
def wAt(n:Nat):List Ch→Option (Nat×Nat)
  | []=>none
  | .w k b z :: L => match Nat.beq n k with
    | true=>some (b,z)
    | false=>wAt n L
  | _ :: L=>wAt n L
theorem NR{n b z:Nat}:∀{L:List Ch},wAt n L=some (b,z)→Ch.w n b z∈L
  | [],h=>by cases h
  | x :: L, h => by
    cases x with
    | w k b' z' =>
      simp only [wAt] at h
      split at h
      · rename_i hb
        have:=l7 hb
        subst this
        cases h;simp
      · exact jV _ (NR h)
    | box k cs=>exact jV _ (NR (L:=L) h)
    | ro k cs=>exact jV _ (NR (L:=L) h)
    | o ch=>exact jV _ (NR (L:=L) h)
    | f g=>exact jV _ (NR (L:=L) h)
    | no=>exact jV _ (NR (L:=L) h)
noncomputable section
variable {P:Program} {T:TT} {hT:HD P T} {n:Nat} {c:Ctx} {B0:Bl} {N:Act→World→Prop} {X:Nat→Act→World→Prop} {Q:Act→World→Prop} {K K':List Fr} {m m':Nat} {e e':SE} {L L' Lv:List Ch} {cf cf1 cf2:xR} {o:Oper} {d:Nat}
theorem iE{α:Type}[aI α](nb:Nat){t el sz:Nat}{s:AC}{i:Int}{ls:List α}{x:α}{b1 b2:Bool}{n1:Nat}{z1 z2:List SV}{k2:TK}(hsh:Shp s ls.length)(hi:idx ls i=some x)(hs:kA T n K cf m e L=.idx o d t s ls.length i Lv cf1 cf2 K' m' e' L')(hw:wAt nb Lv=some (P0 (s.v ls.length),PU (aI.n α) i.toNat (s.v ls.length)))(ht:BF T t=some ⟨.sl el,b1,n1,z1⟩)(he:BF T el=some ⟨k2,b2,sz,z2⟩)(hn:aI.n α=sz)
    (k:G (.mk P T hT n c B0 N X Q) K' m' ((d,.p nb 0) :: e') L' cf2):G (.mk P T hT n c B0 N X Q) K m e L cf:=by
  obtain⟨p,hp⟩:=List.mem_iff_getElem?.1 (NR hw)
  exact ie p hsh hs hi hp ht he hn k
end
def KI.o{α:Type}[aI α](C:KI α)(Lx:α→C.ex→List Ch)(pk:∀{q y ec},aZ (bZ []) (C.cs q y)=some ec→OP ec q ((Lx q y).map (jW [])))(no:∀q y,noF (Lx q y)=true)(nb:∀q y B,(Lx q y).map (jW B)=(Lx q y).map (jW [])):CO α:=
  ⟨C.ex,C.cs,Lx,fun h=>let ⟨y,h1,_⟩:=C.ok (aI.own_rd h);⟨y,h1⟩,pk,no,nb⟩
def oI:CO Int:=cI.o (fun _ _=>[]) (fun h=>by cases h;exact fT rfl) (fun _ _=>rfl) (fun _ _ _=>rfl)
def oB:CO Bool:=cB.o (fun _ _=>[]) (fun h=>by cases h;exact fT rfl) (fun _ _=>rfl) (fun _ _ _=>rfl)
def oU:CO UInt8:=cU.o (fun _ _=>[]) (fun h=>by cases h;exact fT rfl) (fun _ _=>rfl) (fun _ _ _=>rfl)
theorem mM{α:Type}[aI α][Flat α]{cs:List Value}{d:α}(h:aI.rd F0 default cs d)(w:World):aI.own w cs d F0:=Flat.own_of h
end Go.Gv
end
noncomputable section
namespace Go.Gv
noncomputable section
variable {P:Program} {T:TT} {hT:HD P T} {n:Nat} {c:Ctx} {B0:Bl} {N:Act→World→Prop} {X:Nat→Act→World→Prop} {Q:Act→World→Prop} {K K':List Fr} {m m':Nat} {e e':SE} {L L':List Ch} {cf:xR}
variable {b:Bool} {α:Type} {A B':Option α} {q:Option α}
theorem csK{o:Operand}{x y:Code}(ss:List Nat)(hs:kA T n K cf m e L=.cond o b x y K' m' e' L')(ho:aZ (DY e') ss=some (ss.map fun _=>SV.b b))(hF:(if b=true then A else B')=q)
    (k1:b=true→A=q→G (.mk P T hT n c B0 N X Q) K' m' (ovr true e' ss) L' (.c x)) (k2:b=false→B'=q→G (.mk P T hT n c B0 N X Q) K' m' (ovr false e' ss) L' (.c y)):G (.mk P T hT n c B0 N X Q) K m e L cf:=
  gP (g := .mk P T hT n c B0 N X Q) (by
    rw [hs]
    intro he a w hr
    have ⟨B,hm,hA,hS⟩:=hr
    obtain⟨v,h1,h2⟩:=eR hA he
    cases h1
    refine lQ hA.env h2 (fun hc=>?_) (fun hc=>?_)
    · rw [if_pos hc] at hF
      exact k1 hc hF a w (aBB hc ss ho hr)
    · rw [if_neg (by rw [hc];simp)] at hF
      exact k2 hc hF a w (aBB hc ss ho hr))
theorem caK{cf':xR}(ss:List Nat)(hs:kA T n K cf m e L=.case b cf' K' m' e' L')(ho:aZ (DY e') ss=some (ss.map fun _=>SV.b b))(hF:(if b=true then A else B')=q)
    (k1:b=true→A=q→G (.mk P T hT n c B0 N X Q) K' m' (ovr true e' ss) L' cf') (k2:b=false→B'=q→G (.mk P T hT n c B0 N X Q) K' m' (ovr false e' ss) L' cf'):G (.mk P T hT n c B0 N X Q) K m e L cf:=
  gP (g:=.mk P T hT n c B0 N X Q) (by
    rw [hs]
    cases b with
    | true=>exact aCC (fun a B hA=>R5 rfl ss ho hA) (k1 rfl (by simpa using hF))
    | false=>exact aCC (fun a B hA=>R5 rfl ss ho hA) (k2 rfl (by simpa using hF)))
end
end Go.Gv
end
noncomputable section
namespace Go.Gv
noncomputable section
variable {P:Program} {T:TT} {hT:HD P T} {n:Nat} {c:Ctx} {B0:Bl} {N:Act→World→Prop} {X:Nat→Act→World→Prop} {Q:Act→World→Prop} {K K':List Fr} {m m':Nat} {e e':SE} {L L' Lv:List Ch} {cf cf1 cf2:xR} {o:Oper} {d:Nat}
theorem aPG{α:Type}[aI α]{l:List α}(L2:AC→List Ch)(hs:kA T n K cf m e L=.op o Lv cf1 cf2 K' m' e' L')(hd:o.dst=some d)(hz:∀s',Frz (.mk P T hT n c B0 N X Q) cf1 L' (L2 s'))(h:∀B a w,fY n B e' a→mW c w B L'→∃s' w',dW P o (vE B e') w (AC.v s' l.length) w'∧mW c w' B (L2 s'))
    (k:∀s':AC,G (.mk P T hT n c B0 N X Q) K' m' ((d,.h s' l.length) :: e') (L2 s') cf2):G (.mk P T hT n c B0 N X Q) K m e L cf:=by
  refine gP (g:=.mk P T hT n c B0 N X Q) ?_
  rw [hs]
  intro hdn _ hE
  refine hE AC (fun _=>m') (fun s'=>(d,.h s' l.length) :: e') L2 hz (fun B a w next Q' hm hA hS hnext=>?_) k
  obtain⟨s',w',k1,k2⟩:=h _ a w hA hS
  unfold Oper.wp
  rw [k1 _ a hA.env,Oper.upon_value,hd]
  exact hnext s' _ _ ⟨[],by simpa using hm,by simpa using hA.of (by simp [fX,gV,bZ]) (hA.env.put (by rw [hd] at hdn;simpa [rY,pI] using hdn) _),by simpa using k2⟩
theorem W8{α:Type}[aI α]{w:World}{A:List Chunk}{R:List Fact}{v:Value}{l:List α}(h:St c w A R)(i:Nat)(hi:A[i]?=some (cJ [v] l)):∃s':AC,v=s'.v l.length:=by
  obtain⟨ad,cp,h2,_⟩:=aB3 (h.aNF i hi)
  exact⟨⟨ad,cp⟩,h2⟩
noncomputable section
variable {x y:Operand} {t el sz:Nat} {zv:Value} {b1:Bool} {n1:Nat} {z1:List SV}
theorem HE{α:Type}[aI α](hinf:SS P el sz zv)(hs:kA T n K cf m e L=.op o Lv cf1 cf2 K' m' e' L')(ho:(o.op,o.dst)=(.buildSlice t 0 #[],some d))(ht:BF T t=some ⟨.sl el,b1,n1,z1⟩)(hn:aI.n α=sz)
    (k:∀s':AC,G (.mk P T hT n c B0 N X Q) K' m' ((d,.h s' ([]:List α).length) :: e') (L' ++ [ow s' ([]:List α)]) cf2):G (.mk P T hT n c B0 N X Q) K m e L cf:=by
  refine aPG (l:=([]:List α)) (fun s'=>L' ++ [ow s' ([]:List α)]) hs (congrArg Prod.snd ho) (fun _=>zE _) (fun B a w hA hS=>?_) k
  obtain⟨⟨R,s1,s2⟩,s0⟩:=hS
  obtain⟨v,w',k1,k2⟩:=aU0 (α:=α) (e:=vE B e') (o:=o) s1 hn (HJ ht hT) hinf (congrArg Prod.fst ho)
  obtain⟨s',rfl⟩:=W8 (v:=v) (l:=([]:List α)) k2 (L'.map (jW B)).length (by simp)
  refine⟨s',w',k1,⟨⟨R,by simpa [jW] using k2,fun z hz=>?_⟩,s0⟩⟩
  rcases gK.1 hz with hz | hz
  · exact s2 z hz
  · simp at hz;subst hz;trivial
theorem I1{g:Gx}{cf:xR}{L:List Ch}{j:Nat}{z:Ch}(hn:gO j cf.BM=true):Frz g cf L (L.set j z):=by
  have:=aIC (g:=g) (M:=[]) (z:=z) (L:=L) hn
  simpa using this
theorem ap{α β:Type}[aI α][Flat α]{A:Option β}{q:β}{s s2:AC}{l xs:List α}(i:Nat)(hinf:SS P el sz zv)(hs:kA T n K cf m e L=.op o Lv cf1 cf2 K' m' e' L')(ho:(o.op,o.dst)=(.call {callee:=.builtin .append,args:=#[x,y],argTypes:=#[t,t]},some d))(ht:BF T t=some ⟨.sl el,b1,n1,z1⟩)(hn:aI.n α=sz)(hzs:zv.cells.size=sz)(hi:L'[i]?=some (ow s l))(hz:gO i cf1.BM=true)(hsrc:∀{w},HS c w L'→aX (cW w) s2 xs)(hx:iO e' x=some (.h s l.length))(hy:iO e' y=some (.h s2 xs.length))(hF:need (l.length+xs.length≤1073741824) A=some q)
    (k:A=some q→∀s':AC,G (.mk P T hT n c B0 N X Q) K' m' ((d,.h s' (l++xs).length) :: e') (L'.set i (ow s' (l++xs))) cf2):G (.mk P T hT n c B0 N X Q) K m e L cf:=by
  refine aPG (l:=l++xs) (fun s'=>L'.set i (ow s' (l++xs))) hs (congrArg Prod.snd ho) (fun _=>I1 hz) (fun B a w hA hS=>?_) (k (jO hF).2)
  have hr:aX (cW w) s2 xs:=hsrc ⟨_,hS⟩
  obtain⟨⟨R,s1,s2'⟩,s0⟩:=hS
  have hj2:(L'.map (jW B))[i]?=some (cJ [s.v l.length] l):=by simp [hi,jW]
  obtain⟨v,w',k1,k2⟩:=aGV i s1 hj2 hr hn (HJ ht hT) hinf hzs (jO hF).1 (congrArg Prod.fst ho) (hdB hA hx) (hdB hA hy)
  have hlt:i < L'.length:=(jU.1 hi).1
  obtain⟨s',rfl⟩:=W8 k2 i (by rw [YK (by simpa using hlt)])
  refine⟨s',w',k1,⟨⟨R,?_,fun z hz=>?_⟩,s0⟩⟩
  · rw [KB];exact k2
  · rcases oW hz with hz | hz
    · exact s2' z hz
    · subst hz;trivial
end
end
end Go.Gv
end
noncomputable section
namespace Go.Gv
theorem aKA{α:Type}{l:List α}{i:Int}{x:α}(h:idx l i=some x):l.set i.toNat x=l:=by
  obtain⟨hk,h2⟩:=jU.1 (j9 h).2.2
  rw [←h2];simp
noncomputable section
variable {P:Program} {T:TT} {hT:HD P T} {n:Nat} {c:Ctx} {B0:Bl} {N:Act→World→Prop} {X:Nat→Act→World→Prop} {Q:Act→World→Prop} {K K':List Fr} {m m':Nat} {e e':SE} {L L' Lv:List Ch} {cf cf' cf1 cf2:xR} {o:Oper} {d:Nat}
theorem ME{α:Type}[aI α](E:CO α)(h:Nat)(is:List Nat){s:AC}{l:List α}{i:Int}{nb:Nat}{x:α}(hx:idx l i=some x)(y:E.ex){cs0:List SV}{ec:List Value}(h0:SH (kA T n K cf m e L)=some (K',cf',m',e',L'))(hs:L'[h]?=some (.o (xM (s.v l.length) l i.toNat)))(hb:L'[h+1]?=some (.box nb cs0))(hv:L'[h+2]?=some (wOf α nb s l.length i.toNat))(hi:aZ (fun i=>L'[i]?) is=some (E.Lx x y))(hc:nbL cs0=E.cs x y)(hec:aZ (bZ []) (E.cs x y)=some ec)(ha:dR (h :: (h+1) :: is)=true)(hz:((h :: (h+1) :: is).all fun j=>gO j cf'.BM)=true)
    (kk:G (.mk P T hT n c B0 N X Q) K' m' e' (QC L' (h :: (h+1) :: is) ++ [ow s l]) cf'):G (.mk P T hT n c B0 N X Q) K m e L cf:=
  ceS E h is [] x y h0 hs hb hv hi hc hec ha hz rfl (by rw [aKA hx];exact kk)
theorem kB{Z:Act→World→Prop}{α:Type}[aI α](E:CO α)(h:Nat)(is:List Nat){s:AC}{l:List α}{i:Int}{nb:Nat}{x:α}(hx:idx l i=some x)(y:E.ex){cs0:List SV}{ec:List Value}(hs:L[h]?=some (.o (xM (s.v l.length) l i.toNat)))(hb:L[h+1]?=some (.box nb cs0))(hv:L[h+2]?=some (wOf α nb s l.length i.toNat))(hi:aZ (fun i=>L[i]?) is=some (E.Lx x y))(hc:nbL cs0=E.cs x y)(hec:aZ (bZ []) (E.cs x y)=some ec)(ha:dR (h :: (h+1) :: is)=true)
    (kk:∀a w,qV n c B0 m e (QC L (h :: (h+1) :: is) ++ [ow s l]) a w→Z a w):∀a w,qV n c B0 m e L a w→Z a w:=
  lN E h is [] x y hs hb hv hi hc hec ha rfl (by rw [aKA hx];exact kk)
noncomputable section
variable {x:Operand} {t el:Nat} {zv:Value} {b1:Bool} {n1:Nat} {z1:List SV}
theorem lt1{k:IntKind}{i:Int}(hk:k=.i64)(hinf:SS P el 1 zv)(hs:kA T n K cf m e L=.op o Lv cf1 cf2 K' m' e' L')(ho:(o.op,o.dst)=(.buildSlice t 1 #[(0,x)],some d))(ht:BF T t=some ⟨.sl el,b1,n1,z1⟩)(hx:(iO e' x).bind tL=some (k,i))
    (kk:∀s':AC,G (.mk P T hT n c B0 N X Q) K' m' ((d,.h s' [i].length) :: e') (L' ++ [ow s' [i]]) cf2):G (.mk P T hT n c B0 N X Q) K m e L cf:=by
  subst hk
  refine aPG (l:=[i]) (fun s'=>L' ++ [ow s' [i]]) hs (congrArg Prod.snd ho) (fun _=>zE _) (fun B a w hA hS=>?_) kk
  obtain⟨⟨R,s1,s2⟩,s0⟩:=hS
  obtain⟨v,w',k1,k2⟩:=aU1 (α:=Int) (e:=vE B e') (o:=o) i s1 rfl (HJ ht hT) hinf (c0:=.int .i64 i) rfl (congrArg Prod.fst ho) (yC hA hx) rfl
  obtain⟨s',rfl⟩:=W8 (v:=v) (l:=[i]) k2 (L'.map (jW B)).length (by simp)
  refine⟨s',w',k1,⟨⟨R,by simpa [jW] using k2,fun z hz=>?_⟩,s0⟩⟩
  rcases gK.1 hz with hz | hz
  · exact s2 z hz
  · simp at hz;subst hz;trivial
end
end
end Go.Gv
end
noncomputable section
namespace Go.Gv
theorem aX.sub{c:Ctx}{α:Type}[aI α]{s s':AC}{l:List α}{a b:Nat}(h:aX c s l)(hp:gW (aI.n α) a b (s.v l.length)=s'.v ((l.take b).drop a).length)(hb:a≤b∧b≤l.length):aX c s' ((l.take b).drop a):=by
  have:=aLZ (n:=aI.n α) rfl h hb.1 hb.2
  rw [hp] at this
  exact this
noncomputable section
variable {P:Program} {T:TT} {hT:HD P T} {n:Nat} {c:Ctx} {B0:Bl} {N:Act→World→Prop} {X:Nat→Act→World→Prop} {Q:Act→World→Prop} {K K':List Fr} {m m':Nat} {e e':SE} {L L' Lv:List Ch} {cf cf1 cf2:xR} {o:Oper} {d:Nat}
variable {x y z:Operand} {t el sz:Nat} {k k2:IntKind} {i j:Int} {α β:Type} [aI α] {A:Option β} {q:β} {s:AC} {l:List α} {b1 b2:Bool} {n1:Nat} {z1 z2:List SV} {kt:TK}
end
end Go.Gv
end
noncomputable section
namespace Go.Gv
theorem Sep.perm{w:World}{A B:List Chunk}(h:A.Perm B):∀{F:cV},Sep w A F→Sep w B F:=by
  induction h with
  | nil=>exact fun h=>h
  | cons a _ ih=>exact fun⟨F1,F2,h1,h2,hd,hF⟩=>⟨F1,F2,h1,ih h2,hd,hF⟩
  | swap a b L =>
    intro F h
    have h:Sep w (([b] ++ [a])++L) F:=h
    obtain⟨F1,F2,h1,h2,hd,hF⟩:=Sep.append.1 h
    exact(Sep.append (A:=[a] ++ [b])).2 ⟨F1,F2,h1.swap,h2,hd,hF⟩
  | trans _ _ i1 i2=>exact fun h=>i2 (i1 h)
theorem St.via{c:Ctx}{w:World}{A B:List Chunk}{R:List Fact}(h:St c w A R)(hs:∀F,Sep w A F→Sep w B F):St c w B R:=by
  obtain⟨F,S,hsep,rest⟩:=h.sep
  exact⟨h.keep,⟨F,S,hs F hsep,rest⟩,h.apart⟩
structure PV where
  b:Nat
  z:Nat
  A:List Value
  V:List Value
  C:List Value
def PV.whole(p:PV):Chunk:=P4 p.b p.z (p.A++(p.V++p.C))
def PV.mid(p:PV):Chunk:=P4 p.b (p.z+p.A.length) p.V
def PV.rest(p:PV):List Chunk:=[P4 p.b p.z p.A,P4 p.b (p.z+p.A.length+p.V.length) p.C]
theorem aW2{α:Type}{a v c:α}{M R:List α}:(a :: v :: c :: (M++R)).Perm (v :: (M++(a :: c :: R))):=by
  refine(List.Perm.swap v a _).trans (List.Perm.cons v ?_)
  exact((List.perm_middle (a:=c)).symm.cons a).trans (List.perm_middle (a:=a)).symm
theorem aZ5{w:World}:∀{ps:List PV} {F:cV},Sep w (ps.map PV.whole) F→Sep w (ps.map PV.mid++ps.flatMap PV.rest) F
  | [],F,h=>h
  | p :: ps, F, h => by
    obtain⟨F1,F2,h1,h2,hd,hF⟩:=h
    exact Sep.perm aW2 (Sep.append.2 ⟨F1,F2,aO9 h1,aZ5 h2,hd,hF⟩)
theorem aZ6{w:World}:∀{ps:List PV} {F:cV},Sep w (ps.map PV.mid++ps.flatMap PV.rest) F→Sep w (ps.map PV.whole) F
  | [],F,h=>h
  | p :: ps, F, h => by
    have h2:Sep w ([P4 p.b p.z p.A,p.mid,P4 p.b (p.z+p.A.length+p.V.length) p.C]++(ps.map PV.mid++ps.flatMap PV.rest)) F:=Sep.perm (aW2 (M:=ps.map PV.mid) (R:=ps.flatMap PV.rest)).symm h
    obtain⟨F1,F2,h1,h3,hd,hF⟩:=Sep.append.1 h2
    exact⟨F1,F2,aQ2 h1,aZ6 h3,hd,hF⟩
theorem St.aZ7{c:Ctx}{w:World}{A M:List Chunk}{R:List Fact}(h:St c w (A++M) R)(s0:∀b o,c.S0 b o→b < c.w0.heap.size) :
    ∃κ:Ctx,κ.w0=w∧(∀b o,κ.S0 b o→b < w.heap.size)∧St κ w A []∧(∀f:Fact,f.P c.S0 c.w0→f.P κ.S0 w)∧(∀f∈R,f.P κ.S0 w) ∧
      (∀ch∈M,∀f:Fact,(∀w F,ch.P w F→f.P F w)→f.P κ.S0 w)∧∀w' A' R',St κ w' A' R'→St c w' (A'++M) R:=by
  obtain⟨F,S,hsep,hFS,hFW,hSS,hSlt,hR⟩:=h.sep
  obtain⟨F1,F2,h1,h2,hd,hF⟩:=Sep.append.1 hsep
  have hk0:c.w0.heap.size≤w.heap.size:=h.keep.size
  have h1S0:∀b o,F1 b o→c.S0 b o→False:=fun b o p q=>by
    rcases hFW b o ((hF b o).2 (.inl p)) with hw | hw
    · exact h.apart b o hw q
    · have:=s0 b o q;omega
  have hlt:∀b o,(S b o∨F2 b o)∨c.S0 b o→b < w.heap.size:=by
    rintro b o ((q | q) | q)
    · exact hSlt b o q
    · exact Sep.lt h2 q
    · have:=s0 b o q;omega
  have hap:∀b o,F1 b o→((S b o∨F2 b o)∨c.S0 b o)→False:=by
    rintro b o p ((q | q) | q)
    · exact hFS b o ((hF b o).2 (.inl p)) q
    · exact hd b o p q
    · exact h1S0 b o p q
  refine⟨⟨w,F1,fun b o=>(S b o∨F2 b o)∨c.S0 b o⟩,rfl,hlt,⟨gA.refl _ _,⟨F1,fun b o=>(S b o∨F2 b o)∨c.S0 b o,h1,hap,fun _ _ h=>.inl h,fun _ _ h=>.inl h,hlt,by simp⟩,hap⟩,fun f hf=>?_,fun f hf=>f.mono (hR f hf) fun b o q=>.inl (.inl q),fun ch hch f hf=>?_,?_⟩
  · exact f.mono (f.agree hf fun b o q=>h.keep.cell b o (s0 b o q) fun hw=>h.apart b o hw q) fun b o q=>.inr q
  · obtain⟨j,hj⟩:=YJ hch
    obtain⟨G1,G2,g1,_,_,gF⟩:=(Sep.take hj).1 h2
    exact f.mono (hf w G1 g1) fun b o q=>.inl (.inr ((gF b o).2 (.inl q)))
  · intro w' A' R' k
    obtain⟨F',S',b1,b2,b3,b4,b5,b6⟩:=k.sep
    have hk:gA F1 w w':=k.keep
    have hGW:∀b o,b < c.w0.heap.size→F1 b o→c.W b o:=fun b o hb g=>by
      rcases hFW b o ((hF b o).2 (.inl g)) with h | h
      · exact h
      · omega
    refine⟨h.keep.trans hk hGW,⟨fun b o=>F' b o∨F2 b o,S,Sep.append.2 ⟨F',F2,b1,Sep.keep hk h2 fun b o hf g=>hd b o g hf,?_,fun _ _=>Iff.rfl⟩,?_,?_,hSS,fun b o hS=>P3 (hSlt b o hS) hk.size,?_⟩,h.apart⟩
    · intro b o hg hf
      rcases b3 b o hg with h | h
      · exact hd b o h hf
      · have h:w.heap.size≤b:=h
        have:=Sep.lt h2 hf;omega
    · rintro b o (hf | hf) hS
      · rcases b3 b o hf with h | h
        · exact hFS b o ((hF b o).2 (.inl h)) hS
        · have h:w.heap.size≤b:=h
          have:=hSlt b o hS;omega
      · exact hFS b o ((hF b o).2 (.inr hf)) hS
    · rintro b o (hf | hf)
      · rcases b3 b o hf with h' | h'
        · exact hFW b o ((hF b o).2 (.inl h'))
        · exact .inr (FV h.keep.size h')
      · exact hFW b o ((hF b o).2 (.inr hf))
    · intro f hf
      exact f.agree (hR f hf) fun b o hS=>hk.cell b o (hSlt b o hS) fun g=>hFS b o ((hF b o).2 (.inl g)) hS
abbrev PS:=List (Nat×Nat×Nat×Nat)
def aIE:Nat→List (List SV)→List Ch
  | _,[]=>[]
  | k,c :: r=>.box k c :: aIE (k+1) r
def KJ(L:List Ch)(i n:Nat):List SV:=match L[i]? with
  | some (.box k cs) => match Nat.beq n k with
    | true=>cs
    | false=>[]
  | _=>[]
def aKB(L:List Ch):PS→Option (List (List SV))
  | []=>some []
  | (i, n, o, k) :: r => match Nat.ble (o + k) (KJ L i n).length, Nat.ble 1 k, frc (((KJ L i n).drop o).take k), aKB L r with
    | true,true,some d,some ds=>some (d :: ds)
    | _,_,_,_=>none
def NS(L M:List Ch):PS→List (List SV)→List Ch
  | (i,n,o,_) :: r,c :: cs=>NS L (M.set i (.box n (ovw (KJ L i n) o c))) r cs
  | _,_=>M
def DV:PS→List Nat
  | []=>[]
  | p :: r=>p.1 :: DV r
def rnP:PS→Nat→SV→Option SV
  | [], _, x => match HC 0 x with
    | true=>some x
    | false=>none
  | (_, n, o, _) :: r, j, x => match x with
    | .p n' o' => match Nat.beq n n', Nat.beq o o' with
      | true,true=>some (.p j 0)
      | _,_=>rnP r (j+1) (.p n' o')
    | x=>rnP r (j+1) x
structure HG (c κ:Ctx) (L:List Ch) (js:List Nat):Prop where
  a:∀{α:Type} [aI α] {s:AC} {d:List α},aX c s d→aX κ s d
  o:∀{α:Type} [aI α] {s:AC} {d:List α} (i:Nat),L[i]?=some (ow s d)→gO i js=true→aX κ s d
  f:∀{α:Type} [aI α] {s:AC} {d:List α} (i:Nat),L[i]?=some (fr s d)→aX κ s d
def PvR(B:Bl)(L:List Ch):PS→List (List SV)→List PV→Prop
  | [],[],[]=>True
  | (i,n,o,k) :: r,d :: ds,p :: ps=>(∃cs vs,L[i]?=some (.box n cs)∧B[n]?=some (p.b,p.z)∧aZ (bZ B) cs=some vs∧o+k≤cs.length∧p.A=vs.take o∧p.V=(vs.drop o).take k∧p.C=vs.drop (o+k)∧d=(cs.drop o).take k)∧PvR B L r ds ps
  | _,_,_=>False
def blP(pv:List PV):Bl:=pv.map fun p=>(p.b,p.z+p.A.length)
noncomputable section
variable {c:Ctx} {w:World} {B:Bl} {L:List Ch} {R:List Fact}
theorem aKC{i n:Nat}{x:SV}{r:List SV}(h:KJ L i n=x :: r):L[i]?=some (.box n (x :: r)):=by
  unfold KJ at h
  split at h
  · rename_i k cs hk
    split at h
    · rename_i hb
      rw [l7 hb,hk,h]
    · cases h
  · cases h
theorem aW3(hS:St c w (L.map (jW B)) R):∀{ps:PS} {ds:List (List SV)},aKB L ps=some ds→∃pv,PvR B L ps ds pv
  | [],ds,h=>by cases h;exact⟨[],trivial⟩
  | (i, n, o, k) :: r, ds, h => by
    simp only [aKB] at h
    split at h
    · rename_i d ds' h1 h2 h3 h4
      cases h
      have h1:=AR h1
      have h2:=AR h2
      obtain⟨pv,hpv⟩:=aW3 hS h4
      have h3:=LD h3
      subst h3
      cases hc:KJ L i n with
      | nil=>rw [hc] at h1;simp at h1;omega
      | cons x cs =>
        have hL:=aKC hc
        obtain⟨F,b,z,vs,g1,g2,g3⟩:=hS.chunk (ch:=NN B n (x :: cs)) i (by simp [hL,jW])
        exact⟨⟨b,z,vs.take o,(vs.drop o).take k,vs.drop (o+k)⟩ :: pv,⟨x :: cs,vs,hL,g1,g2,by rw [←hc];exact h1,rfl,rfl,rfl,by simp only [hc]⟩,hpv⟩
    · cases h
theorem parts{vs:List Value}{o k:Nat}:vs.take o++((vs.drop o).take k++vs.drop (o+k))=vs:=by
  rw [←List.drop_drop,UO,UO]
theorem aN9{F:cV}:∀{ps:PS} {ds:List (List SV)} {pv:List PV} {F:cV},PvR B L ps ds pv→Sep w (pick (L.map (jW B)) (DV ps)) F→Sep w (pv.map PV.whole) F
  | [],[],[],F,_,h=>h
  | (i, n, o, k) :: r, d :: ds, p :: ps, F, ⟨⟨cs, vs, h1, h2, h3, h4, h5, h6, h7, h8⟩, hr⟩, h => by
    simp only [DV,pick,FU,h1,OO,Option.getD_some] at h
    obtain⟨F1,F2,g1,g2,gd,gF⟩:=h
    refine⟨F1,F2,?_,aN9 (F:=F) hr g2,gd,gF⟩
    obtain⟨b,z,vs',k1,k2,k3⟩:=g1
    rw [h2] at k1;cases k1
    rw [h3] at k2;cases k2
    unfold PV.whole
    rw [h5,h6,h7,parts]
    exact k3
theorem aMF{Bs:Bl}{p:PV}{ps:List PV}{j:Nat}(h:∀i,Bs[j+i]?=(blP (p :: ps))[i]?):Bs[j]?=some (p.b,p.z+p.A.length)∧∀i,Bs[j+1+i]?=(blP ps)[i]?:=by
  refine⟨?_,fun i=>?_⟩
  · have:=h 0
    simpa [blP] using this
  · have:=h (i+1)
    rw [show j+1+i=j+(i+1) by omega,this]
    simp [blP]
theorem aSO{Bs:Bl}:∀{ps:PS} {ds:List (List SV)} {pv:List PV} {j:Nat} {F:cV},PvR B L ps ds pv→ds.all (HC.okC 0)=true→(∀i,Bs[j+i]?=(blP pv)[i]?)→Sep w (pv.map PV.mid) F→Sep w ((aIE j ds).map (jW Bs)) F
  | [],[],[],_,F,_,_,_,h=>h
  | (i, n, o, k) :: r, d :: ds, p :: ps, j, F, ⟨⟨cs, vs, h1, h2, h3, h4, h5, h6, h7, h8⟩, hr⟩, ho, hB, h => by
    simp only [aBQ,DS] at ho
    obtain⟨F1,F2,g1,g2,gd,gF⟩:=h
    obtain⟨b1,b2⟩:=aMF hB
    refine⟨F1,F2,⟨p.b,p.z+p.A.length,p.V,b1,?_,g1⟩,aSO hr ho.2 b2 g2,gd,gF⟩
    have e1:aZ (bZ B) d=some p.V:=by rw [h8,h6];exact R0 k (RZ o h3)
    have e2:=HI ho.1 e1
    rw [YO] at e2
    exact fH (fun x v h=>by simpa using gH (B:=[]) Bs h) e2
theorem aMG{Bs:Bl}:∀{ps:PS} {ds:List (List SV)} {pv:List PV} {j:Nat} {x x':SV} {v:Value},PvR B L ps ds pv→(∀i,Bs[j+i]?=(blP pv)[i]?)→rnP ps j x=some x'→fX B x=some v→fX Bs x'=some v
  | [], [], [], j, x, x', v, _, _, hx, hv => by
    simp only [rnP] at hx
    split at hx
    · rename_i h0
      cases hx
      have:=NO h0 hv
      rw [YO] at this
      simpa using EP (B:=[]) Bs this
    · cases hx
  | (i, n, o, k) :: r, d :: ds, p :: ps, j, x, x', v, ⟨⟨cs, vs, h1, h2, h3, h4, h5, h6, h7, h8⟩, hr⟩, hB, hx, hv => by
    obtain⟨b1,b2⟩:=aMF hB
    simp only [rnP] at hx
    split at hx
    · rename_i n' o'
      split at hx
      · rename_i e1 e2
        cases hx
        have e1:=l7 e1
        have e2:=l7 e2
        subst e1;subst e2
        simp only [fX,gV,bZ,h2] at hv
        have hA:p.A.length=o:=by rw [h5,xZ,mL h3];omega
        simp only [fX,gV,bZ,b1,hA,MH]
        exact hv
      · exact aMG hr b2 hx hv
    · exact aMG hr b2 hx hv
theorem aOA{Bs:Bl}{ps:PS}{ds:List (List SV)}{pv:List PV}(hr:PvR B L ps ds pv)(hB:∀i,Bs[0+i]?=(blP pv)[i]?):∀{xs xs':List SV} {vs:List Value},aZ (rnP ps 0) xs=some xs'→aZ (fX B) xs=some vs→aZ (fX Bs) xs'=some vs
  | [],_,_,h,hv=>by cases h;exact hv
  | x :: xs, xs', vs, h, hv => by
    simp only [aZ] at h hv
    split at h
    · cases h
    · rename_i h1
      split at h
      · cases h
      · rename_i h2
        cases h
        split at hv
        · cases hv
        · rename_i v1
          split at hv
          · cases hv
          · rename_i v2
            cases hv
            simp only [aZ,aMG hr hB h1 v1,aOA hr hB h2 v2]
def PvN(B:Bl):List PV→List (List SV)→List PV→Prop
  | [],[],[]=>True
  | p :: ps,d :: ds,q :: qs=>(q.b=p.b∧q.z=p.z∧q.A=p.A∧q.C=p.C∧q.V.length=p.V.length∧aZ (bZ B) d=some q.V)∧PvN B ps ds qs
  | _,_,_=>False
theorem aKD:∀{ps:List PV} {ds:List (List SV)} {qs:List PV},PvN B ps ds qs→qs.flatMap PV.rest=ps.flatMap PV.rest∧blP qs=blP ps
  | [],[],[],_=>⟨rfl,rfl⟩
  | p :: ps, d :: ds, q :: qs, ⟨⟨h1, h2, h3, h4, h5, h6⟩, hr⟩ => by
    obtain⟨e1,e2⟩:=aKD hr
    simp only [List.flatMap_cons,e1,PV.rest,h1,h2,h3,h4,h5]
    refine⟨trivial,?_⟩
    simp only [blP,DX,h1,h2,h3] at e2 ⊢
    rw [e2]
def aCG:PS→List (List SV)→Bool
  | [],[]=>true
  | (_, _, _, k) :: r, d :: ds => match Nat.beq d.length k with
    | true=>aCG r ds
    | false=>false
  | _,_=>false
theorem aSP:∀{ps:PS} {ds:List (List SV)} {pv:List PV},PvR B L ps ds pv→pv.length=ps.length
  | [],[],[],_=>rfl
  | (i,n,o,k) :: r,d :: ds,p :: ps,⟨_,hr⟩=>by simp [aSP hr]
theorem aOB{Bs:Bl}:∀{ps:PS} {ds:List (List SV)} {pv:List PV} {es:List (List SV)} {j:Nat},PvR B L ps ds pv→aCG ps es=true→es.all (HC.okC 0)=true→(∀i,Bs[j+i]?=(blP pv)[i]?)→(∀i cs,es[i]?=some cs→∃F,(NN Bs (j+i) cs).P w F)→∃qs,PvN B pv es qs∧jB w ((aIE j es).map (jW Bs)) (qs.map PV.mid)
  | [],[],[],[],j,_,_,_,_,_=>⟨[],trivial,.nil⟩
  | [],[],[],e :: es,j,_,hl,_,_,_=>by simp [aCG] at hl
  | (i,n,o,k) :: r,d :: ds,p :: ps,[],j,_,hl,_,_,_=>by simp [aCG] at hl
  | (i, n, o, k) :: r, d :: ds, p :: ps, e :: es, j, ⟨⟨cs, vs, h1, h2, h3, h4, h5, h6, h7, h8⟩, hr⟩, hl, ho, hB, hc => by
    simp only [aCG] at hl
    split at hl
    · rename_i he
      have he:=l7 he
      simp only [aBQ,DS] at ho
      obtain⟨b1,b2⟩:=aMF hB
      obtain⟨qs,q1,q2⟩:=aOB hr hl ho.2 b2 fun i cs hi=>by
        have:=hc (i+1) cs (by simpa using hi)
        rwa [show j+(i+1)=j+1+i by omega] at this
      obtain⟨F,b,z,us,g1,g2,g3⟩:=hc 0 e rfl
      have hlen:=mL h3
      have g4:=HI ho.1 g2
      rw [YO] at g4
      refine⟨⟨p.b,p.z,p.A,us,p.C⟩ :: qs,⟨⟨rfl,rfl,rfl,rfl,?_,fH (fun x v h=>by simpa using gH (B:=[]) B h) g4⟩,q1⟩,.cons (fun F hF=>?_) q2⟩
      · rw [mL g2,h6,xZ,MG,he];omega
      · obtain⟨b',z',us',k1,k2,k3⟩:=hF
        rw [show j=j+0 by omega] at b1
        simp only [MH] at g2 k2 k1 b1
        rw [b1] at k1;cases k1
        rw [g2] at k2;cases k2
        exact k3
    · cases hl
theorem aCH:∀{ws vs:List Value} {o:Nat},o+ws.length≤vs.length→SG vs o ws=vs.take o++(ws++vs.drop (o+ws.length))
  | [],vs,o,h=>by simp [SG]
  | x :: ws, vs, o, h => by
    simp only [KA] at h
    simp only [SG]
    rw [aCH (by simp;omega)]
    have t1:(vs.set o x).take (o+1)=vs.take o ++ [x]:=by
      rw [List.take_add_one,YK (by omega)]
      rw [List.take_set,List.set_eq_of_length_le (by simp;omega)]
      rfl
    have t2:(vs.set o x).drop (o+1+ws.length)=vs.drop (o+(ws.length+1)):=by
      rw [List.drop_set_of_lt (by omega),show o+1+ws.length=o+(ws.length+1) by omega]
    rw [t1,t2]
    simp
theorem aSQ:∀{ps:PS} {ds es:List (List SV)} {pv qs:List PV} {M:List Ch} {F:cV},PvR B L ps ds pv→PvN B pv es qs→(∀i∈DV ps,M[i]?=some .no)→dR (DV ps)=true→Sep w (qs.map PV.whole++M.map (jW B)) F→Sep w ((NS L M ps es).map (jW B)) F
  | [],[],[],[],[],M,F,_,_,_,_,h=>h
  | (i, n, o, k) :: r, d :: ds, e :: es, p :: ps, q :: qs, M, F, ⟨⟨cs, vs, h1, h2, h3, h4, h5, h6, h7, h8⟩, hr⟩, ⟨⟨n1, n2, n3, n4, n5, n6⟩, hn⟩, hM, ha, h => by
    simp only [DV,dR,DS] at ha
    have hi:M[i]?=some .no:=hM i (by simp [DV])
    have hlt:i < M.length:=(jU.1 hi).1
    simp only [NS]
    refine aSQ (ps:=r) (ds:=ds) (es:=es) (pv:=ps) (qs:=qs) hr hn (fun j hj=>?_) ha.2 ?_
    · have hne:i≠j:=fun e=>by
        subst e
        have:=WZ.1 ha.1 _ hj
        simp at this
      rw [OM hne]
      exact hM j (by simp [DV,hj])
    · have h9:Sep w (qs.map PV.whole++(q.whole :: M.map (jW B))) F:=Sep.perm List.perm_middle.symm h
      obtain⟨F1,F2,g1,g2,gd,gF⟩:=Sep.append.1 h9
      refine Sep.append.2 ⟨F1,F2,g1,?_,gd,gF⟩
      have hc:KJ L i n=cs:=by
        unfold KJ
        rw [h1]
        simp
      have e0:(M.map (jW B)).set i GL=M.map (jW B):=by
        have:(M.map (jW B))[i]?=some GL:=by simp [hi,jW]
        obtain⟨hl,he⟩:=jU.1 this
        rw [←he];exact aBT hl
      have e1:Sep w ((M.map (jW B)).set i q.whole) F2:=Sep.put (by simpa using hlt) (by rw [e0];exact g2)
      rw [KB,hc]
      refine Sep.imp ?_ e1
      refine jB.set i (jB.refl _) fun F hF=>⟨p.b,p.z,q.A++(q.V++q.C),h2,?_,by rw [←n1,←n2];exact hF⟩
      have hlen:=mL h3
      have hV:p.V.length=k:=by rw [h6,xZ,MG];omega
      have hVe:e.length=k:=by rw [←mL n6,n5,hV]
      rw [aH1 _ _ _ (by omega),n3,n4,h5,h7]
      have:=US o h3 n6
      rw [this,aCH (by omega),n5,hV]
  | [],[],e :: es,[],_,M,F,_,hn,_,_,_=>by simp [PvN] at hn
  | [],[],[],[],q :: qs,M,F,_,hn,_,_,_=>by simp [PvN] at hn
  | (i,n,o,k) :: r,d :: ds,[],p :: ps,qs,M,F,_,hn,_,_,_=>by simp [PvN] at hn
  | (i,n,o,k) :: r,d :: ds,e :: es,p :: ps,[],M,F,_,hn,_,_,_=>by simp [PvN] at hn
theorem aKE{x:Ch}:∀{ps:PS} {es:List (List SV)} {M:List Ch},x∈NS L M ps es→x∈M∨∃n cs,x=.box n cs
  | [],_,M,h=>.inl (by simpa [NS] using h)
  | (i,n,o,k) :: r,[],M,h=>.inl (by simpa [NS] using h)
  | (i, n, o, k) :: r, e :: es, M, h => by
    rcases aKE (ps:=r) (es:=es) (by simpa [NS] using h) with h | h
    · rcases oW h with h | h
      · exact .inl h
      · exact .inr ⟨_,_,h⟩
    · exact .inr h
end
end Go.Gv
end
noncomputable section
namespace Go.Gv
def cpS:Stop→Option (Oper×Option Nat×FuncId×List SV×xR×xR×List Fr×Nat×SE×List Ch)
  | .call o d f xs cf cf' K m e L=>some (o,d,f,xs,cf,cf',K,m,e,L)
  | .callp o d f xs cf cf' K m e L=>some (o,d,f,xs,cf,cf',K,m,e,L)
  | _=>none
def dse(d:Option Nat)(v:SV)(e:SE):SE:=match d with
  | some d=>(d,v) :: e
  | none=>e
def QD:List Ch→Bool
  | []=>true
  | .o _ :: L=>QD L
  | _ :: _=>false
theorem aCI{B B':Bl}:∀{L:List Ch},QD L=true→L.map (jW B)=L.map (jW B')
  | [],_=>rfl
  | .o c :: L,h=>by simp only [DX,jW];rw [aCI (L:=L) h]
theorem aCJ{B:Bl}{R:List Fact}:∀{L:List Ch},QD L=true→∀x∈L,roF B R x
  | [],_,x,hx=>by cases hx
  | .o c :: L, h, x, hx => by
    rcases iA.1 hx with hx | hx
    · subst hx;trivial
    · exact aCJ (L:=L) h x hx
theorem aKF{B:Bl}{R:List Fact}:∀{cs:List (List SV)} {k:Nat},∀x∈aIE k cs,roF B R x
  | [],k,x,hx=>by cases hx
  | c :: cs, k, x, hx => by
    rcases iA.1 hx with hx | hx
    · subst hx;trivial
    · exact aKF x hx
theorem aCK:∀{cs:List (List SV)} {k i:Nat} {c:List SV},cs[i]?=some c→(aIE k cs)[i]?=some (.box (k+i) c)
  | c' :: cs,k,0,c,h=>by simp at h;subst h;rfl
  | c' :: cs, k, i + 1, c, h => by
    have:=aCK (k:=k+1) (show cs[i]?=some c by simpa using h)
    simpa [aIE,UP,Nat.add_comm 1] using this
theorem UZ{L:List Chunk}:∀{a b:List Nat},pick L (a++b)=pick L a++pick L b
  | [],b=>rfl
  | i :: a,b=>by simp only [YI,pick,UZ (a:=a)]
theorem aBG:∀{js:List Nat} {L:List Ch},(QC L js).length=L.length
  | [],L=>rfl
  | j :: js,L=>by simp only [QC];rw [aBG];simp
theorem aSR:∀{js:List Nat} {L:List Ch} {i:Nat},i < L.length→L[i]?=some .no∨i∈js→(QC L js)[i]?=some .no
  | [],L,i,_,h=>by rcases h with h | h;exact h;cases h
  | j :: js, L, i, hl, h => by
    simp only [QC]
    refine aSR (by simpa using hl) ?_
    by_cases e:j=i
    · subst e;left;rw [YK hl]
    · rw [OM e]
      rcases h with h | h
      · exact .inl h
      · rcases iA.1 h with h | h
        · exact absurd h.symm e
        · exact .inr h
theorem aSS{B:Bl}{L:List Ch}:∀{ps:PS} {ds:List (List SV)} {pv:List PV},PvR B L ps ds pv→∀i∈DV ps,i < L.length
  | [],[],[],_,i,h=>by cases h
  | (i, n, o, k) :: r, d :: ds, p :: ps, ⟨⟨cs, vs, h1, _⟩, hr⟩, j, h => by
    rcases iA.1 h with h | h
    · subst h;exact(jU.1 h1).1
    · exact aSS hr j h
theorem aOC:∀{a b:List Nat},dR (a++b)=true→dR a=true
  | [],b,_=>rfl
  | i :: a, b, h => by
    simp only [YI,dR,DS,List.all_append] at h ⊢
    exact⟨h.1.1,aOC h.2⟩
theorem aKG{g:Gx}{cf:xR}{L M:List Ch}{j:Nat}{z:Ch}(h:Frz g cf L M)(hn:gO j cf.BM=true):Frz g cf L (M.set j z):=by
  cases cf with
  | d B1 ops l is Lf Lv =>
    intro hD
    obtain⟨h1,h2⟩:=h hD
    have:=R6 (L:=M) (M:=[]) (j:=j) (z:=z) h2 hn
    rw [FT] at this
    exact⟨by rw [this];exact h1,fun i hi=>by simpa using h2 i hi⟩
  | o B1 ops l is Lf Lv ii =>
    intro hD
    obtain⟨h1,h2⟩:=h hD
    have:=R6 (L:=M) (M:=[]) (j:=j) (z:=z) h2 hn
    rw [FT] at this
    exact⟨by rw [this];exact h1,fun i hi=>by simpa using h2 i hi⟩
  | _=>trivial
theorem aKH{g:Gx}{cf:xR}{L L0:List Ch}:∀{ps:PS} {es:List (List SV)} {M:List Ch},Frz g cf L M→((DV ps).all fun j=>gO j cf.BM)=true→Frz g cf L (NS L0 M ps es)
  | [],_,M,h,_=>by simpa [NS] using h
  | (i,n,o,k) :: r,[],M,h,_=>by simpa [NS] using h
  | (i, n, o, k) :: r, e :: es, M, h, hz => by
    simp only [DV,aBQ,DS] at hz
    exact aKH (ps:=r) (es:=es) (aKG h hz.1) hz.2
theorem aG6{i:Nat}:∀{js:List Nat},gO i js=true→(js.all fun j=>!Nat.beq j i)=true
  | [],_=>rfl
  | j :: js, h => by
    simp only [gO] at h
    split at h
    · cases h
    · rename_i hb
      simp only [aBQ,DS,Bool.not_eq_true']
      refine⟨?_,aG6 h⟩
      cases hji:Nat.beq j i with
      | false=>rfl
      | true =>
        rw [l7 hji] at hb
        simp at hb
theorem aYI{g:Gx}{s:Stop}{o:Oper}{d:Option Nat}{f:FuncId}{xs:List SV}{cf cf':xR}{K:List Fr}{m:Nat}{e:SE}{L:List Ch}(hs:cpS s=some (o,d,f,xs,cf,cf',K,m,e,L))
    (h:∀fo args ats,o.op=.call {callee:=.value fo,args:=args,argTypes:=ats}→o.dst=d→iO e fo=some (.f f [])→(∃ys,aZ (iO e) args.toList=some ys∧nbA ys=xs)→rY g.n d=true→YT g K m e L o cf cf'→G g K m e L cf):Gs g s:=by
  cases s <;> simp only [cpS] at hs <;> cases hs
  · exact fun fo args ats a1 a2 a3 a4 _ a6 a7=>h fo args ats a1 a2 a3 a4 a6 a7
  · exact h
noncomputable section
variable {P:Program} {T:TT} {hT:HD P T} {n:Nat} {c:Ctx} {B0:Bl} {N:Act→World→Prop} {X:Nat→Act→World→Prop} {Q:Act→World→Prop} {K K':List Fr} {m m':Nat} {e e':SE} {L L':List Ch} {cf cf1 cf2:xR} {o:Oper}
theorem cwk{α β ex:Type}{fo:Option α}{kf:α→Option β}{q:β}{d:Option Nat}{f:FuncId}{xs xs0:List SV}{cs0:List (List SV)}{M:List Ch}{sv:α→ex→SV}{cb:α→ex→List (List SV)}{Lr:α→ex→List Ch}(ps:PS)(is:List Nat)
    (hs:cpS (kA T n K cf m e L)=some (o,d,f,xs,cf1,cf2,K',m',e',L')) (hb:aKB L' ps=some cs0) (hi:aZ (fun i=>L'[i]?) is=some M) (hx:aZ (rnP ps 0) xs=some xs0)
    (hk:(QD M && (cs0.all (HC.okC 0) && (dR (DV ps++is) && (DV ps++is).all fun j=>gO j cf1.BM)))=true)
    (hn:∀x y,(aCG ps (cb x y) && ((cb x y).all (HC.okC 0) && (QD (Lr x y) && HC 0 (sv x y))))=true)
    (hc:∀{κ:Ctx},HG c κ L' (DV ps++is)→∀{Bs:Bl},Bs.length=ps.length→∀{x},fo=some x→FnS P f κ xs0 Bs (aIE 0 cs0++M) sv (fun x y=>aIE 0 (cb x y)++Lr x y) x)
    (hF:fo.bind kf=some q)
    (k:∀x,fo=some x→kf x=some q→∀y:ex,G (.mk P T hT n c B0 N X Q) K' m' (dse d (sv x y) e') (NS L' (QC L' (DV ps++is)++Lr x y) ps (cb x y)) cf2):G (.mk P T hT n c B0 N X Q) K m e L cf:=by
  refine gP (g:=.mk P T hT n c B0 N X Q) (aYI hs ?_)
  intro fo' args ats ho hd hf ⟨ys,hys,hxs⟩ hdn hE
  simp only [DS] at hk hn
  obtain⟨hkM,hkc,hka,hkz⟩:=hk
  cases hfo:fo with
  | none=>rw [hfo] at hF;cases hF
  | some x =>
    rw [hfo] at hF
    have hz2:((DV ps).all fun j=>gO j cf1.BM)=true:=by
      rw [List.all_append,DS] at hkz;exact hkz.1
    refine hE ex (fun _=>m') (fun y=>dse d (sv x y) e') (fun y=>NS L' (QC L' (DV ps++is)++Lr x y) ps (cb x y)) (fun y=>aKH (aBE _ hkz) hz2) (fun B a w next Q' hm hA hS hnext=>?_) (k x hfo hF)
    generalize hBB:UJ (.mk P T hT n c B0 N X Q) cf1++B=BB at hm hA hS hnext
    obtain⟨⟨R,s1,s2⟩,s0⟩:=hS
    obtain⟨pv,hpv⟩:=aW3 s1 hb
    have hBs:(blP pv).length=ps.length:=by simp [blP,aSP hpv]
    have hB0:∀i,(blP pv)[0+i]?=(blP pv)[i]?:=fun i=>by rw [HA]
    have f1:=s1.front (DV ps++is) hka
    have f2:St c w ((pv.map PV.mid++M.map (jW BB))++(pv.flatMap PV.rest++blank (L'.map (jW BB)) (DV ps++is))) R:=by
      refine f1.via fun F h=>?_
      rw [UZ,aBF hi] at h
      obtain⟨F1,F2,g1,g2,gd,gF⟩:=Sep.append.1 h
      obtain⟨F3,F4,g3,g4,gd2,gF2⟩:=Sep.append.1 g1
      have g5:=aZ5 (aN9 (F:=F) hpv g3)
      have g6:Sep w (((pv.map PV.mid++pv.flatMap PV.rest)++M.map (jW BB))++blank (L'.map (jW BB)) (DV ps++is)) F:=Sep.append.2 ⟨F1,F2,Sep.append.2 ⟨F3,F4,g5,g4,gd2,gF2⟩,g2,gd,gF⟩
      refine Sep.perm ?_ g6
      simp only [j8]
      refine List.Perm.append_left _ ?_
      rw [←j8,←j8]
      exact List.Perm.append_right _ List.perm_append_comm
    obtain⟨κ,k1,k2,k3,k4,k5,k6,k7⟩:=f2.aZ7 s0
    subst k1
    have hHG:HG c κ L' (DV ps++is):=by
      refine⟨fun{α} _ {s d} h=>k4 (AS [s.v d.length] d) h,fun{α} _ {s d} i hi hj=>?_,fun{α} _ {s d} i hi=>k5 _ (s2 _ (AQ hi))⟩
      have:(blank (L'.map (jW BB)) (DV ps++is))[i]?=some (cJ [s.v d.length] d):=by
        rw [aGY (aG6 hj),FU,hi];rfl
      exact k6 _ (YL _ (AQ this)) (AS [s.v d.length] d) fun w F h=>aI.own_rd h
    obtain⟨hcall,hrun⟩:=hc hHG hBs hfo
    obtain⟨vs,h1,h2⟩:=YU hA hys
    obtain⟨v,h3,h4⟩:=eR hA hf
    simp [fX,aZ] at h3
    subst h3
    have h1':aZ (fX BB) xs=some vs:=by rw [←hxs,R2];exact h1
    have hst:mW κ κ.w0 (blP pv) (aIE 0 cs0++M):=by
      refine⟨⟨[],?_,fun x hx=>?_⟩,k2⟩
      · rw [BJ,aCI (B':=BB) hkM]
        refine k3.via fun F h=>?_
        obtain⟨F1,F2,g1,g2,gd,gF⟩:=Sep.append.1 h
        exact Sep.append.2 ⟨F1,F2,aSO hpv hkc hB0 g1,g2,gd,gF⟩
      · rcases gK.1 hx with hx | hx
        · exact aKF x hx
        · exact aCJ hkM x hx
    have h5:=hrun vs (aOA hpv hB0 hx h1') hst
    have h6:=UX (w:=κ.w0) hcall ho h4 h2
    unfold Oper.wp
    rw [h6 _ a hA.env,Oper.upon_enter]
    refine Calls.mono h5 fun en w' ⟨v,hv,y,g1,g2⟩=>?_
    subst hv
    obtain⟨n1,n2,n3,n4⟩:=hn x y
    have g3:=EP BB (aSG n4 g1)
    rw [aGP] at g3
    obtain⟨⟨R',t1,t2⟩,t0⟩:=g2
    obtain⟨qs,q1,q2⟩:=aOB (w:=w') hpv n1 n2 hB0 fun i cs hi=>t1.chunk (ch:=NN (blP pv) (0+i) cs) i (by
      rw [FU,P1 (by
        have:=(jU.1 (aCK (k:=0) hi)).1
        exact this),aCK hi];rfl)
    obtain⟨e1,e2⟩:=aKD q1
    have t3:St κ w' (qs.map PV.mid++(Lr x y).map (jW BB)) R':=by
      refine t1.imp ?_
      rw [BJ,aCI (B:=blP pv) (B':=BB) n3]
      exact jB.append q2 (jB.refl _)
    have t4:=k7 w' _ R' t3
    have t5:St c w' ((NS L' (QC L' (DV ps++is)++Lr x y) ps (cb x y)).map (jW BB)) R:=by
      refine t4.via fun F h=>?_
      refine aSQ hpv q1 (fun i hi=>?_) (aOC hka) ?_
      · have hl:=aSS hpv i hi
        rw [P1 (by rw [aBG];exact hl)]
        exact aSR hl (.inr (P2 _ hi))
      · rw [BJ,NQ]
        have h7:Sep w' ((qs.map PV.mid++qs.flatMap PV.rest)++(blank (L'.map (jW BB)) (DV ps++is)++(Lr x y).map (jW BB))) F:=by
          rw [e1]
          refine Sep.perm ?_ h
          simp only [j8]
          refine List.Perm.append_left _ ?_
          rw [←j8 (pv.flatMap PV.rest)]
          exact List.perm_append_comm
        obtain⟨F1,F2,p1,p2,pd,pF⟩:=Sep.append.1 h7
        exact Sep.append.2 ⟨F1,F2,aZ6 p1,p2,pd,pF⟩
    have t6:mW c w' BB (NS L' (QC L' (DV ps++is)++Lr x y) ps (cb x y)):=by
      refine⟨⟨R,t5,fun z hz=>?_⟩,s0⟩
      rcases aKE hz with hz | ⟨_,_,hz⟩
      · rcases gK.1 hz with hz | hz
        · rcases UY _ _ hz with hz | hz
          · exact s2 z hz
          · subst hz;trivial
        · exact aCJ n3 z hz
      · subst hz;trivial
    rw [hd]
    cases d with
    | none=>exact hnext y _ _ ⟨[],by simpa using hm,by simpa [dse,Act.put] using hA,by simpa using t6⟩
    | some d=>exact hnext y _ _ ⟨[],by simpa using hm,by simpa [dse] using hA.of g3 (hA.env.put (by simpa [rY,pI] using hdn) v),by simpa using t6⟩
end
end Go.Gv
end
noncomputable section
namespace Go.Gv
noncomputable section
variable {P:Program} {T:TT} {hT:HD P T} {n:Nat} {c:Ctx} {B0:Bl} {N:Act→World→Prop} {X:Nat→Act→World→Prop} {Q:Act→World→Prop} {K K':List Fr} {m m':Nat} {e e':SE} {L L' Lv:List Ch} {cf cf' cf1 cf2:xR} {o:Oper}
noncomputable section
variable {α β ex:Type} {fo:Option α} {kf:α→Option β} {q:β} {d:Option Nat} {f:FuncId} {xs xs0:List SV} {M:List Ch} {sv:α→ex→SV} {Lr:α→ex→List Ch}
theorem cw0(is:List Nat)
    (hs:cpS (kA T n K cf m e L)=some (o,d,f,xs,cf1,cf2,K',m',e',L')) (hi:aZ (fun i=>L'[i]?) is=some M) (hx:aZ (rnP [] 0) xs=some xs0)
    (hk:(QD M && (dR is && is.all fun j=>gO j cf1.BM))=true) (hn:∀x y,(QD (Lr x y) && HC 0 (sv x y))=true)
    (hc:∀{κ:Ctx},HG c κ L' is→∀{x},fo=some x→FnS P f κ xs0 [] M sv Lr x) (hF:fo.bind kf=some q)
    (k:∀x,fo=some x→kf x=some q→∀y:ex,G (.mk P T hT n c B0 N X Q) K' m' (dse d (sv x y) e') (QC L' is++Lr x y) cf2):G (.mk P T hT n c B0 N X Q) K m e L cf:=
  cwk (cb:=fun _ _=>[]) (Lr:=Lr) [] is hs rfl hi hx (by simpa [DV] using hk) (fun x y=>by simpa [aCG] using hn x y) (fun{κ} h Bs hl x hx=>match Bs,hl with | [],_=>hc (by simpa [DV] using h) hx) hF (fun x h1 h2 y=>by simpa [NS,DV] using k x h1 h2 y)
theorem cw1{c1:List SV}{a1:α→ex→List SV}(i1 n1 o1 k1:Nat)(is:List Nat)
    (hs:cpS (kA T n K cf m e L)=some (o,d,f,xs,cf1,cf2,K',m',e',L')) (hb:aKB L' [(i1,n1,o1,k1)]=some [c1]) (hi:aZ (fun i=>L'[i]?) is=some M) (hx:aZ (rnP [(i1,n1,o1,k1)] 0) xs=some xs0)
    (hk:(QD M && ([c1].all (HC.okC 0) && (dR (i1 :: is) && (i1 :: is).all fun j=>gO j cf1.BM)))=true) (hn:∀x y,(aCG [(i1,n1,o1,k1)] [a1 x y] && ([a1 x y].all (HC.okC 0) && (QD (Lr x y) && HC 0 (sv x y))))=true)
    (hc:∀{κ:Ctx},HG c κ L' (i1 :: is)→∀{b1:Nat×Nat} {x},fo=some x→FnS P f κ xs0 [b1] (.box 0 c1 :: M) sv (fun x y=>.box 0 (a1 x y) :: Lr x y) x) (hF:fo.bind kf=some q)
    (k:∀x,fo=some x→kf x=some q→∀y:ex,G (.mk P T hT n c B0 N X Q) K' m' (dse d (sv x y) e') (NS L' (QC L' (i1 :: is)++Lr x y) [(i1,n1,o1,k1)] [a1 x y]) cf2):G (.mk P T hT n c B0 N X Q) K m e L cf:=
  cwk (cb:=fun x y=>[a1 x y]) (Lr:=Lr) [(i1,n1,o1,k1)] is hs hb hi hx hk hn (fun{κ} h Bs hl x hx=>match Bs,hl with | [b1],_=>hc h hx) hF k
theorem cw2{c1 c2:List SV}{a1 a2:α→ex→List SV}(i1 n1 o1 k1:Nat)(i2 n2 o2 k2:Nat)(is:List Nat)
    (hs:cpS (kA T n K cf m e L)=some (o,d,f,xs,cf1,cf2,K',m',e',L')) (hb:aKB L' [(i1,n1,o1,k1),(i2,n2,o2,k2)]=some [c1,c2]) (hi:aZ (fun i=>L'[i]?) is=some M) (hx:aZ (rnP [(i1,n1,o1,k1),(i2,n2,o2,k2)] 0) xs=some xs0)
    (hk:(QD M && ([c1,c2].all (HC.okC 0) && (dR (i1 :: i2 :: is) && (i1 :: i2 :: is).all fun j=>gO j cf1.BM)))=true) (hn:∀x y,(aCG [(i1,n1,o1,k1),(i2,n2,o2,k2)] [a1 x y,a2 x y] && ([a1 x y,a2 x y].all (HC.okC 0) && (QD (Lr x y) && HC 0 (sv x y))))=true)
    (hc:∀{κ:Ctx},HG c κ L' (i1 :: i2 :: is)→∀{b1 b2:Nat×Nat} {x},fo=some x→FnS P f κ xs0 [b1,b2] (.box 0 c1 :: .box 1 c2 :: M) sv (fun x y=>.box 0 (a1 x y) :: .box 1 (a2 x y) :: Lr x y) x) (hF:fo.bind kf=some q)
    (k:∀x,fo=some x→kf x=some q→∀y:ex,G (.mk P T hT n c B0 N X Q) K' m' (dse d (sv x y) e') (NS L' (QC L' (i1 :: i2 :: is)++Lr x y) [(i1,n1,o1,k1),(i2,n2,o2,k2)] [a1 x y,a2 x y]) cf2):G (.mk P T hT n c B0 N X Q) K m e L cf:=
  cwk (cb:=fun x y=>[a1 x y,a2 x y]) (Lr:=Lr) [(i1,n1,o1,k1),(i2,n2,o2,k2)] is hs hb hi hx hk hn (fun{κ} h Bs hl x hx=>match Bs,hl with | [b1,b2],_=>hc h hx) hF k
end
theorem aZ8(s:AC)(n1 n2:Nat):P0 (s.v n1)=P0 (s.v n2):=by obtain⟨a,c⟩:=s;cases a <;> rfl
theorem aZ9(s:AC)(q k n1 n2:Nat):PU q k (s.v n1)=PU q k (s.v n2):=by obtain⟨a,c⟩:=s;cases a <;> rfl
theorem ro{α β:Type}[aI α](E:CO α)(j v nb:Nat){s:AC}{i:Int}{n0:Nat}{ls:List α}{kf:α→Option β}{q:β}(hs:SH (kA T n K cf m e L)=some (K',cf',m',e',L'))(hj:L'[j]?=some (ow s ls))(hv:L'[v]?=some (wOf α nb s n0 i.toNat))(hz:gO j cf'.BM=true)(hF:(idx ls i).bind kf=some q)
    (k:∀x,idx ls i=some x→kf x=some q→∀y:E.ex,G (.mk P T hT n c B0 N X Q) K' m' e' (L'.set j .no++([.o (xM (s.v ls.length) ls i.toNat),.box nb (E.cs x y),wOf α nb s ls.length i.toNat]++E.Lx x y)) cf'):G (.mk P T hT n c B0 N X Q) K m e L cf:=by
  refine go hs ?_
  cases hi:idx ls i with
  | none=>rw [hi] at hF;cases hF
  | some x =>
    rw [hi] at hF
    refine chg (fun _=>m') (fun _=>e') (fun y:E.ex=>L'.set j .no++([.o (xM (s.v ls.length) ls i.toNat),.box nb (E.cs x y),wOf α nb s ls.length i.toNat]++E.Lx x y)) (fun B a w hm hA hS=>?_) (fun y=>aIC hz) (fun y=>k x hi hF y)
    obtain⟨⟨R,s1,s2⟩,s0⟩:=hS
    have hB:B[nb]?=some (P0 (s.v ls.length),PU (aI.n α) i.toNat (s.v ls.length)):=by
      rw [aZ8 s ls.length n0,aZ9 s _ _ ls.length n0];exact s2 _ (AQ hv)
    have hj2:(L'.map (jW B))[j]?=some (cJ [s.v ls.length] ls):=by simp [hj,jW]
    obtain⟨ec,h1⟩:=s1.open j hj2 (j9 hi).2.2
    have hlen:((L'.map (jW B)).set j GL).length=L'.length:=by simp
    obtain⟨F,hF'⟩:=h1.chunk (L'.length+2) (by rw [J9 (by omega)];simp;rfl)
    obtain⟨y,hy2⟩:=E.op (show aI.own w ec x F from hF')
    have h2:=h1.unpack (L'.length+2) (by rw [J9 (by omega)];simp) (E.pk hy2)
    have hset:((L'.map (jW B)).set j GL ++ [xM (s.v ls.length) ls i.toNat,P4 (P0 (s.v ls.length)) (PU (aI.n α) i.toNat (s.v ls.length)) ec,cJ ec x]).set (L'.length+2) GL=(L'.map (jW B)).set j GL ++ [xM (s.v ls.length) ls i.toNat,P4 (P0 (s.v ls.length)) (PU (aI.n α) i.toNat (s.v ls.length)) ec,GL]:=by
      rw [List.set_append_right _ _ (by omega)]
      simp
    rw [hset] at h2
    refine⟨y,[],by simpa using hm,by simpa using hA,⟨⟨R,?_,fun z hz=>?_⟩,s0⟩⟩
    · have e1:(L'.set j Ch.no).map (jW B)=(L'.map (jW B)).set j GL:=by rw [KB];rfl
      refine h2.imp ?_
      rw [FT,BJ,BJ,←e1,j8]
      refine jB.append (jB.refl _) (jB.append (.cons (fun _ h=>h) (.cons (fun F h=>⟨_,_,ec,hB,fH (fun x v h=>by simpa using gH (B:=[]) B h) hy2,h⟩) (.cons (fun _ h=>h) .nil))) ?_)
      rw [E.nb x y B];exact jB.refl _
    · rw [FT]
      rcases gK.1 hz with hz | hz
      · rcases oW hz with hz | hz
        · exact s2 z hz
        · subst hz;trivial
      · rcases gK.1 hz with hz | hz
        · simp at hz
          rcases hz with rfl | rfl | rfl
          · trivial
          · trivial
          · exact hB
        · exact aIB (E.no x y) z hz
theorem bx(i:Nat){nb:Nat}{cs:List SV}(hs:SH (kA T n K cf m e L)=some (K',cf',m',e',L'))(hb:L'[i]?=some (.box nb cs))(hz:gO i cf'.BM=true)(k:G (.mk P T hT n c B0 N X Q) K' m' e' (L'.set i (.box nb (nbL cs))) cf'):G (.mk P T hT n c B0 N X Q) K m e L cf:=by
  refine go hs (chg (fun _:Unit=>m') (fun _=>e') (fun _=>L'.set i (.box nb (nbL cs))) (fun B a w hm hA hS=>?_) (fun _=>I1 hz) (fun _=>k))
  obtain⟨⟨R,s1,s2⟩,s0⟩:=hS
  have e1:(L'.set i (.box nb (nbL cs))).map (jW B)=L'.map (jW B):=by
    obtain⟨hl,he⟩:=jU.1 hb
    rw [KB]
    have:jW B (.box nb (nbL cs))=(L'.map (jW B))[i]'(by simpa using hl):=by
      rw [List.getElem_map,he];simp only [jW,NN,NP]
    rw [this];exact aBT _
  refine⟨(),[],by simpa using hm,by simpa using hA,⟨⟨R,?_,fun z hz=>?_⟩,s0⟩⟩
  · rw [FT,e1];exact s1
  · rw [FT]
    rcases oW hz with hz | hz
    · exact s2 z hz
    · subst hz;trivial
theorem nw(α:Type)[aI α](hs:SH (kA T n K cf m e L)=some (K',cf',m',e',L'))
    (k:G (.mk P T hT n c B0 N X Q) K' m' e' (L' ++ [ow ⟨none,0⟩ ([]:List α)]) cf'):G (.mk P T hT n c B0 N X Q) K m e L cf:=by
  refine go hs ?_
  refine chg (fun _:Unit=>m') (fun _=>e') (fun _=>L' ++ [ow ⟨none,0⟩ ([]:List α)]) (fun B a w hm hA hS=>?_) (fun _=>zE _) (fun _=>k)
  obtain⟨⟨R,s1,s2⟩,s0⟩:=hS
  refine⟨(),[],by simpa using hm,by simpa using hA,⟨⟨R,?_,fun z hz=>?_⟩,s0⟩⟩
  · rw [FT,BJ]
    exact St.more s1 (gA.refl _ _) ⟨F0,⟨none,0,rfl,iW _,xL _,.inl ⟨rfl,rfl,fun _ _ h=>h⟩⟩,fun _ _ h=>h.elim⟩
  · rw [FT]
    rcases gK.1 hz with hz | hz
    · exact s2 z hz
    · simp at hz;subst hz;trivial
theorem T6{Z:Act→World→Prop}(α:Type)[aI α](kk:∀a w,qV n c B0 m e (L ++ [ow ⟨none,0⟩ ([]:List α)]) a w→Z a w):∀a w,qV n c B0 m e L a w→Z a w:=by
  intro a w ⟨B,hm,hA,hS⟩
  refine kk a w ⟨B,hm,hA,?_⟩
  obtain⟨⟨R,s1,s2⟩,s0⟩:=hS
  refine⟨⟨R,?_,fun z hz=>?_⟩,s0⟩
  · rw [BJ]
    exact St.more s1 (gA.refl _ _) ⟨F0,⟨none,0,rfl,iW _,xL _,.inl ⟨rfl,rfl,fun _ _ h=>h⟩⟩,fun _ _ h=>h.elim⟩
  · rcases gK.1 hz with hz | hz
    · exact s2 z hz
    · simp at hz;subst hz;trivial
end
end Go.Gv
end
noncomputable section
namespace Go.Gv
def AC.sub(s:AC)(n a:Nat):AC:=⟨if s.c=a then s.a else s.a.map (·.add (a * n)),s.c - a⟩
theorem HF{α:Type}{l:List α}{s:AC}{n a b k:Nat}(h1:a≤b)(h2:b≤l.length):gW n a b (s.v k)=(s.sub n a).v ((l.take b).drop a).length:=by
  rw [BL h1 h2];rfl
noncomputable section
variable {P:Program} {T:TT} {hT:HD P T} {n:Nat} {c:Ctx} {B0:Bl} {N:Act→World→Prop} {X:Nat→Act→World→Prop} {Q:Act→World→Prop} {K K':List Fr} {m m':Nat} {e e':SE} {L L' Lv:List Ch} {cf cf' cf1 cf2:xR} {o:Oper} {d:Nat}
theorem cpc{α:Type}[aI α](j:Nat){s:AC}{l:List α}(hs:SH (kA T n K cf m e L)=some (K',cf',m',e',L'))(hj:L'[j]?=some (ow s l))(k:l.length≤s.c→G (.mk P T hT n c B0 N X Q) K' m' e' L' cf'):G (.mk P T hT n c B0 N X Q) K m e L cf:=by
  refine go hs ?_
  refine chg (fun _:PLift (l.length≤s.c)=>m') (fun _=>e') (fun _=>L') (fun B a w hm hA hS=>?_) (fun _=>by simpa using zE (L:=L') []) (fun h=>k h.down)
  obtain⟨⟨R,s1,s2⟩,s0⟩:=hS
  obtain⟨F,hF⟩:=s1.chunk (ch:=cJ [s.v l.length] l) j (by simp [hj,jW])
  obtain⟨ad,cp,h1,h2⟩:=IN (show aI.own w [s.v l.length] l F from hF)
  simp only [AC.v,Value.slice.injEq] at h1
  exact⟨⟨by omega⟩,[],by simpa using hm,by simpa using hA,⟨⟨R,by simpa using s1,by simpa using s2⟩,s0⟩⟩
noncomputable section
variable {x y z u:Operand} {t el sz:Nat} {k1 k2 k3:IntKind} {i j p:Int} {α β:Type} [aI α] {A:Option β} {q:β} {s:AC} {l:List α} {b1 b2:Bool} {n1:Nat} {z1 z2:List SV} {kt:TK}
theorem Y5(hc:l.length≤s.c)(hs:opS (kA T n K cf m e L)=some (o,Lv,cf1,cf2,K',m',e',L'))(ho:(o.op,o.dst)=(.slice t x (some y) none none,some d))(ht:BF T t=some ⟨.sl el,b1,n1,z1⟩)(he:BF T el=some ⟨kt,b2,sz,z2⟩)(hx:iO e' x=some (.h s l.length))(hy:(iO e' y).bind tL=some (k1,i))(hF:need (0≤i∧i≤(l.length:Int)) A=some q)
    (kk:A=some q→(i.toNat≤l.length∧l.length≤l.length)→G (.mk P T hT n c B0 N X Q) K' m' ((d,.h (s.sub sz i.toNat) ((l.take l.length).drop i.toNat).length) :: e') L' cf2):G (.mk P T hT n c B0 N X Q) K m e L cf:=by
  have hop:o.op=.slice t x (some y) none none:=congrArg Prod.fst ho
  have hb:=(jO hF).1
  have hb2:i.toNat≤l.length∧l.length≤l.length:=by omega
  refine pu hs (congrArg Prod.snd ho) (fun B a w hA hS=>⟨gW sz i.toNat l.length (s.v l.length),by rw [HF hb2.1 hb2.2];simp [fX,gV,bZ],fun _ a hA'=>?_⟩) (kk (jO hF).2 hb2)
  obtain⟨h0,h1⟩:=hb
  have h5:max i 0=i:=by omega
  simp [execOp,hop,Instr.sliceAt,Instr.slice,run_underlying (HJ ht hT),Instr.sliceBounds,hA'.eval (hdB hA hx),hA'.eval (yC hA hy),Instr.sliceBound,asIntOf,hT.size _ _ he,h0,h1,hc,h5,gW]
theorem aMH(hc:l.length≤s.c)(hs:opS (kA T n K cf m e L)=some (o,Lv,cf1,cf2,K',m',e',L'))(ho:(o.op,o.dst)=(.slice t x none (some z) none,some d))(ht:BF T t=some ⟨.sl el,b1,n1,z1⟩)(he:BF T el=some ⟨kt,b2,sz,z2⟩)(hx:iO e' x=some (.h s l.length))(hz:(iO e' z).bind tL=some (k2,j))(hF:need (0≤j∧j≤(l.length:Int)) A=some q)
    (kk:A=some q→(0≤j.toNat∧j.toNat≤l.length)→G (.mk P T hT n c B0 N X Q) K' m' ((d,.h (s.sub sz 0) ((l.take j.toNat).drop 0).length) :: e') L' cf2):G (.mk P T hT n c B0 N X Q) K m e L cf:=by
  have hop:o.op=.slice t x none (some z) none:=congrArg Prod.fst ho
  have hb:=(jO hF).1
  have hb2:0≤j.toNat∧j.toNat≤l.length:=by omega
  refine pu hs (congrArg Prod.snd ho) (fun B a w hA hS=>⟨gW sz 0 j.toNat (s.v l.length),by rw [HF hb2.1 hb2.2];simp [fX,gV,bZ],fun _ a hA'=>?_⟩) (kk (jO hF).2 hb2)
  obtain⟨h0,h1⟩:=hb
  have h3:j≤(s.c:Int):=by omega
  have h5:max j 0=j:=by omega
  simp [execOp,hop,Instr.sliceAt,Instr.slice,run_underlying (HJ ht hT),Instr.sliceBounds,hA'.eval (hdB hA hx),hA'.eval (yC hA hz),Instr.sliceBound,asIntOf,hT.size _ _ he,h0,h3,h5,gW]
theorem a0A(hc:l.length≤s.c)(hs:opS (kA T n K cf m e L)=some (o,Lv,cf1,cf2,K',m',e',L'))(ho:(o.op,o.dst)=(.slice t x none (some z) (some u),some d))(ht:BF T t=some ⟨.sl el,b1,n1,z1⟩)(he:BF T el=some ⟨kt,b2,sz,z2⟩)(hx:iO e' x=some (.h s l.length))(hz:(iO e' z).bind tL=some (k2,j))(hu:(iO e' u).bind tL=some (k3,p))(hF:need (0≤j∧j≤p∧p≤(l.length:Int)) A=some q)
    (kk:A=some q→(0≤j.toNat∧j.toNat≤p.toNat∧p.toNat≤l.length)→G (.mk P T hT n c B0 N X Q) K' m' ((d,.h ⟨(s.sub sz 0).a,p.toNat⟩ ((l.take j.toNat).drop 0).length) :: e') L' cf2):G (.mk P T hT n c B0 N X Q) K m e L cf:=by
  have hop:o.op=.slice t x none (some z) (some u):=congrArg Prod.fst ho
  have hb:=(jO hF).1
  have hb2:0≤j.toNat∧j.toNat≤p.toNat∧p.toNat≤l.length:=by omega
  have hl:=BL (l:=l) (a:=0) (b:=j.toNat) (by omega) (by omega)
  refine pu hs (congrArg Prod.snd ho) (fun B a w hA hS=>⟨AC.v ⟨(s.sub sz 0).a,p.toNat⟩ ((l.take j.toNat).drop 0).length,by simp [fX,gV,bZ],fun _ a hA'=>?_⟩) (kk (jO hF).2 hb2)
  obtain⟨h0,h1,h2⟩:=hb
  have h3:p≤(s.c:Int):=by omega
  have h4:0≤p:=by omega
  have h5:max j 0=j:=by omega
  have h6:max p 0=p:=by omega
  rw [hl]
  have hadd:s.a.map (fun x=>x.add 0)=s.a:=by cases s.a <;> simp [Addr.add]
  by_cases hp:p=0
  · subst hp
    simp [execOp,hop,Instr.sliceAt,Instr.slice,run_underlying (HJ ht hT),Instr.sliceBounds,hA'.eval (hdB hA hx),hA'.eval (yC hA hz),hA'.eval (yC hA hu),Instr.sliceBound,asIntOf,hT.size _ _ he,h0,h1,h3,h4,h5,h6,AC.sub,hadd]
  · simp [execOp,hop,Instr.sliceAt,Instr.slice,run_underlying (HJ ht hT),Instr.sliceBounds,hA'.eval (hdB hA hx),hA'.eval (yC hA hz),hA'.eval (yC hA hu),Instr.sliceBound,asIntOf,hT.size _ _ he,h0,h1,h3,h4,h5,h6,AC.sub,hadd]
end
end
end Go.Gv
end
noncomputable section
namespace Go.Gv
noncomputable section
variable {P:Program} {T:TT} {hT:HD P T} {n:Nat} {c:Ctx} {B0:Bl} {N:Act→World→Prop} {X:Nat→Act→World→Prop} {Q:Act→World→Prop} {K K':List Fr} {m m':Nat} {e e':SE} {L L' Lv:List Ch} {cf cf' cf1 cf2:xR} {o:Oper} {d:Nat}
theorem aW5{α:Type}[aI α]{B:Bl}{w:World}{R:List Fact}{j a b sz:Nat}{s s':AC}{l l':List α}(hn:aI.n α=sz)(hj:L[j]?=some (ow s l))(hb:a≤b∧b≤l.length)(hl:(l.take b).drop a=l')(hs:∀w F,aI.own w [s.v l.length] l F→∃F',aI.own w [s'.v l'.length] l' F'∧∀b o,F' b o→F b o)(hS:mW c w B L):mW c w B (L.set j (ow s' l')):=by
  obtain⟨⟨R,s1,s2⟩,s0⟩:=hS
  refine⟨⟨R,?_,fun z hz=>?_⟩,s0⟩
  · rw [KB]
    refine s1.W0 j (by rw [FU,hj];rfl) fun F hF=>?_
    obtain⟨F',h1,h2⟩:=hs w F hF
    exact⟨F',F0,gA.refl _ _,fun _ _ h=>h.elim,h1,fun b o h=>.inl (h2 b o h)⟩
  · rcases oW hz with hz | hz
    · exact s2 z hz
    · subst hz;trivial
theorem aST{α:Type}[aI α]{s:AC}{l l':List α}{sz a b:Nat}(hn:aI.n α=sz)(hb:a≤b∧b≤l.length)(hl:(l.take b).drop a=l'):∀w F,aI.own w [s.v l.length] l F→∃F',aI.own w [(s.sub sz a).v l'.length] l' F'∧∀b o,F' b o→F b o:=by
  intro w F h
  obtain⟨F',h1,h2⟩:=aNM hn h hb.1 hb.2
  rw [HF hb.1 hb.2,hl] at h1
  exact⟨F',h1,h2⟩
theorem aSU{α:Type}[aI α]{s:AC}{l l':List α}{sz b p:Nat}(hn:aI.n α=sz)(hb:0≤b∧b≤p∧p≤l.length)(hl:(l.take b).drop 0=l'):∀w F,aI.own w [s.v l.length] l F→∃F',aI.own w [AC.v ⟨(s.sub sz 0).a,p⟩ l'.length] l' F'∧∀b o,F' b o→F b o:=by
  intro w F h
  obtain⟨F',h1,h2⟩:=aRE hn h hb.1 hb.2.1 hb.2.2
  have hadd:s.a.map (fun x=>x.add 0)=s.a:=by cases s.a <;> simp [Addr.add]
  have hln:=BL (l:=l) (a:=0) (b:=b) (by omega) (by omega)
  rw [hl] at hln h1
  refine⟨F',?_,h2⟩
  have:aPB sz 0 b p (s.v l.length)=AC.v ⟨(s.sub sz 0).a,p⟩ l'.length:=by
    rw [hln]
    simp only [aPB,AC.v,AC.sub,Nat.zero_mul,hadd,Nat.sub_zero]
    by_cases hp:p=0 <;> simp [hp,hadd]
  rw [this] at h1
  exact h1
theorem poR{Z:Act→World→Prop}{α:Type}[aI α](j a b:Nat){sz:Nat}{s:AC}{l l':List α}(hn:aI.n α=sz)(hj:L[j]?=some (ow s l))(hb:a≤b∧b≤l.length)(hl:(l.take b).drop a=l')
    (kk:∀a' w,qV n c B0 m e (L.set j (ow (s.sub sz a) l')) a' w→Z a' w):∀a' w,qV n c B0 m e L a' w→Z a' w:=by
  intro a' w ⟨B,hm,hA,hS⟩
  exact kk a' w ⟨B,hm,hA,aW5 (R:=[]) hn hj hb hl (aST hn hb hl) hS⟩
theorem pmR{Z:Act→World→Prop}{α:Type}[aI α](j b p:Nat){sz:Nat}{s:AC}{l l':List α}(hn:aI.n α=sz)(hj:L[j]?=some (ow s l))(hb:0≤b∧b≤p∧p≤l.length)(hl:(l.take b).drop 0=l')
    (kk:∀a' w,qV n c B0 m e (L.set j (ow ⟨(s.sub sz 0).a,p⟩ l')) a' w→Z a' w):∀a' w,qV n c B0 m e L a' w→Z a' w:=by
  intro a' w ⟨B,hm,hA,hS⟩
  exact kk a' w ⟨B,hm,hA,aW5 (R:=[]) hn hj ⟨by omega,by omega⟩ hl (aSU hn hb hl) hS⟩
theorem aSW{α:Type}{l xs:List α}{k a n:Nat}(h:k≤n∧n≤l.length)(ha:a≤l.length):k≤n∧n≤(dE l a xs).length:=⟨h.1,by rw [fG ha];exact h.2⟩
theorem aOD{α:Type}{l xs:List α}{k a:Nat}(h:k≤a)(ha:a≤l.length):((dE l a xs).take k).drop 0=(l.take k).drop 0:=by
  simp only [BH,dE]
  rw [YN (by simp;omega),List.take_take,Nat.min_eq_left h]
def AC.aVR(s:AC)(n a p:Nat):AC:=⟨if p=a then s.a else s.a.map (·.add (a * n)),p - a⟩
noncomputable section
variable {x y z:Operand} {t el sz:Nat} {zv:Value} {k1 k2:IntKind} {i j:Int} {α β:Type} [aI α] {A:Option β} {q:β} {s:AC} {l:List α} {b1 b2:Bool} {n1:Nat} {z1 z2:List SV} {kt:TK}
theorem ap2[Flat α](p a b:Nat)(hb:a≤b∧b≤l.length)(hs:kA T n K cf m e L=.op o Lv cf1 cf2 K' m' e' L')(ho:(o.op,o.dst)=(.call {callee:=.builtin .append,args:=#[x,y],argTypes:=#[t,t]},some d))(ht:BF T t=some ⟨.sl el,b1,n1,z1⟩)(he:BF T el=some ⟨kt,b2,sz,z2⟩)(hn:aI.n α=sz)(hp:L'[p]?=some (ow s l))(hz:gO p cf1.BM=true)(hx:iO e' x=some (.h (s.sub sz 0) ((l.take a).drop 0).length))(hy:iO e' y=some (.h (s.sub sz b) ((l.take l.length).drop b).length))
    (k:(0≤a+(l.length - b)∧a+(l.length - b)≤(dE l a (l.drop b)).length)→G (.mk P T hT n c B0 N X Q) K' m' ((d,.h (s.sub sz 0) (((dE l a (l.drop b)).take (a+(l.length - b))).drop 0).length) :: e') (L'.set p (ow s (dE l a (l.drop b)))) cf2):G (.mk P T hT n c B0 N X Q) K m e L cf:=by
  have hlen:(dE l a (l.drop b)).length=l.length:=fG (by omega)
  have hk:0≤a+(l.length - b)∧a+(l.length - b)≤(dE l a (l.drop b)).length:=by omega
  refine gP (g:=.mk P T hT n c B0 N X Q) ?_
  rw [hs]
  intro hdn _ hE
  refine hE Unit (fun _=>m') (fun _=>(d,.h (s.sub sz 0) (((dE l a (l.drop b)).take (a+(l.length - b))).drop 0).length) :: e') (fun _=>L'.set p (ow s (dE l a (l.drop b)))) (fun _=>I1 hz) (fun B act w next Q' hm hA hS hnext=>?_) (fun _=>k hk)
  obtain⟨⟨R,s1,s2⟩,s0⟩:=hS
  have hx2:ev (vE (UJ (.mk P T hT n c B0 N X Q) cf1++B) e') x=some (gW sz 0 a (s.v l.length)):=by rw [hdB hA hx,HF (xL a) (FV hb.1 hb.2)]
  have hy2:ev (vE (UJ (.mk P T hT n c B0 N X Q) cf1++B) e') y=some (gW sz b l.length (s.v l.length)):=by rw [hdB hA hy,HF hb.2 (iW _)]
  have hop:o.op=.call {callee:=.builtin .append,args:=#[x,y],argTypes:=#[t,t]}:=congrArg Prod.fst ho
  have hd:o.dst=some d:=congrArg Prod.snd ho
  obtain⟨v,w',k1,rfl,k2⟩:=aL3 p s1 (by rw [FU,hp];rfl) hn hb.1 hb.2 (HJ ht hT) (hT.size _ _ he) hop hx2 hy2
  unfold Oper.wp
  rw [k1 _ act hA.env,Oper.upon_value,hd]
  have hv:fX (UJ (.mk P T hT n c B0 N X Q) cf1++B) (.h (s.sub sz 0) (((dE l a (l.drop b)).take (a+(l.length - b))).drop 0).length)=some (gW sz 0 (a+(l.length - b)) (s.v l.length)):=by
    have:=HF (l:=dE l a (l.drop b)) (s:=s) (n:=sz) (k:=l.length) hk.1 hk.2
    rw [this]
    simp [fX,gV,bZ]
  refine hnext () _ _ ⟨[],by simpa using hm,by simpa using hA.of hv (hA.env.put (by rw [hd] at hdn;simpa [rY,pI] using hdn) _),?_⟩
  rw [FT]
  refine⟨⟨R,?_,fun z hz=>?_⟩,s0⟩
  · rw [KB]
    show St c w' ((L'.map _).set p (cJ [s.v (dE l a (l.drop b)).length] _)) R
    rw [hlen];exact k2
  · rcases oW hz with hz | hz
    · exact s2 z hz
    · subst hz;trivial
theorem aW6(p k':Nat)(hk:k'≤l.length){l0:List α}(h0:l0.length=k')(hs:opS (kA T n K cf m e L)=some (o,Lv,cf1,cf2,K',m',e',L'))(ho:(o.op,o.dst)=(.slice t x (some y) (some z) none,some d))(ht:BF T t=some ⟨.sl el,b1,n1,z1⟩)(he:BF T el=some ⟨kt,b2,sz,z2⟩)(hn:aI.n α=sz)(hp:Lv[p]?=some (ow s l))(hx:iO e' x=some (.h (s.sub sz 0) l0.length))(hy:(iO e' y).bind tL=some (k1,i))(hz:(iO e' z).bind tL=some (k2,j))(hF:need (0≤i∧i≤j∧j≤(l.length:Int)) A=some q)
    (kk:A=some q→(i.toNat≤j.toNat∧j.toNat≤l.length)→G (.mk P T hT n c B0 N X Q) K' m' ((d,.h (s.sub sz i.toNat) ((l.take j.toNat).drop i.toNat).length) :: e') L' cf2):G (.mk P T hT n c B0 N X Q) K m e L cf:=by
  have hop:o.op=.slice t x (some y) (some z) none:=congrArg Prod.fst ho
  have hb:=(jO hF).1
  have hb2:i.toNat≤j.toNat∧j.toNat≤l.length:=by omega
  refine pu hs (congrArg Prod.snd ho) (fun B a w hA hS=>⟨gW sz i.toNat j.toNat (s.v l.length),by rw [HF hb2.1 hb2.2];simp [fX,gV,bZ],?_⟩) (kk (jO hF).2 hb2)
  obtain⟨⟨R,s1,s2⟩,s0⟩:=hS
  have hx2:ev (vE B e') x=some (gW sz 0 k' (s.v l.length)):=by
    rw [hdB hA hx,h0];rfl
  exact aL4 p s1 (by rw [FU,hp];rfl) hn (HJ ht hT) (hT.size _ _ he) hb hop hx2 (yC hA hy) (yC hA hz)
theorem clr[Flat α](p a b:Nat)(zd:α)(hb:a≤b∧b≤l.length)(hinf:SS P el sz zv)(hzs:zv.cells.size=sz)(hzd:∀w,aI.rd F0 w zv.cells.toList zd)(hone:(zv.cells.toList.all fun v=>v.oneCell')=true)(hs:kA T n K cf m e L=.op o Lv cf1 cf2 K' m' e' L')(ho:(o.op,o.dst)=(.call {callee:=.builtin .clear,args:=#[x],argTypes:=#[t]},none))(ht:BF T t=some ⟨.sl el,b1,n1,z1⟩)(hn:aI.n α=sz)(hp:L'[p]?=some (ow s l))(hz:gO p cf1.BM=true)(hx:iO e' x=some (.h (s.sub sz a) ((l.take b).drop a).length))
    (k:G (.mk P T hT n c B0 N X Q) K' m' e' (L'.set p (ow s (dE l a (List.replicate (b - a) zd)))) cf2):G (.mk P T hT n c B0 N X Q) K m e L cf:=by
  have hlen:(dE l a (List.replicate (b - a) zd)).length=l.length:=fG (by omega)
  refine gP (g:=.mk P T hT n c B0 N X Q) ?_
  rw [hs]
  intro hdn _ hE
  refine hE Unit (fun _=>m') (fun _=>e') (fun _=>L'.set p (ow s (dE l a (List.replicate (b - a) zd)))) (fun _=>I1 hz) (fun B act w next Q' hm hA hS hnext=>?_) (fun _=>k)
  obtain⟨⟨R,s1,s2⟩,s0⟩:=hS
  have hx2:ev (vE (UJ (.mk P T hT n c B0 N X Q) cf1++B) e') x=some (gW sz a b (s.v l.length)):=by rw [hdB hA hx,HF hb.1 hb.2]
  have hop:o.op=.call {callee:=.builtin .clear,args:=#[x],argTypes:=#[t]}:=congrArg Prod.fst ho
  have hd:o.dst=none:=congrArg Prod.snd ho
  obtain⟨v,w',k1,rfl,k2⟩:=aRJ zd p s1 (by rw [FU,hp];rfl) hn hb.1 hb.2 (HJ ht hT) hinf hzs hzd (fun v hv=>WZ.1 hone v hv) hop hx2
  unfold Oper.wp
  rw [k1 _ act hA.env,Oper.upon_value,hd]
  refine hnext () _ _ ⟨[],by simpa using hm,by simpa [Act.put] using hA,?_⟩
  rw [FT]
  refine⟨⟨R,?_,fun z hz=>?_⟩,s0⟩
  · rw [KB]
    show St c w' ((L'.map _).set p (cJ [s.v (dE l a (List.replicate (b - a) zd)).length] _)) R
    rw [hlen];exact k2
  · rcases oW hz with hz | hz
    · exact s2 z hz
    · subst hz;trivial
theorem aSX{u:Operand}{k3:IntKind}{pz:Int}(hc:l.length≤s.c)(hs:opS (kA T n K cf m e L)=some (o,Lv,cf1,cf2,K',m',e',L'))(ho:(o.op,o.dst)=(.slice t x (some y) (some z) (some u),some d))(ht:BF T t=some ⟨.sl el,b1,n1,z1⟩)(he:BF T el=some ⟨kt,b2,sz,z2⟩)(hx:iO e' x=some (.h s l.length))(hy:(iO e' y).bind tL=some (k1,i))(hz:(iO e' z).bind tL=some (k2,j))(hu:(iO e' u).bind tL=some (k3,pz))(hF:need (0≤i∧i≤j∧j≤pz∧pz≤(l.length:Int)) A=some q)
    (kk:A=some q→(i.toNat≤j.toNat∧j.toNat≤pz.toNat∧pz.toNat≤l.length)→G (.mk P T hT n c B0 N X Q) K' m' ((d,.h (s.aVR sz i.toNat pz.toNat) ((l.take j.toNat).drop i.toNat).length) :: e') L' cf2):G (.mk P T hT n c B0 N X Q) K m e L cf:=by
  have hop:o.op=.slice t x (some y) (some z) (some u):=congrArg Prod.fst ho
  have hb:=(jO hF).1
  have hb2:i.toNat≤j.toNat∧j.toNat≤pz.toNat∧pz.toNat≤l.length:=by omega
  have hl:=BL (l:=l) (a:=i.toNat) (b:=j.toNat) (by omega) (by omega)
  refine pu hs (congrArg Prod.snd ho) (fun B a w hA hS=>⟨AC.v (s.aVR sz i.toNat pz.toNat) ((l.take j.toNat).drop i.toNat).length,by simp [fX,gV,bZ],fun _ a hA'=>?_⟩) (kk (jO hF).2 hb2)
  obtain⟨h0,h1,h2,h2'⟩:=hb
  have h3:pz≤(s.c:Int):=by omega
  have h4:0≤pz:=by omega
  have h4':0≤j:=by omega
  have h5:max j 0=j:=by omega
  have h6:max pz 0=pz:=by omega
  have h7:max i 0=i:=by omega
  rw [hl]
  by_cases hp:pz.toNat=i.toNat
  · have:pz=i:=by omega
    subst this
    simp [execOp,hop,Instr.sliceAt,Instr.slice,run_underlying (HJ ht hT),Instr.sliceBounds,hA'.eval (hdB hA hx),hA'.eval (yC hA hy),hA'.eval (yC hA hz),hA'.eval (yC hA hu),Instr.sliceBound,asIntOf,hT.size _ _ he,h0,h1,h2,h3,h4,h4',h5,h6,h7,AC.aVR]
  · have hp2:¬pz=i:=fun h=>hp (by rw [h])
    simp [execOp,hop,Instr.sliceAt,Instr.slice,run_underlying (HJ ht hT),Instr.sliceBounds,hA'.eval (hdB hA hx),hA'.eval (yC hA hy),hA'.eval (yC hA hz),hA'.eval (yC hA hu),Instr.sliceBound,asIntOf,hT.size _ _ he,h0,h1,h2,h3,h4,h4',h5,h6,h7,hp,hp2,AC.aVR]
theorem a09{t2:Nat}(hs:opS (kA T n K cf m e L)=some (o,Lv,cf1,cf2,K',m',e',L'))(ho:(o.op,o.dst)=(.binOp .shl t x y t2,some d))(hx:(iO e' x).bind tL=some (k1,i))(hy:(iO e' y).bind tL=some (k2,j))(hF:need (0≤j) A=some q)
    (kk:A=some q→G (.mk P T hT n c B0 N X Q) K' m' ((d,.i k1 (aGT k1 i j)) :: e') L' cf2):G (.mk P T hT n c B0 N X Q) K m e L cf:=
  pu hs (congrArg Prod.snd ho) (fun B a w hA _=>⟨_,rfl,aQK (congrArg Prod.fst ho) (yC hA hx) (yC hA hy) (by have:=(jO hF).1;omega)⟩) (kk (jO hF).2)
theorem eqn{t2:Nat}{ln:Nat}(hs:opS (kA T n K cf m e L)=some (o,Lv,cf1,cf2,K',m',e',L'))(ho:(o.op,o.dst)=(.binOp .eql t x (.const (.slice none 0 0)) t2,some d))(ht:BF T t=some ⟨.sl el,b1,n1,z1⟩)(hx:iO e' x=some (.h s ln))
    (kt:s.a=none→G (.mk P T hT n c B0 N X Q) K' m' ((d,.l true) :: e') L' cf2) (kf:G (.mk P T hT n c B0 N X Q) K' m' ((d,.l false) :: e') L' cf2):G (.mk P T hT n c B0 N X Q) K m e L cf:=by
  cases hs':s.a with
  | none=>exact pu hs (congrArg Prod.snd ho) (fun B a w hA _=>⟨_,rfl,aL0 (HJ ht hT) ⟨ln,s.c,by simp [AC.v,hs']⟩ (congrArg Prod.fst ho) (hdB hA hx) rfl⟩) (kt hs')
  | some ad=>exact pu hs (congrArg Prod.snd ho) (fun B a w hA _=>⟨_,rfl,aL1 (HJ ht hT) ⟨ad,ln,s.c,by simp [AC.v,hs']⟩ (congrArg Prod.fst ho) (hdB hA hx) rfl⟩) kf
theorem cln{w:Ctx}{r:List α}(h:aX w s l)(hn:s.a=none)(hF:need (([]:List α).length+l.length≤1073741824) (some (([]:List α)++l))=some r):some ([]:List α)=some r:=by
  obtain⟨ad,cp,h1,h2,h3,h4⟩:=(show tO w.S0 w.w0 [s.v l.length] l from h)
  have:l=[]:=by
    rcases h4 with h4 | ⟨b,off,h4,_⟩
    · exact h4
    · simp only [AC.v,List.cons.injEq,Value.slice.injEq] at h1
      rw [hn,h4] at h1
      exact absurd h1.1.1 (by simp)
  subst this
  simpa [need] using hF
end
noncomputable section
variable {x y:Operand} {t el sz:Nat} {zv:Value} {b1:Bool} {n1:Nat} {z1:List SV}
theorem T7{α:Type}[aI α](E:CO α)(is:List Nat)(q:α)(ye:E.ex)(hinf:SS P el sz zv)(hs:kA T n K cf m e L=.op o Lv cf1 cf2 K' m' e' L')(ho:(o.op,o.dst)=(.buildSlice t 1 #[(0,x)],some d))(ht:BF T t=some ⟨.sl el,b1,n1,z1⟩)(hn:aI.n α=sz)(hm:Nat.ble 1 sz=true)(hm2:Nat.ble sz 16777216=true)(hx:(iO e' x).map (fun v=>nbL (pL v))=some (E.cs q ye))(hxc:(iO e' x).map isCells=some true)(hle:(E.cs q ye).length=sz)(hec:(aZ (bZ []) (E.cs q ye)).isSome=true)(hi:aZ (fun i=>L'[i]?) is=some (E.Lx q ye))(ha:dR is=true)(hz:(is.all fun j=>gO j cf1.BM)=true)
    (k:∀s':AC,G (.mk P T hT n c B0 N X Q) K' m' ((d,.h s' [q].length) :: e') (QC L' is ++ [ow s' [q]]) cf2):G (.mk P T hT n c B0 N X Q) K m e L cf:=by
  obtain⟨ec,hec⟩:=aGQ.1 hec
  refine aPG (l:=[q]) (fun s'=>QC L' is ++ [ow s' [q]]) hs (congrArg Prod.snd ho) (fun _=>aBE _ hz) (fun B a w hA hS=>?_) k
  obtain⟨⟨R,s1,s2⟩,s0⟩:=hS
  have hecl:ec.length=sz:=by rw [mL hec,hle]
  cases hxv:iO e' x with
  | none=>rw [hxv] at hx;cases hx
  | some xv =>
    rw [hxv] at hx hxc
    simp at hx hxc
    obtain⟨v,v1,v2⟩:=eR hA hxv
    have hcell:aZ (bZ B) (pL xv)=some ec:=by
      rw [←NP,hx];exact fH (fun x v h=>by simpa using gH (B:=[]) B h) hec
    have hvc:v.cells.toList=ec:=MP v1 hcell
    have p1:=s1.shift is ha (A':=[cJ ec q]) fun F hF=>by
      rw [aBF hi,E.nb] at hF
      exact Sep.one.2 ((E.pk hec w F).2 hF)
    have hlen:(blank (L'.map (jW B)) is).length=L'.length:=by rw [←NQ];simp [aBG]
    obtain⟨v',w',k1,k2⟩:=aUU (e:=vE B e') (o:=o) (ps:=[(0,x)]) (vs:=[v]) (cells:=ec) [q] p1 [L'.length] rfl ⟨[],by
        simp only [pick,J9 (SR hlen),hlen,Nat.sub_self]
        rw [show ec.take sz=ec by rw [←hecl];exact IV]
        rfl,by rw [xZ,hecl];omega,⟨by rw [←hecl];exact List.drop_length,rfl⟩⟩ hn (HJ ht hT) hinf rfl hm (by simpa using hm2) (congrArg Prod.fst ho) (by simp [evs,v2]) (aJW (vs:=[v]) (ps:=[(0,x)]) rfl rfl (by simp;rw [←Array.length_toList,hvc,hecl]) (by simp [hvc]))
    have hb2:blank (blank (L'.map (jW B)) is ++ [cJ ec q]) [L'.length]=blank (L'.map (jW B)) is ++ [GL]:=by
      simp only [blank]
      rw [List.set_append_right _ _ (by omega),hlen];simp
    rw [hb2] at k2
    obtain⟨s',rfl⟩:=W8 (v:=v') (l:=[q]) k2 (L'.length+1) (by rw [J9 (by simp [hlen])];simp [hlen])
    refine⟨s',w',k1,⟨⟨R,?_,fun z hz=>?_⟩,s0⟩⟩
    · have k3:=k2.NI ((List.range L'.length) ++ [L'.length+1]) ?_
      · refine k3.imp ?_
        rw [BJ,NQ,UZ]
        refine jB.append ?_ ?_
        · have:pick (blank (L'.map (jW B)) is ++ [GL] ++ [cJ [s'.v [q].length] [q]]) (List.range L'.length)=blank (L'.map (jW B)) is:=by
            have gen:∀(M M':List Chunk) (j:Nat),pick (M++M') ((List.range j))=(M++M').take j∨¬j≤(M++M').length:=by
              intro M M' j
              by_cases hj:j≤(M++M').length
              · left
                induction j with
                | zero=>rfl
                | succ j ih =>
                  rw [List.range_succ,UZ,ih (by omega)]
                  simp only [pick]
                  rw [List.take_add_one,eI (by omega)]
                  rfl
              · exact .inr hj
            rcases gen (blank (L'.map (jW B)) is ++ [GL]) [cJ [s'.v [q].length] [q]] L'.length with h | h
            · rw [h,j8,YN (by omega),←hlen,IV]
            · exact absurd (by simp [hlen]) h
          rw [this];exact jB.refl _
        · simp only [pick]
          rw [J9 (by simp [hlen])]
          simp [hlen,jW]
          try exact jB.refl _
      · have gen:∀(j:Nat),dR (List.range' j (L'.length - j) ++ [L'.length+1])=true:=by
          intro j
          generalize hk:L'.length - j=k
          induction k generalizing j with
          | zero=>rfl
          | succ k ih =>
            rw [List.range'_succ,YI]
            simp only [dR,DS,WZ,Bool.not_eq_true']
            refine⟨fun i hi=>?_,ih (j+1) (by omega)⟩
            cases hb:Nat.beq j i with
            | false=>rfl
            | true =>
              have:=l7 hb
              subst this
              rcases gK.1 hi with hi | hi
              · rw [List.mem_range'] at hi
                obtain⟨p,_,hp⟩:=hi
                omega
              · simp at hi;omega
        have:=gen 0
        rwa [Nat.sub_zero,←List.range_eq_range'] at this
    · rcases gK.1 hz with hz | hz
      · rcases UY _ _ hz with hz | hz
        · exact s2 z hz
        · subst hz;trivial
      · simp at hz;subst hz;trivial
theorem apN{α β:Type}[aI α]{A:Option β}{q:β}{s s2:AC}{l xs:List α}(i j:Nat)(hinf:SS P el sz zv)(hs:kA T n K cf m e L=.op o Lv cf1 cf2 K' m' e' L')(ho:(o.op,o.dst)=(.call {callee:=.builtin .append,args:=#[x,y],argTypes:=#[t,t]},some d))(ht:BF T t=some ⟨.sl el,b1,n1,z1⟩)(hn:aI.n α=sz)(hzs:zv.cells.size=sz)(hi:L'[i]?=some (ow s l))(hj:L'[j]?=some (ow s2 xs))(ha:dR [i,j]=true)(hz:([i,j].all fun j=>gO j cf1.BM)=true)(hx:iO e' x=some (.h s l.length))(hy:iO e' y=some (.h s2 xs.length))(hF:need (l.length+xs.length≤1073741824) A=some q)
    (k:A=some q→∀s':AC,G (.mk P T hT n c B0 N X Q) K' m' ((d,.h s' (l++xs).length) :: e') (QC L' [i,j] ++ [ow s' (l++xs)]) cf2):G (.mk P T hT n c B0 N X Q) K m e L cf:=by
  refine aPG (l:=l++xs) (fun s'=>QC L' [i,j] ++ [ow s' (l++xs)]) hs (congrArg Prod.snd ho) (fun _=>aBE _ hz) (fun B a w hA hS=>?_) (k (jO hF).2)
  obtain⟨⟨R,s1,s2'⟩,s0⟩:=hS
  have hp:pick (L'.map (jW B)) [i,j]=[cJ [s.v l.length] l,cJ [s2.v xs.length] xs]:=by simp [pick,hi,hj,jW]
  obtain⟨v,w',k1,k2⟩:=aUV [i,j] s1 ha hp hn (HJ ht hT) hinf hzs (jO hF).1 (congrArg Prod.fst ho) (hdB hA hx) (hdB hA hy)
  have hlen:(blank (L'.map (jW B)) [i,j]).length=L'.length:=by rw [←NQ];simp [aBG]
  obtain⟨s',rfl⟩:=W8 k2 L'.length (by rw [J9 (SR hlen),hlen,Nat.sub_self];rfl)
  refine⟨s',w',k1,⟨⟨R,?_,fun z hz=>?_⟩,s0⟩⟩
  · rw [BJ,NQ];exact k2
  · rcases gK.1 hz with hz | hz
    · rcases UY _ _ hz with hz | hz
      · exact s2' z hz
      · subst hz;trivial
    · simp at hz;subst hz;trivial
end
theorem kb{b cb:Bool}(ss:List Nat)(hb:b=cb)(hs:SH (kA T n K cf m e L)=some (K',cf',m',e',L'))(ho:aZ (DY e') ss=some (ss.map fun _=>SV.b b))(k:G (.mk P T hT n c B0 N X Q) K' m' (ovr cb e' ss) L' cf'):G (.mk P T hT n c B0 N X Q) K m e L cf:=
  go hs (aCC (fun a B hA=>R5 hb ss ho hA) k)
def rhE(v:SV)(e:SE):List (Nat×Nat)→SE
  | []=>e
  | (k, j) :: r => match DY e k with
    | some (.g cs)=>(k,.g (ovw cs j [v])) :: rhE v e r
    | some (.t cs)=>(k,.t (ovw cs j [v])) :: rhE v e r
    | _=>rhE v e r
def rhL(v:SV)(L:List Ch):List (Nat×Nat)→List Ch
  | []=>L
  | (k, j) :: r => match L[k]? with
    | some (.box n cs)=>rhL v (L.set k (.box n (ovw cs j [v]))) r
    | _=>rhL v L r
theorem aBH{B:Bl}{f:Bl→SV→Option Value}{u v:SV}(huv:∀B,f B u=f B v):∀{cs:List SV} {j:Nat},cs[j]?=some u→aZ (f B) (ovw cs j [v])=aZ (f B) cs
  | [],j,h=>by simp at h
  | x :: cs, 0, h => by
    simp at h;subst h
    show aZ (f B) (v :: ovw cs 0 [])=_
    rw [aH0]
    simp only [aZ,huv]
  | x :: cs, j + 1, h => by
    show aZ (f B) (x :: ovw cs j [v])=_
    simp only [aZ,aBH (B:=B) huv (show cs[j]?=some u by simpa using h)]
theorem aSY{s:AC}{n0 n1:Nat}(hn:n0=n1){B:Bl}:∀{ps:List (Nat×Nat)} {k:Nat} {x:SV},(∀p∈ps,∃cs,(DY e p.1=some (.g cs)∨DY e p.1=some (.t cs))∧cs[p.2]?=some (.h s n0))→DY (rhE (.h s n1) e ps) k=some x→∃y,DY e k=some y∧fX B x=fX B y
  | [],k,x,_,h=>⟨x,h,rfl⟩
  | (k', j) :: r, k, x, hp, h => by
    have ih:=fun h=>aSY hn (B:=B) (ps:=r) (k:=k) (x:=x) (fun p hp'=>hp p (jV _ hp')) h
    obtain⟨cs,h1,h2⟩:=hp (k',j) (by simp)
    have hc:∀B,bZ B (.h s n0)=bZ B (.h s n1):=fun B=>by rw [hn]
    have hg:∀B,gV B (.h s n0)=gV B (.h s n1):=fun B=>by rw [hn]
    rcases h1 with h1 | h1
    · simp only [rhE,h1,DY] at h
      split at h
      · rename_i hb
        cases h
        have:=l7 hb
        subst this
        exact⟨_,h1,by simp only [fX,gV,aBH (f:=bZ) hc h2]⟩
      · exact ih h
    · simp only [rhE,h1,DY] at h
      split at h
      · rename_i hb
        cases h
        have:=l7 hb
        subst this
        exact⟨_,h1,by simp only [fX,aBH (f:=gV) hg h2]⟩
      · exact ih h
theorem aOF{s:AC}{n0 n1:Nat}(hn:n0=n1){B:Bl}{w:World}{R:List Fact}:∀{ps:List (Nat×Nat)} {L:List Ch},(∀p∈ps,∃k cs,L[p.1]?=some (.box k cs)∧cs[p.2]?=some (.h s n0))→dR (ps.map (·.1))=true→jB w (L.map (jW B)) ((rhL (.h s n1) L ps).map (jW B))∧((∀x∈L,roF B R x)→∀x∈rhL (.h s n1) L ps,roF B R x)
  | [],L,_,_=>⟨jB.refl _,fun h=>h⟩
  | (i, j) :: r, L, hp, ha => by
    obtain⟨k,cs,h1,h2⟩:=hp (i,j) (by simp)
    have hc:∀B,bZ B (.h s n0)=bZ B (.h s n1):=fun B=>by rw [hn]
    simp only [DX,dR,DS] at ha
    have ih:=aOF hn (B:=B) (w:=w) (R:=R) (ps:=r) (L:=L.set i (.box k (ovw cs j [.h s n1]))) (fun p hp'=>by
      obtain⟨k',cs',h3,h4⟩:=hp p (jV _ hp')
      have hne:i≠p.1:=fun he=>by
        have:=WZ.1 ha.1 p.1 (List.mem_map_of_mem hp')
        rw [he] at this;simp at this
      exact⟨k',cs',by rw [OM hne];exact h3,h4⟩) ha.2
    simp only [rhL,h1]
    refine⟨?_,fun h=>ih.2 fun x hx=>?_⟩
    · have h5:jB w (L.map (jW B)) ((L.set i (.box k (ovw cs j [.h s n1]))).map (jW B)):=by
        rw [KB]
        exact jB.put (a:=NN B k cs) (b:=NN B k (ovw cs j [.h s n1])) i (by rw [FU,h1];rfl) fun F ⟨b,z,vs,q1,q2,q3⟩=>⟨b,z,vs,q1,by rw [aBH (f:=bZ) hc h2];exact q2,q3⟩
      have tr:∀{A B C:List Chunk},jB w A B→jB w B C→jB w A C:=by
        intro A B C h1
        induction h1 generalizing C with
        | nil=>exact fun h=>h
        | cons h t ih=>intro h2;cases h2 with | cons h' t'=>exact .cons (fun F hF=>h' F (h F hF)) (ih t')
      exact tr h5 ih.1
    · rcases oW hx with hx | hx
      · exact h x hx
      · subst hx;trivial
def atE(e:SE)(p:Nat×Nat):Option SV:=match DY e p.1 with
  | some (.g cs)=>cs[p.2]?
  | some (.t cs)=>cs[p.2]?
  | _=>none
def atL(L:List Ch)(p:Nat×Nat):Option SV:=match L[p.1]? with
  | some (.box _ cs)=>cs[p.2]?
  | _=>none
theorem aOG{B:Bl}{a:Act}{w:World}(s:AC){n0 n1:Nat}(hn:n0=n1){ps qs:List (Nat×Nat)}(hp:aZ (atE e) ps=some (ps.map fun _=>.h s n0))(hq:aZ (atL L) qs=some (qs.map fun _=>.h s n0))(ha:dR (qs.map (·.1))=true)(hA:fY n B e a)(hS:mW c w B L):fY n B (rhE (.h s n1) e ps) a∧mW c w B (rhL (.h s n1) L qs):=by
  have key:∀{γ:Type} {f:γ→Option SV} {ps:List γ},aZ f ps=some (ps.map fun _=>.h s n0)→∀p∈ps,f p=some (.h s n0):=by
    intro γ f ps
    induction ps with
    | nil=>intro _ p hp;cases hp
    | cons q ps ih =>
      intro h p hp
      simp only [aZ,DX] at h
      split at h
      · cases h
      · rename_i h1
        split at h
        · cases h
        · rename_i h2
          cases h
          rcases iA.1 hp with hp | hp
          · subst hp;exact h1
          · exact ih h2 p hp
  refine⟨⟨hA.d,hA.size,fun k x hk=>?_⟩,?_⟩
  · obtain⟨y,h1,h2⟩:=aSY hn (B:=B) (fun p hp'=>by
      have:=key hp p hp'
      unfold atE at this
      split at this
      · rename_i cs hc;exact⟨cs,.inl hc,this⟩
      · rename_i cs hc;exact⟨cs,.inr hc,this⟩
      · cases this) hk
    obtain⟨v,h3,h4⟩:=hA.get k y h1
    exact⟨v,by rw [h2];exact h3,h4⟩
  · obtain⟨⟨R,s1,s2⟩,s0⟩:=hS
    obtain⟨h1,h2⟩:=aOF hn (B:=B) (w:=w) (R:=R) (L:=L) (fun p hp'=>by
      have:=key hq p hp'
      unfold atL at this
      split at this
      · rename_i k cs hc;exact⟨k,cs,hc,this⟩
      · cases this) ha
    exact⟨⟨R,s1.imp h1,h2 s2⟩,s0⟩
theorem U0{g:Gx}{cf:xR}{v:SV}:∀{qs:List (Nat×Nat)} {L M:List Ch},Frz g cf L M→((qs.map (·.1)).all fun j=>gO j cf.BM)=true→Frz g cf L (rhL v M qs)
  | [],L,M,h,_=>h
  | (i, j) :: r, L, M, h, hz => by
    simp only [DX,aBQ,DS] at hz
    simp only [rhL]
    split
    · exact U0 (qs:=r) (aKG h hz.1) hz.2
    · exact U0 (qs:=r) h hz.2
theorem rh(s:AC){n0 n1:Nat}(hn:n0=n1)(ps qs:List (Nat×Nat))(hp:aZ (atE e) ps=some (ps.map fun _=>.h s n0))(hq:aZ (atL L) qs=some (qs.map fun _=>.h s n0))(ha:(dR (qs.map (·.1)) && (qs.map (·.1)).all fun j=>gO j cf.BM)=true)
    (k:G (.mk P T hT n c B0 N X Q) K m (rhE (.h s n1) e ps) (rhL (.h s n1) L qs) cf):G (.mk P T hT n c B0 N X Q) K m e L cf:=by
  rw [DS] at ha
  refine chg (fun _:Unit=>m) (fun _=>rhE (.h s n1) e ps) (fun _=>rhL (.h s n1) L qs) (fun B a w hm hA hS=>?_) (fun _=>U0 (by simpa using zE (L:=L) []) ha.2) (fun _=>k)
  obtain⟨h1,h2⟩:=aOG s hn hp hq ha.1 hA hS
  exact⟨(),[],by simpa using hm,by simpa using h1,by simpa using h2⟩
theorem oN{Z:Act→World→Prop}(s:AC){n0 n1:Nat}(hn:n0=n1)(ps qs:List (Nat×Nat))(hp:aZ (atE e) ps=some (ps.map fun _=>.h s n0))(hq:aZ (atL L) qs=some (qs.map fun _=>.h s n0))(ha:dR (qs.map (·.1))=true)
    (kk:∀a w,qV n c B0 m (rhE (.h s n1) e ps) (rhL (.h s n1) L qs) a w→Z a w):∀a w,qV n c B0 m e L a w→Z a w:=by
  intro a w ⟨B,hm,hA,hS⟩
  obtain⟨h1,h2⟩:=aOG s hn hp hq ha hA hS
  exact kk a w ⟨B,hm,h1,h2⟩
end
end Go.Gv
end
noncomputable section
namespace Go.Gv
noncomputable section
variable {P:Program} {T:TT} {hT:HD P T} {n:Nat} {c:Ctx} {B0:Bl} {N:Act→World→Prop} {X:Nat→Act→World→Prop} {Q:Act→World→Prop} {K K':List Fr} {m m':Nat} {e e':SE} {L L' Lv:List Ch} {cf cf' cf1 cf2:xR} {o:Oper} {d:Nat}
noncomputable section
variable {x:Operand} {t t2 el sz:Nat} {b1 b2 b3:Bool} {n1 n2 n3:Nat} {z1 z2 z3:List SV}
theorem qbo(p:Nat){s:AC}{l:List UInt8}(hs:opS (kA T n K cf m e L)=some (o,Lv,cf1,cf2,K',m',e',L'))(ho:(o.op,o.dst)=(.convert t t2 x,some d))(ht:BF T t=some ⟨.sl el,b1,n1,z1⟩)(he:BF T el=some ⟨.i .u8,b2,n2,z2⟩)(h2:BF T t2=some ⟨.s,b3,n3,z3⟩)(hp:Lv[p]?=some (ow s l))(hx:iO e' x=some (.h s l.length))
    (kk:G (.mk P T hT n c B0 N X Q) K' m' ((d,.s l) :: e') L' cf2):G (.mk P T hT n c B0 N X Q) K m e L cf:=by
  refine pu hs (congrArg Prod.snd ho) (fun B a w hA hS=>⟨_,rfl,?_⟩) kk
  obtain⟨⟨R,s1,s2⟩,s0⟩:=hS
  have hr:=s1.aNF (cs:=[s.v l.length]) (d:=l) p (by simp [hp,jW])
  obtain⟨de,q1,q2⟩:=hT.und _ _ he
  exact aXU hr (HJ ht hT) (by rw [q1];simp only at q2;rw [q2]) (aZ3 h2 hT) (congrArg Prod.fst ho) (hdB hA hx)
theorem aVS{α:Type}[aI α](E:CO α){q:α}{y:E.ex}{ec:List Value}(h:aZ (bZ []) (E.cs q y)=some ec)(hL:E.Lx q y=[])(w:World):aI.rd F0 w ec q:=by
  have:=(E.pk h w F0).2 (by rw [hL];exact fun _ _ h=>h)
  exact aI.own_rd this
theorem lits{α:Type}[aI α](E:CO α)(y:E.ex){sz:Nat}{B:Bl}{a:Act}(hA:fY n B e a)(hL:∀q,E.Lx q y=[]):∀{ps:List (Nat×Operand)} {qs:List α},aZ (fun p=>(iO e p.2).map fun v=>nbL (pL v)) ps=some (qs.map fun q=>E.cs q y)→(qs.all fun q=>Nat.beq (E.cs q y).length sz && (aZ (bZ []) (E.cs q y)).isSome)=true →
    ∃vs cells,evs (vE B e) (ps.map (·.2))=some vs∧vs.length=ps.length∧(vs.all fun v=>v.cells.size == sz)=true∧(vs.flatMap fun v=>v.cells.toList)=cells∧aGW sz cells qs
  | [],[],_,_=>⟨[],[],rfl,rfl,rfl,rfl,rfl⟩
  | [],q :: qs,h,_=>by cases h
  | p :: ps, [], h, _ => by
    simp only [aZ] at h
    split at h
    · cases h
    · split at h <;> cases h
  | p :: ps, q :: qs, h, hc => by
    simp only [aZ,DX] at h
    split at h
    · cases h
    · rename_i c0 h1
      split at h
      · cases h
      · rename_i cs h2
        simp only [Option.some.injEq,List.cons.injEq] at h
        obtain⟨rfl,rfl⟩:=h
        simp only [aBQ,DS] at hc
        obtain⟨⟨hl,hsome⟩,hc⟩:=hc
        obtain⟨vs,cells,g1,g2,g3,g4,g5⟩:=lits E y hA hL h2 (by simpa using hc)
        obtain⟨ec,hec⟩:=aGQ.1 hsome
        cases hxv:iO e p.2 with
        | none=>rw [hxv] at h1;cases h1
        | some xv =>
          rw [hxv] at h1
          simp at h1
          obtain⟨v,v1,v2⟩:=eR hA hxv
          have hcell:aZ (bZ B) (pL xv)=some ec:=by
            rw [←NP,h1];exact fH (fun x v h=>by simpa using gH (B:=[]) B h) hec
          have hvc:v.cells.toList=ec:=MP v1 hcell
          have hecl:ec.length=sz:=by rw [mL hec];exact l7 hl
          refine⟨v :: vs,ec++cells,by simp [evs,v2,g1],by simp [g2],?_,by simp [hvc,g4],?_,?_⟩
          · rw [aBQ,g3,←Array.length_toList,hvc,hecl];simp
          · rw [YN (SR hecl.symm),←hecl,IV]
            exact aVS E hec (hL q) _
          · rw [List.drop_append_of_le_length (SR hecl.symm),←hecl,List.drop_length,aGP,hecl]
            exact g5
theorem ltK{α:Type}[aI α][Flat α](E:CO α)(y:E.ex)(qs:List α){len:Nat}{ps:List (Nat×Operand)}{zv:Value}(hinf:SS P el sz zv)(hs:kA T n K cf m e L=.op o Lv cf1 cf2 K' m' e' L')(ho:(o.op,o.dst)=(.buildSlice t len ⟨ps⟩,some d))(ht:BF T t=some ⟨.sl el,b1,n1,z1⟩)(hn:aI.n α=sz)(hl:qs.length=len)(hm:Nat.ble 1 sz=true)(hsm:Nat.ble (len * sz) 16777216=true)(hix:ps.map (·.1)=List.range' 0 len)(hev:aZ (fun p=>(iO e' p.2).map fun v=>nbL (pL v)) ps=some (qs.map fun q=>E.cs q y))(hec:(qs.all fun q=>Nat.beq (E.cs q y).length sz && (aZ (bZ []) (E.cs q y)).isSome)=true)(hL:∀q,E.Lx q y=[])
    (k:∀s':AC,G (.mk P T hT n c B0 N X Q) K' m' ((d,.h s' qs.length) :: e') (L' ++ [ow s' qs]) cf2):G (.mk P T hT n c B0 N X Q) K m e L cf:=by
  refine aPG (l:=qs) (fun s'=>L' ++ [ow s' qs]) hs (congrArg Prod.snd ho) (fun _=>zE _) (fun B a w hA hS=>?_) k
  obtain⟨⟨R,s1,s2⟩,s0⟩:=hS
  obtain⟨vs,cells,g1,g2,g3,g4,g5⟩:=lits E y (sz:=sz) hA hL hev hec
  have hpl:ps.length=len:=by
    have:=congrArg List.length hix
    simpa using this
  obtain⟨v,w',k1,k2⟩:=aLY (e:=vE B e') (o:=o) (ps:=ps) (vs:=vs) (cells:=cells) qs s1 hn (HJ ht hT) hinf hl hm hsm g5 (congrArg Prod.fst ho) g1 (aJW hix (by rw [g2,hpl]) g3 g4)
  obtain⟨s',rfl⟩:=W8 (v:=v) (l:=qs) k2 (L'.map (jW B)).length (by simp)
  refine⟨s',w',k1,⟨⟨R,by simpa [jW] using k2,fun z hz=>?_⟩,s0⟩⟩
  rcases gK.1 hz with hz | hz
  · exact s2 z hz
  · simp at hz;subst hz;trivial
end
end
end Go.Gv
end
noncomputable section
namespace Go.Gv
theorem a0B{P:Program}{f:FuncId}{κ:Ctx}{xs:List SV}{ρ:Type}{sv:ρ→SV}{r:ρ}(hcall:∀args w,(callFunc f args).run P w=.ok (.enter f args) w)
    (H:(∀f:Fact,f.P κ.S0 κ.w0→f.P (NL κ.w0) κ.w0)→∀vs,aZ (fX []) xs=some vs→Calls P f vs.toArray κ.w0 (Ret fun v w'=>fX [] (sv r)=some v∧St (cW κ.w0) w' [] [])):Fn0 P f κ xs sv r:=
  ⟨hcall,fun vs hv hS=>Calls.mono (H (fun f hf=>f.mono hf fun b o hb=>hS.s0 b o hb) vs hv) fun en w' ⟨v,h1,h2,h3⟩=>⟨v,h1,(),h2,hS.aMC h3.keep⟩⟩
noncomputable section
variable {P:Program} {T:TT} {hT:HD P T} {n:Nat} {c:Ctx} {B0:Bl} {N:Act→World→Prop} {X:Nat→Act→World→Prop} {Q:Act→World→Prop} {K K':List Fr} {m m':Nat} {e e':SE} {L L' Lv:List Ch} {cf cf' cf1 cf2:xR} {o:Oper} {d:Nat}
theorem un{α:Type}[aI α](j:Nat)(ks:List Nat)(ps qs:List (Nat×Nat)){s:AC}{n0:Nat}{l:List α}(hj:L[j]?=some (.o (cJ [s.v n0] l)))(hz:gO j cf.BM=true)(hk:aZ (DY e) ks=some (ks.map fun _=>.h s n0))(hp:aZ (atE (ovh (.h s l.length) e ks)) ps=some (ps.map fun _=>.h s n0))(hq:aZ (atL (L.set j (ow s l))) qs=some (qs.map fun _=>.h s n0))(ha:(dR (qs.map (·.1)) && (qs.map (·.1)).all fun j=>gO j cf.BM)=true)
    (k:l.length=n0→G (.mk P T hT n c B0 N X Q) K m (rhE (.h s l.length) (ovh (.h s l.length) e ks) ps) (rhL (.h s l.length) (L.set j (ow s l)) qs) cf):G (.mk P T hT n c B0 N X Q) K m e L cf:=by
  rw [DS] at ha
  refine chg (fun _:PLift (l.length=n0)=>m) (fun _=>rhE (.h s l.length) (ovh (.h s l.length) e ks) ps) (fun _=>rhL (.h s l.length) (L.set j (ow s l)) qs) (fun B a w hm hA hS=>?_) (fun _=>U0 (I1 hz) ha.2) (fun h=>k h.down)
  have hn:l.length=n0:=by
    obtain⟨⟨R,s1,s2⟩,s0⟩:=hS
    obtain⟨F,hF⟩:=s1.chunk (ch:=cJ [s.v n0] l) j (by simp [hj,jW])
    obtain⟨ad,cp,h1,h2⟩:=IN (show aI.own w [s.v n0] l F from hF)
    simp only [AC.v,Value.slice.injEq] at h1
    exact h1.2.1.symm
  subst hn
  have hS':mW c w B (L.set j (ow s l)):=by
    have:L.set j (ow s l)=L:=by
      obtain⟨hl,he⟩:=jU.1 hj
      show L.set j (.o (cJ [s.v l.length] l))=L
      rw [←he];exact aBT hl
    rw [this];exact hS
  obtain⟨h1,h2⟩:=aOG s rfl hp hq ha.1 (aID ks hk hA) hS'
  exact⟨⟨rfl⟩,[],by simpa using hm,by simpa using h1,by simpa using h2⟩
theorem rr(s:AC){n0 n1:Nat}(hn:n0=n1)(ks:List Nat)(ps qs:List (Nat×Nat))(hk:aZ (DY e) ks=some (ks.map fun _=>.h s n0))(hp:aZ (atE (ovh (.h s n1) e ks)) ps=some (ps.map fun _=>.h s n0))(hq:aZ (atL L) qs=some (qs.map fun _=>.h s n0))(ha:(dR (qs.map (·.1)) && (qs.map (·.1)).all fun j=>gO j cf.BM)=true)
    (k:G (.mk P T hT n c B0 N X Q) K m (rhE (.h s n1) (ovh (.h s n1) e ks) ps) (rhL (.h s n1) L qs) cf):G (.mk P T hT n c B0 N X Q) K m e L cf:=by
  rw [DS] at ha
  subst hn
  refine chg (fun _:Unit=>m) (fun _=>rhE (.h s n0) (ovh (.h s n0) e ks) ps) (fun _=>rhL (.h s n0) L qs) (fun B a w hm hA hS=>?_) (fun _=>U0 (by simpa using zE (L:=L) []) ha.2) (fun _=>k)
  obtain⟨h1,h2⟩:=aOG s rfl hp hq ha.1 (aID ks hk hA) hS
  exact⟨(),[],by simpa using hm,by simpa using h1,by simpa using h2⟩
theorem cpy{d:Option Nat}{x y:Operand}{t t2 el sz:Nat}{α:Type}[aI α][Flat α]{s s2:AC}{l xs:List α}{b1 b2:Bool}{n1:Nat}{z1 z2:List SV}{kt:TK}(p a:Nat)(hb:a≤l.length∧l.length≤l.length)(hsrc:∀{w},HS c w L'→aX (cW w) s2 xs)(hs:kA T n K cf m e L=.op o Lv cf1 cf2 K' m' e' L')(ho:(o.op,o.dst)=(.call {callee:=.builtin .copy,args:=#[x,y],argTypes:=#[t,t2]},d))(ht:BF T t=some ⟨.sl el,b1,n1,z1⟩)(he:BF T el=some ⟨kt,b2,sz,z2⟩)(hn:aI.n α=sz)(hp:(L'[p]?,gO p cf1.BM)=(some (ow s l),true))(hx:iO e' x=some (.h (s.sub sz a) ((l.take l.length).drop a).length))(hy:iO e' y=some (.h s2 xs.length))
    (k:G (.mk P T hT n c B0 N X Q) K' m' (dse d (.i .i64 ((min xs.length (l.length - a):Nat):Int)) e') (L'.set p (ow s (dE l a xs))) cf2):G (.mk P T hT n c B0 N X Q) K m e L cf:=by
  have hp1:L'[p]?=some (ow s l):=congrArg Prod.fst hp
  have hz:gO p cf1.BM=true:=congrArg Prod.snd hp
  have hlen:(dE l a xs).length=l.length:=fG hb.1
  refine gP (g:=.mk P T hT n c B0 N X Q) ?_
  rw [hs]
  intro hdn _ hE
  refine hE Unit (fun _=>m') (fun _=>dse d (.i .i64 ((min xs.length (l.length - a):Nat):Int)) e') (fun _=>L'.set p (ow s (dE l a xs))) (fun _=>I1 hz) (fun B act w next Q' hm hA hS hnext=>?_) (fun _=>k)
  have hr:aX (cW w) s2 xs:=hsrc ⟨_,hS⟩
  obtain⟨⟨R,s1,s2'⟩,s0⟩:=hS
  have hx2:ev (vE (UJ (.mk P T hT n c B0 N X Q) cf1++B) e') x=some (gW sz a l.length (s.v l.length)):=by rw [hdB hA hx,HF hb.1 hb.2]
  have hop:o.op=.call {callee:=.builtin .copy,args:=#[x,y],argTypes:=#[t,t2]}:=congrArg Prod.fst ho
  have hd:o.dst=d:=congrArg Prod.snd ho
  obtain⟨v,w',k1,rfl,k2⟩:=aNP p s1 (by rw [FU,hp1];rfl) hr hn hb.1 (HJ ht hT) (hT.size _ _ he) hop hx2 (hdB hA hy)
  unfold Oper.wp
  rw [k1 _ act hA.env,Oper.upon_value,hd]
  have hS2:mW c w' (UJ (.mk P T hT n c B0 N X Q) cf1++B) (L'.set p (ow s (dE l a xs))):=by
    refine⟨⟨R,?_,fun z hz=>?_⟩,s0⟩
    · rw [KB]
      show St c w' ((L'.map _).set p (cJ [s.v (dE l a xs).length] _)) R
      rw [hlen];exact k2
    · rcases oW hz with hz | hz
      · exact s2' z hz
      · subst hz;trivial
  cases d with
  | none=>exact hnext () _ _ ⟨[],by simpa using hm,by simpa [Act.put,dse] using hA,by simpa using hS2⟩
  | some d=>exact hnext () _ _ ⟨[],by simpa using hm,by simpa [dse] using hA.of (by simp [fX,gV,bZ]) (hA.env.put (by rw [hd] at hdn;simpa [rY,pI] using hdn) _),by simpa using hS2⟩
theorem cp0{d:Option Nat}{x y:Operand}{t t2 el sz:Nat}{α:Type}[aI α][Flat α]{s s2:AC}{l xs:List α}{b1 b2:Bool}{n1:Nat}{z1 z2:List SV}{kt:TK}(p:Nat)(hsrc:∀{w},HS c w L'→aX (cW w) s2 xs)(hs:kA T n K cf m e L=.op o Lv cf1 cf2 K' m' e' L')(ho:(o.op,o.dst)=(.call {callee:=.builtin .copy,args:=#[x,y],argTypes:=#[t,t2]},d))(ht:BF T t=some ⟨.sl el,b1,n1,z1⟩)(he:BF T el=some ⟨kt,b2,sz,z2⟩)(hn:aI.n α=sz)(hp:(L'[p]?,gO p cf1.BM)=(some (ow s l),true))(hx:iO e' x=some (.h s l.length))(hy:iO e' y=some (.h s2 xs.length))
    (k:G (.mk P T hT n c B0 N X Q) K' m' (dse d (.i .i64 ((min xs.length (l.length - 0):Nat):Int)) e') (L'.set p (ow s (dE l 0 xs))) cf2):G (.mk P T hT n c B0 N X Q) K m e L cf:=by
  have hp1:L'[p]?=some (ow s l):=congrArg Prod.fst hp
  have hz:gO p cf1.BM=true:=congrArg Prod.snd hp
  have hlen:(dE l 0 xs).length=l.length:=fG (xL _)
  refine gP (g:=.mk P T hT n c B0 N X Q) ?_
  rw [hs]
  intro hdn _ hE
  refine hE Unit (fun _=>m') (fun _=>dse d (.i .i64 ((min xs.length (l.length - 0):Nat):Int)) e') (fun _=>L'.set p (ow s (dE l 0 xs))) (fun _=>I1 hz) (fun B act w next Q' hm hA hS hnext=>?_) (fun _=>k)
  have hr:aX (cW w) s2 xs:=hsrc ⟨_,hS⟩
  obtain⟨⟨R,s1,s2'⟩,s0⟩:=hS
  have hop:o.op=.call {callee:=.builtin .copy,args:=#[x,y],argTypes:=#[t,t2]}:=congrArg Prod.fst ho
  have hd:o.dst=d:=congrArg Prod.snd ho
  obtain⟨v,w',k1,rfl,k2⟩:=aRG p s1 (by rw [FU,hp1];rfl) hr hn (HJ ht hT) (hT.size _ _ he) hop (hdB hA hx) (hdB hA hy)
  unfold Oper.wp
  rw [k1 _ act hA.env,Oper.upon_value,hd]
  have hS2:mW c w' (UJ (.mk P T hT n c B0 N X Q) cf1++B) (L'.set p (ow s (dE l 0 xs))):=by
    refine⟨⟨R,?_,fun z hz=>?_⟩,s0⟩
    · rw [KB]
      show St c w' ((L'.map _).set p (cJ [s.v (dE l 0 xs).length] _)) R
      rw [hlen];exact k2
    · rcases oW hz with hz | hz
      · exact s2' z hz
      · subst hz;trivial
  cases d with
  | none=>exact hnext () _ _ ⟨[],by simpa using hm,by simpa [Act.put,dse] using hA,by simpa using hS2⟩
  | some d=>exact hnext () _ _ ⟨[],by simpa using hm,by simpa [dse] using hA.of (by simp [fX,gV,bZ]) (hA.env.put (by rw [hd] at hdn;simpa [rY,pI] using hdn) _),by simpa using hS2⟩
theorem fR{Z:Act→World→Prop}{e1:SE}{L1:List Ch}(h1:aRN e=some e1)(h2:aRO L=some L1)(kk:∀a w,qV n c B0 m e1 L1 a w→Z a w):∀a w,qV n c B0 m e L a w→Z a w:=by
  have:=aH8 h1
  have:=aH9 h2
  subst e1;subst L1
  exact kk
end
end Go.Gv
end
noncomputable section
namespace Go.Gv
noncomputable section
variable {B B':Bl} {i j:Nat}
end
noncomputable section
variable {n:Nat} {c:Ctx} {B0:Bl} {m:Nat} {e:SE} {L:List Ch}
theorem pnR{Z:Act→World→Prop}{α:Type}[aI α](j:Nat){s:AC}{l:List α}{n0:Nat}(hl:l.length=n0)(hj:L[j]?=some (ow s l))
    (kk:∀a w,qV n c B0 m e (L.set j (.o (cJ [s.v n0] l))) a w→Z a w):∀a w,qV n c B0 m e L a w→Z a w:=by
  subst hl
  have:L.set j (.o (cJ [s.v l.length] l))=L:=by
    obtain⟨h1,h2⟩:=jU.1 hj
    rw [←show L[j]=.o (cJ [s.v l.length] l) from h2];exact aBT h1
  rw [this] at kk
  exact kk
end
end Go.Gv
end
