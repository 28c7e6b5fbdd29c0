import Derived.Test.YtabnjpbikjfhoaaGreatXNA
set_option linter.unusedVariables false
set_option linter.unusedSimpArgs false
set_option linter.unusedSectionVars false
set_option linter.constructorNameAsVariable false
set_option linter.unnecessarySimpa false
noncomputable section
namespace Go.Gv
def OY(B:Bl)(n:Nat)(cs:List SV):Chunk where
  P:=fun w F=>∃b z vs,B[n]?=some (b,z)∧aY (bQ B) cs=some vs∧(Q8 b z vs).P w F
  keep:=fun⟨b,z,vs,h1,h2,h3⟩ hk hd=>⟨b,z,vs,h1,h2,(Q8 b z vs).keep h3 hk hd⟩
  lt:=fun⟨b,z,vs,_,_,h3⟩ hf=>(Q8 b z vs).lt h3 hf
def j5(B:Bl):Ch→Chunk
  | .box n cs=>OY B n cs
  | .o c=>c
  | _=>HY
def roF(B:Bl)(R:List Fact):Ch→Prop
  | .ro n cs=>∃b z vs,B[n]?=some (b,z)∧aY (bQ B) cs=some vs∧fAt b z vs∈R
  | .f f=>f∈R
  | .w n b z=>B[n]?=some (b,z)
  | _=>True
structure mP (c:Ctx) (w:World) (B:Bl) (L:List Ch):Prop where
  ex:∃R,St c w (L.map (j5 B)) R∧∀x∈L,roF B R x
  s0:∀b o,c.S0 b o→b < c.w0.heap.size
inductive jM (w:World):List Chunk→List Chunk→Prop where
  | nil:jM w [] []
  | cons {a b:Chunk} {A B:List Chunk} (h:∀F,a.P w F→b.P w F) (t:jM w A B):jM w (a :: A) (b :: B)
theorem Sep.imp{w:World}:∀{A B:List Chunk} {F:cL},jM w A B→Sep w A F→Sep w B F
  | _,_,_,.nil,h=>h
  | _,_,_,.cons h t,⟨F1,F2,h1,h2,hd,hF⟩=>⟨F1,F2,h F1 h1,Sep.imp t h2,hd,hF⟩
theorem St.imp{c:Ctx}{w:World}{A B:List Chunk}{R:List Fact}(h:St c w A R)(hi:jM w A B):St c w B R:=by
  obtain⟨F,S,hsep,rest⟩:=h.sep
  exact⟨h.keep,⟨F,S,Sep.imp hi hsep,rest⟩,h.apart⟩
theorem jM.refl{w:World}:∀(A:List Chunk),jM w A A
  | []=>.nil
  | _ :: A=>.cons (fun _ h=>h) (jM.refl A)
theorem jM.append{w:World}:∀{A B A' B':List Chunk},jM w A B→jM w A' B'→jM w (A++A') (B++B')
  | _,_,_,_,.nil,h=>h
  | _,_,_,_,.cons h t,h2=>.cons h (jM.append t h2)
theorem jM.set{w:World}{a b:Chunk}:∀{A B:List Chunk} (i:Nat),jM w A B→(∀F,a.P w F→b.P w F)→jM w (A.set i a) (B.set i b)
  | _,_,_,.nil,_=>.nil
  | _,_,0,.cons _ t,h=>.cons h t
  | _,_,i+1,.cons g t,h=>.cons g (jM.set i t h)
theorem jM.put{w:World}{a b:Chunk}:∀{A:List Chunk} (i:Nat),A[i]?=some a→(∀F,a.P w F→b.P w F)→jM w A (A.set i b)
  | [],_,h,_=>by simp at h
  | x :: A,0,h,g=>by simp at h;subst h;exact .cons g (jM.refl A)
  | x :: A,i+1,h,g=>.cons (fun _ h=>h) (jM.put i (by simpa using h) g)
theorem aPK{B:Bl}(B':Bl){n:Nat}{cs:List SV}{w:World}{F:cL}(h:(OY B n cs).P w F):(OY (B++B') n cs).P w F:=by
  obtain⟨b,z,vs,h1,h2,h3⟩:=h
  exact⟨b,z,vs,Bl.app B' h1,fL (fun _ _=>gR B') h2,h3⟩
theorem aTA{B:Bl}(B':Bl){x:Ch}{w:World}{F:cL}(h:(j5 B x).P w F):(j5 (B++B') x).P w F:=by
  cases x <;> first | exact aPK B' h | exact h
theorem RD{B:Bl}(B':Bl){w:World}:∀(L:List Ch),jM w (L.map (j5 B)) (L.map (j5 (B++B')))
  | []=>.nil
  | _ :: L=>.cons (fun _ h=>aTA B' h) (RD B' L)
theorem aFI{B:Bl}(B':Bl){R:List Fact}{x:Ch}(h:roF B R x):roF (B++B') R x:=by
  cases x <;> try exact h
  · obtain⟨b,z,vs,h1,h2,h3⟩:=h
    exact⟨b,z,vs,Bl.app B' h1,fL (fun _ _=>gR B') h2,h3⟩
  · exact Bl.app B' h
theorem TY{B:Bl}{R R':List Fact}(hR:∀f∈R,f∈R'){x:Ch}(h:roF B R x):roF B R' x:=by
  cases x <;> try exact h
  · obtain⟨b,z,vs,h1,h2,h3⟩:=h
    exact⟨b,z,vs,h1,h2,hR _ h3⟩
  · exact hR _ h
noncomputable section
variable {P:Program} {T:TT} {n:Nat} {B:Bl} {e:SE} {E:Env} {o:Oper} {w w':World} {x y:Operand} {c:Ctx} {L:List Ch}
theorem mP.app(h:mP c w B L)(B':Bl):mP c w (B++B') L:=by
  obtain⟨⟨R,h1,h2⟩,h3⟩:=h
  exact⟨⟨R,h1.imp (RD B' L),fun x hx=>aFI B' (h2 x hx)⟩,h3⟩
theorem aEK{n:Nat}{cs:List SV}:∀{L:List Ch},GK n L=some cs→Ch.box n cs∈L∨Ch.ro n cs∈L
  | [],h=>by cases h
  | x :: L, h => by
    have ih:GK n L=some cs→Ch.box n cs∈x :: L∨Ch.ro n cs∈x :: L:=fun h=>by
      rcases aEK h with h | h
      · exact .inl (List.mem_cons_of_mem _ h)
      · exact .inr (List.mem_cons_of_mem _ h)
    cases x <;> simp only [GK] at h <;> try exact ih h
    · split at h
      · rename_i hb;cases h;rw [Nat.eq_of_beq_eq_true hb];exact .inl (List.mem_cons_self ..)
      · exact ih h
    · split at h
      · rename_i hb;cases h;rw [Nat.eq_of_beq_eq_true hb];exact .inr (List.mem_cons_self ..)
      · exact ih h
theorem mP.cells(h:mP c w B L){n:Nat}{cs:List SV}(hb:GK n L=some cs):∃b z vs,B[n]?=some (b,z)∧aY (bQ B) cs=some vs∧bY w b z vs:=by
  obtain⟨⟨R,h1,h2⟩,_⟩:=h
  rcases aEK hb with hm | hm
  · obtain⟨i,hi⟩:=List.getElem?_of_mem hm
    obtain⟨F,b,z,vs,h3,h4,h5⟩:=h1.chunk (ch:=OY B n cs) i (by rw [List.getElem?_map,hi];rfl)
    exact⟨b,z,vs,h3,h4,h5.1⟩
  · obtain⟨b,z,vs,h3,h4,h5⟩:=h2 _ hm
    obtain⟨i,hi⟩:=List.getElem?_of_mem h5
    exact⟨b,z,vs,h3,h4,h1.fat i hi⟩
theorem TZ{b z o m:Nat}{vs:List Value}(h:bY w b z vs)(_hm:o+m≤vs.length):bY w b (z+o) ((vs.drop o).take m):=by
  intro q u hq
  rw [List.getElem?_take] at hq
  split at hq
  · rw [List.getElem?_drop] at hq
    have:=h (o+q) u hq
    rw [show z+o+q=z+(o+q) from by omega];exact this
  · cases hq
theorem aK9:∀(cs:List SV) (o:Nat) (v:SV) (vs:List SV),o < cs.length→ovw cs o (v :: vs)=ovw (cs.set o v) (o+1) vs
  | [],o,v,vs,h=>by simp at h
  | c :: cs,0,v,vs,_=>by simp [ovw]
  | c :: cs, o + 1, v, vs, h => by
    simp only [ovw,List.set_cons_succ]
    rw [aK9 cs o v vs (by simpa using h)]
theorem aFJ:∀(cs:List SV) (o:Nat),ovw cs o []=cs
  | [],o=>by simp [ovw]
  | c :: cs,0=>by simp [ovw]
  | c :: cs,o+1=>by simp [ovw,aFJ cs o]
theorem aFK:∀(vs cs:List SV) (o:Nat),o+vs.length≤cs.length→ovw cs o vs=aS5 cs o vs
  | [],cs,o,_=>by rw [aFJ];rfl
  | v :: vs, cs, o, h => by
    simp at h
    rw [aK9 cs o v vs (by omega),aFK vs _ _ (by simp;omega)];rfl
theorem KJ{α:Type}:∀{l r:List α},frc l=some r→r=l
  | [],r,h=>by cases h;rfl
  | x :: l, r, h => by
    simp only [frc] at h
    split at h
    · rename_i s hs;cases h;rw [KJ hs]
    · cases h
theorem aPL(hT:GM P T){t:TypeId}{a r:SV}{va:Value}(hS:mP c w B L)(ho:o.op=.load t x)(hx:ev E x=some va)(ha:gC B a=some va)(h:aHA T t a L=some r):∃v,gC B r=some v∧dZ P o E w v w:=by
  unfold aHA at h
  split at h
  · rename_i n0 o0
    split at h
    · rename_i cs _ m _ hb hl
      split at h
      · rename_i hle
        split at h
        case h_2=>cases h
        rename_i ds hds
        cases h
        have:=KJ hds
        subst this
        obtain⟨b,z,vs,h1,h2,h3⟩:=hS.cells hb
        have hlen:=lJ h2
        have hle:=Nat.le_of_ble_eq_true hle
        simp only [gC,gV,bQ,h1] at ha
        cases ha
        have h4:=LO m (LN o0 h2)
        refine⟨_,by simp only [gC,gV,h4],O7 (cs:=(vs.drop o0).take m) ho hx (hT.agg _ _ hl) (hT.size _ _ hl) (by simp;omega) (TZ h3 (by omega))⟩
      · cases h
    · rename_i cs _ _ _ hb hl
      obtain⟨b,z,vs,h1,h2,h3⟩:=hS.cells hb
      simp only [gC,gV,bQ,h1] at ha
      cases ha
      obtain⟨v,h4,h5⟩:=LM h2 h
      exact⟨v,aK5 h4,i7 ho hx (hT.agg _ _ hl) (h3 o0 v h5)⟩
    · cases h
  · cases h
theorem LP{a:SV}{v:Value}{vs:List Value}(ha:gC B a=some v)(h:aY (bQ B) (o9 a)=some vs):v.cells.toList=vs:=by
  cases a
  case g cs=>
    simp only [o9] at h
    simp only [gC,gV,h] at ha
    cases ha;rfl
  all_goals
    simp only [o9,aY] at h
    split at h
    · cases h
    · rename_i u hu
      cases h
      have h2:=aK5 hu
      rw [ha] at h2;cases h2
      have:=aHD hu
      cases v <;> first | rfl | cases this
end
theorem aX5{B:Bl}{a:SV}{v:Value}(h:bQ B a=some v)(hc:o9 a=[a]):∃vs,aY (bQ B) (o9 a)=some vs:=⟨[v],by rw [hc];simp only [aY,h]⟩
theorem S2{B:Bl}{a:SV}{v:Value}(h:isCells a=true)(ha:gC B a=some v):∃vs,aY (bQ B) (o9 a)=some vs:=by
  cases a
  case g cs=>
    simp only [gC,gV] at ha
    split at ha
    · rename_i vs hv;exact⟨vs,hv⟩
    · cases ha
  case t=>cases h
  case f=>cases h
  case u=>cases h
  all_goals exact aX5 ha rfl
theorem aUX(off:Nat):∀(vs:List Value) (k:Nat) (cells:Array Value),((vs.zipIdx k).foldl (fun cs (q:Value×Nat)=>cs.setIfInBounds (off+q.2) q.1) cells).toList=RR cells.toList (off+k) vs
  | [],k,cells=>rfl
  | v :: vs, k, cells => by
    simp only [List.zipIdx_cons,List.foldl_cons,RR]
    rw [aUX off vs (k+1)]
    simp [Nat.add_assoc]
theorem aEL{n:Nat}{B:Bl}{e:SE}{a:Act}(hA:gI n B e a){fs:List (Nat×Nat)}:∀(ps:List (Nat×Operand)) {cs r:List SV} {cells:Array Value},aY (bQ B) cs=some cells.toList→aFE e fs ps cs=some r →
    ∃vs rs,Z2 (vE B e) (ps.map (·.2))=some vs∧aY (bQ B) r=some rs∧Instr.fill (fs.toArray[·]?) cells ((ps.map (·.1)).zip vs)=some rs.toArray
  | [], cs, r, cells, hc, h => by
    cases h
    exact⟨[],cells.toList,rfl,hc,by simp [Instr.fill]⟩
  | (ix, o) :: ps, cs, r, cells, hc, h => by
    simp only [aFE] at h
    split at h
    · rename_i f m v h1 h2
      split at h
      · rename_i h3 h4 h5
        split at h
        case h_2=>cases h
        rename_i ds hds
        have h4:=Nat.eq_of_beq_eq_true h4
        have h5:=Nat.le_of_ble_eq_true h5
        have:=KJ hds
        rw [aFK _ _ _ (by omega)] at this
        subst this
        obtain⟨u,h6,h7⟩:=eR hA h2
        obtain⟨ws,h8⟩:=S2 h3 h6
        have h9:=LP h6 h8
        have hl:=lJ h8
        have hl2:=lJ hc
        have hu:u.cells.size=m:=by rw [←Array.length_toList,h9,hl,h4]
        have hcs:cells.size=cs.length:=by rw [←hl2];simp
        have h10:aY (bQ B) (aS5 cs f (o9 v))=some ((u.cells.zipIdx.foldl (fun cs (q:Value×Nat)=>cs.setIfInBounds (f+q.2) q.1) cells).toList):=by
          have:=aUX f u.cells.toList 0 cells
          rw [←Array.toList_zipIdx,Array.foldl_toList] at this
          rw [this,h9]
          exact TX f hc h8
        obtain⟨vs,rs,g1,g2,g3⟩:=aEL hA ps h10 h
        refine⟨u :: vs,rs,by simp only [List.map_cons,Z2,h7,g1],g2,?_⟩
        have hp:fs.toArray[ix]?=some (f,m):=by simpa using h1
        simp only [List.map_cons,List.zip_cons_cons,Instr.fill,hp]
        rw [if_neg (by rw [hu,hcs];simp;omega)]
        exact g3
      · cases h
    · cases h
noncomputable section
variable {P:Program} {T:TT} {n:Nat} {B:Bl} {e:SE} {a:Act} {o:Oper} {w w':World} {x y:Operand} {c:Ctx} {L:List Ch}
theorem aMT(hT:GM P T)(hA:gI n B e a){t:TypeId}{ps:Array (Nat×Operand)}{r:SV}(ho:o.op=.build t ps)(h:aJI T e t ps.toList=some r):∃v,gC B r=some v∧dZ P o (vE B e) w v w:=by
  unfold aJI at h
  split at h
  · rename_i fs _ z h1
    split at h
    · rename_i cs h2
      cases h
      obtain⟨d,hd,Fs,rfl,_,_,hp⟩:=hT.und _ _ h1
      obtain⟨zv,hz,hzc⟩:=hT.zero _ _ h1
      have hzc':aY (bQ B) z=some zv.cells.toList:=by
        have:=fL (g:=bQ B) (fun x v h=>by simpa using gR (B:=[]) B h) hzc
        exact this
      obtain⟨vs,rs,g1,g2,g3⟩:=aEL hA ps.toList hzc' h2
      exact⟨_,by simp only [gC,gV,g2],aOG (ps:=ps.toList) (by simpa using ho) hz hd hp g1 g3⟩
    · cases h
  · cases h
theorem aFL(hT:GM P T)(hA:gI n B e a)(hS:mP c w B L){r:SV}(h:ev1 T e L o.op=some r):∃v,gC B r=some v∧dZ P o (vE B e) w v w:=by
  generalize ho:o.op=op at h
  unfold ev1 at h
  split at h
  · obtain⟨v,h1,h2⟩:=eR hA h;exact⟨v,h1,nG ho h2⟩
  · obtain⟨v,h1,h2⟩:=eR hA h;exact⟨v,h1,DK ho h2⟩
  · split at h
    · rename_i heq
      cases h;obtain⟨v,h1,h2⟩:=eR hA heq
      refine⟨v,h1,?_⟩
      simp only [gC,gV,bQ] at h1
      split at h1
      · cases h1;exact aN5 ho h2
      · cases h1
    · rename_i heq
      cases h;obtain⟨v,h1,h2⟩:=eR hA heq
      refine⟨v,h1,?_⟩
      cases h1;exact aN5 ho h2
    · rename_i heq
      cases h;obtain⟨v,h1,h2⟩:=eR hA heq
      refine⟨v,h1,?_⟩
      simp only [gC] at h1
      split at h1
      · cases h1;exact aKU ho (fun _ h=>by cases h) h2
      · cases h1
    · rename_i heq
      cases h;obtain⟨v,h1,h2⟩:=eR hA heq
      refine⟨v,h1,?_⟩
      simp only [gC,gV,bQ] at h1
      split at h1
      · cases h1;exact aKU ho (fun _ h=>by cases h) h2
      · cases h1
    · cases h
  · split at h
    · rename_i heq
      obtain⟨v,h1,h2⟩:=eR hA heq
      cases h1
      obtain⟨u,h3,h4⟩:=eR hA h
      exact⟨u,h3,vG ho h2 rfl h4⟩
    · rename_i heq
      obtain⟨v,h1,h2⟩:=eR hA heq
      cases h1
      obtain⟨u,h3,h4⟩:=eR hA h
      exact⟨u,h3,AL ho h2 rfl h4⟩
    · cases h
  · split at h
    · rename_i heq
      cases h;obtain⟨v,h1,h2⟩:=eR hA heq
      cases h1;exact⟨_,rfl,Z0 ho h2⟩
    · rename_i heq
      cases h;obtain⟨v,h1,h2⟩:=eR hA heq
      cases h1;exact⟨_,rfl,Z0 ho h2⟩
    · cases h
  · split at h
    · rename_i heq
      cases h;obtain⟨v,h1,h2⟩:=eR hA heq
      cases h1;exact⟨_,rfl,aVP ho h2⟩
    · cases h
  · split at h
    · rename_i h1 h2
      obtain⟨v,g1,g2⟩:=eR hA h1
      obtain⟨u,g3,g4⟩:=eR hA h2
      exact aWF hT ho g2 g4 g1 g3 h2 h
    · cases h
  · split at h
    · rename_i h1
      obtain⟨v,g1,g2⟩:=eR hA h1
      exact aS9 hT ho g2 g1 h
    · cases h
  · split at h
    · rename_i h1
      obtain⟨v,g1,g2⟩:=eR hA h1
      simp only [gC] at g1
      split at g1
      · rename_i xs _ vs h3
        cases g1
        obtain⟨u,h4,h5⟩:=LM h3 h
        exact⟨u,aX4 h4,aI9 ho g2 (by simpa using h5)⟩
      · cases g1
    · cases h
  · split at h
    · rename_i h1
      obtain⟨v,g1,g2⟩:=eR hA h1
      exact aPI hT ho g2 g1 h
    · cases h
  · split at h
    · rename_i h1
      obtain⟨v,g1,g2⟩:=eR hA h1
      exact aPL hT hS ho g2 g1 h
    · cases h
  · exact aMT hT hA ho h
  · split at h
    · rename_i h1 h2
      obtain⟨v,g1,g2⟩:=eR hA h1
      obtain⟨d,hd,hd2⟩:=hT.und _ _ h2
      unfold aX3 at h
      split at h
      · split at h
        · cases h;cases g1;simp only at hd2;subst hd2
          exact⟨_,rfl,aN8 hd ho g2⟩
        · cases h
      · split at h
        · cases h;cases g1;simp only at hd2;subst hd2
          exact⟨_,rfl,aSL hd ho g2⟩
        · cases h
      · cases h
    · cases h
  · cases h
end
def p8(n:Nat)(c:Ctx)(B0:Bl)(m:Nat)(e:SE)(L:List Ch)(a:Act)(w:World):Prop:=∃B,(B0++B).length=m∧gI n (B0++B) e a∧mP c w (B0++B) L
end Go.Gv
end
noncomputable section
namespace Go.Gv
noncomputable section
variable {m:Nat} {e:SE} {L:List Ch}
theorem aAE{B:Bl}{m:Nat}{x:SV}{v:Value}(hv:bQ B x=some v)(h:∀n o,x=.p n o→n < m):bQ (B.take m) x=some v:=by
  cases x <;> simp only [bQ] at hv ⊢ <;> try exact hv
  rename_i n o
  rw [List.getElem?_take,if_pos (h n o rfl)];exact hv
theorem GR{B:Bl}{m:Nat}:∀{cs:List SV} {vs:List Value},GL.okC m cs=true→aY (bQ B) cs=some vs→aY (bQ (B.take m)) cs=some vs
  | [],vs,_,h=>h
  | x :: cs, vs, ho, h => by
    simp only [aY] at h
    split at h
    · cases h
    · rename_i h1
      split at h
      · cases h
      · rename_i h2
        cases h
        have hx:(∀n o,x=.p n o→n < m)∧GL.okC m cs=true:=by
          simp only [GL.okC] at ho
          cases x <;> try exact⟨fun _ _ h=>(by cases h),ho⟩
          · rename_i n o
            simp only at ho
            split at ho
            · rename_i hb
              exact⟨fun n' o' he=>by cases he;simpa [Nat.blt_eq] using hb,ho⟩
            · cases ho
          · cases ho
        simp [aY,aAE h1 hx.1,GR hx.2 h2]
theorem aLA{B:Bl}{m:Nat}:∀{cs:List SV} {vs:List Value},GL.okT m cs=true→aY (gV B) cs=some vs→aY (gV (B.take m)) cs=some vs
  | [],vs,_,h=>h
  | x :: cs, vs, ho, h => by
    simp only [aY] at h
    split at h
    · cases h
    · rename_i y0 h1
      split at h
      · cases h
      · rename_i h2
        cases h
        have hx:gV (B.take m) x=some y0∧GL.okT m cs=true:=by
          simp only [GL.okT] at ho
          cases x <;> try exact⟨h1,ho⟩
          · rename_i n o
            simp only at ho
            split at ho
            · rename_i hb
              refine⟨aAE (x:=.p n o) h1 (fun n' o' he=>by cases he;simpa [Nat.blt_eq] using hb),ho⟩
            · cases ho
          · rename_i ds
            simp only at ho
            split at ho
            · rename_i hb
              refine⟨?_,ho⟩
              simp only [gV] at h1 ⊢
              split at h1
              · rename_i h3;rw [GR hb h3];exact h1
              · cases h1
            · cases ho
        simp [aY,hx.1,aLA hx.2 h2]
theorem aLB{B:Bl}{m:Nat}:∀{cs:List Nat} {vs:List Value},GL.okF m cs=true→aY (VO B) cs=some vs→aY (VO (B.take m)) cs=some vs
  | [],vs,_,h=>h
  | x :: cs, vs, ho, h => by
    simp only [aY] at h
    split at h
    · cases h
    · rename_i y0 h1
      split at h
      · cases h
      · rename_i h2
        cases h
        simp only [GL.okF] at ho
        split at ho
        · rename_i hb
          have hx:VO (B.take m) x=some y0:=by
            unfold VO at h1 ⊢
            rw [List.getElem?_take,if_pos (by simpa [Nat.blt_eq] using hb)];exact h1
          simp [aY,hx,aLB ho h2]
        · cases ho
theorem MS{B:Bl}{m:Nat}{x:SV}{v:Value}(h:GL m x=true)(hv:gC B x=some v):gC (B.take m) x=some v:=by
  cases x
  case p n o=>exact aAE (x:=.p n o) hv (fun n' o' he=>by cases he;simpa [GL,Nat.blt_eq] using h)
  case g cs=>
    simp only [gC,gV] at hv ⊢
    split at hv
    · rename_i h1;rw [GR h h1];exact hv
    · cases hv
  case t cs=>
    simp only [gC] at hv ⊢
    split at hv
    · rename_i h1;rw [aLA h h1];exact hv
    · cases hv
  case f f cs=>
    simp only [gC] at hv ⊢
    split at hv
    · rename_i h1;rw [aLB h h1];exact hv
    · cases hv
  all_goals exact hv
theorem aPM{B:Bl}{z x:SV}:bQ B (re1 z x)=bQ B x:=by
  cases z <;> cases x <;> rfl
theorem aTB{B:Bl}{z x:SV}:gC B (re1 z x)=gC B x:=by
  cases z <;> cases x <;> rfl
theorem aLC{B:Bl}:∀{cs ds:List SV},aY (bQ B) (reC cs ds)=aY (bQ B) ds
  | [],[]=>rfl
  | [],_ :: _=>rfl
  | _ :: _,[]=>rfl
  | c :: cs,d :: ds=>by simp only [reC,aY,aPM,aLC]
theorem aPN{B:Bl}{x:SV}:bQ B (nb1 x)=bQ B x:=by cases x <;> rfl
theorem MT{B:Bl}:∀{cs:List SV},aY (bQ B) (nbL cs)=aY (bQ B) cs
  | []=>rfl
  | c :: cs=>by simp only [nbL,aY,aPN,MT]
theorem aWG{B:Bl}{x:SV}:gV B (nbG x)=gV B x:=by
  cases x <;> try rfl
  simp only [nbG,gV,MT]
theorem aLD{B:Bl}:∀{cs:List SV},aY (gV B) (nbT cs)=aY (gV B) cs
  | []=>rfl
  | c :: cs=>by simp only [nbT,aY,aWG,aLD]
theorem aFM{B:Bl}{x:SV}:gC B (nbG x)=gC B x:=by
  cases x <;> try rfl
  simp only [nbG,gC,gV,MT]
theorem ZJ{B:Bl}{x:SV}:gC B (nbS x)=gC B x:=by
  cases x with
  | g cs=>exact aFM (x:=.g cs)
  | t xs=>simp only [nbS,gC,aLD]
  | _=>rfl
theorem aLE{B:Bl}:∀{cs:List SV},aY (gC B) (nbT cs)=aY (gC B) cs
  | []=>rfl
  | c :: cs=>by simp only [nbT,aY,aFM,aLE]
theorem RE{B:Bl}:∀{cs:List SV},aY (gC B) (nbA cs)=aY (gC B) cs
  | []=>rfl
  | c :: cs => by
    simp only [nbA]
    split
    · simp only [aY,RE];rfl
    · simp only [aY,aFM,RE]
theorem aPO{e:SE}:∀{e' s:SE} {k:Nat} {x:SV},reE e e'=some s→DF s k=some x→∃y,DF e k=some y∧∀B,gC B x=gC B y
  | [],s,k,x,h,hk=>by cases h;cases hk
  | (j, y) :: r, s, k, x, h, hk => by
    simp only [reE] at h
    split at h
    · rename_i z hz
      split at h
      · rename_i s' hs
        cases h
        simp only [DF] at hk
        cases hb:Nat.beq k j with
        | true=>rw [hb] at hk;cases hk;rw [Nat.eq_of_beq_eq_true hb];exact⟨z,hz,fun B=>aTB⟩
        | false=>rw [hb] at hk;exact aPO hs hk
      · cases h
    · cases h
theorem aFN{B:Bl}{w:World}{R:List Fact}:∀(M L:List Ch),jM w (L.map (j5 B)) ((reL M L).map (j5 B))∧((∀x∈L,roF B R x)→∀x∈reL M L,roF B R x)
  | [],L=>by simp only [reL];exact⟨jM.refl _,fun h=>h⟩
  | x :: M,[]=>by cases x <;> exact⟨.nil,fun h=>h⟩
  | x :: M, y :: L => by
    obtain⟨h1,h2⟩:=aFN (B:=B) (w:=w) (R:=R) M L
    have gen:reL (x :: M) (y :: L)=y :: reL M L→jM w ((y :: L).map (j5 B)) ((reL (x :: M) (y :: L)).map (j5 B))∧((∀x∈y :: L,roF B R x)→∀z∈reL (x :: M) (y :: L),roF B R z):=fun he=>by
      rw [he]
      refine⟨.cons (fun _ h=>h) h1,fun h z hz=>?_⟩
      rcases List.mem_cons.1 hz with hz | hz
      · subst hz;exact h _ (by simp)
      · exact h2 (fun x hx=>h x (List.mem_cons_of_mem _ hx)) z hz
    cases x with
    | box n cs =>
      cases y with
      | box k ds =>
        simp only [reL]
        refine⟨.cons (fun F ⟨b,z,vs,k1,k2,k3⟩=>⟨b,z,vs,k1,by rw [aLC];exact k2,k3⟩) h1,fun h z hz=>?_⟩
        rcases List.mem_cons.1 hz with hz | hz
        · subst hz;trivial
        · exact h2 (fun x hx=>h x (List.mem_cons_of_mem _ hx)) z hz
      | _=>exact gen rfl
    | _=>exact gen (by cases y <;> rfl)
theorem aPP{m:Nat}:∀{s:SE} {k:Nat} {x:SV},okE m s=true→DF s k=some x→GL m x=true
  | [],k,x,h,hk=>by cases hk
  | (j, y) :: r, k, x, h, hk => by
    simp only [okE] at h
    split at h
    · rename_i ho
      simp only [DF] at hk
      cases hb:Nat.beq k j with
      | true=>rw [hb] at hk;cases hk;exact ho
      | false=>rw [hb] at hk;exact aPP h hk
    · cases h
theorem aFO{m:Nat}:∀{L:List Ch} {x:Ch},okL m L=true→x∈L→(∀n cs,x=.box n cs∨x=.ro n cs→n < m∧GL.okC m cs=true)
  | y :: L, x, h, hx, n, cs, he => by
    have key:(∀n cs,y=.box n cs∨y=.ro n cs→n < m∧GL.okC m cs=true)∧okL m L=true:=by
      cases y with
      | box k c =>
        simp only [okL] at h
        split at h
        · rename_i h1 h2
          refine⟨fun n cs he=>?_,h⟩
          rcases he with he | he <;> cases he
          exact⟨by simpa [Nat.blt_eq] using h1,h2⟩
        · cases h
      | ro k c =>
        simp only [okL] at h
        split at h
        · rename_i h1 h2
          refine⟨fun n cs he=>?_,h⟩
          rcases he with he | he <;> cases he
          exact⟨by simpa [Nat.blt_eq] using h1,h2⟩
        · cases h
      | o c=>exact⟨fun n cs he=>(by rcases he with he | he <;> cases he),h⟩
      | f c=>exact⟨fun n cs he=>(by rcases he with he | he <;> cases he),h⟩
      | no=>exact⟨fun n cs he=>(by rcases he with he | he <;> cases he),h⟩
      | w k b z =>
        simp only [okL] at h
        split at h
        · exact⟨fun n cs he=>(by rcases he with he | he <;> cases he),h⟩
        · cases h
    rcases List.mem_cons.1 hx with hx | hx
    · subst hx;exact key.1 n cs he
    · exact aFO key.2 hx n cs he
theorem aUY{m n b z:Nat}:∀{L:List Ch},okL m L=true→Ch.w n b z∈L→n < m
  | y :: L, h, hx => by
    have key:(y=.w n b z→n < m)∧okL m L=true:=by
      cases y with
      | box k c =>
        simp only [okL] at h
        split at h
        · exact⟨fun he=>(by cases he),h⟩
        · cases h
      | ro k c =>
        simp only [okL] at h
        split at h
        · exact⟨fun he=>(by cases he),h⟩
        · cases h
      | w k b z =>
        simp only [okL] at h
        split at h
        · rename_i h1
          exact⟨fun he=>(by cases he;simpa [Nat.blt_eq] using h1),h⟩
        · cases h
      | o c=>exact⟨fun he=>(by cases he),h⟩
      | f c=>exact⟨fun he=>(by cases he),h⟩
      | no=>exact⟨fun he=>(by cases he),h⟩
    rcases List.mem_cons.1 hx with hx | hx
    · exact key.1 hx.symm
    · exact aUY key.2 hx
theorem aFP{L:List Ch}:∀{is:List Nat} {x:Ch},x∈kl L is→x∈L
  | i :: is, x, h => by
    simp only [kl] at h
    split at h
    · rename_i y hy
      rcases List.mem_cons.1 h with h | h
      · subst h;exact List.mem_of_getElem? hy
      · exact aFP h
    · exact aFP h
theorem aLF{B:Bl}{w:World}{L:List Ch}:∀(is:List Nat),∃is',(∀j∈is',j∈is)∧(dP is=true→dP is'=true)∧jM w (pick (L.map (j5 B)) is') ((kl L is).map (j5 B))
  | []=>⟨[],by simp,fun h=>h,.nil⟩
  | i :: is => by
    obtain⟨is',h1,h2,h3⟩:=aLF (B:=B) (w:=w) (L:=L) is
    cases hi:L[i]? with
    | none =>
      refine⟨is',fun j hj=>List.mem_cons_of_mem _ (h1 j hj),fun h=>h2 ?_,?_⟩
      · simp only [dP,Bool.and_eq_true] at h;exact h.2
      · simp only [kl,hi];exact h3
    | some x =>
      refine⟨i :: is',fun j hj=>?_,fun h=>?_,?_⟩
      · rcases List.mem_cons.1 hj with h | h
        · subst h;simp
        · exact List.mem_cons_of_mem _ (h1 j h)
      · simp only [dP,Bool.and_eq_true] at h ⊢
        refine⟨?_,h2 h.2⟩
        rw [List.all_eq_true] at h ⊢
        exact fun j hj=>h.1 j (h1 j hj)
      · simp only [kl,hi,pick,List.getElem?_map,Option.map_some,Option.getD_some,List.map_cons]
        exact .cons (fun _ h=>h) h3
theorem aPQ{c:Ctx}{w:World}{B:Bl}(h:mP c w B L)(is:List Nat)(ha:dP is=true):mP c w B (kl L is):=by
  obtain⟨⟨R,s1,s2⟩,s0⟩:=h
  obtain⟨is',_,h2,h3⟩:=aLF (B:=B) (w:=w) (L:=L) is
  exact⟨⟨R,(s1.MP is' (h2 ha)).imp h3,fun x hx=>s2 x (aFP hx)⟩,s0⟩
theorem aFQ{c:Ctx}{w:World}{B:Bl}{m:Nat}{L:List Ch}(h:mP c w B L)(ho:okL m L=true):mP c w (B.take m) L:=by
  obtain⟨⟨R,s1,s2⟩,s0⟩:=h
  have key:∀x∈L,∀F,(j5 B x).P w F→(j5 (B.take m) x).P w F:=by
    intro x hx F hF
    cases x with
    | box n cs =>
      obtain⟨h1,h2⟩:=aFO ho hx n cs (.inl rfl)
      obtain⟨b,z,vs,k1,k2,k3⟩:=hF
      exact⟨b,z,vs,by rw [List.getElem?_take,if_pos h1];exact k1,GR h2 k2,k3⟩
    | _=>exact hF
  have imp:∀(M:List Ch),(∀x∈M,x∈L)→jM w (M.map (j5 B)) (M.map (j5 (B.take m))):=by
    intro M
    induction M with
    | nil=>exact fun _=>.nil
    | cons x M ih=>exact fun hM=>.cons (key x (hM x (by simp))) (ih fun y hy=>hM y (List.mem_cons_of_mem _ hy))
  refine⟨⟨R,s1.imp (imp L fun _ h=>h),fun x hx=>?_⟩,s0⟩
  have:=s2 x hx
  cases x with
  | ro n cs =>
    obtain⟨h1,h2⟩:=aFO ho hx n cs (.inr rfl)
    obtain⟨b,z,vs,k1,k2,k3⟩:=this
    exact⟨b,z,vs,by rw [List.getElem?_take,if_pos h1];exact k1,GR h2 k2,k3⟩
  | w n b z =>
    have h1:=aUY ho hx
    exact(by rw [List.getElem?_take,if_pos h1];exact this:(List.take m B)[n]?=some (b,z))
  | _=>exact this
theorem aWH{c:Ctx}{w:World}{B:Bl}{L:List Ch}(h:mP c w B L)(M:List Ch):mP c w B (reL M L):=by
  obtain⟨⟨R,s1,s2⟩,s0⟩:=h
  exact⟨⟨R,s1.imp (aFN (R:=R) M L).1,(aFN (w:=w) M L).2 s2⟩,s0⟩
theorem Rel.as{n:Nat}{c:Ctx}{B0:Bl}{m':Nat}{e':SE}{L':List Ch}{a:Act}{w:World}(hr:p8 n c B0 m e L a w)(is:List Nat)(ha:dP is=true){f:SE}{M:List Ch}(h:asS e L is m' f M=some (e',L'))(hm:m'≤m)(h0:B0.length≤m'):p8 n c B0 m' e' L' a w:=by
  unfold asS at h
  split at h
  · rename_i s hs
    split at h
    · rename_i h1 h2
      cases h
      obtain⟨B,hl,hA,hS⟩:=hr
      have hB:(B0++B).take m'=B0++B.take (m' - B0.length):=by
        rw [List.take_append,List.take_of_length_le h0]
      refine⟨B.take (m' - B0.length),by rw [←hB];simp only [List.length_take,hl];omega,?_,?_⟩
      · rw [←hB]
        exact⟨hA.d,hA.size,fun k x hk=>by
          obtain⟨y,q1,q2⟩:=aPO hs hk
          obtain⟨v,k1,k2⟩:=hA.get k y q1
          exact⟨v,MS (aPP h1 hk) (by rw [q2];exact k1),k2⟩⟩
      · rw [←hB]
        exact aFQ (aWH (aPQ hS is ha) _) h2
    · cases h
  · cases h
theorem p8.RC{n:Nat}{c:Ctx}{B0:Bl}{m':Nat}{e':SE}{L':List Ch}{a:Act}{w:World}(hr:p8 n c B0 m e L a w)(is:List Nat){f:SE}{M:List Ch}(h:RC B0.length m e L is m' f M=some (e',L')):p8 n c B0 m' e' L' a w:=by
  unfold Go.Gv.RC at h
  split at h
  · rename_i h1 h2 h3
    exact Rel.as hr is h3 h (Nat.le_of_ble_eq_true h2) (Nat.le_of_ble_eq_true h1)
  · cases h
end
end Go.Gv
end
noncomputable section
namespace Go.Gv
noncomputable section
variable {P:Program} {T:TT} {n:Nat} {B:Bl} {e:SE} {a:Act} {o:Oper} {w w':World} {x y:Operand} {c:Ctx} {L:List Ch}
theorem S3{ops:Array Oper}(h:zW ops e o.guard=.yes):Want ops o (vE B e) true:=by
  unfold zW at h
  split at h
  · exact bW (by assumption)
  · rename_i j w hg
    split at h
    · rename_i q hq
      split at h
      · rename_i s hs
        have hj:(ops[j]?).bind (·.dst)=some s:=by rw [←Array.getElem?_toList,hq];exact hs
        split at h
        · rename_i c hl
          have hv:lk (vE B e) s=some (.bool c):=by rw [aAD hl];rfl
          refine cA hg hj hv ?_
          split at h <;> first | rfl | cases h
        all_goals cases h
      · cases h
    · cases h
theorem aUZ{ops:Array Oper}(h:zW ops e o.guard=.no):Want ops o (vE B e) false:=by
  unfold zW at h
  split at h
  · cases h
  · rename_i j w hg
    split at h
    · rename_i q hq
      split at h
      · rename_i s hs
        have hj:(ops[j]?).bind (·.dst)=some s:=by rw [←Array.getElem?_toList,hq];exact hs
        split at h
        · rename_i c hl
          have hv:lk (vE B e) s=some (.bool c):=by rw [aAD hl];rfl
          refine cA hg hj hv ?_
          cases c <;> cases w <;> first | rfl | cases h
        · rename_i hl
          exact aSO hg hj (by rw [aAD hl];rfl)
        all_goals cases h
      · cases h
    · cases h
theorem aHG{m:Nat}:∀{L:List Ch},N0 m L=true→∃i cs,L[i]?=some (.box m cs)∧GK m L=some cs∧∀cs',wQ m cs' L=L.set i (.box m cs')
  | [],h=>by cases h
  | x :: L, h => by
    have ih:N0 m L=true→GK m (x :: L)=GK m L→(∀cs',wQ m cs' (x :: L)=x :: wQ m cs' L)→∃i cs,(x :: L)[i]?=some (.box m cs)∧GK m (x :: L)=some cs∧∀cs',wQ m cs' (x :: L)=(x :: L).set i (.box m cs'):=fun h h2 h3=>by
      obtain⟨i,cs,g1,g2,g3⟩:=aHG h
      exact⟨i+1,cs,by simpa using g1,by rw [h2,g2],fun cs'=>by rw [h3,g3];rfl⟩
    cases x with
    | box k cs =>
      simp only [N0] at h
      split at h
      · rename_i hb
        have:=Nat.eq_of_beq_eq_true hb
        subst this
        exact⟨0,cs,rfl,by simp only [GK,hb],fun cs'=>by simp only [wQ,hb];rfl⟩
      · rename_i hb
        exact ih h (by simp only [GK,hb]) (fun cs'=>by simp only [wQ,hb])
    | ro k cs =>
      simp only [N0] at h
      split at h
      · cases h
      · rename_i hb
        exact ih h (by simp only [GK,hb]) (fun cs'=>by simp only [wQ])
    | o ch=>exact ih h rfl (fun _=>rfl)
    | f g=>exact ih h rfl (fun _=>rfl)
    | no=>exact ih h rfl (fun _=>rfl)
    | w k b z=>exact ih h rfl (fun _=>rfl)
theorem aMU(hT:GM P T)(hA:gI n B e a)(hS:mP c w B L){t:TypeId}{p v:SV}{L':List Ch}(ho:o.op=.store t x y)(hx:iX e x=some p)(hy:iX e y=some v)(h:SZ T t p v L=some L'):∃w',aN3 P o (vE B e) w w'∧mP c w' B L':=by
  unfold SZ at h
  split at h
  · rename_i m j
    split at h
    · rename_i hb
      split at h
      · rename_i cs _ _ sz _ h1 h2
        split at h
        · rename_i h3 h4 h5
          split at h
          case h_2=>cases h
          rename_i ds hds
          have h4:=Nat.eq_of_beq_eq_true h4
          have h5:=Nat.le_of_ble_eq_true h5
          have:=KJ hds
          rw [aFK _ _ _ (by omega)] at this
          subst this
          split at h
          case h_2=>cases h
          rename_i L2 hL2
          cases h
          have:=KJ hL2
          subst this
          obtain⟨i,cs',g1,g2,g3⟩:=aHG hb
          rw [h1] at g2;cases g2
          obtain⟨pv,hp1,hp2⟩:=eR hA hx
          obtain⟨u,hu1,hu2⟩:=eR hA hy
          obtain⟨vs,hv⟩:=S2 h3 hu1
          obtain⟨b,z,rs,k1,k2,_⟩:=hS.cells h1
          simp only [gC,gV,bQ,k1] at hp1
          cases hp1
          have hl:=lJ hv
          have hl2:=lJ k2
          obtain⟨⟨R,s1,s2⟩,s0⟩:=hS
          have hlt:=(List.getElem?_eq_some_iff.1 g1).1
          have gi:(L.map (j5 B))[i]?=some (OY B m cs):=by rw [List.getElem?_map,g1];rfl
          have s3:St c w ((L.map (j5 B)).set i (Q8 b z rs)) R:=s1.imp (jM.put i gi fun F ⟨b',z',vs',q1,q2,q3⟩=>by
            rw [k1] at q1;cases q1;rw [k2] at q2;cases q2;exact q3)
          obtain⟨w2,r1,r2⟩:=aXZ (P:=P) (o:=o) (e:=vE B e) (b:=b) (q:=z) (cs:=rs) (vs:=vs) (j:=j) (m:=sz) s3 (i:=i) (by rw [List.getElem?_set_self (by simpa using hlt)]) ho hp2 hu2 (LP hu1 hv) (hT.size _ _ h2) (by omega) (Nat.ble_eq_true_of_le (by omega)) (List.all_eq_true.2 fun q hq=>by
            obtain⟨k,hk⟩:=List.getElem?_of_mem hq
            have hk2:k < (o9 v).length:=by rw [←hl];exact(List.getElem?_eq_some_iff.1 hk).1
            obtain⟨q',hq1,hq2⟩:=LM hv (List.getElem?_eq_getElem hk2)
            rw [hk] at hq2;cases hq2
            exact aHD hq1)
          refine⟨w2,r1,⟨⟨R,?_,?_⟩,s0⟩⟩
          · rw [List.set_set] at r2
            rw [g3,List.map_set]
            exact r2.imp (jM.set i (jM.refl _) fun F hF=>⟨b,z,_,k1,TX j k2 hv,hF⟩)
          · rw [g3]
            intro q hq
            rcases List.mem_or_eq_of_mem_set hq with hq | hq
            · exact s2 q hq
            · subst hq;trivial
        · cases h
      · cases h
    · cases h
  · cases h
theorem mP.box(hS:mP c w B L){w':World}{b:Nat}{cs:List SV}{vs:List Value}(hc:aY (bQ B) cs=some vs)(h:∀M R,St c w M R→St c w' (M ++ [DC b vs]) R):mP c w' (B ++ [(b,0)]) (L ++ [.box B.length cs]):=by
  obtain⟨⟨R,s1,s2⟩,s0⟩:=hS
  refine⟨⟨R,?_,?_⟩,s0⟩
  · rw [List.map_append]
    refine(h _ _ s1).imp (jM.append (RD _ L) (.cons (fun F hF=>⟨b,0,vs,by simp,fL (fun _ _=>gR _) hc,hF⟩) .nil))
  · intro q hq
    rcases List.mem_append.1 hq with hq | hq
    · exact aFI _ (s2 q hq)
    · simp at hq;subst hq;trivial
theorem aPR(hT:GM P T)(hS:mP c w B L){t:TypeId}{i:TI}{E:Env}(ho:o.op=.alloc t)(h:A1 T t=some i):∃v w' b,dZ P o E w v w'∧v=.pointer (some ⟨b,0,none⟩)∧mP c w' (B ++ [(b,0)]) (L ++ [.box B.length i.z]):=by
  obtain⟨z,hz,hzc⟩:=hT.zero _ _ h
  have hzc':aY (bQ B) i.z=some z.cells.toList:=fL (fun x v h=>by simpa using gR (B:=[]) B h) hzc
  refine⟨_,_,w.heap.size,fun _ a hA=>?_,rfl,hS.box hzc' fun M R hM=>hM.alloc z.cells.toList t⟩
  simp [execOp,ho,Instr.alloc,hz,newVar,newRow]
theorem aWI(hA:gI n B e a)(hS:mP c w B L){t:TypeId}{v:SV}(ho:o.op=.box t x)(h:iX e x=some v)(hc:isCells v=true):∃u w' b,dZ P o (vE B e) w u w'∧u=.pointer (some ⟨b,0,none⟩)∧mP c w' (B ++ [(b,0)]) (L ++ [.box B.length (o9 v)]):=by
  obtain⟨u,h1,h2⟩:=eR hA h
  obtain⟨vs,h3⟩:=S2 hc h1
  have h4:=LP h1 h3
  subst h4
  refine⟨_,_,w.heap.size,fun _ a hA=>?_,rfl,hS.box h3 fun M R hM=>hM.alloc u.cells.toList t⟩
  simp [execOp,ho,Instr.box,hA.eval h2,newVar,newRow]
end
structure Gx where
  P:Program
  T:TT
  hT:GM P T
  n:Nat
  c:Ctx
  B0:Bl
  N:Act→World→Prop
  X:Nat→Act→World→Prop
  Q:Act→World→Prop
abbrev Rel(g:Gx)(m:Nat)(e:SE)(L:List Ch)(a:Act)(w:World):Prop:=p8 g.n g.c g.B0 m e L a w
mutual
def NK(g:Gx):List Fr→Act→World→Prop
  | []=>g.N
  | .s y :: K=>fun a w=>CW g.P y (NK g K) (XK g K) g.Q a w
  | .k _ :: K=>NK g K
def XK(g:Gx):List Fr→Nat→Act→World→Prop
  | []=>g.X
  | .s _ :: K=>XK g K
  | .k id :: K=>ZZ id (NK g K) (XK g K)
end
structure VQ (g:Gx) (B1:Bl) (ops:Array Oper) (l:List Bool) (is:List Nat) (Lf L:List Ch):Prop where
  pre:∃B,B1=g.B0++B
  len:l.length=ops.size
  free:aHC ops=true
  AO:kl L is=Lf
  rng:∀j∈is,j < L.length
  okf:okL B1.length Lf=true
  ap:dP is=true
abbrev Sd(g:Gx)(B1:Bl)(Lf:List Ch):World→Prop:=fun w=>mP g.c w B1 Lf
def aX6(g:Gx)(B1:Bl)(Lf Lv:List Ch)(m:Nat)(e:SE)(L:List Ch)(a:Act)(w:World):Prop:=∃B,(B1++B).length=m∧gI g.n (B1++B) e a∧mP g.c w (B1++B) L∧∀w',mP g.c w' B1 Lf→mP g.c w' (B1++B) Lv
def G(g:Gx)(K:List Fr)(m:Nat)(e:SE)(L:List Ch):wP→Prop
  | .n=>∀a w,Rel g m e L a w→NK g K a w
  | .c x=>∀a w,Rel g m e L a w→CW g.P x (NK g K) (XK g K) g.Q a w
  | .r ops l=>∀a w,Rel g m e L a w→wpList g.P ops (ZD (NK g K) (XK g K) g.Q) l a w
  | .d B1 ops l is Lf Lv=>VQ g B1 ops l is Lf L→∀a w,aX6 g B1 Lf Lv m e L a w→wpAnyH g.P .any ops (ZD (NK g K) (XK g K) g.Q) (Sd g B1 Lf) (l.count false) l.toArray a w
  | .o B1 ops l is Lf Lv i=>VQ g B1 ops l is Lf L→∀a w,aX6 g B1 Lf Lv m e L a w→wpOp g.P ops (ZD (NK g K) (XK g K) g.Q) i (fun a' w'=>Sd g B1 Lf w'∧wpAnyH g.P .any ops (ZD (NK g K) (XK g K) g.Q) (Sd g B1 Lf) ((l.set i true).count false) (l.set i true).toArray a' w') a w
def TS(g:Gx):wP→Bl
  | .d B1 _ _ _ _ _=>B1
  | .o B1 _ _ _ _ _ _=>B1
  | _=>g.B0
def Frz(g:Gx)(cf:wP)(L L':List Ch):Prop:=match cf with
  | .d B1 ops l is Lf _=>VQ g B1 ops l is Lf L→kl L' is=Lf∧∀j∈is,j < L'.length
  | .o B1 ops l is Lf _ _=>VQ g B1 ops l is Lf L→kl L' is=Lf∧∀j∈is,j < L'.length
  | _=>True
def T0(g:Gx)(K:List Fr)(m:Nat)(e:SE)(L:List Ch)(o:Oper)(Lv:List Ch)(cf cf':wP):Prop:=
  ∀(d:Nat) (x:SV) (Ln:List Ch) (nb:World→Bl) (k:Nat),o.dst=some d→(∀w,(nb w).length=k) →
    (∀B a w,gI g.n B e a→mP g.c w B Lv→B.length=m→∃v,gC (B++nb g.c.w0) x=some v∧dZ g.P o (vE B e) w v w) →
    (∀B w L,B.length=m→mP g.c w B L→mP g.c w (B++nb g.c.w0) (L++Ln)) →
    G g K (m+k) ((d,x) :: e) (L++Ln) (cf'.ext Ln)→G g K m e L cf
def WZ(g:Gx)(K:List Fr)(m:Nat)(e:SE)(L:List Ch)(o:Oper)(cf cf':wP):Prop:=
  ∀(ι:Type) (m':ι→Nat) (e':ι→SE) (L':ι→List Ch),(∀i,Frz g cf L (L' i)) →
    (∀B a w (next:Act→World→Prop) (Q:Exit→Act→World→Prop),(TS g cf++B).length=m→gI g.n (TS g cf++B) e a→mP g.c w (TS g cf++B) L→(∀i a' w',p8 g.n g.c (TS g cf++B) (m' i) (e' i) (L' i) a' w'→next a' w')→o.wp g.P a w next Q) →
    (∀i,G g K (m' i) (e' i) (L' i) cf')→G g K m e L cf
def Gs(g:Gx):Stop→Prop
  | .ret m e L=>∀a w,Rel g m e L a w→g.Q a w
  | .fin m e L=>∀a w,Rel g m e L a w→g.N a w
  | .ex id m e L=>∀a w,Rel g m e L a w→g.X id a w
  | .cond o b x y K m e L=>iX e o=some (.b b)→G g K m e L (.c (.cond o x y))
  | .case _ cf K m e L=>G g K m e L cf
  | .loop id y K m e L=>G g K m e L (.c (.block id (.loop y)))
  | .idx o d t s n i Lv cf cf' K m e L=>(∀x y,o.op=.indexAddr t x y→o.dst=some d→iX e x=some (.h s n)→iX e y=some (.i .i64 i)→T0 g K m e L o Lv cf cf'→G g K m e L cf)
  | .call o d f xs cf cf' K m e L=>(∀fo args ats,o.op=.call {callee:=.value fo,args:=args,argTypes:=ats}→o.dst=d→iX e fo=some (.f f [])→(∃ys,aY (iX e) args.toList=some ys∧nbA ys=xs)→okA xs=true→rH g.n d=true→WZ g K m e L o cf cf'→G g K m e L cf)
  | .callp o d f xs cf cf' K m e L=>(∀fo args ats,o.op=.call {callee:=.value fo,args:=args,argTypes:=ats}→o.dst=d→iX e fo=some (.f f [])→(∃ys,aY (iX e) args.toList=some ys∧nbA ys=xs)→rH g.n d=true→WZ g K m e L o cf cf'→G g K m e L cf)
  | .op o Lv cf cf' K m e L=>rH g.n o.dst=true→T0 g K m e L o Lv cf cf'→WZ g K m e L o cf cf'→G g K m e L cf
  | .opp o Lv cf cf' K m e L=>rH g.n o.dst=true→T0 g K m e L o Lv cf cf'→G g K m e L cf
  | .rgn id ops K m e L=>G g K m e L (.c (.region id ops true))
  | .alt cf K m e L=>G g K m e L cf
  | .stuck=>False
noncomputable section
variable {g:Gx} {K:List Fr} {m:Nat} {e:SE} {L:List Ch}
theorem aU0{a:Act}{w:World}:∀{K:List Fr},(match pop K with | some (y,K')=>CW g.P y (NK g K') (XK g K') g.Q a w | none=>g.N a w)→NK g K a w
  | [],h=>by simpa [pop,NK] using h
  | .s y :: K,h=>by simpa [pop,NK] using h
  | .k _ :: K, h => by
    have:NK g K a w:=aU0 (by simpa [pop] using h)
    simpa [NK] using this
theorem aPS{a:Act}{w:World}{id:Nat}:∀{K:List Fr},(match xit id K with | some K'=>NK g K' a w | none=>g.X id a w)→XK g K id a w
  | [],h=>by simpa [xit,XK] using h
  | .s y :: K, h => by
    have:XK g K id a w:=aPS (by simpa [xit] using h)
    simpa [XK] using this
  | .k j :: K, h => by
    simp only [xit] at h
    simp only [XK,ZZ]
    cases hb:Nat.beq id j with
    | true =>
      rw [hb] at h
      rw [if_pos (Nat.eq_of_beq_eq_true hb)];exact h
    | false =>
      rw [hb] at h
      rw [if_neg (fun e=>by rw [e] at hb;simp at hb)]
      exact aPS h
theorem aLG{F:Nat}(ih:∀K c m e L,Gs g (TW g.T g.n F K c m e L)→G g K m e L c)(h:Gs g (match pop K with | some (y,K')=>TW g.T g.n F K' (.c y) m e L | none=>.fin m e L)):∀a w,Rel g m e L a w→NK g K a w:=fun a w hr=>by
  refine aU0 ?_
  split
  · rename_i y K' hp
    rw [hp] at h
    exact ih _ _ _ _ _ h a w hr
  · rename_i hp
    rw [hp] at h
    exact h a w hr
theorem gI.ext{n:Nat}{B nb:Bl}{a a':Act}{d:Nat}{x:SV}{v:Value}(hA:gI n B e a)(hx:gC (B++nb) x=some v)(hA':kY n ((d,v) :: vE B e) a'):gI n (B++nb) ((d,x) :: e) a':=by
  refine(hA.app nb).of hx ⟨hA'.d,hA'.size,fun k u hk=>?_⟩
  simp only [lk] at hk
  cases hb:Nat.beq k d with
  | true=>rw [hb] at hk;exact hA'.get k u (by simp only [lk,hb];exact hk)
  | false =>
    rw [hb] at hk
    obtain⟨y,h2,h3⟩:=aPG hk
    obtain⟨u2,h4,h5⟩:=hA.get k y h2
    rw [D5 nb h4] at h3
    refine hA'.get k u ?_
    simp only [lk,hb]
    rw [aAD h2,h4];simpa using h3.symm
theorem aTC{ops:Array Oper}{l:List Oper}{o:Oper}(hg:zW ops e o.guard=.yes)(hd:rH g.n o.dst=true):T0 g K m e L o L (.r ops (o :: l)) (.r ops l):=by
  intro d x Ln nb k hdst hk hv hs hG a w ⟨B,hm,hA,hS⟩
  obtain⟨v,h1,h2⟩:=hv _ a w hA hS hm
  rw [hdst] at hd
  refine fJ h2 (S3 hg) hdst hd (fun a' hA'=>hG a' w ⟨B++nb g.c.w0,?_,?_,?_⟩) a hA.env
  · rw [←List.append_assoc,List.length_append,hm,hk]
  · rw [←List.append_assoc];exact hA.ext h1 hA'
  · rw [←List.append_assoc];exact hs _ w _ hm hS
theorem aLH{ops:Array Oper}{l:List Oper}{o:Oper}(hg:zW ops e o.guard=.yes):WZ g K m e L o (.r ops (o :: l)) (.r ops l):=by
  intro ι m' e' L' _ hrun hG a w hr
  have ⟨B,hm,hA,hS⟩:=hr
  refine wpList_step fun K' hK=>?_
  rw [S3 hg _ a hA.env,if_pos rfl]
  exact hrun B a w K' _ hm hA hS (fun i a' w' ⟨B',h1,h2,h3⟩=>hK a' w' (hG i a' w' ⟨B++B',by rw [←List.append_assoc];exact h1,by rw [←List.append_assoc];exact h2,by rw [←List.append_assoc];exact h3⟩))
theorem VQ.S{B1:Bl}{ops:Array Oper}{l:List Bool}{is:List Nat}{Lf:List Ch}(h:VQ g B1 ops l is Lf L){w:World}{B:Bl}(hS:mP g.c w (B1++B) L):mP g.c w B1 Lf:=by
  have h1:=aPQ hS is h.ap
  rw [h.AO] at h1
  have h2:=aFQ h1 h.okf
  rwa [List.take_append_of_le_length (Nat.le_refl _),List.take_length] at h2
theorem VR{d:Edge}:Region.binds .any d=aPA d.ground:=by
  cases d with
  | mk on g=>cases g <;> rfl
theorem ZK{l:List Bool}:∀{es:List Edge},KI l es=true↔∀d∈es,Region.binds .any d=true→l[d.on]?=some true
  | []=>by simp [KI]
  | ⟨on, gr⟩ :: r => by
    have ih:=ZK (l:=l) (es:=r)
    simp only [KI,List.mem_cons,forall_eq_or_imp,VR]
    cases hb:aPA gr with
    | true =>
      simp only
      split
      · rename_i h1;rw [ih];simp [h1,VR]
      · rename_i h1
        constructor
        · intro h;cases h
        · intro h;exact absurd (h.1 trivial) (by simpa using h1)
    | false=>simp only;rw [ih];simp [VR]
theorem RF{ops:Array Oper}{l:List Bool}(hl:l.length=ops.size){j:Nat}:j∈Region.ready .any ops l.toArray↔l[j]?=some false∧∃o,ops.toList[j]?=some o∧KI l o.after.toList=true:=by
  rw [mem_ready]
  have h1:(l.toArray.getD j true=false)↔l[j]?=some false:=by
    rw [Array.getD_eq_getD_getElem?,List.getElem?_toArray]
    cases l[j]? <;> simp
  rw [h1]
  refine and_congr_right fun _=>?_
  constructor
  · rintro⟨o,h2,h3⟩
    refine⟨o,by simpa using h2,ZK.2 fun d hd hb=>?_⟩
    have:=h3 d (by simpa using hd) hb
    rw [Array.getD_eq_getD_getElem?,List.getElem?_toArray] at this
    cases hx:l[d.on]? with
    | none=>rw [hx] at this;cases this
    | some b=>rw [hx] at this;simp at this;rw [this]
  · rintro⟨o,h2,h3⟩
    refine⟨o,by simpa using h2,fun d hd hb=>?_⟩
    have:=ZK.1 h3 d (by simpa using hd) hb
    rw [Array.getD_eq_getD_getElem?,List.getElem?_toArray,this];rfl
theorem VT{i:Nat}:∀{es:List Edge},S1 i es=true↔∃d∈es,Region.binds .any d=true∧d.on=i
  | []=>by simp [S1]
  | ⟨on, gr⟩ :: r => by
    have ih:=VT (i:=i) (es:=r)
    simp only [S1,List.mem_cons,exists_eq_or_imp,VR]
    cases hb:aPA gr with
    | true =>
      simp only
      cases hi:Nat.beq on i with
      | true=>simp [Nat.eq_of_beq_eq_true hi]
      | false =>
        simp only
        have hne:on≠i:=fun h=>by rw [h] at hi;simp at hi
        rw [ih];simp [hne,VR]
    | false=>simp only;rw [ih];simp [VR]
theorem aTD{ops:Array Oper}{l:List Bool}(hl:l.length=ops.size)(hf:aHC ops=true){i:Nat}{o:Oper}(ho:ops.toList[i]?=some o)(hr:KI l o.after.toList=true):Region.noSelect ops=true∧Region.free .any ops l.toArray i=true:=by
  unfold aHC at hf
  rw [Bool.and_eq_true,List.all_eq_true] at hf
  refine⟨hf.1,?_⟩
  unfold Region.free
  have hoi:ops[i]?=some o:=by simpa using ho
  rw [hoi]
  simp only [List.all_eq_true,List.mem_range]
  intro j hj
  have hoj:ops[j]?=some ops[j]:=by simp [hj]
  rw [hoj]
  simp only [Bool.or_eq_true,beq_iff_eq]
  by_cases hji:j=i
  · exact .inl (.inl hji)
  · have h1:=hf.2 (o,i) (List.mk_mem_zipIdx_iff_getElem?.2 ho)
    rw [List.all_eq_true] at h1
    have h2:=h1 (ops[j],j) (List.mk_mem_zipIdx_iff_getElem?.2 (by simp [hj]))
    simp only [Bool.or_eq_true] at h2
    rcases h2 with ((h2 | h2) | h2) | h2
    · exact absurd (Nat.eq_of_beq_eq_true h2).symm hji
    · obtain⟨d,hd,hb,he⟩:=VT.1 h2
      refine .inr (.inl ?_)
      rw [←Array.any_toList,List.any_eq_true]
      exact⟨d,hd,by simp [hb,he]⟩
    · obtain⟨d,hd,hb,he⟩:=VT.1 h2
      have:=ZK.1 hr d hd hb
      rw [he] at this
      refine .inl (.inr ?_)
      rw [Array.getD_eq_getD_getElem?,List.getElem?_toArray,this];rfl
    · exact .inr (.inr h2)
theorem count_set{l:List Bool}:∀{i:Nat},l[i]?=some false→l.count false=(l.set i true).count false+1:=by
  induction l with
  | nil=>intro i h;simp at h
  | cons b l ih =>
    intro i h
    cases i with
    | zero=>simp at h;subst h;simp
    | succ i =>
      have:=ih (i:=i) (by simpa using h)
      simp only [List.set_cons_succ,List.count_cons]
      omega
theorem aJL{B1:Bl}{ops:Array Oper}{l:List Bool}{is:List Nat}{Lf:List Ch}{i:Nat}{o:Oper}{d:Nat}{v:Value}{a:Act}{w:World}{B:Bl}(hD:VQ g B1 ops l is Lf L)(ho:ops.toList[i]?=some o)(hl:l[i]?=some false)(hr:KI l o.after.toList=true)(hdst:o.dst=some d)(hdn:Nat.blt d g.n=true)(hA:gI g.n (B1++B) e a)(hS:mP g.c w (B1++B) L)
    (hy:(Want ops o (vE (B1++B) e) true∧∀w',Sd g B1 Lf w'→dZ g.P o (vE (B1++B) e) w' v w')∨(Want ops o (vE (B1++B) e) false∧v=undef))
    (k:∀a',kY g.n ((d,v) :: vE (B1++B) e) a'→wpAnyH g.P .any ops (ZD (NK g K) (XK g K) g.Q) (Sd g B1 Lf) ((l.set i true).count false) (l.set i true).toArray a' w):wpAnyH g.P .any ops (ZD (NK g K) (XK g K) g.Q) (Sd g B1 Lf) (l.count false) l.toArray a w:=by
  obtain⟨f1,f2⟩:=aTD hD.len hD.free ho hr
  rw [count_set hl]
  refine wpAnyH_take (v:=v) (by simpa using ho) f1 f2 (by simpa using (RF hD.len).2 ⟨hl,o,ho,hr⟩) (fun _ _ _ h=>h.elim) ?_ (hD.S hS) ?_
  · rcases hy with ⟨h1,h2⟩ | ⟨h1,h2⟩
    · exact .inl ⟨h1 _ a hA.env,fun w' hS'=>h2 w' hS' _ a hA.env⟩
    · exact .inr ⟨h1 _ a hA.env,h2⟩
  · rw [hdst]
    have:=k _ (hA.env.put (by simpa [Nat.blt_eq] using hdn) v)
    simpa using this
theorem VQ.set{B1:Bl}{ops:Array Oper}{l:List Bool}{is:List Nat}{Lf L':List Ch}(h:VQ g B1 ops l is Lf L)(i:Nat)(hz:kl L' is=Lf∧∀j∈is,j < L'.length):VQ g B1 ops (l.set i true) is Lf L':=
  ⟨h.pre,by simpa using h.len,h.free,hz.1,hz.2,h.okf,h.ap⟩
theorem aPT{L Ln:List Ch}:∀{is:List Nat},(∀j∈is,j < L.length)→kl (L++Ln) is=kl L is
  | [],_=>rfl
  | i :: is, h => by
    simp only [kl,List.getElem?_append_left (h i (by simp)),aPT (fun j hj=>h j (List.mem_cons_of_mem _ hj))]
theorem VQ.aAF{B1:Bl}{ops:Array Oper}{l:List Bool}{is:List Nat}{Lf:List Ch}(h:VQ g B1 ops l is Lf L)(Ln:List Ch):kl (L++Ln) is=Lf∧∀j∈is,j < (L++Ln).length:=
  ⟨by rw [aPT h.rng];exact h.AO,fun j hj=>by have:=h.rng j hj;simp;omega⟩
theorem aTE{B1:Bl}{ops:Array Oper}{l:List Bool}{is:List Nat}{Lf Lv:List Ch}{i:Nat}{o:Oper}(ho:ops.toList[i]?=some o)(hl:l[i]?=some false)(hr:KI l o.after.toList=true)(hg:zW ops e o.guard=.yes)(hd:rH g.n o.dst=true):T0 g K m e L o Lv (.d B1 ops l is Lf Lv) (.d B1 ops (l.set i true) is Lf Lv):=by
  intro d x Ln nb k hdst hk hv hs hG hD a w ⟨B,hm,hA,hS,hV⟩
  rw [hdst] at hd
  obtain⟨v,h1,h2⟩:=hv _ a w hA (hV w (hD.S hS)) hm
  refine aJL (v:=v) hD ho hl hr hdst hd hA hS (.inl ⟨S3 hg,fun w' hS'=>?_⟩) fun a' hA'=>?_
  · obtain⟨v',h3,h4⟩:=hv _ a w' hA (hV w' hS') hm
    rw [h1] at h3;cases h3;exact h4
  · refine hG (hD.set i (hD.aAF Ln)) a' w ⟨B++nb g.c.w0,?_,?_,?_,fun w' hS'=>?_⟩
    · rw [←List.append_assoc,List.length_append,hm,hk]
    · rw [←List.append_assoc];exact hA.ext h1 hA'
    · rw [←List.append_assoc];exact hs _ w _ hm hS
    · rw [←List.append_assoc];exact hs _ w' _ hm (hV w' hS')
theorem aHH{l:List Bool}{i:Nat}:∀{os:List Oper} {j0:Nat},WY l i os j0=true→∀j o,os[j]?=some o→l[j0+j]?=some false→(KI l o.after.toList=true↔j0+j=i)
  | [],_,_,j,o,h,_=>by simp at h
  | p :: os, j0, h, j, o, hj, hl => by
    simp only [WY] at h
    cases j with
    | zero =>
      simp at hj;subst hj
      simp only [Nat.add_zero] at hl ⊢
      rw [hl] at h
      simp only at h
      cases hb:Nat.beq j0 i with
      | true =>
        rw [hb] at h;simp only at h
        split at h
        · rename_i hr;simp [hr,Nat.eq_of_beq_eq_true hb]
        · cases h
      | false =>
        rw [hb] at h;simp only at h
        have hne:j0≠i:=fun h=>by rw [h] at hb;simp at hb
        split at h
        · cases h
        · rename_i hr;simp [hr,hne]
    | succ j =>
      have h':WY l i os (j0+1)=true:=by
        split at h
        · split at h
          · split at h
            · exact h
            · cases h
          · split at h
            · cases h
            · exact h
        · exact h
        · cases h
      have:=aHH h' j o (by simpa using hj) (by rw [show j0+1+j=j0+(j+1) from by omega];exact hl)
      rw [this];omega
theorem aTF{B1:Bl}{ops:Array Oper}{l:List Bool}{is:List Nat}{Lf Lv:List Ch}{i:Nat}{o:Oper}(ho:ops.toList[i]?=some o)(hg:zW ops e o.guard=.yes):WZ g K m e L o (.o B1 ops l is Lf Lv i) (.d B1 ops (l.set i true) is Lf Lv):=by
  intro ι m' e' L' hz hrun hG hD a w hr
  have ⟨B,hm,hA,hS,hV⟩:=hr
  unfold wpOp
  have hoi:ops[i]?=some o:=by simpa using ho
  simp only [hoi,S3 hg _ a hA.env,if_true]
  refine .inl (hrun B a w _ _ hm hA hS fun j a' w' h=>?_)
  have hD':=hD.set i (hz j hD)
  obtain⟨B',q1,q2,q3⟩:=h
  refine⟨?_,?_⟩
  · refine hD'.S (B:=B++B') ?_
    rw [←List.append_assoc];exact q3
  · have:=hG j hD' a' w' ⟨B++B',by rw [←List.append_assoc];exact q1,by rw [←List.append_assoc];exact q2,by rw [←List.append_assoc];exact q3,fun w2 h2=>by rw [←List.append_assoc];exact(hV w2 h2).app B'⟩
    simpa using this
theorem aTG{B1:Bl}{ops:Array Oper}{l:List Bool}{is:List Nat}{Lf Lv:List Ch}{i:Nat}{o:Oper}(ho:ops.toList[i]?=some o)(hg:zW ops e o.guard=.yes)(hd:rH g.n o.dst=true):T0 g K m e L o Lv (.o B1 ops l is Lf Lv i) (.d B1 ops (l.set i true) is Lf Lv):=by
  intro d x Ln nb k hdst hk hv hs hG hD a w ⟨B,hm,hA,hS,hV⟩
  rw [hdst] at hd
  obtain⟨v,h1,h2⟩:=hv _ a w hA (hV w (hD.S hS)) hm
  unfold wpOp
  have hoi:ops[i]?=some o:=by simpa using ho
  simp only [hoi,S3 hg _ a hA.env,if_true]
  refine .inl ?_
  unfold Oper.wp
  rw [h2 _ a hA.env,Oper.upon_value,hdst]
  have hA':=hA.env.put (show d < g.n by simpa [rH,Nat.blt_eq] using hd) v
  refine⟨hD.S hS,hG (hD.set i (hD.aAF Ln)) _ w ⟨B++nb g.c.w0,?_,?_,?_,fun w' hS'=>?_⟩⟩
  · rw [←List.append_assoc,List.length_append,hm,hk]
  · rw [←List.append_assoc];exact hA.ext h1 hA'
  · rw [←List.append_assoc];exact hs _ w _ hm hS
  · rw [←List.append_assoc];exact hs _ w' _ hm (hV w' hS')
theorem aEM{l:List Bool}{j:Nat}:∀{os:List Oper} {j0:Nat} {o:Oper},os[j]?=some o→l[j0+j]?=some false→KI l o.after.toList=true→j0+j∈tR l os j0:=by
  intro os
  induction os generalizing j with
  | nil=>intro j0 o h;simp at h
  | cons p os ih =>
    intro j0 o h hl hr
    cases j with
    | zero =>
      simp at h;subst h
      simp only [Nat.add_zero] at hl ⊢
      simp [tR,hl,hr]
    | succ j =>
      have h2:=ih (j:=j) (j0:=j0+1) (o:=o) (by simpa using h) (by rw [show j0+1+j=j0+(j+1) by omega];exact hl) hr
      rw [show j0+1+j=j0+(j+1) by omega] at h2
      simp only [tR]
      split
      · split
        · exact List.mem_cons_of_mem _ h2
        · exact h2
      · exact h2
theorem aX7{B1:Bl}{ops:Array Oper}{l:List Bool}{is:List Nat}{Lf Lv:List Ch}(hex:∃i,i∈tR l ops.toList 0)(h:∀i∈tR l ops.toList 0,G g K m e L (.o B1 ops l is Lf Lv i))(hok:∀i∈tR l ops.toList 0,l[i]?=some false∧∃o,ops.toList[i]?=some o∧KI l o.after.toList=true):G g K m e L (.d B1 ops l is Lf Lv):=by
  intro hD a w hr
  obtain⟨i0,hi0⟩:=hex
  obtain⟨q1,q2⟩:=hok i0 hi0
  have hm:i0∈Region.ready .any ops l.toArray:=(RF hD.len).2 ⟨q1,q2⟩
  rw [count_set q1]
  refine⟨fun h=>(by rw [h] at hm;cases hm),fun j hj=>?_⟩
  obtain⟨h1,p,h2,h3⟩:=(RF hD.len).1 hj
  have h4:=aEM (j0:=0) h2 (by simpa using h1) h3
  rw [Nat.zero_add] at h4
  have h5:=h j h4 hD a w hr
  have h6:(l.set i0 true).count false=(l.set j true).count false:=by
    have:=count_set q1
    have:=count_set h1
    omega
  rw [h6]
  simpa using h5
theorem aAG{l:List Bool}{i:Nat}:∀{os:List Oper} {j0:Nat},i∈tR l os j0→l[i]?=some false∧∃j o,os[j]?=some o∧j0+j=i∧KI l o.after.toList=true:=by
  intro os
  induction os with
  | nil=>intro j0 h;cases h
  | cons p os ih =>
    intro j0 h
    have tail:i∈tR l os (j0+1)→l[i]?=some false∧∃j o,(p :: os)[j]?=some o∧j0+j=i∧KI l o.after.toList=true:=fun h=>by
      obtain⟨h1,j,o,h2,h3,h4⟩:=ih h
      exact⟨h1,j+1,o,by simpa using h2,by omega,h4⟩
    simp only [tR] at h
    split at h
    · rename_i hl
      split at h
      · rename_i hr
        rcases List.mem_cons.1 h with h | h
        · subst h;exact⟨hl,0,p,rfl,by omega,hr⟩
        · exact tail h
      · exact tail h
    · exact tail h
theorem aPU{B1:Bl}{ops:Array Oper}{l:List Bool}{is:List Nat}{Lf Lv:List Ch}{i0:Nat}{r:List Nat}(hr:tR l ops.toList 0=i0 :: r)(h:∀i∈i0 :: r,G g K m e L (.o B1 ops l is Lf Lv i)):G g K m e L (.d B1 ops l is Lf Lv):=
  aX7 ⟨i0,by rw [hr];simp⟩ (fun i hi=>h i (by rw [←hr];exact hi)) fun i hi=>by
    obtain⟨h1,j,o,h2,h3,h4⟩:=aAG hi
    rw [Nat.zero_add] at h3;subst h3
    exact⟨h1,o,h2,h4⟩
theorem aTH{l:List Bool}{i:Nat}{ops:Array Oper}(h:WY l i ops.toList 0=true):∀j∈tR l ops.toList 0,j=i:=fun j hj=>by
  obtain⟨h1,k,o,h2,h3,h4⟩:=aAG hj
  rw [Nat.zero_add] at h3;subst h3
  have:=(aHH h k o h2 (by simpa using h1)).1 h4
  simpa using this
def PsG(g:Gx)(K:List Fr)(m:Nat)(L:List Ch)(B1:Bl)(ops:Array Oper)(is:List Nat)(Lf Lv:List Ch):Ps→Prop
  | .bad=>False
  | .ask _ l e=>G g K m e L (.d B1 ops l is Lf Lv)
  | .pur j o l e=>ops.toList[j]?=some o→l[j]?=some false→KI l o.after.toList=true→zW ops e o.guard=.yes→G g K m e L (.d B1 ops l is Lf Lv)
  | .fin l e _=>G g K m e L (.d B1 ops l is Lf Lv)
theorem RG{B1:Bl}{ops:Array Oper}{is:List Nat}{Lf Lv:List Ch}:∀(r:List Oper) (i:Nat) (l:List Bool) (e:SE) (q:List (Nat×Oper)),(∀j,r[j]?=ops.toList[i+j]?) →
    PsG g K m L B1 ops is Lf Lv (pass g.T g.n ops Lv r i l e q)→G g K m e L (.d B1 ops l is Lf Lv)
  | [], i, l, e, q, hr, h => by
    unfold pass at h
    exact h
  | o :: r, i, l, e, q, hr, h => by
    have ho:ops.toList[i]?=some o:=by have:=hr 0;simpa using this.symm
    have hr':∀j,r[j]?=ops.toList[i+1+j]?:=fun j=>by
      have:=hr (j+1)
      rw [show i+1+j=i+(j+1) from by omega,←this];simp
    unfold pass at h
    cases hl:l[i]? with
    | none=>simp only [hl] at h;exact h.elim
    | some b =>
      cases b with
      | true=>simp only [hl] at h;exact RG r (i+1) l e q hr' h
      | false =>
        cases hre:KI l o.after.toList with
        | false=>simp only [hl,hre] at h;exact RG r (i+1) l e q hr' h
        | true =>
          cases hgd:zW ops e o.guard with
          | bad=>simp only [hl,hre,hgd] at h;exact h.elim
          | ask c=>simp only [hl,hre,hgd] at h;exact h
          | no =>
            cases hd:o.dst with
            | none=>simp only [hl,hre,hgd,hd] at h;exact h.elim
            | some d =>
              cases hb:Nat.blt d g.n with
              | false=>simp only [hl,hre,hgd,hd,hb] at h;exact h.elim
              | true =>
                simp only [hl,hre,hgd,hd,hb] at h
                have ih:=RG r (i+1) _ _ q hr' h
                intro hD a w ⟨B,hm,hA,hS,hV⟩
                refine aJL (v:=undef) hD ho hl hre hd hb hA hS (.inr ⟨aUZ hgd,rfl⟩) fun a' hA'=>?_
                exact ih (hD.set i ⟨hD.AO,hD.rng⟩) a' w ⟨B,hm,hA.of (x:=.u) rfl hA',hS,hV⟩
          | yes =>
            cases hv:ev1 g.T e Lv o.op with
            | some v =>
              cases hd:o.dst with
              | none=>simp only [hl,hre,hgd,hv,hd] at h;exact h.elim
              | some d =>
                cases hb:Nat.blt d g.n with
                | false=>simp only [hl,hre,hgd,hv,hd,hb] at h;exact h.elim
                | true =>
                  simp only [hl,hre,hgd,hv,hd,hb] at h
                  have ih:=RG r (i+1) _ _ q hr' h
                  intro hD a w ⟨B,hm,hA,hS,hV⟩
                  obtain⟨u,h1,h2⟩:=aFL g.hT hA (hV w (hD.S hS)) hv
                  refine aJL (v:=u) hD ho hl hre hd hb hA hS (.inl ⟨S3 hgd,fun w' hS'=>?_⟩) fun a' hA'=>?_
                  · obtain⟨u',h3,h4⟩:=aFL (w:=w') g.hT hA (hV w' hS') hv
                    rw [h1] at h3;cases h3;exact h4
                  · exact ih (hD.set i ⟨hD.AO,hD.rng⟩) a' w ⟨B,hm,hA.of h1 hA',hS,hV⟩
            | none =>
              cases hp:aUW o.op with
              | true=>simp only [hl,hre,hgd,hv,hp] at h;exact h ho hl hre hgd
              | false =>
                simp only [hl,hre,hgd,hv,hp] at h
                exact RG r (i+1) l e ((i,o) :: q) hr' h
theorem aLI:∀{l:List Bool} {i:Nat},aS7 l=true→l[i]?≠some false
  | [],i,_=>by simp
  | b :: l, i, h => by
    unfold aS7 at h
    cases b with
    | false=>cases h
    | true =>
      cases i with
      | zero=>simp
      | succ i=>simpa using aLI (l:=l) (i:=i) h
theorem aEN{k:Nat}:∀{L:List Ch},N0 k L=true→∃i,(∀cs',wQ k cs' L=L.set i (.box k cs'))∧∀k0,aFF k L k0=k0+i
  | [],h=>by cases h
  | x :: L, h => by
    have ih:N0 k L=true→(∀cs',wQ k cs' (x :: L)=x :: wQ k cs' L)→(∀k0,aFF k (x :: L) k0=aFF k L (k0+1))→∃i,(∀cs',wQ k cs' (x :: L)=(x :: L).set i (.box k cs'))∧∀k0,aFF k (x :: L) k0=k0+i:=fun h h2 h3=>by
      obtain⟨i,g1,g2⟩:=aEN h
      exact⟨i+1,fun cs'=>by rw [h2,g1];rfl,fun k0=>by rw [h3,g2];omega⟩
    cases x with
    | box j cs =>
      simp only [N0] at h
      split at h
      · rename_i hb
        exact⟨0,fun cs'=>by simp only [wQ,hb];rw [Nat.eq_of_beq_eq_true hb];rfl,fun k0=>by simp only [aFF,hb];rfl⟩
      · rename_i hb
        exact ih h (fun cs'=>by simp only [wQ,hb]) (fun k0=>by simp only [aFF,hb])
    | ro j cs =>
      simp only [N0] at h
      split at h
      · cases h
      · exact ih h (fun _=>rfl) (fun _=>rfl)
    | o ch=>exact ih h (fun _=>rfl) (fun _=>rfl)
    | f g=>exact ih h (fun _=>rfl) (fun _=>rfl)
    | no=>exact ih h (fun _=>rfl) (fun _=>rfl)
    | w k b z=>exact ih h (fun _=>rfl) (fun _=>rfl)
theorem aAH{i:Nat}:∀{is:List Nat},gO i is=true→i∉is
  | [],_=>by simp
  | j :: r, h => by
    unfold gO at h
    cases hb:Nat.beq i j with
    | true=>rw [hb] at h;cases h
    | false =>
      rw [hb] at h
      have hne:i≠j:=fun e=>by rw [e] at hb;simp at hb
      simpa [hne] using aAH h
theorem aPV{L:List Ch}{i:Nat}{x:Ch}:∀{is:List Nat},i∉is→kl (L.set i x) is=kl L is
  | [],_=>rfl
  | j :: is, h => by
    have hne:i≠j:=fun e=>h (by simp [e])
    simp only [kl,List.getElem?_set_ne hne,aPV (fun hj=>h (List.mem_cons_of_mem _ hj))]
theorem aJM{T:TT}{t:TypeId}{p v:SV}{L':List Ch}{x y:Operand}{is:List Nat}(h:SZ T t p v L=some L')(hp:iX e x=some p)(hf:aWB e L is (.store t x y)=true)(hr:∀j∈is,j < L.length):kl L' is=kl L is∧∀j∈is,j < L'.length:=by
  unfold SZ at h
  split at h
  · rename_i k o
    split at h
    · rename_i hb
      split at h
      · split at h
        · split at h
          case h_2=>cases h
          split at h
          case h_2=>cases h
          rename_i L2 hL2
          cases h
          have:=KJ hL2
          subst this
          obtain⟨i,h1,h2⟩:=aEN hb
          simp only [aWB,hp,h2] at hf
          have:=aAH hf
          rw [Nat.zero_add] at this
          rw [h1]
          exact⟨aPV this,by simpa using hr⟩
        · cases h
      · cases h
    · cases h
  · cases h
theorem aTI{a a':Act}{w':World}{B0 B:Bl}{d b:Nat}{cs:List SV}(hm:(B0++B).length=m)(hA:gI g.n (B0++B) e a)(hA':kY g.n ((d,.pointer (some ⟨b,0,none⟩)) :: vE (B0++B) e) a')(hS':mP g.c w' ((B0++B) ++ [(b,0)]) (L ++ [.box (B0++B).length cs])):p8 g.n g.c (B0++B) (m+1) ((d,.p m 0) :: e) (L ++ [.box m cs]) a' w':=by
  refine⟨[(b,0)],by simp at hm ⊢;omega,?_,?_⟩
  · exact hA.ext (nb:=[(b,0)]) (x:=.p m 0) (by simp [gC,gV,bQ,←hm]) hA'
  · rw [←hm];exact hS'
theorem yW{cf:wP}(Ln:List Ch):Frz g cf L (L++Ln):=by
  cases cf with
  | d B1 ops l is Lf Lv=>exact fun hD=>hD.aAF Ln
  | o B1 ops l is Lf Lv i=>exact fun hD=>hD.aAF Ln
  | _=>trivial
theorem aLJ{T:TT}{op:Op}{v:SV}(h:eff T e L op=.val v):ev1 T e L op=some v:=by
  unfold eff at h
  split at h
  · rename_i hv;cases h;exact hv
  · repeat' (split at h)
    all_goals cases h
theorem aTJ{T:TT}{op:Op}{cs:List SV}(h:eff T e L op=.box cs):(∃t i,op=.alloc t∧A1 T t=some i∧cs=i.z)∨(∃t x v,op=.box t x∧iX e x=some v∧isCells v=true∧cs=o9 v):=by
  unfold eff at h
  split at h
  · cases h
  · split at h
    · split at h
      · rename_i hl;cases h;exact .inl ⟨_,_,rfl,hl,rfl⟩
      · cases h
    · split at h
      · rename_i hv
        split at h
        · rename_i hc;cases h;exact .inr ⟨_,_,_,rfl,hv,hc,rfl⟩
        · cases h
      · cases h
    · split at h
      · split at h <;> cases h
      · cases h
    · cases h
theorem aWJ{T:TT}{op:Op}{L':List Ch}(h:eff T e L op=.st L'):∃t x y p v,op=.store t x y∧iX e x=some p∧SZ T t p v L=some L':=by
  unfold eff at h
  split at h
  · cases h
  · split at h
    · split at h <;> cases h
    · split at h
      · split at h <;> cases h
      · cases h
    · split at h
      · rename_i hx hy
        split at h
        · rename_i hs;cases h;exact⟨_,_,_,_,_,rfl,hx,hs⟩
        · cases h
      · cases h
    · cases h
theorem aTK{T:TT}{op:Op}{L':List Ch}(h:eff T e L op=.st L'):∃t x y p v,op=.store t x y∧iX e x=some p∧iX e y=some v∧SZ T t p v L=some L':=by
  unfold eff at h
  split at h
  · cases h
  · split at h
    · split at h <;> cases h
    · split at h
      · split at h <;> cases h
      · cases h
    · split at h
      · rename_i hx hy
        split at h
        · rename_i hs;cases h;exact⟨_,_,_,_,_,rfl,hx,hy,hs⟩
        · cases h
      · cases h
    · cases h
theorem aPW{o:Oper}{cf cf':wP}(hE:WZ g K m e L o cf cf') :
    (∀d cs,eff g.T e L o.op=.box cs→o.dst=some d→Nat.blt d g.n=true→Frz g cf L (L ++ [.box m cs])→G g K (m+1) ((d,.p m 0) :: e) (L ++ [.box m cs]) cf'→G g K m e L cf) ∧
    (∀L',eff g.T e L o.op=.st L'→o.dst=none→Frz g cf L L'→G g K m e L' cf'→G g K m e L cf):=by
  refine⟨fun d cs hf hd hdn hz hG=>hE Unit (fun _=>m+1) (fun _=>(d,.p m 0) :: e) (fun _=>L ++ [.box m cs]) (fun _=>hz) (fun B a w next Q hm hA hS hnext=>?_) (fun _=>hG),fun L' hf hd hz hG=>hE Unit (fun _=>m) (fun _=>e) (fun _=>L') (fun _=>hz) (fun B a w next Q hm hA hS hnext=>?_) (fun _=>hG)⟩
  · have fin:∀{u:Value} {w':World} {b:Nat},dZ g.P o (vE (TS g cf++B) e) w u w'→u=.pointer (some ⟨b,0,none⟩)→mP g.c w' ((TS g cf++B) ++ [(b,0)]) (L ++ [.box (TS g cf++B).length cs])→o.wp g.P a w next Q:=by
      intro u w' b hR hu hS'
      subst hu
      unfold Oper.wp
      rw [hR _ a hA.env,Oper.upon_value,hd]
      exact hnext () _ _ (aTI hm hA (hA.env.put (by simpa [Nat.blt_eq] using hdn) _) hS')
    rcases aTJ hf with ⟨t,i,ho,hl,rfl⟩ | ⟨t,x,v,ho,hv,hc,rfl⟩
    · obtain⟨u,w',b,k1,k2,k3⟩:=aPR (E:=vE (TS g cf++B) e) g.hT hS ho hl
      exact fin k1 k2 k3
    · obtain⟨u,w',b,k1,k2,k3⟩:=aWI (P:=g.P) hA hS ho hv hc
      exact fin k1 k2 k3
  · obtain⟨t,x,y,p,v,ho,hx,hy,hs⟩:=aTK hf
    obtain⟨w',k1,k2⟩:=aMU g.hT hA hS ho hx hy hs
    unfold Oper.wp
    rw [k1 _ a hA.env,Oper.upon_skip,hd]
    exact hnext () _ _ ⟨[],by simpa using hm,by rw [List.append_nil];exact⟨hA.d,hA.size,hA.get⟩,by simpa using k2⟩
theorem aPX{o:Oper}{Lv:List Ch}{cf cf':wP}(h:Gs g (aS6 e o Lv cf cf' K m L o.op))(hd:rH g.n o.dst=true)(hP:T0 g K m e L o Lv cf cf')(hE:WZ g K m e L o cf cf'):G g K m e L cf:=by
  generalize hop:o.op=op at h
  unfold aS6 at h
  split at h
  · split at h
    · exact h
    · exact h.elim
  · split at h
    · rename_i h1 h2 h3
      exact h _ _ hop h3 h1 h2 hP
    · exact h hd hP hE
  · split at h
    · rename_i h1 h2
      split at h
      · rename_i hx
        exact h _ _ _ hop rfl h1 ⟨_,h2,rfl⟩ hx hd hE
      · exact h _ _ _ hop rfl h1 ⟨_,h2,rfl⟩ hd hE
    · exact h hd hP hE
  · exact h hd hP hE
theorem aTL{o:Oper}{Lv:List Ch}{cf cf':wP}(h:Gs g (aWA e o Lv cf cf' K m L o.op))(hd:rH g.n o.dst=true)(hP:T0 g K m e L o Lv cf cf'):G g K m e L cf:=by
  generalize hop:o.op=op at h
  unfold aWA at h
  split at h
  · split at h
    · exact h
    · exact h.elim
  · split at h
    · rename_i h1 h2 h3
      exact h _ _ hop h3 h1 h2 hP
    · exact h hd hP
  · exact h hd hP
theorem S4 : ∀ (F : Nat) (K : List Fr) (c : wP) (m : Nat) (e : SE) (L : List Ch), Gs g (TW g.T g.n F K c m e L) → G g K m e L c
  | 0,_,_,_,_,_,h=>h.elim
  | F + 1, K, .c x, m, e, L, h => by
    have ih:=S4 F
    unfold TW at h
    cases x with
    | skip=>exact fun a w hr=>oH (aLG ih h a w hr)
    | seq x y=>exact fun a w hr=>bR (ih _ _ _ _ _ h a w hr)
    | block id b =>
      simp only at h
      split at h
      · exact h
      · exact fun a w hr=>lI (ih _ _ _ _ _ h a w hr)
    | exit id =>
      simp only at h
      refine fun a w hr=>JL (aPS ?_)
      cases hx:xit id K with
      | some K'=>rw [hx] at h;exact aLG ih h a w hr
      | none=>rw [hx] at h;exact h a w hr
    | ret=>exact fun a w hr=>zU (h a w hr)
    | cond o x y =>
      simp only at h
      split at h
      · rename_i c ho
        intro a w hr
        obtain⟨B,hm,hA,hS⟩:=hr
        obtain⟨v,h1,h2⟩:=eR hA ho
        cases h1
        cases c with
        | true=>exact aVO hA.env h2 rfl (ih _ _ _ _ _ h a w ⟨B,hm,hA,hS⟩)
        | false=>exact aXV hA.env h2 rfl (ih _ _ _ _ _ h a w ⟨B,hm,hA,hS⟩)
      · rename_i c ho
        exact h ho
      · exact h.elim
    | region id ops d =>
      cases d with
      | false=>exact fun a w hr=>aEC (ih _ _ _ _ _ h a w hr)
      | true=>exact h
    | _=>exact h.elim
  | F + 1, K, .n, m, e, L, h => by
    have ih:=S4 F
    unfold TW at h
    exact fun a w hr=>aLG ih h a w hr
  | F + 1, K, .r ops [], m, e, L, h => by
    have ih:=S4 F
    unfold TW at h
    exact fun a w hr=>aLG ih h a w hr
  | F + 1, K, .r ops (⟨dst, op, ty, ps, af, gd⟩ :: l), m, e, L, h => by
    have ih:=S4 F
    unfold TW at h
    generalize hg:zW ops e gd=gv at h
    cases gv with
    | bad=>exact h.elim
    | ask c=>exact h
    | no =>
      simp only at h
      split at h
      · rename_i d
        split at h
        · rename_i hd
          intro a w ⟨B,hm,hA,hS⟩
          exact fU (aUZ hg) rfl hd (fun a' hA'=>ih _ _ _ _ _ h a' w ⟨B,hm,hA.of (x:=.u) (v:=undef) rfl hA',hS⟩) a hA.env
        · exact h.elim
      · exact h.elim
    | yes =>
      simp only at h
      have hE:=aPW (g:=g) (K:=K) (m:=m) (e:=e) (L:=L) (o:=⟨dst,op,ty,ps,af,gd⟩) (cf:=.r ops (⟨dst,op,ty,ps,af,gd⟩ :: l)) (cf':=.r ops l) (aLH hg)
      split at h
      · rename_i d v hf
        split at h
        · rename_i hd
          intro a w ⟨B,hm,hA,hS⟩
          obtain⟨u,h1,h2⟩:=aFL (o:=⟨_,op,ty,ps,af,gd⟩) g.hT hA hS (aLJ hf)
          exact fJ h2 (S3 hg) rfl hd (fun a' hA'=>ih _ _ _ _ _ h a' w ⟨B,hm,hA.of h1 hA',hS⟩) a hA.env
        · exact h.elim
      · rename_i d cs hf
        split at h
        · rename_i hd
          exact hE.1 _ _ hf rfl hd trivial (ih _ _ _ _ _ h)
        · exact h.elim
      · rename_i L' hf
        exact hE.2 _ hf rfl trivial (ih _ _ _ _ _ h)
      · split at h
        · rename_i hd
          exact aPX h hd (aTC hg hd) (aLH hg)
        · exact h.elim
      · exact h.elim
  | F + 1, K, .d B1 ops l is Lf Lv, m, e, L, h => by
    have ih:=S4 F
    unfold TW at h
    refine RG ops.toList 0 l e [] (fun j=>by simp) ?_
    generalize pass g.T g.n ops Lv ops.toList 0 l e []=ps at h
    cases ps with
    | bad=>exact h.elim
    | ask c l' e'=>exact h
    | pur i o l' e' =>
      intro h1 h2 h3 h4
      simp only at h
      split at h
      · rename_i hd
        exact aTL h hd (aTE h1 h2 h3 h4 hd)
      · exact h.elim
    | fin l' e' q =>
      cases q with
      | nil =>
        simp only at h
        split at h
        · rename_i hall
          intro hD a w hr
          have hn:=ih _ _ _ _ _ h
          obtain⟨B2,hB2⟩:=hD.pre
          have hr':Rel g m e' L a w:=by
            obtain⟨B,hm,hA,hS,_⟩:=hr
            subst hB2
            exact⟨B2++B,by rw [←List.append_assoc];exact hm,by rw [←List.append_assoc];exact hA,by rw [←List.append_assoc];exact hS⟩
          have hempty:Region.ready .any ops l'.toArray=[]:=by
            refine List.eq_nil_iff_forall_not_mem.2 fun j hj=>?_
            exact aLI hall ((RF hD.len).1 hj).1
          exact wpAnyH_done hempty (hn a w hr') _
        · exact h.elim
      | cons p q =>
        cases q with
        | cons p' q=>exact h
        | nil =>
          obtain⟨i,o⟩:=p
          simp only at h
          split at h
          · rename_i hon
            have ho:=ih _ _ _ _ _ h
            cases hra:tR l' ops.toList 0 with
            | cons j r =>
              refine aPU hra fun k hk=>?_
              rw [aTH hon k (by rw [hra];exact hk)]
              exact ho
            | nil =>
              refine absurd h ?_
              intro h
              unfold TW at h
              cases F with
              | zero=>exact h
              | succ F =>
                simp only at h
                split at h
                · rename_i hi
                  split at h
                  · rename_i h1 h2 h3
                    have:=aEM (j0:=0) hi (by simpa using h2) h1
                    rw [Nat.zero_add,hra] at this
                    cases this
                  · exact h
                · exact h
          · exact h.elim
  | F + 1, K, .o B1 ops l is Lf Lv i, m, e, L, h => by
    have ih:=S4 F
    unfold TW at h
    split at h
    · rename_i dst op ty ps af gd ho
      split at h
      · rename_i hre hli hg
        have hes:=aTF (g:=g) (K:=K) (m:=m) (e:=e) (L:=L) (B1:=B1) (ops:=ops) (l:=l) (is:=is) (Lf:=Lf) (Lv:=Lv) ho hg
        have hE:=aPW (g:=g) (K:=K) (m:=m) (e:=e) (L:=L) (o:=⟨dst,op,ty,ps,af,gd⟩) (cf:=.o B1 ops l is Lf Lv i) (cf':=.d B1 ops (l.set i true) is Lf Lv) hes
        split at h
        · rename_i v d hf
          split at h
          · rename_i hd
            have hG:=ih _ _ _ _ _ h
            have hv:=aLJ hf
            refine hes Unit (fun _=>m) (fun _=>(d,v) :: e) (fun _=>L) (fun _ hD=>⟨hD.AO,hD.rng⟩) (fun B a w next Q hm hA hS hnext=>?_) (fun _=>hG)
            obtain⟨u,h1,h2⟩:=aFL (o:=⟨some d,op,ty,ps,af,gd⟩) g.hT hA hS hv
            unfold Oper.wp
            rw [h2 _ a hA.env,Oper.upon_value]
            exact hnext () _ _ ⟨[],by simpa using hm,by simpa using hA.of h1 (hA.env.put (by simpa [Nat.blt_eq] using hd) u),by simpa using hS⟩
          · exact h.elim
        · rename_i d cs hf
          split at h
          · rename_i hd
            exact hE.1 _ _ hf rfl hd (fun hD=>hD.aAF _) (ih _ _ _ _ _ h)
          · exact h.elim
        · rename_i L' hf
          split at h
          · rename_i hfz
            refine hE.2 _ hf rfl (fun hD=>?_) (ih _ _ _ _ _ h)
            obtain⟨t,x,y,p,v,hop,hx,hs⟩:=aWJ hf
            subst hop
            have:=aJM hs hx hfz hD.rng
            exact⟨by rw [this.1];exact hD.AO,this.2⟩
          · exact h.elim
        · split at h
          · rename_i hd
            exact aPX h hd (aTG ho hg hd) hes
          · exact h.elim
        · exact h.elim
      · exact h.elim
    · exact h.elim
theorem aFR:∀{e r:SE},aPB e=some r→r=e
  | [],r,h=>by cases h;rfl
  | (k, v) :: l, r, h => by
    simp only [aPB] at h
    split at h
    · rename_i s hs;cases h;rw [aFR hs]
    · cases h
theorem aFS:∀{e r:List Ch},aPC e=some r→r=e
  | [],r,h=>by cases h;rfl
  | x :: l, r, h => by
    simp only [aPC] at h
    split at h
    · rename_i s hs
      have:=aFS hs
      subst this
      split at h
      · split at h
        · rename_i ds hds;cases h;rw [KJ hds]
        · cases h
      · split at h
        · rename_i ds hds;cases h;rw [KJ hds]
        · cases h
      · cases h;rfl
    · cases h
theorem gW{K:List Fr}{c:wP}{m:Nat}{e:SE}{L:List Ch}(h:Gs g (j7 g.T g.n K c m e L)):G g K m e L c:=by
  unfold j7 at h
  split at h
  · rename_i e' L' he hL
    have h1:=aFR he
    have h2:=aFS hL
    subst h1;subst h2
    exact S4 _ _ _ _ _ _ h
  · exact h.elim
end
end Go.Gv
end
noncomputable section
namespace Go.Gv
noncomputable section
variable {P:Program} {N N':Act→World→Prop} {X X':Nat→Act→World→Prop} {T T':Act→World→Prop}
theorem PB(h:LetsOut (ZD N X T)):LetsOut (ZD N' X' T'):=let ⟨_,_,h⟩:=h;h.elim
theorem aHI{o:Oper}{a:Act}{next next':Act→World→Prop}{r:Result Next}(hn:∀a w,next a w→next' a w)(h:o.upon P a next (ZD N X T) r):o.upon P a next' (ZD N' X' T') r:=by
  unfold Oper.upon at h ⊢
  split at h
  · exact hn _ _ h
  · exact hn _ _ h
  · exact hn _ _ h
  · refine Calls.mono h fun e w' he=>?_
    cases e with
    | returned v=>exact hn _ _ he
    | panicked c=>exact he.elim
    | outgrown=>exact PB he
  · exact Rows.mono h fun u w'' he=>hn _ _ he
  · exact h.elim
  · exact h.elim
theorem S5{ops:Array Oper}(hN:∀a w,N a w→N' a w):∀(l:List Oper) {a:Act} {w:World},wpList P ops (ZD N X T) l a w→wpList P ops (ZD N' X' T') l a w
  | [],a,w,h=>hN a w h
  | o :: l, a, w, h => by
    unfold wpList at h ⊢
    split
    · rename_i hw
      rw [if_pos hw] at h
      rcases h with h | ⟨h1,h2⟩
      · exact .inl (aHI (fun _ _ h=>S5 hN l h) h)
      · exact .inr ⟨h1,PB h2⟩
    · rename_i hw
      rw [if_neg hw] at h
      exact S5 hN l h
theorem aHJ{ops:Array Oper}{i:Nat}{k k':Act→World→Prop}{a:Act}{w:World}(hk:∀a w,k a w→k' a w)(h:wpOp P ops (ZD N X T) i k a w):wpOp P ops (ZD N' X' T') i k' a w:=by
  unfold wpOp at h ⊢
  split
  · rename_i h0;rw [h0] at h;exact hk _ _ h
  · rename_i o h0
    rw [h0] at h
    simp only at h
    split
    · rename_i hw
      rw [if_pos hw] at h
      rcases h with h | ⟨h1,h2⟩
      · exact .inl (aHI hk h)
      · exact .inr ⟨h1,PB h2⟩
    · rename_i hw
      rw [if_neg hw] at h
      exact hk _ _ h
theorem S6{ops:Array Oper}{S:World→Prop}(hN:∀a w,N a w→N' a w):∀(fuel:Nat) {oC:Array Bool} {a:Act} {w:World},wpAnyH P .any ops (ZD N X T) S fuel oC a w→wpAnyH P .any ops (ZD N' X' T') S fuel oC a w
  | 0,_,a,w,h=>⟨h.1,hN a w h.2⟩
  | f+1,_,a,w,h=>⟨fun h0=>hN a w (h.1 h0),fun i hi=>aHJ (fun _ _ h=>⟨h.1,S6 hN f h.2⟩) (h.2 i hi)⟩
end
noncomputable section
variable {P:Program} {T:TT} {hT:GM P T} {n:Nat} {c:Ctx} {B0:Bl} {N N1:Act→World→Prop} {X X1:Nat→Act→World→Prop} {Q:Act→World→Prop} {K K':List Fr} {m m':Nat} {e e':SE} {L L':List Ch} {cf cf':wP}
theorem aJN(Kb:List Fr)(hN:∀a w,N1 a w→NK (.mk P T hT n c B0 N X Q) Kb a w)(hX:∀i a w,X1 i a w→XK (.mk P T hT n c B0 N X Q) Kb i a w):∀(Ka:List Fr),(∀a w,NK (.mk P T hT n c B0 N1 X1 Q) Ka a w→NK (.mk P T hT n c B0 N X Q) (Ka++Kb) a w)∧(∀i a w,XK (.mk P T hT n c B0 N1 X1 Q) Ka i a w→XK (.mk P T hT n c B0 N X Q) (Ka++Kb) i a w)
  | []=>⟨hN,hX⟩
  | .s y :: Ka => by
    obtain⟨h1,h2⟩:=aJN Kb hN hX Ka
    exact⟨fun a w h=>CW.mono (show CW P y (NK _ Ka) (XK _ Ka) Q a w from h) h1 h2 (fun _ _ h=>h),h2⟩
  | .k id :: Ka => by
    obtain⟨h1,h2⟩:=aJN Kb hN hX Ka
    refine⟨h1,fun i a w h=>?_⟩
    simp only [XK,ZZ,List.cons_append] at h ⊢
    split
    · rename_i hi;rw [if_pos hi] at h;exact h1 a w h
    · rename_i hi;rw [if_neg hi] at h;exact h2 i a w h
theorem aX8{Ka Kb:List Fr}(hN:∀a w,N1 a w→NK (.mk P T hT n c B0 N X Q) Kb a w)(hX:∀i a w,X1 i a w→XK (.mk P T hT n c B0 N X Q) Kb i a w)(h:G (.mk P T hT n c B0 N1 X1 Q) Ka m e L cf):G (.mk P T hT n c B0 N X Q) (Ka++Kb) m e L cf:=by
  obtain⟨h1,h2⟩:=aJN Kb hN hX Ka
  cases cf with
  | n=>exact fun a w hr=>h1 a w (h a w hr)
  | c x=>exact fun a w hr=>CW.mono (h a w hr) h1 h2 (fun _ _ h=>h)
  | r ops l=>exact fun a w hr=>S5 h1 l (h a w hr)
  | d B1 ops l is Lf Lv=>exact fun hD a w hr=>S6 h1 _ (h ⟨hD.pre,hD.len,hD.free,hD.AO,hD.rng,hD.okf,hD.ap⟩ a w hr)
  | o B1 ops l is Lf Lv i=>exact fun hD a w hr=>aHJ (fun _ _ h=>⟨h.1,S6 h1 _ h.2⟩) (h ⟨hD.pre,hD.len,hD.free,hD.AO,hD.rng,hD.okf,hD.ap⟩ a w hr)
theorem ZL{g:Gx}{s:Stop}(hs:PA s=some (K,cf,m,e,L))(h:G g K m e L cf):Gs g s:=by
  cases s <;> simp only [PA] at hs <;> cases hs
  · exact fun _=>h
  · exact h
  · exact h
  · exact fun _ _ _ _ _ _ _=>h
  · exact fun _ _ _ _ _ _ _ _ _ _=>h
  · exact fun _ _ _ _ _ _ _ _ _=>h
  · exact fun _ _=>h
  · exact fun _ _ _=>h
  · exact h
  · exact h
def JP(n:Nat)(c:Ctx)(B0:Bl){π υ:Type}(eq:π→Prop)(m:Nat)(ej:π→υ→SE)(Lj:π→υ→List Ch):Act→World→Prop:=fun a w=>∃p u,eq p∧p8 n c B0 m (ej p u) (Lj p u) a w
theorem jS{B1:Bl}{ops:Array Oper}{l:List Bool}{is:List Nat}{Lf Lv:List Ch}{i j:Nat}(hs:PA (j7 T n K cf m e L)=some (K',.d B1 ops l is Lf Lv,m',e',L'))(hr:tR l ops.toList 0=[i,j])
    (k1:G (.mk P T hT n c B0 N X Q) K' m' e' L' (.o B1 ops l is Lf Lv i)) (k2:G (.mk P T hT n c B0 N X Q) K' m' e' L' (.o B1 ops l is Lf Lv j)):G (.mk P T hT n c B0 N X Q) K m e L cf:=
  gW (g:=.mk P T hT n c B0 N X Q) (ZL hs (aPU (g:=.mk P T hT n c B0 N X Q) hr fun k hk=>by
    rcases List.mem_cons.1 hk with hk | hk
    · subst hk;exact k1
    · simp at hk;subst hk;exact k2))
theorem aPY{B1:Bl}{ops:Array Oper}{l:List Bool}{is:List Nat}{Lf Lv:List Ch}{i j p:Nat}(hs:PA (j7 T n K cf m e L)=some (K',.d B1 ops l is Lf Lv,m',e',L'))(hr:tR l ops.toList 0=[i,j,p])
    (k1:G (.mk P T hT n c B0 N X Q) K' m' e' L' (.o B1 ops l is Lf Lv i)) (k2:G (.mk P T hT n c B0 N X Q) K' m' e' L' (.o B1 ops l is Lf Lv j)) (k3:G (.mk P T hT n c B0 N X Q) K' m' e' L' (.o B1 ops l is Lf Lv p)):G (.mk P T hT n c B0 N X Q) K m e L cf:=
  gW (g := .mk P T hT n c B0 N X Q) (ZL hs (aPU (g := .mk P T hT n c B0 N X Q) hr fun k hk => by
    rcases List.mem_cons.1 hk with hk | hk
    · subst hk;exact k1
    · simp at hk
      rcases hk with rfl | rfl
      · exact k2
      · exact k3))
theorem bd{α β:Type}{A:Option α}{f:α→Option β}{q:β}{C:Prop}(hF:A.bind f=some q)(k:∀x,A=some x→f x=some q→C):C:=by
  cases h:A with
  | none=>rw [h] at hF;cases hF
  | some x=>exact k x h (by rw [h] at hF;exact hF)
theorem nd{β:Type}{p:Prop}[Decidable p]{A:Option β}{q:β}{C:Prop}(hF:need p A=some q)(k:p→A=some q→C):C:=k (kH hF).1 (kH hF).2
theorem rb{α:Type}{A:Option α}{x:α}(h:A=some x):A.bind some=some x:=by rw [h];rfl
theorem rn{p:Prop}[Decidable p](h:p):need p (some ())=some ():=by simp [need,h]
theorem go(hs:PA (j7 T n K cf m e L)=some (K',cf',m',e',L'))(k:G (.mk P T hT n c B0 N X Q) K' m' e' L' cf'):G (.mk P T hT n c B0 N X Q) K m e L cf:=
  gW (g:=.mk P T hT n c B0 N X Q) (ZL hs k)
theorem cut{π υ:Type}(j mj:Nat)(eq:π→Prop)(ks:List Nat)(ej:π→υ→SE)(is:List Nat)(Lj:π→υ→List Ch)(hs:PA (j7 T n K cf m e L)=some (K',cf',m',e',L'))
    (k1:G (.mk P T hT n c B0 (JP n c B0 eq mj (fun p u=>ej p u++kp e' ks) (fun p u=>Lj p u++kl L' is)) (XK (.mk P T hT n c B0 N X Q) (K'.drop j)) Q) (K'.take j) m' e' L' cf')
    (k2:∀p u,eq p→G (.mk P T hT n c B0 N X Q) (K'.drop j) mj (ej p u++kp e' ks) (Lj p u++kl L' is) .n):G (.mk P T hT n c B0 N X Q) K m e L cf:=by
  refine go hs ?_
  rw [←List.take_append_drop j K']
  refine aX8 (fun a w ⟨p,u,h1,h2⟩=>?_) (fun _ _ _ h=>h) k1
  exact k2 p u h1 a w h2
theorem jn{π υ:Type}{eq:π→Prop}{mj:Nat}{ej:π→υ→SE}{Lj:π→υ→List Ch}{p:π}(u:υ)(is:List Nat)(hF:eq p)(hs:j7 T n K cf m e L=.fin m' e' L')(h:RC B0.length m' e' L' is mj (ej p u) (Lj p u)=some (ej p u,Lj p u)):G (.mk P T hT n c B0 (JP n c B0 eq mj ej Lj) X Q) K m e L cf:=
  gW (g:=.mk P T hT n c B0 _ X Q) (by
    rw [hs]
    exact fun a w hr=>⟨p,u,hF,p8.RC hr is h⟩)
theorem RH{b cb:Bool}{a:Act}{B:Bl}(hb:b=cb):∀(ss:List Nat),aY (DF e) ss=some (ss.map fun _=>SV.b b)→gI n B e a→gI n B (ovr cb e ss) a:=by
  intro ss hs hA
  refine⟨hA.d,hA.size,?_⟩
  subst hb
  have key:∀k∈ss,DF e k=some (.b b):=by
    induction ss with
    | nil=>intro k hk;cases hk
    | cons s ss ih =>
      simp only [aY,List.map_cons] at hs
      split at hs
      · cases hs
      · rename_i h1
        split at hs
        · cases hs
        · rename_i h2
          cases hs
          intro k hk
          rcases List.mem_cons.1 hk with hk | hk
          · subst hk;exact h1
          · exact ih h2 k hk
  clear hs
  induction ss with
  | nil=>exact hA.get
  | cons s ss ih =>
    intro k x hk
    simp only [ovr,DF] at hk
    cases hb:Nat.beq k s with
    | true =>
      rw [hb] at hk;cases hk
      rw [Nat.eq_of_beq_eq_true hb]
      exact hA.get s (.b b) (key s (by simp))
    | false =>
      rw [hb] at hk
      exact ih (fun k hk=>key k (List.mem_cons_of_mem _ hk)) k x hk
theorem ZM{b cb:Bool}{a:Act}{w:World}(hb:b=cb)(ss:List Nat)(hs:aY (DF e) ss=some (ss.map fun _=>SV.b b))(h:p8 n c B0 m e L a w):p8 n c B0 m (ovr cb e ss) L a w:=by
  obtain⟨B,h1,hA,hS⟩:=h
  exact⟨B,h1,RH hb ss hs hA,hS⟩
theorem aAI{e1:SE}(h:∀a B,gI n B e a→gI n B e1 a)(k:G (.mk P T hT n c B0 N X Q) K m e1 L cf):G (.mk P T hT n c B0 N X Q) K m e L cf:=by
  cases cf with
  | d B1 ops l is Lf Lv=>exact fun hD a w ⟨B,h1,h2,h3,h4⟩=>k hD a w ⟨B,h1,h a _ h2,h3,h4⟩
  | o B1 ops l is Lf Lv i=>exact fun hD a w ⟨B,h1,h2,h3,h4⟩=>k hD a w ⟨B,h1,h a _ h2,h3,h4⟩
  | _=>exact fun a w ⟨B,h1,h2,h3⟩=>k a w ⟨B,h1,h a _ h2,h3⟩
noncomputable section
variable {b:Bool} {α:Type} {A B':Option α} {q:Option α}
theorem cs{o:Operand}{x y:Code}(ss:List Nat)(hs:j7 T n K cf m e L=.cond o b x y K' m' e' L')(ho:aY (DF e') ss=some (ss.map fun _=>SV.b b))(hF:(if b=true then A else B')=q)
    (k1:A=q→G (.mk P T hT n c B0 N X Q) K' m' (ovr true e' ss) L' (.c x)) (k2:B'=q→G (.mk P T hT n c B0 N X Q) K' m' (ovr false e' ss) L' (.c y)):G (.mk P T hT n c B0 N X Q) K m e L cf:=
  gW (g := .mk P T hT n c B0 N X Q) (by
    rw [hs]
    intro he a w hr
    have ⟨B,hm,hA,hS⟩:=hr
    obtain⟨v,h1,h2⟩:=eR hA he
    cases h1
    refine lN hA.env h2 (fun hc=>?_) (fun hc=>?_)
    · rw [if_pos hc] at hF
      exact k1 hF a w (ZM hc ss ho hr)
    · rw [if_neg (by rw [hc];simp)] at hF
      exact k2 hF a w (ZM hc ss ho hr))
theorem ca{cf':wP}(ss:List Nat)(hs:j7 T n K cf m e L=.case b cf' K' m' e' L')(ho:aY (DF e') ss=some (ss.map fun _=>SV.b b))(hF:(if b=true then A else B')=q)
    (k1:A=q→G (.mk P T hT n c B0 N X Q) K' m' (ovr true e' ss) L' cf') (k2:B'=q→G (.mk P T hT n c B0 N X Q) K' m' (ovr false e' ss) L' cf'):G (.mk P T hT n c B0 N X Q) K m e L cf:=
  gW (g:=.mk P T hT n c B0 N X Q) (by
    rw [hs]
    cases b with
    | true=>exact aAI (fun a B hA=>RH rfl ss ho hA) (k1 (by simpa using hF))
    | false=>exact aAI (fun a B hA=>RH rfl ss ho hA) (k2 (by simpa using hF)))
end
def QS(P:Program)(fn:Func)(c:Ctx)(B0:Bl){ρ ex:Type}(sv:ρ→ex→SV)(Lf:ρ→ex→List Ch)(r:ρ):Act→World→Prop:=Fin P fn fun v w'=>∃y,gC B0 (sv r y)=some v∧mP c w' B0 (Lf r y)
theorem aLK{r:ResultVar}{x:SV}{B:Bl}{a:Act}{w:World}(hT:GM P T)(hA:gI n B e a)(hS:mP c w B L)(h:aPD T e L r=some x):∃v,gC B x=some v∧(O9 a.tmps r).run P w=.ok v w:=by
  cases r with
  | tmp t =>
    obtain⟨v,h1,h2⟩:=hA.get t x h
    exact⟨v,h1,by simp [O9,h2]⟩
  | cell t ty =>
    simp only [aPD] at h
    split at h
    · rename_i p hp
      obtain⟨v,h1,h2⟩:=hA.get t p hp
      unfold aHA at h
      split at h
      · rename_i n0 o0
        split at h
        · rename_i cs _ mm _ hb hl
          split at h
          · rename_i hle
            split at h
            case h_2=>cases h
            rename_i ds hds
            cases h
            have:=KJ hds
            subst this
            obtain⟨b,z,vs,g1,g2,g3⟩:=hS.cells hb
            have hlen:=lJ g2
            have hle:=Nat.le_of_ble_eq_true hle
            simp only [gC,gV,bQ,g1] at h1
            cases h1
            have h4:=LO mm (LN o0 g2)
            have h5:=TZ g3 (o:=o0) (m:=mm) (by omega)
            have h6:=o7 h5 P
            have h7:((vs.drop o0).take mm).length=mm:=by simp;omega
            rw [h7] at h6
            refine⟨.agg ((vs.drop o0).take mm).toArray,by simp only [gC,gV,h4],?_⟩
            simp [O9,h2,asAddr,loadVar,hT.agg _ _ hl,hT.size _ _ hl,h6]
          · cases h
        · rename_i cs _ _ _ hb hl
          obtain⟨b,z,vs,g1,g2,g3⟩:=hS.cells hb
          simp only [gC,gV,bQ,g1] at h1
          cases h1
          obtain⟨u,h4,h5⟩:=LM g2 h
          refine⟨u,aK5 h4,?_⟩
          have h6:=g3 o0 u h5
          simp [O9,h2,asAddr,loadVar,hT.agg _ _ hl,load,Sem.run,h6]
        · cases h
      · cases h
    · cases h
end
end Go.Gv
end
noncomputable section
namespace Go.Gv
noncomputable section
variable {P:Program} {T:TT} {hT:GM P T} {n:Nat} {c:Ctx} {B0:Bl} {N:Act→World→Prop} {X:Nat→Act→World→Prop} {Q:Act→World→Prop} {K K':List Fr} {m m':Nat} {e e':SE} {L L':List Ch} {cf:wP}
theorem aTM{B:Bl}{x:SV}{v:Value}(h:gC B x=some v)(hc:isCells x=true):gV B x=some v:=by
  cases x <;> first | exact h | cases hc
theorem T1{r:ResultVar}{x:SV}{B:Bl}{a:Act}{w:World}(hT:GM P T)(hA:gI n B e a)(hS:mP c w B L)(h:aJJ T e L r=some x):∃v,gV B x=some v∧(O9 a.tmps r).run P w=.ok v w:=by
  unfold aJJ at h
  split at h
  · rename_i hv
    split at h
    · rename_i hc
      cases h
      obtain⟨v,h1,h2⟩:=aLK hT hA hS hv
      exact⟨v,aTM h1 hc,h2⟩
    · cases h
  · cases h
theorem ZN{rs:List ResultVar}{x:SV}{B:Bl}{a:Act}{w:World}{fn:Func}(hf:fn.results=rs.toArray)(hT:GM P T)(hA:gI n B e a)(hS:mP c w B L)(h:aFH T e L rs=some x):∃v,gC B x=some v∧(results fn a.tmps).run P w=.ok v w:=by
  rw [Z3 hf]
  unfold aFH at h
  split at h
  · cases h;exact⟨.tuple #[],rfl,by simp⟩
  · obtain⟨v,h1,h2⟩:=aLK hT hA hS h
    exact⟨v,h1,by simp [h2]⟩
  · split at h
    · rename_i g1 g2
      cases h
      obtain⟨v1,h1,k1⟩:=T1 hT hA hS g1
      obtain⟨v2,h2,k2⟩:=T1 hT hA hS g2
      exact⟨.tuple #[v1,v2],by simp [gC,aY,h1,h2],by simp [k1,k2]⟩
    · cases h
  · split at h
    · rename_i g1 g2 g3
      cases h
      obtain⟨v1,h1,k1⟩:=T1 hT hA hS g1
      obtain⟨v2,h2,k2⟩:=T1 hT hA hS g2
      obtain⟨v3,h3,k3⟩:=T1 hT hA hS g3
      exact⟨.tuple #[v1,v2,v3],by simp [gC,aY,h1,h2,h3],by simp [k1,k2,k3]⟩
    · cases h
  · cases h
structure FnS (P:Program) (f:FuncId) (c:Ctx) (xs:List SV) (B0:Bl) (L0:List Ch) {ρ ex:Type} (sv:ρ→ex→SV) (Lf:ρ→ex→List Ch) (r:ρ):Prop where
  call:∀args w,(callFunc f args).run P w=.ok (.enter f args) w
  run:∀vs,aY (gC B0) xs=some vs→mP c c.w0 B0 L0→Calls P f vs.toArray c.w0 (Ret fun v w'=>∃y,gC B0 (sv r y)=some v∧mP c w' B0 (Lf r y))
abbrev Fn0(P:Program)(f:FuncId)(c:Ctx)(xs:List SV){ρ:Type}(sv:ρ→SV)(r:ρ):Prop:=FnS P f c xs [] [] (fun r (_:Unit)=>sv r) (fun _ _=>[]) r
def aEO:Nat→List SV→SE
  | _,[]=>[]
  | k,v :: r=>(k,v) :: aEO (k+1) r
theorem aEP{B:Bl}:∀{xs:List SV} {vs:List Value} (k:Nat) {j:Nat} {x:SV},aY (gC B) xs=some vs→DF (aEO k xs) j=some x→∃v,gC B x=some v∧lk (aFA k vs) j=some v
  | [],vs,k,j,x,h,hj=>by simp [aEO,DF] at hj
  | y :: xs, vs, k, j, x, h, hj => by
    simp only [aY] at h
    split at h
    · cases h
    · rename_i h1
      split at h
      · cases h
      · rename_i h2
        cases h
        simp only [aEO,DF] at hj
        simp only [aFA,lk]
        cases hb:Nat.beq j k with
        | true=>rw [hb] at hj;cases hj;exact⟨_,h1,rfl⟩
        | false=>rw [hb] at hj;exact aEP (k+1) h2 hj
theorem en{f:FuncId}{fn:Func}{cd:Code}{xs:List SV}{L0:List Ch}{ρ ex:Type}{sv:ρ→ex→SV}{Lf:ρ→ex→List Ch}{r:ρ}(n:Nat)(hc:∀args w,(callFunc f args).run P w=.ok (.enter f args) w)(hf:P.funcs[f]?=some fn)(hT:GM P T)(hb:fn.body=some cd)(hm:fn.ntmps=n)(hl:Nat.ble xs.length n=true)
    (k:G (.mk P T hT n c B0 (QS P fn c B0 sv Lf r) (fun _ _ _=>False) (QS P fn c B0 sv Lf r)) [] B0.length (aEO 0 xs) L0 (.c cd)):FnS P f c xs B0 L0 sv Lf r:=by
  refine⟨hc,fun vs hv hS=>AM hf hb hm ?_ fun a hA=>?_⟩
  · rw [lJ hv];exact hl
  · refine CW.mono (k a c.w0 ⟨[],by simp,⟨hA.d,hA.size,fun j x hj=>?_⟩,by simpa using hS⟩) (fun _ _ h=>h) (fun _ _ _ h=>h) (fun _ _ h=>h)
    obtain⟨v,h1,h2⟩:=aEP 0 hv hj
    exact⟨v,by simpa using h1,hA.get j v h2⟩
theorem aMV(w:World):mP (cR w) w [] []:=⟨⟨[],St.enter (by simp),by simp⟩,fun _ _ h=>h⟩
theorem rt{fn:Func}{ρ ex:Type}{sv:ρ→ex→SV}{Lf:ρ→ex→List Ch}{r r':ρ}{rs:List ResultVar}{zz:Option ρ}(y:ex)(is:List Nat)(hF:zz=some r)(hz:zz=some r')(hs:j7 T n K cf m e L=.ret m' e' L')(hr:fn.results=rs.toArray){x:SV}(hv:aFH T e' L' rs=some x)(hx:nbS x=sv r' y)(hk:GL B0.length (sv r' y)=true)(hL:RC B0.length m' e' L' is B0.length [] (Lf r' y)=some ([],Lf r' y)):G (.mk P T hT n c B0 N X (QS P fn c B0 sv Lf r)) K m e L cf:=by
  subst hz;cases hF
  refine gW (g:=.mk P T hT n c B0 N X _) ?_
  rw [hs]
  intro a w hr'
  obtain⟨B,hm,hA,hS⟩:=id hr'
  obtain⟨v,h1,h2⟩:=ZN hr hT hA hS hv
  obtain⟨B',hm',_,hS'⟩:=hr'.RC is hL
  have hB':B'=[]:=(by simpa using hm')
  subst hB'
  refine⟨hA.d,v,h2,y,?_,by simpa using hS'⟩
  rw [←hx] at hk ⊢
  have:=MS hk (by rw [ZJ];exact h1)
  rw [List.take_append_of_le_length (Nat.le_refl _),List.take_length] at this
  exact this
theorem rf{fn:Func}{ρ ex:Type}{sv:ρ→ex→SV}{Lf:ρ→ex→List Ch}{r r':ρ}{rs:List ResultVar}{zz:Option ρ}(y:ex)(is:List Nat)(hF:zz=some r)(hz:zz=some r')(hs:j7 T n K cf m e L=.fin m' e' L')(hr:fn.results=rs.toArray){x:SV}(hv:aFH T e' L' rs=some x)(hx:nbS x=sv r' y)(hk:GL B0.length (sv r' y)=true)(hL:RC B0.length m' e' L' is B0.length [] (Lf r' y)=some ([],Lf r' y)):G (.mk P T hT n c B0 (QS P fn c B0 sv Lf r) X Q) K m e L cf:=by
  subst hz;cases hF
  refine gW (g:=.mk P T hT n c B0 _ X Q) ?_
  rw [hs]
  intro a w hr'
  obtain⟨B,hm,hA,hS⟩:=id hr'
  obtain⟨v,h1,h2⟩:=ZN hr hT hA hS hv
  obtain⟨B',hm',_,hS'⟩:=hr'.RC is hL
  have hB':B'=[]:=(by simpa using hm')
  subst hB'
  refine⟨hA.d,v,h2,y,?_,by simpa using hS'⟩
  rw [←hx] at hk ⊢
  have:=MS hk (by rw [ZJ];exact h1)
  rw [List.take_append_of_le_length (Nat.le_refl _),List.take_length] at this
  exact this
def bX(c:Ctx){α:Type}[aJ α](s:AC)(d:List α):Prop:=aJ.rd c.S0 c.w0 [s.v d.length] d
structure HS (c:Ctx) (w:World) (L:List Ch):Prop where
  ex:∃B,mP c w B L
abbrev ow{α:Type}[aJ α](s:AC)(d:List α):Ch:=.o (fW [s.v d.length] d)
abbrev fr{α:Type}[aJ α](s:AC)(d:List α):Ch:=.f (A0 [s.v d.length] d)
theorem aFT{w:World}{B:Bl}(hS:mP c w B L){f:Fact}(h:f.P c.S0 c.w0):f.P c.S0 w:=by
  obtain⟨⟨R,s1,_⟩,s0⟩:=hS
  exact f.agree h fun b o hb=>s1.keep.cell b o (s0 b o hb) fun hw=>s1.apart b o hw hb
theorem aPZ{w:World}{B:Bl}(hS:mP c w B L):∀b o,c.S0 b o→OW w b o:=fun b o hb=>by
  obtain⟨⟨R,s1,_⟩,s0⟩:=hS
  exact Nat.lt_of_lt_of_le (s0 b o hb) s1.keep.size
theorem HS.a{w:World}{α:Type}[aJ α]{s:AC}{d:List α}(h:HS c w L)(hr:bX c s d):bX (cR w) s d:=by
  obtain⟨B,hS⟩:=h.ex
  have h1:(A0 [s.v d.length] d).P c.S0 w:=aFT hS (f:=A0 [s.v d.length] d) hr
  exact aJ.rd_mono h1 (aPZ hS)
theorem HS.o{w:World}{α:Type}[aJ α]{s:AC}{d:List α}(h:HS c w L)(i:Nat)(hi:L[i]?=some (ow s d)):bX (cR w) s d:=by
  obtain⟨B,⟨⟨R,s1,_⟩,_⟩⟩:=h.ex
  exact s1.aKT i (by rw [List.getElem?_map,hi];rfl)
theorem HS.f{w:World}{α:Type}[aJ α]{s:AC}{d:List α}(h:HS c w L)(i:Nat)(hi:L[i]?=some (fr s d)):bX (cR w) s d:=by
  obtain⟨B,⟨⟨R,s1,s2⟩,_⟩⟩:=h.ex
  obtain⟨j,hj⟩:=List.getElem?_of_mem (s2 _ (List.mem_of_getElem? hi))
  exact s1.rd j hj
theorem ZO{B:Bl}:∀{xs:List SV} {vs:List Value},okA xs=true→aY (gC B) xs=some vs→aY (gC []) xs=some vs
  | [],vs,_,h=>h
  | x :: xs, vs, ho, h => by
    simp only [okA] at ho
    split at ho
    · rename_i h0
      simp only [aY] at h
      split at h
      · cases h
      · rename_i h1
        split at h
        · cases h
        · rename_i h2
          cases h
          have h3:=MS h0 h1
          rw [List.take_zero] at h3
          simp [aY,h3,ZO ho h2]
    · cases ho
theorem W0{B:Bl}{a:Act}(hA:gI n B e a):∀{os:List Operand} {xs:List SV},aY (iX e) os=some xs→∃vs,aY (gC B) xs=some vs∧Z2 (vE B e) os=some vs
  | [],xs,h=>by cases h;exact⟨[],rfl,rfl⟩
  | o :: os, xs, h => by
    simp only [aY] at h
    split at h
    · cases h
    · rename_i h1
      split at h
      · cases h
      · rename_i h2
        cases h
        obtain⟨v,k1,k2⟩:=eR hA h1
        obtain⟨vs,k3,k4⟩:=W0 hA h2
        exact⟨v :: vs,by simp [aY,k1,k3],by simp [Z2,k2,k4]⟩
def noF:List Ch→Bool
  | []=>true
  | .ro _ _ :: _=>false
  | .f _ :: _=>false
  | .w _ _ _ :: _=>false
  | _ :: L=>noF L
theorem aFU{B:Bl}{R:List Fact}:∀{L:List Ch},noF L=true→∀x∈L,roF B R x
  | [],_,x,hx=>by cases hx
  | y :: L, h, x, hx => by
    rcases List.mem_cons.1 hx with hx' | hx'
    · subst hx'
      cases x <;> first | trivial | cases h
    · cases y with
      | ro=>cases h
      | f=>cases h
      | w=>cases h
      | _=>exact aFU (L:=L) h x hx'
theorem mP.after{w w':World}{B:Bl}{L2:List Ch}(h:mP c w B L)(hn:noF L2=true)(k:mP (cR w) w' [] L2):mP c w' B (L++L2):=by
  obtain⟨⟨R,s1,s2⟩,s0⟩:=h
  obtain⟨⟨R',t1,t2⟩,t0⟩:=k
  refine⟨⟨R,?_,fun x hx=>?_⟩,s0⟩
  · rw [List.map_append]
    have h1:=s1.after t1
    refine h1.imp (jM.append (jM.refl _) ?_)
    have:=RD (B:=[]) B (w:=w') L2
    simpa using this
  · rcases List.mem_append.1 hx with hx | hx
    · exact s2 x hx
    · exact aFU hn x hx
theorem mP.aP0{w w':World}{B:Bl}(h:mP c w B L)(k:gJ F0 w w'):mP c w' B L:=by
  obtain⟨⟨R,s1,s2⟩,s0⟩:=h
  exact⟨⟨R,s1.same k,s2⟩,s0⟩
theorem T2{o:Oper}{f:FuncId}{x:Operand}{args:Array Operand}{ts:Array TypeId}{vs:List Value}{E:Env}{w:World}(hcall:∀args w,(callFunc f args).run P w=.ok (.enter f args) w)(ho:o.op=.call {callee:=.value x,args:=args,argTypes:=ts})(hx:ev E x=some (.func (.func f) #[] #[]))(hv:Z2 E args.toList=some vs):aN4 P o E w f vs.toArray:=by
  have:=aG3 (w:=w) (cap:=[]) (xs:=args.toList) (vs:=vs) hcall (by simpa using ho) hx hv
  simpa using this
theorem cl{α β ex:Type}{fo:Option α}{kf:α→Option β}{q:β}{o:Oper}{d:Nat}{f:FuncId}{xs:List SV}{cf1 cf2:wP}{sv:α→ex→SV}{Lf:α→ex→List Ch}(hs:j7 T n K cf m e L=.call o (some d) f xs cf1 cf2 K' m' e' L')(hn:∀x y,noF (Lf x y)=true)
    (hc:∀{w},HS c w L'→∀{x},fo=some x→FnS P f (cR w) xs [] [] sv Lf x) (hF:fo.bind kf=some q)
    (k:∀x,fo=some x→kf x=some q→∀y:ex,G (.mk P T hT n c B0 N X Q) K' m' ((d,sv x y) :: e') (L'++Lf x y) cf2):G (.mk P T hT n c B0 N X Q) K m e L cf:=by
  refine gW (g:=.mk P T hT n c B0 N X Q) ?_
  rw [hs]
  intro fo' args ats ho hd hf ⟨ys,hys,hxs⟩ hA0 hdn hE
  subst hxs
  cases hfo:fo with
  | none=>rw [hfo] at hF;cases hF
  | some x =>
    rw [hfo] at hF
    refine hE ex (fun _=>m') (fun y=>(d,sv x y) :: e') (fun y=>L'++Lf x y) (fun y=>yW _) (fun B a w next Q' hm hA hS hnext=>?_) (k x hfo hF)
    obtain⟨hcall,hrun⟩:=hc ⟨_,hS⟩ hfo
    obtain⟨vs,h1,h2⟩:=W0 hA hys
    obtain⟨v,h3,h4⟩:=eR hA hf
    simp [gC,aY] at h3
    subst h3
    have h5:=hrun vs (ZO hA0 (by rw [RE];exact h1)) (aMV w)
    have h6:=T2 (w:=w) hcall ho h4 h2
    unfold Oper.wp
    rw [h6 _ a hA.env,Oper.upon_enter]
    refine Calls.mono h5 fun en w' ⟨v,hv,y,g1,g2⟩=>?_
    subst hv
    rw [hd]
    have g3:=D5 (TS (.mk P T hT n c B0 N X Q) cf1++B) g1
    exact hnext y _ _ ⟨[],by simpa using hm,by simpa using hA.of (by simpa using g3) (hA.env.put (by simpa [rH,Nat.blt_eq] using hdn) v),by simpa using hS.after (hn x y) g2⟩
end
end Go.Gv
end
noncomputable section
namespace Go.Gv
noncomputable section
variable {P:Program} {T:TT} {hT:GM P T} {n:Nat} {c:Ctx} {B0:Bl} {N:Act→World→Prop} {X:Nat→Act→World→Prop} {Q:Act→World→Prop} {K K':List Fr} {m m':Nat} {e e':SE} {L L':List Ch} {cf:wP}
def NxP(n:Nat)(c:Ctx)(B0:Bl){σ ρ υ:Type}(o:Step σ ρ)(m:Nat)(el:σ→υ→SE)(Ll:σ→υ→List Ch):Act→World→Prop:=fun a w=>∃s u,o=.next s∧p8 n c B0 m (el s u) (Ll s u) a w
def BkP(n:Nat)(c:Ctx)(B0:Bl){β ρ υ:Type}(ro:ρ)(enc:β→ρ)(m:Nat)(ej:β→υ→SE)(Lj:β→υ→List Ch)(id:Nat)(X:Nat→Act→World→Prop):Nat→Act→World→Prop:=fun i a w=>if i=id then ∃b u,ro=enc b∧p8 n c B0 m (ej b u) (Lj b u) a w else X i a w
theorem lp{σ ρ υ β ω α:Type}{id:Nat}{y:Code}{fb:σ→Option (Step σ ρ)}{s0:σ}{gk:ρ→Option α}{q:α}(u0:υ)(ks:List Nat)(el:σ→υ→SE)(is0 is:List Nat)(Ll:σ→υ→List Ch)(enc:β→ρ)(kb:List Nat)(ej:β→ω→SE)(ib:List Nat)(Lj:β→ω→List Ch)
    (hs:j7 T n K cf m e L=.loop id y K' m' e' L') (hF:(loop fb s0).bind gk=some q)
    (h0:RC B0.length m' e' L' is0 m' (el s0 u0++kp e' ks) (Ll s0 u0++kl L' is)=some (el s0 u0++kp e' ks,Ll s0 u0++kl L' is))
    (k1:∀ro,gk ro=some q→∀s u o,fb s=some o→(∀p,o=.stop p→p=ro)→G (.mk P T hT n c B0 (NxP n c B0 o m' (fun s u=>el s u++kp e' ks) (fun s u=>Ll s u++kl L' is)) (BkP n c B0 ro enc m' (fun b u=>ej b u++kp e' kb) (fun b u=>Lj b u++kl L' ib) id (XK (.mk P T hT n c B0 N X Q) K')) Q) [] m' (el s u++kp e' ks) (Ll s u++kl L' is) (.c y))
    (k2:∀b u,gk (enc b)=some q→G (.mk P T hT n c B0 N X Q) K' m' (ej b u++kp e' kb) (Lj b u++kl L' ib) .n):G (.mk P T hT n c B0 N X Q) K m e L cf:=by
  refine gW (g:=.mk P T hT n c B0 N X Q) ?_
  rw [hs]
  intro a w hr
  cases hl:loop fb s0 with
  | none=>rw [hl] at hF;cases hF
  | some ro =>
    rw [hl] at hF
    have hF:gk ro=some q:=hF
    refine lI (JM (body:=fb) (r:=ro) (fun s a w=>∃u,p8 n c B0 m' (el s u++kp e' ks) (Ll s u++kl L' is) a w) ?_ hl ⟨u0,hr.RC is0 h0⟩)
    intro s a w o ⟨u,hI⟩ hb ho
    refine CW.mono (k1 ro hF s u o hb ho a w hI) ?_ ?_ (fun _ _ h=>h)
    · rintro a w ⟨s',u',h1,h2⟩
      exact⟨s',h1,u',h2⟩
    · intro i a w h
      simp only [XK,BkP,ZZ] at h ⊢
      split
      · rename_i hi
        rw [if_pos hi] at h
        obtain⟨b,u,h1,h2⟩:=h
        exact k2 b u (h1 ▸ hF) a w h2
      · rename_i hi
        rw [if_neg hi] at h
        exact h
theorem nx{σ ρ υ:Type}{o:Step σ ρ}{mj:Nat}{el:σ→υ→SE}{Ll:σ→υ→List Ch}{s:σ}(u:υ)(is:List Nat)(hG:some (Step.next s)=some o)(hs:j7 T n K cf m e L=.fin m' e' L')(h:RC B0.length m' e' L' is mj (el s u) (Ll s u)=some (el s u,Ll s u)):G (.mk P T hT n c B0 (NxP n c B0 o mj el Ll) X Q) K m e L cf:=
  gW (g:=.mk P T hT n c B0 _ X Q) (by
    rw [hs]
    cases hG
    exact fun a w hr=>⟨s,u,rfl,hr.RC is h⟩)
theorem bk{σ ρ β υ:Type}{o:Step σ ρ}{ro:ρ}{enc:β→ρ}{mj id:Nat}{ej:β→υ→SE}{Lj:β→υ→List Ch}{b:β}(u:υ)(is:List Nat)(hG:some (Step.stop (enc b))=some o)(hr:∀p,o=.stop p→p=ro)(hs:j7 T n K cf m e L=.ex id m' e' L')(h:RC B0.length m' e' L' is mj (ej b u) (Lj b u)=some (ej b u,Lj b u)):G (.mk P T hT n c B0 N (BkP n c B0 ro enc mj ej Lj id X) Q) K m e L cf:=
  gW (g:=.mk P T hT n c B0 N _ Q) (by
    rw [hs]
    cases hG
    have:=hr _ rfl
    subst this
    intro a w hr
    show BkP n c B0 (enc b) enc mj ej Lj id X id a w
    unfold BkP
    rw [if_pos rfl]
    exact⟨b,u,rfl,hr.RC is h⟩)
theorem re{σ ρ α:Type}{o:Step σ ρ}{p ro:ρ}{F:ρ→Option α}{q:Option α}{zz:Option (Step σ ρ)}(hG:zz=some o)(hz:zz=some (Step.stop p))(hr:∀p,o=.stop p→p=ro)(hF:F ro=q):F p=q:=by
  subst hz;cases hG
  rw [hr _ rfl];exact hF
structure JE (α:Type) [aJ α] where
  ex:Type
  cs:α→ex→List SV
  sub:cL→World→α→ex→Prop
  ok:∀{S w ec x},aJ.rd S w ec x→∃y,aY (bQ []) (cs x y)=some ec∧sub S w x y
  sv:α→ex→SV
  aZ8:∀{S S' w w' x y},sub S w x y→(∀b o,S b o→w'.cell? ⟨b,o,none⟩=w.cell? ⟨b,o,none⟩)→(∀b o,S b o→S' b o)→sub S' w' x y
def cI:JE Int:=⟨Unit,fun x _=>[.i .i64 x],fun _ _ _ _=>True,fun h=>⟨(),by cases h;rfl,trivial⟩,fun x _=>.i .i64 x,fun _ _ _=>trivial⟩
def cB:JE Bool:=⟨Unit,fun x _=>[.b x],fun _ _ _ _=>True,fun h=>⟨(),by cases h;rfl,trivial⟩,fun x _=>.b x,fun _ _ _=>trivial⟩
def cU:JE UInt8:=⟨Unit,fun x _=>[.y x],fun _ _ _ _=>True,fun h=>⟨(),by cases h;rfl,trivial⟩,fun x _=>.y x,fun _ _ _=>trivial⟩
theorem aLL{α:Type}[aJ α]{S:cL}{w:World}{ec:List Value}{l:List α}(h:aJ.rd S w ec l):∃s:AC,ec=[s.v l.length]:=by
  obtain⟨ad,m,h1,_⟩:=(show tC S w ec l from h)
  exact⟨⟨ad,m⟩,h1⟩
theorem St.aYA{w:World}{M:List Chunk}{R:List Fact}{f:Fact}(h:St c w M R)(s0:∀b o,c.S0 b o→b < c.w0.heap.size)(hf:f.P c.S0 c.w0):St c w M (R ++ [f]):=by
  obtain⟨F,S,a1,a2,a3,a4,a5,a6⟩:=h.sep
  refine⟨h.keep,⟨F,fun b o=>S b o∨c.S0 b o,a1,?_,a3,?_,?_,?_⟩,h.apart⟩
  · rintro b o hF (hs | hs)
    · exact a2 b o hF hs
    · rcases a3 b o hF with hw | hw
      · exact h.apart b o hw hs
      · have:=s0 b o hs;omega
  · rintro b o (hs | hs)
    · exact a4 b o hs
    · exact .inl hs
  · rintro b o (hs | hs)
    · exact a5 b o hs
    · exact Nat.lt_of_lt_of_le (s0 b o hs) h.keep.size
  · intro g hg
    rcases List.mem_append.1 hg with hg | hg
    · exact g.mono (a6 g hg) fun b o hs=>.inl hs
    · simp at hg;subst hg
      exact g.mono (g.agree hf fun b o hb=>h.keep.cell b o (s0 b o hb) fun hw=>h.apart b o hw hb) fun b o hs=>.inr hs
theorem mP.aYB{w:World}{B:Bl}{k b z:Nat}{cs:List SV}{vs:List Value}(h:mP c w B L)(hk:B[k]?=some (b,z))(hc:aY (bQ B) cs=some vs)(hf:(fAt b z vs).P c.S0 c.w0):mP c w B (L ++ [.ro k cs]):=by
  obtain⟨⟨R,s1,s2⟩,s0⟩:=h
  refine⟨⟨R ++ [fAt b z vs],?_,fun x hx=>?_⟩,s0⟩
  · rw [List.map_append]
    exact St.more (ch:=HY) (St.aYA s1 s0 hf) (gJ.refl _ _) ⟨F0,fun _ _ h=>h,fun _ _ h=>h.elim⟩
  · rcases List.mem_append.1 hx with hx | hx
    · exact TY (fun f hf=>List.mem_append_left _ hf) (s2 x hx)
    · simp at hx;subst hx
      exact⟨b,z,vs,hk,hc,by simp⟩
theorem ix{α β:Type}{iR:aJ α}(C:JE α){o:Oper}{d t:Nat}{s:AC}{i:Int}{Lv:List Ch}{cf1 cf2:wP}{ls:List α}{kf:α→Option β}{q:β}{el sz:Nat}{b1 b2:Bool}{z1 z2:List SV}{k2:TK}{n1:Nat}(hs:j7 T n K cf m e L=.idx o d t s ls.length i Lv cf1 cf2 K' m' e' L')(h1:bX c s ls)(hF:(idx ls i).bind kf=some q)(ht:A1 T t=some ⟨.sl el,b1,n1,z1⟩)(he:A1 T el=some ⟨k2,b2,sz,z2⟩)(hn:aJ.n α=sz)
    (k:∀x,idx ls i=some x→kf x=some q→∀y:C.ex,C.sub c.S0 c.w0 x y→G (.mk P T hT n c B0 N X Q) K' (m'+1) ((d,.p m' 0) :: e') (L' ++ [.ro m' (C.cs x y)]) (cf2.ext [.ro m' (C.cs x y)])):G (.mk P T hT n c B0 N X Q) K m e L cf:=by
  refine gW (g:=.mk P T hT n c B0 N X Q) ?_
  rw [hs]
  intro x' y' ho hd hx hy hP
  cases hi:idx ls i with
  | none=>rw [hi] at hF;cases hF
  | some x =>
    rw [hi] at hF
    obtain⟨dd,hd1,hd2⟩:=hT.und _ _ ht
    simp only at hd2;subst hd2
    obtain⟨ec,p1,p2⟩:=aV7 (S:=c.S0) (w:=c.w0) h1 (kG hi).2.2
    obtain⟨y,p3,p4⟩:=C.ok p2
    subst hn
    refine hP d (.p m' 0) [.ro m' (C.cs x y)] (fun _=>[(O5 (s.v ls.length),OX (aJ.n α) i.toNat (s.v ls.length))]) 1 hd (fun _=>rfl) (fun B a w hA hS hm=>?_) (fun B w L hm hS=>?_) (k x hi hF y p4)
    · obtain⟨v,g1,g2⟩:=eR hA hx
      obtain⟨u,g3,g4⟩:=eR hA hy
      cases g1;cases g3
      have hrd:aJ.rd c.S0 w [s.v ls.length] ls:=aFT hS (f:=A0 [s.v ls.length] ls) h1
      exact⟨_,by simp [gC,gV,bQ,←hm],O8 (P:=P) (o:=o) (w:=w) hrd rfl hi hd1 (hT.size _ _ he) ho g2 g4⟩
    · exact(hS.app _).aYB (b:=O5 (s.v ls.length)) (z:=OX (aJ.n α) i.toNat (s.v ls.length)) (by simp [←hm]) (fL (fun x v h=>by simpa using gR (B:=[]) _ h) p3) p1
theorem dr{id:Nat}{ops:Array Oper}(is:List Nat)(hs:j7 T n K cf m e L=.rgn id ops K' m' e' L')(hm:P.follows .mixedOrders=true)(hf:(aHC ops && (okL m' (kl L' is) && (dP is && is.all fun j=>Nat.blt j L'.length)))=true)
    (k:∀B1,G (.mk P T hT n c B0 N X Q) K' m' e' L' (.d B1 ops (List.replicate ops.size false) is (kl L' is) (kl L' is))):G (.mk P T hT n c B0 N X Q) K m e L cf:=by
  refine gW (g:=.mk P T hT n c B0 N X Q) ?_
  rw [hs]
  intro a w ⟨B,hmm,hA,hS⟩
  simp only [Bool.and_eq_true,List.all_eq_true,Nat.blt_eq] at hf
  obtain⟨f1,f2,f3,f4⟩:=hf
  refine wp_region_held (S:=Sd (.mk P T hT n c B0 N X Q) (B0++B) (kl L' is)) hm ?_
  have:=k (B0++B) ⟨⟨B,rfl⟩,by simp,f1,rfl,f4,by rw [hmm];exact f2,f3⟩ a w.drew ⟨[],by simpa using hmm,by simpa using hA,by simpa using hS.aP0 (gJ.drew F0 w),fun w' h=>by simpa using h⟩
  simpa using this
end
end Go.Gv
end
noncomputable section
namespace Go.Gv
inductive StF (P:Program):List Field→List (Nat×Nat)→Prop where
  | n:StF P [] []
  | c {F:Field} {Fs:List Field} {fs:List (Nat×Nat)} {m:Nat} (h:∀w,(sizeOf F.type).run P w=.ok m w) (t:StF P Fs fs):StF P (F :: Fs) ((F.offset,m) :: fs)
noncomputable section
variable {P:Program} {T:TT} {t n:Nat} {a:Bool} {zs:List SV} {z:Value}
theorem StF.off{Fs:List Field}{fs:List (Nat×Nat)}(h:StF P Fs fs):Fs.map (·.offset)=fs.map (·.1):=by
  induction h with
  | n=>rfl
  | c h t ih=>simp [ih]
theorem StF.get{Fs:List Field}{fs:List (Nat×Nat)}(h:StF P Fs fs):∀(j:Nat) F,Fs[j]?=some F→∃m,fs[j]?=some (F.offset,m)∧∀w,(sizeOf F.type).run P w=.ok m w:=by
  induction h with
  | n=>intro j F h;simp at h
  | c h t ih =>
    intro j F hj
    cases j with
    | zero=>simp at hj;subst hj;exact⟨_,rfl,h⟩
    | succ j=>exact ih j F (by simpa using hj)
theorem StF.run{Fs:List Field}{fs:List (Nat×Nat)}(h:StF P Fs fs)(w:World):(Fs.mapM fun f=>(do pure (f.offset,←sizeOf f.type):Sem (Nat×Nat))).run P w=.ok fs w:=by
  induction h with
  | n=>simp
  | c h t ih=>simp [h] at ih ⊢;simp [ih]
theorem GM.nil:GM P []:=⟨fun _ _ h=>(by cases h),fun _ _ h=>(by cases h),fun _ _ h=>(by cases h),fun _ _ h=>(by cases h)⟩
theorem GM.add{k:TK}{d:TypeDesc}(hu:P.underlying t=some d)(hk:match k with
    | .i k=>d=.int k
    | .b=>d=.bool
    | .st fs=>∃Fs:Array Field,d=.struct Fs∧Fs.toList.map (·.offset)=fs.map (·.1)∧(∀(j:Nat) F,Fs[j]?=some F→∃m,fs[j]?=some (F.offset,m)∧∀w,(sizeOf F.type).run P w=.ok m w)∧∀w,(Fs.mapM fun f=>(do pure (f.offset,←sizeOf f.type):Sem (Nat×Nat))).run P w=.ok fs.toArray w
    | .s=>d=.string
    | .sl el=>d=.slice el
    | .x=>True) (ha:∀w,(isAgg t).run P w=.ok a w) (hs:∀w,(sizeOf t).run P w=.ok n w) (hz:∀w,(zeroValue t).run P w=.ok z w) (hc:aY (bQ []) zs=some z.cells.toList) (h:GM P T):GM P ((t,⟨k,a,n,zs⟩) :: T):=by
  refine⟨fun t' i hi=>?_,fun t' i hi=>?_,fun t' i hi=>?_,fun t' i hi=>?_⟩ <;> simp only [A1] at hi <;> split at hi
  · rename_i hb;cases hi;rw [Nat.eq_of_beq_eq_true hb];exact⟨d,hu,hk⟩
  · exact h.und t' i hi
  · rename_i hb;cases hi;rw [Nat.eq_of_beq_eq_true hb];exact ha
  · exact h.agg t' i hi
  · rename_i hb;cases hi;rw [Nat.eq_of_beq_eq_true hb];exact hs
  · exact h.size t' i hi
  · rename_i hb;cases hi;rw [Nat.eq_of_beq_eq_true hb];exact⟨z,hz,hc⟩
  · exact h.zero t' i hi
theorem GM.st{fs:List (Nat×Nat)}{Fs:List Field}(hu:P.underlying t=some (.struct Fs.toArray))(hk:StF P Fs fs)(ha:∀w,(isAgg t).run P w=.ok a w)(hs:∀w,(sizeOf t).run P w=.ok n w)(hz:∀w,(zeroValue t).run P w=.ok z w)(hc:aY (bQ []) zs=some z.cells.toList)(h:GM P T):GM P ((t,⟨.st fs,a,n,zs⟩) :: T):=
  GM.add (k:=.st fs) hu ⟨Fs.toArray,rfl,by simpa using hk.off,fun j F hj=>hk.get j F (by simpa using hj),fun w=>by
    have:=hk.run w
    simp at this ⊢
    simp [this]⟩ ha hs hz hc h
end
abbrev I(x:Int):SV:=.i .i64 x
end Go.Gv
end
noncomputable section
namespace Go.Gv
noncomputable section
variable {P:Program} {T:TT} {hT:GM P T} {n:Nat} {c:Ctx} {B0:Bl} {N:Act→World→Prop} {X:Nat→Act→World→Prop} {Q:Act→World→Prop} {K K':List Fr} {m m':Nat} {e e':SE} {L L':List Ch} {cf cf1 cf2:wP} {o:Oper} {Lv:List Ch} {d:Nat}
theorem ext_nil:cf.ext []=cf:=by cases cf <;> simp [wP.ext]
theorem pu{x:SV}(hs:opS (j7 T n K cf m e L)=some (o,Lv,cf1,cf2,K',m',e',L'))(hd:o.dst=some d)(hv:∀B a w,gI n B e' a→mP c w B Lv→∃v,gC B x=some v∧dZ P o (vE B e') w v w)
    (k:G (.mk P T hT n c B0 N X Q) K' m' ((d,x) :: e') L' cf2):G (.mk P T hT n c B0 N X Q) K m e L cf:=by
  refine gW (g:=.mk P T hT n c B0 N X Q) ?_
  have key:T0 (.mk P T hT n c B0 N X Q) K' m' e' L' o Lv cf1 cf2→G (.mk P T hT n c B0 N X Q) K' m' e' L' cf1:=fun hP=>by
    refine hP d x [] (fun _=>[]) 0 hd (fun _=>rfl) (fun B a w hA hS _=>?_) (fun B w L _ hS=>by simpa using hS) (by rw [ext_nil];simpa using k)
    obtain⟨v,h1,h2⟩:=hv B a w hA hS
    exact⟨v,by simpa using h1,h2⟩
  generalize j7 T n K cf m e L=s at hs
  cases s <;> simp only [opS] at hs <;> cases hs
  · exact fun _ hP=>key hP
  · exact fun _ hP _=>key hP
theorem wY{x:Operand}{k:IntKind}{i:Int}{B:Bl}{a:Act}(hA:gI n B e a)(h:(iX e x).bind sY=some (k,i)):ev (vE B e) x=some (.int k i):=by
  cases hx:iX e x with
  | none=>rw [hx] at h;cases h
  | some y =>
    rw [hx] at h
    obtain⟨v,h1,h2⟩:=eR hA hx
    rw [h2,aJK (x:=y) h h1]
noncomputable section
variable {x y:Operand} {t z:TypeId} {k:IntKind} {i j:Int} {α:Type} {A:Option α} {q:α}
theorem aYC(hs:opS (j7 T n K cf m e L)=some (o,Lv,cf1,cf2,K',m',e',L'))(ho:(o.op,o.dst)=(.binOp .quo t x y z,some d))(hx:(iX e' x).bind sY=some (k,i))(hy:(iX e' y).bind sY=some (k,j))(hF:need (j≠0) A=some q)
    (kk:A=some q→G (.mk P T hT n c B0 N X Q) K' m' ((d,.i k (k.wrap (i.tdiv j))) :: e') L' cf2):G (.mk P T hT n c B0 N X Q) K m e L cf:=
  pu hs (congrArg Prod.snd ho) (fun B a w hA _=>⟨_,rfl,aI6 (congrArg Prod.fst ho) (wY hA hx) (wY hA hy) (kH hF).1⟩) (kk (kH hF).2)
theorem aYD(hs:opS (j7 T n K cf m e L)=some (o,Lv,cf1,cf2,K',m',e',L'))(ho:(o.op,o.dst)=(.binOp .rem t x y z,some d))(hx:(iX e' x).bind sY=some (k,i))(hy:(iX e' y).bind sY=some (k,j))(hF:need (j≠0) A=some q)
    (kk:A=some q→G (.mk P T hT n c B0 N X Q) K' m' ((d,.i k (i.tmod j)) :: e') L' cf2):G (.mk P T hT n c B0 N X Q) K m e L cf:=
  pu hs (congrArg Prod.snd ho) (fun B a w hA _=>⟨_,rfl,VL (congrArg Prod.fst ho) (wY hA hx) (wY hA hy) (kH hF).1⟩) (kk (kH hF).2)
theorem aZZ{x:Operand}{l:List UInt8}{B:Bl}{a:Act}(hA:gI n B e a)(h:iX e x=some (.s l)):ev (vE B e) x=some (sv l):=by
  obtain⟨v,h1,h2⟩:=eR hA h
  cases h1;exact h2
theorem aTO{x:Operand}{cs:List SV}{vs:List Value}{B:Bl}{a:Act}(hA:gI n B e a)(h:(iX e x).map nbS=some (.g cs))(hv:aY (bQ []) cs=some vs):ev (vE B e) x=some (.agg vs.toArray):=by
  cases hx:iX e x with
  | none=>rw [hx] at h;cases h
  | some y =>
    rw [hx] at h
    simp at h
    obtain⟨v,h1,h2⟩:=eR hA hx
    rw [h2,←h1,←ZJ,h]
    simp only [gC,gV]
    have:=fL (g:=bQ B) (fun x v h=>by simpa using gR (B:=[]) B h) hv
    rw [this]
theorem eqS{xs ys:List SV}{vx vy:List Value}{fs:Array Field}{b:Bool}(hg:P.eqGuardType P.depth t=false)(hst:P.stoodInHeld t=false)(hu:P.underlying t=some (.struct fs))(hb:∀w,(Op.eqFields 9999 vx.toArray vy.toArray (match P.underlying t with | some (.struct fs)=>fs | _=>#[]).toList).run P w=.ok b w)(hs:opS (j7 T n K cf m e L)=some (o,Lv,cf1,cf2,K',m',e',L'))(ho:(o.op,o.dst)=(.binOp .eql t x y z,some d))(hx:(iX e' x).map nbS=some (.g xs))(hy:(iX e' y).map nbS=some (.g ys))(hvx:aY (bQ []) xs=some vx)(hvy:aY (bQ []) ys=some vy)
    (kk:G (.mk P T hT n c B0 N X Q) K' m' ((d,.b b) :: e') L' cf2):G (.mk P T hT n c B0 N X Q) K m e L cf:=
  pu hs (congrArg Prod.snd ho) (fun B a w hA _=>⟨_,rfl,aVY hg hst hu hb (congrArg Prod.fst ho) (aTO hA hx hvx) (aTO hA hy hvy)⟩) kk
theorem neS{xs ys:List SV}{vx vy:List Value}{fs:Array Field}{b:Bool}(hg:P.eqGuardType P.depth t=false)(hst:P.stoodInHeld t=false)(hu:P.underlying t=some (.struct fs))(hb:∀w,(Op.eqFields 9999 vx.toArray vy.toArray (match P.underlying t with | some (.struct fs)=>fs | _=>#[]).toList).run P w=.ok b w)(hs:opS (j7 T n K cf m e L)=some (o,Lv,cf1,cf2,K',m',e',L'))(ho:(o.op,o.dst)=(.binOp .neq t x y z,some d))(hx:(iX e' x).map nbS=some (.g xs))(hy:(iX e' y).map nbS=some (.g ys))(hvx:aY (bQ []) xs=some vx)(hvy:aY (bQ []) ys=some vy)
    (kk:G (.mk P T hT n c B0 N X Q) K' m' ((d,.b (!b)) :: e') L' cf2):G (.mk P T hT n c B0 N X Q) K m e L cf:=
  pu hs (congrArg Prod.snd ho) (fun B a w hA _=>⟨_,rfl,aSP hg hst hu hb (congrArg Prod.fst ho) (aTO hA hx hvx) (aTO hA hy hvy)⟩) kk
theorem cl0{α β:Type}{fo:Option α}{kf:α→Option β}{q:β}{f:FuncId}{xs:List SV}{sv:α→SV}(hs:j7 T n K cf m e L=.call o (some d) f xs cf1 cf2 K' m' e' L')
    (hc:∀{w},HS c w L'→∀{x},fo=some x→Fn0 P f (cR w) xs sv x) (hF:fo.bind kf=some q)
    (k:∀x,fo=some x→kf x=some q→G (.mk P T hT n c B0 N X Q) K' m' ((d,sv x) :: e') L' cf2):G (.mk P T hT n c B0 N X Q) K m e L cf:=
  cl (Lf:=fun _ _=>[]) hs (fun _ _=>rfl) (fun h=>hc h) hF (fun x hx hk _=>by simpa using k x hx hk)
theorem lr{σ ρ υ α:Type}{id:Nat}{y:Code}{fb:σ→Option (Step σ ρ)}{s0:σ}{gk:ρ→Option α}{q:α}(u0:υ)(ks:List Nat)(el:σ→υ→SE)(is0 is:List Nat)(Ll:σ→υ→List Ch)
    (hs:j7 T n K cf m e L=.loop id y K' m' e' L') (hF:(loop fb s0).bind gk=some q)
    (h0:RC B0.length m' e' L' is0 m' (el s0 u0++kp e' ks) (Ll s0 u0++kl L' is)=some (el s0 u0++kp e' ks,Ll s0 u0++kl L' is))
    (k1:∀ro,gk ro=some q→∀s u o,fb s=some o→(∀p,o=.stop p→p=ro)→G (.mk P T hT n c B0 (NxP n c B0 o m' (fun s u=>el s u++kp e' ks) (fun s u=>Ll s u++kl L' is)) (BkP n c B0 ro (fun b:Empty=>nomatch b) m' (fun(b:Empty) (_:Unit)=>nomatch b) (fun b _=>nomatch b) id (XK (.mk P T hT n c B0 N X Q) K')) Q) [] m' (el s u++kp e' ks) (Ll s u++kl L' is) (.c y)):G (.mk P T hT n c B0 N X Q) K m e L cf:=
  lp (β:=Empty) (ω:=Unit) u0 ks el is0 is Ll (fun b=>nomatch b) [] (fun b=>nomatch b) [] (fun b=>nomatch b) hs hF h0 (fun ro hro s u o hb ho=>by
    have:=k1 ro hro s u o hb ho
    have h1:(fun(b:Empty) (u:Unit)=>((fun b=>nomatch b:Empty→Unit→SE) b u++kp e' []))=(fun(b:Empty) (_:Unit)=>nomatch b):=funext fun b=>nomatch b
    have h2:(fun(b:Empty) (u:Unit)=>((fun b=>nomatch b:Empty→Unit→List Ch) b u++kl L' []))=(fun(b:Empty) (_:Unit)=>nomatch b):=funext fun b=>nomatch b
    rw [h1,h2]
    exact this) (fun b=>nomatch b)
end
end
end Go.Gv
end
noncomputable section
namespace Go.Gv
noncomputable section
variable {P:Program} {T:TT} {hT:GM P T} {n:Nat} {c:Ctx} {B0:Bl} {N:Act→World→Prop} {X:Nat→Act→World→Prop} {Q:Act→World→Prop} {K K':List Fr} {m m':Nat} {e e':SE} {L L':List Ch} {cf cf1 cf2:wP} {o:Oper} {Lv:List Ch} {d:Nat}
def XB(P:Program)(c:Ctx){α β:Type}{iR:aJ α}(C:JE α)(sr:β→SV)(g:FuncId)(cap:List Value)(p:α→Option β):Prop:=
  (∀args w,(callFunc g args).run P w=.ok (.enter g args) w)∧∀w,gJ c.W c.w0 w→∀x y,C.sub (OW w) w x y→∀q,p x=some q→∀v,gC [] (C.sv x y)=some v→Calls P g (v :: cap).toArray w (Ret fun u w'=>gC [] (sr q)=some u∧mP (cR w) w' [] [])
def Fu2(P:Program)(c:Ctx){α α' β:Type}{iR:aJ α}{iR':aJ α'}(C:JE α)(C':JE α')(sr:β→SV)(g:FuncId)(cap:List Value)(p:α→α'→Option β):Prop:=
  (∀args w,(callFunc g args).run P w=.ok (.enter g args) w)∧∀w,gJ c.W c.w0 w→∀x y x' y',C.sub (OW w) w x y→C'.sub (OW w) w x' y'→∀q,p x x'=some q→∀v v',gC [] (C.sv x y)=some v→gC [] (C'.sv x' y')=some v'→Calls P g (v :: v' :: cap).toArray w (Ret fun u w'=>gC [] (sr q)=some u∧mP (cR w) w' [] [])
theorem aP1{α:Type}{iR:aJ α}(C:JE α){w:World}{B:Bl}(hS:mP c w B L){x:α}{y:C.ex}(h:C.sub c.S0 c.w0 x y):C.sub (OW w) w x y:=by
  refine C.aZ8 h (fun b o hb=>?_) (aPZ hS)
  obtain⟨⟨R,s1,_⟩,s0⟩:=hS
  exact s1.keep.cell b o (s0 b o hb) fun hw=>s1.apart b o hw hb
theorem mP.aP2{w:World}{B:Bl}(hS:mP c w B L):gJ c.W c.w0 w:=by
  obtain⟨⟨R,s1,_⟩,s0⟩:=hS
  exact s1.keep
noncomputable section
variable {α α' β γ:Type} {iR:aJ α} {iR':aJ α'} {C:JE α} {C':JE α'} {sr:β→SV} {g:FuncId} {cap:List Value} {q:γ} {kf:β→Option γ} {fo:Operand} {args:Array Operand} {ats:Array TypeId}
theorem aP3{f:FuncId}{x:Operand}{ts:Array TypeId}{vs:List Value}{E:Env}{w:World}(hcall:∀args w,(callFunc f args).run P w=.ok (.enter f args) w)(ho:o.op=.call {callee:=.value x,args:=args,argTypes:=ts})(hx:ev E x=some (.func (.func f) #[] cap.toArray))(hv:Z2 E args.toList=some vs):aN4 P o E w f (vs++cap).toArray:=
  aG3 (w:=w) (cap:=cap) (xs:=args.toList) (vs:=vs) hcall (by simpa using ho) hx hv
theorem aP4{B:Bl}{x:SV}{v:Value}(h:GL 0 x=true)(hv:gC B x=some v):gC [] x=some v:=by
  have:=MS h hv
  rwa [List.take_zero] at this
theorem fa1{p:α→Option β}(H:XB P c C sr g cap p)(x:α)(y:C.ex)(hs:j7 T n K cf m e L=.op o Lv cf1 cf2 K' m' e' L')(ho:(o.op,o.dst)=(.call {callee:=.value fo,args:=args,argTypes:=ats},some d))(hf:iX e' fo=some (.k (.func (.func g) #[] cap.toArray)))(hx:(aY (iX e') args.toList).map nbT=some [C.sv x y])(hz:GL 0 (C.sv x y)=true)(hy:C.sub c.S0 c.w0 x y)(hF:(p x).bind kf=some q)
    (k:∀z,p x=some z→kf z=some q→G (.mk P T hT n c B0 N X Q) K' m' ((d,sr z) :: e') L' cf2):G (.mk P T hT n c B0 N X Q) K m e L cf:=by
  refine gW (g:=.mk P T hT n c B0 N X Q) ?_
  rw [hs]
  intro hdn _ hE
  obtain⟨hcall,hrun⟩:=H
  cases hp:p x with
  | none=>rw [hp] at hF;cases hF
  | some z =>
    rw [hp] at hF
    refine hE Unit (fun _=>m') (fun _=>(d,sr z) :: e') (fun _=>L') (fun _=>by simpa using yW (L:=L') []) (fun B a w next Q' hm hA hS hnext=>?_) (fun _=>k z hp hF)
    cases hys:aY (iX e') args.toList with
    | none=>rw [hys] at hx;cases hx
    | some ys =>
      rw [hys] at hx
      simp at hx
      obtain⟨vs,h1,h2⟩:=W0 hA hys
      obtain⟨u,h3,h4⟩:=eR hA hf
      simp only [gC,gV,bQ] at h3
      split at h3
      · cases h3
        rw [←aLE,hx] at h1
        simp only [aY] at h1
        cases hv:gC (TS (.mk P T hT n c B0 N X Q) cf1++B) (C.sv x y) with
        | none=>rw [hv] at h1;cases h1
        | some v =>
          rw [hv] at h1
          cases h1
          have h6:=aP3 (w:=w) hcall (congrArg Prod.fst ho) h4 h2
          have hd:o.dst=some d:=congrArg Prod.snd ho
          unfold Oper.wp
          rw [h6 _ a hA.env,Oper.upon_enter]
          refine Calls.mono (hrun w hS.aP2 x y (aP1 C hS hy) z hp v (aP4 hz hv)) fun en w' ⟨v',hv',g1,g2⟩=>?_
          subst hv'
          rw [hd] at hdn ⊢
          have g3:=D5 (TS (.mk P T hT n c B0 N X Q) cf1++B) g1
          exact hnext () _ _ ⟨[],by simpa using hm,by simpa using hA.of (by simpa using g3) (hA.env.put (by simpa [rH,Nat.blt_eq] using hdn) v'),by simpa using hS.after (L2:=[]) rfl g2⟩
      · cases h3
theorem fu1{w:World}{p:α→Option β}(hc:∀args w,(callFunc g args).run P w=.ok (.enter g args) w)(hn:∀{κ:Ctx} {x y},C.sub κ.S0 κ.w0 x y→∀{q},p x=some q→Fn0 P g κ [C.sv x y] sr q):XB P (cR w) C sr g [] p:=
  ⟨hc,fun w1 _ x y hy q hq v hv=>by
    refine Calls.mono ((hn (κ:=cR w1) hy hq).run [v] (by simp [aY,hv]) (aMV w1)) fun en w' ⟨v',h1,y,h2,h3⟩=>⟨v',h1,h2,h3⟩⟩
end
def roL:Nat→List (Nat×List SV)→List Ch
  | _,[]=>[]
  | k,(_,cs) :: r=>.ro k cs :: roL (k+1) r
def roS:List (Nat×List SV)→List Ch
  | []=>[]
  | (n,cs) :: r=>.ro n cs :: roS r
def aP5:Nat→List (Nat×List SV)→List SV
  | _,[]=>[]
  | k,_ :: r=>.p k 0 :: aP5 (k+1) r
def aAJ(Bs:Bl):List Value:=Bs.map fun b=>.pointer (some ⟨b.1,b.2,none⟩)
theorem rk{α:Type}[aJ α]{w w1:World}{s:AC}{l:List α}(hk:gJ F0 w w1)(h:bX (cR w) s l):bX (cR w1) s l:=
  aJ.rd_mono (aJ.rd_agree h fun b o hb=>hk.cell b o hb fun h=>h) fun b o hb=>Nat.lt_of_lt_of_le hb hk.size
theorem fk1{α β:Type}{iR:aJ α}{C:JE α}{sr:β→SV}{g:FuncId}{w:World}{Bs:Bl}{cs:List (Nat×List SV)}{p:α→Option β}(hc:∀args w,(callFunc g args).run P w=.ok (.enter g args) w)(hB:∀w1,gJ F0 w w1→mP (cR w1) w1 Bs (roL 0 cs))(hl:aY (gC Bs) (aP5 0 cs)=some (aAJ Bs))(hz:∀q,GL 0 (sr q)=true)(hn:∀{w1 x y},gJ F0 w w1→C.sub (OW w1) w1 x y→∀{q},p x=some q→FnS P g (cR w1) (C.sv x y :: aP5 0 cs) Bs (roL 0 cs) (fun r (_:Unit)=>sr r) (fun _ _=>[]) q):XB P (cR w) C sr g (aAJ Bs) p:=
  ⟨hc,fun w1 hk x y hy q hq v hv=>by
    have hv':gC Bs (C.sv x y)=some v:=by simpa using D5 (B:=[]) Bs hv
    refine Calls.mono ((hn hk hy hq).run (v :: aAJ Bs) (by simp [aY,hv',hl]) (hB w1 hk)) fun en w' ⟨v',h1,y',h2,h3⟩=>⟨v',h1,?_,?_⟩
    · exact aP4 (hz q) h2
    · simpa using aFQ (m:=0) h3 rfl⟩
theorem aLM:∀{cs:List (Nat×List SV)} {k:Nat} {x:Ch},x∈roL k cs→∃j n c,cs[j]?=some (n,c)∧x=.ro (k+j) c
  | (n, c) :: r, k, x, h => by
    rcases List.mem_cons.1 h with h | h
    · exact⟨0,n,c,rfl,by rw [h];rfl⟩
    · obtain⟨j,n',c',h1,h2⟩:=aLM h
      exact⟨j+1,n',c',by simpa using h1,by rw [h2];congr 1;omega⟩
theorem aLN:∀{cs:List (Nat×List SV)} {n:Nat} {c:List SV},(n,c)∈cs→Ch.ro n c∈roS cs
  | (n', c') :: r, n, c, h => by
    rcases List.mem_cons.1 h with h | h
    · cases h;exact List.mem_cons_self ..
    · exact List.mem_cons_of_mem _ (aLN h)
theorem aWL{B:Bl}{cs:List (Nat×List SV)}{cap:List Value}:aY (VO B) (cs.map (·.1))=some cap→∃Bs:Bl,cap=aAJ Bs∧Bs.length=cs.length∧∀(j:Nat) n c,cs[j]?=some (n,c)→∃b,Bs[j]?=some b∧B[n]?=some b:=by
  induction cs generalizing cap with
  | nil=>intro h;cases h;exact⟨[],rfl,rfl,by simp⟩
  | cons p r ih =>
    obtain⟨n,c⟩:=p
    intro h
    simp only [List.map_cons,aY] at h
    split at h
    · cases h
    · rename_i v hv
      split at h
      · cases h
      · rename_i vs hvs
        cases h
        obtain⟨Bs,h1,h2,h3⟩:=ih hvs
        simp only [VO] at hv
        split at hv
        · rename_i b z hb
          cases hv
          refine⟨(b,z) :: Bs,by simp [aAJ,h1],by simp [h2],fun j n' c' hj=>?_⟩
          cases j with
          | zero=>simp at hj;obtain⟨rfl,rfl⟩:=hj;exact⟨(b,z),rfl,hb⟩
          | succ j=>simpa using h3 j n' c' (by simpa using hj)
        · cases hv
def aHK:List (Nat×List SV)→Bool
  | []=>true
  | (_,c) :: r=>GL.okC 0 c && aHK r
theorem aHL:∀{cs:List (Nat×List SV)} {j n:Nat} {c:List SV},aHK cs=true→cs[j]?=some (n,c)→GL.okC 0 c=true
  | (n', c') :: r, 0, n, c, h, hj => by
    simp only [aHK,Bool.and_eq_true] at h
    simp at hj;rw [←hj.2];exact h.1
  | (n', c') :: r, j + 1, n, c, h, hj => by
    simp only [aHK,Bool.and_eq_true] at h
    exact aHL h.2 (by simpa using hj)
theorem aWM{w:World}{B Bs:Bl}{cs:List (Nat×List SV)}(hS:mP c w B L)(hk:∀x∈roS cs,x∈L)(ho:aHK cs=true)(hB:∀(j:Nat) n c,cs[j]?=some (n,c)→∃b,Bs[j]?=some b∧B[n]?=some b):∀w1,gJ F0 w w1→mP (cR w1) w1 Bs (roL 0 cs):=by
  intro w1 hkp
  have facts:∀x∈roL 0 cs,∃(f:Fact),f.P (OW w1) w1∧(∀R,f∈R→roF Bs R x)∧j5 Bs x=HY:=by
    intro x hx
    obtain⟨j,n,cc,h1,h2⟩:=aLM hx
    subst h2
    obtain⟨⟨R,s1,s2⟩,s0⟩:=hS
    obtain⟨b,z,vs,g1,g2,g3⟩:=s2 _ (hk _ (aLN (List.mem_of_getElem? h1)))
    obtain⟨b',q1,q2⟩:=hB j n cc h1
    rw [g1] at q2;cases q2
    have hc0:=GR (aHL ho h1) g2
    rw [List.take_zero] at hc0
    obtain⟨i,hi⟩:=List.getElem?_of_mem g3
    refine⟨fAt b z vs,aXX (s1.fact i hi) hkp,fun R hR=>⟨b,z,vs,by simpa using q1,fL (fun x v h=>by simpa using gR (B:=[]) Bs h) hc0,hR⟩,rfl⟩
  have build:∀M:List Ch,(∀x∈M,x∈roL 0 cs)→∃R:List Fact,(∀f∈R,f.P (OW w1) w1)∧(∀x∈M,roF Bs R x)∧M.map (j5 Bs)=List.replicate M.length HY:=by
    intro M
    induction M with
    | nil=>exact fun _=>⟨[],by simp,by simp,rfl⟩
    | cons x M ih =>
      intro hM
      obtain⟨R,h1,h2,h3⟩:=ih fun y hy=>hM y (List.mem_cons_of_mem _ hy)
      obtain⟨f,f1,f2,f3⟩:=facts x (hM x (by simp))
      refine⟨f :: R,fun g hg=>?_,fun y hy=>?_,by simp [f3,h3,List.replicate_succ]⟩
      · rcases List.mem_cons.1 hg with hg | hg
        · subst hg;exact f1
        · exact h1 g hg
      · rcases List.mem_cons.1 hy with hy | hy
        · subst hy;exact f2 _ (by simp)
        · exact TY (fun g hg=>List.mem_cons_of_mem _ hg) (h2 y hy)
  obtain⟨R,h1,h2,h3⟩:=build (roL 0 cs) fun _ h=>h
  refine⟨⟨R,?_,h2⟩,fun _ _ h=>h⟩
  rw [h3]
  have h4:St (cR w1) w1 [] R:=St.enter h1
  generalize (roL 0 cs).length=k
  clear h3
  induction k with
  | zero=>exact h4
  | succ k ih =>
    rw [List.replicate_succ']
    exact St.more (ch:=HY) ih (gJ.refl _ _) ⟨F0,fun _ _ h=>h,fun _ _ h=>h.elim⟩
def shr(ns:List Nat):List Ch→List Ch
  | []=>[]
  | .box n cs :: L => match gO n ns with
    | true=>.box n cs :: shr ns L
    | false=>.ro n cs :: shr ns L
  | x :: L=>x :: shr ns L
theorem St.aWN{w:World}{M:List Chunk}{R:List Fact}{b z i:Nat}{vs:List Value}(h:St c w M R)(hi:M[i]?=some (Q8 b z vs)):St c w (M.set i HY) (R ++ [fAt b z vs]):=by
  have h1:=h.take i hi
  obtain⟨F,S,⟨F1,F2,h1,h2,hd,hF⟩,a2,a3,a4,a5,a6⟩:=h1.sep
  have hlt:∀b' o,F1 b' o→b' < w.heap.size:=fun _ _ hf=>Chunk.lt (Q8 b z vs) h1 hf
  obtain⟨g1,g2,g3⟩:=h1
  refine⟨h.keep,⟨F2,fun b o=>S b o∨F1 b o,h2,?_,fun b o hf=>a3 b o ((hF b o).2 (.inr hf)),?_,?_,?_⟩,h.apart⟩
  · rintro b o hf (hs | hs)
    · exact a2 b o ((hF b o).2 (.inr hf)) hs
    · exact hd b o hs hf
  · rintro b o (hs | hs)
    · exact a4 b o hs
    · rcases a3 b o ((hF b o).2 (.inl hs)) with h | h
      · exact .inr (.inl h)
      · exact .inr (.inr h)
  · rintro b o (hs | hs)
    · exact a5 b o hs
    · exact hlt b o hs
  · intro f hf
    rcases List.mem_append.1 hf with hf | hf
    · exact f.mono (a6 f hf) fun b o hs=>.inl hs
    · simp at hf;subst hf
      exact⟨g1,fun o ho=>.inr ((g3 b o).2 ho)⟩
theorem aP6{w:World}{B:Bl}(ns:List Nat):∀(M L:List Ch),mP c w B (M++L)→mP c w B (M++shr ns L)
  | M,[],h=>h
  | M, x :: L, h => by
    have gen:mP c w B (M++x :: shr ns L):=by
      have:=aP6 ns (M ++ [x]) L (by simpa using h)
      simpa using this
    cases x with
    | box n cs =>
      simp only [shr]
      split
      · exact gen
      · obtain⟨⟨R,s1,s2⟩,s0⟩:=gen
        have hi:((M++Ch.box n cs :: shr ns L).map (j5 B))[M.length]?=some (OY B n cs):=by simp [j5]
        obtain⟨F,b,z,vs,h3,h4,h5⟩:=s1.chunk (ch:=OY B n cs) M.length hi
        have s3:=s1.imp (jM.put M.length hi fun F ⟨b',z',vs',q1,q2,q3⟩=>by
          rw [h3] at q1;cases q1;rw [h4] at q2;cases q2;exact q3)
        have s4:=s3.aWN (b:=b) (z:=z) (vs:=vs) (i:=M.length) (by rw [List.getElem?_set_self];simp)
        refine⟨⟨R ++ [fAt b z vs],?_,fun x hx=>?_⟩,s0⟩
        · have:((M++Ch.ro n cs :: shr ns L).map (j5 B))=(((M++Ch.box n cs :: shr ns L).map (j5 B)).set M.length (Q8 b z vs)).set M.length HY:=by
            simp [j5]
          rw [this];exact s4
        · rcases List.mem_append.1 hx with hx | hx
          · exact TY (fun f hf=>List.mem_append_left _ hf) (s2 x (List.mem_append_left _ hx))
          · rcases List.mem_cons.1 hx with hx | hx
            · subst hx;exact⟨b,z,vs,h3,h4,by simp⟩
            · exact TY (fun f hf=>List.mem_append_left _ hf) (s2 x (List.mem_append_right _ (List.mem_cons_of_mem _ hx)))
    | _=>exact gen
theorem mf{f:FuncId}{caps:Array Operand}{ops:Array Oper}{l:List Oper}(ns:List Nat)(hs:j7 T n K cf m e L=.op o Lv (.r ops l) cf2 K' m' e' L')(ho:(o.op,o.dst)=(.makeFunc (.func f) #[] caps,some d))(hx:aY (iX e') caps.toList=some (ns.map fun n=>.p n 0))
    (k:G (.mk P T hT n c B0 N X Q) K' m' ((d,.f f ns) :: e') (shr ns L') cf2):G (.mk P T hT n c B0 N X Q) K m e L cf:=by
  refine gW (g:=.mk P T hT n c B0 N X Q) ?_
  rw [hs]
  intro hdn _ hE
  refine hE Unit (fun _=>m') (fun _=>(d,.f f ns) :: e') (fun _=>shr ns L') (fun _=>trivial) (fun B a w next Q' hm hA hS hnext=>?_) (fun _=>k)
  obtain⟨vs,h1,h2⟩:=W0 hA hx
  have hd:o.dst=some d:=congrArg Prod.snd ho
  have h3:∀{ns:List Nat} {vs:List Value},aY (gC (TS (.mk P T hT n c B0 N X Q) (.r ops l)++B)) (ns.map fun n=>SV.p n 0)=some vs→aY (VO (TS (.mk P T hT n c B0 N X Q) (.r ops l)++B)) ns=some vs:=by
    intro ns
    induction ns with
    | nil=>intro vs h;exact h
    | cons jj ns ih =>
      intro vs h
      simp only [List.map_cons,aY] at h
      split at h
      · cases h
      · rename_i v hv
        split at h
        · cases h
        · rename_i vs' hvs
          cases h
          have:VO (TS (.mk P T hT n c B0 N X Q) (.r ops l)++B) jj=some v:=by
            simp only [gC,gV,bQ] at hv
            simp only [VO]
            split at hv
            · simpa using hv
            · cases hv
          simp [aY,this,ih hvs]
  have h5:∀{os:List Operand} {vs:List Value},Z2 (vE (TS (.mk P T hT n c B0 N X Q) (.r ops l)++B) e') os=some vs→os.map (ev (vE (TS (.mk P T hT n c B0 N X Q) (.r ops l)++B) e'))=vs.map some:=by
    intro os
    induction os with
    | nil=>intro vs h;cases h;rfl
    | cons o os ih =>
      intro vs h
      simp only [Z2] at h
      split at h
      · rename_i v vs' hv hvs
        cases h
        simp [hv,ih hvs]
      · cases h
  have h6:=aSM (P:=P) (w:=w) (vf:=[]) (vc:=vs) (congrArg Prod.fst ho) rfl (h5 h2)
  unfold Oper.wp
  rw [h6 _ a hA.env,Oper.upon_value,hd]
  rw [hd] at hdn
  have h7:gC (TS (.mk P T hT n c B0 N X Q) (.r ops l)++B) (.f f ns)=some (.func (.func f) #[] vs.toArray):=by simp only [gC,h3 h1]
  exact hnext () _ _ ⟨[],by simpa using hm,by simpa using hA.of h7 (hA.env.put (by simpa [rH,Nat.blt_eq] using hdn) _),by simpa using aP6 ns [] L' hS⟩
theorem clc{α β:Type}{fo:Option α}{kf:α→Option β}{q:β}{f g:FuncId}{xs xs0:List SV}{sv:α→SV}(is:List Nat)(cs:List (Nat×List SV))(hs:j7 T n K cf m e L=.callp o (some d) f xs cf1 cf2 K' m' e' L')(hk:kl L' is=roS cs)(ho:(aHK cs && okA xs.dropLast)=true)(hx:xs=xs.dropLast ++ [.f g (cs.map (·.1))])
    (hc:∀{w},HS c w L'→∀{Bs:Bl},Bs.length=cs.length→(∀w1,gJ F0 w w1→mP (cR w1) w1 Bs (roL 0 cs))→∀{x},fo=some x→Fn0 P f (cR w) (xs.dropLast ++ [.k (.func (.func g) #[] (aAJ Bs).toArray)]) sv x) (hF:fo.bind kf=some q)
    (k:∀x,fo=some x→kf x=some q→G (.mk P T hT n c B0 N X Q) K' m' ((d,sv x) :: e') L' cf2):G (.mk P T hT n c B0 N X Q) K m e L cf:=by
  refine gW (g:=.mk P T hT n c B0 N X Q) ?_
  rw [hs]
  intro fo' args ats ho' hd hf ⟨ys,hys,hxs⟩ hdn hE
  rw [Bool.and_eq_true] at ho
  cases hfo:fo with
  | none=>rw [hfo] at hF;cases hF
  | some x =>
    rw [hfo] at hF
    refine hE Unit (fun _=>m') (fun _=>(d,sv x) :: e') (fun _=>L') (fun _=>by simpa using yW (L:=L') []) (fun B a w next Q' hm hA hS hnext=>?_) (fun _=>k x hfo hF)
    obtain⟨vs,h1,h2⟩:=W0 hA hys
    obtain⟨v,h3,h4⟩:=eR hA hf
    simp [gC,aY] at h3
    subst h3
    rw [←RE,hxs] at h1
    rw [hx] at h1
    have split:∀{as:List SV} {b:SV} {vs:List Value} {B:Bl},aY (gC B) (as ++ [b])=some vs→∃us v,aY (gC B) as=some us∧gC B b=some v∧vs=us ++ [v]:=by
      intro as
      induction as with
      | nil =>
        intro b vs B h
        simp only [List.nil_append,aY] at h
        split at h
        · cases h
        · rename_i v hv;cases h;exact⟨[],v,rfl,hv,rfl⟩
      | cons a as ih =>
        intro b vs B h
        simp only [List.cons_append,aY] at h
        split at h
        · cases h
        · rename_i u hu
          split at h
          · cases h
          · rename_i us' hus
            cases h
            obtain⟨us,v,g1,g2,rfl⟩:=ih hus
            exact⟨u :: us,v,by simp [aY,hu,g1],g2,rfl⟩
    obtain⟨us,fv,g1,g2,rfl⟩:=split h1
    simp only [gC] at g2
    split at g2
    · rename_i cap hcap
      cases g2
      obtain⟨Bs,b1,b2,b3⟩:=aWL hcap
      subst b1
      have hmem:∀x∈roS cs,x∈L':=fun x hx=>aFP (is:=is) (by rw [hk];exact hx)
      obtain⟨hcall,hrun⟩:=hc ⟨_,hS⟩ b2 (aWM hS hmem ho.1 b3) hfo
      have join:∀{as:List SV} {us:List Value} {b:SV} {v:Value},aY (gC []) as=some us→gC [] b=some v→aY (gC []) (as ++ [b])=some (us ++ [v]):=by
        intro as
        induction as with
        | nil=>intro us b v h hb;cases h;simp [aY,hb]
        | cons a as ih =>
          intro us b v h hb
          simp only [aY] at h
          split at h
          · cases h
          · rename_i u hu
            split at h
            · cases h
            · rename_i us' hus;cases h;simp [aY,hu,ih hus hb]
      have h5:=hrun (us ++ [.func (.func g) #[] (aAJ Bs).toArray]) (join (ZO ho.2 g1) (by simp [gC,gV,bQ,Value.oneCell'])) (aMV w)
      have h6:=T2 (w:=w) hcall ho' h4 h2
      unfold Oper.wp
      rw [h6 _ a hA.env,Oper.upon_enter]
      refine Calls.mono h5 fun en w' ⟨v,hv,y,e1,e2⟩=>?_
      subst hv
      rw [hd]
      have g3:=D5 (TS (.mk P T hT n c B0 N X Q) cf1++B) e1
      exact hnext () _ _ ⟨[],by simpa using hm,by simpa using hA.of (by simpa using g3) (hA.env.put (by simpa [rH,Nat.blt_eq] using hdn) v),by simpa using hS.after (L2:=[]) rfl e2⟩
    · cases g2
theorem HS.u1{α β:Type}{iR:aJ α}{C:JE α}{sr:β→SV}{g:FuncId}{cap:List Value}{w:World}{p:α→Option β}(h:HS c w L)(H:XB P c C sr g cap p):XB P (cR w) C sr g cap p:=by
  obtain⟨B,hS⟩:=h.ex
  exact⟨H.1,fun w1 hk=>H.2 w1 (hS.aP2.trans hk fun _ _ _ h=>h.elim)⟩
theorem HS.u2{α α' β:Type}{iR:aJ α}{iR':aJ α'}{C:JE α}{C':JE α'}{sr:β→SV}{g:FuncId}{cap:List Value}{w:World}{p:α→α'→Option β}(h:HS c w L)(H:Fu2 P c C C' sr g cap p):Fu2 P (cR w) C C' sr g cap p:=by
  obtain⟨B,hS⟩:=h.ex
  exact⟨H.1,fun w1 hk=>H.2 w1 (hS.aP2.trans hk fun _ _ _ h=>h.elim)⟩
theorem aZ1{α β:Type}{fo:Option α}{kf:α→Option β}{q:β}{f g:FuncId}{xs:List SV}{sv:α→SV}{n1:Nat}{c1:List SV}(is:List Nat)(hs:j7 T n K cf m e L=.callp o (some d) f xs cf1 cf2 K' m' e' L')(hk:kl L' is=[.ro n1 c1])(ho:(aHK [(n1,c1)] && okA xs.dropLast)=true)(hx:xs=xs.dropLast ++ [.f g [n1]])
    (hc:∀{w},HS c w L'→∀{b1:Nat×Nat},(∀w1,gJ F0 w w1→mP (cR w1) w1 [b1] [.ro 0 c1])→∀{x},fo=some x→Fn0 P f (cR w) (xs.dropLast ++ [.k (.func (.func g) #[] (aAJ [b1]).toArray)]) sv x) (hF:fo.bind kf=some q)
    (k:∀x,fo=some x→kf x=some q→G (.mk P T hT n c B0 N X Q) K' m' ((d,sv x) :: e') L' cf2):G (.mk P T hT n c B0 N X Q) K m e L cf:=
  clc (xs0:=[]) is [(n1,c1)] hs hk ho hx (fun h Bs hl hB=>match Bs,hl,hB with | [_],_,hB=>hc h hB) hF k
end
end Go.Gv
end
noncomputable section
namespace Go.Gv
noncomputable section
variable {P:Program} {T:TT} {hT:GM P T} {n:Nat} {c:Ctx} {B0:Bl} {N:Act→World→Prop} {X:Nat→Act→World→Prop} {Q:Act→World→Prop} {K K':List Fr} {m m':Nat} {e e':SE} {L L':List Ch} {cf cf1 cf2:wP} {o:Oper} {Lv:List Ch} {d:Nat}
variable {x y z:Operand} {t t2:TypeId} {k k2:IntKind} {i j:Int} {α β:Type} {A:Option β} {q:β}
theorem aZ2(hs:opS (j7 T n K cf m e L)=some (o,Lv,cf1,cf2,K',m',e',L'))(ho:(o.op,o.dst)=(.call {callee:=.builtin .min,args:=#[x,y],argTypes:=#[t,t2]},some d))(hx:(iX e' x).bind sY=some (.i64,i))(hy:(iX e' y).bind sY=some (k,j))
    (kk:G (.mk P T hT n c B0 N X Q) K' m' ((d,.i .i64 (if j < i then j else i)) :: e') L' cf2):G (.mk P T hT n c B0 N X Q) K m e L cf:=
  pu hs (congrArg Prod.snd ho) (fun B a w hA _=>⟨_,rfl,aV1 (congrArg Prod.fst ho) (wY hA hx) (wY hA hy)⟩) kk
theorem aZ3(hs:opS (j7 T n K cf m e L)=some (o,Lv,cf1,cf2,K',m',e',L'))(ho:(o.op,o.dst)=(.call {callee:=.builtin .max,args:=#[x,y],argTypes:=#[t,t2]},some d))(hx:(iX e' x).bind sY=some (.i64,i))(hy:(iX e' y).bind sY=some (k,j))
    (kk:G (.mk P T hT n c B0 N X Q) K' m' ((d,.i .i64 (if i < j then j else i)) :: e') L' cf2):G (.mk P T hT n c B0 N X Q) K m e L cf:=
  pu hs (congrArg Prod.snd ho) (fun B a w hA _=>⟨_,rfl,aV2 (congrArg Prod.fst ho) (wY hA hx) (wY hA hy)⟩) kk
noncomputable section
variable {l:List UInt8} {b1:Bool} {n1:Nat} {z1:List SV}
theorem aYF(ht:A1 T t=some ⟨.s,b1,n1,z1⟩)(hT:GM P T):P.underlying t=some .string:=by
  obtain⟨dd,hd1,hd2⟩:=hT.und _ _ ht
  simp only at hd2;subst hd2
  exact hd1
theorem qsi{kf:UInt8→Option β}(hs:opS (j7 T n K cf m e L)=some (o,Lv,cf1,cf2,K',m',e',L'))(ho:(o.op,o.dst)=(.index t x y,some d))(ht:A1 T t=some ⟨.s,b1,n1,z1⟩)(hx:iX e' x=some (.s l))(hy:(iX e' y).bind sY=some (k,i))(hF:(idx l i).bind kf=some q)
    (kk:∀u,idx l i=some u→kf u=some q→G (.mk P T hT n c B0 N X Q) K' m' ((d,.y u) :: e') L' cf2):G (.mk P T hT n c B0 N X Q) K m e L cf:=by
  cases hi:idx l i with
  | none=>rw [hi] at hF;cases hF
  | some u =>
    rw [hi] at hF
    exact pu hs (congrArg Prod.snd ho) (fun B a w hA _=>⟨_,rfl,aSX (aYF ht hT) hi (congrArg Prod.fst ho) (aZZ hA hx) (wY hA hy)⟩) (kk u hi hF)
end
noncomputable section
variable [aJ α] {s:AC} {l:List α} {el:TypeId} {b1 b2:Bool} {n1 sz:Nat} {z1 z2:List SV} {kt:TK}
theorem hdB{B:Bl}{a:Act}(hA:gI n B e a){ln:Nat}(h:iX e x=some (.h s ln)):ev (vE B e) x=some (s.v ln):=by
  obtain⟨v,h1,h2⟩:=eR hA h
  cases h1;exact h2
theorem GS(ht:A1 T t=some ⟨.sl el,b1,n1,z1⟩)(hT:GM P T):P.underlying t=some (.slice el):=by
  obtain⟨dd,hd1,hd2⟩:=hT.und _ _ ht
  simp only at hd2;subst hd2
  exact hd1
theorem qsb{a b:Nat}(h1:bX c s l)(hb:a≤b∧b≤l.length)(hs:opS (j7 T n K cf m e L)=some (o,Lv,cf1,cf2,K',m',e',L'))(hd:o.dst=some d)(hr:∀B act w,gI n B e' act→aJ.rd c.S0 w [s.v l.length] l→dZ P o (vE B e') w (hO (aJ.n α) a b (s.v l.length)) w)
    (kk:∀s',bX c s' ((l.take b).drop a)→G (.mk P T hT n c B0 N X Q) K' m' ((d,.h s' ((l.take b).drop a).length) :: e') L' cf2):G (.mk P T hT n c B0 N X Q) K m e L cf:=by
  have h2:=aJC (n:=aJ.n α) (a:=a) (b:=b) rfl h1 hb.1 hb.2
  obtain⟨ad,cp,e1,_⟩:=Z9 h2
  rw [e1] at h2
  exact pu hs hd (fun B act w hA hS=>⟨_,by rw [e1];simp [gC,gV,bQ],hr B act w hA (aFT hS (f:=A0 [s.v l.length] l) h1)⟩) (kk ⟨ad,cp⟩ h2)
theorem aJO(hs:opS (j7 T n K cf m e L)=some (o,Lv,cf1,cf2,K',m',e',L'))(ho:(o.op,o.dst)=(.slice t x (some y) (some z) none,some d))(ht:A1 T t=some ⟨.sl el,b1,n1,z1⟩)(he:A1 T el=some ⟨kt,b2,sz,z2⟩)(hn:aJ.n α=sz)(h1:bX c s l)(hx:iX e' x=some (.h s l.length))(hy:(iX e' y).bind sY=some (k,i))(hz:(iX e' z).bind sY=some (k2,j))(hF:need (0≤i∧i≤j∧j≤(l.length:Int)) A=some q)
    (kk:A=some q→∀s',bX c s' ((l.take j.toNat).drop i.toNat)→G (.mk P T hT n c B0 N X Q) K' m' ((d,.h s' ((l.take j.toNat).drop i.toNat).length) :: e') L' cf2):G (.mk P T hT n c B0 N X Q) K m e L cf:=by
  have hb:=(kH hF).1
  subst hn
  exact qsb h1 (by omega) hs (congrArg Prod.snd ho) (fun B act w hA h=>aMP h rfl (GS ht hT) (hT.size _ _ he) hb (congrArg Prod.fst ho) (hdB hA hx) (wY hA hy) (wY hA hz)) (kk (kH hF).2)
theorem aYG(hs:opS (j7 T n K cf m e L)=some (o,Lv,cf1,cf2,K',m',e',L'))(ho:(o.op,o.dst)=(.slice t x none (some z) none,some d))(ht:A1 T t=some ⟨.sl el,b1,n1,z1⟩)(he:A1 T el=some ⟨kt,b2,sz,z2⟩)(hn:aJ.n α=sz)(h1:bX c s l)(hx:iX e' x=some (.h s l.length))(hz:(iX e' z).bind sY=some (k2,j))(hF:need (0≤j∧j≤(l.length:Int)) A=some q)
    (kk:A=some q→∀s',bX c s' ((l.take j.toNat).drop 0)→G (.mk P T hT n c B0 N X Q) K' m' ((d,.h s' ((l.take j.toNat).drop 0).length) :: e') L' cf2):G (.mk P T hT n c B0 N X Q) K m e L cf:=by
  have hb:=(kH hF).1
  subst hn
  exact qsb h1 (by omega) hs (congrArg Prod.snd ho) (fun B act w hA h=>aOR h rfl (GS ht hT) (hT.size _ _ he) hb (congrArg Prod.fst ho) (hdB hA hx) (wY hA hz)) (kk (kH hF).2)
end
noncomputable section
variable {zv:Value} {n1 m1:Nat} {el:TypeId}
theorem aP7{B:Bl}{xs:List SV}{vs:List Value}(h:aY (gC []) xs=some vs):aY (gC B) xs=some vs:=fL (fun x v h=>by simpa using D5 (B:=[]) B h) h
theorem qba{ps:Array (Nat×Operand)}{xs:List SV}{vs cells:List Value}(cs:List SV)(hz:∀w,(zeroValue t).run P w=.ok zv w)(hu:P.underlying t=some (.array n1 el))(hp:∀w,(sizeOf el).run P w=.ok m1 w)(hs:opS (j7 T n K cf m e L)=some (o,Lv,cf1,cf2,K',m',e',L'))(ho:(o.op,o.dst)=(.build t ps,some d))(hv:aY (iX e') (ps.toList.map (·.2))=some xs)(hvs:aY (gC []) xs=some vs)(hcs:aY (bQ []) cs=some cells)(hc:Instr.fill (fun i=>some (i * m1,m1)) zv.cells ((ps.toList.map (·.1)).zip vs)=some cells.toArray)
    (kk:G (.mk P T hT n c B0 N X Q) K' m' ((d,.g cs) :: e') L' cf2):G (.mk P T hT n c B0 N X Q) K m e L cf:=
  pu hs (congrArg Prod.snd ho) (fun B a w hA _=>⟨.agg cells.toArray,by
    simp only [gC,gV]
    rw [fL (g:=bQ B) (fun x v h=>by simpa using gR (B:=[]) B h) hcs],by
    obtain⟨us,h1,h2⟩:=W0 hA hv
    rw [aP7 hvs] at h1
    cases h1
    exact VM (ps:=ps.toList) (by have:=congrArg Prod.fst ho;simpa using this) hz hu hp h2 hc⟩) kk
theorem qai{γ:Type}(f:γ→Value)(g:γ→SV){l:List γ}{cs:List SV}{kf:γ→Option β}(hu:P.underlying t=some (.array n1 el))(hz:∀w,(sizeOf el).run P w=.ok 1 w)(hg:∀w,(isAgg el).run P w=.ok false w)(hgf:∀u,gC [] (g u)=some (f u))(hs:opS (j7 T n K cf m e L)=some (o,Lv,cf1,cf2,K',m',e',L'))(ho:(o.op,o.dst)=(.index t x y,some d))(hx:iX e' x=some (.g cs))(hcs:aY (bQ []) cs=some (l.map f))(hn:l.length=n1)(hy:(iX e' y).bind sY=some (k,i))(hF:(idx l i).bind kf=some q)
    (kk:∀u,idx l i=some u→kf u=some q→G (.mk P T hT n c B0 N X Q) K' m' ((d,g u) :: e') L' cf2):G (.mk P T hT n c B0 N X Q) K m e L cf:=by
  cases hi:idx l i with
  | none=>rw [hi] at hF;cases hF
  | some u =>
    rw [hi] at hF
    refine pu hs (congrArg Prod.snd ho) (fun B a w hA _=>⟨f u,by simpa using D5 (B:=[]) B (hgf u),?_⟩) (kk u hi hF)
    obtain⟨v,h1,h2⟩:=eR hA hx
    simp only [gC,gV] at h1
    rw [fL (g:=bQ B) (fun x v h=>by simpa using gR (B:=[]) B h) hcs] at h1
    cases h1
    exact aV4 f hu hz hg hi hn rfl (congrArg Prod.fst ho) h2 (wY hA hy)
end
end
end Go.Gv
end
noncomputable section
namespace Go.Gv
noncomputable section
variable {P:Program} {T:TT} {hT:GM P T} {n:Nat} {c:Ctx} {B0:Bl} {N:Act→World→Prop} {X:Nat→Act→World→Prop} {Q:Act→World→Prop} {K K':List Fr} {m m':Nat} {e e':SE} {L L':List Ch} {cf cf1 cf2:wP} {o:Oper} {Lv:List Ch} {d:Nat}
theorem chg{g:Gx}{ι:Type}(m2:ι→Nat)(e2:ι→SE)(L2:ι→List Ch)(h:∀B a w,B.length=m→gI g.n B e a→mP g.c w B L→∃i B',(B++B').length=m2 i∧gI g.n (B++B') (e2 i) a∧mP g.c w (B++B') (L2 i))
    (hz:∀i,Frz g cf L (L2 i)) (k:∀i,G g K (m2 i) (e2 i) (L2 i) cf):G g K m e L cf:=by
  have key:∀a w,Rel g m e L a w→∃i,Rel g (m2 i) (e2 i) (L2 i) a w:=fun a w ⟨B,h1,h2,h3⟩=>by
    obtain⟨i,B',k1,k2,k3⟩:=h _ a w h1 h2 h3
    exact⟨i,B++B',by simpa using k1,by simpa using k2,by simpa using k3⟩
  cases cf with
  | n=>exact fun a w hr=>let ⟨i,hi⟩:=key a w hr;k i a w hi
  | c x=>exact fun a w hr=>let ⟨i,hi⟩:=key a w hr;k i a w hi
  | r ops l=>exact fun a w hr=>let ⟨i,hi⟩:=key a w hr;k i a w hi
  | d B1 ops l is Lf Lv =>
    refine fun hD a w ⟨B,h1,h2,h3,h4⟩=>?_
    obtain⟨i,B',k1,k2,k3⟩:=h _ a w h1 h2 h3
    obtain⟨z1,z2⟩:=hz i hD
    exact k i ⟨hD.pre,hD.len,hD.free,z1,z2,hD.okf,hD.ap⟩ a w ⟨B++B',by simpa using k1,by simpa using k2,by simpa using k3,fun w' hw=>by
      have:=(h4 w' hw).app B'
      simpa using this⟩
  | o B1 ops l is Lf Lv ii =>
    refine fun hD a w ⟨B,h1,h2,h3,h4⟩=>?_
    obtain⟨i,B',k1,k2,k3⟩:=h _ a w h1 h2 h3
    obtain⟨z1,z2⟩:=hz i hD
    exact k i ⟨hD.pre,hD.len,hD.free,z1,z2,hD.okf,hD.ap⟩ a w ⟨B++B',by simpa using k1,by simpa using k2,by simpa using k3,fun w' hw=>by
      have:=(h4 w' hw).app B'
      simpa using this⟩
theorem DG{α β:Type}[aJ α]{x y:Operand}{t el sz:Nat}{i:Int}{zv:Value}{b1:Bool}{n1:Nat}{z1:List SV}{A:Option β}{q:β}(zd:α)(hinf:TR P el sz zv)(hzd:∀w,aJ.own w zv.cells.toList zd F0)(hs:j7 T n K cf m e L=.op o Lv cf1 cf2 K' m' e' L')(ho:(o.op,o.dst)=(.makeSlice t x y,some d))(ht:A1 T t=some ⟨.sl el,b1,n1,z1⟩)(hn:aJ.n α=sz)(hzs:zv.cells.size=sz)(hx:(iX e' x).bind sY=some (.i64,i))(hy:(iX e' y).bind sY=some (.i64,i))(hF:need (0≤i∧i≤4294967296) A=some q)
    (k:A=some q→∀s':AC,G (.mk P T hT n c B0 N X Q) K' m' ((d,.h s' (List.replicate i.toNat zd).length) :: e') (L' ++ [ow s' (List.replicate i.toNat zd)]) cf2):G (.mk P T hT n c B0 N X Q) K m e L cf:=by
  refine gW (g:=.mk P T hT n c B0 N X Q) ?_
  rw [hs]
  intro hdn _ hE
  refine hE AC (fun _=>m') (fun s'=>(d,.h s' (List.replicate i.toNat zd).length) :: e') (fun s'=>L' ++ [ow s' (List.replicate i.toNat zd)]) (fun _=>yW _) (fun B a w next Q' hm hA hS hnext=>?_) (k (kH hF).2)
  obtain⟨⟨R,s1,s2⟩,s0⟩:=hS
  have hd:o.dst=some d:=congrArg Prod.snd ho
  obtain⟨v,w',k1,k2⟩:=aOO zd s1 hn (GS ht hT) hinf hzs hzd (kH hF).1 (congrArg Prod.fst ho) (wY hA hx) (wY hA hy)
  have hrd:∃s':AC,v=s'.v (List.replicate i.toNat zd).length:=by
    have h1:=k2.aKT (cs:=[v]) (d:=List.replicate i.toNat zd) (L'.map (j5 (TS (.mk P T hT n c B0 N X Q) cf1++B))).length (by simp)
    obtain⟨ad,cp,h2,_⟩:=Z9 h1
    exact⟨⟨ad,cp⟩,h2⟩
  obtain⟨s',rfl⟩:=hrd
  unfold Oper.wp
  rw [k1 _ a hA.env,Oper.upon_value,hd]
  refine hnext s' _ _ ⟨[],by simpa using hm,by simpa using hA.of (by simp [gC,gV,bQ]) (hA.env.put (by rw [hd] at hdn;simpa [rH,Nat.blt_eq] using hdn) _),⟨⟨R,by simpa [j5] using k2,fun x hx=>?_⟩,fun b o hb=>Nat.lt_of_lt_of_le (s0 b o hb) (Nat.le_refl _)⟩⟩
  rcases List.mem_append.1 hx with hx | hx
  · simpa using s2 x hx
  · simp at hx;subst hx;exact trivial
end
end Go.Gv
end
noncomputable section
namespace Go.Gv
def wP.AO:wP→List Nat
  | .d _ _ _ is _ _=>is
  | .o _ _ _ is _ _ _=>is
  | _=>[]
theorem RI{L M:List Ch}{j:Nat}{z:Ch}:∀{is:List Nat},(∀i∈is,i < L.length)→gO j is=true→kl (L.set j z++M) is=kl L is
  | [],_,_=>rfl
  | i :: is, h, hn => by
    have hi:=h i (by simp)
    have h1:=aAH hn
    have hne:j≠i:=fun he=>h1 (by simp [he])
    have h2:(L.set j z++M)[i]?=L[i]?:=by rw [List.getElem?_append_left (by simpa using hi),List.getElem?_set_ne hne]
    have h3:gO j is=true:=by
      unfold gO at hn
      split at hn
      · cases hn
      · exact hn
    simp only [kl,h2,RI (fun i hi=>h i (List.mem_cons_of_mem _ hi)) h3]
theorem aLO{L M:List Ch}:∀{is:List Nat},(∀i∈is,i < L.length)→kl (L++M) is=kl L is
  | [],_=>rfl
  | i :: is, h => by
    simp only [kl,List.getElem?_append_left (h i (by simp)),aLO (M:=M) (fun i hi=>h i (List.mem_cons_of_mem _ hi))]
theorem aFV{g:Gx}{cf:wP}{L M:List Ch}{j:Nat}{z:Ch}(hn:gO j cf.AO=true):Frz g cf L (L.set j z++M):=by
  cases cf with
  | d B1 ops l is Lf Lv =>
    exact fun hD=>⟨(RI hD.rng hn).trans hD.AO,fun i hi=>by have:=hD.rng i hi;simp;omega⟩
  | o B1 ops l is Lf Lv i =>
    exact fun hD=>⟨(RI hD.rng hn).trans hD.AO,fun i hi=>by have:=hD.rng i hi;simp;omega⟩
  | _=>trivial
theorem aP8{c:Ctx}{w:World}{A:List Chunk}{R:List Fact}(h:St c w A R):St c w (A ++ [HY]) R:=by
  obtain⟨F,S,h1,rest⟩:=h.sep
  exact⟨h.keep,⟨F,S,Sep.append.2 ⟨F,F0,h1,Sep.one.2 (fun _ _ h=>h),fun _ _ _ h=>h,fun b o=>by simp [F0]⟩,rest⟩,h.apart⟩
structure CO (α:Type) [aJ α] where
  ex:Type
  cs:α→ex→List SV
  Lx:α→ex→List Ch
  op:∀{w F ec q},aJ.own w ec q F→∃y,aY (bQ []) (cs q y)=some ec
  pk:∀{q y ec},aY (bQ []) (cs q y)=some ec→OP ec q ((Lx q y).map (j5 []))
  no:∀q y,noF (Lx q y)=true
  nb:∀q y B,(Lx q y).map (j5 B)=(Lx q y).map (j5 [])
noncomputable section
variable {P:Program} {T:TT} {hT:GM P T} {n:Nat} {c:Ctx} {B0:Bl} {N:Act→World→Prop} {X:Nat→Act→World→Prop} {Q:Act→World→Prop} {K K':List Fr} {m m':Nat} {e e':SE} {L L':List Ch} {cf cf1 cf2:wP} {o:Oper} {Lv:List Ch} {d:Nat}
theorem aZ4{g:Gx}{ι:Type}(m2:ι→Nat)(e2:ι→SE)(L2:ι→List Ch)(Ln:ι→List Ch)(h:∀B a w,B.length=m→gI g.n B e a→mP g.c w B L→∃i B',(B++B').length=m2 i∧gI g.n (B++B') (e2 i) a∧mP g.c w (B++B') (L2 i)∧∀w' M,mP g.c w' B M→mP g.c w' (B++B') (M++Ln i))
    (hz:∀i,Frz g cf L (L2 i)) (k:∀i,G g K (m2 i) (e2 i) (L2 i) (cf.ext (Ln i))):G g K m e L cf:=by
  have key:∀a w,Rel g m e L a w→∃i,Rel g (m2 i) (e2 i) (L2 i) a w:=fun a w ⟨B,h1,h2,h3⟩=>by
    obtain⟨i,B',k1,k2,k3,_⟩:=h _ a w h1 h2 h3
    exact⟨i,B++B',by simpa using k1,by simpa using k2,by simpa using k3⟩
  cases cf with
  | n=>exact fun a w hr=>let ⟨i,hi⟩:=key a w hr;k i a w hi
  | c x=>exact fun a w hr=>let ⟨i,hi⟩:=key a w hr;k i a w hi
  | r ops l=>exact fun a w hr=>let ⟨i,hi⟩:=key a w hr;k i a w hi
  | d B1 ops l is Lf Lv =>
    refine fun hD a w ⟨B,h1,h2,h3,h4⟩=>?_
    obtain⟨i,B',k1,k2,k3,k4⟩:=h _ a w h1 h2 h3
    obtain⟨z1,z2⟩:=hz i hD
    exact k i ⟨hD.pre,hD.len,hD.free,z1,z2,hD.okf,hD.ap⟩ a w ⟨B++B',by simpa using k1,by simpa using k2,by simpa using k3,fun w' hw=>by
      have:=k4 w' _ (h4 w' hw)
      simpa using this⟩
  | o B1 ops l is Lf Lv ii =>
    refine fun hD a w ⟨B,h1,h2,h3,h4⟩=>?_
    obtain⟨i,B',k1,k2,k3,k4⟩:=h _ a w h1 h2 h3
    obtain⟨z1,z2⟩:=hz i hD
    exact k i ⟨hD.pre,hD.len,hD.free,z1,z2,hD.okf,hD.ap⟩ a w ⟨B++B',by simpa using k1,by simpa using k2,by simpa using k3,fun w' hw=>by
      have:=k4 w' _ (h4 w' hw)
      simpa using this⟩
abbrev Shp(s:AC)(len:Nat):Prop:=∃b off m,s.v len=.slice (some ⟨b,off,none⟩) len m∧len≤maxLen
abbrev wOf(α:Type)[aJ α](nb:Nat)(s:AC)(len i:Nat):Ch:=.w nb (O5 (s.v len)) (OX (aJ.n α) i (s.v len))
theorem oe{α β:Type}[aJ α](E:CO α)(j:Nat){t:TypeId}{s:AC}{i:Int}{ls:List α}{kf:α→Option β}{q:β}(hs:j7 T n K cf m e L=.idx o d t s ls.length i Lv cf1 cf2 K' m' e' L')(hj:L'[j]?=some (ow s ls))(hz:gO j cf1.AO=true)(hF:(idx ls i).bind kf=some q)
    (k:∀x,idx ls i=some x→kf x=some q→∀y:E.ex,Shp s ls.length→G (.mk P T hT n c B0 N X Q) K' (m'+1) e' (L'.set j .no++([.o (wK (s.v ls.length) ls i.toNat),.box m' (E.cs x y),wOf α m' s ls.length i.toNat]++E.Lx x y)) (cf1.ext [wOf α m' s ls.length i.toNat])):G (.mk P T hT n c B0 N X Q) K m e L cf:=by
  refine gW (g:=.mk P T hT n c B0 N X Q) ?_
  rw [hs]
  intro x' y' ho hd hx hy hP
  cases hi:idx ls i with
  | none=>rw [hi] at hF;cases hF
  | some x =>
    rw [hi] at hF
    refine aZ4 (fun _=>m'+1) (fun _=>e') (fun y:{y:E.ex // Shp s ls.length}=>L'.set j .no++([.o (wK (s.v ls.length) ls i.toNat),.box m' (E.cs x y.1),wOf α m' s ls.length i.toNat]++E.Lx x y.1)) (fun _=>[wOf α m' s ls.length i.toNat]) (fun B a w hm hA hS=>?_) (fun y=>aFV hz) (fun y=>k x hi hF y.1 y.2)
    obtain⟨⟨R,s1,s2⟩,s0⟩:=hS
    have hj2:(L'.map (j5 B))[j]?=some (fW [s.v ls.length] ls):=by simp [hj,j5]
    obtain⟨ec,h1⟩:=s1.open j hj2 (kG hi).2.2
    have hlen:((L'.map (j5 B)).set j HY).length=L'.length:=by simp
    have hsh:Shp s ls.length:=aSU (k:=i.toNat) h1 L'.length (by rw [List.getElem?_append_right (by omega)];simp)
    obtain⟨F,hF'⟩:=h1.chunk (L'.length+2) (by rw [List.getElem?_append_right (by omega)];simp;rfl)
    obtain⟨y,hy2⟩:=E.op (show aJ.own w ec x F from hF')
    have h2:=h1.unpack (L'.length+2) (by rw [List.getElem?_append_right (by omega)];simp) (E.pk hy2)
    have hset:((L'.map (j5 B)).set j HY ++ [wK (s.v ls.length) ls i.toNat,Q8 (O5 (s.v ls.length)) (OX (aJ.n α) i.toNat (s.v ls.length)) ec,fW ec x]).set (L'.length+2) HY=(L'.map (j5 B)).set j HY ++ [wK (s.v ls.length) ls i.toNat,Q8 (O5 (s.v ls.length)) (OX (aJ.n α) i.toNat (s.v ls.length)) ec,HY]:=by
      rw [List.set_append_right _ _ (by omega)]
      simp
    rw [hset] at h2
    refine⟨⟨y,hsh⟩,[(O5 (s.v ls.length),OX (aJ.n α) i.toNat (s.v ls.length))],by simp [hm],hA.app _,⟨⟨R,?_,fun z hz=>?_⟩,s0⟩,fun w' M hM=>?_⟩
    · have e1:(L'.set j Ch.no).map (j5 B)=(L'.map (j5 B)).set j HY:=by rw [List.map_set];rfl
      refine h2.imp ?_
      rw [List.map_append,List.map_append,←e1,List.append_assoc]
      refine jM.append (RD _ _) (jM.append (.cons (fun _ h=>h) (.cons (fun F h=>⟨_,_,ec,by simp [←hm],fL (fun x v h=>by simpa using gR (B:=[]) _ h) hy2,h⟩) (.cons (fun _ h=>h) .nil))) ?_)
      have:=RD (B:=[]) (B ++ [(O5 (s.v ls.length),OX (aJ.n α) i.toNat (s.v ls.length))]) (w:=w) (E.Lx x y)
      simpa using this
    · rcases List.mem_append.1 hz with hz | hz
      · rcases List.mem_or_eq_of_mem_set hz with hz | hz
        · exact aFI _ (s2 z hz)
        · subst hz;trivial
      · rcases List.mem_append.1 hz with hz | hz
        · simp at hz
          rcases hz with rfl | rfl | rfl
          · trivial
          · trivial
          · show(B++_)[m']?=_
            simp [←hm]
        · exact aFU (E.no x y) z hz
    · obtain⟨⟨R',t1,t2⟩,t0⟩:=hM.app [(O5 (s.v ls.length),OX (aJ.n α) i.toNat (s.v ls.length))]
      refine⟨⟨R',by simpa [j5] using aP8 t1,fun z hz=>?_⟩,t0⟩
      rcases List.mem_append.1 hz with hz | hz
      · exact t2 z hz
      · simp at hz;subst hz
        show(B++_)[m']?=_
        simp [←hm]
theorem ie{α:Type}[aJ α](p:Nat){t el sz:Nat}{s:AC}{i:Int}{ls:List α}{x:α}{nb:Nat}{b1 b2:Bool}{n1:Nat}{z1 z2:List SV}{k2:TK}(hsh:Shp s ls.length)(hs:j7 T n K cf m e L=.idx o d t s ls.length i Lv cf1 cf2 K' m' e' L')(hi:idx ls i=some x)(hw:Lv[p]?=some (wOf α nb s ls.length i.toNat))(ht:A1 T t=some ⟨.sl el,b1,n1,z1⟩)(he:A1 T el=some ⟨k2,b2,sz,z2⟩)(hn:aJ.n α=sz)
    (k:G (.mk P T hT n c B0 N X Q) K' m' ((d,.p nb 0) :: e') L' cf2):G (.mk P T hT n c B0 N X Q) K m e L cf:=by
  refine gW (g:=.mk P T hT n c B0 N X Q) ?_
  rw [hs]
  intro x' y' ho hd hx hy hP
  subst hn
  refine hP d (.p nb 0) [] (fun _=>[]) 0 hd (fun _=>rfl) (fun B a w hA hS hm=>?_) (fun B w L _ hS=>by simpa using hS) (by rw [ext_nil];simpa using k)
  obtain⟨v,g1,g2⟩:=eR hA hx
  obtain⟨u,g3,g4⟩:=eR hA hy
  cases g1;cases g3
  obtain⟨⟨R,s1,s2⟩,s0⟩:=hS
  have hB:B[nb]?=some (O5 (s.v ls.length),OX (aJ.n α) i.toNat (s.v ls.length)):=s2 _ (List.mem_of_getElem? hw)
  exact⟨_,by simp [gC,gV,bQ,hB],aSV (P:=P) (o:=o) (w:=w) hsh rfl hi (GS ht hT) (hT.size _ _ he) ho g2 g4⟩
def PC:List Ch→List Nat→List Ch
  | L,[]=>L
  | L,i :: r=>PC (L.set i .no) r
theorem MU{B:Bl}:∀(js:List Nat) (L:List Ch),(PC L js).map (j5 B)=blank (L.map (j5 B)) js
  | [],L=>rfl
  | j :: js,L=>by simp only [PC,blank];rw [MU js,List.map_set];rfl
theorem T3{x:Ch}:∀(js:List Nat) (L:List Ch),x∈PC L js→x∈L∨x=.no
  | [],L,h=>.inl h
  | j :: js, L, h => by
    rcases T3 js _ h with h | h
    · exact List.mem_or_eq_of_mem_set h
    · exact .inr h
theorem ZP{g:Gx}{cf:wP}{M:List Ch}:∀(js:List Nat) {L:List Ch},(js.all fun j=>gO j cf.AO)=true→Frz g cf L (PC L js++M):=by
  intro js L hj
  have main:∀{B1:Bl} {ops:Array Oper} {l:List Bool} {is:List Nat} {Lf:List Ch},(js.all fun j=>gO j is)=true→VQ g B1 ops l is Lf L→kl (PC L js++M) is=Lf∧∀j∈is,j < (PC L js++M).length:=by
    intro B1 ops l is Lf hj hD
    have key:∀(js:List Nat) (L:List Ch),(js.all fun j=>gO j is)=true→(∀i∈is,i < L.length)→kl (PC L js++M) is=kl L is∧(PC L js).length=L.length:=by
      intro js
      induction js with
      | nil =>
        intro L _ hr
        exact⟨aLO hr,rfl⟩
      | cons j js ih =>
        intro L hj hr
        simp only [List.all_cons,Bool.and_eq_true] at hj
        obtain⟨h1,h2⟩:=ih (L.set j .no) hj.2 (fun i hi=>by simpa using hr i hi)
        refine⟨h1.trans ?_,by simpa [PC] using h2⟩
        have:=RI (M:=[]) (z:=.no) hr hj.1
        simpa using this
    obtain⟨k1,k2⟩:=key js L hj hD.rng
    exact⟨k1.trans hD.AO,fun i hi=>by have:=hD.rng i hi;simp [k2];omega⟩
  cases cf with
  | d B1 ops l is Lf Lv=>exact fun hD=>main hj hD
  | o B1 ops l is Lf Lv i=>exact fun hD=>main hj hD
  | _=>trivial
def ovh(v:SV)(e:SE):List Nat→SE
  | []=>e
  | k :: ks=>(k,v) :: ovh v e ks
theorem aFW{v:SV}{B:Bl}{a:Act}:∀(ks:List Nat),aY (DF e) ks=some (ks.map fun _=>v)→gI n B e a→gI n B (ovh v e ks) a:=by
  intro ks
  have key:∀(ks:List Nat),aY (DF e) ks=some (ks.map fun _=>v)→∀k∈ks,DF e k=some v:=by
    intro ks
    induction ks with
    | nil=>intro _ k hk;cases hk
    | cons s ks ih =>
      intro hs
      simp only [aY,List.map_cons] at hs
      split at hs
      · cases hs
      · rename_i h1
        split at hs
        · cases hs
        · rename_i h2
          cases hs
          intro k hk
          rcases List.mem_cons.1 hk with hk | hk
          · subst hk;exact h1
          · exact ih h2 k hk
  intro hs hA
  have hk:=key ks hs
  clear hs key
  have lk2:∀k x,DF (ovh v e ks) k=some x→DF e k=some x:=by
    induction ks with
    | nil=>exact fun k x h=>h
    | cons j ks ih =>
      intro k x h
      simp only [ovh,DF] at h
      split at h
      · rename_i hb
        have:=Nat.eq_of_beq_eq_true hb
        subst this
        cases h
        exact hk k (by simp)
      · exact ih (fun k hk'=>hk k (List.mem_cons_of_mem _ hk')) k x h
  exact⟨hA.d,hA.size,fun k x h=>hA.get k x (lk2 k x h)⟩
theorem ZQ{B:Bl}:∀{is:List Nat} {M:List Ch},aY (fun i=>L[i]?) is=some M→pick (L.map (j5 B)) is=M.map (j5 B)
  | [],M,h=>by cases h;rfl
  | i :: is, M, h => by
    simp only [aY] at h
    split at h
    · cases h
    · rename_i h1
      split at h
      · cases h
      · rename_i h2
        cases h
        simp only [pick,List.getElem?_map,h1,Option.map_some,Option.getD_some,ZQ h2,List.map_cons]
theorem aP9{α:Type}[aJ α](E:CO α)(h b v:Nat)(is ks:List Nat){s:AC}{l:List α}{k nb:Nat}(x:α)(y:E.ex){cs0:List SV}{ec:List Value}(hs:L[h]?=some (.o (wK (s.v l.length) l k)))(hb:L[b]?=some (.box nb cs0))(hv:L[v]?=some (wOf α nb s l.length k))(hi:aY (fun i=>L[i]?) is=some (E.Lx x y))(hc:nbL cs0=E.cs x y)(hec:aY (bQ []) (E.cs x y)=some ec)(ha:dP (h :: b :: is)=true)(hk:aY (DF e) ks=some (ks.map fun _=>.h s l.length)){B:Bl}{a:Act}{w:World}(hA:gI n B e a)(hS:mP c w B L) :
    gI n B (ovh (.h s (l.set k x).length) e ks) a∧mP c w B (PC L (h :: b :: is) ++ [ow s (l.set k x)]):=by
  have hlen:(l.set k x).length=l.length:=List.length_set
  unfold ow
  rw [hlen]
  refine⟨aFW ks hk hA,?_⟩
  obtain⟨⟨R,s1,s2⟩,s0⟩:=hS
  have hB:B[nb]?=some (O5 (s.v l.length),OX (aJ.n α) k (s.v l.length)):=s2 _ (List.mem_of_getElem? hv)
  refine⟨⟨R,?_,fun z hz=>?_⟩,s0⟩
  · rw [List.map_append,MU]
    refine s1.shift (h :: b :: is) ha fun F hF=>?_
    simp only [pick,List.getElem?_map,hs,hb,Option.map_some,Option.getD_some,ZQ hi,E.nb] at hF
    have hE:aY (bQ B) cs0=some ec:=by rw [←MT,hc];exact fL (fun x v h=>by simpa using gR (B:=[]) B h) hec
    have h2:Sep w ([wK (s.v l.length) l k,Q8 (O5 (s.v l.length)) (OX (aJ.n α) k (s.v l.length)) ec]++(E.Lx x y).map (j5 [])) F:=by
      refine Sep.imp (.cons (fun _ h=>h) (.cons (fun F h=>?_) (jM.refl _))) hF
      obtain⟨bb,z,vs,k1,k2,k3⟩:=h
      rw [hB] at k1;cases k1
      rw [hE] at k2;cases k2
      exact k3
    obtain⟨F1,F2,g1,g2,gd,gF⟩:=Sep.append.1 h2
    have h3:Sep w ([wK (s.v l.length) l k,Q8 (O5 (s.v l.length)) (OX (aJ.n α) k (s.v l.length)) ec] ++ [fW ec x]) F:=Sep.append.2 ⟨F1,F2,g1,Sep.one.2 ((E.pk hec w F2).2 g2),gd,gF⟩
    exact Sep.one.2 (aEH h3)
  · rcases List.mem_append.1 hz with hz | hz
    · rcases T3 _ _ hz with hz | hz
      · exact s2 z hz
      · subst hz;trivial
    · simp at hz;subst hz;trivial
theorem ce{α:Type}[aJ α](E:CO α)(h b v:Nat)(is ks:List Nat){s:AC}{l:List α}{k nb:Nat}(x:α)(y:E.ex){cs0:List SV}{ec:List Value}(hs:L[h]?=some (.o (wK (s.v l.length) l k)))(hb:L[b]?=some (.box nb cs0))(hv:L[v]?=some (wOf α nb s l.length k))(hi:aY (fun i=>L[i]?) is=some (E.Lx x y))(hc:nbL cs0=E.cs x y)(hec:aY (bQ []) (E.cs x y)=some ec)(ha:dP (h :: b :: is)=true)(hz:((h :: b :: is).all fun j=>gO j cf.AO)=true)(hk:aY (DF e) ks=some (ks.map fun _=>.h s l.length))
    (kk:G (.mk P T hT n c B0 N X Q) K m (ovh (.h s (l.set k x).length) e ks) (PC L (h :: b :: is) ++ [ow s (l.set k x)]) cf):G (.mk P T hT n c B0 N X Q) K m e L cf:=by
  refine chg (fun _:Unit=>m) (fun _=>ovh (.h s (l.set k x).length) e ks) (fun _=>PC L (h :: b :: is) ++ [ow s (l.set k x)]) (fun B a w hm hA hS=>?_) (fun _=>ZP _ hz) (fun _=>kk)
  obtain⟨h1,h2⟩:=aP9 E h b v is ks x y hs hb hv hi hc hec ha hk hA hS
  exact⟨(),[],by simpa using hm,by simpa using h1,by simpa using h2⟩
end
end Go.Gv
end
noncomputable section
namespace Go.Gv
noncomputable section
variable {P:Program} {T:TT} {hT:GM P T} {n:Nat} {c:Ctx} {B0:Bl} {N:Act→World→Prop} {X:Nat→Act→World→Prop} {Q:Act→World→Prop} {K K':List Fr} {m m':Nat} {e e':SE} {L L':List Ch} {cf cf':wP}
theorem ceS{α:Type}[aJ α](E:CO α)(h:Nat)(is ks:List Nat){s:AC}{l:List α}{k nb:Nat}(x:α)(y:E.ex){cs0:List SV}{ec:List Value}(h0:PA (j7 T n K cf m e L)=some (K',cf',m',e',L'))(hs:L'[h]?=some (.o (wK (s.v l.length) l k)))(hb:L'[h+1]?=some (.box nb cs0))(hv:L'[h+2]?=some (wOf α nb s l.length k))(hi:aY (fun i=>L'[i]?) is=some (E.Lx x y))(hc:nbL cs0=E.cs x y)(hec:aY (bQ []) (E.cs x y)=some ec)(ha:dP (h :: (h+1) :: is)=true)(hz:((h :: (h+1) :: is).all fun j=>gO j cf'.AO)=true)(hk:aY (DF e') ks=some (ks.map fun _=>.h s l.length))
    (kk:G (.mk P T hT n c B0 N X Q) K' m' (ovh (.h s (l.set k x).length) e' ks) (PC L' (h :: (h+1) :: is) ++ [ow s (l.set k x)]) cf'):G (.mk P T hT n c B0 N X Q) K m e L cf:=
  gW (g:=.mk P T hT n c B0 N X Q) (ZL h0 (ce E h (h+1) (h+2) is ks x y hs hb hv hi hc hec ha hz hk kk))
theorem sF(hs:j7 T n K cf m e L=.fin m' e' L')(h:∀a w,p8 n c B0 m' e' L' a w→N a w):G (.mk P T hT n c B0 N X Q) K m e L cf:=
  gW (g:=.mk P T hT n c B0 N X Q) (by rw [hs];exact h)
theorem sX{id:Nat}(hs:j7 T n K cf m e L=.ex id m' e' L')(h:∀a w,p8 n c B0 m' e' L' a w→X id a w):G (.mk P T hT n c B0 N X Q) K m e L cf:=
  gW (g:=.mk P T hT n c B0 N X Q) (by rw [hs];exact h)
theorem sR(hs:j7 T n K cf m e L=.ret m' e' L')(h:∀a w,p8 n c B0 m' e' L' a w→Q a w):G (.mk P T hT n c B0 N X Q) K m e L cf:=
  gW (g:=.mk P T hT n c B0 N X Q) (by rw [hs];exact h)
theorem nxR{σ ρ υ:Type}{o:Step σ ρ}{mj:Nat}{el:σ→υ→SE}{Ll:σ→υ→List Ch}{s:σ}(u:υ)(is:List Nat)(hG:some (Step.next s)=some o)(h:RC B0.length m' e' L' is mj (el s u) (Ll s u)=some (el s u,Ll s u)):∀a w,p8 n c B0 m' e' L' a w→NxP n c B0 o mj el Ll a w:=by
  cases hG
  exact fun a w hr=>⟨s,u,rfl,hr.RC is h⟩
theorem qG{π υ:Type}{eq:π→Prop}{mj:Nat}{ej:π→υ→SE}{Lj:π→υ→List Ch}{p:π}(u:υ)(is:List Nat)(hF:eq p)(h:RC B0.length m' e' L' is mj (ej p u) (Lj p u)=some (ej p u,Lj p u)):∀a w,p8 n c B0 m' e' L' a w→JP n c B0 eq mj ej Lj a w:=
  fun a w hr=>⟨p,u,hF,p8.RC hr is h⟩
theorem bkR{σ ρ β υ:Type}{o:Step σ ρ}{ro:ρ}{enc:β→ρ}{mj id:Nat}{ej:β→υ→SE}{Lj:β→υ→List Ch}{b:β}(u:υ)(is:List Nat)(hG:some (Step.stop (enc b))=some o)(hr:∀p,o=.stop p→p=ro)(h:RC B0.length m' e' L' is mj (ej b u) (Lj b u)=some (ej b u,Lj b u)):∀a w,p8 n c B0 m' e' L' a w→BkP n c B0 ro enc mj ej Lj id X id a w:=by
  cases hG
  have:=hr _ rfl
  subst this
  intro a w hr
  unfold BkP
  rw [if_pos rfl]
  exact⟨b,u,rfl,hr.RC is h⟩
include hT in
theorem rG{fn:Func}{ρ ex:Type}{sv:ρ→ex→SV}{Lf:ρ→ex→List Ch}{r r':ρ}{rs:List ResultVar}{zz:Option ρ}(y:ex)(is:List Nat)(hF:zz=some r)(hz:zz=some r')(hr:fn.results=rs.toArray){x:SV}(hv:aFH T e' L' rs=some x)(hx:nbS x=sv r' y)(hk:GL B0.length (sv r' y)=true)(hL:RC B0.length m' e' L' is B0.length [] (Lf r' y)=some ([],Lf r' y)):∀a w,p8 n c B0 m' e' L' a w→QS P fn c B0 sv Lf r a w:=by
  subst hz;cases hF
  intro a w hr'
  obtain⟨B,hm,hA,hS⟩:=id hr'
  obtain⟨v,h1,h2⟩:=ZN hr hT hA hS hv
  obtain⟨B',hm',_,hS'⟩:=hr'.RC is hL
  have hB':B'=[]:=(by simpa using hm')
  subst hB'
  refine⟨hA.d,v,h2,y,?_,by simpa using hS'⟩
  rw [←hx] at hk ⊢
  have:=MS hk (by rw [ZJ];exact h1)
  rw [List.take_append_of_le_length (Nat.le_refl _),List.take_length] at this
  exact this
theorem rI{Z:Act→World→Prop}{α:Type}[aJ α](E:CO α)(h:Nat)(is ks:List Nat){s:AC}{l:List α}{k nb:Nat}(x:α)(y:E.ex){cs0:List SV}{ec:List Value}(hs:L[h]?=some (.o (wK (s.v l.length) l k)))(hb:L[h+1]?=some (.box nb cs0))(hv:L[h+2]?=some (wOf α nb s l.length k))(hi:aY (fun i=>L[i]?) is=some (E.Lx x y))(hc:nbL cs0=E.cs x y)(hec:aY (bQ []) (E.cs x y)=some ec)(ha:dP (h :: (h+1) :: is)=true)(hk:aY (DF e) ks=some (ks.map fun _=>.h s l.length))
    (kk:∀a w,p8 n c B0 m (ovh (.h s (l.set k x).length) e ks) (PC L (h :: (h+1) :: is) ++ [ow s (l.set k x)]) a w→Z a w):∀a w,p8 n c B0 m e L a w→Z a w:=by
  intro a w ⟨B,hm,hA,hS⟩
  obtain⟨h1,h2⟩:=aP9 E h (h+1) (h+2) is ks x y hs hb hv hi hc hec ha hk hA hS
  exact kk a w ⟨B,hm,h1,h2⟩
end
def wAt(n:Nat):List Ch→Option (Nat×Nat)
  | []=>none
  | .w k b z :: L => match Nat.beq n k with
    | true=>some (b,z)
    | false=>wAt n L
  | _ :: L=>wAt n L
theorem MV{n b z:Nat}:∀{L:List Ch},wAt n L=some (b,z)→Ch.w n b z∈L
  | [],h=>by cases h
  | x :: L, h => by
    cases x with
    | w k b' z' =>
      simp only [wAt] at h
      split at h
      · rename_i hb
        have:=Nat.eq_of_beq_eq_true hb
        subst this
        cases h;simp
      · exact List.mem_cons_of_mem _ (MV h)
    | box k cs=>exact List.mem_cons_of_mem _ (MV (L:=L) h)
    | ro k cs=>exact List.mem_cons_of_mem _ (MV (L:=L) h)
    | o ch=>exact List.mem_cons_of_mem _ (MV (L:=L) h)
    | f g=>exact List.mem_cons_of_mem _ (MV (L:=L) h)
    | no=>exact List.mem_cons_of_mem _ (MV (L:=L) h)
noncomputable section
variable {P:Program} {T:TT} {hT:GM P T} {n:Nat} {c:Ctx} {B0:Bl} {N:Act→World→Prop} {X:Nat→Act→World→Prop} {Q:Act→World→Prop} {K K':List Fr} {m m':Nat} {e e':SE} {L L' Lv:List Ch} {cf cf1 cf2:wP} {o:Oper} {d:Nat}
theorem mC{α:Type}[aJ α](nb:Nat){t el sz:Nat}{s:AC}{i:Int}{ls:List α}{x:α}{b1 b2:Bool}{n1:Nat}{z1 z2:List SV}{k2:TK}(hsh:Shp s ls.length)(hi:idx ls i=some x)(hs:j7 T n K cf m e L=.idx o d t s ls.length i Lv cf1 cf2 K' m' e' L')(hw:wAt nb Lv=some (O5 (s.v ls.length),OX (aJ.n α) i.toNat (s.v ls.length)))(ht:A1 T t=some ⟨.sl el,b1,n1,z1⟩)(he:A1 T el=some ⟨k2,b2,sz,z2⟩)(hn:aJ.n α=sz)
    (k:G (.mk P T hT n c B0 N X Q) K' m' ((d,.p nb 0) :: e') L' cf2):G (.mk P T hT n c B0 N X Q) K m e L cf:=by
  obtain⟨p,hp⟩:=List.mem_iff_getElem?.1 (MV hw)
  exact ie p hsh hs hi hp ht he hn k
end
def JE.o{α:Type}[aJ α](C:JE α)(Lx:α→C.ex→List Ch)(pk:∀{q y ec},aY (bQ []) (C.cs q y)=some ec→OP ec q ((Lx q y).map (j5 [])))(no:∀q y,noF (Lx q y)=true)(nb:∀q y B,(Lx q y).map (j5 B)=(Lx q y).map (j5 [])):CO α:=
  ⟨C.ex,C.cs,Lx,fun h=>let ⟨y,h1,_⟩:=C.ok (aJ.own_rd h);⟨y,h1⟩,pk,no,nb⟩
def oI:CO Int:=cI.o (fun _ _=>[]) (fun h=>by cases h;exact gN rfl) (fun _ _=>rfl) (fun _ _ _=>rfl)
def oB:CO Bool:=cB.o (fun _ _=>[]) (fun h=>by cases h;exact gN rfl) (fun _ _=>rfl) (fun _ _ _=>rfl)
def oU:CO UInt8:=cU.o (fun _ _=>[]) (fun h=>by cases h;exact gN rfl) (fun _ _=>rfl) (fun _ _ _=>rfl)
theorem mN{α:Type}[aJ α][Flat α]{cs:List Value}{d:α}(h:aJ.rd F0 default cs d)(w:World):aJ.own w cs d F0:=Flat.own_of h
end Go.Gv
end
noncomputable section
namespace Go.Gv
noncomputable section
variable {P:Program} {T:TT} {hT:GM P T} {n:Nat} {c:Ctx} {B0:Bl} {N:Act→World→Prop} {X:Nat→Act→World→Prop} {Q:Act→World→Prop} {K K':List Fr} {m m':Nat} {e e':SE} {L L':List Ch} {cf:wP}
variable {b:Bool} {α:Type} {A B':Option α} {q:Option α}
theorem csK{o:Operand}{x y:Code}(ss:List Nat)(hs:j7 T n K cf m e L=.cond o b x y K' m' e' L')(ho:aY (DF e') ss=some (ss.map fun _=>SV.b b))(hF:(if b=true then A else B')=q)
    (k1:b=true→A=q→G (.mk P T hT n c B0 N X Q) K' m' (ovr true e' ss) L' (.c x)) (k2:b=false→B'=q→G (.mk P T hT n c B0 N X Q) K' m' (ovr false e' ss) L' (.c y)):G (.mk P T hT n c B0 N X Q) K m e L cf:=
  gW (g := .mk P T hT n c B0 N X Q) (by
    rw [hs]
    intro he a w hr
    have ⟨B,hm,hA,hS⟩:=hr
    obtain⟨v,h1,h2⟩:=eR hA he
    cases h1
    refine lN hA.env h2 (fun hc=>?_) (fun hc=>?_)
    · rw [if_pos hc] at hF
      exact k1 hc hF a w (ZM hc ss ho hr)
    · rw [if_neg (by rw [hc];simp)] at hF
      exact k2 hc hF a w (ZM hc ss ho hr))
theorem caK{cf':wP}(ss:List Nat)(hs:j7 T n K cf m e L=.case b cf' K' m' e' L')(ho:aY (DF e') ss=some (ss.map fun _=>SV.b b))(hF:(if b=true then A else B')=q)
    (k1:b=true→A=q→G (.mk P T hT n c B0 N X Q) K' m' (ovr true e' ss) L' cf') (k2:b=false→B'=q→G (.mk P T hT n c B0 N X Q) K' m' (ovr false e' ss) L' cf'):G (.mk P T hT n c B0 N X Q) K m e L cf:=
  gW (g:=.mk P T hT n c B0 N X Q) (by
    rw [hs]
    cases b with
    | true=>exact aAI (fun a B hA=>RH rfl ss ho hA) (k1 rfl (by simpa using hF))
    | false=>exact aAI (fun a B hA=>RH rfl ss ho hA) (k2 rfl (by simpa using hF)))
end
end Go.Gv
end
noncomputable section
namespace Go.Gv
noncomputable section
variable {P:Program} {T:TT} {hT:GM P T} {n:Nat} {c:Ctx} {B0:Bl} {N:Act→World→Prop} {X:Nat→Act→World→Prop} {Q:Act→World→Prop} {K K':List Fr} {m m':Nat} {e e':SE} {L L' Lv:List Ch} {cf cf1 cf2:wP} {o:Oper} {d:Nat}
theorem aMW{α:Type}[aJ α]{l:List α}(L2:AC→List Ch)(hs:j7 T n K cf m e L=.op o Lv cf1 cf2 K' m' e' L')(hd:o.dst=some d)(hz:∀s',Frz (.mk P T hT n c B0 N X Q) cf1 L' (L2 s'))(h:∀B a w,gI n B e' a→mP c w B L'→∃s' w',dZ P o (vE B e') w (AC.v s' l.length) w'∧mP c w' B (L2 s'))
    (k:∀s':AC,G (.mk P T hT n c B0 N X Q) K' m' ((d,.h s' l.length) :: e') (L2 s') cf2):G (.mk P T hT n c B0 N X Q) K m e L cf:=by
  refine gW (g:=.mk P T hT n c B0 N X Q) ?_
  rw [hs]
  intro hdn _ hE
  refine hE AC (fun _=>m') (fun s'=>(d,.h s' l.length) :: e') L2 hz (fun B a w next Q' hm hA hS hnext=>?_) k
  obtain⟨s',w',k1,k2⟩:=h _ a w hA hS
  unfold Oper.wp
  rw [k1 _ a hA.env,Oper.upon_value,hd]
  exact hnext s' _ _ ⟨[],by simpa using hm,by simpa using hA.of (by simp [gC,gV,bQ]) (hA.env.put (by rw [hd] at hdn;simpa [rH,Nat.blt_eq] using hdn) _),by simpa using k2⟩
theorem VU{α:Type}[aJ α]{w:World}{A:List Chunk}{R:List Fact}{v:Value}{l:List α}(h:St c w A R)(i:Nat)(hi:A[i]?=some (fW [v] l)):∃s':AC,v=s'.v l.length:=by
  obtain⟨ad,cp,h2,_⟩:=Z9 (h.aKT i hi)
  exact⟨⟨ad,cp⟩,h2⟩
noncomputable section
variable {x y:Operand} {t el sz:Nat} {zv:Value} {b1:Bool} {n1:Nat} {z1:List SV}
theorem lt0{α:Type}[aJ α](hinf:TR P el sz zv)(hs:j7 T n K cf m e L=.op o Lv cf1 cf2 K' m' e' L')(ho:(o.op,o.dst)=(.buildSlice t 0 #[],some d))(ht:A1 T t=some ⟨.sl el,b1,n1,z1⟩)(hn:aJ.n α=sz)
    (k:∀s':AC,G (.mk P T hT n c B0 N X Q) K' m' ((d,.h s' ([]:List α).length) :: e') (L' ++ [ow s' ([]:List α)]) cf2):G (.mk P T hT n c B0 N X Q) K m e L cf:=by
  refine aMW (l:=([]:List α)) (fun s'=>L' ++ [ow s' ([]:List α)]) hs (congrArg Prod.snd ho) (fun _=>yW _) (fun B a w hA hS=>?_) k
  obtain⟨⟨R,s1,s2⟩,s0⟩:=hS
  obtain⟨v,w',k1,k2⟩:=aSY (α:=α) (e:=vE B e') (o:=o) s1 hn (GS ht hT) hinf (congrArg Prod.fst ho)
  obtain⟨s',rfl⟩:=VU (v:=v) (l:=([]:List α)) k2 (L'.map (j5 B)).length (by simp)
  refine⟨s',w',k1,⟨⟨R,by simpa [j5] using k2,fun z hz=>?_⟩,s0⟩⟩
  rcases List.mem_append.1 hz with hz | hz
  · exact s2 z hz
  · simp at hz;subst hz;trivial
theorem A5{g:Gx}{cf:wP}{L:List Ch}{j:Nat}{z:Ch}(hn:gO j cf.AO=true):Frz g cf L (L.set j z):=by
  have:=aFV (g:=g) (M:=[]) (z:=z) (L:=L) hn
  simpa using this
theorem ap{α β:Type}[aJ α][Flat α]{A:Option β}{q:β}{s s2:AC}{l xs:List α}(i:Nat)(hinf:TR P el sz zv)(hs:j7 T n K cf m e L=.op o Lv cf1 cf2 K' m' e' L')(ho:(o.op,o.dst)=(.call {callee:=.builtin .append,args:=#[x,y],argTypes:=#[t,t]},some d))(ht:A1 T t=some ⟨.sl el,b1,n1,z1⟩)(hn:aJ.n α=sz)(hzs:zv.cells.size=sz)(hi:L'[i]?=some (ow s l))(hz:gO i cf1.AO=true)(hsrc:∀{w},HS c w L'→bX (cR w) s2 xs)(hx:iX e' x=some (.h s l.length))(hy:iX e' y=some (.h s2 xs.length))(hF:need (l.length+xs.length≤1073741824) A=some q)
    (k:A=some q→∀s':AC,G (.mk P T hT n c B0 N X Q) K' m' ((d,.h s' (l++xs).length) :: e') (L'.set i (ow s' (l++xs))) cf2):G (.mk P T hT n c B0 N X Q) K m e L cf:=by
  refine aMW (l:=l++xs) (fun s'=>L'.set i (ow s' (l++xs))) hs (congrArg Prod.snd ho) (fun _=>A5 hz) (fun B a w hA hS=>?_) (k (kH hF).2)
  have hr:bX (cR w) s2 xs:=hsrc ⟨_,hS⟩
  obtain⟨⟨R,s1,s2'⟩,s0⟩:=hS
  have hj2:(L'.map (j5 B))[i]?=some (fW [s.v l.length] l):=by simp [hi,j5]
  obtain⟨v,w',k1,k2⟩:=aEF i s1 hj2 hr hn (GS ht hT) hinf hzs (kH hF).1 (congrArg Prod.fst ho) (hdB hA hx) (hdB hA hy)
  have hlt:i < L'.length:=(List.getElem?_eq_some_iff.1 hi).1
  obtain⟨s',rfl⟩:=VU k2 i (by rw [List.getElem?_set_self (by simpa using hlt)])
  refine⟨s',w',k1,⟨⟨R,?_,fun z hz=>?_⟩,s0⟩⟩
  · rw [List.map_set];exact k2
  · rcases List.mem_or_eq_of_mem_set hz with hz | hz
    · exact s2' z hz
    · subst hz;trivial
end
end
end Go.Gv
end
noncomputable section
namespace Go.Gv
theorem aHN{α:Type}{l:List α}{i:Int}{x:α}(h:idx l i=some x):l.set i.toNat x=l:=by
  obtain⟨hk,h2⟩:=List.getElem?_eq_some_iff.1 (kG h).2.2
  rw [←h2];simp
noncomputable section
variable {P:Program} {T:TT} {hT:GM P T} {n:Nat} {c:Ctx} {B0:Bl} {N:Act→World→Prop} {X:Nat→Act→World→Prop} {Q:Act→World→Prop} {K K':List Fr} {m m':Nat} {e e':SE} {L L' Lv:List Ch} {cf cf' cf1 cf2:wP} {o:Oper} {d:Nat}
theorem FW{α:Type}[aJ α](E:CO α)(h:Nat)(is:List Nat){s:AC}{l:List α}{i:Int}{nb:Nat}{x:α}(hx:idx l i=some x)(y:E.ex){cs0:List SV}{ec:List Value}(h0:PA (j7 T n K cf m e L)=some (K',cf',m',e',L'))(hs:L'[h]?=some (.o (wK (s.v l.length) l i.toNat)))(hb:L'[h+1]?=some (.box nb cs0))(hv:L'[h+2]?=some (wOf α nb s l.length i.toNat))(hi:aY (fun i=>L'[i]?) is=some (E.Lx x y))(hc:nbL cs0=E.cs x y)(hec:aY (bQ []) (E.cs x y)=some ec)(ha:dP (h :: (h+1) :: is)=true)(hz:((h :: (h+1) :: is).all fun j=>gO j cf'.AO)=true)
    (kk:G (.mk P T hT n c B0 N X Q) K' m' e' (PC L' (h :: (h+1) :: is) ++ [ow s l]) cf'):G (.mk P T hT n c B0 N X Q) K m e L cf:=
  ceS E h is [] x y h0 hs hb hv hi hc hec ha hz rfl (by rw [aHN hx];exact kk)
theorem oD{Z:Act→World→Prop}{α:Type}[aJ α](E:CO α)(h:Nat)(is:List Nat){s:AC}{l:List α}{i:Int}{nb:Nat}{x:α}(hx:idx l i=some x)(y:E.ex){cs0:List SV}{ec:List Value}(hs:L[h]?=some (.o (wK (s.v l.length) l i.toNat)))(hb:L[h+1]?=some (.box nb cs0))(hv:L[h+2]?=some (wOf α nb s l.length i.toNat))(hi:aY (fun i=>L[i]?) is=some (E.Lx x y))(hc:nbL cs0=E.cs x y)(hec:aY (bQ []) (E.cs x y)=some ec)(ha:dP (h :: (h+1) :: is)=true)
    (kk:∀a w,p8 n c B0 m e (PC L (h :: (h+1) :: is) ++ [ow s l]) a w→Z a w):∀a w,p8 n c B0 m e L a w→Z a w:=
  rI E h is [] x y hs hb hv hi hc hec ha rfl (by rw [aHN hx];exact kk)
noncomputable section
variable {x:Operand} {t el:Nat} {zv:Value} {b1:Bool} {n1:Nat} {z1:List SV}
theorem lt1{k:IntKind}{i:Int}(hk:k=.i64)(hinf:TR P el 1 zv)(hs:j7 T n K cf m e L=.op o Lv cf1 cf2 K' m' e' L')(ho:(o.op,o.dst)=(.buildSlice t 1 #[(0,x)],some d))(ht:A1 T t=some ⟨.sl el,b1,n1,z1⟩)(hx:(iX e' x).bind sY=some (k,i))
    (kk:∀s':AC,G (.mk P T hT n c B0 N X Q) K' m' ((d,.h s' [i].length) :: e') (L' ++ [ow s' [i]]) cf2):G (.mk P T hT n c B0 N X Q) K m e L cf:=by
  subst hk
  refine aMW (l:=[i]) (fun s'=>L' ++ [ow s' [i]]) hs (congrArg Prod.snd ho) (fun _=>yW _) (fun B a w hA hS=>?_) kk
  obtain⟨⟨R,s1,s2⟩,s0⟩:=hS
  obtain⟨v,w',k1,k2⟩:=aSZ (α:=Int) (e:=vE B e') (o:=o) i s1 rfl (GS ht hT) hinf (c0:=.int .i64 i) rfl (congrArg Prod.fst ho) (wY hA hx) rfl
  obtain⟨s',rfl⟩:=VU (v:=v) (l:=[i]) k2 (L'.map (j5 B)).length (by simp)
  refine⟨s',w',k1,⟨⟨R,by simpa [j5] using k2,fun z hz=>?_⟩,s0⟩⟩
  rcases List.mem_append.1 hz with hz | hz
  · exact s2 z hz
  · simp at hz;subst hz;trivial
end
end
end Go.Gv
end
noncomputable section
namespace Go.Gv
theorem bX.sub{c:Ctx}{α:Type}[aJ α]{s s':AC}{l:List α}{a b:Nat}(h:bX c s l)(hp:hO (aJ.n α) a b (s.v l.length)=s'.v ((l.take b).drop a).length)(hb:a≤b∧b≤l.length):bX c s' ((l.take b).drop a):=by
  have:=aJC (n:=aJ.n α) rfl h hb.1 hb.2
  rw [hp] at this
  exact this
noncomputable section
variable {P:Program} {T:TT} {hT:GM P T} {n:Nat} {c:Ctx} {B0:Bl} {N:Act→World→Prop} {X:Nat→Act→World→Prop} {Q:Act→World→Prop} {K K':List Fr} {m m':Nat} {e e':SE} {L L' Lv:List Ch} {cf cf1 cf2:wP} {o:Oper} {d:Nat}
variable {x y z:Operand} {t el sz:Nat} {k k2:IntKind} {i j:Int} {α β:Type} [aJ α] {A:Option β} {q:β} {s:AC} {l:List α} {b1 b2:Bool} {n1:Nat} {z1 z2:List SV} {kt:TK}
end
end Go.Gv
end
noncomputable section
namespace Go.Gv
theorem Sep.perm{w:World}{A B:List Chunk}(h:A.Perm B):∀{F:cL},Sep w A F→Sep w B F:=by
  induction h with
  | nil=>exact fun h=>h
  | cons a _ ih=>exact fun⟨F1,F2,h1,h2,hd,hF⟩=>⟨F1,F2,h1,ih h2,hd,hF⟩
  | swap a b L =>
    intro F h
    have h:Sep w (([b] ++ [a])++L) F:=h
    obtain⟨F1,F2,h1,h2,hd,hF⟩:=Sep.append.1 h
    exact(Sep.append (A:=[a] ++ [b])).2 ⟨F1,F2,h1.swap,h2,hd,hF⟩
  | trans _ _ i1 i2=>exact fun h=>i2 (i1 h)
theorem St.via{c:Ctx}{w:World}{A B:List Chunk}{R:List Fact}(h:St c w A R)(hs:∀F,Sep w A F→Sep w B F):St c w B R:=by
  obtain⟨F,S,hsep,rest⟩:=h.sep
  exact⟨h.keep,⟨F,S,hs F hsep,rest⟩,h.apart⟩
structure PV where
  b:Nat
  z:Nat
  A:List Value
  V:List Value
  C:List Value
def PV.whole(p:PV):Chunk:=Q8 p.b p.z (p.A++(p.V++p.C))
def PV.mid(p:PV):Chunk:=Q8 p.b (p.z+p.A.length) p.V
def PV.rest(p:PV):List Chunk:=[Q8 p.b p.z p.A,Q8 p.b (p.z+p.A.length+p.V.length) p.C]
theorem aU2{α:Type}{a v c:α}{M R:List α}:(a :: v :: c :: (M++R)).Perm (v :: (M++(a :: c :: R))):=by
  refine(List.Perm.swap v a _).trans (List.Perm.cons v ?_)
  exact((List.perm_middle (a:=c)).symm.cons a).trans (List.perm_middle (a:=a)).symm
theorem aYJ{w:World}:∀{ps:List PV} {F:cL},Sep w (ps.map PV.whole) F→Sep w (ps.map PV.mid++ps.flatMap PV.rest) F
  | [],F,h=>h
  | p :: ps, F, h => by
    obtain⟨F1,F2,h1,h2,hd,hF⟩:=h
    exact Sep.perm aU2 (Sep.append.2 ⟨F1,F2,aMO h1,aYJ h2,hd,hF⟩)
theorem aYK{w:World}:∀{ps:List PV} {F:cL},Sep w (ps.map PV.mid++ps.flatMap PV.rest) F→Sep w (ps.map PV.whole) F
  | [],F,h=>h
  | p :: ps, F, h => by
    have h2:Sep w ([Q8 p.b p.z p.A,p.mid,Q8 p.b (p.z+p.A.length+p.V.length) p.C]++(ps.map PV.mid++ps.flatMap PV.rest)) F:=Sep.perm (aU2 (M:=ps.map PV.mid) (R:=ps.flatMap PV.rest)).symm h
    obtain⟨F1,F2,h1,h3,hd,hF⟩:=Sep.append.1 h2
    exact⟨F1,F2,aOQ h1,aYK h3,hd,hF⟩
theorem St.aYL{c:Ctx}{w:World}{A M:List Chunk}{R:List Fact}(h:St c w (A++M) R)(s0:∀b o,c.S0 b o→b < c.w0.heap.size) :
    ∃κ:Ctx,κ.w0=w∧(∀b o,κ.S0 b o→b < w.heap.size)∧St κ w A []∧(∀f:Fact,f.P c.S0 c.w0→f.P κ.S0 w)∧(∀f∈R,f.P κ.S0 w) ∧
      (∀ch∈M,∀f:Fact,(∀w F,ch.P w F→f.P F w)→f.P κ.S0 w)∧∀w' A' R',St κ w' A' R'→St c w' (A'++M) R:=by
  obtain⟨F,S,hsep,hFS,hFW,hSS,hSlt,hR⟩:=h.sep
  obtain⟨F1,F2,h1,h2,hd,hF⟩:=Sep.append.1 hsep
  have hk0:c.w0.heap.size≤w.heap.size:=h.keep.size
  have h1S0:∀b o,F1 b o→c.S0 b o→False:=fun b o p q=>by
    rcases hFW b o ((hF b o).2 (.inl p)) with hw | hw
    · exact h.apart b o hw q
    · have:=s0 b o q;omega
  have hlt:∀b o,(S b o∨F2 b o)∨c.S0 b o→b < w.heap.size:=by
    rintro b o ((q | q) | q)
    · exact hSlt b o q
    · exact Sep.lt h2 q
    · have:=s0 b o q;omega
  have hap:∀b o,F1 b o→((S b o∨F2 b o)∨c.S0 b o)→False:=by
    rintro b o p ((q | q) | q)
    · exact hFS b o ((hF b o).2 (.inl p)) q
    · exact hd b o p q
    · exact h1S0 b o p q
  refine⟨⟨w,F1,fun b o=>(S b o∨F2 b o)∨c.S0 b o⟩,rfl,hlt,⟨gJ.refl _ _,⟨F1,fun b o=>(S b o∨F2 b o)∨c.S0 b o,h1,hap,fun _ _ h=>.inl h,fun _ _ h=>.inl h,hlt,by simp⟩,hap⟩,fun f hf=>?_,fun f hf=>f.mono (hR f hf) fun b o q=>.inl (.inl q),fun ch hch f hf=>?_,?_⟩
  · exact f.mono (f.agree hf fun b o q=>h.keep.cell b o (s0 b o q) fun hw=>h.apart b o hw q) fun b o q=>.inr q
  · obtain⟨j,hj⟩:=List.getElem?_of_mem hch
    obtain⟨G1,G2,g1,_,_,gF⟩:=(Sep.take hj).1 h2
    exact f.mono (hf w G1 g1) fun b o q=>.inl (.inr ((gF b o).2 (.inl q)))
  · intro w' A' R' k
    obtain⟨F',S',b1,b2,b3,b4,b5,b6⟩:=k.sep
    have hk:gJ F1 w w':=k.keep
    have hGW:∀b o,b < c.w0.heap.size→F1 b o→c.W b o:=fun b o hb g=>by
      rcases hFW b o ((hF b o).2 (.inl g)) with h | h
      · exact h
      · omega
    refine⟨h.keep.trans hk hGW,⟨fun b o=>F' b o∨F2 b o,S,Sep.append.2 ⟨F',F2,b1,Sep.keep hk h2 fun b o hf g=>hd b o g hf,?_,fun _ _=>Iff.rfl⟩,?_,?_,hSS,fun b o hS=>Nat.lt_of_lt_of_le (hSlt b o hS) hk.size,?_⟩,h.apart⟩
    · intro b o hg hf
      rcases b3 b o hg with h | h
      · exact hd b o h hf
      · have h:w.heap.size≤b:=h
        have:=Sep.lt h2 hf;omega
    · rintro b o (hf | hf) hS
      · rcases b3 b o hf with h | h
        · exact hFS b o ((hF b o).2 (.inl h)) hS
        · have h:w.heap.size≤b:=h
          have:=hSlt b o hS;omega
      · exact hFS b o ((hF b o).2 (.inr hf)) hS
    · rintro b o (hf | hf)
      · rcases b3 b o hf with h' | h'
        · exact hFW b o ((hF b o).2 (.inl h'))
        · exact .inr (Nat.le_trans h.keep.size h')
      · exact hFW b o ((hF b o).2 (.inr hf))
    · intro f hf
      exact f.agree (hR f hf) fun b o hS=>hk.cell b o (hSlt b o hS) fun g=>hFS b o ((hF b o).2 (.inl g)) hS
abbrev PS:=List (Nat×Nat×Nat×Nat)
def aFX:Nat→List (List SV)→List Ch
  | _,[]=>[]
  | k,c :: r=>.box k c :: aFX (k+1) r
def JT(L:List Ch)(i n:Nat):List SV:=match L[i]? with
  | some (.box k cs) => match Nat.beq n k with
    | true=>cs
    | false=>[]
  | _=>[]
def aHO(L:List Ch):PS→Option (List (List SV))
  | []=>some []
  | (i, n, o, k) :: r => match Nat.ble (o + k) (JT L i n).length, Nat.ble 1 k, frc (((JT L i n).drop o).take k), aHO L r with
    | true,true,some d,some ds=>some (d :: ds)
    | _,_,_,_=>none
def MW(L M:List Ch):PS→List (List SV)→List Ch
  | (i,n,o,_) :: r,c :: cs=>MW L (M.set i (.box n (ovw (JT L i n) o c))) r cs
  | _,_=>M
def DD:PS→List Nat
  | []=>[]
  | p :: r=>p.1 :: DD r
def rnP:PS→Nat→SV→Option SV
  | [], _, x => match GL 0 x with
    | true=>some x
    | false=>none
  | (_, n, o, _) :: r, j, x => match x with
    | .p n' o' => match Nat.beq n n', Nat.beq o o' with
      | true,true=>some (.p j 0)
      | _,_=>rnP r (j+1) (.p n' o')
    | x=>rnP r (j+1) x
structure HG (c κ:Ctx) (L:List Ch) (js:List Nat):Prop where
  a:∀{α:Type} [aJ α] {s:AC} {d:List α},bX c s d→bX κ s d
  o:∀{α:Type} [aJ α] {s:AC} {d:List α} (i:Nat),L[i]?=some (ow s d)→gO i js=true→bX κ s d
  f:∀{α:Type} [aJ α] {s:AC} {d:List α} (i:Nat),L[i]?=some (fr s d)→bX κ s d
def PvR(B:Bl)(L:List Ch):PS→List (List SV)→List PV→Prop
  | [],[],[]=>True
  | (i,n,o,k) :: r,d :: ds,p :: ps=>(∃cs vs,L[i]?=some (.box n cs)∧B[n]?=some (p.b,p.z)∧aY (bQ B) cs=some vs∧o+k≤cs.length∧p.A=vs.take o∧p.V=(vs.drop o).take k∧p.C=vs.drop (o+k)∧d=(cs.drop o).take k)∧PvR B L r ds ps
  | _,_,_=>False
def blP(pv:List PV):Bl:=pv.map fun p=>(p.b,p.z+p.A.length)
noncomputable section
variable {c:Ctx} {w:World} {B:Bl} {L:List Ch} {R:List Fact}
theorem aHP{i n:Nat}{x:SV}{r:List SV}(h:JT L i n=x :: r):L[i]?=some (.box n (x :: r)):=by
  unfold JT at h
  split at h
  · rename_i k cs hk
    split at h
    · rename_i hb
      rw [Nat.eq_of_beq_eq_true hb,hk,h]
    · cases h
  · cases h
theorem aU3(hS:St c w (L.map (j5 B)) R):∀{ps:PS} {ds:List (List SV)},aHO L ps=some ds→∃pv,PvR B L ps ds pv
  | [],ds,h=>by cases h;exact⟨[],trivial⟩
  | (i, n, o, k) :: r, ds, h => by
    simp only [aHO] at h
    split at h
    · rename_i d ds' h1 h2 h3 h4
      cases h
      have h1:=Nat.le_of_ble_eq_true h1
      have h2:=Nat.le_of_ble_eq_true h2
      obtain⟨pv,hpv⟩:=aU3 hS h4
      have h3:=KJ h3
      subst h3
      cases hc:JT L i n with
      | nil=>rw [hc] at h1;simp at h1;omega
      | cons x cs =>
        have hL:=aHP hc
        obtain⟨F,b,z,vs,g1,g2,g3⟩:=hS.chunk (ch:=OY B n (x :: cs)) i (by simp [hL,j5])
        exact⟨⟨b,z,vs.take o,(vs.drop o).take k,vs.drop (o+k)⟩ :: pv,⟨x :: cs,vs,hL,g1,g2,by rw [←hc];exact h1,rfl,rfl,rfl,by simp only [hc]⟩,hpv⟩
    · cases h
theorem parts{vs:List Value}{o k:Nat}:vs.take o++((vs.drop o).take k++vs.drop (o+k))=vs:=by
  rw [←List.drop_drop,List.take_append_drop,List.take_append_drop]
theorem aLQ{F:cL}:∀{ps:PS} {ds:List (List SV)} {pv:List PV} {F:cL},PvR B L ps ds pv→Sep w (pick (L.map (j5 B)) (DD ps)) F→Sep w (pv.map PV.whole) F
  | [],[],[],F,_,h=>h
  | (i, n, o, k) :: r, d :: ds, p :: ps, F, ⟨⟨cs, vs, h1, h2, h3, h4, h5, h6, h7, h8⟩, hr⟩, h => by
    simp only [DD,pick,List.getElem?_map,h1,Option.map_some,Option.getD_some] at h
    obtain⟨F1,F2,g1,g2,gd,gF⟩:=h
    refine⟨F1,F2,?_,aLQ (F:=F) hr g2,gd,gF⟩
    obtain⟨b,z,vs',k1,k2,k3⟩:=g1
    rw [h2] at k1;cases k1
    rw [h3] at k2;cases k2
    unfold PV.whole
    rw [h5,h6,h7,parts]
    exact k3
theorem aJQ{Bs:Bl}{p:PV}{ps:List PV}{j:Nat}(h:∀i,Bs[j+i]?=(blP (p :: ps))[i]?):Bs[j]?=some (p.b,p.z+p.A.length)∧∀i,Bs[j+1+i]?=(blP ps)[i]?:=by
  refine⟨?_,fun i=>?_⟩
  · have:=h 0
    simpa [blP] using this
  · have:=h (i+1)
    rw [show j+1+i=j+(i+1) by omega,this]
    simp [blP]
theorem aQB{Bs:Bl}:∀{ps:PS} {ds:List (List SV)} {pv:List PV} {j:Nat} {F:cL},PvR B L ps ds pv→ds.all (GL.okC 0)=true→(∀i,Bs[j+i]?=(blP pv)[i]?)→Sep w (pv.map PV.mid) F→Sep w ((aFX j ds).map (j5 Bs)) F
  | [],[],[],_,F,_,_,_,h=>h
  | (i, n, o, k) :: r, d :: ds, p :: ps, j, F, ⟨⟨cs, vs, h1, h2, h3, h4, h5, h6, h7, h8⟩, hr⟩, ho, hB, h => by
    simp only [List.all_cons,Bool.and_eq_true] at ho
    obtain⟨F1,F2,g1,g2,gd,gF⟩:=h
    obtain⟨b1,b2⟩:=aJQ hB
    refine⟨F1,F2,⟨p.b,p.z+p.A.length,p.V,b1,?_,g1⟩,aQB hr ho.2 b2 g2,gd,gF⟩
    have e1:aY (bQ B) d=some p.V:=by rw [h8,h6];exact LO k (LN o h3)
    have e2:=GR ho.1 e1
    rw [List.take_zero] at e2
    exact fL (fun x v h=>by simpa using gR (B:=[]) Bs h) e2
theorem aJR{Bs:Bl}:∀{ps:PS} {ds:List (List SV)} {pv:List PV} {j:Nat} {x x':SV} {v:Value},PvR B L ps ds pv→(∀i,Bs[j+i]?=(blP pv)[i]?)→rnP ps j x=some x'→gC B x=some v→gC Bs x'=some v
  | [], [], [], j, x, x', v, _, _, hx, hv => by
    simp only [rnP] at hx
    split at hx
    · rename_i h0
      cases hx
      have:=MS h0 hv
      rw [List.take_zero] at this
      simpa using D5 (B:=[]) Bs this
    · cases hx
  | (i, n, o, k) :: r, d :: ds, p :: ps, j, x, x', v, ⟨⟨cs, vs, h1, h2, h3, h4, h5, h6, h7, h8⟩, hr⟩, hB, hx, hv => by
    obtain⟨b1,b2⟩:=aJQ hB
    simp only [rnP] at hx
    split at hx
    · rename_i n' o'
      split at hx
      · rename_i e1 e2
        cases hx
        have e1:=Nat.eq_of_beq_eq_true e1
        have e2:=Nat.eq_of_beq_eq_true e2
        subst e1;subst e2
        simp only [gC,gV,bQ,h2] at hv
        have hA:p.A.length=o:=by rw [h5,List.length_take,lJ h3];omega
        simp only [gC,gV,bQ,b1,hA,Nat.add_zero]
        exact hv
      · exact aJR hr b2 hx hv
    · exact aJR hr b2 hx hv
theorem aLR{Bs:Bl}{ps:PS}{ds:List (List SV)}{pv:List PV}(hr:PvR B L ps ds pv)(hB:∀i,Bs[0+i]?=(blP pv)[i]?):∀{xs xs':List SV} {vs:List Value},aY (rnP ps 0) xs=some xs'→aY (gC B) xs=some vs→aY (gC Bs) xs'=some vs
  | [],_,_,h,hv=>by cases h;exact hv
  | x :: xs, xs', vs, h, hv => by
    simp only [aY] at h hv
    split at h
    · cases h
    · rename_i h1
      split at h
      · cases h
      · rename_i h2
        cases h
        split at hv
        · cases hv
        · rename_i v1
          split at hv
          · cases hv
          · rename_i v2
            cases hv
            simp only [aY,aJR hr hB h1 v1,aLR hr hB h2 v2]
def PvN(B:Bl):List PV→List (List SV)→List PV→Prop
  | [],[],[]=>True
  | p :: ps,d :: ds,q :: qs=>(q.b=p.b∧q.z=p.z∧q.A=p.A∧q.C=p.C∧q.V.length=p.V.length∧aY (bQ B) d=some q.V)∧PvN B ps ds qs
  | _,_,_=>False
theorem aHQ:∀{ps:List PV} {ds:List (List SV)} {qs:List PV},PvN B ps ds qs→qs.flatMap PV.rest=ps.flatMap PV.rest∧blP qs=blP ps
  | [],[],[],_=>⟨rfl,rfl⟩
  | p :: ps, d :: ds, q :: qs, ⟨⟨h1, h2, h3, h4, h5, h6⟩, hr⟩ => by
    obtain⟨e1,e2⟩:=aHQ hr
    simp only [List.flatMap_cons,e1,PV.rest,h1,h2,h3,h4,h5]
    refine⟨trivial,?_⟩
    simp only [blP,List.map_cons,h1,h2,h3] at e2 ⊢
    rw [e2]
def aAL:PS→List (List SV)→Bool
  | [],[]=>true
  | (_, _, _, k) :: r, d :: ds => match Nat.beq d.length k with
    | true=>aAL r ds
    | false=>false
  | _,_=>false
theorem aQC:∀{ps:PS} {ds:List (List SV)} {pv:List PV},PvR B L ps ds pv→pv.length=ps.length
  | [],[],[],_=>rfl
  | (i,n,o,k) :: r,d :: ds,p :: ps,⟨_,hr⟩=>by simp [aQC hr]
theorem aLS{Bs:Bl}:∀{ps:PS} {ds:List (List SV)} {pv:List PV} {es:List (List SV)} {j:Nat},PvR B L ps ds pv→aAL ps es=true→es.all (GL.okC 0)=true→(∀i,Bs[j+i]?=(blP pv)[i]?)→(∀i cs,es[i]?=some cs→∃F,(OY Bs (j+i) cs).P w F)→∃qs,PvN B pv es qs∧jM w ((aFX j es).map (j5 Bs)) (qs.map PV.mid)
  | [],[],[],[],j,_,_,_,_,_=>⟨[],trivial,.nil⟩
  | [],[],[],e :: es,j,_,hl,_,_,_=>by simp [aAL] at hl
  | (i,n,o,k) :: r,d :: ds,p :: ps,[],j,_,hl,_,_,_=>by simp [aAL] at hl
  | (i, n, o, k) :: r, d :: ds, p :: ps, e :: es, j, ⟨⟨cs, vs, h1, h2, h3, h4, h5, h6, h7, h8⟩, hr⟩, hl, ho, hB, hc => by
    simp only [aAL] at hl
    split at hl
    · rename_i he
      have he:=Nat.eq_of_beq_eq_true he
      simp only [List.all_cons,Bool.and_eq_true] at ho
      obtain⟨b1,b2⟩:=aJQ hB
      obtain⟨qs,q1,q2⟩:=aLS hr hl ho.2 b2 fun i cs hi=>by
        have:=hc (i+1) cs (by simpa using hi)
        rwa [show j+(i+1)=j+1+i by omega] at this
      obtain⟨F,b,z,us,g1,g2,g3⟩:=hc 0 e rfl
      have hlen:=lJ h3
      have g4:=GR ho.1 g2
      rw [List.take_zero] at g4
      refine⟨⟨p.b,p.z,p.A,us,p.C⟩ :: qs,⟨⟨rfl,rfl,rfl,rfl,?_,fL (fun x v h=>by simpa using gR (B:=[]) B h) g4⟩,q1⟩,.cons (fun F hF=>?_) q2⟩
      · rw [lJ g2,h6,List.length_take,List.length_drop,he];omega
      · obtain⟨b',z',us',k1,k2,k3⟩:=hF
        rw [show j=j+0 by omega] at b1
        simp only [Nat.add_zero] at g2 k2 k1 b1
        rw [b1] at k1;cases k1
        rw [g2] at k2;cases k2
        exact k3
    · cases hl
theorem aAM:∀{ws vs:List Value} {o:Nat},o+ws.length≤vs.length→RR vs o ws=vs.take o++(ws++vs.drop (o+ws.length))
  | [],vs,o,h=>by simp [RR]
  | x :: ws, vs, o, h => by
    simp only [List.length_cons] at h
    simp only [RR]
    rw [aAM (by simp;omega)]
    have t1:(vs.set o x).take (o+1)=vs.take o ++ [x]:=by
      rw [List.take_add_one,List.getElem?_set_self (by omega)]
      rw [List.take_set,List.set_eq_of_length_le (by simp;omega)]
      rfl
    have t2:(vs.set o x).drop (o+1+ws.length)=vs.drop (o+(ws.length+1)):=by
      rw [List.drop_set_of_lt (by omega),show o+1+ws.length=o+(ws.length+1) by omega]
    rw [t1,t2]
    simp
theorem aQD:∀{ps:PS} {ds es:List (List SV)} {pv qs:List PV} {M:List Ch} {F:cL},PvR B L ps ds pv→PvN B pv es qs→(∀i∈DD ps,M[i]?=some .no)→dP (DD ps)=true→Sep w (qs.map PV.whole++M.map (j5 B)) F→Sep w ((MW L M ps es).map (j5 B)) F
  | [],[],[],[],[],M,F,_,_,_,_,h=>h
  | (i, n, o, k) :: r, d :: ds, e :: es, p :: ps, q :: qs, M, F, ⟨⟨cs, vs, h1, h2, h3, h4, h5, h6, h7, h8⟩, hr⟩, ⟨⟨n1, n2, n3, n4, n5, n6⟩, hn⟩, hM, ha, h => by
    simp only [DD,dP,Bool.and_eq_true] at ha
    have hi:M[i]?=some .no:=hM i (by simp [DD])
    have hlt:i < M.length:=(List.getElem?_eq_some_iff.1 hi).1
    simp only [MW]
    refine aQD (ps:=r) (ds:=ds) (es:=es) (pv:=ps) (qs:=qs) hr hn (fun j hj=>?_) ha.2 ?_
    · have hne:i≠j:=fun e=>by
        subst e
        have:=List.all_eq_true.1 ha.1 _ hj
        simp at this
      rw [List.getElem?_set_ne hne]
      exact hM j (by simp [DD,hj])
    · have h9:Sep w (qs.map PV.whole++(q.whole :: M.map (j5 B))) F:=Sep.perm List.perm_middle.symm h
      obtain⟨F1,F2,g1,g2,gd,gF⟩:=Sep.append.1 h9
      refine Sep.append.2 ⟨F1,F2,g1,?_,gd,gF⟩
      have hc:JT L i n=cs:=by
        unfold JT
        rw [h1]
        simp
      have e0:(M.map (j5 B)).set i HY=M.map (j5 B):=by
        have:(M.map (j5 B))[i]?=some HY:=by simp [hi,j5]
        obtain⟨hl,he⟩:=List.getElem?_eq_some_iff.1 this
        rw [←he];exact List.set_getElem_self hl
      have e1:Sep w ((M.map (j5 B)).set i q.whole) F2:=Sep.put (by simpa using hlt) (by rw [e0];exact g2)
      rw [List.map_set,hc]
      refine Sep.imp ?_ e1
      refine jM.set i (jM.refl _) fun F hF=>⟨p.b,p.z,q.A++(q.V++q.C),h2,?_,by rw [←n1,←n2];exact hF⟩
      have hlen:=lJ h3
      have hV:p.V.length=k:=by rw [h6,List.length_take,List.length_drop];omega
      have hVe:e.length=k:=by rw [←lJ n6,n5,hV]
      rw [aFK _ _ _ (by omega),n3,n4,h5,h7]
      have:=TX o h3 n6
      rw [this,aAM (by omega),n5,hV]
  | [],[],e :: es,[],_,M,F,_,hn,_,_,_=>by simp [PvN] at hn
  | [],[],[],[],q :: qs,M,F,_,hn,_,_,_=>by simp [PvN] at hn
  | (i,n,o,k) :: r,d :: ds,[],p :: ps,qs,M,F,_,hn,_,_,_=>by simp [PvN] at hn
  | (i,n,o,k) :: r,d :: ds,e :: es,p :: ps,[],M,F,_,hn,_,_,_=>by simp [PvN] at hn
theorem aHR{x:Ch}:∀{ps:PS} {es:List (List SV)} {M:List Ch},x∈MW L M ps es→x∈M∨∃n cs,x=.box n cs
  | [],_,M,h=>.inl (by simpa [MW] using h)
  | (i,n,o,k) :: r,[],M,h=>.inl (by simpa [MW] using h)
  | (i, n, o, k) :: r, e :: es, M, h => by
    rcases aHR (ps:=r) (es:=es) (by simpa [MW] using h) with h | h
    · rcases List.mem_or_eq_of_mem_set h with h | h
      · exact .inl h
      · exact .inr ⟨_,_,h⟩
    · exact .inr h
end
end Go.Gv
end
noncomputable section
namespace Go.Gv
def cpS:Stop→Option (Oper×Option Nat×FuncId×List SV×wP×wP×List Fr×Nat×SE×List Ch)
  | .call o d f xs cf cf' K m e L=>some (o,d,f,xs,cf,cf',K,m,e,L)
  | .callp o d f xs cf cf' K m e L=>some (o,d,f,xs,cf,cf',K,m,e,L)
  | _=>none
def dse(d:Option Nat)(v:SV)(e:SE):SE:=match d with
  | some d=>(d,v) :: e
  | none=>e
def PD:List Ch→Bool
  | []=>true
  | .o _ :: L=>PD L
  | _ :: _=>false
theorem aAN{B B':Bl}:∀{L:List Ch},PD L=true→L.map (j5 B)=L.map (j5 B')
  | [],_=>rfl
  | .o c :: L,h=>by simp only [List.map_cons,j5];rw [aAN (L:=L) h]
theorem aAO{B:Bl}{R:List Fact}:∀{L:List Ch},PD L=true→∀x∈L,roF B R x
  | [],_,x,hx=>by cases hx
  | .o c :: L, h, x, hx => by
    rcases List.mem_cons.1 hx with hx | hx
    · subst hx;trivial
    · exact aAO (L:=L) h x hx
theorem aHS{B:Bl}{R:List Fact}:∀{cs:List (List SV)} {k:Nat},∀x∈aFX k cs,roF B R x
  | [],k,x,hx=>by cases hx
  | c :: cs, k, x, hx => by
    rcases List.mem_cons.1 hx with hx | hx
    · subst hx;trivial
    · exact aHS x hx
theorem aAP:∀{cs:List (List SV)} {k i:Nat} {c:List SV},cs[i]?=some c→(aFX k cs)[i]?=some (.box (k+i) c)
  | c' :: cs,k,0,c,h=>by simp at h;subst h;rfl
  | c' :: cs, k, i + 1, c, h => by
    have:=aAP (k:=k+1) (show cs[i]?=some c by simpa using h)
    simpa [aFX,Nat.add_assoc,Nat.add_comm 1] using this
theorem T4{L:List Chunk}:∀{a b:List Nat},pick L (a++b)=pick L a++pick L b
  | [],b=>rfl
  | i :: a,b=>by simp only [List.cons_append,pick,T4 (a:=a)]
theorem ZR:∀{js:List Nat} {L:List Ch},(PC L js).length=L.length
  | [],L=>rfl
  | j :: js,L=>by simp only [PC];rw [ZR];simp
theorem aQE:∀{js:List Nat} {L:List Ch} {i:Nat},i < L.length→L[i]?=some .no∨i∈js→(PC L js)[i]?=some .no
  | [],L,i,_,h=>by rcases h with h | h;exact h;cases h
  | j :: js, L, i, hl, h => by
    simp only [PC]
    refine aQE (by simpa using hl) ?_
    by_cases e:j=i
    · subst e;left;rw [List.getElem?_set_self hl]
    · rw [List.getElem?_set_ne e]
      rcases h with h | h
      · exact .inl h
      · rcases List.mem_cons.1 h with h | h
        · exact absurd h.symm e
        · exact .inr h
theorem aQF{B:Bl}{L:List Ch}:∀{ps:PS} {ds:List (List SV)} {pv:List PV},PvR B L ps ds pv→∀i∈DD ps,i < L.length
  | [],[],[],_,i,h=>by cases h
  | (i, n, o, k) :: r, d :: ds, p :: ps, ⟨⟨cs, vs, h1, _⟩, hr⟩, j, h => by
    rcases List.mem_cons.1 h with h | h
    · subst h;exact(List.getElem?_eq_some_iff.1 h1).1
    · exact aQF hr j h
theorem aLT:∀{a b:List Nat},dP (a++b)=true→dP a=true
  | [],b,_=>rfl
  | i :: a, b, h => by
    simp only [List.cons_append,dP,Bool.and_eq_true,List.all_append] at h ⊢
    exact⟨h.1.1,aLT h.2⟩
theorem aHT{g:Gx}{cf:wP}{L M:List Ch}{j:Nat}{z:Ch}(h:Frz g cf L M)(hn:gO j cf.AO=true):Frz g cf L (M.set j z):=by
  cases cf with
  | d B1 ops l is Lf Lv =>
    intro hD
    obtain⟨h1,h2⟩:=h hD
    have:=RI (L:=M) (M:=[]) (j:=j) (z:=z) h2 hn
    rw [List.append_nil] at this
    exact⟨by rw [this];exact h1,fun i hi=>by simpa using h2 i hi⟩
  | o B1 ops l is Lf Lv ii =>
    intro hD
    obtain⟨h1,h2⟩:=h hD
    have:=RI (L:=M) (M:=[]) (j:=j) (z:=z) h2 hn
    rw [List.append_nil] at this
    exact⟨by rw [this];exact h1,fun i hi=>by simpa using h2 i hi⟩
  | _=>trivial
theorem aHU{g:Gx}{cf:wP}{L L0:List Ch}:∀{ps:PS} {es:List (List SV)} {M:List Ch},Frz g cf L M→((DD ps).all fun j=>gO j cf.AO)=true→Frz g cf L (MW L0 M ps es)
  | [],_,M,h,_=>by simpa [MW] using h
  | (i,n,o,k) :: r,[],M,h,_=>by simpa [MW] using h
  | (i, n, o, k) :: r, e :: es, M, h, hz => by
    simp only [DD,List.all_cons,Bool.and_eq_true] at hz
    exact aHU (ps:=r) (es:=es) (aHT h hz.1) hz.2
theorem aER{i:Nat}:∀{js:List Nat},gO i js=true→(js.all fun j=>!Nat.beq j i)=true
  | [],_=>rfl
  | j :: js, h => by
    simp only [gO] at h
    split at h
    · cases h
    · rename_i hb
      simp only [List.all_cons,Bool.and_eq_true,Bool.not_eq_true']
      refine⟨?_,aER h⟩
      cases hji:Nat.beq j i with
      | false=>rfl
      | true =>
        rw [Nat.eq_of_beq_eq_true hji] at hb
        simp at hb
theorem aWO{g:Gx}{s:Stop}{o:Oper}{d:Option Nat}{f:FuncId}{xs:List SV}{cf cf':wP}{K:List Fr}{m:Nat}{e:SE}{L:List Ch}(hs:cpS s=some (o,d,f,xs,cf,cf',K,m,e,L))
    (h:∀fo args ats,o.op=.call {callee:=.value fo,args:=args,argTypes:=ats}→o.dst=d→iX e fo=some (.f f [])→(∃ys,aY (iX e) args.toList=some ys∧nbA ys=xs)→rH g.n d=true→WZ g K m e L o cf cf'→G g K m e L cf):Gs g s:=by
  cases s <;> simp only [cpS] at hs <;> cases hs
  · exact fun fo args ats a1 a2 a3 a4 _ a6 a7=>h fo args ats a1 a2 a3 a4 a6 a7
  · exact h
noncomputable section
variable {P:Program} {T:TT} {hT:GM P T} {n:Nat} {c:Ctx} {B0:Bl} {N:Act→World→Prop} {X:Nat→Act→World→Prop} {Q:Act→World→Prop} {K K':List Fr} {m m':Nat} {e e':SE} {L L':List Ch} {cf cf1 cf2:wP} {o:Oper}
theorem cwk{α β ex:Type}{fo:Option α}{kf:α→Option β}{q:β}{d:Option Nat}{f:FuncId}{xs xs0:List SV}{cs0:List (List SV)}{M:List Ch}{sv:α→ex→SV}{cb:α→ex→List (List SV)}{Lr:α→ex→List Ch}(ps:PS)(is:List Nat)
    (hs:cpS (j7 T n K cf m e L)=some (o,d,f,xs,cf1,cf2,K',m',e',L')) (hb:aHO L' ps=some cs0) (hi:aY (fun i=>L'[i]?) is=some M) (hx:aY (rnP ps 0) xs=some xs0)
    (hk:(PD M && (cs0.all (GL.okC 0) && (dP (DD ps++is) && (DD ps++is).all fun j=>gO j cf1.AO)))=true)
    (hn:∀x y,(aAL ps (cb x y) && ((cb x y).all (GL.okC 0) && (PD (Lr x y) && GL 0 (sv x y))))=true)
    (hc:∀{κ:Ctx},HG c κ L' (DD ps++is)→∀{Bs:Bl},Bs.length=ps.length→∀{x},fo=some x→FnS P f κ xs0 Bs (aFX 0 cs0++M) sv (fun x y=>aFX 0 (cb x y)++Lr x y) x)
    (hF:fo.bind kf=some q)
    (k:∀x,fo=some x→kf x=some q→∀y:ex,G (.mk P T hT n c B0 N X Q) K' m' (dse d (sv x y) e') (MW L' (PC L' (DD ps++is)++Lr x y) ps (cb x y)) cf2):G (.mk P T hT n c B0 N X Q) K m e L cf:=by
  refine gW (g:=.mk P T hT n c B0 N X Q) (aWO hs ?_)
  intro fo' args ats ho hd hf ⟨ys,hys,hxs⟩ hdn hE
  simp only [Bool.and_eq_true] at hk hn
  obtain⟨hkM,hkc,hka,hkz⟩:=hk
  cases hfo:fo with
  | none=>rw [hfo] at hF;cases hF
  | some x =>
    rw [hfo] at hF
    have hz2:((DD ps).all fun j=>gO j cf1.AO)=true:=by
      rw [List.all_append,Bool.and_eq_true] at hkz;exact hkz.1
    refine hE ex (fun _=>m') (fun y=>dse d (sv x y) e') (fun y=>MW L' (PC L' (DD ps++is)++Lr x y) ps (cb x y)) (fun y=>aHU (ZP _ hkz) hz2) (fun B a w next Q' hm hA hS hnext=>?_) (k x hfo hF)
    generalize hBB:TS (.mk P T hT n c B0 N X Q) cf1++B=BB at hm hA hS hnext
    obtain⟨⟨R,s1,s2⟩,s0⟩:=hS
    obtain⟨pv,hpv⟩:=aU3 s1 hb
    have hBs:(blP pv).length=ps.length:=by simp [blP,aQC hpv]
    have hB0:∀i,(blP pv)[0+i]?=(blP pv)[i]?:=fun i=>by rw [Nat.zero_add]
    have f1:=s1.front (DD ps++is) hka
    have f2:St c w ((pv.map PV.mid++M.map (j5 BB))++(pv.flatMap PV.rest++blank (L'.map (j5 BB)) (DD ps++is))) R:=by
      refine f1.via fun F h=>?_
      rw [T4,ZQ hi] at h
      obtain⟨F1,F2,g1,g2,gd,gF⟩:=Sep.append.1 h
      obtain⟨F3,F4,g3,g4,gd2,gF2⟩:=Sep.append.1 g1
      have g5:=aYJ (aLQ (F:=F) hpv g3)
      have g6:Sep w (((pv.map PV.mid++pv.flatMap PV.rest)++M.map (j5 BB))++blank (L'.map (j5 BB)) (DD ps++is)) F:=Sep.append.2 ⟨F1,F2,Sep.append.2 ⟨F3,F4,g5,g4,gd2,gF2⟩,g2,gd,gF⟩
      refine Sep.perm ?_ g6
      simp only [List.append_assoc]
      refine List.Perm.append_left _ ?_
      rw [←List.append_assoc,←List.append_assoc]
      exact List.Perm.append_right _ List.perm_append_comm
    obtain⟨κ,k1,k2,k3,k4,k5,k6,k7⟩:=f2.aYL s0
    subst k1
    have hHG:HG c κ L' (DD ps++is):=by
      refine⟨fun{α} _ {s d} h=>k4 (A0 [s.v d.length] d) h,fun{α} _ {s d} i hi hj=>?_,fun{α} _ {s d} i hi=>k5 _ (s2 _ (List.mem_of_getElem? hi))⟩
      have:(blank (L'.map (j5 BB)) (DD ps++is))[i]?=some (fW [s.v d.length] d):=by
        rw [aEI (aER hj),List.getElem?_map,hi];rfl
      exact k6 _ (List.mem_append_right _ (List.mem_of_getElem? this)) (A0 [s.v d.length] d) fun w F h=>aJ.own_rd h
    obtain⟨hcall,hrun⟩:=hc hHG hBs hfo
    obtain⟨vs,h1,h2⟩:=W0 hA hys
    obtain⟨v,h3,h4⟩:=eR hA hf
    simp [gC,aY] at h3
    subst h3
    have h1':aY (gC BB) xs=some vs:=by rw [←hxs,RE];exact h1
    have hst:mP κ κ.w0 (blP pv) (aFX 0 cs0++M):=by
      refine⟨⟨[],?_,fun x hx=>?_⟩,k2⟩
      · rw [List.map_append,aAN (B':=BB) hkM]
        refine k3.via fun F h=>?_
        obtain⟨F1,F2,g1,g2,gd,gF⟩:=Sep.append.1 h
        exact Sep.append.2 ⟨F1,F2,aQB hpv hkc hB0 g1,g2,gd,gF⟩
      · rcases List.mem_append.1 hx with hx | hx
        · exact aHS x hx
        · exact aAO hkM x hx
    have h5:=hrun vs (aLR hpv hB0 hx h1') hst
    have h6:=T2 (w:=κ.w0) hcall ho h4 h2
    unfold Oper.wp
    rw [h6 _ a hA.env,Oper.upon_enter]
    refine Calls.mono h5 fun en w' ⟨v,hv,y,g1,g2⟩=>?_
    subst hv
    obtain⟨n1,n2,n3,n4⟩:=hn x y
    have g3:=D5 BB (aP4 n4 g1)
    rw [List.nil_append] at g3
    obtain⟨⟨R',t1,t2⟩,t0⟩:=g2
    obtain⟨qs,q1,q2⟩:=aLS (w:=w') hpv n1 n2 hB0 fun i cs hi=>t1.chunk (ch:=OY (blP pv) (0+i) cs) i (by
      rw [List.getElem?_map,List.getElem?_append_left (by
        have:=(List.getElem?_eq_some_iff.1 (aAP (k:=0) hi)).1
        exact this),aAP hi];rfl)
    obtain⟨e1,e2⟩:=aHQ q1
    have t3:St κ w' (qs.map PV.mid++(Lr x y).map (j5 BB)) R':=by
      refine t1.imp ?_
      rw [List.map_append,aAN (B:=blP pv) (B':=BB) n3]
      exact jM.append q2 (jM.refl _)
    have t4:=k7 w' _ R' t3
    have t5:St c w' ((MW L' (PC L' (DD ps++is)++Lr x y) ps (cb x y)).map (j5 BB)) R:=by
      refine t4.via fun F h=>?_
      refine aQD hpv q1 (fun i hi=>?_) (aLT hka) ?_
      · have hl:=aQF hpv i hi
        rw [List.getElem?_append_left (by rw [ZR];exact hl)]
        exact aQE hl (.inr (List.mem_append_left _ hi))
      · rw [List.map_append,MU]
        have h7:Sep w' ((qs.map PV.mid++qs.flatMap PV.rest)++(blank (L'.map (j5 BB)) (DD ps++is)++(Lr x y).map (j5 BB))) F:=by
          rw [e1]
          refine Sep.perm ?_ h
          simp only [List.append_assoc]
          refine List.Perm.append_left _ ?_
          rw [←List.append_assoc (pv.flatMap PV.rest)]
          exact List.perm_append_comm
        obtain⟨F1,F2,p1,p2,pd,pF⟩:=Sep.append.1 h7
        exact Sep.append.2 ⟨F1,F2,aYK p1,p2,pd,pF⟩
    have t6:mP c w' BB (MW L' (PC L' (DD ps++is)++Lr x y) ps (cb x y)):=by
      refine⟨⟨R,t5,fun z hz=>?_⟩,s0⟩
      rcases aHR hz with hz | ⟨_,_,hz⟩
      · rcases List.mem_append.1 hz with hz | hz
        · rcases T3 _ _ hz with hz | hz
          · exact s2 z hz
          · subst hz;trivial
        · exact aAO n3 z hz
      · subst hz;trivial
    rw [hd]
    cases d with
    | none=>exact hnext y _ _ ⟨[],by simpa using hm,by simpa [dse,Act.put] using hA,by simpa using t6⟩
    | some d=>exact hnext y _ _ ⟨[],by simpa using hm,by simpa [dse] using hA.of g3 (hA.env.put (by simpa [rH,Nat.blt_eq] using hdn) v),by simpa using t6⟩
end
end Go.Gv
end
noncomputable section
namespace Go.Gv
noncomputable section
variable {P:Program} {T:TT} {hT:GM P T} {n:Nat} {c:Ctx} {B0:Bl} {N:Act→World→Prop} {X:Nat→Act→World→Prop} {Q:Act→World→Prop} {K K':List Fr} {m m':Nat} {e e':SE} {L L' Lv:List Ch} {cf cf' cf1 cf2:wP} {o:Oper}
noncomputable section
variable {α β ex:Type} {fo:Option α} {kf:α→Option β} {q:β} {d:Option Nat} {f:FuncId} {xs xs0:List SV} {M:List Ch} {sv:α→ex→SV} {Lr:α→ex→List Ch}
theorem cw0(is:List Nat)
    (hs:cpS (j7 T n K cf m e L)=some (o,d,f,xs,cf1,cf2,K',m',e',L')) (hi:aY (fun i=>L'[i]?) is=some M) (hx:aY (rnP [] 0) xs=some xs0)
    (hk:(PD M && (dP is && is.all fun j=>gO j cf1.AO))=true) (hn:∀x y,(PD (Lr x y) && GL 0 (sv x y))=true)
    (hc:∀{κ:Ctx},HG c κ L' is→∀{x},fo=some x→FnS P f κ xs0 [] M sv Lr x) (hF:fo.bind kf=some q)
    (k:∀x,fo=some x→kf x=some q→∀y:ex,G (.mk P T hT n c B0 N X Q) K' m' (dse d (sv x y) e') (PC L' is++Lr x y) cf2):G (.mk P T hT n c B0 N X Q) K m e L cf:=
  cwk (cb:=fun _ _=>[]) (Lr:=Lr) [] is hs rfl hi hx (by simpa [DD] using hk) (fun x y=>by simpa [aAL] using hn x y) (fun{κ} h Bs hl x hx=>match Bs,hl with | [],_=>hc (by simpa [DD] using h) hx) hF (fun x h1 h2 y=>by simpa [MW,DD] using k x h1 h2 y)
theorem cw1{c1:List SV}{a1:α→ex→List SV}(i1 n1 o1 k1:Nat)(is:List Nat)
    (hs:cpS (j7 T n K cf m e L)=some (o,d,f,xs,cf1,cf2,K',m',e',L')) (hb:aHO L' [(i1,n1,o1,k1)]=some [c1]) (hi:aY (fun i=>L'[i]?) is=some M) (hx:aY (rnP [(i1,n1,o1,k1)] 0) xs=some xs0)
    (hk:(PD M && ([c1].all (GL.okC 0) && (dP (i1 :: is) && (i1 :: is).all fun j=>gO j cf1.AO)))=true) (hn:∀x y,(aAL [(i1,n1,o1,k1)] [a1 x y] && ([a1 x y].all (GL.okC 0) && (PD (Lr x y) && GL 0 (sv x y))))=true)
    (hc:∀{κ:Ctx},HG c κ L' (i1 :: is)→∀{b1:Nat×Nat} {x},fo=some x→FnS P f κ xs0 [b1] (.box 0 c1 :: M) sv (fun x y=>.box 0 (a1 x y) :: Lr x y) x) (hF:fo.bind kf=some q)
    (k:∀x,fo=some x→kf x=some q→∀y:ex,G (.mk P T hT n c B0 N X Q) K' m' (dse d (sv x y) e') (MW L' (PC L' (i1 :: is)++Lr x y) [(i1,n1,o1,k1)] [a1 x y]) cf2):G (.mk P T hT n c B0 N X Q) K m e L cf:=
  cwk (cb:=fun x y=>[a1 x y]) (Lr:=Lr) [(i1,n1,o1,k1)] is hs hb hi hx hk hn (fun{κ} h Bs hl x hx=>match Bs,hl with | [b1],_=>hc h hx) hF k
theorem cw2{c1 c2:List SV}{a1 a2:α→ex→List SV}(i1 n1 o1 k1:Nat)(i2 n2 o2 k2:Nat)(is:List Nat)
    (hs:cpS (j7 T n K cf m e L)=some (o,d,f,xs,cf1,cf2,K',m',e',L')) (hb:aHO L' [(i1,n1,o1,k1),(i2,n2,o2,k2)]=some [c1,c2]) (hi:aY (fun i=>L'[i]?) is=some M) (hx:aY (rnP [(i1,n1,o1,k1),(i2,n2,o2,k2)] 0) xs=some xs0)
    (hk:(PD M && ([c1,c2].all (GL.okC 0) && (dP (i1 :: i2 :: is) && (i1 :: i2 :: is).all fun j=>gO j cf1.AO)))=true) (hn:∀x y,(aAL [(i1,n1,o1,k1),(i2,n2,o2,k2)] [a1 x y,a2 x y] && ([a1 x y,a2 x y].all (GL.okC 0) && (PD (Lr x y) && GL 0 (sv x y))))=true)
    (hc:∀{κ:Ctx},HG c κ L' (i1 :: i2 :: is)→∀{b1 b2:Nat×Nat} {x},fo=some x→FnS P f κ xs0 [b1,b2] (.box 0 c1 :: .box 1 c2 :: M) sv (fun x y=>.box 0 (a1 x y) :: .box 1 (a2 x y) :: Lr x y) x) (hF:fo.bind kf=some q)
    (k:∀x,fo=some x→kf x=some q→∀y:ex,G (.mk P T hT n c B0 N X Q) K' m' (dse d (sv x y) e') (MW L' (PC L' (i1 :: i2 :: is)++Lr x y) [(i1,n1,o1,k1),(i2,n2,o2,k2)] [a1 x y,a2 x y]) cf2):G (.mk P T hT n c B0 N X Q) K m e L cf:=
  cwk (cb:=fun x y=>[a1 x y,a2 x y]) (Lr:=Lr) [(i1,n1,o1,k1),(i2,n2,o2,k2)] is hs hb hi hx hk hn (fun{κ} h Bs hl x hx=>match Bs,hl with | [b1,b2],_=>hc h hx) hF k
end
theorem aYM(s:AC)(n1 n2:Nat):O5 (s.v n1)=O5 (s.v n2):=by obtain⟨a,c⟩:=s;cases a <;> rfl
theorem aYN(s:AC)(q k n1 n2:Nat):OX q k (s.v n1)=OX q k (s.v n2):=by obtain⟨a,c⟩:=s;cases a <;> rfl
theorem ro{α β:Type}[aJ α](E:CO α)(j v nb:Nat){s:AC}{i:Int}{n0:Nat}{ls:List α}{kf:α→Option β}{q:β}(hs:PA (j7 T n K cf m e L)=some (K',cf',m',e',L'))(hj:L'[j]?=some (ow s ls))(hv:L'[v]?=some (wOf α nb s n0 i.toNat))(hz:gO j cf'.AO=true)(hF:(idx ls i).bind kf=some q)
    (k:∀x,idx ls i=some x→kf x=some q→∀y:E.ex,G (.mk P T hT n c B0 N X Q) K' m' e' (L'.set j .no++([.o (wK (s.v ls.length) ls i.toNat),.box nb (E.cs x y),wOf α nb s ls.length i.toNat]++E.Lx x y)) cf'):G (.mk P T hT n c B0 N X Q) K m e L cf:=by
  refine go hs ?_
  cases hi:idx ls i with
  | none=>rw [hi] at hF;cases hF
  | some x =>
    rw [hi] at hF
    refine chg (fun _=>m') (fun _=>e') (fun y:E.ex=>L'.set j .no++([.o (wK (s.v ls.length) ls i.toNat),.box nb (E.cs x y),wOf α nb s ls.length i.toNat]++E.Lx x y)) (fun B a w hm hA hS=>?_) (fun y=>aFV hz) (fun y=>k x hi hF y)
    obtain⟨⟨R,s1,s2⟩,s0⟩:=hS
    have hB:B[nb]?=some (O5 (s.v ls.length),OX (aJ.n α) i.toNat (s.v ls.length)):=by
      rw [aYM s ls.length n0,aYN s _ _ ls.length n0];exact s2 _ (List.mem_of_getElem? hv)
    have hj2:(L'.map (j5 B))[j]?=some (fW [s.v ls.length] ls):=by simp [hj,j5]
    obtain⟨ec,h1⟩:=s1.open j hj2 (kG hi).2.2
    have hlen:((L'.map (j5 B)).set j HY).length=L'.length:=by simp
    obtain⟨F,hF'⟩:=h1.chunk (L'.length+2) (by rw [List.getElem?_append_right (by omega)];simp;rfl)
    obtain⟨y,hy2⟩:=E.op (show aJ.own w ec x F from hF')
    have h2:=h1.unpack (L'.length+2) (by rw [List.getElem?_append_right (by omega)];simp) (E.pk hy2)
    have hset:((L'.map (j5 B)).set j HY ++ [wK (s.v ls.length) ls i.toNat,Q8 (O5 (s.v ls.length)) (OX (aJ.n α) i.toNat (s.v ls.length)) ec,fW ec x]).set (L'.length+2) HY=(L'.map (j5 B)).set j HY ++ [wK (s.v ls.length) ls i.toNat,Q8 (O5 (s.v ls.length)) (OX (aJ.n α) i.toNat (s.v ls.length)) ec,HY]:=by
      rw [List.set_append_right _ _ (by omega)]
      simp
    rw [hset] at h2
    refine⟨y,[],by simpa using hm,by simpa using hA,⟨⟨R,?_,fun z hz=>?_⟩,s0⟩⟩
    · have e1:(L'.set j Ch.no).map (j5 B)=(L'.map (j5 B)).set j HY:=by rw [List.map_set];rfl
      refine h2.imp ?_
      rw [List.append_nil,List.map_append,List.map_append,←e1,List.append_assoc]
      refine jM.append (jM.refl _) (jM.append (.cons (fun _ h=>h) (.cons (fun F h=>⟨_,_,ec,hB,fL (fun x v h=>by simpa using gR (B:=[]) B h) hy2,h⟩) (.cons (fun _ h=>h) .nil))) ?_)
      rw [E.nb x y B];exact jM.refl _
    · rw [List.append_nil]
      rcases List.mem_append.1 hz with hz | hz
      · rcases List.mem_or_eq_of_mem_set hz with hz | hz
        · exact s2 z hz
        · subst hz;trivial
      · rcases List.mem_append.1 hz with hz | hz
        · simp at hz
          rcases hz with rfl | rfl | rfl
          · trivial
          · trivial
          · exact hB
        · exact aFU (E.no x y) z hz
theorem bx(i:Nat){nb:Nat}{cs:List SV}(hs:PA (j7 T n K cf m e L)=some (K',cf',m',e',L'))(hb:L'[i]?=some (.box nb cs))(hz:gO i cf'.AO=true)(k:G (.mk P T hT n c B0 N X Q) K' m' e' (L'.set i (.box nb (nbL cs))) cf'):G (.mk P T hT n c B0 N X Q) K m e L cf:=by
  refine go hs (chg (fun _:Unit=>m') (fun _=>e') (fun _=>L'.set i (.box nb (nbL cs))) (fun B a w hm hA hS=>?_) (fun _=>A5 hz) (fun _=>k))
  obtain⟨⟨R,s1,s2⟩,s0⟩:=hS
  have e1:(L'.set i (.box nb (nbL cs))).map (j5 B)=L'.map (j5 B):=by
    obtain⟨hl,he⟩:=List.getElem?_eq_some_iff.1 hb
    rw [List.map_set]
    have:j5 B (.box nb (nbL cs))=(L'.map (j5 B))[i]'(by simpa using hl):=by
      rw [List.getElem_map,he];simp only [j5,OY,MT]
    rw [this];exact List.set_getElem_self _
  refine⟨(),[],by simpa using hm,by simpa using hA,⟨⟨R,?_,fun z hz=>?_⟩,s0⟩⟩
  · rw [List.append_nil,e1];exact s1
  · rw [List.append_nil]
    rcases List.mem_or_eq_of_mem_set hz with hz | hz
    · exact s2 z hz
    · subst hz;trivial
theorem nw(α:Type)[aJ α](hs:PA (j7 T n K cf m e L)=some (K',cf',m',e',L'))
    (k:G (.mk P T hT n c B0 N X Q) K' m' e' (L' ++ [ow ⟨none,0⟩ ([]:List α)]) cf'):G (.mk P T hT n c B0 N X Q) K m e L cf:=by
  refine go hs ?_
  refine chg (fun _:Unit=>m') (fun _=>e') (fun _=>L' ++ [ow ⟨none,0⟩ ([]:List α)]) (fun B a w hm hA hS=>?_) (fun _=>yW _) (fun _=>k)
  obtain⟨⟨R,s1,s2⟩,s0⟩:=hS
  refine⟨(),[],by simpa using hm,by simpa using hA,⟨⟨R,?_,fun z hz=>?_⟩,s0⟩⟩
  · rw [List.append_nil,List.map_append]
    exact St.more s1 (gJ.refl _ _) ⟨F0,⟨none,0,rfl,Nat.le_refl _,Nat.zero_le _,.inl ⟨rfl,rfl,fun _ _ h=>h⟩⟩,fun _ _ h=>h.elim⟩
  · rw [List.append_nil]
    rcases List.mem_append.1 hz with hz | hz
    · exact s2 z hz
    · simp at hz;subst hz;trivial
theorem T5{Z:Act→World→Prop}(α:Type)[aJ α](kk:∀a w,p8 n c B0 m e (L ++ [ow ⟨none,0⟩ ([]:List α)]) a w→Z a w):∀a w,p8 n c B0 m e L a w→Z a w:=by
  intro a w ⟨B,hm,hA,hS⟩
  refine kk a w ⟨B,hm,hA,?_⟩
  obtain⟨⟨R,s1,s2⟩,s0⟩:=hS
  refine⟨⟨R,?_,fun z hz=>?_⟩,s0⟩
  · rw [List.map_append]
    exact St.more s1 (gJ.refl _ _) ⟨F0,⟨none,0,rfl,Nat.le_refl _,Nat.zero_le _,.inl ⟨rfl,rfl,fun _ _ h=>h⟩⟩,fun _ _ h=>h.elim⟩
  · rcases List.mem_append.1 hz with hz | hz
    · exact s2 z hz
    · simp at hz;subst hz;trivial
end
end Go.Gv
end
noncomputable section
namespace Go.Gv
def AC.sub(s:AC)(n a:Nat):AC:=⟨if s.c=a then s.a else s.a.map (·.add (a * n)),s.c - a⟩
theorem N2{α:Type}{l:List α}{s:AC}{n a b k:Nat}(h1:a≤b)(h2:b≤l.length):hO n a b (s.v k)=(s.sub n a).v ((l.take b).drop a).length:=by
  rw [A4 h1 h2];rfl
noncomputable section
variable {P:Program} {T:TT} {hT:GM P T} {n:Nat} {c:Ctx} {B0:Bl} {N:Act→World→Prop} {X:Nat→Act→World→Prop} {Q:Act→World→Prop} {K K':List Fr} {m m':Nat} {e e':SE} {L L' Lv:List Ch} {cf cf' cf1 cf2:wP} {o:Oper} {d:Nat}
theorem cpc{α:Type}[aJ α](j:Nat){s:AC}{l:List α}(hs:PA (j7 T n K cf m e L)=some (K',cf',m',e',L'))(hj:L'[j]?=some (ow s l))(k:l.length≤s.c→G (.mk P T hT n c B0 N X Q) K' m' e' L' cf'):G (.mk P T hT n c B0 N X Q) K m e L cf:=by
  refine go hs ?_
  refine chg (fun _:PLift (l.length≤s.c)=>m') (fun _=>e') (fun _=>L') (fun B a w hm hA hS=>?_) (fun _=>by simpa using yW (L:=L') []) (fun h=>k h.down)
  obtain⟨⟨R,s1,s2⟩,s0⟩:=hS
  obtain⟨F,hF⟩:=s1.chunk (ch:=fW [s.v l.length] l) j (by simp [hj,j5])
  obtain⟨ad,cp,h1,h2⟩:=HZ (show aJ.own w [s.v l.length] l F from hF)
  simp only [AC.v,Value.slice.injEq] at h1
  exact⟨⟨by omega⟩,[],by simpa using hm,by simpa using hA,⟨⟨R,by simpa using s1,by simpa using s2⟩,s0⟩⟩
noncomputable section
variable {x y z u:Operand} {t el sz:Nat} {k1 k2 k3:IntKind} {i j p:Int} {α β:Type} [aJ α] {A:Option β} {q:β} {s:AC} {l:List α} {b1 b2:Bool} {n1:Nat} {z1 z2:List SV} {kt:TK}
theorem aHV(hc:l.length≤s.c)(hs:opS (j7 T n K cf m e L)=some (o,Lv,cf1,cf2,K',m',e',L'))(ho:(o.op,o.dst)=(.slice t x (some y) none none,some d))(ht:A1 T t=some ⟨.sl el,b1,n1,z1⟩)(he:A1 T el=some ⟨kt,b2,sz,z2⟩)(hx:iX e' x=some (.h s l.length))(hy:(iX e' y).bind sY=some (k1,i))(hF:need (0≤i∧i≤(l.length:Int)) A=some q)
    (kk:A=some q→(i.toNat≤l.length∧l.length≤l.length)→G (.mk P T hT n c B0 N X Q) K' m' ((d,.h (s.sub sz i.toNat) ((l.take l.length).drop i.toNat).length) :: e') L' cf2):G (.mk P T hT n c B0 N X Q) K m e L cf:=by
  have hop:o.op=.slice t x (some y) none none:=congrArg Prod.fst ho
  have hb:=(kH hF).1
  have hb2:i.toNat≤l.length∧l.length≤l.length:=by omega
  refine pu hs (congrArg Prod.snd ho) (fun B a w hA hS=>⟨hO sz i.toNat l.length (s.v l.length),by rw [N2 hb2.1 hb2.2];simp [gC,gV,bQ],fun _ a hA'=>?_⟩) (kk (kH hF).2 hb2)
  obtain⟨h0,h1⟩:=hb
  have h5:max i 0=i:=by omega
  simp [execOp,hop,Instr.sliceAt,Instr.slice,run_underlying (GS ht hT),Instr.sliceBounds,hA'.eval (hdB hA hx),hA'.eval (wY hA hy),Instr.sliceBound,asIntOf,hT.size _ _ he,h0,h1,hc,h5,hO]
theorem aMY(hc:l.length≤s.c)(hs:opS (j7 T n K cf m e L)=some (o,Lv,cf1,cf2,K',m',e',L'))(ho:(o.op,o.dst)=(.slice t x none (some z) none,some d))(ht:A1 T t=some ⟨.sl el,b1,n1,z1⟩)(he:A1 T el=some ⟨kt,b2,sz,z2⟩)(hx:iX e' x=some (.h s l.length))(hz:(iX e' z).bind sY=some (k2,j))(hF:need (0≤j∧j≤(l.length:Int)) A=some q)
    (kk:A=some q→(0≤j.toNat∧j.toNat≤l.length)→G (.mk P T hT n c B0 N X Q) K' m' ((d,.h (s.sub sz 0) ((l.take j.toNat).drop 0).length) :: e') L' cf2):G (.mk P T hT n c B0 N X Q) K m e L cf:=by
  have hop:o.op=.slice t x none (some z) none:=congrArg Prod.fst ho
  have hb:=(kH hF).1
  have hb2:0≤j.toNat∧j.toNat≤l.length:=by omega
  refine pu hs (congrArg Prod.snd ho) (fun B a w hA hS=>⟨hO sz 0 j.toNat (s.v l.length),by rw [N2 hb2.1 hb2.2];simp [gC,gV,bQ],fun _ a hA'=>?_⟩) (kk (kH hF).2 hb2)
  obtain⟨h0,h1⟩:=hb
  have h3:j≤(s.c:Int):=by omega
  have h5:max j 0=j:=by omega
  simp [execOp,hop,Instr.sliceAt,Instr.slice,run_underlying (GS ht hT),Instr.sliceBounds,hA'.eval (hdB hA hx),hA'.eval (wY hA hz),Instr.sliceBound,asIntOf,hT.size _ _ he,h0,h3,h5,hO]
theorem aYO(hc:l.length≤s.c)(hs:opS (j7 T n K cf m e L)=some (o,Lv,cf1,cf2,K',m',e',L'))(ho:(o.op,o.dst)=(.slice t x none (some z) (some u),some d))(ht:A1 T t=some ⟨.sl el,b1,n1,z1⟩)(he:A1 T el=some ⟨kt,b2,sz,z2⟩)(hx:iX e' x=some (.h s l.length))(hz:(iX e' z).bind sY=some (k2,j))(hu:(iX e' u).bind sY=some (k3,p))(hF:need (0≤j∧j≤p∧p≤(l.length:Int)) A=some q)
    (kk:A=some q→(0≤j.toNat∧j.toNat≤p.toNat∧p.toNat≤l.length)→G (.mk P T hT n c B0 N X Q) K' m' ((d,.h ⟨(s.sub sz 0).a,p.toNat⟩ ((l.take j.toNat).drop 0).length) :: e') L' cf2):G (.mk P T hT n c B0 N X Q) K m e L cf:=by
  have hop:o.op=.slice t x none (some z) (some u):=congrArg Prod.fst ho
  have hb:=(kH hF).1
  have hb2:0≤j.toNat∧j.toNat≤p.toNat∧p.toNat≤l.length:=by omega
  have hl:=A4 (l:=l) (a:=0) (b:=j.toNat) (by omega) (by omega)
  refine pu hs (congrArg Prod.snd ho) (fun B a w hA hS=>⟨AC.v ⟨(s.sub sz 0).a,p.toNat⟩ ((l.take j.toNat).drop 0).length,by simp [gC,gV,bQ],fun _ a hA'=>?_⟩) (kk (kH hF).2 hb2)
  obtain⟨h0,h1,h2⟩:=hb
  have h3:p≤(s.c:Int):=by omega
  have h4:0≤p:=by omega
  have h5:max j 0=j:=by omega
  have h6:max p 0=p:=by omega
  rw [hl]
  have hadd:s.a.map (fun x=>x.add 0)=s.a:=by cases s.a <;> simp [Addr.add]
  by_cases hp:p=0
  · subst hp
    simp [execOp,hop,Instr.sliceAt,Instr.slice,run_underlying (GS ht hT),Instr.sliceBounds,hA'.eval (hdB hA hx),hA'.eval (wY hA hz),hA'.eval (wY hA hu),Instr.sliceBound,asIntOf,hT.size _ _ he,h0,h1,h3,h4,h5,h6,AC.sub,hadd]
  · simp [execOp,hop,Instr.sliceAt,Instr.slice,run_underlying (GS ht hT),Instr.sliceBounds,hA'.eval (hdB hA hx),hA'.eval (wY hA hz),hA'.eval (wY hA hu),Instr.sliceBound,asIntOf,hT.size _ _ he,h0,h1,h3,h4,h5,h6,AC.sub,hadd]
end
end
end Go.Gv
end
noncomputable section
namespace Go.Gv
noncomputable section
variable {P:Program} {T:TT} {hT:GM P T} {n:Nat} {c:Ctx} {B0:Bl} {N:Act→World→Prop} {X:Nat→Act→World→Prop} {Q:Act→World→Prop} {K K':List Fr} {m m':Nat} {e e':SE} {L L' Lv:List Ch} {cf cf' cf1 cf2:wP} {o:Oper} {d:Nat}
theorem aLU{α:Type}[aJ α]{B:Bl}{w:World}{R:List Fact}{j a b sz:Nat}{s s':AC}{l l':List α}(hn:aJ.n α=sz)(hj:L[j]?=some (ow s l))(hb:a≤b∧b≤l.length)(hl:(l.take b).drop a=l')(hs:∀w F,aJ.own w [s.v l.length] l F→∃F',aJ.own w [s'.v l'.length] l' F'∧∀b o,F' b o→F b o)(hS:mP c w B L):mP c w B (L.set j (ow s' l')):=by
  obtain⟨⟨R,s1,s2⟩,s0⟩:=hS
  refine⟨⟨R,?_,fun z hz=>?_⟩,s0⟩
  · rw [List.map_set]
    refine s1.TU j (by rw [List.getElem?_map,hj];rfl) fun F hF=>?_
    obtain⟨F',h1,h2⟩:=hs w F hF
    exact⟨F',F0,gJ.refl _ _,fun _ _ h=>h.elim,h1,fun b o h=>.inl (h2 b o h)⟩
  · rcases List.mem_or_eq_of_mem_set hz with hz | hz
    · exact s2 z hz
    · subst hz;trivial
theorem aHW{α:Type}[aJ α]{s:AC}{l l':List α}{sz a b:Nat}(hn:aJ.n α=sz)(hb:a≤b∧b≤l.length)(hl:(l.take b).drop a=l'):∀w F,aJ.own w [s.v l.length] l F→∃F',aJ.own w [(s.sub sz a).v l'.length] l' F'∧∀b o,F' b o→F b o:=by
  intro w F h
  obtain⟨F',h1,h2⟩:=aK0 hn h hb.1 hb.2
  rw [N2 hb.1 hb.2,hl] at h1
  exact⟨F',h1,h2⟩
theorem aHX{α:Type}[aJ α]{s:AC}{l l':List α}{sz b p:Nat}(hn:aJ.n α=sz)(hb:0≤b∧b≤p∧p≤l.length)(hl:(l.take b).drop 0=l'):∀w F,aJ.own w [s.v l.length] l F→∃F',aJ.own w [AC.v ⟨(s.sub sz 0).a,p⟩ l'.length] l' F'∧∀b o,F' b o→F b o:=by
  intro w F h
  obtain⟨F',h1,h2⟩:=aO2 hn h hb.1 hb.2.1 hb.2.2
  have hadd:s.a.map (fun x=>x.add 0)=s.a:=by cases s.a <;> simp [Addr.add]
  have hln:=A4 (l:=l) (a:=0) (b:=b) (by omega) (by omega)
  rw [hl] at hln h1
  refine⟨F',?_,h2⟩
  have:aMQ sz 0 b p (s.v l.length)=AC.v ⟨(s.sub sz 0).a,p⟩ l'.length:=by
    rw [hln]
    simp only [aMQ,AC.v,AC.sub,Nat.zero_mul,hadd,Nat.sub_zero]
    by_cases hp:p=0 <;> simp [hp,hadd]
  rw [this] at h1
  exact h1
theorem po{α:Type}[aJ α](j a b:Nat){sz:Nat}{s:AC}{l l':List α}(hn:aJ.n α=sz)(hs:PA (j7 T n K cf m e L)=some (K',cf',m',e',L'))(hj:L'[j]?=some (ow s l))(hz:gO j cf'.AO=true)(hb:a≤b∧b≤l.length)(hl:(l.take b).drop a=l')
    (k:G (.mk P T hT n c B0 N X Q) K' m' e' (L'.set j (ow (s.sub sz a) l')) cf'):G (.mk P T hT n c B0 N X Q) K m e L cf:=by
  refine go hs (chg (fun _:Unit=>m') (fun _=>e') (fun _=>L'.set j (ow (s.sub sz a) l')) (fun B a' w hm hA hS=>?_) (fun _=>A5 hz) (fun _=>k))
  exact⟨(),[],by simpa using hm,by simpa using hA,by simpa using aLU (R:=[]) hn hj hb hl (aHW hn hb hl) hS⟩
theorem poR{Z:Act→World→Prop}{α:Type}[aJ α](j a b:Nat){sz:Nat}{s:AC}{l l':List α}(hn:aJ.n α=sz)(hj:L[j]?=some (ow s l))(hb:a≤b∧b≤l.length)(hl:(l.take b).drop a=l')
    (kk:∀a' w,p8 n c B0 m e (L.set j (ow (s.sub sz a) l')) a' w→Z a' w):∀a' w,p8 n c B0 m e L a' w→Z a' w:=by
  intro a' w ⟨B,hm,hA,hS⟩
  exact kk a' w ⟨B,hm,hA,aLU (R:=[]) hn hj hb hl (aHW hn hb hl) hS⟩
theorem pm{α:Type}[aJ α](j b p:Nat){sz:Nat}{s:AC}{l l':List α}(hn:aJ.n α=sz)(hs:PA (j7 T n K cf m e L)=some (K',cf',m',e',L'))(hj:L'[j]?=some (ow s l))(hz:gO j cf'.AO=true)(hb:0≤b∧b≤p∧p≤l.length)(hl:(l.take b).drop 0=l')
    (k:G (.mk P T hT n c B0 N X Q) K' m' e' (L'.set j (ow ⟨(s.sub sz 0).a,p⟩ l')) cf'):G (.mk P T hT n c B0 N X Q) K m e L cf:=by
  refine go hs (chg (fun _:Unit=>m') (fun _=>e') (fun _=>L'.set j (ow ⟨(s.sub sz 0).a,p⟩ l')) (fun B a' w hm hA hS=>?_) (fun _=>A5 hz) (fun _=>k))
  exact⟨(),[],by simpa using hm,by simpa using hA,by simpa using aLU (R:=[]) hn hj ⟨by omega,by omega⟩ hl (aHX hn hb hl) hS⟩
theorem pmR{Z:Act→World→Prop}{α:Type}[aJ α](j b p:Nat){sz:Nat}{s:AC}{l l':List α}(hn:aJ.n α=sz)(hj:L[j]?=some (ow s l))(hb:0≤b∧b≤p∧p≤l.length)(hl:(l.take b).drop 0=l')
    (kk:∀a' w,p8 n c B0 m e (L.set j (ow ⟨(s.sub sz 0).a,p⟩ l')) a' w→Z a' w):∀a' w,p8 n c B0 m e L a' w→Z a' w:=by
  intro a' w ⟨B,hm,hA,hS⟩
  exact kk a' w ⟨B,hm,hA,aLU (R:=[]) hn hj ⟨by omega,by omega⟩ hl (aHX hn hb hl) hS⟩
theorem aQG{α:Type}{l xs:List α}{k a n:Nat}(h:k≤n∧n≤l.length)(ha:a≤l.length):k≤n∧n≤(dA l a xs).length:=⟨h.1,by rw [eT ha];exact h.2⟩
theorem aLV{α:Type}{l xs:List α}{k a:Nat}(h:k≤a)(ha:a≤l.length):((dA l a xs).take k).drop 0=(l.take k).drop 0:=by
  simp only [List.drop_zero,dA]
  rw [List.take_append_of_le_length (by simp;omega),List.take_take,Nat.min_eq_left h]
def AC.aTR(s:AC)(n a p:Nat):AC:=⟨if p=a then s.a else s.a.map (·.add (a * n)),p - a⟩
noncomputable section
variable {x y z:Operand} {t el sz:Nat} {zv:Value} {k1 k2:IntKind} {i j:Int} {α β:Type} [aJ α] {A:Option β} {q:β} {s:AC} {l:List α} {b1 b2:Bool} {n1:Nat} {z1 z2:List SV} {kt:TK}
theorem ap2[Flat α](p a b:Nat)(hb:a≤b∧b≤l.length)(hs:j7 T n K cf m e L=.op o Lv cf1 cf2 K' m' e' L')(ho:(o.op,o.dst)=(.call {callee:=.builtin .append,args:=#[x,y],argTypes:=#[t,t]},some d))(ht:A1 T t=some ⟨.sl el,b1,n1,z1⟩)(he:A1 T el=some ⟨kt,b2,sz,z2⟩)(hn:aJ.n α=sz)(hp:L'[p]?=some (ow s l))(hz:gO p cf1.AO=true)(hx:iX e' x=some (.h (s.sub sz 0) ((l.take a).drop 0).length))(hy:iX e' y=some (.h (s.sub sz b) ((l.take l.length).drop b).length))
    (k:(0≤a+(l.length - b)∧a+(l.length - b)≤(dA l a (l.drop b)).length)→G (.mk P T hT n c B0 N X Q) K' m' ((d,.h (s.sub sz 0) (((dA l a (l.drop b)).take (a+(l.length - b))).drop 0).length) :: e') (L'.set p (ow s (dA l a (l.drop b)))) cf2):G (.mk P T hT n c B0 N X Q) K m e L cf:=by
  have hlen:(dA l a (l.drop b)).length=l.length:=eT (by omega)
  have hk:0≤a+(l.length - b)∧a+(l.length - b)≤(dA l a (l.drop b)).length:=by omega
  refine gW (g:=.mk P T hT n c B0 N X Q) ?_
  rw [hs]
  intro hdn _ hE
  refine hE Unit (fun _=>m') (fun _=>(d,.h (s.sub sz 0) (((dA l a (l.drop b)).take (a+(l.length - b))).drop 0).length) :: e') (fun _=>L'.set p (ow s (dA l a (l.drop b)))) (fun _=>A5 hz) (fun B act w next Q' hm hA hS hnext=>?_) (fun _=>k hk)
  obtain⟨⟨R,s1,s2⟩,s0⟩:=hS
  have hx2:ev (vE (TS (.mk P T hT n c B0 N X Q) cf1++B) e') x=some (hO sz 0 a (s.v l.length)):=by rw [hdB hA hx,N2 (Nat.zero_le a) (Nat.le_trans hb.1 hb.2)]
  have hy2:ev (vE (TS (.mk P T hT n c B0 N X Q) cf1++B) e') y=some (hO sz b l.length (s.v l.length)):=by rw [hdB hA hy,N2 hb.2 (Nat.le_refl _)]
  have hop:o.op=.call {callee:=.builtin .append,args:=#[x,y],argTypes:=#[t,t]}:=congrArg Prod.fst ho
  have hd:o.dst=some d:=congrArg Prod.snd ho
  obtain⟨v,w',k1,rfl,k2⟩:=aJG p s1 (by rw [List.getElem?_map,hp];rfl) hn hb.1 hb.2 (GS ht hT) (hT.size _ _ he) hop hx2 hy2
  unfold Oper.wp
  rw [k1 _ act hA.env,Oper.upon_value,hd]
  have hv:gC (TS (.mk P T hT n c B0 N X Q) cf1++B) (.h (s.sub sz 0) (((dA l a (l.drop b)).take (a+(l.length - b))).drop 0).length)=some (hO sz 0 (a+(l.length - b)) (s.v l.length)):=by
    have:=N2 (l:=dA l a (l.drop b)) (s:=s) (n:=sz) (k:=l.length) hk.1 hk.2
    rw [this]
    simp [gC,gV,bQ]
  refine hnext () _ _ ⟨[],by simpa using hm,by simpa using hA.of hv (hA.env.put (by rw [hd] at hdn;simpa [rH,Nat.blt_eq] using hdn) _),?_⟩
  rw [List.append_nil]
  refine⟨⟨R,?_,fun z hz=>?_⟩,s0⟩
  · rw [List.map_set]
    show St c w' ((L'.map _).set p (fW [s.v (dA l a (l.drop b)).length] _)) R
    rw [hlen];exact k2
  · rcases List.mem_or_eq_of_mem_set hz with hz | hz
    · exact s2 z hz
    · subst hz;trivial
theorem aU5(p k':Nat)(hk:k'≤l.length){l0:List α}(h0:l0.length=k')(hs:opS (j7 T n K cf m e L)=some (o,Lv,cf1,cf2,K',m',e',L'))(ho:(o.op,o.dst)=(.slice t x (some y) (some z) none,some d))(ht:A1 T t=some ⟨.sl el,b1,n1,z1⟩)(he:A1 T el=some ⟨kt,b2,sz,z2⟩)(hn:aJ.n α=sz)(hp:Lv[p]?=some (ow s l))(hx:iX e' x=some (.h (s.sub sz 0) l0.length))(hy:(iX e' y).bind sY=some (k1,i))(hz:(iX e' z).bind sY=some (k2,j))(hF:need (0≤i∧i≤j∧j≤(l.length:Int)) A=some q)
    (kk:A=some q→(i.toNat≤j.toNat∧j.toNat≤l.length)→G (.mk P T hT n c B0 N X Q) K' m' ((d,.h (s.sub sz i.toNat) ((l.take j.toNat).drop i.toNat).length) :: e') L' cf2):G (.mk P T hT n c B0 N X Q) K m e L cf:=by
  have hop:o.op=.slice t x (some y) (some z) none:=congrArg Prod.fst ho
  have hb:=(kH hF).1
  have hb2:i.toNat≤j.toNat∧j.toNat≤l.length:=by omega
  refine pu hs (congrArg Prod.snd ho) (fun B a w hA hS=>⟨hO sz i.toNat j.toNat (s.v l.length),by rw [N2 hb2.1 hb2.2];simp [gC,gV,bQ],?_⟩) (kk (kH hF).2 hb2)
  obtain⟨⟨R,s1,s2⟩,s0⟩:=hS
  have hx2:ev (vE B e') x=some (hO sz 0 k' (s.v l.length)):=by
    rw [hdB hA hx,h0];rfl
  exact aJH p s1 (by rw [List.getElem?_map,hp];rfl) hn (GS ht hT) (hT.size _ _ he) hb hop hx2 (wY hA hy) (wY hA hz)
theorem clr[Flat α](p a b:Nat)(zd:α)(hb:a≤b∧b≤l.length)(hinf:TR P el sz zv)(hzs:zv.cells.size=sz)(hzd:∀w,aJ.rd F0 w zv.cells.toList zd)(hone:(zv.cells.toList.all fun v=>v.oneCell')=true)(hs:j7 T n K cf m e L=.op o Lv cf1 cf2 K' m' e' L')(ho:(o.op,o.dst)=(.call {callee:=.builtin .clear,args:=#[x],argTypes:=#[t]},none))(ht:A1 T t=some ⟨.sl el,b1,n1,z1⟩)(hn:aJ.n α=sz)(hp:L'[p]?=some (ow s l))(hz:gO p cf1.AO=true)(hx:iX e' x=some (.h (s.sub sz a) ((l.take b).drop a).length))
    (k:G (.mk P T hT n c B0 N X Q) K' m' e' (L'.set p (ow s (dA l a (List.replicate (b - a) zd)))) cf2):G (.mk P T hT n c B0 N X Q) K m e L cf:=by
  have hlen:(dA l a (List.replicate (b - a) zd)).length=l.length:=eT (by omega)
  refine gW (g:=.mk P T hT n c B0 N X Q) ?_
  rw [hs]
  intro hdn _ hE
  refine hE Unit (fun _=>m') (fun _=>e') (fun _=>L'.set p (ow s (dA l a (List.replicate (b - a) zd)))) (fun _=>A5 hz) (fun B act w next Q' hm hA hS hnext=>?_) (fun _=>k)
  obtain⟨⟨R,s1,s2⟩,s0⟩:=hS
  have hx2:ev (vE (TS (.mk P T hT n c B0 N X Q) cf1++B) e') x=some (hO sz a b (s.v l.length)):=by rw [hdB hA hx,N2 hb.1 hb.2]
  have hop:o.op=.call {callee:=.builtin .clear,args:=#[x],argTypes:=#[t]}:=congrArg Prod.fst ho
  have hd:o.dst=none:=congrArg Prod.snd ho
  obtain⟨v,w',k1,rfl,k2⟩:=aO7 zd p s1 (by rw [List.getElem?_map,hp];rfl) hn hb.1 hb.2 (GS ht hT) hinf hzs hzd (fun v hv=>List.all_eq_true.1 hone v hv) hop hx2
  unfold Oper.wp
  rw [k1 _ act hA.env,Oper.upon_value,hd]
  refine hnext () _ _ ⟨[],by simpa using hm,by simpa [Act.put] using hA,?_⟩
  rw [List.append_nil]
  refine⟨⟨R,?_,fun z hz=>?_⟩,s0⟩
  · rw [List.map_set]
    show St c w' ((L'.map _).set p (fW [s.v (dA l a (List.replicate (b - a) zd)).length] _)) R
    rw [hlen];exact k2
  · rcases List.mem_or_eq_of_mem_set hz with hz | hz
    · exact s2 z hz
    · subst hz;trivial
theorem aQH{u:Operand}{k3:IntKind}{pz:Int}(hc:l.length≤s.c)(hs:opS (j7 T n K cf m e L)=some (o,Lv,cf1,cf2,K',m',e',L'))(ho:(o.op,o.dst)=(.slice t x (some y) (some z) (some u),some d))(ht:A1 T t=some ⟨.sl el,b1,n1,z1⟩)(he:A1 T el=some ⟨kt,b2,sz,z2⟩)(hx:iX e' x=some (.h s l.length))(hy:(iX e' y).bind sY=some (k1,i))(hz:(iX e' z).bind sY=some (k2,j))(hu:(iX e' u).bind sY=some (k3,pz))(hF:need (0≤i∧i≤j∧j≤pz∧pz≤(l.length:Int)) A=some q)
    (kk:A=some q→(i.toNat≤j.toNat∧j.toNat≤pz.toNat∧pz.toNat≤l.length)→G (.mk P T hT n c B0 N X Q) K' m' ((d,.h (s.aTR sz i.toNat pz.toNat) ((l.take j.toNat).drop i.toNat).length) :: e') L' cf2):G (.mk P T hT n c B0 N X Q) K m e L cf:=by
  have hop:o.op=.slice t x (some y) (some z) (some u):=congrArg Prod.fst ho
  have hb:=(kH hF).1
  have hb2:i.toNat≤j.toNat∧j.toNat≤pz.toNat∧pz.toNat≤l.length:=by omega
  have hl:=A4 (l:=l) (a:=i.toNat) (b:=j.toNat) (by omega) (by omega)
  refine pu hs (congrArg Prod.snd ho) (fun B a w hA hS=>⟨AC.v (s.aTR sz i.toNat pz.toNat) ((l.take j.toNat).drop i.toNat).length,by simp [gC,gV,bQ],fun _ a hA'=>?_⟩) (kk (kH hF).2 hb2)
  obtain⟨h0,h1,h2,h2'⟩:=hb
  have h3:pz≤(s.c:Int):=by omega
  have h4:0≤pz:=by omega
  have h4':0≤j:=by omega
  have h5:max j 0=j:=by omega
  have h6:max pz 0=pz:=by omega
  have h7:max i 0=i:=by omega
  rw [hl]
  by_cases hp:pz.toNat=i.toNat
  · have:pz=i:=by omega
    subst this
    simp [execOp,hop,Instr.sliceAt,Instr.slice,run_underlying (GS ht hT),Instr.sliceBounds,hA'.eval (hdB hA hx),hA'.eval (wY hA hy),hA'.eval (wY hA hz),hA'.eval (wY hA hu),Instr.sliceBound,asIntOf,hT.size _ _ he,h0,h1,h2,h3,h4,h4',h5,h6,h7,AC.aTR]
  · have hp2:¬pz=i:=fun h=>hp (by rw [h])
    simp [execOp,hop,Instr.sliceAt,Instr.slice,run_underlying (GS ht hT),Instr.sliceBounds,hA'.eval (hdB hA hx),hA'.eval (wY hA hy),hA'.eval (wY hA hz),hA'.eval (wY hA hu),Instr.sliceBound,asIntOf,hT.size _ _ he,h0,h1,h2,h3,h4,h4',h5,h6,h7,hp,hp2,AC.aTR]
theorem aZ7{t2:Nat}(hs:opS (j7 T n K cf m e L)=some (o,Lv,cf1,cf2,K',m',e',L'))(ho:(o.op,o.dst)=(.binOp .shl t x y t2,some d))(hx:(iX e' x).bind sY=some (k1,i))(hy:(iX e' y).bind sY=some (k2,j))(hF:need (0≤j) A=some q)
    (kk:A=some q→G (.mk P T hT n c B0 N X Q) K' m' ((d,.i k1 (aED k1 i j)) :: e') L' cf2):G (.mk P T hT n c B0 N X Q) K m e L cf:=
  pu hs (congrArg Prod.snd ho) (fun B a w hA _=>⟨_,rfl,aN7 (congrArg Prod.fst ho) (wY hA hx) (wY hA hy) (by have:=(kH hF).1;omega)⟩) (kk (kH hF).2)
theorem eqn{t2:Nat}{ln:Nat}(hs:opS (j7 T n K cf m e L)=some (o,Lv,cf1,cf2,K',m',e',L'))(ho:(o.op,o.dst)=(.binOp .eql t x (.const (.slice none 0 0)) t2,some d))(ht:A1 T t=some ⟨.sl el,b1,n1,z1⟩)(hx:iX e' x=some (.h s ln))
    (kt:s.a=none→G (.mk P T hT n c B0 N X Q) K' m' ((d,.l true) :: e') L' cf2) (kf:G (.mk P T hT n c B0 N X Q) K' m' ((d,.l false) :: e') L' cf2):G (.mk P T hT n c B0 N X Q) K m e L cf:=by
  cases hs':s.a with
  | none=>exact pu hs (congrArg Prod.snd ho) (fun B a w hA _=>⟨_,rfl,aJD (GS ht hT) ⟨ln,s.c,by simp [AC.v,hs']⟩ (congrArg Prod.fst ho) (hdB hA hx) rfl⟩) (kt hs')
  | some ad=>exact pu hs (congrArg Prod.snd ho) (fun B a w hA _=>⟨_,rfl,aJE (GS ht hT) ⟨ad,ln,s.c,by simp [AC.v,hs']⟩ (congrArg Prod.fst ho) (hdB hA hx) rfl⟩) kf
theorem cln{w:Ctx}{r:List α}(h:bX w s l)(hn:s.a=none)(hF:need (([]:List α).length+l.length≤1073741824) (some (([]:List α)++l))=some r):some ([]:List α)=some r:=by
  obtain⟨ad,cp,h1,h2,h3,h4⟩:=(show tC w.S0 w.w0 [s.v l.length] l from h)
  have:l=[]:=by
    rcases h4 with h4 | ⟨b,off,h4,_⟩
    · exact h4
    · simp only [AC.v,List.cons.injEq,Value.slice.injEq] at h1
      rw [hn,h4] at h1
      exact absurd h1.1.1 (by simp)
  subst this
  simpa [need] using hF
end
noncomputable section
variable {x y:Operand} {t el sz:Nat} {zv:Value} {b1:Bool} {n1:Nat} {z1:List SV}
theorem ltN{α:Type}[aJ α](E:CO α)(is:List Nat)(q:α)(ye:E.ex)(hinf:TR P el sz zv)(hs:j7 T n K cf m e L=.op o Lv cf1 cf2 K' m' e' L')(ho:(o.op,o.dst)=(.buildSlice t 1 #[(0,x)],some d))(ht:A1 T t=some ⟨.sl el,b1,n1,z1⟩)(hn:aJ.n α=sz)(hm:Nat.ble 1 sz=true)(hm2:Nat.ble sz 16777216=true)(hx:(iX e' x).map (fun v=>nbL (o9 v))=some (E.cs q ye))(hxc:(iX e' x).map isCells=some true)(hle:(E.cs q ye).length=sz)(hec:(aY (bQ []) (E.cs q ye)).isSome=true)(hi:aY (fun i=>L'[i]?) is=some (E.Lx q ye))(ha:dP is=true)(hz:(is.all fun j=>gO j cf1.AO)=true)
    (k:∀s':AC,G (.mk P T hT n c B0 N X Q) K' m' ((d,.h s' [q].length) :: e') (PC L' is ++ [ow s' [q]]) cf2):G (.mk P T hT n c B0 N X Q) K m e L cf:=by
  obtain⟨ec,hec⟩:=Option.isSome_iff_exists.1 hec
  refine aMW (l:=[q]) (fun s'=>PC L' is ++ [ow s' [q]]) hs (congrArg Prod.snd ho) (fun _=>ZP _ hz) (fun B a w hA hS=>?_) k
  obtain⟨⟨R,s1,s2⟩,s0⟩:=hS
  have hecl:ec.length=sz:=by rw [lJ hec,hle]
  cases hxv:iX e' x with
  | none=>rw [hxv] at hx;cases hx
  | some xv =>
    rw [hxv] at hx hxc
    simp at hx hxc
    obtain⟨v,v1,v2⟩:=eR hA hxv
    have hcell:aY (bQ B) (o9 xv)=some ec:=by
      rw [←MT,hx];exact fL (fun x v h=>by simpa using gR (B:=[]) B h) hec
    have hvc:v.cells.toList=ec:=LP v1 hcell
    have p1:=s1.shift is ha (A':=[fW ec q]) fun F hF=>by
      rw [ZQ hi,E.nb] at hF
      exact Sep.one.2 ((E.pk hec w F).2 hF)
    have hlen:(blank (L'.map (j5 B)) is).length=L'.length:=by rw [←MU];simp [ZR]
    obtain⟨v',w',k1,k2⟩:=aSS (e:=vE B e') (o:=o) (ps:=[(0,x)]) (vs:=[v]) (cells:=ec) [q] p1 [L'.length] rfl ⟨[],by
        simp only [pick,List.getElem?_append_right (Nat.le_of_eq hlen),hlen,Nat.sub_self]
        rw [show ec.take sz=ec by rw [←hecl];exact List.take_length]
        rfl,by rw [List.length_take,hecl];omega,⟨by rw [←hecl];exact List.drop_length,rfl⟩⟩ hn (GS ht hT) hinf rfl hm (by simpa using hm2) (congrArg Prod.fst ho) (by simp [Z2,v2]) (aG8 (vs:=[v]) (ps:=[(0,x)]) rfl rfl (by simp;rw [←Array.length_toList,hvc,hecl]) (by simp [hvc]))
    have hb2:blank (blank (L'.map (j5 B)) is ++ [fW ec q]) [L'.length]=blank (L'.map (j5 B)) is ++ [HY]:=by
      simp only [blank]
      rw [List.set_append_right _ _ (by omega),hlen];simp
    rw [hb2] at k2
    obtain⟨s',rfl⟩:=VU (v:=v') (l:=[q]) k2 (L'.length+1) (by rw [List.getElem?_append_right (by simp [hlen])];simp [hlen])
    refine⟨s',w',k1,⟨⟨R,?_,fun z hz=>?_⟩,s0⟩⟩
    · have k3:=k2.MP ((List.range L'.length) ++ [L'.length+1]) ?_
      · refine k3.imp ?_
        rw [List.map_append,MU,T4]
        refine jM.append ?_ ?_
        · have:pick (blank (L'.map (j5 B)) is ++ [HY] ++ [fW [s'.v [q].length] [q]]) (List.range L'.length)=blank (L'.map (j5 B)) is:=by
            have gen:∀(M M':List Chunk) (j:Nat),pick (M++M') ((List.range j))=(M++M').take j∨¬j≤(M++M').length:=by
              intro M M' j
              by_cases hj:j≤(M++M').length
              · left
                induction j with
                | zero=>rfl
                | succ j ih =>
                  rw [List.range_succ,T4,ih (by omega)]
                  simp only [pick]
                  rw [List.take_add_one,List.getElem?_eq_getElem (by omega)]
                  rfl
              · exact .inr hj
            rcases gen (blank (L'.map (j5 B)) is ++ [HY]) [fW [s'.v [q].length] [q]] L'.length with h | h
            · rw [h,List.append_assoc,List.take_append_of_le_length (by omega),←hlen,List.take_length]
            · exact absurd (by simp [hlen]) h
          rw [this];exact jM.refl _
        · simp only [pick]
          rw [List.getElem?_append_right (by simp [hlen])]
          simp [hlen,j5]
          try exact jM.refl _
      · have gen:∀(j:Nat),dP (List.range' j (L'.length - j) ++ [L'.length+1])=true:=by
          intro j
          generalize hk:L'.length - j=k
          induction k generalizing j with
          | zero=>rfl
          | succ k ih =>
            rw [List.range'_succ,List.cons_append]
            simp only [dP,Bool.and_eq_true,List.all_eq_true,Bool.not_eq_true']
            refine⟨fun i hi=>?_,ih (j+1) (by omega)⟩
            cases hb:Nat.beq j i with
            | false=>rfl
            | true =>
              have:=Nat.eq_of_beq_eq_true hb
              subst this
              rcases List.mem_append.1 hi with hi | hi
              · rw [List.mem_range'] at hi
                obtain⟨p,_,hp⟩:=hi
                omega
              · simp at hi;omega
        have:=gen 0
        rwa [Nat.sub_zero,←List.range_eq_range'] at this
    · rcases List.mem_append.1 hz with hz | hz
      · rcases T3 _ _ hz with hz | hz
        · exact s2 z hz
        · subst hz;trivial
      · simp at hz;subst hz;trivial
theorem apN{α β:Type}[aJ α]{A:Option β}{q:β}{s s2:AC}{l xs:List α}(i j:Nat)(hinf:TR P el sz zv)(hs:j7 T n K cf m e L=.op o Lv cf1 cf2 K' m' e' L')(ho:(o.op,o.dst)=(.call {callee:=.builtin .append,args:=#[x,y],argTypes:=#[t,t]},some d))(ht:A1 T t=some ⟨.sl el,b1,n1,z1⟩)(hn:aJ.n α=sz)(hzs:zv.cells.size=sz)(hi:L'[i]?=some (ow s l))(hj:L'[j]?=some (ow s2 xs))(ha:dP [i,j]=true)(hz:([i,j].all fun j=>gO j cf1.AO)=true)(hx:iX e' x=some (.h s l.length))(hy:iX e' y=some (.h s2 xs.length))(hF:need (l.length+xs.length≤1073741824) A=some q)
    (k:A=some q→∀s':AC,G (.mk P T hT n c B0 N X Q) K' m' ((d,.h s' (l++xs).length) :: e') (PC L' [i,j] ++ [ow s' (l++xs)]) cf2):G (.mk P T hT n c B0 N X Q) K m e L cf:=by
  refine aMW (l:=l++xs) (fun s'=>PC L' [i,j] ++ [ow s' (l++xs)]) hs (congrArg Prod.snd ho) (fun _=>ZP _ hz) (fun B a w hA hS=>?_) (k (kH hF).2)
  obtain⟨⟨R,s1,s2'⟩,s0⟩:=hS
  have hp:pick (L'.map (j5 B)) [i,j]=[fW [s.v l.length] l,fW [s2.v xs.length] xs]:=by simp [pick,hi,hj,j5]
  obtain⟨v,w',k1,k2⟩:=aST [i,j] s1 ha hp hn (GS ht hT) hinf hzs (kH hF).1 (congrArg Prod.fst ho) (hdB hA hx) (hdB hA hy)
  have hlen:(blank (L'.map (j5 B)) [i,j]).length=L'.length:=by rw [←MU];simp [ZR]
  obtain⟨s',rfl⟩:=VU k2 L'.length (by rw [List.getElem?_append_right (Nat.le_of_eq hlen),hlen,Nat.sub_self];rfl)
  refine⟨s',w',k1,⟨⟨R,?_,fun z hz=>?_⟩,s0⟩⟩
  · rw [List.map_append,MU];exact k2
  · rcases List.mem_append.1 hz with hz | hz
    · rcases T3 _ _ hz with hz | hz
      · exact s2' z hz
      · subst hz;trivial
    · simp at hz;subst hz;trivial
end
theorem kb{b cb:Bool}(ss:List Nat)(hb:b=cb)(hs:PA (j7 T n K cf m e L)=some (K',cf',m',e',L'))(ho:aY (DF e') ss=some (ss.map fun _=>SV.b b))(k:G (.mk P T hT n c B0 N X Q) K' m' (ovr cb e' ss) L' cf'):G (.mk P T hT n c B0 N X Q) K m e L cf:=
  go hs (aAI (fun a B hA=>RH hb ss ho hA) k)
def rhE(v:SV)(e:SE):List (Nat×Nat)→SE
  | []=>e
  | (k, j) :: r => match DF e k with
    | some (.g cs)=>(k,.g (ovw cs j [v])) :: rhE v e r
    | some (.t cs)=>(k,.t (ovw cs j [v])) :: rhE v e r
    | _=>rhE v e r
def rhL(v:SV)(L:List Ch):List (Nat×Nat)→List Ch
  | []=>L
  | (k, j) :: r => match L[k]? with
    | some (.box n cs)=>rhL v (L.set k (.box n (ovw cs j [v]))) r
    | _=>rhL v L r
theorem ZS{B:Bl}{f:Bl→SV→Option Value}{u v:SV}(huv:∀B,f B u=f B v):∀{cs:List SV} {j:Nat},cs[j]?=some u→aY (f B) (ovw cs j [v])=aY (f B) cs
  | [],j,h=>by simp at h
  | x :: cs, 0, h => by
    simp at h;subst h
    show aY (f B) (v :: ovw cs 0 [])=_
    rw [aFJ]
    simp only [aY,huv]
  | x :: cs, j + 1, h => by
    show aY (f B) (x :: ovw cs j [v])=_
    simp only [aY,ZS (B:=B) huv (show cs[j]?=some u by simpa using h)]
theorem aQI{s:AC}{n0 n1:Nat}(hn:n0=n1){B:Bl}:∀{ps:List (Nat×Nat)} {k:Nat} {x:SV},(∀p∈ps,∃cs,(DF e p.1=some (.g cs)∨DF e p.1=some (.t cs))∧cs[p.2]?=some (.h s n0))→DF (rhE (.h s n1) e ps) k=some x→∃y,DF e k=some y∧gC B x=gC B y
  | [],k,x,_,h=>⟨x,h,rfl⟩
  | (k', j) :: r, k, x, hp, h => by
    have ih:=fun h=>aQI hn (B:=B) (ps:=r) (k:=k) (x:=x) (fun p hp'=>hp p (List.mem_cons_of_mem _ hp')) h
    obtain⟨cs,h1,h2⟩:=hp (k',j) (by simp)
    have hc:∀B,bQ B (.h s n0)=bQ B (.h s n1):=fun B=>by rw [hn]
    have hg:∀B,gV B (.h s n0)=gV B (.h s n1):=fun B=>by rw [hn]
    rcases h1 with h1 | h1
    · simp only [rhE,h1,DF] at h
      split at h
      · rename_i hb
        cases h
        have:=Nat.eq_of_beq_eq_true hb
        subst this
        exact⟨_,h1,by simp only [gC,gV,ZS (f:=bQ) hc h2]⟩
      · exact ih h
    · simp only [rhE,h1,DF] at h
      split at h
      · rename_i hb
        cases h
        have:=Nat.eq_of_beq_eq_true hb
        subst this
        exact⟨_,h1,by simp only [gC,ZS (f:=gV) hg h2]⟩
      · exact ih h
theorem aLX{s:AC}{n0 n1:Nat}(hn:n0=n1){B:Bl}{w:World}{R:List Fact}:∀{ps:List (Nat×Nat)} {L:List Ch},(∀p∈ps,∃k cs,L[p.1]?=some (.box k cs)∧cs[p.2]?=some (.h s n0))→dP (ps.map (·.1))=true→jM w (L.map (j5 B)) ((rhL (.h s n1) L ps).map (j5 B))∧((∀x∈L,roF B R x)→∀x∈rhL (.h s n1) L ps,roF B R x)
  | [],L,_,_=>⟨jM.refl _,fun h=>h⟩
  | (i, j) :: r, L, hp, ha => by
    obtain⟨k,cs,h1,h2⟩:=hp (i,j) (by simp)
    have hc:∀B,bQ B (.h s n0)=bQ B (.h s n1):=fun B=>by rw [hn]
    simp only [List.map_cons,dP,Bool.and_eq_true] at ha
    have ih:=aLX hn (B:=B) (w:=w) (R:=R) (ps:=r) (L:=L.set i (.box k (ovw cs j [.h s n1]))) (fun p hp'=>by
      obtain⟨k',cs',h3,h4⟩:=hp p (List.mem_cons_of_mem _ hp')
      have hne:i≠p.1:=fun he=>by
        have:=List.all_eq_true.1 ha.1 p.1 (List.mem_map_of_mem hp')
        rw [he] at this;simp at this
      exact⟨k',cs',by rw [List.getElem?_set_ne hne];exact h3,h4⟩) ha.2
    simp only [rhL,h1]
    refine⟨?_,fun h=>ih.2 fun x hx=>?_⟩
    · have h5:jM w (L.map (j5 B)) ((L.set i (.box k (ovw cs j [.h s n1]))).map (j5 B)):=by
        rw [List.map_set]
        exact jM.put (a:=OY B k cs) (b:=OY B k (ovw cs j [.h s n1])) i (by rw [List.getElem?_map,h1];rfl) fun F ⟨b,z,vs,q1,q2,q3⟩=>⟨b,z,vs,q1,by rw [ZS (f:=bQ) hc h2];exact q2,q3⟩
      have tr:∀{A B C:List Chunk},jM w A B→jM w B C→jM w A C:=by
        intro A B C h1
        induction h1 generalizing C with
        | nil=>exact fun h=>h
        | cons h t ih=>intro h2;cases h2 with | cons h' t'=>exact .cons (fun F hF=>h' F (h F hF)) (ih t')
      exact tr h5 ih.1
    · rcases List.mem_or_eq_of_mem_set hx with hx | hx
      · exact h x hx
      · subst hx;trivial
def atE(e:SE)(p:Nat×Nat):Option SV:=match DF e p.1 with
  | some (.g cs)=>cs[p.2]?
  | some (.t cs)=>cs[p.2]?
  | _=>none
def atL(L:List Ch)(p:Nat×Nat):Option SV:=match L[p.1]? with
  | some (.box _ cs)=>cs[p.2]?
  | _=>none
theorem aLY{B:Bl}{a:Act}{w:World}(s:AC){n0 n1:Nat}(hn:n0=n1){ps qs:List (Nat×Nat)}(hp:aY (atE e) ps=some (ps.map fun _=>.h s n0))(hq:aY (atL L) qs=some (qs.map fun _=>.h s n0))(ha:dP (qs.map (·.1))=true)(hA:gI n B e a)(hS:mP c w B L):gI n B (rhE (.h s n1) e ps) a∧mP c w B (rhL (.h s n1) L qs):=by
  have key:∀{γ:Type} {f:γ→Option SV} {ps:List γ},aY f ps=some (ps.map fun _=>.h s n0)→∀p∈ps,f p=some (.h s n0):=by
    intro γ f ps
    induction ps with
    | nil=>intro _ p hp;cases hp
    | cons q ps ih =>
      intro h p hp
      simp only [aY,List.map_cons] at h
      split at h
      · cases h
      · rename_i h1
        split at h
        · cases h
        · rename_i h2
          cases h
          rcases List.mem_cons.1 hp with hp | hp
          · subst hp;exact h1
          · exact ih h2 p hp
  refine⟨⟨hA.d,hA.size,fun k x hk=>?_⟩,?_⟩
  · obtain⟨y,h1,h2⟩:=aQI hn (B:=B) (fun p hp'=>by
      have:=key hp p hp'
      unfold atE at this
      split at this
      · rename_i cs hc;exact⟨cs,.inl hc,this⟩
      · rename_i cs hc;exact⟨cs,.inr hc,this⟩
      · cases this) hk
    obtain⟨v,h3,h4⟩:=hA.get k y h1
    exact⟨v,by rw [h2];exact h3,h4⟩
  · obtain⟨⟨R,s1,s2⟩,s0⟩:=hS
    obtain⟨h1,h2⟩:=aLX hn (B:=B) (w:=w) (R:=R) (L:=L) (fun p hp'=>by
      have:=key hq p hp'
      unfold atL at this
      split at this
      · rename_i k cs hc;exact⟨k,cs,hc,this⟩
      · cases this) ha
    exact⟨⟨R,s1.imp h1,h2 s2⟩,s0⟩
theorem T6{g:Gx}{cf:wP}{v:SV}:∀{qs:List (Nat×Nat)} {L M:List Ch},Frz g cf L M→((qs.map (·.1)).all fun j=>gO j cf.AO)=true→Frz g cf L (rhL v M qs)
  | [],L,M,h,_=>h
  | (i, j) :: r, L, M, h, hz => by
    simp only [List.map_cons,List.all_cons,Bool.and_eq_true] at hz
    simp only [rhL]
    split
    · exact T6 (qs:=r) (aHT h hz.1) hz.2
    · exact T6 (qs:=r) h hz.2
theorem rh(s:AC){n0 n1:Nat}(hn:n0=n1)(ps qs:List (Nat×Nat))(hp:aY (atE e) ps=some (ps.map fun _=>.h s n0))(hq:aY (atL L) qs=some (qs.map fun _=>.h s n0))(ha:(dP (qs.map (·.1)) && (qs.map (·.1)).all fun j=>gO j cf.AO)=true)
    (k:G (.mk P T hT n c B0 N X Q) K m (rhE (.h s n1) e ps) (rhL (.h s n1) L qs) cf):G (.mk P T hT n c B0 N X Q) K m e L cf:=by
  rw [Bool.and_eq_true] at ha
  refine chg (fun _:Unit=>m) (fun _=>rhE (.h s n1) e ps) (fun _=>rhL (.h s n1) L qs) (fun B a w hm hA hS=>?_) (fun _=>T6 (by simpa using yW (L:=L) []) ha.2) (fun _=>k)
  obtain⟨h1,h2⟩:=aLY s hn hp hq ha.1 hA hS
  exact⟨(),[],by simpa using hm,by simpa using h1,by simpa using h2⟩
theorem AP{Z:Act→World→Prop}(s:AC){n0 n1:Nat}(hn:n0=n1)(ps qs:List (Nat×Nat))(hp:aY (atE e) ps=some (ps.map fun _=>.h s n0))(hq:aY (atL L) qs=some (qs.map fun _=>.h s n0))(ha:dP (qs.map (·.1))=true)
    (kk:∀a w,p8 n c B0 m (rhE (.h s n1) e ps) (rhL (.h s n1) L qs) a w→Z a w):∀a w,p8 n c B0 m e L a w→Z a w:=by
  intro a w ⟨B,hm,hA,hS⟩
  obtain⟨h1,h2⟩:=aLY s hn hp hq ha hA hS
  exact kk a w ⟨B,hm,h1,h2⟩
end
end Go.Gv
end
noncomputable section
namespace Go.Gv
noncomputable section
variable {P:Program} {T:TT} {hT:GM P T} {n:Nat} {c:Ctx} {B0:Bl} {N:Act→World→Prop} {X:Nat→Act→World→Prop} {Q:Act→World→Prop} {K K':List Fr} {m m':Nat} {e e':SE} {L L' Lv:List Ch} {cf cf' cf1 cf2:wP} {o:Oper} {d:Nat}
noncomputable section
variable {x:Operand} {t t2 el sz:Nat} {b1 b2 b3:Bool} {n1 n2 n3:Nat} {z1 z2 z3:List SV}
theorem qbo(p:Nat){s:AC}{l:List UInt8}(hs:opS (j7 T n K cf m e L)=some (o,Lv,cf1,cf2,K',m',e',L'))(ho:(o.op,o.dst)=(.convert t t2 x,some d))(ht:A1 T t=some ⟨.sl el,b1,n1,z1⟩)(he:A1 T el=some ⟨.i .u8,b2,n2,z2⟩)(h2:A1 T t2=some ⟨.s,b3,n3,z3⟩)(hp:Lv[p]?=some (ow s l))(hx:iX e' x=some (.h s l.length))
    (kk:G (.mk P T hT n c B0 N X Q) K' m' ((d,.s l) :: e') L' cf2):G (.mk P T hT n c B0 N X Q) K m e L cf:=by
  refine pu hs (congrArg Prod.snd ho) (fun B a w hA hS=>⟨_,rfl,?_⟩) kk
  obtain⟨⟨R,s1,s2⟩,s0⟩:=hS
  have hr:=s1.aKT (cs:=[s.v l.length]) (d:=l) p (by simp [hp,j5])
  obtain⟨de,q1,q2⟩:=hT.und _ _ he
  exact aV3 hr (GS ht hT) (by rw [q1];simp only at q2;rw [q2]) (aYF h2 hT) (congrArg Prod.fst ho) (hdB hA hx)
theorem aTS{α:Type}[aJ α](E:CO α){q:α}{y:E.ex}{ec:List Value}(h:aY (bQ []) (E.cs q y)=some ec)(hL:E.Lx q y=[])(w:World):aJ.rd F0 w ec q:=by
  have:=(E.pk h w F0).2 (by rw [hL];exact fun _ _ h=>h)
  exact aJ.own_rd this
theorem lits{α:Type}[aJ α](E:CO α)(y:E.ex){sz:Nat}{B:Bl}{a:Act}(hA:gI n B e a)(hL:∀q,E.Lx q y=[]):∀{ps:List (Nat×Operand)} {qs:List α},aY (fun p=>(iX e p.2).map fun v=>nbL (o9 v)) ps=some (qs.map fun q=>E.cs q y)→(qs.all fun q=>Nat.beq (E.cs q y).length sz && (aY (bQ []) (E.cs q y)).isSome)=true →
    ∃vs cells,Z2 (vE B e) (ps.map (·.2))=some vs∧vs.length=ps.length∧(vs.all fun v=>v.cells.size == sz)=true∧(vs.flatMap fun v=>v.cells.toList)=cells∧aEG sz cells qs
  | [],[],_,_=>⟨[],[],rfl,rfl,rfl,rfl,rfl⟩
  | [],q :: qs,h,_=>by cases h
  | p :: ps, [], h, _ => by
    simp only [aY] at h
    split at h
    · cases h
    · split at h <;> cases h
  | p :: ps, q :: qs, h, hc => by
    simp only [aY,List.map_cons] at h
    split at h
    · cases h
    · rename_i c0 h1
      split at h
      · cases h
      · rename_i cs h2
        simp only [Option.some.injEq,List.cons.injEq] at h
        obtain⟨rfl,rfl⟩:=h
        simp only [List.all_cons,Bool.and_eq_true] at hc
        obtain⟨⟨hl,hsome⟩,hc⟩:=hc
        obtain⟨vs,cells,g1,g2,g3,g4,g5⟩:=lits E y hA hL h2 (by simpa using hc)
        obtain⟨ec,hec⟩:=Option.isSome_iff_exists.1 hsome
        cases hxv:iX e p.2 with
        | none=>rw [hxv] at h1;cases h1
        | some xv =>
          rw [hxv] at h1
          simp at h1
          obtain⟨v,v1,v2⟩:=eR hA hxv
          have hcell:aY (bQ B) (o9 xv)=some ec:=by
            rw [←MT,h1];exact fL (fun x v h=>by simpa using gR (B:=[]) B h) hec
          have hvc:v.cells.toList=ec:=LP v1 hcell
          have hecl:ec.length=sz:=by rw [lJ hec];exact Nat.eq_of_beq_eq_true hl
          refine⟨v :: vs,ec++cells,by simp [Z2,v2,g1],by simp [g2],?_,by simp [hvc,g4],?_,?_⟩
          · rw [List.all_cons,g3,←Array.length_toList,hvc,hecl];simp
          · rw [List.take_append_of_le_length (Nat.le_of_eq hecl.symm),←hecl,List.take_length]
            exact aTS E hec (hL q) _
          · rw [List.drop_append_of_le_length (Nat.le_of_eq hecl.symm),←hecl,List.drop_length,List.nil_append,hecl]
            exact g5
theorem ltK{α:Type}[aJ α][Flat α](E:CO α)(y:E.ex)(qs:List α){len:Nat}{ps:List (Nat×Operand)}{zv:Value}(hinf:TR P el sz zv)(hs:j7 T n K cf m e L=.op o Lv cf1 cf2 K' m' e' L')(ho:(o.op,o.dst)=(.buildSlice t len ⟨ps⟩,some d))(ht:A1 T t=some ⟨.sl el,b1,n1,z1⟩)(hn:aJ.n α=sz)(hl:qs.length=len)(hm:Nat.ble 1 sz=true)(hsm:Nat.ble (len * sz) 16777216=true)(hix:ps.map (·.1)=List.range' 0 len)(hev:aY (fun p=>(iX e' p.2).map fun v=>nbL (o9 v)) ps=some (qs.map fun q=>E.cs q y))(hec:(qs.all fun q=>Nat.beq (E.cs q y).length sz && (aY (bQ []) (E.cs q y)).isSome)=true)(hL:∀q,E.Lx q y=[])
    (k:∀s':AC,G (.mk P T hT n c B0 N X Q) K' m' ((d,.h s' qs.length) :: e') (L' ++ [ow s' qs]) cf2):G (.mk P T hT n c B0 N X Q) K m e L cf:=by
  refine aMW (l:=qs) (fun s'=>L' ++ [ow s' qs]) hs (congrArg Prod.snd ho) (fun _=>yW _) (fun B a w hA hS=>?_) k
  obtain⟨⟨R,s1,s2⟩,s0⟩:=hS
  obtain⟨vs,cells,g1,g2,g3,g4,g5⟩:=lits E y (sz:=sz) hA hL hev hec
  have hpl:ps.length=len:=by
    have:=congrArg List.length hix
    simpa using this
  obtain⟨v,w',k1,k2⟩:=aJA (e:=vE B e') (o:=o) (ps:=ps) (vs:=vs) (cells:=cells) qs s1 hn (GS ht hT) hinf hl hm hsm g5 (congrArg Prod.fst ho) g1 (aG8 hix (by rw [g2,hpl]) g3 g4)
  obtain⟨s',rfl⟩:=VU (v:=v) (l:=qs) k2 (L'.map (j5 B)).length (by simp)
  refine⟨s',w',k1,⟨⟨R,by simpa [j5] using k2,fun z hz=>?_⟩,s0⟩⟩
  rcases List.mem_append.1 hz with hz | hz
  · exact s2 z hz
  · simp at hz;subst hz;trivial
end
end
end Go.Gv
end
