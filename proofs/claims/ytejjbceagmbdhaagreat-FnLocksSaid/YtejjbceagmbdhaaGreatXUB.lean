import Derived.Test.YtejjbceagmbdhaaGreatXUA
set_option linter.unusedVariables false
set_option linter.unusedSimpArgs false
set_option linter.unusedSectionVars false
set_option linter.constructorNameAsVariable false
set_option linter.unnecessarySimpa false
noncomputable section
namespace Go.Gv
def N7(B:Bl)(n:Nat)(cs:List SV):Chunk where
 P:=fun w F=>∃b z vs,B[n]?=some (b,z)/\aR (bI B) cs=some vs/\(QV b z vs).P w F
 keep:=fun⟨b,z,vs,h1,h2,h3⟩ hk hd=>⟨b,z,vs,h1,h2,(QV b z vs).keep h3 hk hd⟩
 lt:=fun⟨b,z,vs,_,_,h3⟩ hf=>(QV b z vs).lt h3 hf
def jN(B:Bl):Ch->Chunk
 | .box n cs=>N7 B n cs
 | .o c=>c
 | _=>FT
def roF(B:Bl)(R:List Fact):Ch->Prop
 | .ro n cs=>∃b z vs,B[n]?=some (b,z)/\aR (bI B) cs=some vs/\fAt b z vs∈R
 | .f f=>f∈R
 | .w n b z=>B[n]?=some (b,z)
 | _=>True
structure kV (c:Ctx) (w:World) (B:Bl) (L:List Ch):Prop where
 ex:∃R,St c w (L.map (jN B)) R/\∀x∈L,roF B R x
 s0:∀b o,c.S0 b o->b < c.w0.heap.size
inductive iV (w:World):List Chunk->List Chunk->Prop where
 | nil:iV w [] []
 | cons {a b:Chunk} {A B:List Chunk} (h:∀F,a.P w F->b.P w F) (t:iV w A B):iV w (a :: A) (b :: B)
theorem Sep.imp{w:World}:∀{A B:List Chunk} {F:cB},iV w A B->Sep w A F->Sep w B F
 | _,_,_,.nil,h=>h
 | _,_,_,.cons h t,⟨F1,F2,h1,h2,hd,hF⟩=>⟨F1,F2,h F1 h1,Sep.imp t h2,hd,hF⟩
theorem St.imp{c:Ctx}{w:World}{A B:List Chunk}{R:List Fact}(h:St c w A R)(hi:iV w A B):St c w B R:=by
 obtain⟨F,S,hsep,rest⟩:=h.sep
 exact⟨h.keep,⟨F,S,Sep.imp hi hsep,rest⟩,h.apart⟩
theorem iV.refl{w:World}:∀(A:List Chunk),iV w A A
 | []=>.nil
 | _ :: A=>.cons (fun _ h=>h) (iV.refl A)
theorem iV.append{w:World}:∀{A B A' B':List Chunk},iV w A B->iV w A' B'->iV w (A++A') (B++B')
 | _,_,_,_,.nil,h=>h
 | _,_,_,_,.cons h t,h2=>.cons h (iV.append t h2)
theorem iV.set{w:World}{a b:Chunk}:∀{A B:List Chunk} (i:Nat),iV w A B->(∀F,a.P w F->b.P w F)->iV w (A.set i a) (B.set i b)
 | _,_,_,.nil,_=>.nil
 | _,_,0,.cons _ t,h=>.cons h t
 | _,_,i+1,.cons g t,h=>.cons g (iV.set i t h)
theorem iV.put{w:World}{a b:Chunk}:∀{A:List Chunk} (i:Nat),A[i]?=some a->(∀F,a.P w F->b.P w F)->iV w A (A.set i b)
 | [],_,h,_=>by simp at h
 | x :: A,0,h,g=>by simp at h;subst h;exact .cons g (iV.refl A)
 | x :: A,i+1,h,g=>.cons (fun _ h=>h) (iV.put i (by simpa using h) g)
theorem aUH{B:Bl}(B':Bl){n:Nat}{cs:List SV}{w:World}{F:cB}(h:(N7 B n cs).P w F):(N7 (B++B') n cs).P w F:=by
 obtain⟨b,z,vs,h1,h2,h3⟩:=h
 exact⟨b,z,vs,Bl.app B' h1,dW (fun _ _=>eX B') h2,h3⟩
theorem aYH{B:Bl}(B':Bl){x:Ch}{w:World}{F:cB}(h:(jN B x).P w F):(jN (B++B') x).P w F:=by
 cases x <;> first | exact aUH B' h | exact h
theorem SS{B:Bl}(B':Bl){w:World}:∀(L:List Ch),iV w (L.map (jN B)) (L.map (jN (B++B')))
 | []=>.nil
 | _ :: L=>.cons (fun _ h=>aYH B' h) (SS B' L)
theorem aIS{B:Bl}(B':Bl){R:List Fact}{x:Ch}(h:roF B R x):roF (B++B') R x:=by
 cases x <;> try exact h
 ·obtain⟨b,z,vs,h1,h2,h3⟩:=h
  exact⟨b,z,vs,Bl.app B' h1,dW (fun _ _=>eX B') h2,h3⟩
 ·exact Bl.app B' h
theorem VZ{B:Bl}{R R':List Fact}(hR:∀f∈R,f∈R'){x:Ch}(h:roF B R x):roF B R' x:=by
 cases x <;> try exact h
 ·obtain⟨b,z,vs,h1,h2,h3⟩:=h
  exact⟨b,z,vs,h1,h2,hR _ h3⟩
 ·exact hR _ h
noncomputable section
variable {P:Program} {T:TT} {n:Nat} {B:Bl} {e:SE} {E:Env} {o:Oper} {w w':World} {x y:Operand} {c:Ctx} {L:List Ch}
theorem kV.app(h:kV c w B L)(B':Bl):kV c w (B++B') L:=by
 obtain⟨⟨R,h1,h2⟩,h3⟩:=h
 exact⟨⟨R,h1.imp (SS B' L),fun x hx=>aIS B' (h2 x hx)⟩,h3⟩
theorem aHM{n:Nat}{cs:List SV}:∀{L:List Ch},GW n L=some cs->Ch.box n cs∈L\/Ch.ro n cs∈L
 | [],h=>by cases h
 | x :: L, h => by
  have ih:GW n L=some cs->Ch.box n cs∈x :: L\/Ch.ro n cs∈x :: L:=fun h=>by
   rcases aHM h with h | h
   ·exact .inl (nF _ h)
   ·exact .inr (nF _ h)
  cases x <;> simp only [GW] at h <;> try exact ih h
  ·split at h
   ·rename_i hb;cases h;rw [jJ hb];exact .inl (List.mem_cons_self ..)
   ·exact ih h
  ·split at h
   ·rename_i hb;cases h;rw [jJ hb];exact .inr (List.mem_cons_self ..)
   ·exact ih h
theorem kV.cells(h:kV c w B L){n:Nat}{cs:List SV}(hb:GW n L=some cs):∃b z vs,B[n]?=some (b,z)/\aR (bI B) cs=some vs/\aV w b z vs:=by
 obtain⟨⟨R,h1,h2⟩,_⟩:=h
 rcases aHM hb with hm | hm
 ·obtain⟨i,hi⟩:=aCD hm
  obtain⟨F,b,z,vs,h3,h4,h5⟩:=h1.chunk (ch:=N7 B n cs) i (by rw [DJ,hi];rfl)
  exact⟨b,z,vs,h3,h4,h5.1⟩
 ·obtain⟨b,z,vs,h3,h4,h5⟩:=h2 _ hm
  obtain⟨i,hi⟩:=aCD h5
  exact⟨b,z,vs,h3,h4,h1.fat i hi⟩
theorem V1{b z o m:Nat}{vs:List Value}(h:aV w b z vs)(_hm:o+m<=vs.length):aV w b (z+o) ((vs.drop o).take m):=by
 intro q u hq
 rw [DK] at hq
 split at hq
 ·rw [QY] at hq
  have:=h (o+q) u hq
  rw [show z+o+q=z+(o+q) from by omega];exact this
 ·cases hq
theorem aPX:∀(cs:List SV) (o:Nat) (v:SV) (vs:List SV),o < cs.length->ovw cs o (v :: vs)=ovw (cs.set o v) (o+1) vs
 | [],o,v,vs,h=>by simp at h
 | c :: cs,0,v,vs,_=>by simp [ovw]
 | c :: cs, o + 1, v, vs, h => by
  simp only [ovw,List.set_cons_succ]
  rw [aPX cs o v vs (by simpa using h)]
theorem aIT:∀(cs:List SV) (o:Nat),ovw cs o []=cs
 | [],o=>by simp [ovw]
 | c :: cs,0=>by simp [ovw]
 | c :: cs,o+1=>by simp [ovw,aIT cs o]
theorem aIU:∀(vs cs:List SV) (o:Nat),o+vs.length<=cs.length->ovw cs o vs=aYC cs o vs
 | [],cs,o,_=>by rw [aIT];rfl
 | v :: vs, cs, o, h => by
  simp at h
  rw [aPX cs o v vs (by omega),aIU vs _ _ (by simp;omega)];rfl
theorem LL{α:Type}:∀{l r:List α},frc l=some r->r=l
 | [],r,h=>by cases h;rfl
 | x :: l, r, h => by
  simp only [frc] at h
  split at h
  ·rename_i s hs;cases h;rw [LL hs]
  ·cases h
theorem aUI(hT:D7 P T){t:TypeId}{a r:SV}{va:Value}(hS:kV c w B L)(ho:o.op=.load t x)(hx:ev E x=some va)(ha:eC B a=some va)(h:aKV T t a L=some r):∃v,eC B r=some v/\dM P o E w v w:=by
 unfold aKV at h
 split at h
 ·rename_i n0 o0
  split at h
  ·rename_i cs _ m _ hb hl
   split at h
   ·rename_i hle
    split at h
    case h_2=>cases h
    rename_i ds hds
    cases h
    have:=LL hds
    subst this
    obtain⟨b,z,vs,h1,h2,h3⟩:=hS.cells hb
    have hlen:=j3 h2
    have hle:=tQ hle
    simp only [eC,gV,bI,h1] at ha
    cases ha
    have h4:=M5 m (M4 o0 h2)
    refine⟨_,by simp only [eC,gV,h4],Q2 (cs:=(vs.drop o0).take m) ho hx (hT.agg _ _ hl) (hT.size _ _ hl) (by simp;omega) (V1 h3 (by omega))⟩
   ·cases h
  ·rename_i cs _ _ _ hb hl
   obtain⟨b,z,vs,h1,h2,h3⟩:=hS.cells hb
   simp only [eC,gV,bI,h1] at ha
   cases ha
   obtain⟨v,h4,h5⟩:=M3 h2 h
   exact⟨v,aPT h4,iT ho hx (hT.agg _ _ hl) (h3 o0 v h5)⟩
  ·cases h
 ·cases h
theorem M6{a:SV}{v:Value}{vs:List Value}(ha:eC B a=some v)(h:aR (bI B) (nV a)=some vs):v.cells.toList=vs:=by
 cases a
 case g cs=>
  simp only [nV] at h
  simp only [eC,gV,h] at ha
  cases ha;rfl
 all_goals
  simp only [nV,aR] at h
  split at h
  ·cases h
  ·rename_i u hu
   cases h
   have h2:=aPT hu
   rw [ha] at h2;cases h2
   have:=aCW hu
   cases v <;> first | rfl | cases this
end
theorem a3K{B:Bl}{a:SV}{v:Value}(h:bI B a=some v)(hc:nV a=[a]):∃vs,aR (bI B) (nV a)=some vs:=⟨[v],by rw [hc];simp only [aR,h]⟩
theorem UW{B:Bl}{a:SV}{v:Value}(h:isCells a=true)(ha:eC B a=some v):∃vs,aR (bI B) (nV a)=some vs:=by
 cases a
 case g cs=>
  simp only [eC,gV] at ha
  split at ha
  ·rename_i vs hv;exact⟨vs,hv⟩
  ·cases ha
 case t=>cases h
 case f=>cases h
 case u=>cases h
 all_goals exact a3K ha rfl
theorem a0A(off:Nat):∀(vs:List Value) (k:Nat) (cells:Array Value),((vs.zipIdx k).foldl (fun cs (q:Value×Nat)=>cs.setIfInBounds (off+q.2) q.1) cells).toList=TA cells.toList (off+k) vs
 | [],k,cells=>rfl
 | v :: vs, k, cells => by
  simp only [List.zipIdx_cons,List.foldl_cons,TA]
  rw [a0A off vs (k+1)]
  simp [E0]
theorem aHN{n:Nat}{B:Bl}{e:SE}{a:Act}(hA:fV n B e a){fs:List (Nat×Nat)}:∀(ps:List (Nat×Operand)) {cs r:List SV} {cells:Array Value},aR (bI B) cs=some cells.toList->aIO e fs ps cs=some r ->
  ∃vs rs,evs (vE B e) (ps.map (·.2))=some vs/\aR (bI B) r=some rs/\Instr.fill (fs.toArray[·]?) cells ((ps.map (·.1)).zip vs)=some rs.toArray
 | [], cs, r, cells, hc, h => by
  cases h
  exact⟨[],cells.toList,rfl,hc,by simp [Instr.fill]⟩
 | (ix, o) :: ps, cs, r, cells, hc, h => by
  simp only [aIO] at h
  split at h
  ·rename_i f m v h1 h2
   split at h
   ·rename_i h3 h4 h5
    split at h
    case h_2=>cases h
    rename_i ds hds
    have h4:=jJ h4
    have h5:=tQ h5
    have:=LL hds
    rw [aIU _ _ _ (by omega)] at this
    subst this
    obtain⟨u,h6,h7⟩:=dR hA h2
    obtain⟨ws,h8⟩:=UW h3 h6
    have h9:=M6 h6 h8
    have hl:=j3 h8
    have hl2:=j3 hc
    have hu:u.cells.size=m:=by rw [<-Array.length_toList,h9,hl,h4]
    have hcs:cells.size=cs.length:=by rw [<-hl2];simp
    have h10:aR (bI B) (aYC cs f (nV v))=some ((u.cells.zipIdx.foldl (fun cs (q:Value×Nat)=>cs.setIfInBounds (f+q.2) q.1) cells).toList):=by
     have:=a0A f u.cells.toList 0 cells
     rw [<-Array.toList_zipIdx,Array.foldl_toList] at this
     rw [this,h9]
     exact VY f hc h8
    obtain⟨vs,rs,g1,g2,g3⟩:=aHN hA ps h10 h
    refine⟨u :: vs,rs,by simp only [EZ,evs,h7,g1],g2,?_⟩
    have hp:fs.toArray[ix]?=some (f,m):=by simpa using h1
    simp only [EZ,List.zip_cons_cons,Instr.fill,hp]
    rw [if_neg (by rw [hu,hcs];simp;omega)]
    exact g3
   ·cases h
  ·cases h
noncomputable section
variable {P:Program} {T:TT} {n:Nat} {B:Bl} {e:SE} {a:Act} {o:Oper} {w w':World} {x y:Operand} {c:Ctx} {L:List Ch}
theorem aRL(hT:D7 P T)(hA:fV n B e a){t:TypeId}{ps:Array (Nat×Operand)}{r:SV}(ho:o.op=.build t ps)(h:aNO T e t ps.toList=some r):∃v,eC B r=some v/\dM P o (vE B e) w v w:=by
 unfold aNO at h
 split at h
 ·rename_i fs _ z h1
  split at h
  ·rename_i cs h2
   cases h
   obtain⟨d,hd,Fs,rfl,_,_,hp⟩:=hT.und _ _ h1
   obtain⟨zv,hz,hzc⟩:=hT.zero _ _ h1
   have hzc':aR (bI B) z=some zv.cells.toList:=by
    have:=dW (g:=bI B) (fun x v h=>by simpa using eX (B:=[]) B h) hzc
    exact this
   obtain⟨vs,rs,g1,g2,g3⟩:=aHN hA ps.toList hzc' h2
   exact⟨_,by simp only [eC,gV,g2],aTE (ps:=ps.toList) (by simpa using ho) hz hd hp g1 g3⟩
  ·cases h
 ·cases h
theorem aIV(hT:D7 P T)(hA:fV n B e a)(hS:kV c w B L){r:SV}(h:ev1 T e L o.op=some r):∃v,eC B r=some v/\dM P o (vE B e) w v w:=by
 generalize ho:o.op=op at h
 unfold ev1 at h
 split at h
 ·obtain⟨v,h1,h2⟩:=dR hA h;exact⟨v,h1,nG ho h2⟩
 ·obtain⟨v,h1,h2⟩:=dR hA h;exact⟨v,h1,DT ho h2⟩
 ·split at h
  ·rename_i heq
   cases h;obtain⟨v,h1,h2⟩:=dR hA heq
   refine⟨v,h1,?_⟩
   simp only [eC,gV,bI] at h1
   split at h1
   ·cases h1;exact aS4 ho h2
   ·cases h1
  ·rename_i heq
   cases h;obtain⟨v,h1,h2⟩:=dR hA heq
   refine⟨v,h1,?_⟩
   cases h1;exact aS4 ho h2
  ·rename_i heq
   cases h;obtain⟨v,h1,h2⟩:=dR hA heq
   refine⟨v,h1,?_⟩
   simp only [eC] at h1
   split at h1
   ·cases h1;exact aPI ho (fun _ h=>by cases h) h2
   ·cases h1
  ·rename_i heq
   cases h;obtain⟨v,h1,h2⟩:=dR hA heq
   refine⟨v,h1,?_⟩
   simp only [eC,gV,bI] at h1
   split at h1
   ·cases h1;exact aPI ho (fun _ h=>by cases h) h2
   ·cases h1
  ·cases h
 ·split at h
  ·rename_i heq
   obtain⟨v,h1,h2⟩:=dR hA heq
   cases h1
   obtain⟨u,h3,h4⟩:=dR hA h
   exact⟨u,h3,vC ho h2 rfl h4⟩
  ·rename_i heq
   obtain⟨v,h1,h2⟩:=dR hA heq
   cases h1
   obtain⟨u,h3,h4⟩:=dR hA h
   exact⟨u,h3,AN ho h2 rfl h4⟩
  ·cases h
 ·split at h
  ·rename_i heq
   cases h;obtain⟨v,h1,h2⟩:=dR hA heq
   cases h1;exact⟨_,rfl,aCJ ho h2⟩
  ·rename_i heq
   cases h;obtain⟨v,h1,h2⟩:=dR hA heq
   cases h1;exact⟨_,rfl,aCJ ho h2⟩
  ·cases h
 ·split at h
  ·rename_i heq
   cases h;obtain⟨v,h1,h2⟩:=dR hA heq
   cases h1;exact⟨_,rfl,a0U ho h2⟩
  ·cases h
 ·split at h
  ·rename_i h1 h2
   obtain⟨v,g1,g2⟩:=dR hA h1
   obtain⟨u,g3,g4⟩:=dR hA h2
   exact a1L hT ho g2 g4 g1 g3 h2 h
  ·cases h
 ·split at h
  ·rename_i h1
   obtain⟨v,g1,g2⟩:=dR hA h1
   exact aYG hT ho g2 g1 h
  ·cases h
 ·split at h
  ·rename_i h1
   obtain⟨v,g1,g2⟩:=dR hA h1
   simp only [eC] at g1
   split at g1
   ·rename_i xs _ vs h3
    cases g1
    obtain⟨u,h4,h5⟩:=M3 h3 h
    exact⟨u,a3J h4,aNF ho g2 (by simpa using h5)⟩
   ·cases g1
  ·cases h
 ·split at h
  ·rename_i h1
   obtain⟨v,g1,g2⟩:=dR hA h1
   exact aUF hT ho g2 g1 h
  ·cases h
 ·split at h
  ·rename_i h1
   obtain⟨v,g1,g2⟩:=dR hA h1
   exact aUI hT hS ho g2 g1 h
  ·cases h
 ·exact aRL hT hA ho h
 ·split at h
  ·rename_i h1 h2
   obtain⟨v,g1,g2⟩:=dR hA h1
   obtain⟨d,hd,hd2⟩:=hT.und _ _ h2
   unfold a3I at h
   split at h
   ·split at h
    ·cases h;cases g1;simp only at hd2;subst hd2
     exact⟨_,rfl,aS7 hd ho g2⟩
    ·cases h
   ·split at h
    ·cases h;cases g1;simp only at hd2;subst hd2
     exact⟨_,rfl,aXU hd ho g2⟩
    ·cases h
   ·cases h
  ·cases h
 ·cases h
end
def nI(n:Nat)(c:Ctx)(B0:Bl)(m:Nat)(e:SE)(L:List Ch)(a:Act)(w:World):Prop:=∃B,(B0++B).length=m/\fV n (B0++B) e a/\kV c w (B0++B) L
end Go.Gv
end
noncomputable section
namespace Go.Gv
noncomputable section
variable {m:Nat} {e:SE} {L:List Ch}
theorem aCY{B:Bl}{m:Nat}{x:SV}{v:Value}(hv:bI B x=some v)(h:∀n o,x=.p n o->n < m):bI (B.take m) x=some v:=by
 cases x <;> simp only [bI] at hv ⊢ <;> try exact hv
 rename_i n o
 rw [DK,if_pos (h n o rfl)];exact hv
theorem yJ{B:Bl}{m:Nat}:∀{cs:List SV} {vs:List Value},vG.okC m cs=true->aR (bI B) cs=some vs->aR (bI (B.take m)) cs=some vs
 | [],vs,_,h=>h
 | x :: cs, vs, ho, h => by
  simp only [aR] at h
  split at h
  ·cases h
  ·rename_i h1
   split at h
   ·cases h
   ·rename_i h2
    cases h
    have hx:(∀n o,x=.p n o->n < m)/\vG.okC m cs=true:=by
     simp only [vG.okC] at ho
     cases x <;> try exact⟨fun _ _ h=>(by cases h),ho⟩
     ·rename_i n o
      simp only at ho
      split at ho
      ·rename_i hb
       exact⟨fun n' o' he=>by cases he;simpa [mQ] using hb,ho⟩
      ·cases ho
     ·cases ho
    simp [aR,aCY h1 hx.1,yJ hx.2 h2]
theorem aPY{B:Bl}{m:Nat}:∀{cs:List SV} {vs:List Value},vG.okT m cs=true->aR (gV B) cs=some vs->aR (gV (B.take m)) cs=some vs
 | [],vs,_,h=>h
 | x :: cs, vs, ho, h => by
  simp only [aR] at h
  split at h
  ·cases h
  ·rename_i y0 h1
   split at h
   ·cases h
   ·rename_i h2
    cases h
    have hx:gV (B.take m) x=some y0/\vG.okT m cs=true:=by
     simp only [vG.okT] at ho
     cases x <;> try exact⟨h1,ho⟩
     ·rename_i n o
      simp only at ho
      split at ho
      ·rename_i hb
       refine⟨aCY (x:=.p n o) h1 (fun n' o' he=>by cases he;simpa [mQ] using hb),ho⟩
      ·cases ho
     ·rename_i ds
      simp only at ho
      split at ho
      ·rename_i hb
       refine⟨?_,ho⟩
       simp only [gV] at h1 ⊢
       split at h1
       ·rename_i h3;rw [yJ hb h3];exact h1
       ·cases h1
      ·cases ho
    simp [aR,hx.1,aPY hx.2 h2]
theorem aPZ{B:Bl}{m:Nat}:∀{cs:List Nat} {vs:List Value},vG.okF m cs=true->aR (N6 B) cs=some vs->aR (N6 (B.take m)) cs=some vs
 | [],vs,_,h=>h
 | x :: cs, vs, ho, h => by
  simp only [aR] at h
  split at h
  ·cases h
  ·rename_i y0 h1
   split at h
   ·cases h
   ·rename_i h2
    cases h
    simp only [vG.okF] at ho
    split at ho
    ·rename_i hb
     have hx:N6 (B.take m) x=some y0:=by
      unfold N6 at h1 ⊢
      rw [DK,if_pos (by simpa [mQ] using hb)];exact h1
     simp [aR,hx,aPZ ho h2]
    ·cases ho
theorem N8{B:Bl}{m:Nat}{x:SV}{v:Value}(h:vG m x=true)(hv:eC B x=some v):eC (B.take m) x=some v:=by
 cases x
 case p n o=>exact aCY (x:=.p n o) hv (fun n' o' he=>by cases he;simpa [vG,mQ] using h)
 case g cs=>
  simp only [eC,gV] at hv ⊢
  split at hv
  ·rename_i h1;rw [yJ h h1];exact hv
  ·cases hv
 case t cs=>
  simp only [eC] at hv ⊢
  split at hv
  ·rename_i h1;rw [aPY h h1];exact hv
  ·cases hv
 case f f cs=>
  simp only [eC] at hv ⊢
  split at hv
  ·rename_i h1;rw [aPZ h h1];exact hv
  ·cases hv
 all_goals exact hv
theorem aUJ{B:Bl}{z x:SV}:bI B (re1 z x)=bI B x:=by
 cases z <;> cases x <;> rfl
theorem aYI{B:Bl}{z x:SV}:eC B (re1 z x)=eC B x:=by
 cases z <;> cases x <;> rfl
theorem aP0{B:Bl}:∀{cs ds:List SV},aR (bI B) (reC cs ds)=aR (bI B) ds
 | [],[]=>rfl
 | [],_ :: _=>rfl
 | _ :: _,[]=>rfl
 | c :: cs,d :: ds=>by simp only [reC,aR,aUJ,aP0]
theorem aUK{B:Bl}{x:SV}:bI B (nb1 x)=bI B x:=by cases x <;> rfl
theorem SU{B:Bl}:∀{cs:List SV},aR (bI B) (nbL cs)=aR (bI B) cs
 | []=>rfl
 | c :: cs=>by simp only [nbL,aR,aUK,SU]
theorem a1M{B:Bl}{x:SV}:gV B (nbG x)=gV B x:=by
 cases x <;> try rfl
 simp only [nbG,gV,SU]
theorem aP1{B:Bl}:∀{cs:List SV},aR (gV B) (nbT cs)=aR (gV B) cs
 | []=>rfl
 | c :: cs=>by simp only [nbT,aR,a1M,aP1]
theorem aIW{B:Bl}{x:SV}:eC B (nbG x)=eC B x:=by
 cases x <;> try rfl
 simp only [nbG,eC,gV,SU]
theorem aBR{B:Bl}{x:SV}:eC B (nbS x)=eC B x:=by
 cases x with
 | g cs=>exact aIW (x:=.g cs)
 | t xs=>simp only [nbS,eC,aP1]
 | _=>rfl
theorem aP2{B:Bl}:∀{cs:List SV},aR (eC B) (nbT cs)=aR (eC B) cs
 | []=>rfl
 | c :: cs=>by simp only [nbT,aR,aIW,aP2]
theorem KH{B:Bl}:∀{cs:List SV},aR (eC B) (nbA cs)=aR (eC B) cs
 | []=>rfl
 | c :: cs => by
  simp only [nbA]
  split
  ·simp only [aR,KH];rfl
  ·simp only [aR,aIW,KH]
theorem aUL{e:SE}:∀{e' s:SE} {k:Nat} {x:SV},reE e e'=some s->A8 s k=some x->∃y,A8 e k=some y/\∀B,eC B x=eC B y
 | [],s,k,x,h,hk=>by cases h;cases hk
 | (j, y) :: r, s, k, x, h, hk => by
  simp only [reE] at h
  split at h
  ·rename_i z hz
   split at h
   ·rename_i s' hs
    cases h
    simp only [A8] at hk
    cases hb:Nat.beq k j with
    | true=>rw [hb] at hk;cases hk;rw [jJ hb];exact⟨z,hz,fun B=>aYI⟩
    | false=>rw [hb] at hk;exact aUL hs hk
   ·cases h
  ·cases h
theorem aIX{B:Bl}{w:World}{R:List Fact}:∀(M L:List Ch),iV w (L.map (jN B)) ((reL M L).map (jN B))/\((∀x∈L,roF B R x)->∀x∈reL M L,roF B R x)
 | [],L=>by simp only [reL];exact⟨iV.refl _,fun h=>h⟩
 | x :: M,[]=>by cases x <;> exact⟨.nil,fun h=>h⟩
 | x :: M, y :: L => by
  obtain⟨h1,h2⟩:=aIX (B:=B) (w:=w) (R:=R) M L
  have gen:reL (x :: M) (y :: L)=y :: reL M L->iV w ((y :: L).map (jN B)) ((reL (x :: M) (y :: L)).map (jN B))/\((∀x∈y :: L,roF B R x)->∀z∈reL (x :: M) (y :: L),roF B R z):=fun he=>by
   rw [he]
   refine⟨.cons (fun _ h=>h) h1,fun h z hz=>?_⟩
   rcases gW.1 hz with hz | hz
   ·subst hz;exact h _ (by simp)
   ·exact h2 (fun x hx=>h x (nF _ hx)) z hz
  cases x with
  | box n cs =>
   cases y with
   | box k ds =>
    simp only [reL]
    refine⟨.cons (fun F ⟨b,z,vs,k1,k2,k3⟩=>⟨b,z,vs,k1,by rw [aP0];exact k2,k3⟩) h1,fun h z hz=>?_⟩
    rcases gW.1 hz with hz | hz
    ·subst hz;trivial
    ·exact h2 (fun x hx=>h x (nF _ hx)) z hz
   | _=>exact gen rfl
  | _=>exact gen (by cases y <;> rfl)
theorem aUM{m:Nat}:∀{s:SE} {k:Nat} {x:SV},okE m s=true->A8 s k=some x->vG m x=true
 | [],k,x,h,hk=>by cases hk
 | (j, y) :: r, k, x, h, hk => by
  simp only [okE] at h
  split at h
  ·rename_i ho
   simp only [A8] at hk
   cases hb:Nat.beq k j with
   | true=>rw [hb] at hk;cases hk;exact ho
   | false=>rw [hb] at hk;exact aUM h hk
  ·cases h
theorem aIY{m:Nat}:∀{L:List Ch} {x:Ch},okL m L=true->x∈L->(∀n cs,x=.box n cs\/x=.ro n cs->n < m/\vG.okC m cs=true)
 | y :: L, x, h, hx, n, cs, he => by
  have key:(∀n cs,y=.box n cs\/y=.ro n cs->n < m/\vG.okC m cs=true)/\okL m L=true:=by
   cases y with
   | box k c =>
    simp only [okL] at h
    split at h
    ·rename_i h1 h2
     refine⟨fun n cs he=>?_,h⟩
     rcases he with he | he <;> cases he
     exact⟨by simpa [mQ] using h1,h2⟩
    ·cases h
   | ro k c =>
    simp only [okL] at h
    split at h
    ·rename_i h1 h2
     refine⟨fun n cs he=>?_,h⟩
     rcases he with he | he <;> cases he
     exact⟨by simpa [mQ] using h1,h2⟩
    ·cases h
   | o c=>exact⟨fun n cs he=>(by rcases he with he | he <;> cases he),h⟩
   | f c=>exact⟨fun n cs he=>(by rcases he with he | he <;> cases he),h⟩
   | no=>exact⟨fun n cs he=>(by rcases he with he | he <;> cases he),h⟩
   | w k b z =>
    simp only [okL] at h
    split at h
    ·exact⟨fun n cs he=>(by rcases he with he | he <;> cases he),h⟩
    ·cases h
  rcases gW.1 hx with hx | hx
  ·subst hx;exact key.1 n cs he
  ·exact aIY key.2 hx n cs he
theorem a0B{m n b z:Nat}:∀{L:List Ch},okL m L=true->Ch.w n b z∈L->n < m
 | y :: L, h, hx => by
  have key:(y=.w n b z->n < m)/\okL m L=true:=by
   cases y with
   | box k c =>
    simp only [okL] at h
    split at h
    ·exact⟨fun he=>(by cases he),h⟩
    ·cases h
   | ro k c =>
    simp only [okL] at h
    split at h
    ·exact⟨fun he=>(by cases he),h⟩
    ·cases h
   | w k b z =>
    simp only [okL] at h
    split at h
    ·rename_i h1
     exact⟨fun he=>(by cases he;simpa [mQ] using h1),h⟩
    ·cases h
   | o c=>exact⟨fun he=>(by cases he),h⟩
   | f c=>exact⟨fun he=>(by cases he),h⟩
   | no=>exact⟨fun he=>(by cases he),h⟩
  rcases gW.1 hx with hx | hx
  ·exact key.1 hx.symm
  ·exact a0B key.2 hx
theorem aCZ{L:List Ch}:∀{is:List Nat} {x:Ch},x∈kl L is->x∈L
 | i :: is, x, h => by
  simp only [kl] at h
  split at h
  ·rename_i y hy
   rcases gW.1 h with h | h
   ·subst h;exact tP hy
   ·exact aCZ h
  ·exact aCZ h
theorem aP3{B:Bl}{w:World}{L:List Ch}:∀(is:List Nat),∃is',(∀j∈is',j∈is)/\(cW is=true->cW is'=true)/\iV w (pick (L.map (jN B)) is') ((kl L is).map (jN B))
 | []=>⟨[],by simp,fun h=>h,.nil⟩
 | i :: is => by
  obtain⟨is',h1,h2,h3⟩:=aP3 (B:=B) (w:=w) (L:=L) is
  cases hi:L[i]? with
  | none =>
   refine⟨is',fun j hj=>nF _ (h1 j hj),fun h=>h2 ?_,?_⟩
   ·simp only [cW,zP] at h;exact h.2
   ·simp only [kl,hi];exact h3
  | some x =>
   refine⟨i :: is',fun j hj=>?_,fun h=>?_,?_⟩
   ·rcases gW.1 hj with h | h
    ·subst h;simp
    ·exact nF _ (h1 j h)
   ·simp only [cW,zP] at h ⊢
    refine⟨?_,h2 h.2⟩
    rw [VN] at h ⊢
    exact fun j hj=>h.1 j (h1 j hj)
   ·simp only [kl,hi,pick,DJ,KC,Option.getD_some,EZ]
    exact .cons (fun _ h=>h) h3
theorem aUN{c:Ctx}{w:World}{B:Bl}(h:kV c w B L)(is:List Nat)(ha:cW is=true):kV c w B (kl L is):=by
 obtain⟨⟨R,s1,s2⟩,s0⟩:=h
 obtain⟨is',_,h2,h3⟩:=aP3 (B:=B) (w:=w) (L:=L) is
 exact⟨⟨R,(s1.MZ is' (h2 ha)).imp h3,fun x hx=>s2 x (aCZ hx)⟩,s0⟩
theorem V2{c:Ctx}{w:World}{B:Bl}{m:Nat}{L:List Ch}(h:kV c w B L)(ho:okL m L=true):kV c w (B.take m) L:=by
 obtain⟨⟨R,s1,s2⟩,s0⟩:=h
 have key:∀x∈L,∀F,(jN B x).P w F->(jN (B.take m) x).P w F:=by
  intro x hx F hF
  cases x with
  | box n cs =>
   obtain⟨h1,h2⟩:=aIY ho hx n cs (.inl rfl)
   obtain⟨b,z,vs,k1,k2,k3⟩:=hF
   exact⟨b,z,vs,by rw [DK,if_pos h1];exact k1,yJ h2 k2,k3⟩
  | _=>exact hF
 have imp:∀(M:List Ch),(∀x∈M,x∈L)->iV w (M.map (jN B)) (M.map (jN (B.take m))):=by
  intro M
  induction M with
  | nil=>exact fun _=>.nil
  | cons x M ih=>exact fun hM=>.cons (key x (hM x (by simp))) (ih fun y hy=>hM y (nF _ hy))
 refine⟨⟨R,s1.imp (imp L fun _ h=>h),fun x hx=>?_⟩,s0⟩
 have:=s2 x hx
 cases x with
 | ro n cs =>
  obtain⟨h1,h2⟩:=aIY ho hx n cs (.inr rfl)
  obtain⟨b,z,vs,k1,k2,k3⟩:=this
  exact⟨b,z,vs,by rw [DK,if_pos h1];exact k1,yJ h2 k2,k3⟩
 | w n b z =>
  have h1:=a0B ho hx
  exact(by rw [DK,if_pos h1];exact this:(List.take m B)[n]?=some (b,z))
 | _=>exact this
theorem a1N{c:Ctx}{w:World}{B:Bl}{L:List Ch}(h:kV c w B L)(M:List Ch):kV c w B (reL M L):=by
 obtain⟨⟨R,s1,s2⟩,s0⟩:=h
 exact⟨⟨R,s1.imp (aIX (R:=R) M L).1,(aIX (w:=w) M L).2 s2⟩,s0⟩
theorem Rel.as{n:Nat}{c:Ctx}{B0:Bl}{m':Nat}{e':SE}{L':List Ch}{a:Act}{w:World}(hr:nI n c B0 m e L a w)(is:List Nat)(ha:cW is=true){f:SE}{M:List Ch}(h:asS e L is m' f M=some (e',L'))(hm:m'<=m)(h0:B0.length<=m'):nI n c B0 m' e' L' a w:=by
 unfold asS at h
 split at h
 ·rename_i s hs
  split at h
  ·rename_i h1 h2
   cases h
   obtain⟨B,hl,hA,hS⟩:=hr
   have hB:(B0++B).take m'=B0++B.take (m' - B0.length):=by
    rw [List.take_append,aHF h0]
   refine⟨B.take (m' - B0.length),by rw [<-hB];simp only [AL,hl];omega,?_,?_⟩
   ·rw [<-hB]
    exact⟨hA.d,hA.size,fun k x hk=>by
     obtain⟨y,q1,q2⟩:=aUL hs hk
     obtain⟨v,k1,k2⟩:=hA.get k y q1
     exact⟨v,N8 (aUM h1 hk) (by rw [q2];exact k1),k2⟩⟩
   ·rw [<-hB]
    exact V2 (a1N (aUN hS is ha) _) h2
  ·cases h
 ·cases h
theorem nI.SR{n:Nat}{c:Ctx}{B0:Bl}{m':Nat}{e':SE}{L':List Ch}{a:Act}{w:World}(hr:nI n c B0 m e L a w)(is:List Nat){f:SE}{M:List Ch}(h:SR B0.length m e L is m' f M=some (e',L')):nI n c B0 m' e' L' a w:=by
 unfold Go.Gv.SR at h
 split at h
 ·rename_i h1 h2 h3
  exact Rel.as hr is h3 h (tQ h2) (tQ h1)
 ·cases h
end
end Go.Gv
end
noncomputable section
namespace Go.Gv
noncomputable section
variable {P:Program} {T:TT} {n:Nat} {B:Bl} {e:SE} {a:Act} {o:Oper} {w w':World} {x y:Operand} {c:Ctx} {L:List Ch}
theorem UX{ops:Array Oper}(h:zT ops e o.guard=.yes):Want ops o (vE B e) true:=by
 unfold zT at h
 split at h
 ·exact bS (by assumption)
 ·rename_i j w hg
  split at h
  ·rename_i q hq
   split at h
   ·rename_i s hs
    have hj:(ops[j]?).bind (·.dst)=some s:=by rw [<-Array.getElem?_toList,hq];exact hs
    split at h
    ·rename_i c hl
     have hv:lk (vE B e) s=some (.bool c):=by rw [aCX hl];rfl
     refine b7 hg hj hv ?_
     split at h <;> first | rfl | cases h
    all_goals cases h
   ·cases h
  ·cases h
theorem a0C{ops:Array Oper}(h:zT ops e o.guard=.no):Want ops o (vE B e) false:=by
 unfold zT at h
 split at h
 ·cases h
 ·rename_i j w hg
  split at h
  ·rename_i q hq
   split at h
   ·rename_i s hs
    have hj:(ops[j]?).bind (·.dst)=some s:=by rw [<-Array.getElem?_toList,hq];exact hs
    split at h
    ·rename_i c hl
     have hv:lk (vE B e) s=some (.bool c):=by rw [aCX hl];rfl
     refine b7 hg hj hv ?_
     cases c <;> cases w <;> first | rfl | cases h
    ·rename_i hl
     exact aXX hg hj (by rw [aCX hl];rfl)
    all_goals cases h
   ·cases h
  ·cases h
theorem aKY{m:Nat}:∀{L:List Ch},PH m L=true->∃i cs,L[i]?=some (.box m cs)/\GW m L=some cs/\∀cs',wQ m cs' L=L.set i (.box m cs')
 | [],h=>by cases h
 | x :: L, h => by
  have ih:PH m L=true->GW m (x :: L)=GW m L->(∀cs',wQ m cs' (x :: L)=x :: wQ m cs' L)->∃i cs,(x :: L)[i]?=some (.box m cs)/\GW m (x :: L)=some cs/\∀cs',wQ m cs' (x :: L)=(x :: L).set i (.box m cs'):=fun h h2 h3=>by
   obtain⟨i,cs,g1,g2,g3⟩:=aKY h
   exact⟨i+1,cs,by simpa using g1,by rw [h2,g2],fun cs'=>by rw [h3,g3];rfl⟩
  cases x with
  | box k cs =>
   simp only [PH] at h
   split at h
   ·rename_i hb
    have:=jJ hb
    subst this
    exact⟨0,cs,rfl,by simp only [GW,hb],fun cs'=>by simp only [wQ,hb];rfl⟩
   ·rename_i hb
    exact ih h (by simp only [GW,hb]) (fun cs'=>by simp only [wQ,hb])
  | ro k cs =>
   simp only [PH] at h
   split at h
   ·cases h
   ·rename_i hb
    exact ih h (by simp only [GW,hb]) (fun cs'=>by simp only [wQ])
  | o ch=>exact ih h rfl (fun _=>rfl)
  | f g=>exact ih h rfl (fun _=>rfl)
  | no=>exact ih h rfl (fun _=>rfl)
  | w k b z=>exact ih h rfl (fun _=>rfl)
theorem aRM(hT:D7 P T)(hA:fV n B e a)(hS:kV c w B L){t:TypeId}{p v:SV}{L':List Ch}(ho:o.op=.store t x y)(hx:hU e x=some p)(hy:hU e y=some v)(h:UT T t p v L=some L'):∃w',aS2 P o (vE B e) w w'/\kV c w' B L':=by
 unfold UT at h
 split at h
 ·rename_i m j
  split at h
  ·rename_i hb
   split at h
   ·rename_i cs _ _ sz _ h1 h2
    split at h
    ·rename_i h3 h4 h5
     split at h
     case h_2=>cases h
     rename_i ds hds
     have h4:=jJ h4
     have h5:=tQ h5
     have:=LL hds
     rw [aIU _ _ _ (by omega)] at this
     subst this
     split at h
     case h_2=>cases h
     rename_i L2 hL2
     cases h
     have:=LL hL2
     subst this
     obtain⟨i,cs',g1,g2,g3⟩:=aKY hb
     rw [h1] at g2;cases g2
     obtain⟨pv,hp1,hp2⟩:=dR hA hx
     obtain⟨u,hu1,hu2⟩:=dR hA hy
     obtain⟨vs,hv⟩:=UW h3 hu1
     obtain⟨b,z,rs,k1,k2,_⟩:=hS.cells h1
     simp only [eC,gV,bI,k1] at hp1
     cases hp1
     have hl:=j3 hv
     have hl2:=j3 k2
     obtain⟨⟨R,s1,s2⟩,s0⟩:=hS
     have hlt:=(iE.1 g1).1
     have gi:(L.map (jN B))[i]?=some (N7 B m cs):=by rw [DJ,g1];rfl
     have s3:St c w ((L.map (jN B)).set i (QV b z rs)) R:=s1.imp (iV.put i gi fun F ⟨b',z',vs',q1,q2,q3⟩=>by
      rw [k1] at q1;cases q1;rw [k2] at q2;cases q2;exact q3)
     obtain⟨w2,r1,r2⟩:=a3E (P:=P) (o:=o) (e:=vE B e) (b:=b) (q:=z) (cs:=rs) (vs:=vs) (j:=j) (m:=sz) s3 (i:=i) (by rw [Y9 (by simpa using hlt)]) ho hp2 hu2 (M6 hu1 hv) (hT.size _ _ h2) (by omega) (Nat.ble_eq_true_of_le (by omega)) (VN.2 fun q hq=>by
      obtain⟨k,hk⟩:=aCD hq
      have hk2:k < (nV v).length:=by rw [<-hl];exact(iE.1 hk).1
      obtain⟨q',hq1,hq2⟩:=M3 hv (fT hk2)
      rw [hk] at hq2;cases hq2
      exact aCW hq1)
     refine⟨w2,r1,⟨⟨R,?_,?_⟩,s0⟩⟩
     ·rw [aHE] at r2
      rw [g3,MQ]
      exact r2.imp (iV.set i (iV.refl _) fun F hF=>⟨b,z,_,k1,VY j k2 hv,hF⟩)
     ·rw [g3]
      intro q hq
      rcases sQ hq with hq | hq
      ·exact s2 q hq
      ·subst hq;trivial
    ·cases h
   ·cases h
  ·cases h
 ·cases h
theorem kV.box(hS:kV c w B L){w':World}{b:Nat}{cs:List SV}{vs:List Value}(hc:aR (bI B) cs=some vs)(h:∀M R,St c w M R->St c w' (M ++ [DA b vs]) R):kV c w' (B ++ [(b,0)]) (L ++ [.box B.length cs]):=by
 obtain⟨⟨R,s1,s2⟩,s0⟩:=hS
 refine⟨⟨R,?_,?_⟩,s0⟩
 ·rw [wI]
  refine(h _ _ s1).imp (iV.append (SS _ L) (.cons (fun F hF=>⟨b,0,vs,by simp,dW (fun _ _=>eX _) hc,hF⟩) .nil))
 ·intro q hq
  rcases gC.1 hq with hq | hq
  ·exact aIS _ (s2 q hq)
  ·simp at hq;subst hq;trivial
theorem aUO(hT:D7 P T)(hS:kV c w B L){t:TypeId}{i:TI}{E:Env}(ho:o.op=.alloc t)(h:AQ T t=some i):∃v w' b,dM P o E w v w'/\v=.pointer (some ⟨b,0,none⟩)/\kV c w' (B ++ [(b,0)]) (L ++ [.box B.length i.z]):=by
 obtain⟨z,hz,hzc⟩:=hT.zero _ _ h
 have hzc':aR (bI B) i.z=some z.cells.toList:=dW (fun x v h=>by simpa using eX (B:=[]) B h) hzc
 refine⟨_,_,w.heap.size,fun _ a hA=>?_,rfl,hS.box hzc' fun M R hM=>hM.alloc z.cells.toList t⟩
 simp [execOp,ho,Instr.alloc,hz,newVar,newRow]
theorem a1O(hA:fV n B e a)(hS:kV c w B L){t:TypeId}{v:SV}(ho:o.op=.box t x)(h:hU e x=some v)(hc:isCells v=true):∃u w' b,dM P o (vE B e) w u w'/\u=.pointer (some ⟨b,0,none⟩)/\kV c w' (B ++ [(b,0)]) (L ++ [.box B.length (nV v)]):=by
 obtain⟨u,h1,h2⟩:=dR hA h
 obtain⟨vs,h3⟩:=UW hc h1
 have h4:=M6 h1 h3
 subst h4
 refine⟨_,_,w.heap.size,fun _ a hA=>?_,rfl,hS.box h3 fun M R hM=>hM.alloc u.cells.toList t⟩
 simp [execOp,ho,Instr.box,hA.eval h2,newVar,newRow]
end
structure Gx where
 P:Program
 T:TT
 hT:D7 P T
 n:Nat
 c:Ctx
 B0:Bl
 N:Act->World->Prop
 X:Nat->Act->World->Prop
 Q:Act->World->Prop
abbrev Rel(g:Gx)(m:Nat)(e:SE)(L:List Ch)(a:Act)(w:World):Prop:=nI g.n g.c g.B0 m e L a w
mutual
def NK(g:Gx):List Fr->Act->World->Prop
 | []=>g.N
 | .s y :: K=>fun a w=>CW g.P y (NK g K) (XK g K) g.Q a w
 | .k _ :: K=>NK g K
def XK(g:Gx):List Fr->Nat->Act->World->Prop
 | []=>g.X
 | .s _ :: K=>XK g K
 | .k id :: K=>aCI id (NK g K) (XK g K)
end
structure X5 (g:Gx) (B1:Bl) (ops:Array Oper) (l:List Bool) (is:List Nat) (Lf L:List Ch):Prop where
 pre:∃B,B1=g.B0++B
 len:l.length=ops.size
 free:aKW ops=true
 wR:kl L is=Lf
 rng:∀j∈is,j < L.length
 okf:okL B1.length Lf=true
 ap:cW is=true
abbrev Sd(g:Gx)(B1:Bl)(Lf:List Ch):World->Prop:=fun w=>kV g.c w B1 Lf
def a3L(g:Gx)(B1:Bl)(Lf Lv:List Ch)(m:Nat)(e:SE)(L:List Ch)(a:Act)(w:World):Prop:=∃B,(B1++B).length=m/\fV g.n (B1++B) e a/\kV g.c w (B1++B) L/\∀w',kV g.c w' B1 Lf->kV g.c w' (B1++B) Lv
def G(g:Gx)(K:List Fr)(m:Nat)(e:SE)(L:List Ch):tO->Prop
 | .n=>∀a w,Rel g m e L a w->NK g K a w
 | .c x=>∀a w,Rel g m e L a w->CW g.P x (NK g K) (XK g K) g.Q a w
 | .r ops l=>∀a w,Rel g m e L a w->wpList g.P ops (mkQ (NK g K) (XK g K) g.Q) l a w
 | .d B1 ops l is Lf Lv=>X5 g B1 ops l is Lf L->∀a w,a3L g B1 Lf Lv m e L a w->wpAnyH g.P .any ops (mkQ (NK g K) (XK g K) g.Q) (Sd g B1 Lf) (l.count false) l.toArray a w
 | .o B1 ops l is Lf Lv i=>X5 g B1 ops l is Lf L->∀a w,a3L g B1 Lf Lv m e L a w->wpOp g.P ops (mkQ (NK g K) (XK g K) g.Q) i (fun a' w'=>Sd g B1 Lf w'/\wpAnyH g.P .any ops (mkQ (NK g K) (XK g K) g.Q) (Sd g B1 Lf) ((l.set i true).count false) (l.set i true).toArray a' w') a w
def T0(g:Gx):tO->Bl
 | .d B1 _ _ _ _ _=>B1
 | .o B1 _ _ _ _ _ _=>B1
 | _=>g.B0
def Frz(g:Gx)(cf:tO)(L L':List Ch):Prop:=match cf with
 | .d B1 ops l is Lf _=>X5 g B1 ops l is Lf L->kl L' is=Lf/\∀j∈is,j < L'.length
 | .o B1 ops l is Lf _ _=>X5 g B1 ops l is Lf L->kl L' is=Lf/\∀j∈is,j < L'.length
 | _=>True
def V3(g:Gx)(K:List Fr)(m:Nat)(e:SE)(L:List Ch)(o:Oper)(Lv:List Ch)(cf cf':tO):Prop:=
 ∀(d:Nat) (x:SV) (Ln:List Ch) (nb:World->Bl) (k:Nat),o.dst=some d->(∀w,(nb w).length=k) ->
  (∀B a w,fV g.n B e a->kV g.c w B Lv->B.length=m->∃v,eC (B++nb g.c.w0) x=some v/\dM g.P o (vE B e) w v w) ->
  (∀B w L,B.length=m->kV g.c w B L->kV g.c w (B++nb g.c.w0) (L++Ln)) ->
  G g K (m+k) ((d,x) :: e) (L++Ln) (cf'.ext Ln)->G g K m e L cf
def ZF(g:Gx)(K:List Fr)(m:Nat)(e:SE)(L:List Ch)(o:Oper)(cf cf':tO):Prop:=
 ∀(ι:Type) (m':ι->Nat) (e':ι->SE) (L':ι->List Ch),(∀i,Frz g cf L (L' i)) ->
  (∀B a w (next:Act->World->Prop) (Q:Exit->Act->World->Prop),(T0 g cf++B).length=m->fV g.n (T0 g cf++B) e a->kV g.c w (T0 g cf++B) L->(∀i a' w',nI g.n g.c (T0 g cf++B) (m' i) (e' i) (L' i) a' w'->next a' w')->o.wp g.P a w next Q) ->
  (∀i,G g K (m' i) (e' i) (L' i) cf')->G g K m e L cf
def Gs(g:Gx):Stop->Prop
 | .ret m e L=>∀a w,Rel g m e L a w->g.Q a w
 | .fin m e L=>∀a w,Rel g m e L a w->g.N a w
 | .ex id m e L=>∀a w,Rel g m e L a w->g.X id a w
 | .cond o b x y K m e L=>hU e o=some (.b b)->G g K m e L (.c (.cond o x y))
 | .case _ cf K m e L=>G g K m e L cf
 | .loop id y K m e L=>G g K m e L (.c (.block id (.loop y)))
 | .idx o d t s n i Lv cf cf' K m e L=>(∀x y,o.op=.indexAddr t x y->o.dst=some d->hU e x=some (.h s n)->hU e y=some (.i .i64 i)->V3 g K m e L o Lv cf cf'->G g K m e L cf)
 | .call o d f xs cf cf' K m e L=>(∀fo args ats,o.op=.call {callee:=.value fo,args:=args,argTypes:=ats}->o.dst=d->hU e fo=some (.f f [])->(∃ys,aR (hU e) args.toList=some ys/\nbA ys=xs)->okA xs=true->oY g.n d=true->ZF g K m e L o cf cf'->G g K m e L cf)
 | .callp o d f xs cf cf' K m e L=>(∀fo args ats,o.op=.call {callee:=.value fo,args:=args,argTypes:=ats}->o.dst=d->hU e fo=some (.f f [])->(∃ys,aR (hU e) args.toList=some ys/\nbA ys=xs)->oY g.n d=true->ZF g K m e L o cf cf'->G g K m e L cf)
 | .op o Lv cf cf' K m e L=>oY g.n o.dst=true->V3 g K m e L o Lv cf cf'->ZF g K m e L o cf cf'->G g K m e L cf
 | .opp o Lv cf cf' K m e L=>oY g.n o.dst=true->V3 g K m e L o Lv cf cf'->G g K m e L cf
 | .rgn id ops K m e L=>G g K m e L (.c (.region id ops true))
 | .alt cf K m e L=>G g K m e L cf
 | .stuck=>False
noncomputable section
variable {g:Gx} {K:List Fr} {m:Nat} {e:SE} {L:List Ch}
theorem a0D{a:Act}{w:World}:∀{K:List Fr},(match pop K with | some (y,K')=>CW g.P y (NK g K') (XK g K') g.Q a w | none=>g.N a w)->NK g K a w
 | [],h=>by simpa [pop,NK] using h
 | .s y :: K,h=>by simpa [pop,NK] using h
 | .k _ :: K, h => by
  have:NK g K a w:=a0D (by simpa [pop] using h)
  simpa [NK] using this
theorem aUP{a:Act}{w:World}{id:Nat}:∀{K:List Fr},(match xit id K with | some K'=>NK g K' a w | none=>g.X id a w)->XK g K id a w
 | [],h=>by simpa [xit,XK] using h
 | .s y :: K, h => by
  have:XK g K id a w:=aUP (by simpa [xit] using h)
  simpa [XK] using this
 | .k j :: K, h => by
  simp only [xit] at h
  simp only [XK,aCI]
  cases hb:Nat.beq id j with
  | true =>
   rw [hb] at h
   rw [if_pos (jJ hb)];exact h
  | false =>
   rw [hb] at h
   rw [if_neg (fun e=>by rw [e] at hb;simp at hb)]
   exact aUP h
theorem aP4{F:Nat}(ih:∀K c m e L,Gs g (VX g.T g.n F K c m e L)->G g K m e L c)(h:Gs g (match pop K with | some (y,K')=>VX g.T g.n F K' (.c y) m e L | none=>.fin m e L)):∀a w,Rel g m e L a w->NK g K a w:=fun a w hr=>by
 refine a0D ?_
 split
 ·rename_i y K' hp
  rw [hp] at h
  exact ih _ _ _ _ _ h a w hr
 ·rename_i hp
  rw [hp] at h
  exact h a w hr
theorem fV.ext{n:Nat}{B nb:Bl}{a a':Act}{d:Nat}{x:SV}{v:Value}(hA:fV n B e a)(hx:eC (B++nb) x=some v)(hA':kW n ((d,v) :: vE B e) a'):fV n (B++nb) ((d,x) :: e) a':=by
 refine(hA.app nb).of hx ⟨hA'.d,hA'.size,fun k u hk=>?_⟩
 simp only [lk] at hk
 cases hb:Nat.beq k d with
 | true=>rw [hb] at hk;exact hA'.get k u (by simp only [lk,hb];exact hk)
 | false =>
  rw [hb] at hk
  obtain⟨y,h2,h3⟩:=aUD hk
  obtain⟨u2,h4,h5⟩:=hA.get k y h2
  rw [sW nb h4] at h3
  refine hA'.get k u ?_
  simp only [lk,hb]
  rw [aCX h2,h4];simpa using h3.symm
theorem aYJ{ops:Array Oper}{l:List Oper}{o:Oper}(hg:zT ops e o.guard=.yes)(hd:oY g.n o.dst=true):V3 g K m e L o L (.r ops (o :: l)) (.r ops l):=by
 intro d x Ln nb k hdst hk hv hs hG a w ⟨B,hm,hA,hS⟩
 obtain⟨v,h1,h2⟩:=hv _ a w hA hS hm
 rw [hdst] at hd
 refine eV h2 (UX hg) hdst hd (fun a' hA'=>hG a' w ⟨B++nb g.c.w0,?_,?_,?_⟩) a hA.env
 ·rw [<-tN,rD,hm,hk]
 ·rw [<-tN];exact hA.ext h1 hA'
 ·rw [<-tN];exact hs _ w _ hm hS
theorem aP5{ops:Array Oper}{l:List Oper}{o:Oper}(hg:zT ops e o.guard=.yes):ZF g K m e L o (.r ops (o :: l)) (.r ops l):=by
 intro ι m' e' L' _ hrun hG a w hr
 have ⟨B,hm,hA,hS⟩:=hr
 refine wpList_step fun K' hK=>?_
 rw [UX hg _ a hA.env,if_pos rfl]
 exact hrun B a w K' _ hm hA hS (fun i a' w' ⟨B',h1,h2,h3⟩=>hK a' w' (hG i a' w' ⟨B++B',by rw [<-tN];exact h1,by rw [<-tN];exact h2,by rw [<-tN];exact h3⟩))
theorem X5.S{B1:Bl}{ops:Array Oper}{l:List Bool}{is:List Nat}{Lf:List Ch}(h:X5 g B1 ops l is Lf L){w:World}{B:Bl}(hS:kV g.c w (B1++B) L):kV g.c w B1 Lf:=by
 have h1:=aUN hS is h.ap
 rw [h.wR] at h1
 have h2:=V2 h1 h.okf
 rwa [ZB (jA _),Q0] at h2
theorem X6{d:Edge}:Region.binds .any d=aT9 d.ground:=by
 cases d with
 | mk on g=>cases g <;> rfl
theorem aBS{l:List Bool}:∀{es:List Edge},LK l es=true↔∀d∈es,Region.binds .any d=true->l[d.on]?=some true
 | []=>by simp [LK]
 | ⟨on, gr⟩ :: r => by
  have ih:=aBS (l:=l) (es:=r)
  simp only [LK,gW,forall_eq_or_imp,X6]
  cases hb:aT9 gr with
  | true =>
   simp only
   split
   ·rename_i h1;rw [ih];simp [h1,X6]
   ·rename_i h1
    constructor
    ·intro h;cases h
    ·intro h;exact absurd (h.1 trivial) (by simpa using h1)
  | false=>simp only;rw [ih];simp [X6]
theorem SW{ops:Array Oper}{l:List Bool}(hl:l.length=ops.size){j:Nat}:j∈Region.ready .any ops l.toArray↔l[j]?=some false/\∃o,ops.toList[j]?=some o/\LK l o.after.toList=true:=by
 rw [mem_ready]
 have h1:(l.toArray.getD j true=false)↔l[j]?=some false:=by
  rw [aS0,List.getElem?_toArray]
  cases l[j]? <;> simp
 rw [h1]
 refine and_congr_right fun _=>?_
 constructor
 ·rintro⟨o,h2,h3⟩
  refine⟨o,by simpa using h2,aBS.2 fun d hd hb=>?_⟩
  have:=h3 d (by simpa using hd) hb
  rw [aS0,List.getElem?_toArray] at this
  cases hx:l[d.on]? with
  | none=>rw [hx] at this;cases this
  | some b=>rw [hx] at this;simp at this;rw [this]
 ·rintro⟨o,h2,h3⟩
  refine⟨o,by simpa using h2,fun d hd hb=>?_⟩
  have:=aBS.1 h3 d (by simpa using hd) hb
  rw [aS0,List.getElem?_toArray,this];rfl
theorem X7{i:Nat}:∀{es:List Edge},UU i es=true↔∃d∈es,Region.binds .any d=true/\d.on=i
 | []=>by simp [UU]
 | ⟨on, gr⟩ :: r => by
  have ih:=X7 (i:=i) (es:=r)
  simp only [UU,gW,exists_eq_or_imp,X6]
  cases hb:aT9 gr with
  | true =>
   simp only
   cases hi:Nat.beq on i with
   | true=>simp [jJ hi]
   | false =>
    simp only
    have hne:on≠i:=fun h=>by rw [h] at hi;simp at hi
    rw [ih];simp [hne,X6]
  | false=>simp only;rw [ih];simp [X6]
theorem aYK{ops:Array Oper}{l:List Bool}(hl:l.length=ops.size)(hf:aKW ops=true){i:Nat}{o:Oper}(ho:ops.toList[i]?=some o)(hr:LK l o.after.toList=true):Region.noSelect ops=true/\Region.free .any ops l.toArray i=true:=by
 unfold aKW at hf
 rw [zP,VN] at hf
 refine⟨hf.1,?_⟩
 unfold Region.free
 have hoi:ops[i]?=some o:=by simpa using ho
 rw [hoi]
 simp only [VN,List.mem_range]
 intro j hj
 have hoj:ops[j]?=some ops[j]:=by simp [hj]
 rw [hoj]
 simp only [Bool.or_eq_true,beq_iff_eq]
 by_cases hji:j=i
 ·exact .inl (.inl hji)
 ·have h1:=hf.2 (o,i) (List.mk_mem_zipIdx_iff_getElem?.2 ho)
  rw [VN] at h1
  have h2:=h1 (ops[j],j) (List.mk_mem_zipIdx_iff_getElem?.2 (by simp [hj]))
  simp only [Bool.or_eq_true] at h2
  rcases h2 with ((h2 | h2) | h2) | h2
  ·exact absurd (jJ h2).symm hji
  ·obtain⟨d,hd,hb,he⟩:=X7.1 h2
   refine .inr (.inl ?_)
   rw [<-Array.any_toList,List.any_eq_true]
   exact⟨d,hd,by simp [hb,he]⟩
  ·obtain⟨d,hd,hb,he⟩:=X7.1 h2
   have:=aBS.1 hr d hd hb
   rw [he] at this
   refine .inl (.inr ?_)
   rw [aS0,List.getElem?_toArray,this];rfl
  ·exact .inr (.inr h2)
theorem count_set{l:List Bool}:∀{i:Nat},l[i]?=some false->l.count false=(l.set i true).count false+1:=by
 induction l with
 | nil=>intro i h;simp at h
 | cons b l ih =>
  intro i h
  cases i with
  | zero=>simp at h;subst h;simp
  | succ i =>
   have:=ih (i:=i) (by simpa using h)
   simp only [List.set_cons_succ,List.count_cons]
   omega
theorem aNR{B1:Bl}{ops:Array Oper}{l:List Bool}{is:List Nat}{Lf:List Ch}{i:Nat}{o:Oper}{d:Nat}{v:Value}{a:Act}{w:World}{B:Bl}(hD:X5 g B1 ops l is Lf L)(ho:ops.toList[i]?=some o)(hl:l[i]?=some false)(hr:LK l o.after.toList=true)(hdst:o.dst=some d)(hdn:Nat.blt d g.n=true)(hA:fV g.n (B1++B) e a)(hS:kV g.c w (B1++B) L)
  (hy:(Want ops o (vE (B1++B) e) true/\∀w',Sd g B1 Lf w'->dM g.P o (vE (B1++B) e) w' v w')\/(Want ops o (vE (B1++B) e) false/\v=undef))
  (k:∀a',kW g.n ((d,v) :: vE (B1++B) e) a'->wpAnyH g.P .any ops (mkQ (NK g K) (XK g K) g.Q) (Sd g B1 Lf) ((l.set i true).count false) (l.set i true).toArray a' w):wpAnyH g.P .any ops (mkQ (NK g K) (XK g K) g.Q) (Sd g B1 Lf) (l.count false) l.toArray a w:=by
 obtain⟨f1,f2⟩:=aYK hD.len hD.free ho hr
 rw [count_set hl]
 refine wpAnyH_take (v:=v) (by simpa using ho) f1 f2 (by simpa using (SW hD.len).2 ⟨hl,o,ho,hr⟩) (fun _ _ _ h=>h.elim) ?_ (hD.S hS) ?_
 ·rcases hy with ⟨h1,h2⟩ | ⟨h1,h2⟩
  ·exact .inl ⟨h1 _ a hA.env,fun w' hS'=>h2 w' hS' _ a hA.env⟩
  ·exact .inr ⟨h1 _ a hA.env,h2⟩
 ·rw [hdst]
  have:=k _ (hA.env.put (by simpa [mQ] using hdn) v)
  simpa using this
theorem X5.set{B1:Bl}{ops:Array Oper}{l:List Bool}{is:List Nat}{Lf L':List Ch}(h:X5 g B1 ops l is Lf L)(i:Nat)(hz:kl L' is=Lf/\∀j∈is,j < L'.length):X5 g B1 ops (l.set i true) is Lf L':=
 ⟨h.pre,by simpa using h.len,h.free,hz.1,hz.2,h.okf,h.ap⟩
theorem aUQ{L Ln:List Ch}:∀{is:List Nat},(∀j∈is,j < L.length)->kl (L++Ln) is=kl L is
 | [],_=>rfl
 | i :: is, h => by
  simp only [kl,IK (h i (by simp)),aUQ (fun j hj=>h j (nF _ hj))]
theorem X5.aC0{B1:Bl}{ops:Array Oper}{l:List Bool}{is:List Nat}{Lf:List Ch}(h:X5 g B1 ops l is Lf L)(Ln:List Ch):kl (L++Ln) is=Lf/\∀j∈is,j < (L++Ln).length:=
 ⟨by rw [aUQ h.rng];exact h.wR,fun j hj=>by have:=h.rng j hj;simp;omega⟩
theorem aYL{B1:Bl}{ops:Array Oper}{l:List Bool}{is:List Nat}{Lf Lv:List Ch}{i:Nat}{o:Oper}(ho:ops.toList[i]?=some o)(hl:l[i]?=some false)(hr:LK l o.after.toList=true)(hg:zT ops e o.guard=.yes)(hd:oY g.n o.dst=true):V3 g K m e L o Lv (.d B1 ops l is Lf Lv) (.d B1 ops (l.set i true) is Lf Lv):=by
 intro d x Ln nb k hdst hk hv hs hG hD a w ⟨B,hm,hA,hS,hV⟩
 rw [hdst] at hd
 obtain⟨v,h1,h2⟩:=hv _ a w hA (hV w (hD.S hS)) hm
 refine aNR (v:=v) hD ho hl hr hdst hd hA hS (.inl ⟨UX hg,fun w' hS'=>?_⟩) fun a' hA'=>?_
 ·obtain⟨v',h3,h4⟩:=hv _ a w' hA (hV w' hS') hm
  rw [h1] at h3;cases h3;exact h4
 ·refine hG (hD.set i (hD.aC0 Ln)) a' w ⟨B++nb g.c.w0,?_,?_,?_,fun w' hS'=>?_⟩
  ·rw [<-tN,rD,hm,hk]
  ·rw [<-tN];exact hA.ext h1 hA'
  ·rw [<-tN];exact hs _ w _ hm hS
  ·rw [<-tN];exact hs _ w' _ hm (hV w' hS')
theorem aKZ{l:List Bool}{i:Nat}:∀{os:List Oper} {j0:Nat},ZE l i os j0=true->∀j o,os[j]?=some o->l[j0+j]?=some false->(LK l o.after.toList=true↔j0+j=i)
 | [],_,_,j,o,h,_=>by simp at h
 | p :: os, j0, h, j, o, hj, hl => by
  simp only [ZE] at h
  cases j with
  | zero =>
   simp at hj;subst hj
   simp only [KB] at hl ⊢
   rw [hl] at h
   simp only at h
   cases hb:Nat.beq j0 i with
   | true =>
    rw [hb] at h;simp only at h
    split at h
    ·rename_i hr;simp [hr,jJ hb]
    ·cases h
   | false =>
    rw [hb] at h;simp only at h
    have hne:j0≠i:=fun h=>by rw [h] at hb;simp at hb
    split at h
    ·cases h
    ·rename_i hr;simp [hr,hne]
  | succ j =>
   have h':ZE l i os (j0+1)=true:=by
    split at h
    ·split at h
     ·split at h
      ·exact h
      ·cases h
     ·split at h
      ·cases h
      ·exact h
    ·exact h
    ·cases h
   have:=aKZ h' j o (by simpa using hj) (by rw [show j0+1+j=j0+(j+1) from by omega];exact hl)
   rw [this];omega
theorem aYM{B1:Bl}{ops:Array Oper}{l:List Bool}{is:List Nat}{Lf Lv:List Ch}{i:Nat}{o:Oper}(ho:ops.toList[i]?=some o)(hg:zT ops e o.guard=.yes):ZF g K m e L o (.o B1 ops l is Lf Lv i) (.d B1 ops (l.set i true) is Lf Lv):=by
 intro ι m' e' L' hz hrun hG hD a w hr
 have ⟨B,hm,hA,hS,hV⟩:=hr
 unfold wpOp
 have hoi:ops[i]?=some o:=by simpa using ho
 simp only [hoi,UX hg _ a hA.env,if_true]
 refine .inl (hrun B a w _ _ hm hA hS fun j a' w' h=>?_)
 have hD':=hD.set i (hz j hD)
 obtain⟨B',q1,q2,q3⟩:=h
 refine⟨?_,?_⟩
 ·refine hD'.S (B:=B++B') ?_
  rw [<-tN];exact q3
 ·have:=hG j hD' a' w' ⟨B++B',by rw [<-tN];exact q1,by rw [<-tN];exact q2,by rw [<-tN];exact q3,fun w2 h2=>by rw [<-tN];exact(hV w2 h2).app B'⟩
  simpa using this
theorem aYN{B1:Bl}{ops:Array Oper}{l:List Bool}{is:List Nat}{Lf Lv:List Ch}{i:Nat}{o:Oper}(ho:ops.toList[i]?=some o)(hg:zT ops e o.guard=.yes)(hd:oY g.n o.dst=true):V3 g K m e L o Lv (.o B1 ops l is Lf Lv i) (.d B1 ops (l.set i true) is Lf Lv):=by
 intro d x Ln nb k hdst hk hv hs hG hD a w ⟨B,hm,hA,hS,hV⟩
 rw [hdst] at hd
 obtain⟨v,h1,h2⟩:=hv _ a w hA (hV w (hD.S hS)) hm
 unfold wpOp
 have hoi:ops[i]?=some o:=by simpa using ho
 simp only [hoi,UX hg _ a hA.env,if_true]
 refine .inl ?_
 unfold Oper.wp
 rw [h2 _ a hA.env,Oper.upon_value,hdst]
 have hA':=hA.env.put (show d < g.n by simpa [oY,mQ] using hd) v
 refine⟨hD.S hS,hG (hD.set i (hD.aC0 Ln)) _ w ⟨B++nb g.c.w0,?_,?_,?_,fun w' hS'=>?_⟩⟩
 ·rw [<-tN,rD,hm,hk]
 ·rw [<-tN];exact hA.ext h1 hA'
 ·rw [<-tN];exact hs _ w _ hm hS
 ·rw [<-tN];exact hs _ w' _ hm (hV w' hS')
theorem aHO{l:List Bool}{j:Nat}:∀{os:List Oper} {j0:Nat} {o:Oper},os[j]?=some o->l[j0+j]?=some false->LK l o.after.toList=true->j0+j∈tR l os j0:=by
 intro os
 induction os generalizing j with
 | nil=>intro j0 o h;simp at h
 | cons p os ih =>
  intro j0 o h hl hr
  cases j with
  | zero =>
   simp at h;subst h
   simp only [KB] at hl ⊢
   simp [tR,hl,hr]
  | succ j =>
   have h2:=ih (j:=j) (j0:=j0+1) (o:=o) (by simpa using h) (by rw [show j0+1+j=j0+(j+1) by omega];exact hl) hr
   rw [show j0+1+j=j0+(j+1) by omega] at h2
   simp only [tR]
   split
   ·split
    ·exact nF _ h2
    ·exact h2
   ·exact h2
theorem a3M{B1:Bl}{ops:Array Oper}{l:List Bool}{is:List Nat}{Lf Lv:List Ch}(hex:∃i,i∈tR l ops.toList 0)(h:∀i∈tR l ops.toList 0,G g K m e L (.o B1 ops l is Lf Lv i))(hok:∀i∈tR l ops.toList 0,l[i]?=some false/\∃o,ops.toList[i]?=some o/\LK l o.after.toList=true):G g K m e L (.d B1 ops l is Lf Lv):=by
 intro hD a w hr
 obtain⟨i0,hi0⟩:=hex
 obtain⟨q1,q2⟩:=hok i0 hi0
 have hm:i0∈Region.ready .any ops l.toArray:=(SW hD.len).2 ⟨q1,q2⟩
 rw [count_set q1]
 refine⟨fun h=>(by rw [h] at hm;cases hm),fun j hj=>?_⟩
 obtain⟨h1,p,h2,h3⟩:=(SW hD.len).1 hj
 have h4:=aHO (j0:=0) h2 (by simpa using h1) h3
 rw [AM] at h4
 have h5:=h j h4 hD a w hr
 have h6:(l.set i0 true).count false=(l.set j true).count false:=by
  have:=count_set q1
  have:=count_set h1
  omega
 rw [h6]
 simpa using h5
theorem aC1{l:List Bool}{i:Nat}:∀{os:List Oper} {j0:Nat},i∈tR l os j0->l[i]?=some false/\∃j o,os[j]?=some o/\j0+j=i/\LK l o.after.toList=true:=by
 intro os
 induction os with
 | nil=>intro j0 h;cases h
 | cons p os ih =>
  intro j0 h
  have tail:i∈tR l os (j0+1)->l[i]?=some false/\∃j o,(p :: os)[j]?=some o/\j0+j=i/\LK l o.after.toList=true:=fun h=>by
   obtain⟨h1,j,o,h2,h3,h4⟩:=ih h
   exact⟨h1,j+1,o,by simpa using h2,by omega,h4⟩
  simp only [tR] at h
  split at h
  ·rename_i hl
   split at h
   ·rename_i hr
    rcases gW.1 h with h | h
    ·subst h;exact⟨hl,0,p,rfl,by omega,hr⟩
    ·exact tail h
   ·exact tail h
  ·exact tail h
theorem aUR{B1:Bl}{ops:Array Oper}{l:List Bool}{is:List Nat}{Lf Lv:List Ch}{i0:Nat}{r:List Nat}(hr:tR l ops.toList 0=i0 :: r)(h:∀i∈i0 :: r,G g K m e L (.o B1 ops l is Lf Lv i)):G g K m e L (.d B1 ops l is Lf Lv):=
 a3M ⟨i0,by rw [hr];simp⟩ (fun i hi=>h i (by rw [<-hr];exact hi)) fun i hi=>by
  obtain⟨h1,j,o,h2,h3,h4⟩:=aC1 hi
  rw [AM] at h3;subst h3
  exact⟨h1,o,h2,h4⟩
theorem aYO{l:List Bool}{i:Nat}{ops:Array Oper}(h:ZE l i ops.toList 0=true):∀j∈tR l ops.toList 0,j=i:=fun j hj=>by
 obtain⟨h1,k,o,h2,h3,h4⟩:=aC1 hj
 rw [AM] at h3;subst h3
 have:=(aKZ h k o h2 (by simpa using h1)).1 h4
 simpa using this
def PsG(g:Gx)(K:List Fr)(m:Nat)(L:List Ch)(B1:Bl)(ops:Array Oper)(is:List Nat)(Lf Lv:List Ch):Ps->Prop
 | .bad=>False
 | .ask _ l e=>G g K m e L (.d B1 ops l is Lf Lv)
 | .pur j o l e=>ops.toList[j]?=some o->l[j]?=some false->LK l o.after.toList=true->zT ops e o.guard=.yes->G g K m e L (.d B1 ops l is Lf Lv)
 | .fin l e _=>G g K m e L (.d B1 ops l is Lf Lv)
theorem SX{B1:Bl}{ops:Array Oper}{is:List Nat}{Lf Lv:List Ch}:∀(r:List Oper) (i:Nat) (l:List Bool) (e:SE) (q:List (Nat×Oper)),(∀j,r[j]?=ops.toList[i+j]?) ->
  PsG g K m L B1 ops is Lf Lv (pass g.T g.n ops Lv r i l e q)->G g K m e L (.d B1 ops l is Lf Lv)
 | [], i, l, e, q, hr, h => by
  unfold pass at h
  exact h
 | o :: r, i, l, e, q, hr, h => by
  have ho:ops.toList[i]?=some o:=by have:=hr 0;simpa using this.symm
  have hr':∀j,r[j]?=ops.toList[i+1+j]?:=fun j=>by
   have:=hr (j+1)
   rw [show i+1+j=i+(j+1) from by omega,<-this];simp
  unfold pass at h
  cases hl:l[i]? with
  | none=>simp only [hl] at h;exact h.elim
  | some b =>
   cases b with
   | true=>simp only [hl] at h;exact SX r (i+1) l e q hr' h
   | false =>
    cases hre:LK l o.after.toList with
    | false=>simp only [hl,hre] at h;exact SX r (i+1) l e q hr' h
    | true =>
     cases hgd:zT ops e o.guard with
     | bad=>simp only [hl,hre,hgd] at h;exact h.elim
     | ask c=>simp only [hl,hre,hgd] at h;exact h
     | no =>
      cases hd:o.dst with
      | none=>simp only [hl,hre,hgd,hd] at h;exact h.elim
      | some d =>
       cases hb:Nat.blt d g.n with
       | false=>simp only [hl,hre,hgd,hd,hb] at h;exact h.elim
       | true =>
        simp only [hl,hre,hgd,hd,hb] at h
        have ih:=SX r (i+1) _ _ q hr' h
        intro hD a w ⟨B,hm,hA,hS,hV⟩
        refine aNR (v:=undef) hD ho hl hre hd hb hA hS (.inr ⟨a0C hgd,rfl⟩) fun a' hA'=>?_
        exact ih (hD.set i ⟨hD.wR,hD.rng⟩) a' w ⟨B,hm,hA.of (x:=.u) rfl hA',hS,hV⟩
     | yes =>
      cases hv:ev1 g.T e Lv o.op with
      | some v =>
       cases hd:o.dst with
       | none=>simp only [hl,hre,hgd,hv,hd] at h;exact h.elim
       | some d =>
        cases hb:Nat.blt d g.n with
        | false=>simp only [hl,hre,hgd,hv,hd,hb] at h;exact h.elim
        | true =>
         simp only [hl,hre,hgd,hv,hd,hb] at h
         have ih:=SX r (i+1) _ _ q hr' h
         intro hD a w ⟨B,hm,hA,hS,hV⟩
         obtain⟨u,h1,h2⟩:=aIV g.hT hA (hV w (hD.S hS)) hv
         refine aNR (v:=u) hD ho hl hre hd hb hA hS (.inl ⟨UX hgd,fun w' hS'=>?_⟩) fun a' hA'=>?_
         ·obtain⟨u',h3,h4⟩:=aIV (w:=w') g.hT hA (hV w' hS') hv
          rw [h1] at h3;cases h3;exact h4
         ·exact ih (hD.set i ⟨hD.wR,hD.rng⟩) a' w ⟨B,hm,hA.of h1 hA',hS,hV⟩
      | none =>
       cases hp:aZ9 o.op with
       | true=>simp only [hl,hre,hgd,hv,hp] at h;exact h ho hl hre hgd
       | false =>
        simp only [hl,hre,hgd,hv,hp] at h
        exact SX r (i+1) l e ((i,o) :: q) hr' h
theorem aP6:∀{l:List Bool} {i:Nat},aYE l=true->l[i]?≠some false
 | [],i,_=>by simp
 | b :: l, i, h => by
  unfold aYE at h
  cases b with
  | false=>cases h
  | true =>
   cases i with
   | zero=>simp
   | succ i=>simpa using aP6 (l:=l) (i:=i) h
theorem aHP{k:Nat}:∀{L:List Ch},PH k L=true->∃i,(∀cs',wQ k cs' L=L.set i (.box k cs'))/\∀k0,aIP k L k0=k0+i
 | [],h=>by cases h
 | x :: L, h => by
  have ih:PH k L=true->(∀cs',wQ k cs' (x :: L)=x :: wQ k cs' L)->(∀k0,aIP k (x :: L) k0=aIP k L (k0+1))->∃i,(∀cs',wQ k cs' (x :: L)=(x :: L).set i (.box k cs'))/\∀k0,aIP k (x :: L) k0=k0+i:=fun h h2 h3=>by
   obtain⟨i,g1,g2⟩:=aHP h
   exact⟨i+1,fun cs'=>by rw [h2,g1];rfl,fun k0=>by rw [h3,g2];omega⟩
  cases x with
  | box j cs =>
   simp only [PH] at h
   split at h
   ·rename_i hb
    exact⟨0,fun cs'=>by simp only [wQ,hb];rw [jJ hb];rfl,fun k0=>by simp only [aIP,hb];rfl⟩
   ·rename_i hb
    exact ih h (fun cs'=>by simp only [wQ,hb]) (fun k0=>by simp only [aIP,hb])
  | ro j cs =>
   simp only [PH] at h
   split at h
   ·cases h
   ·exact ih h (fun _=>rfl) (fun _=>rfl)
  | o ch=>exact ih h (fun _=>rfl) (fun _=>rfl)
  | f g=>exact ih h (fun _=>rfl) (fun _=>rfl)
  | no=>exact ih h (fun _=>rfl) (fun _=>rfl)
  | w k b z=>exact ih h (fun _=>rfl) (fun _=>rfl)
theorem aC2{i:Nat}:∀{is:List Nat},fJ i is=true->i∉is
 | [],_=>by simp
 | j :: r, h => by
  unfold fJ at h
  cases hb:Nat.beq i j with
  | true=>rw [hb] at h;cases h
  | false =>
   rw [hb] at h
   have hne:i≠j:=fun e=>by rw [e] at hb;simp at hb
   simpa [hne] using aC2 h
theorem aUS{L:List Ch}{i:Nat}{x:Ch}:∀{is:List Nat},i∉is->kl (L.set i x) is=kl L is
 | [],_=>rfl
 | j :: is, h => by
  have hne:i≠j:=fun e=>h (by simp [e])
  simp only [kl,QZ hne,aUS (fun hj=>h (nF _ hj))]
theorem aNS{T:TT}{t:TypeId}{p v:SV}{L':List Ch}{x y:Operand}{is:List Nat}(h:UT T t p v L=some L')(hp:hU e x=some p)(hf:a1H e L is (.store t x y)=true)(hr:∀j∈is,j < L.length):kl L' is=kl L is/\∀j∈is,j < L'.length:=by
 unfold UT at h
 split at h
 ·rename_i k o
  split at h
  ·rename_i hb
   split at h
   ·split at h
    ·split at h
     case h_2=>cases h
     split at h
     case h_2=>cases h
     rename_i L2 hL2
     cases h
     have:=LL hL2
     subst this
     obtain⟨i,h1,h2⟩:=aHP hb
     simp only [a1H,hp,h2] at hf
     have:=aC2 hf
     rw [AM] at this
     rw [h1]
     exact⟨aUS this,by simpa using hr⟩
    ·cases h
   ·cases h
  ·cases h
 ·cases h
theorem aYP{a a':Act}{w':World}{B0 B:Bl}{d b:Nat}{cs:List SV}(hm:(B0++B).length=m)(hA:fV g.n (B0++B) e a)(hA':kW g.n ((d,.pointer (some ⟨b,0,none⟩)) :: vE (B0++B) e) a')(hS':kV g.c w' ((B0++B) ++ [(b,0)]) (L ++ [.box (B0++B).length cs])):nI g.n g.c (B0++B) (m+1) ((d,.p m 0) :: e) (L ++ [.box m cs]) a' w':=by
 refine⟨[(b,0)],by simp at hm ⊢;omega,?_,?_⟩
 ·exact hA.ext (nb:=[(b,0)]) (x:=.p m 0) (by simp [eC,gV,bI,<-hm]) hA'
 ·rw [<-hm];exact hS'
theorem vH{cf:tO}(Ln:List Ch):Frz g cf L (L++Ln):=by
 cases cf with
 | d B1 ops l is Lf Lv=>exact fun hD=>hD.aC0 Ln
 | o B1 ops l is Lf Lv i=>exact fun hD=>hD.aC0 Ln
 | _=>trivial
theorem aP7{T:TT}{op:Op}{v:SV}(h:eff T e L op=.val v):ev1 T e L op=some v:=by
 unfold eff at h
 split at h
 ·rename_i hv;cases h;exact hv
 ·repeat' (split at h)
  all_goals cases h
theorem aYQ{T:TT}{op:Op}{cs:List SV}(h:eff T e L op=.box cs):(∃t i,op=.alloc t/\AQ T t=some i/\cs=i.z)\/(∃t x v,op=.box t x/\hU e x=some v/\isCells v=true/\cs=nV v):=by
 unfold eff at h
 split at h
 ·cases h
 ·split at h
  ·split at h
   ·rename_i hl;cases h;exact .inl ⟨_,_,rfl,hl,rfl⟩
   ·cases h
  ·split at h
   ·rename_i hv
    split at h
    ·rename_i hc;cases h;exact .inr ⟨_,_,_,rfl,hv,hc,rfl⟩
    ·cases h
   ·cases h
  ·split at h
   ·split at h <;> cases h
   ·cases h
  ·cases h
theorem a1P{T:TT}{op:Op}{L':List Ch}(h:eff T e L op=.st L'):∃t x y p v,op=.store t x y/\hU e x=some p/\UT T t p v L=some L':=by
 unfold eff at h
 split at h
 ·cases h
 ·split at h
  ·split at h <;> cases h
  ·split at h
   ·split at h <;> cases h
   ·cases h
  ·split at h
   ·rename_i hx hy
    split at h
    ·rename_i hs;cases h;exact⟨_,_,_,_,_,rfl,hx,hs⟩
    ·cases h
   ·cases h
  ·cases h
theorem aYR{T:TT}{op:Op}{L':List Ch}(h:eff T e L op=.st L'):∃t x y p v,op=.store t x y/\hU e x=some p/\hU e y=some v/\UT T t p v L=some L':=by
 unfold eff at h
 split at h
 ·cases h
 ·split at h
  ·split at h <;> cases h
  ·split at h
   ·split at h <;> cases h
   ·cases h
  ·split at h
   ·rename_i hx hy
    split at h
    ·rename_i hs;cases h;exact⟨_,_,_,_,_,rfl,hx,hy,hs⟩
    ·cases h
   ·cases h
  ·cases h
theorem aUT{o:Oper}{cf cf':tO}(hE:ZF g K m e L o cf cf') :
  (∀d cs,eff g.T e L o.op=.box cs->o.dst=some d->Nat.blt d g.n=true->Frz g cf L (L ++ [.box m cs])->G g K (m+1) ((d,.p m 0) :: e) (L ++ [.box m cs]) cf'->G g K m e L cf) /\
  (∀L',eff g.T e L o.op=.st L'->o.dst=none->Frz g cf L L'->G g K m e L' cf'->G g K m e L cf):=by
 refine⟨fun d cs hf hd hdn hz hG=>hE Unit (fun _=>m+1) (fun _=>(d,.p m 0) :: e) (fun _=>L ++ [.box m cs]) (fun _=>hz) (fun B a w next Q hm hA hS hnext=>?_) (fun _=>hG),fun L' hf hd hz hG=>hE Unit (fun _=>m) (fun _=>e) (fun _=>L') (fun _=>hz) (fun B a w next Q hm hA hS hnext=>?_) (fun _=>hG)⟩
 ·have fin:∀{u:Value} {w':World} {b:Nat},dM g.P o (vE (T0 g cf++B) e) w u w'->u=.pointer (some ⟨b,0,none⟩)->kV g.c w' ((T0 g cf++B) ++ [(b,0)]) (L ++ [.box (T0 g cf++B).length cs])->o.wp g.P a w next Q:=by
   intro u w' b hR hu hS'
   subst hu
   unfold Oper.wp
   rw [hR _ a hA.env,Oper.upon_value,hd]
   exact hnext () _ _ (aYP hm hA (hA.env.put (by simpa [mQ] using hdn) _) hS')
  rcases aYQ hf with ⟨t,i,ho,hl,rfl⟩ | ⟨t,x,v,ho,hv,hc,rfl⟩
  ·obtain⟨u,w',b,k1,k2,k3⟩:=aUO (E:=vE (T0 g cf++B) e) g.hT hS ho hl
   exact fin k1 k2 k3
  ·obtain⟨u,w',b,k1,k2,k3⟩:=a1O (P:=g.P) hA hS ho hv hc
   exact fin k1 k2 k3
 ·obtain⟨t,x,y,p,v,ho,hx,hy,hs⟩:=aYR hf
  obtain⟨w',k1,k2⟩:=aRM g.hT hA hS ho hx hy hs
  unfold Oper.wp
  rw [k1 _ a hA.env,Oper.upon_skip,hd]
  exact hnext () _ _ ⟨[],by simpa using hm,by rw [xG];exact⟨hA.d,hA.size,hA.get⟩,by simpa using k2⟩
theorem aUU{o:Oper}{Lv:List Ch}{cf cf':tO}(h:Gs g (aYD e o Lv cf cf' K m L o.op))(hd:oY g.n o.dst=true)(hP:V3 g K m e L o Lv cf cf')(hE:ZF g K m e L o cf cf'):G g K m e L cf:=by
 generalize hop:o.op=op at h
 unfold aYD at h
 split at h
 ·split at h
  ·exact h
  ·exact h.elim
 ·split at h
  ·rename_i h1 h2 h3
   exact h _ _ hop h3 h1 h2 hP
  ·exact h hd hP hE
 ·split at h
  ·rename_i h1 h2
   split at h
   ·rename_i hx
    exact h _ _ _ hop rfl h1 ⟨_,h2,rfl⟩ hx hd hE
   ·exact h _ _ _ hop rfl h1 ⟨_,h2,rfl⟩ hd hE
  ·exact h hd hP hE
 ·exact h hd hP hE
theorem aYS{o:Oper}{Lv:List Ch}{cf cf':tO}(h:Gs g (a1G e o Lv cf cf' K m L o.op))(hd:oY g.n o.dst=true)(hP:V3 g K m e L o Lv cf cf'):G g K m e L cf:=by
 generalize hop:o.op=op at h
 unfold a1G at h
 split at h
 ·split at h
  ·exact h
  ·exact h.elim
 ·split at h
  ·rename_i h1 h2 h3
   exact h _ _ hop h3 h1 h2 hP
  ·exact h hd hP
 ·exact h hd hP
theorem UY : ∀ (F : Nat) (K : List Fr) (c : tO) (m : Nat) (e : SE) (L : List Ch), Gs g (VX g.T g.n F K c m e L) -> G g K m e L c
 | 0,_,_,_,_,_,h=>h.elim
 | F + 1, K, .c x, m, e, L, h => by
  have ih:=UY F
  unfold VX at h
  cases x with
  | skip=>exact fun a w hr=>oJ (aP4 ih h a w hr)
  | seq x y=>exact fun a w hr=>bO (ih _ _ _ _ _ h a w hr)
  | block id b =>
   simp only at h
   split at h
   ·exact h
   ·exact fun a w hr=>kX (ih _ _ _ _ _ h a w hr)
  | exit id =>
   simp only at h
   refine fun a w hr=>KD (aUP ?_)
   cases hx:xit id K with
   | some K'=>rw [hx] at h;exact aP4 ih h a w hr
   | none=>rw [hx] at h;exact h a w hr
  | ret=>exact fun a w hr=>zR (h a w hr)
  | cond o x y =>
   simp only at h
   split at h
   ·rename_i c ho
    intro a w hr
    obtain⟨B,hm,hA,hS⟩:=hr
    obtain⟨v,h1,h2⟩:=dR hA ho
    cases h1
    cases c with
    | true=>exact a0T hA.env h2 rfl (ih _ _ _ _ _ h a w ⟨B,hm,hA,hS⟩)
    | false=>exact a3C hA.env h2 rfl (ih _ _ _ _ _ h a w ⟨B,hm,hA,hS⟩)
   ·rename_i c ho
    exact h ho
   ·exact h.elim
  | region id ops d =>
   cases d with
   | false=>exact fun a w hr=>aHH (ih _ _ _ _ _ h a w hr)
   | true=>exact h
  | _=>exact h.elim
 | F + 1, K, .n, m, e, L, h => by
  have ih:=UY F
  unfold VX at h
  exact fun a w hr=>aP4 ih h a w hr
 | F + 1, K, .r ops [], m, e, L, h => by
  have ih:=UY F
  unfold VX at h
  exact fun a w hr=>aP4 ih h a w hr
 | F + 1, K, .r ops (⟨dst, op, ty, ps, af, gd⟩ :: l), m, e, L, h => by
  have ih:=UY F
  unfold VX at h
  generalize hg:zT ops e gd=gv at h
  cases gv with
  | bad=>exact h.elim
  | ask c=>exact h
  | no =>
   simp only at h
   split at h
   ·rename_i d
    split at h
    ·rename_i hd
     intro a w ⟨B,hm,hA,hS⟩
     exact fH (a0C hg) rfl hd (fun a' hA'=>ih _ _ _ _ _ h a' w ⟨B,hm,hA.of (x:=.u) (v:=undef) rfl hA',hS⟩) a hA.env
    ·exact h.elim
   ·exact h.elim
  | yes =>
   simp only at h
   have hE:=aUT (g:=g) (K:=K) (m:=m) (e:=e) (L:=L) (o:=⟨dst,op,ty,ps,af,gd⟩) (cf:=.r ops (⟨dst,op,ty,ps,af,gd⟩ :: l)) (cf':=.r ops l) (aP5 hg)
   split at h
   ·rename_i d v hf
    split at h
    ·rename_i hd
     intro a w ⟨B,hm,hA,hS⟩
     obtain⟨u,h1,h2⟩:=aIV (o:=⟨_,op,ty,ps,af,gd⟩) g.hT hA hS (aP7 hf)
     exact eV h2 (UX hg) rfl hd (fun a' hA'=>ih _ _ _ _ _ h a' w ⟨B,hm,hA.of h1 hA',hS⟩) a hA.env
    ·exact h.elim
   ·rename_i d cs hf
    split at h
    ·rename_i hd
     exact hE.1 _ _ hf rfl hd trivial (ih _ _ _ _ _ h)
    ·exact h.elim
   ·rename_i L' hf
    exact hE.2 _ hf rfl trivial (ih _ _ _ _ _ h)
   ·split at h
    ·rename_i hd
     exact aUU h hd (aYJ hg hd) (aP5 hg)
    ·exact h.elim
   ·exact h.elim
 | F + 1, K, .d B1 ops l is Lf Lv, m, e, L, h => by
  have ih:=UY F
  unfold VX at h
  refine SX ops.toList 0 l e [] (fun j=>by simp) ?_
  generalize pass g.T g.n ops Lv ops.toList 0 l e []=ps at h
  cases ps with
  | bad=>exact h.elim
  | ask c l' e'=>exact h
  | pur i o l' e' =>
   intro h1 h2 h3 h4
   simp only at h
   split at h
   ·rename_i hd
    exact aYS h hd (aYL h1 h2 h3 h4 hd)
   ·exact h.elim
  | fin l' e' q =>
   cases q with
   | nil =>
    simp only at h
    split at h
    ·rename_i hall
     intro hD a w hr
     have hn:=ih _ _ _ _ _ h
     obtain⟨B2,hB2⟩:=hD.pre
     have hr':Rel g m e' L a w:=by
      obtain⟨B,hm,hA,hS,_⟩:=hr
      subst hB2
      exact⟨B2++B,by rw [<-tN];exact hm,by rw [<-tN];exact hA,by rw [<-tN];exact hS⟩
     have hempty:Region.ready .any ops l'.toArray=[]:=by
      refine List.eq_nil_iff_forall_not_mem.2 fun j hj=>?_
      exact aP6 hall ((SW hD.len).1 hj).1
     exact wpAnyH_done hempty (hn a w hr') _
    ·exact h.elim
   | cons p q =>
    cases q with
    | cons p' q=>exact h
    | nil =>
     obtain⟨i,o⟩:=p
     simp only at h
     split at h
     ·rename_i hon
      have ho:=ih _ _ _ _ _ h
      cases hra:tR l' ops.toList 0 with
      | cons j r =>
       refine aUR hra fun k hk=>?_
       rw [aYO hon k (by rw [hra];exact hk)]
       exact ho
      | nil =>
       refine absurd h ?_
       intro h
       unfold VX at h
       cases F with
       | zero=>exact h
       | succ F =>
        simp only at h
        split at h
        ·rename_i hi
         split at h
         ·rename_i h1 h2 h3
          have:=aHO (j0:=0) hi (by simpa using h2) h1
          rw [AM,hra] at this
          cases this
         ·exact h
        ·exact h
     ·exact h.elim
 | F + 1, K, .o B1 ops l is Lf Lv i, m, e, L, h => by
  have ih:=UY F
  unfold VX at h
  split at h
  ·rename_i dst op ty ps af gd ho
   split at h
   ·rename_i hre hli hg
    have hes:=aYM (g:=g) (K:=K) (m:=m) (e:=e) (L:=L) (B1:=B1) (ops:=ops) (l:=l) (is:=is) (Lf:=Lf) (Lv:=Lv) ho hg
    have hE:=aUT (g:=g) (K:=K) (m:=m) (e:=e) (L:=L) (o:=⟨dst,op,ty,ps,af,gd⟩) (cf:=.o B1 ops l is Lf Lv i) (cf':=.d B1 ops (l.set i true) is Lf Lv) hes
    split at h
    ·rename_i v d hf
     split at h
     ·rename_i hd
      have hG:=ih _ _ _ _ _ h
      have hv:=aP7 hf
      refine hes Unit (fun _=>m) (fun _=>(d,v) :: e) (fun _=>L) (fun _ hD=>⟨hD.wR,hD.rng⟩) (fun B a w next Q hm hA hS hnext=>?_) (fun _=>hG)
      obtain⟨u,h1,h2⟩:=aIV (o:=⟨some d,op,ty,ps,af,gd⟩) g.hT hA hS hv
      unfold Oper.wp
      rw [h2 _ a hA.env,Oper.upon_value]
      exact hnext () _ _ ⟨[],by simpa using hm,by simpa using hA.of h1 (hA.env.put (by simpa [mQ] using hd) u),by simpa using hS⟩
     ·exact h.elim
    ·rename_i d cs hf
     split at h
     ·rename_i hd
      exact hE.1 _ _ hf rfl hd (fun hD=>hD.aC0 _) (ih _ _ _ _ _ h)
     ·exact h.elim
    ·rename_i L' hf
     split at h
     ·rename_i hfz
      refine hE.2 _ hf rfl (fun hD=>?_) (ih _ _ _ _ _ h)
      obtain⟨t,x,y,p,v,hop,hx,hs⟩:=a1P hf
      subst hop
      have:=aNS hs hx hfz hD.rng
      exact⟨by rw [this.1];exact hD.wR,this.2⟩
     ·exact h.elim
    ·split at h
     ·rename_i hd
      exact aUU h hd (aYN ho hg hd) hes
     ·exact h.elim
    ·exact h.elim
   ·exact h.elim
  ·exact h.elim
theorem aBT:∀{e r:SE},aRI e=some r->r=e
 | [],r,h=>by cases h;rfl
 | (k, v) :: l, r, h => by
  simp only [aRI] at h
  split at h
  ·rename_i s hs;cases h;rw [aBT hs]
  ·cases h
theorem aBU:∀{e r:List Ch},aRJ e=some r->r=e
 | [],r,h=>by cases h;rfl
 | x :: l, r, h => by
  simp only [aRJ] at h
  split at h
  ·rename_i s hs
   have:=aBU hs
   subst this
   split at h
   ·split at h
    ·rename_i ds hds;cases h;rw [LL hds]
    ·cases h
   ·split at h
    ·rename_i ds hds;cases h;rw [LL hds]
    ·cases h
   ·cases h;rfl
  ·cases h
theorem fY{K:List Fr}{c:tO}{m:Nat}{e:SE}{L:List Ch}(h:Gs g (i7 g.T g.n K c m e L)):G g K m e L c:=by
 unfold i7 at h
 split at h
 ·rename_i e' L' he hL
  have h1:=aBT he
  have h2:=aBU hL
  subst h1;subst h2
  exact UY _ _ _ _ _ _ h
 ·exact h.elim
end
end Go.Gv
end
noncomputable section
namespace Go.Gv
noncomputable section
variable {P:Program} {N N':Act->World->Prop} {X X':Nat->Act->World->Prop} {T T':Act->World->Prop}
theorem Q5(h:LetsOut (mkQ N X T)):LetsOut (mkQ N' X' T'):=let ⟨_,_,h⟩:=h;h.elim
theorem aK0{o:Oper}{a:Act}{next next':Act->World->Prop}{r:Result Next}(hn:∀a w,next a w->next' a w)(h:o.upon P a next (mkQ N X T) r):o.upon P a next' (mkQ N' X' T') r:=by
 unfold Oper.upon at h ⊢
 split at h
 ·exact hn _ _ h
 ·exact hn _ _ h
 ·exact hn _ _ h
 ·refine Calls.mono h fun e w' he=>?_
  cases e with
  | returned v=>exact hn _ _ he
  | panicked c=>exact he.elim
  | outgrown=>exact Q5 he
 ·exact Rows.mono h fun u w'' he=>hn _ _ he
 ·exact h.elim
 ·exact h.elim
theorem UZ{ops:Array Oper}(hN:∀a w,N a w->N' a w):∀(l:List Oper) {a:Act} {w:World},wpList P ops (mkQ N X T) l a w->wpList P ops (mkQ N' X' T') l a w
 | [],a,w,h=>hN a w h
 | o :: l, a, w, h => by
  unfold wpList at h ⊢
  split
  ·rename_i hw
   rw [if_pos hw] at h
   rcases h with h | ⟨h1,h2⟩
   ·exact .inl (aK0 (fun _ _ h=>UZ hN l h) h)
   ·exact .inr ⟨h1,Q5 h2⟩
  ·rename_i hw
   rw [if_neg hw] at h
   exact UZ hN l h
theorem aK1{ops:Array Oper}{i:Nat}{k k':Act->World->Prop}{a:Act}{w:World}(hk:∀a w,k a w->k' a w)(h:wpOp P ops (mkQ N X T) i k a w):wpOp P ops (mkQ N' X' T') i k' a w:=by
 unfold wpOp at h ⊢
 split
 ·rename_i h0;rw [h0] at h;exact hk _ _ h
 ·rename_i o h0
  rw [h0] at h
  simp only at h
  split
  ·rename_i hw
   rw [if_pos hw] at h
   rcases h with h | ⟨h1,h2⟩
   ·exact .inl (aK0 hk h)
   ·exact .inr ⟨h1,Q5 h2⟩
  ·rename_i hw
   rw [if_neg hw] at h
   exact hk _ _ h
theorem U0{ops:Array Oper}{S:World->Prop}(hN:∀a w,N a w->N' a w):∀(fuel:Nat) {SK:Array Bool} {a:Act} {w:World},wpAnyH P .any ops (mkQ N X T) S fuel SK a w->wpAnyH P .any ops (mkQ N' X' T') S fuel SK a w
 | 0,_,a,w,h=>⟨h.1,hN a w h.2⟩
 | f+1,_,a,w,h=>⟨fun h0=>hN a w (h.1 h0),fun i hi=>aK1 (fun _ _ h=>⟨h.1,U0 hN f h.2⟩) (h.2 i hi)⟩
end
noncomputable section
variable {P:Program} {T:TT} {hT:D7 P T} {n:Nat} {c:Ctx} {B0:Bl} {N N1:Act->World->Prop} {X X1:Nat->Act->World->Prop} {Q:Act->World->Prop} {K K':List Fr} {m m':Nat} {e e':SE} {L L':List Ch} {cf cf':tO}
theorem aNT(Kb:List Fr)(hN:∀a w,N1 a w->NK (.mk P T hT n c B0 N X Q) Kb a w)(hX:∀i a w,X1 i a w->XK (.mk P T hT n c B0 N X Q) Kb i a w):∀(Ka:List Fr),(∀a w,NK (.mk P T hT n c B0 N1 X1 Q) Ka a w->NK (.mk P T hT n c B0 N X Q) (Ka++Kb) a w)/\(∀i a w,XK (.mk P T hT n c B0 N1 X1 Q) Ka i a w->XK (.mk P T hT n c B0 N X Q) (Ka++Kb) i a w)
 | []=>⟨hN,hX⟩
 | .s y :: Ka => by
  obtain⟨h1,h2⟩:=aNT Kb hN hX Ka
  exact⟨fun a w h=>CW.mono (show CW P y (NK _ Ka) (XK _ Ka) Q a w from h) h1 h2 (fun _ _ h=>h),h2⟩
 | .k id :: Ka => by
  obtain⟨h1,h2⟩:=aNT Kb hN hX Ka
  refine⟨h1,fun i a w h=>?_⟩
  simp only [XK,aCI,TW] at h ⊢
  split
  ·rename_i hi;rw [if_pos hi] at h;exact h1 a w h
  ·rename_i hi;rw [if_neg hi] at h;exact h2 i a w h
theorem a3N{Ka Kb:List Fr}(hN:∀a w,N1 a w->NK (.mk P T hT n c B0 N X Q) Kb a w)(hX:∀i a w,X1 i a w->XK (.mk P T hT n c B0 N X Q) Kb i a w)(h:G (.mk P T hT n c B0 N1 X1 Q) Ka m e L cf):G (.mk P T hT n c B0 N X Q) (Ka++Kb) m e L cf:=by
 obtain⟨h1,h2⟩:=aNT Kb hN hX Ka
 cases cf with
 | n=>exact fun a w hr=>h1 a w (h a w hr)
 | c x=>exact fun a w hr=>CW.mono (h a w hr) h1 h2 (fun _ _ h=>h)
 | r ops l=>exact fun a w hr=>UZ h1 l (h a w hr)
 | d B1 ops l is Lf Lv=>exact fun hD a w hr=>U0 h1 _ (h ⟨hD.pre,hD.len,hD.free,hD.wR,hD.rng,hD.okf,hD.ap⟩ a w hr)
 | o B1 ops l is Lf Lv i=>exact fun hD a w hr=>aK1 (fun _ _ h=>⟨h.1,U0 h1 _ h.2⟩) (h ⟨hD.pre,hD.len,hD.free,hD.wR,hD.rng,hD.okf,hD.ap⟩ a w hr)
theorem aBV{g:Gx}{s:Stop}(hs:TB s=some (K,cf,m,e,L))(h:G g K m e L cf):Gs g s:=by
 cases s <;> simp only [TB] at hs <;> cases hs
 ·exact fun _=>h
 ·exact h
 ·exact h
 ·exact fun _ _ _ _ _ _ _=>h
 ·exact fun _ _ _ _ _ _ _ _ _ _=>h
 ·exact fun _ _ _ _ _ _ _ _ _=>h
 ·exact fun _ _=>h
 ·exact fun _ _ _=>h
 ·exact h
 ·exact h
def JP(n:Nat)(c:Ctx)(B0:Bl){π υ:Type}(eq:π->Prop)(m:Nat)(ej:π->υ->SE)(Lj:π->υ->List Ch):Act->World->Prop:=fun a w=>∃p u,eq p/\nI n c B0 m (ej p u) (Lj p u) a w
theorem dD{B1:Bl}{ops:Array Oper}{l:List Bool}{is:List Nat}{Lf Lv:List Ch}{i j:Nat}(hs:TB (i7 T n K cf m e L)=some (K',.d B1 ops l is Lf Lv,m',e',L'))(hr:tR l ops.toList 0=[i,j])
  (k1:G (.mk P T hT n c B0 N X Q) K' m' e' L' (.o B1 ops l is Lf Lv i)) (k2:G (.mk P T hT n c B0 N X Q) K' m' e' L' (.o B1 ops l is Lf Lv j)):G (.mk P T hT n c B0 N X Q) K m e L cf:=
 fY (g:=.mk P T hT n c B0 N X Q) (aBV hs (aUR (g:=.mk P T hT n c B0 N X Q) hr fun k hk=>by
  rcases gW.1 hk with hk | hk
  ·subst hk;exact k1
  ·simp at hk;subst hk;exact k2))
theorem aFW{B1:Bl}{ops:Array Oper}{l:List Bool}{is:List Nat}{Lf Lv:List Ch}{i j p:Nat}(hs:TB (i7 T n K cf m e L)=some (K',.d B1 ops l is Lf Lv,m',e',L'))(hr:tR l ops.toList 0=[i,j,p])
  (k1:G (.mk P T hT n c B0 N X Q) K' m' e' L' (.o B1 ops l is Lf Lv i)) (k2:G (.mk P T hT n c B0 N X Q) K' m' e' L' (.o B1 ops l is Lf Lv j)) (k3:G (.mk P T hT n c B0 N X Q) K' m' e' L' (.o B1 ops l is Lf Lv p)):G (.mk P T hT n c B0 N X Q) K m e L cf:=
 fY (g := .mk P T hT n c B0 N X Q) (aBV hs (aUR (g := .mk P T hT n c B0 N X Q) hr fun k hk => by
  rcases gW.1 hk with hk | hk
  ·subst hk;exact k1
  ·simp at hk
   rcases hk with rfl | rfl
   ·exact k2
   ·exact k3))
theorem bd{α β:Type}{A:Option α}{f:α->Option β}{q:β}{C:Prop}(hF:A.bind f=some q)(k:∀x,A=some x->f x=some q->C):C:=by
 cases h:A with
 | none=>rw [h] at hF;cases hF
 | some x=>exact k x h (by rw [h] at hF;exact hF)
theorem nd{β:Type}{p:Prop}[Decidable p]{A:Option β}{q:β}{C:Prop}(hF:need p A=some q)(k:p->A=some q->C):C:=k (iU hF).1 (iU hF).2
theorem rb{α:Type}{A:Option α}{x:α}(h:A=some x):A.bind some=some x:=by rw [h];rfl
theorem rn{p:Prop}[Decidable p](h:p):need p (some ())=some ():=by simp [need,h]
theorem go(hs:TB (i7 T n K cf m e L)=some (K',cf',m',e',L'))(k:G (.mk P T hT n c B0 N X Q) K' m' e' L' cf'):G (.mk P T hT n c B0 N X Q) K m e L cf:=
 fY (g:=.mk P T hT n c B0 N X Q) (aBV hs k)
theorem cut{π υ:Type}(j mj:Nat)(eq:π->Prop)(ks:List Nat)(ej:π->υ->SE)(is:List Nat)(Lj:π->υ->List Ch)(hs:TB (i7 T n K cf m e L)=some (K',cf',m',e',L'))
  (k1:G (.mk P T hT n c B0 (JP n c B0 eq mj (fun p u=>ej p u++kp e' ks) (fun p u=>Lj p u++kl L' is)) (XK (.mk P T hT n c B0 N X Q) (K'.drop j)) Q) (K'.take j) m' e' L' cf')
  (k2:∀p u,eq p->G (.mk P T hT n c B0 N X Q) (K'.drop j) mj (ej p u++kp e' ks) (Lj p u++kl L' is) .n):G (.mk P T hT n c B0 N X Q) K m e L cf:=by
 refine go hs ?_
 rw [<-TY j K']
 refine a3N (fun a w ⟨p,u,h1,h2⟩=>?_) (fun _ _ _ h=>h) k1
 exact k2 p u h1 a w h2
theorem jn{π υ:Type}{eq:π->Prop}{mj:Nat}{ej:π->υ->SE}{Lj:π->υ->List Ch}{p:π}(u:υ)(is:List Nat)(hF:eq p)(hs:i7 T n K cf m e L=.fin m' e' L')(h:SR B0.length m' e' L' is mj (ej p u) (Lj p u)=some (ej p u,Lj p u)):G (.mk P T hT n c B0 (JP n c B0 eq mj ej Lj) X Q) K m e L cf:=
 fY (g:=.mk P T hT n c B0 _ X Q) (by
  rw [hs]
  exact fun a w hr=>⟨p,u,hF,nI.SR hr is h⟩)
theorem SY{b cb:Bool}{a:Act}{B:Bl}(hb:b=cb):∀(ss:List Nat),aR (A8 e) ss=some (ss.map fun _=>SV.b b)->fV n B e a->fV n B (ovr cb e ss) a:=by
 intro ss hs hA
 refine⟨hA.d,hA.size,?_⟩
 subst hb
 have key:∀k∈ss,A8 e k=some (.b b):=by
  induction ss with
  | nil=>intro k hk;cases hk
  | cons s ss ih =>
   simp only [aR,EZ] at hs
   split at hs
   ·cases hs
   ·rename_i h1
    split at hs
    ·cases hs
    ·rename_i h2
     cases hs
     intro k hk
     rcases gW.1 hk with hk | hk
     ·subst hk;exact h1
     ·exact ih h2 k hk
 clear hs
 induction ss with
 | nil=>exact hA.get
 | cons s ss ih =>
  intro k x hk
  simp only [ovr,A8] at hk
  cases hb:Nat.beq k s with
  | true =>
   rw [hb] at hk;cases hk
   rw [jJ hb]
   exact hA.get s (.b b) (key s (by simp))
  | false =>
   rw [hb] at hk
   exact ih (fun k hk=>key k (nF _ hk)) k x hk
theorem aBW{b cb:Bool}{a:Act}{w:World}(hb:b=cb)(ss:List Nat)(hs:aR (A8 e) ss=some (ss.map fun _=>SV.b b))(h:nI n c B0 m e L a w):nI n c B0 m (ovr cb e ss) L a w:=by
 obtain⟨B,h1,hA,hS⟩:=h
 exact⟨B,h1,SY hb ss hs hA,hS⟩
theorem aC3{e1:SE}(h:∀a B,fV n B e a->fV n B e1 a)(k:G (.mk P T hT n c B0 N X Q) K m e1 L cf):G (.mk P T hT n c B0 N X Q) K m e L cf:=by
 cases cf with
 | d B1 ops l is Lf Lv=>exact fun hD a w ⟨B,h1,h2,h3,h4⟩=>k hD a w ⟨B,h1,h a _ h2,h3,h4⟩
 | o B1 ops l is Lf Lv i=>exact fun hD a w ⟨B,h1,h2,h3,h4⟩=>k hD a w ⟨B,h1,h a _ h2,h3,h4⟩
 | _=>exact fun a w ⟨B,h1,h2,h3⟩=>k a w ⟨B,h1,h a _ h2,h3⟩
noncomputable section
variable {b:Bool} {α:Type} {A B':Option α} {q:Option α}
theorem cs{o:Operand}{x y:Code}(ss:List Nat)(hs:i7 T n K cf m e L=.cond o b x y K' m' e' L')(ho:aR (A8 e') ss=some (ss.map fun _=>SV.b b))(hF:(if b=true then A else B')=q)
  (k1:A=q->G (.mk P T hT n c B0 N X Q) K' m' (ovr true e' ss) L' (.c x)) (k2:B'=q->G (.mk P T hT n c B0 N X Q) K' m' (ovr false e' ss) L' (.c y)):G (.mk P T hT n c B0 N X Q) K m e L cf:=
 fY (g := .mk P T hT n c B0 N X Q) (by
  rw [hs]
  intro he a w hr
  have ⟨B,hm,hA,hS⟩:=hr
  obtain⟨v,h1,h2⟩:=dR hA he
  cases h1
  refine lF hA.env h2 (fun hc=>?_) (fun hc=>?_)
  ·rw [if_pos hc] at hF
   exact k1 hF a w (aBW hc ss ho hr)
  ·rw [if_neg (by rw [hc];simp)] at hF
   exact k2 hF a w (aBW hc ss ho hr))
theorem ca{cf':tO}(ss:List Nat)(hs:i7 T n K cf m e L=.case b cf' K' m' e' L')(ho:aR (A8 e') ss=some (ss.map fun _=>SV.b b))(hF:(if b=true then A else B')=q)
  (k1:A=q->G (.mk P T hT n c B0 N X Q) K' m' (ovr true e' ss) L' cf') (k2:B'=q->G (.mk P T hT n c B0 N X Q) K' m' (ovr false e' ss) L' cf'):G (.mk P T hT n c B0 N X Q) K m e L cf:=
 fY (g:=.mk P T hT n c B0 N X Q) (by
  rw [hs]
  cases b with
  | true=>exact aC3 (fun a B hA=>SY rfl ss ho hA) (k1 (by simpa using hF))
  | false=>exact aC3 (fun a B hA=>SY rfl ss ho hA) (k2 (by simpa using hF)))
end
def QS(P:Program)(fn:Func)(c:Ctx)(B0:Bl){ρ ex:Type}(sv:ρ->ex->SV)(Lf:ρ->ex->List Ch)(r:ρ):Act->World->Prop:=Fin P fn fun v w'=>∃y,eC B0 (sv r y)=some v/\kV c w' B0 (Lf r y)
theorem aP8{r:ResultVar}{x:SV}{B:Bl}{a:Act}{w:World}(hT:D7 P T)(hA:fV n B e a)(hS:kV c w B L)(h:aUA T e L r=some x):∃v,eC B x=some v/\(Q4 a.tmps r).run P w=.ok v w:=by
 cases r with
 | tmp t =>
  obtain⟨v,h1,h2⟩:=hA.get t x h
  exact⟨v,h1,by simp [Q4,h2]⟩
 | cell t ty =>
  simp only [aUA] at h
  split at h
  ·rename_i p hp
   obtain⟨v,h1,h2⟩:=hA.get t p hp
   unfold aKV at h
   split at h
   ·rename_i n0 o0
    split at h
    ·rename_i cs _ mm _ hb hl
     split at h
     ·rename_i hle
      split at h
      case h_2=>cases h
      rename_i ds hds
      cases h
      have:=LL hds
      subst this
      obtain⟨b,z,vs,g1,g2,g3⟩:=hS.cells hb
      have hlen:=j3 g2
      have hle:=tQ hle
      simp only [eC,gV,bI,g1] at h1
      cases h1
      have h4:=M5 mm (M4 o0 g2)
      have h5:=V1 g3 (o:=o0) (m:=mm) (by omega)
      have h6:=oX h5 P
      have h7:((vs.drop o0).take mm).length=mm:=by simp;omega
      rw [h7] at h6
      refine⟨.agg ((vs.drop o0).take mm).toArray,by simp only [eC,gV,h4],?_⟩
      simp [Q4,h2,asAddr,loadVar,hT.agg _ _ hl,hT.size _ _ hl,h6]
     ·cases h
    ·rename_i cs _ _ _ hb hl
     obtain⟨b,z,vs,g1,g2,g3⟩:=hS.cells hb
     simp only [eC,gV,bI,g1] at h1
     cases h1
     obtain⟨u,h4,h5⟩:=M3 g2 h
     refine⟨u,aPT h4,?_⟩
     have h6:=g3 o0 u h5
     simp [Q4,h2,asAddr,loadVar,hT.agg _ _ hl,load,Sem.run,h6]
    ·cases h
   ·cases h
  ·cases h
end
end Go.Gv
end
noncomputable section
namespace Go.Gv
noncomputable section
variable {P:Program} {T:TT} {hT:D7 P T} {n:Nat} {c:Ctx} {B0:Bl} {N:Act->World->Prop} {X:Nat->Act->World->Prop} {Q:Act->World->Prop} {K K':List Fr} {m m':Nat} {e e':SE} {L L':List Ch} {cf:tO}
theorem aYT{B:Bl}{x:SV}{v:Value}(h:eC B x=some v)(hc:isCells x=true):gV B x=some v:=by
 cases x <;> first | exact h | cases hc
theorem V4{r:ResultVar}{x:SV}{B:Bl}{a:Act}{w:World}(hT:D7 P T)(hA:fV n B e a)(hS:kV c w B L)(h:aNP T e L r=some x):∃v,gV B x=some v/\(Q4 a.tmps r).run P w=.ok v w:=by
 unfold aNP at h
 split at h
 ·rename_i hv
  split at h
  ·rename_i hc
   cases h
   obtain⟨v,h1,h2⟩:=aP8 hT hA hS hv
   exact⟨v,aYT h1 hc,h2⟩
  ·cases h
 ·cases h
theorem aBX{rs:List ResultVar}{x:SV}{B:Bl}{a:Act}{w:World}{fn:Func}(hf:fn.results=rs.toArray)(hT:D7 P T)(hA:fV n B e a)(hS:kV c w B L)(h:aIR T e L rs=some x):∃v,eC B x=some v/\(results fn a.tmps).run P w=.ok v w:=by
 rw [aCN hf]
 unfold aIR at h
 split at h
 ·cases h;exact⟨.tuple #[],rfl,by simp⟩
 ·obtain⟨v,h1,h2⟩:=aP8 hT hA hS h
  exact⟨v,h1,by simp [h2]⟩
 ·split at h
  ·rename_i g1 g2
   cases h
   obtain⟨v1,h1,k1⟩:=V4 hT hA hS g1
   obtain⟨v2,h2,k2⟩:=V4 hT hA hS g2
   exact⟨.tuple #[v1,v2],by simp [eC,aR,h1,h2],by simp [k1,k2]⟩
  ·cases h
 ·split at h
  ·rename_i g1 g2 g3
   cases h
   obtain⟨v1,h1,k1⟩:=V4 hT hA hS g1
   obtain⟨v2,h2,k2⟩:=V4 hT hA hS g2
   obtain⟨v3,h3,k3⟩:=V4 hT hA hS g3
   exact⟨.tuple #[v1,v2,v3],by simp [eC,aR,h1,h2,h3],by simp [k1,k2,k3]⟩
  ·cases h
 ·cases h
structure FnS (P:Program) (f:FuncId) (c:Ctx) (xs:List SV) (B0:Bl) (L0:List Ch) {ρ ex:Type} (sv:ρ->ex->SV) (Lf:ρ->ex->List Ch) (r:ρ):Prop where
 call:∀args w,(callFunc f args).run P w=.ok (.enter f args) w
 run:∀vs,aR (eC B0) xs=some vs->kV c c.w0 B0 L0->Calls P f vs.toArray c.w0 (Ret fun v w'=>∃y,eC B0 (sv r y)=some v/\kV c w' B0 (Lf r y))
abbrev Fn0(P:Program)(f:FuncId)(c:Ctx)(xs:List SV){ρ:Type}(sv:ρ->SV)(r:ρ):Prop:=FnS P f c xs [] [] (fun r (_:Unit)=>sv r) (fun _ _=>[]) r
def aHQ:Nat->List SV->SE
 | _,[]=>[]
 | k,v :: r=>(k,v) :: aHQ (k+1) r
theorem aHR{B:Bl}:∀{xs:List SV} {vs:List Value} (k:Nat) {j:Nat} {x:SV},aR (eC B) xs=some vs->A8 (aHQ k xs) j=some x->∃v,eC B x=some v/\lk (aIK k vs) j=some v
 | [],vs,k,j,x,h,hj=>by simp [aHQ,A8] at hj
 | y :: xs, vs, k, j, x, h, hj => by
  simp only [aR] at h
  split at h
  ·cases h
  ·rename_i h1
   split at h
   ·cases h
   ·rename_i h2
    cases h
    simp only [aHQ,A8] at hj
    simp only [aIK,lk]
    cases hb:Nat.beq j k with
    | true=>rw [hb] at hj;cases hj;exact⟨_,h1,rfl⟩
    | false=>rw [hb] at hj;exact aHR (k+1) h2 hj
theorem en{f:FuncId}{fn:Func}{cd:Code}{xs:List SV}{L0:List Ch}{ρ ex:Type}{sv:ρ->ex->SV}{Lf:ρ->ex->List Ch}{r:ρ}(n:Nat)(hc:∀args w,(callFunc f args).run P w=.ok (.enter f args) w)(hf:P.funcs[f]?=some fn)(hT:D7 P T)(hb:fn.body=some cd)(hm:fn.ntmps=n)(hl:Nat.ble xs.length n=true)
  (k:G (.mk P T hT n c B0 (QS P fn c B0 sv Lf r) (fun _ _ _=>False) (QS P fn c B0 sv Lf r)) [] B0.length (aHQ 0 xs) L0 (.c cd)):FnS P f c xs B0 L0 sv Lf r:=by
 refine⟨hc,fun vs hv hS=>AO hf hb hm ?_ fun a hA=>?_⟩
 ·rw [j3 hv];exact hl
 ·refine CW.mono (k a c.w0 ⟨[],by simp,⟨hA.d,hA.size,fun j x hj=>?_⟩,by simpa using hS⟩) (fun _ _ h=>h) (fun _ _ _ h=>h) (fun _ _ h=>h)
  obtain⟨v,h1,h2⟩:=aHR 0 hv hj
  exact⟨v,by simpa using h1,hA.get j v h2⟩
theorem aRN(w:World):kV (bZ w) w [] []:=⟨⟨[],St.enter (by simp),by simp⟩,fun _ _ h=>h⟩
theorem rt{fn:Func}{ρ ex:Type}{sv:ρ->ex->SV}{Lf:ρ->ex->List Ch}{r r':ρ}{rs:List ResultVar}{zz:Option ρ}(y:ex)(is:List Nat)(hF:zz=some r)(hz:zz=some r')(hs:i7 T n K cf m e L=.ret m' e' L')(hr:fn.results=rs.toArray){x:SV}(hv:aIR T e' L' rs=some x)(hx:nbS x=sv r' y)(hk:vG B0.length (sv r' y)=true)(hL:SR B0.length m' e' L' is B0.length [] (Lf r' y)=some ([],Lf r' y)):G (.mk P T hT n c B0 N X (QS P fn c B0 sv Lf r)) K m e L cf:=by
 subst hz;cases hF
 refine fY (g:=.mk P T hT n c B0 N X _) ?_
 rw [hs]
 intro a w hr'
 obtain⟨B,hm,hA,hS⟩:=id hr'
 obtain⟨v,h1,h2⟩:=aBX hr hT hA hS hv
 obtain⟨B',hm',_,hS'⟩:=hr'.SR is hL
 have hB':B'=[]:=(by simpa using hm')
 subst hB'
 refine⟨hA.d,v,h2,y,?_,by simpa using hS'⟩
 rw [<-hx] at hk ⊢
 have:=N8 hk (by rw [aBR];exact h1)
 rw [ZB (jA _),Q0] at this
 exact this
theorem rf{fn:Func}{ρ ex:Type}{sv:ρ->ex->SV}{Lf:ρ->ex->List Ch}{r r':ρ}{rs:List ResultVar}{zz:Option ρ}(y:ex)(is:List Nat)(hF:zz=some r)(hz:zz=some r')(hs:i7 T n K cf m e L=.fin m' e' L')(hr:fn.results=rs.toArray){x:SV}(hv:aIR T e' L' rs=some x)(hx:nbS x=sv r' y)(hk:vG B0.length (sv r' y)=true)(hL:SR B0.length m' e' L' is B0.length [] (Lf r' y)=some ([],Lf r' y)):G (.mk P T hT n c B0 (QS P fn c B0 sv Lf r) X Q) K m e L cf:=by
 subst hz;cases hF
 refine fY (g:=.mk P T hT n c B0 _ X Q) ?_
 rw [hs]
 intro a w hr'
 obtain⟨B,hm,hA,hS⟩:=id hr'
 obtain⟨v,h1,h2⟩:=aBX hr hT hA hS hv
 obtain⟨B',hm',_,hS'⟩:=hr'.SR is hL
 have hB':B'=[]:=(by simpa using hm')
 subst hB'
 refine⟨hA.d,v,h2,y,?_,by simpa using hS'⟩
 rw [<-hx] at hk ⊢
 have:=N8 hk (by rw [aBR];exact h1)
 rw [ZB (jA _),Q0] at this
 exact this
def bY(c:Ctx){α:Type}[aD α](s:AC)(d:List α):Prop:=aD.rd c.S0 c.w0 [s.v d.length] d
structure HS (c:Ctx) (w:World) (L:List Ch):Prop where
 ex:∃B,kV c w B L
abbrev ow{α:Type}[aD α](s:AC)(d:List α):Ch:=.o (aZ [s.v d.length] d)
abbrev fr{α:Type}[aD α](s:AC)(d:List α):Ch:=.f (zQ [s.v d.length] d)
theorem aIZ{w:World}{B:Bl}(hS:kV c w B L){f:Fact}(h:f.P c.S0 c.w0):f.P c.S0 w:=by
 obtain⟨⟨R,s1,_⟩,s0⟩:=hS
 exact f.agree h fun b o hb=>s1.keep.cell b o (s0 b o hb) fun hw=>s1.apart b o hw hb
theorem aUW{w:World}{B:Bl}(hS:kV c w B L):∀b o,c.S0 b o->MT w b o:=fun b o hb=>by
 obtain⟨⟨R,s1,_⟩,s0⟩:=hS
 exact MS (s0 b o hb) s1.keep.size
theorem HS.a{w:World}{α:Type}[aD α]{s:AC}{d:List α}(h:HS c w L)(hr:bY c s d):bY (bZ w) s d:=by
 obtain⟨B,hS⟩:=h.ex
 have h1:(zQ [s.v d.length] d).P c.S0 w:=aIZ hS (f:=zQ [s.v d.length] d) hr
 exact aD.rd_mono h1 (aUW hS)
theorem HS.o{w:World}{α:Type}[aD α]{s:AC}{d:List α}(h:HS c w L)(i:Nat)(hi:L[i]?=some (ow s d)):bY (bZ w) s d:=by
 obtain⟨B,⟨⟨R,s1,_⟩,_⟩⟩:=h.ex
 exact s1.aPH i (by rw [DJ,hi];rfl)
theorem HS.f{w:World}{α:Type}[aD α]{s:AC}{d:List α}(h:HS c w L)(i:Nat)(hi:L[i]?=some (fr s d)):bY (bZ w) s d:=by
 obtain⟨B,⟨⟨R,s1,s2⟩,_⟩⟩:=h.ex
 obtain⟨j,hj⟩:=aCD (s2 _ (tP hi))
 exact s1.rd j hj
theorem V5{B:Bl}:∀{xs:List SV} {vs:List Value},okA xs=true->aR (eC B) xs=some vs->aR (eC []) xs=some vs
 | [],vs,_,h=>h
 | x :: xs, vs, ho, h => by
  simp only [okA] at ho
  split at ho
  ·rename_i h0
   simp only [aR] at h
   split at h
   ·cases h
   ·rename_i h1
    split at h
    ·cases h
    ·rename_i h2
     cases h
     have h3:=N8 h0 h1
     rw [VT] at h3
     simp [aR,h3,V5 ho h2]
  ·cases ho
theorem T1{B:Bl}{a:Act}(hA:fV n B e a):∀{os:List Operand} {xs:List SV},aR (hU e) os=some xs->∃vs,aR (eC B) xs=some vs/\evs (vE B e) os=some vs
 | [],xs,h=>by cases h;exact⟨[],rfl,rfl⟩
 | o :: os, xs, h => by
  simp only [aR] at h
  split at h
  ·cases h
  ·rename_i h1
   split at h
   ·cases h
   ·rename_i h2
    cases h
    obtain⟨v,k1,k2⟩:=dR hA h1
    obtain⟨vs,k3,k4⟩:=T1 hA h2
    exact⟨v :: vs,by simp [aR,k1,k3],by simp [evs,k2,k4]⟩
def noF:List Ch->Bool
 | []=>true
 | .ro _ _ :: _=>false
 | .f _ :: _=>false
 | .w _ _ _ :: _=>false
 | _ :: L=>noF L
theorem aI0{B:Bl}{R:List Fact}:∀{L:List Ch},noF L=true->∀x∈L,roF B R x
 | [],_,x,hx=>by cases hx
 | y :: L, h, x, hx => by
  rcases gW.1 hx with hx' | hx'
  ·subst hx'
   cases x <;> first | trivial | cases h
  ·cases y with
   | ro=>cases h
   | f=>cases h
   | w=>cases h
   | _=>exact aI0 (L:=L) h x hx'
theorem kV.after{w w':World}{B:Bl}{L2:List Ch}(h:kV c w B L)(hn:noF L2=true)(k:kV (bZ w) w' [] L2):kV c w' B (L++L2):=by
 obtain⟨⟨R,s1,s2⟩,s0⟩:=h
 obtain⟨⟨R',t1,t2⟩,t0⟩:=k
 refine⟨⟨R,?_,fun x hx=>?_⟩,s0⟩
 ·rw [wI]
  have h1:=s1.after t1
  refine h1.imp (iV.append (iV.refl _) ?_)
  have:=SS (B:=[]) B (w:=w') L2
  simpa using this
 ·rcases gC.1 hx with hx | hx
  ·exact s2 x hx
  ·exact aI0 hn x hx
theorem kV.aUX{w w':World}{B:Bl}(h:kV c w B L)(k:dL F0 w w'):kV c w' B L:=by
 obtain⟨⟨R,s1,s2⟩,s0⟩:=h
 exact⟨⟨R,s1.same k,s2⟩,s0⟩
theorem M7{o:Oper}{f:FuncId}{x:Operand}{args:Array Operand}{ts:Array TypeId}{vs:List Value}{E:Env}{w:World}(hcall:∀args w,(callFunc f args).run P w=.ok (.enter f args) w)(ho:o.op=.call {callee:=.value x,args:=args,argTypes:=ts})(hx:ev E x=some (.func (.func f) #[] #[]))(hv:evs E args.toList=some vs):aS3 P o E w f vs.toArray:=by
 have:=aKP (w:=w) (cap:=[]) (xs:=args.toList) (vs:=vs) hcall (by simpa using ho) hx hv
 simpa using this
theorem cl{α β ex:Type}{fo:Option α}{kf:α->Option β}{q:β}{o:Oper}{d:Nat}{f:FuncId}{xs:List SV}{cf1 cf2:tO}{sv:α->ex->SV}{Lf:α->ex->List Ch}(hs:i7 T n K cf m e L=.call o (some d) f xs cf1 cf2 K' m' e' L')(hn:∀x y,noF (Lf x y)=true)
  (hc:∀{w},HS c w L'->∀{x},fo=some x->FnS P f (bZ w) xs [] [] sv Lf x) (hF:fo.bind kf=some q)
  (k:∀x,fo=some x->kf x=some q->∀y:ex,G (.mk P T hT n c B0 N X Q) K' m' ((d,sv x y) :: e') (L'++Lf x y) cf2):G (.mk P T hT n c B0 N X Q) K m e L cf:=by
 refine fY (g:=.mk P T hT n c B0 N X Q) ?_
 rw [hs]
 intro fo' args ats ho hd hf ⟨ys,hys,hxs⟩ hA0 hdn hE
 subst hxs
 cases hfo:fo with
 | none=>rw [hfo] at hF;cases hF
 | some x =>
  rw [hfo] at hF
  refine hE ex (fun _=>m') (fun y=>(d,sv x y) :: e') (fun y=>L'++Lf x y) (fun y=>vH _) (fun B a w next Q' hm hA hS hnext=>?_) (k x hfo hF)
  obtain⟨hcall,hrun⟩:=hc ⟨_,hS⟩ hfo
  obtain⟨vs,h1,h2⟩:=T1 hA hys
  obtain⟨v,h3,h4⟩:=dR hA hf
  simp [eC,aR] at h3
  subst h3
  have h5:=hrun vs (V5 hA0 (by rw [KH];exact h1)) (aRN w)
  have h6:=M7 (w:=w) hcall ho h4 h2
  unfold Oper.wp
  rw [h6 _ a hA.env,Oper.upon_enter]
  refine Calls.mono h5 fun en w' ⟨v,hv,y,g1,g2⟩=>?_
  subst hv
  rw [hd]
  have g3:=sW (T0 (.mk P T hT n c B0 N X Q) cf1++B) g1
  exact hnext y _ _ ⟨[],by simpa using hm,by simpa using hA.of (by simpa using g3) (hA.env.put (by simpa [oY,mQ] using hdn) v),by simpa using hS.after (hn x y) g2⟩
end
end Go.Gv
end
noncomputable section
namespace Go.Gv
noncomputable section
variable {P:Program} {T:TT} {hT:D7 P T} {n:Nat} {c:Ctx} {B0:Bl} {N:Act->World->Prop} {X:Nat->Act->World->Prop} {Q:Act->World->Prop} {K K':List Fr} {m m':Nat} {e e':SE} {L L':List Ch} {cf:tO}
def NxP(n:Nat)(c:Ctx)(B0:Bl){σ ρ υ:Type}(o:Step σ ρ)(m:Nat)(el:σ->υ->SE)(Ll:σ->υ->List Ch):Act->World->Prop:=fun a w=>∃s u,o=.next s/\nI n c B0 m (el s u) (Ll s u) a w
def BkP(n:Nat)(c:Ctx)(B0:Bl){β ρ υ:Type}(ro:ρ)(enc:β->ρ)(m:Nat)(ej:β->υ->SE)(Lj:β->υ->List Ch)(id:Nat)(X:Nat->Act->World->Prop):Nat->Act->World->Prop:=fun i a w=>if i=id then ∃b u,ro=enc b/\nI n c B0 m (ej b u) (Lj b u) a w else X i a w
theorem lp{σ ρ υ β ω α:Type}{id:Nat}{y:Code}{fb:σ->Option (Step σ ρ)}{s0:σ}{gk:ρ->Option α}{q:α}(u0:υ)(ks:List Nat)(el:σ->υ->SE)(is0 is:List Nat)(Ll:σ->υ->List Ch)(enc:β->ρ)(kb:List Nat)(ej:β->ω->SE)(ib:List Nat)(Lj:β->ω->List Ch)
  (hs:i7 T n K cf m e L=.loop id y K' m' e' L') (hF:(loop fb s0).bind gk=some q)
  (h0:SR B0.length m' e' L' is0 m' (el s0 u0++kp e' ks) (Ll s0 u0++kl L' is)=some (el s0 u0++kp e' ks,Ll s0 u0++kl L' is))
  (k1:∀ro,gk ro=some q->∀s u o,fb s=some o->(∀p,o=.stop p->p=ro)->G (.mk P T hT n c B0 (NxP n c B0 o m' (fun s u=>el s u++kp e' ks) (fun s u=>Ll s u++kl L' is)) (BkP n c B0 ro enc m' (fun b u=>ej b u++kp e' kb) (fun b u=>Lj b u++kl L' ib) id (XK (.mk P T hT n c B0 N X Q) K')) Q) [] m' (el s u++kp e' ks) (Ll s u++kl L' is) (.c y))
  (k2:∀b u,gk (enc b)=some q->G (.mk P T hT n c B0 N X Q) K' m' (ej b u++kp e' kb) (Lj b u++kl L' ib) .n):G (.mk P T hT n c B0 N X Q) K m e L cf:=by
 refine fY (g:=.mk P T hT n c B0 N X Q) ?_
 rw [hs]
 intro a w hr
 cases hl:loop fb s0 with
 | none=>rw [hl] at hF;cases hF
 | some ro =>
  rw [hl] at hF
  have hF:gk ro=some q:=hF
  refine kX (KE (body:=fb) (r:=ro) (fun s a w=>∃u,nI n c B0 m' (el s u++kp e' ks) (Ll s u++kl L' is) a w) ?_ hl ⟨u0,hr.SR is0 h0⟩)
  intro s a w o ⟨u,hI⟩ hb ho
  refine CW.mono (k1 ro hF s u o hb ho a w hI) ?_ ?_ (fun _ _ h=>h)
  ·rintro a w ⟨s',u',h1,h2⟩
   exact⟨s',h1,u',h2⟩
  ·intro i a w h
   simp only [XK,BkP,aCI] at h ⊢
   split
   ·rename_i hi
    rw [if_pos hi] at h
    obtain⟨b,u,h1,h2⟩:=h
    exact k2 b u (h1 ▸ hF) a w h2
   ·rename_i hi
    rw [if_neg hi] at h
    exact h
theorem nx{σ ρ υ:Type}{o:Step σ ρ}{mj:Nat}{el:σ->υ->SE}{Ll:σ->υ->List Ch}{s:σ}(u:υ)(is:List Nat)(hG:some (Step.next s)=some o)(hs:i7 T n K cf m e L=.fin m' e' L')(h:SR B0.length m' e' L' is mj (el s u) (Ll s u)=some (el s u,Ll s u)):G (.mk P T hT n c B0 (NxP n c B0 o mj el Ll) X Q) K m e L cf:=
 fY (g:=.mk P T hT n c B0 _ X Q) (by
  rw [hs]
  cases hG
  exact fun a w hr=>⟨s,u,rfl,hr.SR is h⟩)
theorem bk{σ ρ β υ:Type}{o:Step σ ρ}{ro:ρ}{enc:β->ρ}{mj id:Nat}{ej:β->υ->SE}{Lj:β->υ->List Ch}{b:β}(u:υ)(is:List Nat)(hG:some (Step.stop (enc b))=some o)(hr:∀p,o=.stop p->p=ro)(hs:i7 T n K cf m e L=.ex id m' e' L')(h:SR B0.length m' e' L' is mj (ej b u) (Lj b u)=some (ej b u,Lj b u)):G (.mk P T hT n c B0 N (BkP n c B0 ro enc mj ej Lj id X) Q) K m e L cf:=
 fY (g:=.mk P T hT n c B0 N _ Q) (by
  rw [hs]
  cases hG
  have:=hr _ rfl
  subst this
  intro a w hr
  show BkP n c B0 (enc b) enc mj ej Lj id X id a w
  unfold BkP
  rw [if_pos rfl]
  exact⟨b,u,rfl,hr.SR is h⟩)
theorem re{σ ρ α:Type}{o:Step σ ρ}{p ro:ρ}{F:ρ->Option α}{q:Option α}{zz:Option (Step σ ρ)}(hG:zz=some o)(hz:zz=some (Step.stop p))(hr:∀p,o=.stop p->p=ro)(hF:F ro=q):F p=q:=by
 subst hz;cases hG
 rw [hr _ rfl];exact hF
structure E2 (α:Type) [aD α] where
 ex:Type
 cs:α->ex->List SV
 sub:cB->World->α->ex->Prop
 ok:∀{S w ec x},aD.rd S w ec x->∃y,aR (bI []) (cs x y)=some ec/\sub S w x y
 sv:α->ex->SV
 a5L:∀{S S' w w' x y},sub S w x y->(∀b o,S b o->w'.cell? ⟨b,o,none⟩=w.cell? ⟨b,o,none⟩)->(∀b o,S b o->S' b o)->sub S' w' x y
def cI:E2 Int:=⟨Unit,fun x _=>[.i .i64 x],fun _ _ _ _=>True,fun h=>⟨(),by cases h;rfl,trivial⟩,fun x _=>.i .i64 x,fun _ _ _=>trivial⟩
def cU:E2 UInt8:=⟨Unit,fun x _=>[.y x],fun _ _ _ _=>True,fun h=>⟨(),by cases h;rfl,trivial⟩,fun x _=>.y x,fun _ _ _=>trivial⟩
theorem KI{α:Type}[aD α]{S:cB}{w:World}{ec:List Value}{l:List α}(h:aD.rd S w ec l):∃s:AC,ec=[s.v l.length]:=by
 obtain⟨ad,m,h1,_⟩:=(show sU S w ec l from h)
 exact⟨⟨ad,m⟩,h1⟩
theorem St.a3O{w:World}{M:List Chunk}{R:List Fact}{f:Fact}(h:St c w M R)(s0:∀b o,c.S0 b o->b < c.w0.heap.size)(hf:f.P c.S0 c.w0):St c w M (R ++ [f]):=by
 obtain⟨F,S,a1,a2,a3,a4,a5,a6⟩:=h.sep
 refine⟨h.keep,⟨F,fun b o=>S b o\/c.S0 b o,a1,?_,a3,?_,?_,?_⟩,h.apart⟩
 ·rintro b o hF (hs | hs)
  ·exact a2 b o hF hs
  ·rcases a3 b o hF with hw | hw
   ·exact h.apart b o hw hs
   ·have:=s0 b o hs;omega
 ·rintro b o (hs | hs)
  ·exact a4 b o hs
  ·exact .inl hs
 ·rintro b o (hs | hs)
  ·exact a5 b o hs
  ·exact MS (s0 b o hs) h.keep.size
 ·intro g hg
  rcases gC.1 hg with hg | hg
  ·exact g.mono (a6 g hg) fun b o hs=>.inl hs
  ·simp at hg;subst hg
   exact g.mono (g.agree hf fun b o hb=>h.keep.cell b o (s0 b o hb) fun hw=>h.apart b o hw hb) fun b o hs=>.inr hs
theorem kV.a3P{w:World}{B:Bl}{k b z:Nat}{cs:List SV}{vs:List Value}(h:kV c w B L)(hk:B[k]?=some (b,z))(hc:aR (bI B) cs=some vs)(hf:(fAt b z vs).P c.S0 c.w0):kV c w B (L ++ [.ro k cs]):=by
 obtain⟨⟨R,s1,s2⟩,s0⟩:=h
 refine⟨⟨R ++ [fAt b z vs],?_,fun x hx=>?_⟩,s0⟩
 ·rw [wI]
  exact St.more (ch:=FT) (St.a3O s1 s0 hf) (dL.refl _ _) ⟨F0,fun _ _ h=>h,fun _ _ h=>h.elim⟩
 ·rcases gC.1 hx with hx | hx
  ·exact VZ (fun f hf=>ZA _ hf) (s2 x hx)
  ·simp at hx;subst hx
   exact⟨b,z,vs,hk,hc,by simp⟩
theorem ix{α β:Type}{iR:aD α}(C:E2 α){o:Oper}{d t:Nat}{s:AC}{i:Int}{Lv:List Ch}{cf1 cf2:tO}{ls:List α}{kf:α->Option β}{q:β}{el sz:Nat}{b1 b2:Bool}{z1 z2:List SV}{k2:TK}{n1:Nat}(hs:i7 T n K cf m e L=.idx o d t s ls.length i Lv cf1 cf2 K' m' e' L')(h1:bY c s ls)(hF:(idx ls i).bind kf=some q)(ht:AQ T t=some ⟨.sl el,b1,n1,z1⟩)(he:AQ T el=some ⟨k2,b2,sz,z2⟩)(hn:aD.n α=sz)
  (k:∀x,idx ls i=some x->kf x=some q->∀y:C.ex,C.sub c.S0 c.w0 x y->G (.mk P T hT n c B0 N X Q) K' (m'+1) ((d,.p m' 0) :: e') (L' ++ [.ro m' (C.cs x y)]) (cf2.ext [.ro m' (C.cs x y)])):G (.mk P T hT n c B0 N X Q) K m e L cf:=by
 refine fY (g:=.mk P T hT n c B0 N X Q) ?_
 rw [hs]
 intro x' y' ho hd hx hy hP
 cases hi:idx ls i with
 | none=>rw [hi] at hF;cases hF
 | some x =>
  rw [hi] at hF
  obtain⟨dd,hd1,hd2⟩:=hT.und _ _ ht
  simp only at hd2;subst hd2
  obtain⟨ec,p1,p2⟩:=a1D (S:=c.S0) (w:=c.w0) h1 (jZ hi).2.2
  obtain⟨y,p3,p4⟩:=C.ok p2
  subst hn
  refine hP d (.p m' 0) [.ro m' (C.cs x y)] (fun _=>[(MW (s.v ls.length),MO (aD.n α) i.toNat (s.v ls.length))]) 1 hd (fun _=>rfl) (fun B a w hA hS hm=>?_) (fun B w L hm hS=>?_) (k x hi hF y p4)
  ·obtain⟨v,g1,g2⟩:=dR hA hx
   obtain⟨u,g3,g4⟩:=dR hA hy
   cases g1;cases g3
   have hrd:aD.rd c.S0 w [s.v ls.length] ls:=aIZ hS (f:=zQ [s.v ls.length] ls) h1
   exact⟨_,by simp [eC,gV,bI,<-hm],Q3 (P:=P) (o:=o) (w:=w) hrd rfl hi hd1 (hT.size _ _ he) ho g2 g4⟩
  ·exact(hS.app _).a3P (b:=MW (s.v ls.length)) (z:=MO (aD.n α) i.toNat (s.v ls.length)) (by simp [<-hm]) (dW (fun x v h=>by simpa using eX (B:=[]) _ h) p3) p1
theorem dr{id:Nat}{ops:Array Oper}(is:List Nat)(hs:i7 T n K cf m e L=.rgn id ops K' m' e' L')(hm:P.follows .mixedOrders=true)(hf:(aKW ops && (okL m' (kl L' is) && (cW is && is.all fun j=>Nat.blt j L'.length)))=true)
  (k:∀B1,G (.mk P T hT n c B0 N X Q) K' m' e' L' (.d B1 ops (List.replicate ops.size false) is (kl L' is) (kl L' is))):G (.mk P T hT n c B0 N X Q) K m e L cf:=by
 refine fY (g:=.mk P T hT n c B0 N X Q) ?_
 rw [hs]
 intro a w ⟨B,hmm,hA,hS⟩
 simp only [zP,VN,mQ] at hf
 obtain⟨f1,f2,f3,f4⟩:=hf
 refine wp_region_held (S:=Sd (.mk P T hT n c B0 N X Q) (B0++B) (kl L' is)) hm ?_
 have:=k (B0++B) ⟨⟨B,rfl⟩,by simp,f1,rfl,f4,by rw [hmm];exact f2,f3⟩ a w.drew ⟨[],by simpa using hmm,by simpa using hA,by simpa using hS.aUX (dL.drew F0 w),fun w' h=>by simpa using h⟩
 simpa using this
end
end Go.Gv
end
noncomputable section
namespace Go.Gv
inductive StF (P:Program):List Field->List (Nat×Nat)->Prop where
 | n:StF P [] []
 | c {F:Field} {Fs:List Field} {fs:List (Nat×Nat)} {m:Nat} (h:∀w,(sizeOf F.type).run P w=.ok m w) (t:StF P Fs fs):StF P (F :: Fs) ((F.offset,m) :: fs)
noncomputable section
variable {P:Program} {T:TT} {t n:Nat} {a:Bool} {zs:List SV} {z:Value}
theorem StF.off{Fs:List Field}{fs:List (Nat×Nat)}(h:StF P Fs fs):Fs.map (·.offset)=fs.map (·.1):=by
 induction h with
 | n=>rfl
 | c h t ih=>simp [ih]
theorem StF.get{Fs:List Field}{fs:List (Nat×Nat)}(h:StF P Fs fs):∀(j:Nat) F,Fs[j]?=some F->∃m,fs[j]?=some (F.offset,m)/\∀w,(sizeOf F.type).run P w=.ok m w:=by
 induction h with
 | n=>intro j F h;simp at h
 | c h t ih =>
  intro j F hj
  cases j with
  | zero=>simp at hj;subst hj;exact⟨_,rfl,h⟩
  | succ j=>exact ih j F (by simpa using hj)
theorem StF.run{Fs:List Field}{fs:List (Nat×Nat)}(h:StF P Fs fs)(w:World):(Fs.mapM fun f=>(do pure (f.offset,<-sizeOf f.type):Sem (Nat×Nat))).run P w=.ok fs w:=by
 induction h with
 | n=>simp
 | c h t ih=>simp [h] at ih ⊢;simp [ih]
theorem D7.nil:D7 P []:=⟨fun _ _ h=>(by cases h),fun _ _ h=>(by cases h),fun _ _ h=>(by cases h),fun _ _ h=>(by cases h)⟩
theorem D7.add{k:TK}{d:TypeDesc}(hu:P.underlying t=some d)(hk:match k with
  | .i k=>d=.int k
  | .b=>d=.bool
  | .st fs=>∃Fs:Array Field,d=.struct Fs/\Fs.toList.map (·.offset)=fs.map (·.1)/\(∀(j:Nat) F,Fs[j]?=some F->∃m,fs[j]?=some (F.offset,m)/\∀w,(sizeOf F.type).run P w=.ok m w)/\∀w,(Fs.mapM fun f=>(do pure (f.offset,<-sizeOf f.type):Sem (Nat×Nat))).run P w=.ok fs.toArray w
  | .s=>d=.string
  | .sl el=>d=.slice el
  | .x=>True) (ha:∀w,(isAgg t).run P w=.ok a w) (hs:∀w,(sizeOf t).run P w=.ok n w) (hz:∀w,(zeroValue t).run P w=.ok z w) (hc:aR (bI []) zs=some z.cells.toList) (h:D7 P T):D7 P ((t,⟨k,a,n,zs⟩) :: T):=by
 refine⟨fun t' i hi=>?_,fun t' i hi=>?_,fun t' i hi=>?_,fun t' i hi=>?_⟩ <;> simp only [AQ] at hi <;> split at hi
 ·rename_i hb;cases hi;rw [jJ hb];exact⟨d,hu,hk⟩
 ·exact h.und t' i hi
 ·rename_i hb;cases hi;rw [jJ hb];exact ha
 ·exact h.agg t' i hi
 ·rename_i hb;cases hi;rw [jJ hb];exact hs
 ·exact h.size t' i hi
 ·rename_i hb;cases hi;rw [jJ hb];exact⟨z,hz,hc⟩
 ·exact h.zero t' i hi
theorem D7.st{fs:List (Nat×Nat)}{Fs:List Field}(hu:P.underlying t=some (.struct Fs.toArray))(hk:StF P Fs fs)(ha:∀w,(isAgg t).run P w=.ok a w)(hs:∀w,(sizeOf t).run P w=.ok n w)(hz:∀w,(zeroValue t).run P w=.ok z w)(hc:aR (bI []) zs=some z.cells.toList)(h:D7 P T):D7 P ((t,⟨.st fs,a,n,zs⟩) :: T):=
 D7.add (k:=.st fs) hu ⟨Fs.toArray,rfl,by simpa using hk.off,fun j F hj=>hk.get j F (by simpa using hj),fun w=>by
  have:=hk.run w
  simp at this ⊢
  simp [this]⟩ ha hs hz hc h
end
abbrev I(x:Int):SV:=.i .i64 x
end Go.Gv
end
noncomputable section
namespace Go.Gv
noncomputable section
variable {P:Program} {T:TT} {hT:D7 P T} {n:Nat} {c:Ctx} {B0:Bl} {N:Act->World->Prop} {X:Nat->Act->World->Prop} {Q:Act->World->Prop} {K K':List Fr} {m m':Nat} {e e':SE} {L L':List Ch} {cf cf1 cf2:tO} {o:Oper} {Lv:List Ch} {d:Nat}
theorem ext_nil:cf.ext []=cf:=by cases cf <;> simp [tO.ext]
theorem pu{x:SV}(hs:opS (i7 T n K cf m e L)=some (o,Lv,cf1,cf2,K',m',e',L'))(hd:o.dst=some d)(hv:∀B a w,fV n B e' a->kV c w B Lv->∃v,eC B x=some v/\dM P o (vE B e') w v w)
  (k:G (.mk P T hT n c B0 N X Q) K' m' ((d,x) :: e') L' cf2):G (.mk P T hT n c B0 N X Q) K m e L cf:=by
 refine fY (g:=.mk P T hT n c B0 N X Q) ?_
 have key:V3 (.mk P T hT n c B0 N X Q) K' m' e' L' o Lv cf1 cf2->G (.mk P T hT n c B0 N X Q) K' m' e' L' cf1:=fun hP=>by
  refine hP d x [] (fun _=>[]) 0 hd (fun _=>rfl) (fun B a w hA hS _=>?_) (fun B w L _ hS=>by simpa using hS) (by rw [ext_nil];simpa using k)
  obtain⟨v,h1,h2⟩:=hv B a w hA hS
  exact⟨v,by simpa using h1,h2⟩
 generalize i7 T n K cf m e L=s at hs
 cases s <;> simp only [opS] at hs <;> cases hs
 ·exact fun _ hP=>key hP
 ·exact fun _ hP _=>key hP
theorem xH{x:Operand}{k:IntKind}{i:Int}{B:Bl}{a:Act}(hA:fV n B e a)(h:(hU e x).bind sN=some (k,i)):ev (vE B e) x=some (.int k i):=by
 cases hx:hU e x with
 | none=>rw [hx] at h;cases h
 | some y =>
  rw [hx] at h
  obtain⟨v,h1,h2⟩:=dR hA hx
  rw [h2,aNQ (x:=y) h h1]
noncomputable section
variable {x y:Operand} {t z:TypeId} {k:IntKind} {i j:Int} {α:Type} {A:Option α} {q:α}
theorem a3Q(hs:opS (i7 T n K cf m e L)=some (o,Lv,cf1,cf2,K',m',e',L'))(ho:(o.op,o.dst)=(.binOp .quo t x y z,some d))(hx:(hU e' x).bind sN=some (k,i))(hy:(hU e' y).bind sN=some (k,j))(hF:need (j≠0) A=some q)
  (kk:A=some q->G (.mk P T hT n c B0 N X Q) K' m' ((d,.i k (k.wrap (i.tdiv j))) :: e') L' cf2):G (.mk P T hT n c B0 N X Q) K m e L cf:=
 pu hs (congrArg Prod.snd ho) (fun B a w hA _=>⟨_,rfl,aNC (congrArg Prod.fst ho) (xH hA hx) (xH hA hy) (iU hF).1⟩) (kk (iU hF).2)
theorem a3R(hs:opS (i7 T n K cf m e L)=some (o,Lv,cf1,cf2,K',m',e',L'))(ho:(o.op,o.dst)=(.binOp .rem t x y z,some d))(hx:(hU e' x).bind sN=some (k,i))(hy:(hU e' y).bind sN=some (k,j))(hF:need (j≠0) A=some q)
  (kk:A=some q->G (.mk P T hT n c B0 N X Q) K' m' ((d,.i k (i.tmod j)) :: e') L' cf2):G (.mk P T hT n c B0 N X Q) K m e L cf:=
 pu hs (congrArg Prod.snd ho) (fun B a w hA _=>⟨_,rfl,X0 (congrArg Prod.fst ho) (xH hA hx) (xH hA hy) (iU hF).1⟩) (kk (iU hF).2)
theorem a1R{x:Operand}{l:List UInt8}{B:Bl}{a:Act}(hA:fV n B e a)(h:hU e x=some (.s l)):ev (vE B e) x=some (sv l):=by
 obtain⟨v,h1,h2⟩:=dR hA h
 cases h1;exact h2
theorem cat{p r:List UInt8}(hs:opS (i7 T n K cf m e L)=some (o,Lv,cf1,cf2,K',m',e',L'))(ho:(o.op,o.dst)=(.binOp .add t x y z,some d))(hx:hU e' x=some (.s p))(hy:hU e' y=some (.s r))(hF:need (p.length+r.length<=9223372036854775807) A=some q)
  (kk:A=some q->G (.mk P T hT n c B0 N X Q) K' m' ((d,.s (p++r)) :: e') L' cf2):G (.mk P T hT n c B0 N X Q) K m e L cf:=
 pu hs (congrArg Prod.snd ho) (fun B a w hA _=>⟨_,rfl,a00 (congrArg Prod.fst ho) (a1R hA hx) (a1R hA hy) (iU hF).1⟩) (kk (iU hF).2)
theorem aYV{x:Operand}{cs:List SV}{vs:List Value}{B:Bl}{a:Act}(hA:fV n B e a)(h:(hU e x).map nbS=some (.g cs))(hv:aR (bI []) cs=some vs):ev (vE B e) x=some (.agg vs.toArray):=by
 cases hx:hU e x with
 | none=>rw [hx] at h;cases h
 | some y =>
  rw [hx] at h
  simp at h
  obtain⟨v,h1,h2⟩:=dR hA hx
  rw [h2,<-h1,<-aBR,h]
  simp only [eC,gV]
  have:=dW (g:=bI B) (fun x v h=>by simpa using eX (B:=[]) B h) hv
  rw [this]
theorem eqS{xs ys:List SV}{vx vy:List Value}{fs:Array Field}{b:Bool}(hg:P.eqGuardType P.depth t=false)(hst:P.stoodInHeld t=false)(hu:P.underlying t=some (.struct fs))(hb:∀w,(Op.eqFields 9999 vx.toArray vy.toArray (match P.underlying t with | some (.struct fs)=>fs | _=>#[]).toList).run P w=.ok b w)(hs:opS (i7 T n K cf m e L)=some (o,Lv,cf1,cf2,K',m',e',L'))(ho:(o.op,o.dst)=(.binOp .eql t x y z,some d))(hx:(hU e' x).map nbS=some (.g xs))(hy:(hU e' y).map nbS=some (.g ys))(hvx:aR (bI []) xs=some vx)(hvy:aR (bI []) ys=some vy)
  (kk:G (.mk P T hT n c B0 N X Q) K' m' ((d,.b b) :: e') L' cf2):G (.mk P T hT n c B0 N X Q) K m e L cf:=
 pu hs (congrArg Prod.snd ho) (fun B a w hA _=>⟨_,rfl,a04 hg hst hu hb (congrArg Prod.fst ho) (aYV hA hx hvx) (aYV hA hy hvy)⟩) kk
theorem neS{xs ys:List SV}{vx vy:List Value}{fs:Array Field}{b:Bool}(hg:P.eqGuardType P.depth t=false)(hst:P.stoodInHeld t=false)(hu:P.underlying t=some (.struct fs))(hb:∀w,(Op.eqFields 9999 vx.toArray vy.toArray (match P.underlying t with | some (.struct fs)=>fs | _=>#[]).toList).run P w=.ok b w)(hs:opS (i7 T n K cf m e L)=some (o,Lv,cf1,cf2,K',m',e',L'))(ho:(o.op,o.dst)=(.binOp .neq t x y z,some d))(hx:(hU e' x).map nbS=some (.g xs))(hy:(hU e' y).map nbS=some (.g ys))(hvx:aR (bI []) xs=some vx)(hvy:aR (bI []) ys=some vy)
  (kk:G (.mk P T hT n c B0 N X Q) K' m' ((d,.b (!b)) :: e') L' cf2):G (.mk P T hT n c B0 N X Q) K m e L cf:=
 pu hs (congrArg Prod.snd ho) (fun B a w hA _=>⟨_,rfl,aXY hg hst hu hb (congrArg Prod.fst ho) (aYV hA hx hvx) (aYV hA hy hvy)⟩) kk
theorem sY{α:Type}[aD α]{w:World}:bY (bZ w) ⟨none,0⟩ ([]:List α):=aNG
theorem cl0{α β:Type}{fo:Option α}{kf:α->Option β}{q:β}{f:FuncId}{xs:List SV}{sv:α->SV}(hs:i7 T n K cf m e L=.call o (some d) f xs cf1 cf2 K' m' e' L')
  (hc:∀{w},HS c w L'->∀{x},fo=some x->Fn0 P f (bZ w) xs sv x) (hF:fo.bind kf=some q)
  (k:∀x,fo=some x->kf x=some q->G (.mk P T hT n c B0 N X Q) K' m' ((d,sv x) :: e') L' cf2):G (.mk P T hT n c B0 N X Q) K m e L cf:=
 cl (Lf:=fun _ _=>[]) hs (fun _ _=>rfl) (fun h=>hc h) hF (fun x hx hk _=>by simpa using k x hx hk)
theorem lr{σ ρ υ α:Type}{id:Nat}{y:Code}{fb:σ->Option (Step σ ρ)}{s0:σ}{gk:ρ->Option α}{q:α}(u0:υ)(ks:List Nat)(el:σ->υ->SE)(is0 is:List Nat)(Ll:σ->υ->List Ch)
  (hs:i7 T n K cf m e L=.loop id y K' m' e' L') (hF:(loop fb s0).bind gk=some q)
  (h0:SR B0.length m' e' L' is0 m' (el s0 u0++kp e' ks) (Ll s0 u0++kl L' is)=some (el s0 u0++kp e' ks,Ll s0 u0++kl L' is))
  (k1:∀ro,gk ro=some q->∀s u o,fb s=some o->(∀p,o=.stop p->p=ro)->G (.mk P T hT n c B0 (NxP n c B0 o m' (fun s u=>el s u++kp e' ks) (fun s u=>Ll s u++kl L' is)) (BkP n c B0 ro (fun b:Empty=>nomatch b) m' (fun(b:Empty) (_:Unit)=>nomatch b) (fun b _=>nomatch b) id (XK (.mk P T hT n c B0 N X Q) K')) Q) [] m' (el s u++kp e' ks) (Ll s u++kl L' is) (.c y)):G (.mk P T hT n c B0 N X Q) K m e L cf:=
 lp (β:=Empty) (ω:=Unit) u0 ks el is0 is Ll (fun b=>nomatch b) [] (fun b=>nomatch b) [] (fun b=>nomatch b) hs hF h0 (fun ro hro s u o hb ho=>by
  have:=k1 ro hro s u o hb ho
  have h1:(fun(b:Empty) (u:Unit)=>((fun b=>nomatch b:Empty->Unit->SE) b u++kp e' []))=(fun(b:Empty) (_:Unit)=>nomatch b):=funext fun b=>nomatch b
  have h2:(fun(b:Empty) (u:Unit)=>((fun b=>nomatch b:Empty->Unit->List Ch) b u++kl L' []))=(fun(b:Empty) (_:Unit)=>nomatch b):=funext fun b=>nomatch b
  rw [h1,h2]
  exact this) (fun b=>nomatch b)
end
end
end Go.Gv
end
noncomputable section
namespace Go.Gv
noncomputable section
variable {P:Program} {T:TT} {hT:D7 P T} {n:Nat} {c:Ctx} {B0:Bl} {N:Act->World->Prop} {X:Nat->Act->World->Prop} {Q:Act->World->Prop} {K K':List Fr} {m m':Nat} {e e':SE} {L L':List Ch} {cf cf1 cf2:tO} {o:Oper} {Lv:List Ch} {d:Nat}
def V6(P:Program)(c:Ctx){α β:Type}{iR:aD α}(C:E2 α)(sr:β->SV)(g:FuncId)(cap:List Value)(p:α->Option β):Prop:=
 (∀args w,(callFunc g args).run P w=.ok (.enter g args) w)/\∀w,dL c.W c.w0 w->∀x y,C.sub (MT w) w x y->∀q,p x=some q->∀v,eC [] (C.sv x y)=some v->Calls P g (v :: cap).toArray w (Ret fun u w'=>eC [] (sr q)=some u/\kV (bZ w) w' [] [])
def Fu2(P:Program)(c:Ctx){α α' β:Type}{iR:aD α}{iR':aD α'}(C:E2 α)(C':E2 α')(sr:β->SV)(g:FuncId)(cap:List Value)(p:α->α'->Option β):Prop:=
 (∀args w,(callFunc g args).run P w=.ok (.enter g args) w)/\∀w,dL c.W c.w0 w->∀x y x' y',C.sub (MT w) w x y->C'.sub (MT w) w x' y'->∀q,p x x'=some q->∀v v',eC [] (C.sv x y)=some v->eC [] (C'.sv x' y')=some v'->Calls P g (v :: v' :: cap).toArray w (Ret fun u w'=>eC [] (sr q)=some u/\kV (bZ w) w' [] [])
theorem aUY{α:Type}{iR:aD α}(C:E2 α){w:World}{B:Bl}(hS:kV c w B L){x:α}{y:C.ex}(h:C.sub c.S0 c.w0 x y):C.sub (MT w) w x y:=by
 refine C.a5L h (fun b o hb=>?_) (aUW hS)
 obtain⟨⟨R,s1,_⟩,s0⟩:=hS
 exact s1.keep.cell b o (s0 b o hb) fun hw=>s1.apart b o hw hb
theorem kV.aUZ{w:World}{B:Bl}(hS:kV c w B L):dL c.W c.w0 w:=by
 obtain⟨⟨R,s1,_⟩,s0⟩:=hS
 exact s1.keep
noncomputable section
variable {α α' β γ:Type} {iR:aD α} {iR':aD α'} {C:E2 α} {C':E2 α'} {sr:β->SV} {g:FuncId} {cap:List Value} {q:γ} {kf:β->Option γ} {fo:Operand} {args:Array Operand} {ats:Array TypeId}
theorem aU0{f:FuncId}{x:Operand}{ts:Array TypeId}{vs:List Value}{E:Env}{w:World}(hcall:∀args w,(callFunc f args).run P w=.ok (.enter f args) w)(ho:o.op=.call {callee:=.value x,args:=args,argTypes:=ts})(hx:ev E x=some (.func (.func f) #[] cap.toArray))(hv:evs E args.toList=some vs):aS3 P o E w f (vs++cap).toArray:=
 aKP (w:=w) (cap:=cap) (xs:=args.toList) (vs:=vs) hcall (by simpa using ho) hx hv
theorem aHS{B:Bl}{x:SV}{v:Value}(h:vG 0 x=true)(hv:eC B x=some v):eC [] x=some v:=by
 have:=N8 h hv
 rwa [VT] at this
theorem fa1{p:α->Option β}(H:V6 P c C sr g cap p)(x:α)(y:C.ex)(hs:i7 T n K cf m e L=.op o Lv cf1 cf2 K' m' e' L')(ho:(o.op,o.dst)=(.call {callee:=.value fo,args:=args,argTypes:=ats},some d))(hf:hU e' fo=some (.k (.func (.func g) #[] cap.toArray)))(hx:(aR (hU e') args.toList).map nbT=some [C.sv x y])(hz:vG 0 (C.sv x y)=true)(hy:C.sub c.S0 c.w0 x y)(hF:(p x).bind kf=some q)
  (k:∀z,p x=some z->kf z=some q->G (.mk P T hT n c B0 N X Q) K' m' ((d,sr z) :: e') L' cf2):G (.mk P T hT n c B0 N X Q) K m e L cf:=by
 refine fY (g:=.mk P T hT n c B0 N X Q) ?_
 rw [hs]
 intro hdn _ hE
 obtain⟨hcall,hrun⟩:=H
 cases hp:p x with
 | none=>rw [hp] at hF;cases hF
 | some z =>
  rw [hp] at hF
  refine hE Unit (fun _=>m') (fun _=>(d,sr z) :: e') (fun _=>L') (fun _=>by simpa using vH (L:=L') []) (fun B a w next Q' hm hA hS hnext=>?_) (fun _=>k z hp hF)
  cases hys:aR (hU e') args.toList with
  | none=>rw [hys] at hx;cases hx
  | some ys =>
   rw [hys] at hx
   simp at hx
   obtain⟨vs,h1,h2⟩:=T1 hA hys
   obtain⟨u,h3,h4⟩:=dR hA hf
   simp only [eC,gV,bI] at h3
   split at h3
   ·cases h3
    rw [<-aP2,hx] at h1
    simp only [aR] at h1
    cases hv:eC (T0 (.mk P T hT n c B0 N X Q) cf1++B) (C.sv x y) with
    | none=>rw [hv] at h1;cases h1
    | some v =>
     rw [hv] at h1
     cases h1
     have h6:=aU0 (w:=w) hcall (congrArg Prod.fst ho) h4 h2
     have hd:o.dst=some d:=congrArg Prod.snd ho
     unfold Oper.wp
     rw [h6 _ a hA.env,Oper.upon_enter]
     refine Calls.mono (hrun w hS.aUZ x y (aUY C hS hy) z hp v (aHS hz hv)) fun en w' ⟨v',hv',g1,g2⟩=>?_
     subst hv'
     rw [hd] at hdn ⊢
     have g3:=sW (T0 (.mk P T hT n c B0 N X Q) cf1++B) g1
     exact hnext () _ _ ⟨[],by simpa using hm,by simpa using hA.of (by simpa using g3) (hA.env.put (by simpa [oY,mQ] using hdn) v'),by simpa using hS.after (L2:=[]) rfl g2⟩
   ·cases h3
theorem fu1{w:World}{p:α->Option β}(hc:∀args w,(callFunc g args).run P w=.ok (.enter g args) w)(hn:∀{κ:Ctx} {x y},C.sub κ.S0 κ.w0 x y->∀{q},p x=some q->Fn0 P g κ [C.sv x y] sr q):V6 P (bZ w) C sr g [] p:=
 ⟨hc,fun w1 _ x y hy q hq v hv=>by
  refine Calls.mono ((hn (κ:=bZ w1) hy hq).run [v] (by simp [aR,hv]) (aRN w1)) fun en w' ⟨v',h1,y,h2,h3⟩=>⟨v',h1,h2,h3⟩⟩
end
def roL:Nat->List (Nat×List SV)->List Ch
 | _,[]=>[]
 | k,(_,cs) :: r=>.ro k cs :: roL (k+1) r
def roS:List (Nat×List SV)->List Ch
 | []=>[]
 | (n,cs) :: r=>.ro n cs :: roS r
def aU2:Nat->List (Nat×List SV)->List SV
 | _,[]=>[]
 | k,_ :: r=>.p k 0 :: aU2 (k+1) r
def M8(Bs:Bl):List Value:=Bs.map fun b=>.pointer (some ⟨b.1,b.2,none⟩)
theorem rk{α:Type}[aD α]{w w1:World}{s:AC}{l:List α}(hk:dL F0 w w1)(h:bY (bZ w) s l):bY (bZ w1) s l:=
 aD.rd_mono (aD.rd_agree h fun b o hb=>hk.cell b o hb fun h=>h) fun b o hb=>MS hb hk.size
theorem fk1{α β:Type}{iR:aD α}{C:E2 α}{sr:β->SV}{g:FuncId}{w:World}{Bs:Bl}{cs:List (Nat×List SV)}{p:α->Option β}(hc:∀args w,(callFunc g args).run P w=.ok (.enter g args) w)(hB:∀w1,dL F0 w w1->kV (bZ w1) w1 Bs (roL 0 cs))(hl:aR (eC Bs) (aU2 0 cs)=some (M8 Bs))(hz:∀q,vG 0 (sr q)=true)(hn:∀{w1 x y},dL F0 w w1->C.sub (MT w1) w1 x y->∀{q},p x=some q->FnS P g (bZ w1) (C.sv x y :: aU2 0 cs) Bs (roL 0 cs) (fun r (_:Unit)=>sr r) (fun _ _=>[]) q):V6 P (bZ w) C sr g (M8 Bs) p:=
 ⟨hc,fun w1 hk x y hy q hq v hv=>by
  have hv':eC Bs (C.sv x y)=some v:=by simpa using sW (B:=[]) Bs hv
  refine Calls.mono ((hn hk hy hq).run (v :: M8 Bs) (by simp [aR,hv',hl]) (hB w1 hk)) fun en w' ⟨v',h1,y',h2,h3⟩=>⟨v',h1,?_,?_⟩
  ·exact aHS (hz q) h2
  ·simpa using V2 (m:=0) h3 rfl⟩
theorem aP9:∀{cs:List (Nat×List SV)} {k:Nat} {x:Ch},x∈roL k cs->∃j n c,cs[j]?=some (n,c)/\x=.ro (k+j) c
 | (n, c) :: r, k, x, h => by
  rcases gW.1 h with h | h
  ·exact⟨0,n,c,rfl,by rw [h];rfl⟩
  ·obtain⟨j,n',c',h1,h2⟩:=aP9 h
   exact⟨j+1,n',c',by simpa using h1,by rw [h2];congr 1;omega⟩
theorem aQA:∀{cs:List (Nat×List SV)} {n:Nat} {c:List SV},(n,c)∈cs->Ch.ro n c∈roS cs
 | (n', c') :: r, n, c, h => by
  rcases gW.1 h with h | h
  ·cases h;exact List.mem_cons_self ..
  ·exact nF _ (aQA h)
theorem aU3{B:Bl}{cs:List (Nat×List SV)}{cap:List Value}:aR (N6 B) (cs.map (·.1))=some cap->∃Bs:Bl,cap=M8 Bs/\Bs.length=cs.length/\∀(j:Nat) n c,cs[j]?=some (n,c)->∃b,Bs[j]?=some b/\B[n]?=some b:=by
 induction cs generalizing cap with
 | nil=>intro h;cases h;exact⟨[],rfl,rfl,by simp⟩
 | cons p r ih =>
  obtain⟨n,c⟩:=p
  intro h
  simp only [EZ,aR] at h
  split at h
  ·cases h
  ·rename_i v hv
   split at h
   ·cases h
   ·rename_i vs hvs
    cases h
    obtain⟨Bs,h1,h2,h3⟩:=ih hvs
    simp only [N6] at hv
    split at hv
    ·rename_i b z hb
     cases hv
     refine⟨(b,z) :: Bs,by simp [M8,h1],by simp [h2],fun j n' c' hj=>?_⟩
     cases j with
     | zero=>simp at hj;obtain⟨rfl,rfl⟩:=hj;exact⟨(b,z),rfl,hb⟩
     | succ j=>simpa using h3 j n' c' (by simpa using hj)
    ·cases hv
def aK2:List (Nat×List SV)->Bool
 | []=>true
 | (_,c) :: r=>vG.okC 0 c && aK2 r
theorem aK3:∀{cs:List (Nat×List SV)} {j n:Nat} {c:List SV},aK2 cs=true->cs[j]?=some (n,c)->vG.okC 0 c=true
 | (n', c') :: r, 0, n, c, h, hj => by
  simp only [aK2,zP] at h
  simp at hj;rw [<-hj.2];exact h.1
 | (n', c') :: r, j + 1, n, c, h, hj => by
  simp only [aK2,zP] at h
  exact aK3 h.2 (by simpa using hj)
theorem a1S{w:World}{B Bs:Bl}{cs:List (Nat×List SV)}(hS:kV c w B L)(hk:∀x∈roS cs,x∈L)(ho:aK2 cs=true)(hB:∀(j:Nat) n c,cs[j]?=some (n,c)->∃b,Bs[j]?=some b/\B[n]?=some b):∀w1,dL F0 w w1->kV (bZ w1) w1 Bs (roL 0 cs):=by
 intro w1 hkp
 have facts:∀x∈roL 0 cs,∃(f:Fact),f.P (MT w1) w1/\(∀R,f∈R->roF Bs R x)/\jN Bs x=FT:=by
  intro x hx
  obtain⟨j,n,cc,h1,h2⟩:=aP9 hx
  subst h2
  obtain⟨⟨R,s1,s2⟩,s0⟩:=hS
  obtain⟨b,z,vs,g1,g2,g3⟩:=s2 _ (hk _ (aQA (tP h1)))
  obtain⟨b',q1,q2⟩:=hB j n cc h1
  rw [g1] at q2;cases q2
  have hc0:=yJ (aK3 ho h1) g2
  rw [VT] at hc0
  obtain⟨i,hi⟩:=aCD g3
  refine⟨fAt b z vs,aZ5 (s1.fact i hi) hkp,fun R hR=>⟨b,z,vs,by simpa using q1,dW (fun x v h=>by simpa using eX (B:=[]) Bs h) hc0,hR⟩,rfl⟩
 have build:∀M:List Ch,(∀x∈M,x∈roL 0 cs)->∃R:List Fact,(∀f∈R,f.P (MT w1) w1)/\(∀x∈M,roF Bs R x)/\M.map (jN Bs)=List.replicate M.length FT:=by
  intro M
  induction M with
  | nil=>exact fun _=>⟨[],by simp,by simp,rfl⟩
  | cons x M ih =>
   intro hM
   obtain⟨R,h1,h2,h3⟩:=ih fun y hy=>hM y (nF _ hy)
   obtain⟨f,f1,f2,f3⟩:=facts x (hM x (by simp))
   refine⟨f :: R,fun g hg=>?_,fun y hy=>?_,by simp [f3,h3,List.replicate_succ]⟩
   ·rcases gW.1 hg with hg | hg
    ·subst hg;exact f1
    ·exact h1 g hg
   ·rcases gW.1 hy with hy | hy
    ·subst hy;exact f2 _ (by simp)
    ·exact VZ (fun g hg=>nF _ hg) (h2 y hy)
 obtain⟨R,h1,h2,h3⟩:=build (roL 0 cs) fun _ h=>h
 refine⟨⟨R,?_,h2⟩,fun _ _ h=>h⟩
 rw [h3]
 have h4:St (bZ w1) w1 [] R:=St.enter h1
 generalize (roL 0 cs).length=k
 clear h3
 induction k with
 | zero=>exact h4
 | succ k ih =>
  rw [List.replicate_succ']
  exact St.more (ch:=FT) ih (dL.refl _ _) ⟨F0,fun _ _ h=>h,fun _ _ h=>h.elim⟩
def shr(ns:List Nat):List Ch->List Ch
 | []=>[]
 | .box n cs :: L => match fJ n ns with
  | true=>.box n cs :: shr ns L
  | false=>.ro n cs :: shr ns L
 | x :: L=>x :: shr ns L
theorem St.a1T{w:World}{M:List Chunk}{R:List Fact}{b z i:Nat}{vs:List Value}(h:St c w M R)(hi:M[i]?=some (QV b z vs)):St c w (M.set i FT) (R ++ [fAt b z vs]):=by
 have h1:=h.take i hi
 obtain⟨F,S,⟨F1,F2,h1,h2,hd,hF⟩,a2,a3,a4,a5,a6⟩:=h1.sep
 have hlt:∀b' o,F1 b' o->b' < w.heap.size:=fun _ _ hf=>Chunk.lt (QV b z vs) h1 hf
 obtain⟨g1,g2,g3⟩:=h1
 refine⟨h.keep,⟨F2,fun b o=>S b o\/F1 b o,h2,?_,fun b o hf=>a3 b o ((hF b o).2 (.inr hf)),?_,?_,?_⟩,h.apart⟩
 ·rintro b o hf (hs | hs)
  ·exact a2 b o ((hF b o).2 (.inr hf)) hs
  ·exact hd b o hs hf
 ·rintro b o (hs | hs)
  ·exact a4 b o hs
  ·rcases a3 b o ((hF b o).2 (.inl hs)) with h | h
   ·exact .inr (.inl h)
   ·exact .inr (.inr h)
 ·rintro b o (hs | hs)
  ·exact a5 b o hs
  ·exact hlt b o hs
 ·intro f hf
  rcases gC.1 hf with hf | hf
  ·exact f.mono (a6 f hf) fun b o hs=>.inl hs
  ·simp at hf;subst hf
   exact⟨g1,fun o ho=>.inr ((g3 b o).2 ho)⟩
theorem aI1{w:World}{B:Bl}(ns:List Nat):∀(M L:List Ch),kV c w B (M++L)->kV c w B (M++shr ns L)
 | M,[],h=>h
 | M, x :: L, h => by
  have gen:kV c w B (M++x :: shr ns L):=by
   have:=aI1 ns (M ++ [x]) L (by simpa using h)
   simpa using this
  cases x with
  | box n cs =>
   simp only [shr]
   split
   ·exact gen
   ·obtain⟨⟨R,s1,s2⟩,s0⟩:=gen
    have hi:((M++Ch.box n cs :: shr ns L).map (jN B))[M.length]?=some (N7 B n cs):=by simp [jN]
    obtain⟨F,b,z,vs,h3,h4,h5⟩:=s1.chunk (ch:=N7 B n cs) M.length hi
    have s3:=s1.imp (iV.put M.length hi fun F ⟨b',z',vs',q1,q2,q3⟩=>by
     rw [h3] at q1;cases q1;rw [h4] at q2;cases q2;exact q3)
    have s4:=s3.a1T (b:=b) (z:=z) (vs:=vs) (i:=M.length) (by rw [Y9];simp)
    refine⟨⟨R ++ [fAt b z vs],?_,fun x hx=>?_⟩,s0⟩
    ·have:((M++Ch.ro n cs :: shr ns L).map (jN B))=(((M++Ch.box n cs :: shr ns L).map (jN B)).set M.length (QV b z vs)).set M.length FT:=by
      simp [jN]
     rw [this];exact s4
    ·rcases gC.1 hx with hx | hx
     ·exact VZ (fun f hf=>ZA _ hf) (s2 x (ZA _ hx))
     ·rcases gW.1 hx with hx | hx
      ·subst hx;exact⟨b,z,vs,h3,h4,by simp⟩
      ·exact VZ (fun f hf=>ZA _ hf) (s2 x (List.mem_append_right _ (nF _ hx)))
  | _=>exact gen
theorem mf{f:FuncId}{caps:Array Operand}{ops:Array Oper}{l:List Oper}(ns:List Nat)(hs:i7 T n K cf m e L=.op o Lv (.r ops l) cf2 K' m' e' L')(ho:(o.op,o.dst)=(.makeFunc (.func f) #[] caps,some d))(hx:aR (hU e') caps.toList=some (ns.map fun n=>.p n 0))
  (k:G (.mk P T hT n c B0 N X Q) K' m' ((d,.f f ns) :: e') (shr ns L') cf2):G (.mk P T hT n c B0 N X Q) K m e L cf:=by
 refine fY (g:=.mk P T hT n c B0 N X Q) ?_
 rw [hs]
 intro hdn _ hE
 refine hE Unit (fun _=>m') (fun _=>(d,.f f ns) :: e') (fun _=>shr ns L') (fun _=>trivial) (fun B a w next Q' hm hA hS hnext=>?_) (fun _=>k)
 obtain⟨vs,h1,h2⟩:=T1 hA hx
 have hd:o.dst=some d:=congrArg Prod.snd ho
 have h3:∀{ns:List Nat} {vs:List Value},aR (eC (T0 (.mk P T hT n c B0 N X Q) (.r ops l)++B)) (ns.map fun n=>SV.p n 0)=some vs->aR (N6 (T0 (.mk P T hT n c B0 N X Q) (.r ops l)++B)) ns=some vs:=by
  intro ns
  induction ns with
  | nil=>intro vs h;exact h
  | cons jj ns ih =>
   intro vs h
   simp only [EZ,aR] at h
   split at h
   ·cases h
   ·rename_i v hv
    split at h
    ·cases h
    ·rename_i vs' hvs
     cases h
     have:N6 (T0 (.mk P T hT n c B0 N X Q) (.r ops l)++B) jj=some v:=by
      simp only [eC,gV,bI] at hv
      simp only [N6]
      split at hv
      ·simpa using hv
      ·cases hv
     simp [aR,this,ih hvs]
 have h5:∀{os:List Operand} {vs:List Value},evs (vE (T0 (.mk P T hT n c B0 N X Q) (.r ops l)++B) e') os=some vs->os.map (ev (vE (T0 (.mk P T hT n c B0 N X Q) (.r ops l)++B) e'))=vs.map some:=by
  intro os
  induction os with
  | nil=>intro vs h;cases h;rfl
  | cons o os ih =>
   intro vs h
   simp only [evs] at h
   split at h
   ·rename_i v vs' hv hvs
    cases h
    simp [hv,ih hvs]
   ·cases h
 have h6:=aXV (P:=P) (w:=w) (vf:=[]) (vc:=vs) (congrArg Prod.fst ho) rfl (h5 h2)
 unfold Oper.wp
 rw [h6 _ a hA.env,Oper.upon_value,hd]
 rw [hd] at hdn
 have h7:eC (T0 (.mk P T hT n c B0 N X Q) (.r ops l)++B) (.f f ns)=some (.func (.func f) #[] vs.toArray):=by simp only [eC,h3 h1]
 exact hnext () _ _ ⟨[],by simpa using hm,by simpa using hA.of h7 (hA.env.put (by simpa [oY,mQ] using hdn) _),by simpa using aI1 ns [] L' hS⟩
theorem clc{α β:Type}{fo:Option α}{kf:α->Option β}{q:β}{f g:FuncId}{xs xs0:List SV}{sv:α->SV}(is:List Nat)(cs:List (Nat×List SV))(hs:i7 T n K cf m e L=.callp o (some d) f xs cf1 cf2 K' m' e' L')(hk:kl L' is=roS cs)(ho:(aK2 cs && okA xs.dropLast)=true)(hx:xs=xs.dropLast ++ [.f g (cs.map (·.1))])
  (hc:∀{w},HS c w L'->∀{Bs:Bl},Bs.length=cs.length->(∀w1,dL F0 w w1->kV (bZ w1) w1 Bs (roL 0 cs))->∀{x},fo=some x->Fn0 P f (bZ w) (xs.dropLast ++ [.k (.func (.func g) #[] (M8 Bs).toArray)]) sv x) (hF:fo.bind kf=some q)
  (k:∀x,fo=some x->kf x=some q->G (.mk P T hT n c B0 N X Q) K' m' ((d,sv x) :: e') L' cf2):G (.mk P T hT n c B0 N X Q) K m e L cf:=by
 refine fY (g:=.mk P T hT n c B0 N X Q) ?_
 rw [hs]
 intro fo' args ats ho' hd hf ⟨ys,hys,hxs⟩ hdn hE
 rw [zP] at ho
 cases hfo:fo with
 | none=>rw [hfo] at hF;cases hF
 | some x =>
  rw [hfo] at hF
  refine hE Unit (fun _=>m') (fun _=>(d,sv x) :: e') (fun _=>L') (fun _=>by simpa using vH (L:=L') []) (fun B a w next Q' hm hA hS hnext=>?_) (fun _=>k x hfo hF)
  obtain⟨vs,h1,h2⟩:=T1 hA hys
  obtain⟨v,h3,h4⟩:=dR hA hf
  simp [eC,aR] at h3
  subst h3
  rw [<-KH,hxs] at h1
  rw [hx] at h1
  have split:∀{as:List SV} {b:SV} {vs:List Value} {B:Bl},aR (eC B) (as ++ [b])=some vs->∃us v,aR (eC B) as=some us/\eC B b=some v/\vs=us ++ [v]:=by
   intro as
   induction as with
   | nil =>
    intro b vs B h
    simp only [aCG,aR] at h
    split at h
    ·cases h
    ·rename_i v hv;cases h;exact⟨[],v,rfl,hv,rfl⟩
   | cons a as ih =>
    intro b vs B h
    simp only [TW,aR] at h
    split at h
    ·cases h
    ·rename_i u hu
     split at h
     ·cases h
     ·rename_i us' hus
      cases h
      obtain⟨us,v,g1,g2,rfl⟩:=ih hus
      exact⟨u :: us,v,by simp [aR,hu,g1],g2,rfl⟩
  obtain⟨us,fv,g1,g2,rfl⟩:=split h1
  simp only [eC] at g2
  split at g2
  ·rename_i cap hcap
   cases g2
   obtain⟨Bs,b1,b2,b3⟩:=aU3 hcap
   subst b1
   have hmem:∀x∈roS cs,x∈L':=fun x hx=>aCZ (is:=is) (by rw [hk];exact hx)
   obtain⟨hcall,hrun⟩:=hc ⟨_,hS⟩ b2 (a1S hS hmem ho.1 b3) hfo
   have join:∀{as:List SV} {us:List Value} {b:SV} {v:Value},aR (eC []) as=some us->eC [] b=some v->aR (eC []) (as ++ [b])=some (us ++ [v]):=by
    intro as
    induction as with
    | nil=>intro us b v h hb;cases h;simp [aR,hb]
    | cons a as ih =>
     intro us b v h hb
     simp only [aR] at h
     split at h
     ·cases h
     ·rename_i u hu
      split at h
      ·cases h
      ·rename_i us' hus;cases h;simp [aR,hu,ih hus hb]
   have h5:=hrun (us ++ [.func (.func g) #[] (M8 Bs).toArray]) (join (V5 ho.2 g1) (by simp [eC,gV,bI,Value.oneCell'])) (aRN w)
   have h6:=M7 (w:=w) hcall ho' h4 h2
   unfold Oper.wp
   rw [h6 _ a hA.env,Oper.upon_enter]
   refine Calls.mono h5 fun en w' ⟨v,hv,y,e1,e2⟩=>?_
   subst hv
   rw [hd]
   have g3:=sW (T0 (.mk P T hT n c B0 N X Q) cf1++B) e1
   exact hnext () _ _ ⟨[],by simpa using hm,by simpa using hA.of (by simpa using g3) (hA.env.put (by simpa [oY,mQ] using hdn) v),by simpa using hS.after (L2:=[]) rfl e2⟩
  ·cases g2
theorem HS.u1{α β:Type}{iR:aD α}{C:E2 α}{sr:β->SV}{g:FuncId}{cap:List Value}{w:World}{p:α->Option β}(h:HS c w L)(H:V6 P c C sr g cap p):V6 P (bZ w) C sr g cap p:=by
 obtain⟨B,hS⟩:=h.ex
 exact⟨H.1,fun w1 hk=>H.2 w1 (hS.aUZ.trans hk fun _ _ _ h=>h.elim)⟩
theorem HS.u2{α α' β:Type}{iR:aD α}{iR':aD α'}{C:E2 α}{C':E2 α'}{sr:β->SV}{g:FuncId}{cap:List Value}{w:World}{p:α->α'->Option β}(h:HS c w L)(H:Fu2 P c C C' sr g cap p):Fu2 P (bZ w) C C' sr g cap p:=by
 obtain⟨B,hS⟩:=h.ex
 exact⟨H.1,fun w1 hk=>H.2 w1 (hS.aUZ.trans hk fun _ _ _ h=>h.elim)⟩
theorem a5H{α β:Type}{fo:Option α}{kf:α->Option β}{q:β}{f g:FuncId}{xs:List SV}{sv:α->SV}{n1:Nat}{c1:List SV}(is:List Nat)(hs:i7 T n K cf m e L=.callp o (some d) f xs cf1 cf2 K' m' e' L')(hk:kl L' is=[.ro n1 c1])(ho:(aK2 [(n1,c1)] && okA xs.dropLast)=true)(hx:xs=xs.dropLast ++ [.f g [n1]])
  (hc:∀{w},HS c w L'->∀{b1:Nat×Nat},(∀w1,dL F0 w w1->kV (bZ w1) w1 [b1] [.ro 0 c1])->∀{x},fo=some x->Fn0 P f (bZ w) (xs.dropLast ++ [.k (.func (.func g) #[] (M8 [b1]).toArray)]) sv x) (hF:fo.bind kf=some q)
  (k:∀x,fo=some x->kf x=some q->G (.mk P T hT n c B0 N X Q) K' m' ((d,sv x) :: e') L' cf2):G (.mk P T hT n c B0 N X Q) K m e L cf:=
 clc (xs0:=[]) is [(n1,c1)] hs hk ho hx (fun h Bs hl hB=>match Bs,hl,hB with | [_],_,hB=>hc h hB) hF k
end
end Go.Gv
end
noncomputable section
namespace Go.Gv
noncomputable section
variable {P:Program} {T:TT} {hT:D7 P T} {n:Nat} {c:Ctx} {B0:Bl} {N:Act->World->Prop} {X:Nat->Act->World->Prop} {Q:Act->World->Prop} {K K':List Fr} {m m':Nat} {e e':SE} {L L':List Ch} {cf cf1 cf2:tO} {o:Oper} {Lv:List Ch} {d:Nat}
variable {x y z:Operand} {t t2:TypeId} {k k2:IntKind} {i j:Int} {α β:Type} {A:Option β} {q:β}
theorem a1U(hs:opS (i7 T n K cf m e L)=some (o,Lv,cf1,cf2,K',m',e',L'))(ho:(o.op,o.dst)=(.call {callee:=.builtin .min,args:=#[x,y],argTypes:=#[t,t2]},some d))(hx:(hU e' x).bind sN=some (.i64,i))(hy:(hU e' y).bind sN=some (k,j))
  (kk:G (.mk P T hT n c B0 N X Q) K' m' ((d,.i .i64 (if j < i then j else i)) :: e') L' cf2):G (.mk P T hT n c B0 N X Q) K m e L cf:=
 pu hs (congrArg Prod.snd ho) (fun B a w hA _=>⟨_,rfl,a07 (congrArg Prod.fst ho) (xH hA hx) (xH hA hy)⟩) kk
theorem a3T(hs:opS (i7 T n K cf m e L)=some (o,Lv,cf1,cf2,K',m',e',L'))(ho:(o.op,o.dst)=(.call {callee:=.builtin .max,args:=#[x,y],argTypes:=#[t,t2]},some d))(hx:(hU e' x).bind sN=some (.i64,i))(hy:(hU e' y).bind sN=some (k,j))
  (kk:G (.mk P T hT n c B0 N X Q) K' m' ((d,.i .i64 (if i < j then j else i)) :: e') L' cf2):G (.mk P T hT n c B0 N X Q) K m e L cf:=
 pu hs (congrArg Prod.snd ho) (fun B a w hA _=>⟨_,rfl,a08 (congrArg Prod.fst ho) (xH hA hx) (xH hA hy)⟩) kk
noncomputable section
variable {l:List UInt8} {b1:Bool} {n1:Nat} {z1:List SV}
theorem a3U(ht:AQ T t=some ⟨.s,b1,n1,z1⟩)(hT:D7 P T):P.underlying t=some .string:=by
 obtain⟨dd,hd1,hd2⟩:=hT.und _ _ ht
 simp only at hd2;subst hd2
 exact hd1
theorem qsi{kf:UInt8->Option β}(hs:opS (i7 T n K cf m e L)=some (o,Lv,cf1,cf2,K',m',e',L'))(ho:(o.op,o.dst)=(.index t x y,some d))(ht:AQ T t=some ⟨.s,b1,n1,z1⟩)(hx:hU e' x=some (.s l))(hy:(hU e' y).bind sN=some (k,i))(hF:(idx l i).bind kf=some q)
  (kk:∀u,idx l i=some u->kf u=some q->G (.mk P T hT n c B0 N X Q) K' m' ((d,.y u) :: e') L' cf2):G (.mk P T hT n c B0 N X Q) K m e L cf:=by
 cases hi:idx l i with
 | none=>rw [hi] at hF;cases hF
 | some u =>
  rw [hi] at hF
  exact pu hs (congrArg Prod.snd ho) (fun B a w hA _=>⟨_,rfl,aX4 (a3U ht hT) hi (congrArg Prod.fst ho) (a1R hA hx) (xH hA hy)⟩) (kk u hi hF)
end
noncomputable section
variable [aD α] {s:AC} {l:List α} {el:TypeId} {b1 b2:Bool} {n1 sz:Nat} {z1 z2:List SV} {kt:TK}
theorem hdB{B:Bl}{a:Act}(hA:fV n B e a){ln:Nat}(h:hU e x=some (.h s ln)):ev (vE B e) x=some (s.v ln):=by
 obtain⟨v,h1,h2⟩:=dR hA h
 cases h1;exact h2
theorem FW(ht:AQ T t=some ⟨.sl el,b1,n1,z1⟩)(hT:D7 P T):P.underlying t=some (.slice el):=by
 obtain⟨dd,hd1,hd2⟩:=hT.und _ _ ht
 simp only at hd2;subst hd2
 exact hd1
theorem qsb{a b:Nat}(h1:bY c s l)(hb:a<=b/\b<=l.length)(hs:opS (i7 T n K cf m e L)=some (o,Lv,cf1,cf2,K',m',e',L'))(hd:o.dst=some d)(hr:∀B act w,fV n B e' act->aD.rd c.S0 w [s.v l.length] l->dM P o (vE B e') w (gO (aD.n α) a b (s.v l.length)) w)
  (kk:∀s',bY c s' ((l.take b).drop a)->G (.mk P T hT n c B0 N X Q) K' m' ((d,.h s' ((l.take b).drop a).length) :: e') L' cf2):G (.mk P T hT n c B0 N X Q) K m e L cf:=by
 have h2:=aNI (n:=aD.n α) (a:=a) (b:=b) rfl h1 hb.1 hb.2
 obtain⟨ad,cp,e1,_⟩:=aCS h2
 rw [e1] at h2
 exact pu hs hd (fun B act w hA hS=>⟨_,by rw [e1];simp [eC,gV,bI],hr B act w hA (aIZ hS (f:=zQ [s.v l.length] l) h1)⟩) (kk ⟨ad,cp⟩ h2)
theorem aNU(hs:opS (i7 T n K cf m e L)=some (o,Lv,cf1,cf2,K',m',e',L'))(ho:(o.op,o.dst)=(.slice t x (some y) (some z) none,some d))(ht:AQ T t=some ⟨.sl el,b1,n1,z1⟩)(he:AQ T el=some ⟨kt,b2,sz,z2⟩)(hn:aD.n α=sz)(h1:bY c s l)(hx:hU e' x=some (.h s l.length))(hy:(hU e' y).bind sN=some (k,i))(hz:(hU e' z).bind sN=some (k2,j))(hF:need (0<=i/\i<=j/\j<=(l.length:Int)) A=some q)
  (kk:A=some q->∀s',bY c s' ((l.take j.toNat).drop i.toNat)->G (.mk P T hT n c B0 N X Q) K' m' ((d,.h s' ((l.take j.toNat).drop i.toNat).length) :: e') L' cf2):G (.mk P T hT n c B0 N X Q) K m e L cf:=by
 have hb:=(iU hF).1
 subst hn
 exact qsb h1 (by omega) hs (congrArg Prod.snd ho) (fun B act w hA h=>aRF h rfl (FW ht hT) (hT.size _ _ he) hb (congrArg Prod.fst ho) (hdB hA hx) (xH hA hy) (xH hA hz)) (kk (iU hF).2)
theorem aU4(hs:opS (i7 T n K cf m e L)=some (o,Lv,cf1,cf2,K',m',e',L'))(ho:(o.op,o.dst)=(.slice t x none (some z) none,some d))(ht:AQ T t=some ⟨.sl el,b1,n1,z1⟩)(he:AQ T el=some ⟨kt,b2,sz,z2⟩)(hn:aD.n α=sz)(h1:bY c s l)(hx:hU e' x=some (.h s l.length))(hz:(hU e' z).bind sN=some (k2,j))(hF:need (0<=j/\j<=(l.length:Int)) A=some q)
  (kk:A=some q->∀s',bY c s' ((l.take j.toNat).drop 0)->G (.mk P T hT n c B0 N X Q) K' m' ((d,.h s' ((l.take j.toNat).drop 0).length) :: e') L' cf2):G (.mk P T hT n c B0 N X Q) K m e L cf:=by
 have hb:=(iU hF).1
 subst hn
 exact qsb h1 (by omega) hs (congrArg Prod.snd ho) (fun B act w hA h=>aTQ h rfl (FW ht hT) (hT.size _ _ he) hb (congrArg Prod.fst ho) (hdB hA hx) (xH hA hz)) (kk (iU hF).2)
end
noncomputable section
variable {zv:Value} {n1 m1:Nat} {el:TypeId}
theorem aU5{B:Bl}{xs:List SV}{vs:List Value}(h:aR (eC []) xs=some vs):aR (eC B) xs=some vs:=dW (fun x v h=>by simpa using sW (B:=[]) B h) h
theorem qba{ps:Array (Nat×Operand)}{xs:List SV}{vs cells:List Value}(cs:List SV)(hz:∀w,(zeroValue t).run P w=.ok zv w)(hu:P.underlying t=some (.array n1 el))(hp:∀w,(sizeOf el).run P w=.ok m1 w)(hs:opS (i7 T n K cf m e L)=some (o,Lv,cf1,cf2,K',m',e',L'))(ho:(o.op,o.dst)=(.build t ps,some d))(hv:aR (hU e') (ps.toList.map (·.2))=some xs)(hvs:aR (eC []) xs=some vs)(hcs:aR (bI []) cs=some cells)(hc:Instr.fill (fun i=>some (i * m1,m1)) zv.cells ((ps.toList.map (·.1)).zip vs)=some cells.toArray)
  (kk:G (.mk P T hT n c B0 N X Q) K' m' ((d,.g cs) :: e') L' cf2):G (.mk P T hT n c B0 N X Q) K m e L cf:=
 pu hs (congrArg Prod.snd ho) (fun B a w hA _=>⟨.agg cells.toArray,by
  simp only [eC,gV]
  rw [dW (g:=bI B) (fun x v h=>by simpa using eX (B:=[]) B h) hcs],by
  obtain⟨us,h1,h2⟩:=T1 hA hv
  rw [aU5 hvs] at h1
  cases h1
  exact X3 (ps:=ps.toList) (by have:=congrArg Prod.fst ho;simpa using this) hz hu hp h2 hc⟩) kk
theorem qai{γ:Type}(f:γ->Value)(g:γ->SV){l:List γ}{cs:List SV}{kf:γ->Option β}(hu:P.underlying t=some (.array n1 el))(hz:∀w,(sizeOf el).run P w=.ok 1 w)(hg:∀w,(isAgg el).run P w=.ok false w)(hgf:∀u,eC [] (g u)=some (f u))(hs:opS (i7 T n K cf m e L)=some (o,Lv,cf1,cf2,K',m',e',L'))(ho:(o.op,o.dst)=(.index t x y,some d))(hx:hU e' x=some (.g cs))(hcs:aR (bI []) cs=some (l.map f))(hn:l.length=n1)(hy:(hU e' y).bind sN=some (k,i))(hF:(idx l i).bind kf=some q)
  (kk:∀u,idx l i=some u->kf u=some q->G (.mk P T hT n c B0 N X Q) K' m' ((d,g u) :: e') L' cf2):G (.mk P T hT n c B0 N X Q) K m e L cf:=by
 cases hi:idx l i with
 | none=>rw [hi] at hF;cases hF
 | some u =>
  rw [hi] at hF
  refine pu hs (congrArg Prod.snd ho) (fun B a w hA _=>⟨f u,by simpa using sW (B:=[]) B (hgf u),?_⟩) (kk u hi hF)
  obtain⟨v,h1,h2⟩:=dR hA hx
  simp only [eC,gV] at h1
  rw [dW (g:=bI B) (fun x v h=>by simpa using eX (B:=[]) B h) hcs] at h1
  cases h1
  exact a1A f hu hz hg hi hn rfl (congrArg Prod.fst ho) h2 (xH hA hy)
end
end
end Go.Gv
end
noncomputable section
namespace Go.Gv
noncomputable section
variable {P:Program} {T:TT} {hT:D7 P T} {n:Nat} {c:Ctx} {B0:Bl} {N:Act->World->Prop} {X:Nat->Act->World->Prop} {Q:Act->World->Prop} {K K':List Fr} {m m':Nat} {e e':SE} {L L':List Ch} {cf cf1 cf2:tO} {o:Oper} {Lv:List Ch} {d:Nat}
theorem chg{g:Gx}{ι:Type}(m2:ι->Nat)(e2:ι->SE)(L2:ι->List Ch)(h:∀B a w,B.length=m->fV g.n B e a->kV g.c w B L->∃i B',(B++B').length=m2 i/\fV g.n (B++B') (e2 i) a/\kV g.c w (B++B') (L2 i))
  (hz:∀i,Frz g cf L (L2 i)) (k:∀i,G g K (m2 i) (e2 i) (L2 i) cf):G g K m e L cf:=by
 have key:∀a w,Rel g m e L a w->∃i,Rel g (m2 i) (e2 i) (L2 i) a w:=fun a w ⟨B,h1,h2,h3⟩=>by
  obtain⟨i,B',k1,k2,k3⟩:=h _ a w h1 h2 h3
  exact⟨i,B++B',by simpa using k1,by simpa using k2,by simpa using k3⟩
 cases cf with
 | n=>exact fun a w hr=>let ⟨i,hi⟩:=key a w hr;k i a w hi
 | c x=>exact fun a w hr=>let ⟨i,hi⟩:=key a w hr;k i a w hi
 | r ops l=>exact fun a w hr=>let ⟨i,hi⟩:=key a w hr;k i a w hi
 | d B1 ops l is Lf Lv =>
  refine fun hD a w ⟨B,h1,h2,h3,h4⟩=>?_
  obtain⟨i,B',k1,k2,k3⟩:=h _ a w h1 h2 h3
  obtain⟨z1,z2⟩:=hz i hD
  exact k i ⟨hD.pre,hD.len,hD.free,z1,z2,hD.okf,hD.ap⟩ a w ⟨B++B',by simpa using k1,by simpa using k2,by simpa using k3,fun w' hw=>by
   have:=(h4 w' hw).app B'
   simpa using this⟩
 | o B1 ops l is Lf Lv ii =>
  refine fun hD a w ⟨B,h1,h2,h3,h4⟩=>?_
  obtain⟨i,B',k1,k2,k3⟩:=h _ a w h1 h2 h3
  obtain⟨z1,z2⟩:=hz i hD
  exact k i ⟨hD.pre,hD.len,hD.free,z1,z2,hD.okf,hD.ap⟩ a w ⟨B++B',by simpa using k1,by simpa using k2,by simpa using k3,fun w' hw=>by
   have:=(h4 w' hw).app B'
   simpa using this⟩
theorem DM{α β:Type}[aD α]{x y:Operand}{t el sz:Nat}{i:Int}{zv:Value}{b1:Bool}{n1:Nat}{z1:List SV}{A:Option β}{q:β}(zd:α)(hinf:QW P el sz zv)(hzd:∀w,aD.own w zv.cells.toList zd F0)(hs:i7 T n K cf m e L=.op o Lv cf1 cf2 K' m' e' L')(ho:(o.op,o.dst)=(.makeSlice t x y,some d))(ht:AQ T t=some ⟨.sl el,b1,n1,z1⟩)(hn:aD.n α=sz)(hzs:zv.cells.size=sz)(hx:(hU e' x).bind sN=some (.i64,i))(hy:(hU e' y).bind sN=some (.i64,i))(hF:need (0<=i/\i<=4294967296) A=some q)
  (k:A=some q->∀s':AC,G (.mk P T hT n c B0 N X Q) K' m' ((d,.h s' (List.replicate i.toNat zd).length) :: e') (L' ++ [ow s' (List.replicate i.toNat zd)]) cf2):G (.mk P T hT n c B0 N X Q) K m e L cf:=by
 refine fY (g:=.mk P T hT n c B0 N X Q) ?_
 rw [hs]
 intro hdn _ hE
 refine hE AC (fun _=>m') (fun s'=>(d,.h s' (List.replicate i.toNat zd).length) :: e') (fun s'=>L' ++ [ow s' (List.replicate i.toNat zd)]) (fun _=>vH _) (fun B a w next Q' hm hA hS hnext=>?_) (k (iU hF).2)
 obtain⟨⟨R,s1,s2⟩,s0⟩:=hS
 have hd:o.dst=some d:=congrArg Prod.snd ho
 obtain⟨v,w',k1,k2⟩:=aTN zd s1 hn (FW ht hT) hinf hzs hzd (iU hF).1 (congrArg Prod.fst ho) (xH hA hx) (xH hA hy)
 have hrd:∃s':AC,v=s'.v (List.replicate i.toNat zd).length:=by
  have h1:=k2.aPH (cs:=[v]) (d:=List.replicate i.toNat zd) (L'.map (jN (T0 (.mk P T hT n c B0 N X Q) cf1++B))).length (by simp)
  obtain⟨ad,cp,h2,_⟩:=aCS h1
  exact⟨⟨ad,cp⟩,h2⟩
 obtain⟨s',rfl⟩:=hrd
 unfold Oper.wp
 rw [k1 _ a hA.env,Oper.upon_value,hd]
 refine hnext s' _ _ ⟨[],by simpa using hm,by simpa using hA.of (by simp [eC,gV,bI]) (hA.env.put (by rw [hd] at hdn;simpa [oY,mQ] using hdn) _),⟨⟨R,by simpa [jN] using k2,fun x hx=>?_⟩,fun b o hb=>MS (s0 b o hb) (jA _)⟩⟩
 rcases gC.1 hx with hx | hx
 ·simpa using s2 x hx
 ·simp at hx;subst hx;exact trivial
end
end Go.Gv
end
noncomputable section
namespace Go.Gv
def tO.wR:tO->List Nat
 | .d _ _ _ is _ _=>is
 | .o _ _ _ is _ _ _=>is
 | _=>[]
theorem SZ{L M:List Ch}{j:Nat}{z:Ch}:∀{is:List Nat},(∀i∈is,i < L.length)->fJ j is=true->kl (L.set j z++M) is=kl L is
 | [],_,_=>rfl
 | i :: is, h, hn => by
  have hi:=h i (by simp)
  have h1:=aC2 hn
  have hne:j≠i:=fun he=>h1 (by simp [he])
  have h2:(L.set j z++M)[i]?=L[i]?:=by rw [IK (by simpa using hi),QZ hne]
  have h3:fJ j is=true:=by
   unfold fJ at hn
   split at hn
   ·cases hn
   ·exact hn
  simp only [kl,h2,SZ (fun i hi=>h i (nF _ hi)) h3]
theorem aQB{L M:List Ch}:∀{is:List Nat},(∀i∈is,i < L.length)->kl (L++M) is=kl L is
 | [],_=>rfl
 | i :: is, h => by
  simp only [kl,IK (h i (by simp)),aQB (M:=M) (fun i hi=>h i (nF _ hi))]
theorem aI2{g:Gx}{cf:tO}{L M:List Ch}{j:Nat}{z:Ch}(hn:fJ j cf.wR=true):Frz g cf L (L.set j z++M):=by
 cases cf with
 | d B1 ops l is Lf Lv =>
  exact fun hD=>⟨(SZ hD.rng hn).trans hD.wR,fun i hi=>by have:=hD.rng i hi;simp;omega⟩
 | o B1 ops l is Lf Lv i =>
  exact fun hD=>⟨(SZ hD.rng hn).trans hD.wR,fun i hi=>by have:=hD.rng i hi;simp;omega⟩
 | _=>trivial
theorem aU6{c:Ctx}{w:World}{A:List Chunk}{R:List Fact}(h:St c w A R):St c w (A ++ [FT]) R:=by
 obtain⟨F,S,h1,rest⟩:=h.sep
 exact⟨h.keep,⟨F,S,Sep.append.2 ⟨F,F0,h1,Sep.one.2 (fun _ _ h=>h),fun _ _ _ h=>h,fun b o=>by simp [F0]⟩,rest⟩,h.apart⟩
structure CO (α:Type) [aD α] where
 ex:Type
 cs:α->ex->List SV
 Lx:α->ex->List Ch
 op:∀{w F ec q},aD.own w ec q F->∃y,aR (bI []) (cs q y)=some ec
 pk:∀{q y ec},aR (bI []) (cs q y)=some ec->OP ec q ((Lx q y).map (jN []))
 no:∀q y,noF (Lx q y)=true
 nb:∀q y B,(Lx q y).map (jN B)=(Lx q y).map (jN [])
noncomputable section
variable {P:Program} {T:TT} {hT:D7 P T} {n:Nat} {c:Ctx} {B0:Bl} {N:Act->World->Prop} {X:Nat->Act->World->Prop} {Q:Act->World->Prop} {K K':List Fr} {m m':Nat} {e e':SE} {L L':List Ch} {cf cf1 cf2:tO} {o:Oper} {Lv:List Ch} {d:Nat}
theorem a5I{g:Gx}{ι:Type}(m2:ι->Nat)(e2:ι->SE)(L2:ι->List Ch)(Ln:ι->List Ch)(h:∀B a w,B.length=m->fV g.n B e a->kV g.c w B L->∃i B',(B++B').length=m2 i/\fV g.n (B++B') (e2 i) a/\kV g.c w (B++B') (L2 i)/\∀w' M,kV g.c w' B M->kV g.c w' (B++B') (M++Ln i))
  (hz:∀i,Frz g cf L (L2 i)) (k:∀i,G g K (m2 i) (e2 i) (L2 i) (cf.ext (Ln i))):G g K m e L cf:=by
 have key:∀a w,Rel g m e L a w->∃i,Rel g (m2 i) (e2 i) (L2 i) a w:=fun a w ⟨B,h1,h2,h3⟩=>by
  obtain⟨i,B',k1,k2,k3,_⟩:=h _ a w h1 h2 h3
  exact⟨i,B++B',by simpa using k1,by simpa using k2,by simpa using k3⟩
 cases cf with
 | n=>exact fun a w hr=>let ⟨i,hi⟩:=key a w hr;k i a w hi
 | c x=>exact fun a w hr=>let ⟨i,hi⟩:=key a w hr;k i a w hi
 | r ops l=>exact fun a w hr=>let ⟨i,hi⟩:=key a w hr;k i a w hi
 | d B1 ops l is Lf Lv =>
  refine fun hD a w ⟨B,h1,h2,h3,h4⟩=>?_
  obtain⟨i,B',k1,k2,k3,k4⟩:=h _ a w h1 h2 h3
  obtain⟨z1,z2⟩:=hz i hD
  exact k i ⟨hD.pre,hD.len,hD.free,z1,z2,hD.okf,hD.ap⟩ a w ⟨B++B',by simpa using k1,by simpa using k2,by simpa using k3,fun w' hw=>by
   have:=k4 w' _ (h4 w' hw)
   simpa using this⟩
 | o B1 ops l is Lf Lv ii =>
  refine fun hD a w ⟨B,h1,h2,h3,h4⟩=>?_
  obtain⟨i,B',k1,k2,k3,k4⟩:=h _ a w h1 h2 h3
  obtain⟨z1,z2⟩:=hz i hD
  exact k i ⟨hD.pre,hD.len,hD.free,z1,z2,hD.okf,hD.ap⟩ a w ⟨B++B',by simpa using k1,by simpa using k2,by simpa using k3,fun w' hw=>by
   have:=k4 w' _ (h4 w' hw)
   simpa using this⟩
abbrev Shp(s:AC)(len:Nat):Prop:=∃b off m,s.v len=.slice (some ⟨b,off,none⟩) len m/\len<=maxLen
abbrev wOf(α:Type)[aD α](nb:Nat)(s:AC)(len i:Nat):Ch:=.w nb (MW (s.v len)) (MO (aD.n α) i (s.v len))
theorem oe{α β:Type}[aD α](E:CO α)(j:Nat){t:TypeId}{s:AC}{i:Int}{ls:List α}{kf:α->Option β}{q:β}(hs:i7 T n K cf m e L=.idx o d t s ls.length i Lv cf1 cf2 K' m' e' L')(hj:L'[j]?=some (ow s ls))(hz:fJ j cf1.wR=true)(hF:(idx ls i).bind kf=some q)
  (k:∀x,idx ls i=some x->kf x=some q->∀y:E.ex,Shp s ls.length->G (.mk P T hT n c B0 N X Q) K' (m'+1) e' (L'.set j .no++([.o (qB (s.v ls.length) ls i.toNat),.box m' (E.cs x y),wOf α m' s ls.length i.toNat]++E.Lx x y)) (cf1.ext [wOf α m' s ls.length i.toNat])):G (.mk P T hT n c B0 N X Q) K m e L cf:=by
 refine fY (g:=.mk P T hT n c B0 N X Q) ?_
 rw [hs]
 intro x' y' ho hd hx hy hP
 cases hi:idx ls i with
 | none=>rw [hi] at hF;cases hF
 | some x =>
  rw [hi] at hF
  refine a5I (fun _=>m'+1) (fun _=>e') (fun y:{y:E.ex // Shp s ls.length}=>L'.set j .no++([.o (qB (s.v ls.length) ls i.toNat),.box m' (E.cs x y.1),wOf α m' s ls.length i.toNat]++E.Lx x y.1)) (fun _=>[wOf α m' s ls.length i.toNat]) (fun B a w hm hA hS=>?_) (fun y=>aI2 hz) (fun y=>k x hi hF y.1 y.2)
  obtain⟨⟨R,s1,s2⟩,s0⟩:=hS
  have hj2:(L'.map (jN B))[j]?=some (aZ [s.v ls.length] ls):=by simp [hj,jN]
  obtain⟨ec,h1⟩:=s1.open j hj2 (jZ hi).2.2
  have hlen:((L'.map (jN B)).set j FT).length=L'.length:=by simp
  have hsh:Shp s ls.length:=aX1 (k:=i.toNat) h1 L'.length (by rw [DI (by omega)];simp)
  obtain⟨F,hF'⟩:=h1.chunk (L'.length+2) (by rw [DI (by omega)];simp;rfl)
  obtain⟨y,hy2⟩:=E.op (show aD.own w ec x F from hF')
  have h2:=h1.unpack (L'.length+2) (by rw [DI (by omega)];simp) (E.pk hy2)
  have hset:((L'.map (jN B)).set j FT ++ [qB (s.v ls.length) ls i.toNat,QV (MW (s.v ls.length)) (MO (aD.n α) i.toNat (s.v ls.length)) ec,aZ ec x]).set (L'.length+2) FT=(L'.map (jN B)).set j FT ++ [qB (s.v ls.length) ls i.toNat,QV (MW (s.v ls.length)) (MO (aD.n α) i.toNat (s.v ls.length)) ec,FT]:=by
   rw [List.set_append_right _ _ (by omega)]
   simp
  rw [hset] at h2
  refine⟨⟨y,hsh⟩,[(MW (s.v ls.length),MO (aD.n α) i.toNat (s.v ls.length))],by simp [hm],hA.app _,⟨⟨R,?_,fun z hz=>?_⟩,s0⟩,fun w' M hM=>?_⟩
  ·have e1:(L'.set j Ch.no).map (jN B)=(L'.map (jN B)).set j FT:=by rw [MQ];rfl
   refine h2.imp ?_
   rw [wI,wI,<-e1,tN]
   refine iV.append (SS _ _) (iV.append (.cons (fun _ h=>h) (.cons (fun F h=>⟨_,_,ec,by simp [<-hm],dW (fun x v h=>by simpa using eX (B:=[]) _ h) hy2,h⟩) (.cons (fun _ h=>h) .nil))) ?_)
   have:=SS (B:=[]) (B ++ [(MW (s.v ls.length),MO (aD.n α) i.toNat (s.v ls.length))]) (w:=w) (E.Lx x y)
   simpa using this
  ·rcases gC.1 hz with hz | hz
   ·rcases sQ hz with hz | hz
    ·exact aIS _ (s2 z hz)
    ·subst hz;trivial
   ·rcases gC.1 hz with hz | hz
    ·simp at hz
     rcases hz with rfl | rfl | rfl
     ·trivial
     ·trivial
     ·show(B++_)[m']?=_
      simp [<-hm]
    ·exact aI0 (E.no x y) z hz
  ·obtain⟨⟨R',t1,t2⟩,t0⟩:=hM.app [(MW (s.v ls.length),MO (aD.n α) i.toNat (s.v ls.length))]
   refine⟨⟨R',by simpa [jN] using aU6 t1,fun z hz=>?_⟩,t0⟩
   rcases gC.1 hz with hz | hz
   ·exact t2 z hz
   ·simp at hz;subst hz
    show(B++_)[m']?=_
    simp [<-hm]
theorem ie{α:Type}[aD α](p:Nat){t el sz:Nat}{s:AC}{i:Int}{ls:List α}{x:α}{nb:Nat}{b1 b2:Bool}{n1:Nat}{z1 z2:List SV}{k2:TK}(hsh:Shp s ls.length)(hs:i7 T n K cf m e L=.idx o d t s ls.length i Lv cf1 cf2 K' m' e' L')(hi:idx ls i=some x)(hw:Lv[p]?=some (wOf α nb s ls.length i.toNat))(ht:AQ T t=some ⟨.sl el,b1,n1,z1⟩)(he:AQ T el=some ⟨k2,b2,sz,z2⟩)(hn:aD.n α=sz)
  (k:G (.mk P T hT n c B0 N X Q) K' m' ((d,.p nb 0) :: e') L' cf2):G (.mk P T hT n c B0 N X Q) K m e L cf:=by
 refine fY (g:=.mk P T hT n c B0 N X Q) ?_
 rw [hs]
 intro x' y' ho hd hx hy hP
 subst hn
 refine hP d (.p nb 0) [] (fun _=>[]) 0 hd (fun _=>rfl) (fun B a w hA hS hm=>?_) (fun B w L _ hS=>by simpa using hS) (by rw [ext_nil];simpa using k)
 obtain⟨v,g1,g2⟩:=dR hA hx
 obtain⟨u,g3,g4⟩:=dR hA hy
 cases g1;cases g3
 obtain⟨⟨R,s1,s2⟩,s0⟩:=hS
 have hB:B[nb]?=some (MW (s.v ls.length),MO (aD.n α) i.toNat (s.v ls.length)):=s2 _ (tP hw)
 exact⟨_,by simp [eC,gV,bI,hB],aX2 (P:=P) (o:=o) (w:=w) hsh rfl hi (FW ht hT) (hT.size _ _ he) ho g2 g4⟩
def FX:List Ch->List Nat->List Ch
 | L,[]=>L
 | L,i :: r=>FX (L.set i .no) r
theorem D8{B:Bl}:∀(js:List Nat) (L:List Ch),(FX L js).map (jN B)=blank (L.map (jN B)) js
 | [],L=>rfl
 | j :: js,L=>by simp only [FX,blank];rw [D8 js,MQ];rfl
theorem KJ{x:Ch}:∀(js:List Nat) (L:List Ch),x∈FX L js->x∈L\/x=.no
 | [],L,h=>.inl h
 | j :: js, L, h => by
  rcases KJ js _ h with h | h
  ·exact sQ h
  ·exact .inr h
theorem N9{g:Gx}{cf:tO}{M:List Ch}:∀(js:List Nat) {L:List Ch},(js.all fun j=>fJ j cf.wR)=true->Frz g cf L (FX L js++M):=by
 intro js L hj
 have main:∀{B1:Bl} {ops:Array Oper} {l:List Bool} {is:List Nat} {Lf:List Ch},(js.all fun j=>fJ j is)=true->X5 g B1 ops l is Lf L->kl (FX L js++M) is=Lf/\∀j∈is,j < (FX L js++M).length:=by
  intro B1 ops l is Lf hj hD
  have key:∀(js:List Nat) (L:List Ch),(js.all fun j=>fJ j is)=true->(∀i∈is,i < L.length)->kl (FX L js++M) is=kl L is/\(FX L js).length=L.length:=by
   intro js
   induction js with
   | nil =>
    intro L _ hr
    exact⟨aQB hr,rfl⟩
   | cons j js ih =>
    intro L hj hr
    simp only [aCC,zP] at hj
    obtain⟨h1,h2⟩:=ih (L.set j .no) hj.2 (fun i hi=>by simpa using hr i hi)
    refine⟨h1.trans ?_,by simpa [FX] using h2⟩
    have:=SZ (M:=[]) (z:=.no) hr hj.1
    simpa using this
  obtain⟨k1,k2⟩:=key js L hj hD.rng
  exact⟨k1.trans hD.wR,fun i hi=>by have:=hD.rng i hi;simp [k2];omega⟩
 cases cf with
 | d B1 ops l is Lf Lv=>exact fun hD=>main hj hD
 | o B1 ops l is Lf Lv i=>exact fun hD=>main hj hD
 | _=>trivial
def ovh(v:SV)(e:SE):List Nat->SE
 | []=>e
 | k :: ks=>(k,v) :: ovh v e ks
theorem aI3{v:SV}{B:Bl}{a:Act}:∀(ks:List Nat),aR (A8 e) ks=some (ks.map fun _=>v)->fV n B e a->fV n B (ovh v e ks) a:=by
 intro ks
 have key:∀(ks:List Nat),aR (A8 e) ks=some (ks.map fun _=>v)->∀k∈ks,A8 e k=some v:=by
  intro ks
  induction ks with
  | nil=>intro _ k hk;cases hk
  | cons s ks ih =>
   intro hs
   simp only [aR,EZ] at hs
   split at hs
   ·cases hs
   ·rename_i h1
    split at hs
    ·cases hs
    ·rename_i h2
     cases hs
     intro k hk
     rcases gW.1 hk with hk | hk
     ·subst hk;exact h1
     ·exact ih h2 k hk
 intro hs hA
 have hk:=key ks hs
 clear hs key
 have lk2:∀k x,A8 (ovh v e ks) k=some x->A8 e k=some x:=by
  induction ks with
  | nil=>exact fun k x h=>h
  | cons j ks ih =>
   intro k x h
   simp only [ovh,A8] at h
   split at h
   ·rename_i hb
    have:=jJ hb
    subst this
    cases h
    exact hk k (by simp)
   ·exact ih (fun k hk'=>hk k (nF _ hk')) k x h
 exact⟨hA.d,hA.size,fun k x h=>hA.get k x (lk2 k x h)⟩
theorem KK{B:Bl}:∀{is:List Nat} {M:List Ch},aR (fun i=>L[i]?) is=some M->pick (L.map (jN B)) is=M.map (jN B)
 | [],M,h=>by cases h;rfl
 | i :: is, M, h => by
  simp only [aR] at h
  split at h
  ·cases h
  ·rename_i h1
   split at h
   ·cases h
   ·rename_i h2
    cases h
    simp only [pick,DJ,h1,KC,Option.getD_some,KK h2,EZ]
theorem aU7{α:Type}[aD α](E:CO α)(h b v:Nat)(is ks:List Nat){s:AC}{l:List α}{k nb:Nat}(x:α)(y:E.ex){cs0:List SV}{ec:List Value}(hs:L[h]?=some (.o (qB (s.v l.length) l k)))(hb:L[b]?=some (.box nb cs0))(hv:L[v]?=some (wOf α nb s l.length k))(hi:aR (fun i=>L[i]?) is=some (E.Lx x y))(hc:nbL cs0=E.cs x y)(hec:aR (bI []) (E.cs x y)=some ec)(ha:cW (h :: b :: is)=true)(hk:aR (A8 e) ks=some (ks.map fun _=>.h s l.length)){B:Bl}{a:Act}{w:World}(hA:fV n B e a)(hS:kV c w B L) :
  fV n B (ovh (.h s (l.set k x).length) e ks) a/\kV c w B (FX L (h :: b :: is) ++ [ow s (l.set k x)]):=by
 have hlen:(l.set k x).length=l.length:=cL
 unfold ow
 rw [hlen]
 refine⟨aI3 ks hk hA,?_⟩
 obtain⟨⟨R,s1,s2⟩,s0⟩:=hS
 have hB:B[nb]?=some (MW (s.v l.length),MO (aD.n α) k (s.v l.length)):=s2 _ (tP hv)
 refine⟨⟨R,?_,fun z hz=>?_⟩,s0⟩
 ·rw [wI,D8]
  refine s1.shift (h :: b :: is) ha fun F hF=>?_
  simp only [pick,DJ,hs,hb,KC,Option.getD_some,KK hi,E.nb] at hF
  have hE:aR (bI B) cs0=some ec:=by rw [<-SU,hc];exact dW (fun x v h=>by simpa using eX (B:=[]) B h) hec
  have h2:Sep w ([qB (s.v l.length) l k,QV (MW (s.v l.length)) (MO (aD.n α) k (s.v l.length)) ec]++(E.Lx x y).map (jN [])) F:=by
   refine Sep.imp (.cons (fun _ h=>h) (.cons (fun F h=>?_) (iV.refl _))) hF
   obtain⟨bb,z,vs,k1,k2,k3⟩:=h
   rw [hB] at k1;cases k1
   rw [hE] at k2;cases k2
   exact k3
  obtain⟨F1,F2,g1,g2,gd,gF⟩:=Sep.append.1 h2
  have h3:Sep w ([qB (s.v l.length) l k,QV (MW (s.v l.length)) (MO (aD.n α) k (s.v l.length)) ec] ++ [aZ ec x]) F:=Sep.append.2 ⟨F1,F2,g1,Sep.one.2 ((E.pk hec w F2).2 g2),gd,gF⟩
  exact Sep.one.2 (aRD h3)
 ·rcases gC.1 hz with hz | hz
  ·rcases KJ _ _ hz with hz | hz
   ·exact s2 z hz
   ·subst hz;trivial
  ·simp at hz;subst hz;trivial
theorem ce{α:Type}[aD α](E:CO α)(h b v:Nat)(is ks:List Nat){s:AC}{l:List α}{k nb:Nat}(x:α)(y:E.ex){cs0:List SV}{ec:List Value}(hs:L[h]?=some (.o (qB (s.v l.length) l k)))(hb:L[b]?=some (.box nb cs0))(hv:L[v]?=some (wOf α nb s l.length k))(hi:aR (fun i=>L[i]?) is=some (E.Lx x y))(hc:nbL cs0=E.cs x y)(hec:aR (bI []) (E.cs x y)=some ec)(ha:cW (h :: b :: is)=true)(hz:((h :: b :: is).all fun j=>fJ j cf.wR)=true)(hk:aR (A8 e) ks=some (ks.map fun _=>.h s l.length))
  (kk:G (.mk P T hT n c B0 N X Q) K m (ovh (.h s (l.set k x).length) e ks) (FX L (h :: b :: is) ++ [ow s (l.set k x)]) cf):G (.mk P T hT n c B0 N X Q) K m e L cf:=by
 refine chg (fun _:Unit=>m) (fun _=>ovh (.h s (l.set k x).length) e ks) (fun _=>FX L (h :: b :: is) ++ [ow s (l.set k x)]) (fun B a w hm hA hS=>?_) (fun _=>N9 _ hz) (fun _=>kk)
 obtain⟨h1,h2⟩:=aU7 E h b v is ks x y hs hb hv hi hc hec ha hk hA hS
 exact⟨(),[],by simpa using hm,by simpa using h1,by simpa using h2⟩
end
end Go.Gv
end
noncomputable section
namespace Go.Gv
noncomputable section
variable {P:Program} {T:TT} {hT:D7 P T} {n:Nat} {c:Ctx} {B0:Bl} {N:Act->World->Prop} {X:Nat->Act->World->Prop} {Q:Act->World->Prop} {K K':List Fr} {m m':Nat} {e e':SE} {L L':List Ch} {cf cf':tO}
theorem ceS{α:Type}[aD α](E:CO α)(h:Nat)(is ks:List Nat){s:AC}{l:List α}{k nb:Nat}(x:α)(y:E.ex){cs0:List SV}{ec:List Value}(h0:TB (i7 T n K cf m e L)=some (K',cf',m',e',L'))(hs:L'[h]?=some (.o (qB (s.v l.length) l k)))(hb:L'[h+1]?=some (.box nb cs0))(hv:L'[h+2]?=some (wOf α nb s l.length k))(hi:aR (fun i=>L'[i]?) is=some (E.Lx x y))(hc:nbL cs0=E.cs x y)(hec:aR (bI []) (E.cs x y)=some ec)(ha:cW (h :: (h+1) :: is)=true)(hz:((h :: (h+1) :: is).all fun j=>fJ j cf'.wR)=true)(hk:aR (A8 e') ks=some (ks.map fun _=>.h s l.length))
  (kk:G (.mk P T hT n c B0 N X Q) K' m' (ovh (.h s (l.set k x).length) e' ks) (FX L' (h :: (h+1) :: is) ++ [ow s (l.set k x)]) cf'):G (.mk P T hT n c B0 N X Q) K m e L cf:=
 fY (g:=.mk P T hT n c B0 N X Q) (aBV h0 (ce E h (h+1) (h+2) is ks x y hs hb hv hi hc hec ha hz hk kk))
theorem sF(hs:i7 T n K cf m e L=.fin m' e' L')(h:∀a w,nI n c B0 m' e' L' a w->N a w):G (.mk P T hT n c B0 N X Q) K m e L cf:=
 fY (g:=.mk P T hT n c B0 N X Q) (by rw [hs];exact h)
theorem sX{id:Nat}(hs:i7 T n K cf m e L=.ex id m' e' L')(h:∀a w,nI n c B0 m' e' L' a w->X id a w):G (.mk P T hT n c B0 N X Q) K m e L cf:=
 fY (g:=.mk P T hT n c B0 N X Q) (by rw [hs];exact h)
theorem sR(hs:i7 T n K cf m e L=.ret m' e' L')(h:∀a w,nI n c B0 m' e' L' a w->Q a w):G (.mk P T hT n c B0 N X Q) K m e L cf:=
 fY (g:=.mk P T hT n c B0 N X Q) (by rw [hs];exact h)
theorem nxR{σ ρ υ:Type}{o:Step σ ρ}{mj:Nat}{el:σ->υ->SE}{Ll:σ->υ->List Ch}{s:σ}(u:υ)(is:List Nat)(hG:some (Step.next s)=some o)(h:SR B0.length m' e' L' is mj (el s u) (Ll s u)=some (el s u,Ll s u)):∀a w,nI n c B0 m' e' L' a w->NxP n c B0 o mj el Ll a w:=by
 cases hG
 exact fun a w hr=>⟨s,u,rfl,hr.SR is h⟩
theorem lE{π υ:Type}{eq:π->Prop}{mj:Nat}{ej:π->υ->SE}{Lj:π->υ->List Ch}{p:π}(u:υ)(is:List Nat)(hF:eq p)(h:SR B0.length m' e' L' is mj (ej p u) (Lj p u)=some (ej p u,Lj p u)):∀a w,nI n c B0 m' e' L' a w->JP n c B0 eq mj ej Lj a w:=
 fun a w hr=>⟨p,u,hF,nI.SR hr is h⟩
theorem bkR{σ ρ β υ:Type}{o:Step σ ρ}{ro:ρ}{enc:β->ρ}{mj id:Nat}{ej:β->υ->SE}{Lj:β->υ->List Ch}{b:β}(u:υ)(is:List Nat)(hG:some (Step.stop (enc b))=some o)(hr:∀p,o=.stop p->p=ro)(h:SR B0.length m' e' L' is mj (ej b u) (Lj b u)=some (ej b u,Lj b u)):∀a w,nI n c B0 m' e' L' a w->BkP n c B0 ro enc mj ej Lj id X id a w:=by
 cases hG
 have:=hr _ rfl
 subst this
 intro a w hr
 unfold BkP
 rw [if_pos rfl]
 exact⟨b,u,rfl,hr.SR is h⟩
include hT in
theorem p5{fn:Func}{ρ ex:Type}{sv:ρ->ex->SV}{Lf:ρ->ex->List Ch}{r r':ρ}{rs:List ResultVar}{zz:Option ρ}(y:ex)(is:List Nat)(hF:zz=some r)(hz:zz=some r')(hr:fn.results=rs.toArray){x:SV}(hv:aIR T e' L' rs=some x)(hx:nbS x=sv r' y)(hk:vG B0.length (sv r' y)=true)(hL:SR B0.length m' e' L' is B0.length [] (Lf r' y)=some ([],Lf r' y)):∀a w,nI n c B0 m' e' L' a w->QS P fn c B0 sv Lf r a w:=by
 subst hz;cases hF
 intro a w hr'
 obtain⟨B,hm,hA,hS⟩:=id hr'
 obtain⟨v,h1,h2⟩:=aBX hr hT hA hS hv
 obtain⟨B',hm',_,hS'⟩:=hr'.SR is hL
 have hB':B'=[]:=(by simpa using hm')
 subst hB'
 refine⟨hA.d,v,h2,y,?_,by simpa using hS'⟩
 rw [<-hx] at hk ⊢
 have:=N8 hk (by rw [aBR];exact h1)
 rw [ZB (jA _),Q0] at this
 exact this
theorem l6{Z:Act->World->Prop}{α:Type}[aD α](E:CO α)(h:Nat)(is ks:List Nat){s:AC}{l:List α}{k nb:Nat}(x:α)(y:E.ex){cs0:List SV}{ec:List Value}(hs:L[h]?=some (.o (qB (s.v l.length) l k)))(hb:L[h+1]?=some (.box nb cs0))(hv:L[h+2]?=some (wOf α nb s l.length k))(hi:aR (fun i=>L[i]?) is=some (E.Lx x y))(hc:nbL cs0=E.cs x y)(hec:aR (bI []) (E.cs x y)=some ec)(ha:cW (h :: (h+1) :: is)=true)(hk:aR (A8 e) ks=some (ks.map fun _=>.h s l.length))
  (kk:∀a w,nI n c B0 m (ovh (.h s (l.set k x).length) e ks) (FX L (h :: (h+1) :: is) ++ [ow s (l.set k x)]) a w->Z a w):∀a w,nI n c B0 m e L a w->Z a w:=by
 intro a w ⟨B,hm,hA,hS⟩
 obtain⟨h1,h2⟩:=aU7 E h (h+1) (h+2) is ks x y hs hb hv hi hc hec ha hk hA hS
 exact kk a w ⟨B,hm,h1,h2⟩
end
def wAt(n:Nat):List Ch->Option (Nat×Nat)
 | []=>none
 | .w k b z :: L => match Nat.beq n k with
  | true=>some (b,z)
  | false=>wAt n L
 | _ :: L=>wAt n L
theorem OA{n b z:Nat}:∀{L:List Ch},wAt n L=some (b,z)->Ch.w n b z∈L
 | [],h=>by cases h
 | x :: L, h => by
  cases x with
  | w k b' z' =>
   simp only [wAt] at h
   split at h
   ·rename_i hb
    have:=jJ hb
    subst this
    cases h;simp
   ·exact nF _ (OA h)
  | box k cs=>exact nF _ (OA (L:=L) h)
  | ro k cs=>exact nF _ (OA (L:=L) h)
  | o ch=>exact nF _ (OA (L:=L) h)
  | f g=>exact nF _ (OA (L:=L) h)
  | no=>exact nF _ (OA (L:=L) h)
noncomputable section
variable {P:Program} {T:TT} {hT:D7 P T} {n:Nat} {c:Ctx} {B0:Bl} {N:Act->World->Prop} {X:Nat->Act->World->Prop} {Q:Act->World->Prop} {K K':List Fr} {m m':Nat} {e e':SE} {L L' Lv:List Ch} {cf cf1 cf2:tO} {o:Oper} {d:Nat}
theorem l5{α:Type}[aD α](nb:Nat){t el sz:Nat}{s:AC}{i:Int}{ls:List α}{x:α}{b1 b2:Bool}{n1:Nat}{z1 z2:List SV}{k2:TK}(hsh:Shp s ls.length)(hi:idx ls i=some x)(hs:i7 T n K cf m e L=.idx o d t s ls.length i Lv cf1 cf2 K' m' e' L')(hw:wAt nb Lv=some (MW (s.v ls.length),MO (aD.n α) i.toNat (s.v ls.length)))(ht:AQ T t=some ⟨.sl el,b1,n1,z1⟩)(he:AQ T el=some ⟨k2,b2,sz,z2⟩)(hn:aD.n α=sz)
  (k:G (.mk P T hT n c B0 N X Q) K' m' ((d,.p nb 0) :: e') L' cf2):G (.mk P T hT n c B0 N X Q) K m e L cf:=by
 obtain⟨p,hp⟩:=List.mem_iff_getElem?.1 (OA hw)
 exact ie p hsh hs hi hp ht he hn k
end
def E2.o{α:Type}[aD α](C:E2 α)(Lx:α->C.ex->List Ch)(pk:∀{q y ec},aR (bI []) (C.cs q y)=some ec->OP ec q ((Lx q y).map (jN [])))(no:∀q y,noF (Lx q y)=true)(nb:∀q y B,(Lx q y).map (jN B)=(Lx q y).map (jN [])):CO α:=
 ⟨C.ex,C.cs,Lx,fun h=>let ⟨y,h1,_⟩:=C.ok (aD.own_rd h);⟨y,h1⟩,pk,no,nb⟩
def oI:CO Int:=cI.o (fun _ _=>[]) (fun h=>by cases h;exact dN rfl) (fun _ _=>rfl) (fun _ _ _=>rfl)
def oU:CO UInt8:=cU.o (fun _ _=>[]) (fun h=>by cases h;exact dN rfl) (fun _ _=>rfl) (fun _ _ _=>rfl)
theorem DC{α:Type}[aD α][Flat α]{cs:List Value}{d:α}(h:aD.rd F0 default cs d)(w:World):aD.own w cs d F0:=Flat.own_of h
end Go.Gv
end
noncomputable section
namespace Go.Gv
noncomputable section
variable {P:Program} {T:TT} {hT:D7 P T} {n:Nat} {c:Ctx} {B0:Bl} {N:Act->World->Prop} {X:Nat->Act->World->Prop} {Q:Act->World->Prop} {K K':List Fr} {m m':Nat} {e e':SE} {L L':List Ch} {cf:tO}
variable {b:Bool} {α:Type} {A B':Option α} {q:Option α}
theorem csK{o:Operand}{x y:Code}(ss:List Nat)(hs:i7 T n K cf m e L=.cond o b x y K' m' e' L')(ho:aR (A8 e') ss=some (ss.map fun _=>SV.b b))(hF:(if b=true then A else B')=q)
  (k1:b=true->A=q->G (.mk P T hT n c B0 N X Q) K' m' (ovr true e' ss) L' (.c x)) (k2:b=false->B'=q->G (.mk P T hT n c B0 N X Q) K' m' (ovr false e' ss) L' (.c y)):G (.mk P T hT n c B0 N X Q) K m e L cf:=
 fY (g := .mk P T hT n c B0 N X Q) (by
  rw [hs]
  intro he a w hr
  have ⟨B,hm,hA,hS⟩:=hr
  obtain⟨v,h1,h2⟩:=dR hA he
  cases h1
  refine lF hA.env h2 (fun hc=>?_) (fun hc=>?_)
  ·rw [if_pos hc] at hF
   exact k1 hc hF a w (aBW hc ss ho hr)
  ·rw [if_neg (by rw [hc];simp)] at hF
   exact k2 hc hF a w (aBW hc ss ho hr))
theorem caK{cf':tO}(ss:List Nat)(hs:i7 T n K cf m e L=.case b cf' K' m' e' L')(ho:aR (A8 e') ss=some (ss.map fun _=>SV.b b))(hF:(if b=true then A else B')=q)
  (k1:b=true->A=q->G (.mk P T hT n c B0 N X Q) K' m' (ovr true e' ss) L' cf') (k2:b=false->B'=q->G (.mk P T hT n c B0 N X Q) K' m' (ovr false e' ss) L' cf'):G (.mk P T hT n c B0 N X Q) K m e L cf:=
 fY (g:=.mk P T hT n c B0 N X Q) (by
  rw [hs]
  cases b with
  | true=>exact aC3 (fun a B hA=>SY rfl ss ho hA) (k1 rfl (by simpa using hF))
  | false=>exact aC3 (fun a B hA=>SY rfl ss ho hA) (k2 rfl (by simpa using hF)))
end
end Go.Gv
end
noncomputable section
namespace Go.Gv
noncomputable section
variable {P:Program} {T:TT} {hT:D7 P T} {n:Nat} {c:Ctx} {B0:Bl} {N:Act->World->Prop} {X:Nat->Act->World->Prop} {Q:Act->World->Prop} {K K':List Fr} {m m':Nat} {e e':SE} {L L' Lv:List Ch} {cf cf1 cf2:tO} {o:Oper} {d:Nat}
theorem aNW{α:Type}[aD α]{l:List α}(L2:AC->List Ch)(hs:i7 T n K cf m e L=.op o Lv cf1 cf2 K' m' e' L')(hd:o.dst=some d)(hz:∀s',Frz (.mk P T hT n c B0 N X Q) cf1 L' (L2 s'))(h:∀B a w,fV n B e' a->kV c w B L'->∃s' w',dM P o (vE B e') w (AC.v s' l.length) w'/\kV c w' B (L2 s'))
  (k:∀s':AC,G (.mk P T hT n c B0 N X Q) K' m' ((d,.h s' l.length) :: e') (L2 s') cf2):G (.mk P T hT n c B0 N X Q) K m e L cf:=by
 refine fY (g:=.mk P T hT n c B0 N X Q) ?_
 rw [hs]
 intro hdn _ hE
 refine hE AC (fun _=>m') (fun s'=>(d,.h s' l.length) :: e') L2 hz (fun B a w next Q' hm hA hS hnext=>?_) k
 obtain⟨s',w',k1,k2⟩:=h _ a w hA hS
 unfold Oper.wp
 rw [k1 _ a hA.env,Oper.upon_value,hd]
 exact hnext s' _ _ ⟨[],by simpa using hm,by simpa using hA.of (by simp [eC,gV,bI]) (hA.env.put (by rw [hd] at hdn;simpa [oY,mQ] using hdn) _),by simpa using k2⟩
theorem X8{α:Type}[aD α]{w:World}{A:List Chunk}{R:List Fact}{v:Value}{l:List α}(h:St c w A R)(i:Nat)(hi:A[i]?=some (aZ [v] l)):∃s':AC,v=s'.v l.length:=by
 obtain⟨ad,cp,h2,_⟩:=aCS (h.aPH i hi)
 exact⟨⟨ad,cp⟩,h2⟩
noncomputable section
variable {x y:Operand} {t el sz:Nat} {zv:Value} {b1:Bool} {n1:Nat} {z1:List SV}
theorem lt0{α:Type}[aD α](hinf:QW P el sz zv)(hs:i7 T n K cf m e L=.op o Lv cf1 cf2 K' m' e' L')(ho:(o.op,o.dst)=(.buildSlice t 0 #[],some d))(ht:AQ T t=some ⟨.sl el,b1,n1,z1⟩)(hn:aD.n α=sz)
  (k:∀s':AC,G (.mk P T hT n c B0 N X Q) K' m' ((d,.h s' ([]:List α).length) :: e') (L' ++ [ow s' ([]:List α)]) cf2):G (.mk P T hT n c B0 N X Q) K m e L cf:=by
 refine aNW (l:=([]:List α)) (fun s'=>L' ++ [ow s' ([]:List α)]) hs (congrArg Prod.snd ho) (fun _=>vH _) (fun B a w hA hS=>?_) k
 obtain⟨⟨R,s1,s2⟩,s0⟩:=hS
 obtain⟨v,w',k1,k2⟩:=aX5 (α:=α) (e:=vE B e') (o:=o) s1 hn (FW ht hT) hinf (congrArg Prod.fst ho)
 obtain⟨s',rfl⟩:=X8 (v:=v) (l:=([]:List α)) k2 (L'.map (jN B)).length (by simp)
 refine⟨s',w',k1,⟨⟨R,by simpa [jN] using k2,fun z hz=>?_⟩,s0⟩⟩
 rcases gC.1 hz with hz | hz
 ·exact s2 z hz
 ·simp at hz;subst hz;trivial
theorem M9{g:Gx}{cf:tO}{L:List Ch}{j:Nat}{z:Ch}(hn:fJ j cf.wR=true):Frz g cf L (L.set j z):=by
 have:=aI2 (g:=g) (M:=[]) (z:=z) (L:=L) hn
 simpa using this
theorem ap{α β:Type}[aD α][Flat α]{A:Option β}{q:β}{s s2:AC}{l xs:List α}(i:Nat)(hinf:QW P el sz zv)(hs:i7 T n K cf m e L=.op o Lv cf1 cf2 K' m' e' L')(ho:(o.op,o.dst)=(.call {callee:=.builtin .append,args:=#[x,y],argTypes:=#[t,t]},some d))(ht:AQ T t=some ⟨.sl el,b1,n1,z1⟩)(hn:aD.n α=sz)(hzs:zv.cells.size=sz)(hi:L'[i]?=some (ow s l))(hz:fJ i cf1.wR=true)(hsrc:∀{w},HS c w L'->bY (bZ w) s2 xs)(hx:hU e' x=some (.h s l.length))(hy:hU e' y=some (.h s2 xs.length))(hF:need (l.length+xs.length<=1073741824) A=some q)
  (k:A=some q->∀s':AC,G (.mk P T hT n c B0 N X Q) K' m' ((d,.h s' (l++xs).length) :: e') (L'.set i (ow s' (l++xs))) cf2):G (.mk P T hT n c B0 N X Q) K m e L cf:=by
 refine aNW (l:=l++xs) (fun s'=>L'.set i (ow s' (l++xs))) hs (congrArg Prod.snd ho) (fun _=>M9 hz) (fun B a w hA hS=>?_) (k (iU hF).2)
 have hr:bY (bZ w) s2 xs:=hsrc ⟨_,hS⟩
 obtain⟨⟨R,s1,s2'⟩,s0⟩:=hS
 have hj2:(L'.map (jN B))[i]?=some (aZ [s.v l.length] l):=by simp [hi,jN]
 obtain⟨v,w',k1,k2⟩:=aHI i s1 hj2 hr hn (FW ht hT) hinf hzs (iU hF).1 (congrArg Prod.fst ho) (hdB hA hx) (hdB hA hy)
 have hlt:i < L'.length:=(iE.1 hi).1
 obtain⟨s',rfl⟩:=X8 k2 i (by rw [Y9 (by simpa using hlt)])
 refine⟨s',w',k1,⟨⟨R,?_,fun z hz=>?_⟩,s0⟩⟩
 ·rw [MQ];exact k2
 ·rcases sQ hz with hz | hz
  ·exact s2' z hz
  ·subst hz;trivial
end
end
end Go.Gv
end
noncomputable section
namespace Go.Gv
theorem aK5{α:Type}{l:List α}{i:Int}{x:α}(h:idx l i=some x):l.set i.toNat x=l:=by
 obtain⟨hk,h2⟩:=iE.1 (jZ h).2.2
 rw [<-h2];simp
noncomputable section
variable {P:Program} {T:TT} {hT:D7 P T} {n:Nat} {c:Ctx} {B0:Bl} {N:Act->World->Prop} {X:Nat->Act->World->Prop} {Q:Act->World->Prop} {K K':List Fr} {m m':Nat} {e e':SE} {L L' Lv:List Ch} {cf cf' cf1 cf2:tO} {o:Oper} {d:Nat}
theorem cqS{α:Type}[aD α](E:CO α)(h:Nat)(is:List Nat){s:AC}{l:List α}{i:Int}{nb:Nat}{x:α}(hx:idx l i=some x)(y:E.ex){cs0:List SV}{ec:List Value}(h0:TB (i7 T n K cf m e L)=some (K',cf',m',e',L'))(hs:L'[h]?=some (.o (qB (s.v l.length) l i.toNat)))(hb:L'[h+1]?=some (.box nb cs0))(hv:L'[h+2]?=some (wOf α nb s l.length i.toNat))(hi:aR (fun i=>L'[i]?) is=some (E.Lx x y))(hc:nbL cs0=E.cs x y)(hec:aR (bI []) (E.cs x y)=some ec)(ha:cW (h :: (h+1) :: is)=true)(hz:((h :: (h+1) :: is).all fun j=>fJ j cf'.wR)=true)
  (kk:G (.mk P T hT n c B0 N X Q) K' m' e' (FX L' (h :: (h+1) :: is) ++ [ow s l]) cf'):G (.mk P T hT n c B0 N X Q) K m e L cf:=
 ceS E h is [] x y h0 hs hb hv hi hc hec ha hz rfl (by rw [aK5 hx];exact kk)
theorem iW{Z:Act->World->Prop}{α:Type}[aD α](E:CO α)(h:Nat)(is:List Nat){s:AC}{l:List α}{i:Int}{nb:Nat}{x:α}(hx:idx l i=some x)(y:E.ex){cs0:List SV}{ec:List Value}(hs:L[h]?=some (.o (qB (s.v l.length) l i.toNat)))(hb:L[h+1]?=some (.box nb cs0))(hv:L[h+2]?=some (wOf α nb s l.length i.toNat))(hi:aR (fun i=>L[i]?) is=some (E.Lx x y))(hc:nbL cs0=E.cs x y)(hec:aR (bI []) (E.cs x y)=some ec)(ha:cW (h :: (h+1) :: is)=true)
  (kk:∀a w,nI n c B0 m e (FX L (h :: (h+1) :: is) ++ [ow s l]) a w->Z a w):∀a w,nI n c B0 m e L a w->Z a w:=
 l6 E h is [] x y hs hb hv hi hc hec ha rfl (by rw [aK5 hx];exact kk)
noncomputable section
variable {x:Operand} {t el:Nat} {zv:Value} {b1:Bool} {n1:Nat} {z1:List SV}
theorem lt1{k:IntKind}{i:Int}(hk:k=.i64)(hinf:QW P el 1 zv)(hs:i7 T n K cf m e L=.op o Lv cf1 cf2 K' m' e' L')(ho:(o.op,o.dst)=(.buildSlice t 1 #[(0,x)],some d))(ht:AQ T t=some ⟨.sl el,b1,n1,z1⟩)(hx:(hU e' x).bind sN=some (k,i))
  (kk:∀s':AC,G (.mk P T hT n c B0 N X Q) K' m' ((d,.h s' [i].length) :: e') (L' ++ [ow s' [i]]) cf2):G (.mk P T hT n c B0 N X Q) K m e L cf:=by
 subst hk
 refine aNW (l:=[i]) (fun s'=>L' ++ [ow s' [i]]) hs (congrArg Prod.snd ho) (fun _=>vH _) (fun B a w hA hS=>?_) kk
 obtain⟨⟨R,s1,s2⟩,s0⟩:=hS
 obtain⟨v,w',k1,k2⟩:=aX6 (α:=Int) (e:=vE B e') (o:=o) i s1 rfl (FW ht hT) hinf (c0:=.int .i64 i) rfl (congrArg Prod.fst ho) (xH hA hx) rfl
 obtain⟨s',rfl⟩:=X8 (v:=v) (l:=[i]) k2 (L'.map (jN B)).length (by simp)
 refine⟨s',w',k1,⟨⟨R,by simpa [jN] using k2,fun z hz=>?_⟩,s0⟩⟩
 rcases gC.1 hz with hz | hz
 ·exact s2 z hz
 ·simp at hz;subst hz;trivial
end
end
end Go.Gv
end
noncomputable section
namespace Go.Gv
theorem bY.sub{c:Ctx}{α:Type}[aD α]{s s':AC}{l:List α}{a b:Nat}(h:bY c s l)(hp:gO (aD.n α) a b (s.v l.length)=s'.v ((l.take b).drop a).length)(hb:a<=b/\b<=l.length):bY c s' ((l.take b).drop a):=by
 have:=aNI (n:=aD.n α) rfl h hb.1 hb.2
 rw [hp] at this
 exact this
end Go.Gv
end
noncomputable section
namespace Go.Gv
theorem Sep.perm{w:World}{A B:List Chunk}(h:A.Perm B):∀{F:cB},Sep w A F->Sep w B F:=by
 induction h with
 | nil=>exact fun h=>h
 | cons a _ ih=>exact fun⟨F1,F2,h1,h2,hd,hF⟩=>⟨F1,F2,h1,ih h2,hd,hF⟩
 | swap a b L =>
  intro F h
  have h:Sep w (([b] ++ [a])++L) F:=h
  obtain⟨F1,F2,h1,h2,hd,hF⟩:=Sep.append.1 h
  exact(Sep.append (A:=[a] ++ [b])).2 ⟨F1,F2,h1.swap,h2,hd,hF⟩
 | trans _ _ i1 i2=>exact fun h=>i2 (i1 h)
theorem St.via{c:Ctx}{w:World}{A B:List Chunk}{R:List Fact}(h:St c w A R)(hs:∀F,Sep w A F->Sep w B F):St c w B R:=by
 obtain⟨F,S,hsep,rest⟩:=h.sep
 exact⟨h.keep,⟨F,S,hs F hsep,rest⟩,h.apart⟩
structure PV where
 b:Nat
 z:Nat
 A:List Value
 V:List Value
 C:List Value
def PV.whole(p:PV):Chunk:=QV p.b p.z (p.A++(p.V++p.C))
def PV.mid(p:PV):Chunk:=QV p.b (p.z+p.A.length) p.V
def PV.rest(p:PV):List Chunk:=[QV p.b p.z p.A,QV p.b (p.z+p.A.length+p.V.length) p.C]
theorem a0E{α:Type}{a v c:α}{M R:List α}:(a :: v :: c :: (M++R)).Perm (v :: (M++(a :: c :: R))):=by
 refine(List.Perm.swap v a _).trans (List.Perm.cons v ?_)
 exact((List.perm_middle (a:=c)).symm.cons a).trans (List.perm_middle (a:=a)).symm
theorem a3W{w:World}:∀{ps:List PV} {F:cB},Sep w (ps.map PV.whole) F->Sep w (ps.map PV.mid++ps.flatMap PV.rest) F
 | [],F,h=>h
 | p :: ps, F, h => by
  obtain⟨F1,F2,h1,h2,hd,hF⟩:=h
  exact Sep.perm a0E (Sep.append.2 ⟨F1,F2,aRE h1,a3W h2,hd,hF⟩)
theorem a3X{w:World}:∀{ps:List PV} {F:cB},Sep w (ps.map PV.mid++ps.flatMap PV.rest) F->Sep w (ps.map PV.whole) F
 | [],F,h=>h
 | p :: ps, F, h => by
  have h2:Sep w ([QV p.b p.z p.A,p.mid,QV p.b (p.z+p.A.length+p.V.length) p.C]++(ps.map PV.mid++ps.flatMap PV.rest)) F:=Sep.perm (a0E (M:=ps.map PV.mid) (R:=ps.flatMap PV.rest)).symm h
  obtain⟨F1,F2,h1,h3,hd,hF⟩:=Sep.append.1 h2
  exact⟨F1,F2,aTP h1,a3X h3,hd,hF⟩
theorem St.a0F{c:Ctx}{w:World}{A M:List Chunk}{R:List Fact}(h:St c w (A++M) R)(s0:∀b o,c.S0 b o->b < c.w0.heap.size) :
  ∃κ:Ctx,κ.w0=w/\(∀b o,κ.S0 b o->b < w.heap.size)/\St κ w A []/\(∀f:Fact,f.P c.S0 c.w0->f.P κ.S0 w)/\(∀f∈R,f.P κ.S0 w) /\
   (∀ch∈M,∀f:Fact,(∀w F,ch.P w F->f.P F w)->f.P κ.S0 w)/\∀w' A' R',St κ w' A' R'->St c w' (A'++M) R:=by
 obtain⟨F,S,hsep,hFS,hFW,hSS,hSlt,hR⟩:=h.sep
 obtain⟨F1,F2,h1,h2,hd,hF⟩:=Sep.append.1 hsep
 have hk0:c.w0.heap.size<=w.heap.size:=h.keep.size
 have h1S0:∀b o,F1 b o->c.S0 b o->False:=fun b o p q=>by
  rcases hFW b o ((hF b o).2 (.inl p)) with hw | hw
  ·exact h.apart b o hw q
  ·have:=s0 b o q;omega
 have hlt:∀b o,(S b o\/F2 b o)\/c.S0 b o->b < w.heap.size:=by
  rintro b o ((q | q) | q)
  ·exact hSlt b o q
  ·exact Sep.lt h2 q
  ·have:=s0 b o q;omega
 have hap:∀b o,F1 b o->((S b o\/F2 b o)\/c.S0 b o)->False:=by
  rintro b o p ((q | q) | q)
  ·exact hFS b o ((hF b o).2 (.inl p)) q
  ·exact hd b o p q
  ·exact h1S0 b o p q
 refine⟨⟨w,F1,fun b o=>(S b o\/F2 b o)\/c.S0 b o⟩,rfl,hlt,⟨dL.refl _ _,⟨F1,fun b o=>(S b o\/F2 b o)\/c.S0 b o,h1,hap,fun _ _ h=>.inl h,fun _ _ h=>.inl h,hlt,by simp⟩,hap⟩,fun f hf=>?_,fun f hf=>f.mono (hR f hf) fun b o q=>.inl (.inl q),fun ch hch f hf=>?_,?_⟩
 ·exact f.mono (f.agree hf fun b o q=>h.keep.cell b o (s0 b o q) fun hw=>h.apart b o hw q) fun b o q=>.inr q
 ·obtain⟨j,hj⟩:=aCD hch
  obtain⟨G1,G2,g1,_,_,gF⟩:=(Sep.take hj).1 h2
  exact f.mono (hf w G1 g1) fun b o q=>.inl (.inr ((gF b o).2 (.inl q)))
 ·intro w' A' R' k
  obtain⟨F',S',b1,b2,b3,b4,b5,b6⟩:=k.sep
  have hk:dL F1 w w':=k.keep
  have hGW:∀b o,b < c.w0.heap.size->F1 b o->c.W b o:=fun b o hb g=>by
   rcases hFW b o ((hF b o).2 (.inl g)) with h | h
   ·exact h
   ·omega
  refine⟨h.keep.trans hk hGW,⟨fun b o=>F' b o\/F2 b o,S,Sep.append.2 ⟨F',F2,b1,Sep.keep hk h2 fun b o hf g=>hd b o g hf,?_,fun _ _=>Iff.rfl⟩,?_,?_,hSS,fun b o hS=>MS (hSlt b o hS) hk.size,?_⟩,h.apart⟩
  ·intro b o hg hf
   rcases b3 b o hg with h | h
   ·exact hd b o h hf
   ·have h:w.heap.size<=b:=h
    have:=Sep.lt h2 hf;omega
  ·rintro b o (hf | hf) hS
   ·rcases b3 b o hf with h | h
    ·exact hFS b o ((hF b o).2 (.inl h)) hS
    ·have h:w.heap.size<=b:=h
     have:=hSlt b o hS;omega
   ·exact hFS b o ((hF b o).2 (.inr hf)) hS
  ·rintro b o (hf | hf)
   ·rcases b3 b o hf with h' | h'
    ·exact hFW b o ((hF b o).2 (.inl h'))
    ·exact .inr (sS h.keep.size h')
   ·exact hFW b o ((hF b o).2 (.inr hf))
  ·intro f hf
   exact f.agree (hR f hf) fun b o hS=>hk.cell b o (hSlt b o hS) fun g=>hFS b o ((hF b o).2 (.inl g)) hS
abbrev PS:=List (Nat×Nat×Nat×Nat)
def aI5:Nat->List (List SV)->List Ch
 | _,[]=>[]
 | k,c :: r=>.box k c :: aI5 (k+1) r
def KL(L:List Ch)(i n:Nat):List SV:=match L[i]? with
 | some (.box k cs) => match Nat.beq n k with
  | true=>cs
  | false=>[]
 | _=>[]
def aC5(L:List Ch):PS->Option (List (List SV))
 | []=>some []
 | (i, n, o, k) :: r => match Nat.ble (o + k) (KL L i n).length, Nat.ble 1 k, frc (((KL L i n).drop o).take k), aC5 L r with
  | true,true,some d,some ds=>some (d :: ds)
  | _,_,_,_=>none
def J0(L M:List Ch):PS->List (List SV)->List Ch
 | (i,n,o,_) :: r,c :: cs=>J0 L (M.set i (.box n (ovw (KL L i n) o c))) r cs
 | _,_=>M
def DD:PS->List Nat
 | []=>[]
 | p :: r=>p.1 :: DD r
def rnP:PS->Nat->SV->Option SV
 | [], _, x => match vG 0 x with
  | true=>some x
  | false=>none
 | (_, n, o, _) :: r, j, x => match x with
  | .p n' o' => match Nat.beq n n', Nat.beq o o' with
   | true,true=>some (.p j 0)
   | _,_=>rnP r (j+1) (.p n' o')
  | x=>rnP r (j+1) x
structure HG (c κ:Ctx) (L:List Ch) (js:List Nat):Prop where
 a:∀{α:Type} [aD α] {s:AC} {d:List α},bY c s d->bY κ s d
 o:∀{α:Type} [aD α] {s:AC} {d:List α} (i:Nat),L[i]?=some (ow s d)->fJ i js=true->bY κ s d
 f:∀{α:Type} [aD α] {s:AC} {d:List α} (i:Nat),L[i]?=some (fr s d)->bY κ s d
def PvR(B:Bl)(L:List Ch):PS->List (List SV)->List PV->Prop
 | [],[],[]=>True
 | (i,n,o,k) :: r,d :: ds,p :: ps=>(∃cs vs,L[i]?=some (.box n cs)/\B[n]?=some (p.b,p.z)/\aR (bI B) cs=some vs/\o+k<=cs.length/\p.A=vs.take o/\p.V=(vs.drop o).take k/\p.C=vs.drop (o+k)/\d=(cs.drop o).take k)/\PvR B L r ds ps
 | _,_,_=>False
def blP(pv:List PV):Bl:=pv.map fun p=>(p.b,p.z+p.A.length)
noncomputable section
variable {c:Ctx} {w:World} {B:Bl} {L:List Ch} {R:List Fact}
theorem aK7{i n:Nat}{x:SV}{r:List SV}(h:KL L i n=x :: r):L[i]?=some (.box n (x :: r)):=by
 unfold KL at h
 split at h
 ·rename_i k cs hk
  split at h
  ·rename_i hb
   rw [jJ hb,hk,h]
  ·cases h
 ·cases h
theorem a0G(hS:St c w (L.map (jN B)) R):∀{ps:PS} {ds:List (List SV)},aC5 L ps=some ds->∃pv,PvR B L ps ds pv
 | [],ds,h=>by cases h;exact⟨[],trivial⟩
 | (i, n, o, k) :: r, ds, h => by
  simp only [aC5] at h
  split at h
  ·rename_i d ds' h1 h2 h3 h4
   cases h
   have h1:=tQ h1
   have h2:=tQ h2
   obtain⟨pv,hpv⟩:=a0G hS h4
   have h3:=LL h3
   subst h3
   cases hc:KL L i n with
   | nil=>rw [hc] at h1;simp at h1;omega
   | cons x cs =>
    have hL:=aK7 hc
    obtain⟨F,b,z,vs,g1,g2,g3⟩:=hS.chunk (ch:=N7 B n (x :: cs)) i (by simp [hL,jN])
    exact⟨⟨b,z,vs.take o,(vs.drop o).take k,vs.drop (o+k)⟩ :: pv,⟨x :: cs,vs,hL,g1,g2,by rw [<-hc];exact h1,rfl,rfl,rfl,by simp only [hc]⟩,hpv⟩
  ·cases h
theorem parts{vs:List Value}{o k:Nat}:vs.take o++((vs.drop o).take k++vs.drop (o+k))=vs:=by
 rw [<-aHB,TY,TY]
theorem aQD{F:cB}:∀{ps:PS} {ds:List (List SV)} {pv:List PV} {F:cB},PvR B L ps ds pv->Sep w (pick (L.map (jN B)) (DD ps)) F->Sep w (pv.map PV.whole) F
 | [],[],[],F,_,h=>h
 | (i, n, o, k) :: r, d :: ds, p :: ps, F, ⟨⟨cs, vs, h1, h2, h3, h4, h5, h6, h7, h8⟩, hr⟩, h => by
  simp only [DD,pick,DJ,h1,KC,Option.getD_some] at h
  obtain⟨F1,F2,g1,g2,gd,gF⟩:=h
  refine⟨F1,F2,?_,aQD (F:=F) hr g2,gd,gF⟩
  obtain⟨b,z,vs',k1,k2,k3⟩:=g1
  rw [h2] at k1;cases k1
  rw [h3] at k2;cases k2
  unfold PV.whole
  rw [h5,h6,h7,parts]
  exact k3
theorem aNX{Bs:Bl}{p:PV}{ps:List PV}{j:Nat}(h:∀i,Bs[j+i]?=(blP (p :: ps))[i]?):Bs[j]?=some (p.b,p.z+p.A.length)/\∀i,Bs[j+1+i]?=(blP ps)[i]?:=by
 refine⟨?_,fun i=>?_⟩
 ·have:=h 0
  simpa [blP] using this
 ·have:=h (i+1)
  rw [show j+1+i=j+(i+1) by omega,this]
  simp [blP]
theorem aU9{Bs:Bl}:∀{ps:PS} {ds:List (List SV)} {pv:List PV} {j:Nat} {F:cB},PvR B L ps ds pv->ds.all (vG.okC 0)=true->(∀i,Bs[j+i]?=(blP pv)[i]?)->Sep w (pv.map PV.mid) F->Sep w ((aI5 j ds).map (jN Bs)) F
 | [],[],[],_,F,_,_,_,h=>h
 | (i, n, o, k) :: r, d :: ds, p :: ps, j, F, ⟨⟨cs, vs, h1, h2, h3, h4, h5, h6, h7, h8⟩, hr⟩, ho, hB, h => by
  simp only [aCC,zP] at ho
  obtain⟨F1,F2,g1,g2,gd,gF⟩:=h
  obtain⟨b1,b2⟩:=aNX hB
  refine⟨F1,F2,⟨p.b,p.z+p.A.length,p.V,b1,?_,g1⟩,aU9 hr ho.2 b2 g2,gd,gF⟩
  have e1:aR (bI B) d=some p.V:=by rw [h8,h6];exact M5 k (M4 o h3)
  have e2:=yJ ho.1 e1
  rw [VT] at e2
  exact dW (fun x v h=>by simpa using eX (B:=[]) Bs h) e2
theorem aNY{Bs:Bl}:∀{ps:PS} {ds:List (List SV)} {pv:List PV} {j:Nat} {x x':SV} {v:Value},PvR B L ps ds pv->(∀i,Bs[j+i]?=(blP pv)[i]?)->rnP ps j x=some x'->eC B x=some v->eC Bs x'=some v
 | [], [], [], j, x, x', v, _, _, hx, hv => by
  simp only [rnP] at hx
  split at hx
  ·rename_i h0
   cases hx
   have:=N8 h0 hv
   rw [VT] at this
   simpa using sW (B:=[]) Bs this
  ·cases hx
 | (i, n, o, k) :: r, d :: ds, p :: ps, j, x, x', v, ⟨⟨cs, vs, h1, h2, h3, h4, h5, h6, h7, h8⟩, hr⟩, hB, hx, hv => by
  obtain⟨b1,b2⟩:=aNX hB
  simp only [rnP] at hx
  split at hx
  ·rename_i n' o'
   split at hx
   ·rename_i e1 e2
    cases hx
    have e1:=jJ e1
    have e2:=jJ e2
    subst e1;subst e2
    simp only [eC,gV,bI,h2] at hv
    have hA:p.A.length=o:=by rw [h5,AL,j3 h3];omega
    simp only [eC,gV,bI,b1,hA,KB]
    exact hv
   ·exact aNY hr b2 hx hv
  ·exact aNY hr b2 hx hv
theorem aI7{Bs:Bl}{ps:PS}{ds:List (List SV)}{pv:List PV}(hr:PvR B L ps ds pv)(hB:∀i,Bs[0+i]?=(blP pv)[i]?):∀{xs xs':List SV} {vs:List Value},aR (rnP ps 0) xs=some xs'->aR (eC B) xs=some vs->aR (eC Bs) xs'=some vs
 | [],_,_,h,hv=>by cases h;exact hv
 | x :: xs, xs', vs, h, hv => by
  simp only [aR] at h hv
  split at h
  ·cases h
  ·rename_i h1
   split at h
   ·cases h
   ·rename_i h2
    cases h
    split at hv
    ·cases hv
    ·rename_i v1
     split at hv
     ·cases hv
     ·rename_i v2
      cases hv
      simp only [aR,aNY hr hB h1 v1,aI7 hr hB h2 v2]
def PvN(B:Bl):List PV->List (List SV)->List PV->Prop
 | [],[],[]=>True
 | p :: ps,d :: ds,q :: qs=>(q.b=p.b/\q.z=p.z/\q.A=p.A/\q.C=p.C/\q.V.length=p.V.length/\aR (bI B) d=some q.V)/\PvN B ps ds qs
 | _,_,_=>False
theorem aK8:∀{ps:List PV} {ds:List (List SV)} {qs:List PV},PvN B ps ds qs->qs.flatMap PV.rest=ps.flatMap PV.rest/\blP qs=blP ps
 | [],[],[],_=>⟨rfl,rfl⟩
 | p :: ps, d :: ds, q :: qs, ⟨⟨h1, h2, h3, h4, h5, h6⟩, hr⟩ => by
  obtain⟨e1,e2⟩:=aK8 hr
  simp only [List.flatMap_cons,e1,PV.rest,h1,h2,h3,h4,h5]
  refine⟨trivial,?_⟩
  simp only [blP,EZ,h1,h2,h3] at e2 ⊢
  rw [e2]
def V7:PS->List (List SV)->Bool
 | [],[]=>true
 | (_, _, _, k) :: r, d :: ds => match Nat.beq d.length k with
  | true=>V7 r ds
  | false=>false
 | _,_=>false
theorem aVA:∀{ps:PS} {ds:List (List SV)} {pv:List PV},PvR B L ps ds pv->pv.length=ps.length
 | [],[],[],_=>rfl
 | (i,n,o,k) :: r,d :: ds,p :: ps,⟨_,hr⟩=>by simp [aVA hr]
theorem aQE{Bs:Bl}:∀{ps:PS} {ds:List (List SV)} {pv:List PV} {es:List (List SV)} {j:Nat},PvR B L ps ds pv->V7 ps es=true->es.all (vG.okC 0)=true->(∀i,Bs[j+i]?=(blP pv)[i]?)->(∀i cs,es[i]?=some cs->∃F,(N7 Bs (j+i) cs).P w F)->∃qs,PvN B pv es qs/\iV w ((aI5 j es).map (jN Bs)) (qs.map PV.mid)
 | [],[],[],[],j,_,_,_,_,_=>⟨[],trivial,.nil⟩
 | [],[],[],e :: es,j,_,hl,_,_,_=>by simp [V7] at hl
 | (i,n,o,k) :: r,d :: ds,p :: ps,[],j,_,hl,_,_,_=>by simp [V7] at hl
 | (i, n, o, k) :: r, d :: ds, p :: ps, e :: es, j, ⟨⟨cs, vs, h1, h2, h3, h4, h5, h6, h7, h8⟩, hr⟩, hl, ho, hB, hc => by
  simp only [V7] at hl
  split at hl
  ·rename_i he
   have he:=jJ he
   simp only [aCC,zP] at ho
   obtain⟨b1,b2⟩:=aNX hB
   obtain⟨qs,q1,q2⟩:=aQE hr hl ho.2 b2 fun i cs hi=>by
    have:=hc (i+1) cs (by simpa using hi)
    rwa [show j+(i+1)=j+1+i by omega] at this
   obtain⟨F,b,z,us,g1,g2,g3⟩:=hc 0 e rfl
   have hlen:=j3 h3
   have g4:=yJ ho.1 g2
   rw [VT] at g4
   refine⟨⟨p.b,p.z,p.A,us,p.C⟩ :: qs,⟨⟨rfl,rfl,rfl,rfl,?_,dW (fun x v h=>by simpa using eX (B:=[]) B h) g4⟩,q1⟩,.cons (fun F hF=>?_) q2⟩
   ·rw [j3 g2,h6,AL,GV,he];omega
   ·obtain⟨b',z',us',k1,k2,k3⟩:=hF
    rw [show j=j+0 by omega] at b1
    simp only [KB] at g2 k2 k1 b1
    rw [b1] at k1;cases k1
    rw [g2] at k2;cases k2
    exact k3
  ·cases hl
theorem aC6:∀{ws vs:List Value} {o:Nat},o+ws.length<=vs.length->TA vs o ws=vs.take o++(ws++vs.drop (o+ws.length))
 | [],vs,o,h=>by simp [TA]
 | x :: ws, vs, o, h => by
  simp only [GU] at h
  simp only [TA]
  rw [aC6 (by simp;omega)]
  have t1:(vs.set o x).take (o+1)=vs.take o ++ [x]:=by
   rw [List.take_add_one,Y9 (by omega)]
   rw [List.take_set,List.set_eq_of_length_le (by simp;omega)]
   rfl
  have t2:(vs.set o x).drop (o+1+ws.length)=vs.drop (o+(ws.length+1)):=by
   rw [List.drop_set_of_lt (by omega),show o+1+ws.length=o+(ws.length+1) by omega]
  rw [t1,t2]
  simp
theorem aVB:∀{ps:PS} {ds es:List (List SV)} {pv qs:List PV} {M:List Ch} {F:cB},PvR B L ps ds pv->PvN B pv es qs->(∀i∈DD ps,M[i]?=some .no)->cW (DD ps)=true->Sep w (qs.map PV.whole++M.map (jN B)) F->Sep w ((J0 L M ps es).map (jN B)) F
 | [],[],[],[],[],M,F,_,_,_,_,h=>h
 | (i, n, o, k) :: r, d :: ds, e :: es, p :: ps, q :: qs, M, F, ⟨⟨cs, vs, h1, h2, h3, h4, h5, h6, h7, h8⟩, hr⟩, ⟨⟨n1, n2, n3, n4, n5, n6⟩, hn⟩, hM, ha, h => by
  simp only [DD,cW,zP] at ha
  have hi:M[i]?=some .no:=hM i (by simp [DD])
  have hlt:i < M.length:=(iE.1 hi).1
  simp only [J0]
  refine aVB (ps:=r) (ds:=ds) (es:=es) (pv:=ps) (qs:=qs) hr hn (fun j hj=>?_) ha.2 ?_
  ·have hne:i≠j:=fun e=>by
    subst e
    have:=VN.1 ha.1 _ hj
    simp at this
   rw [QZ hne]
   exact hM j (by simp [DD,hj])
  ·have h9:Sep w (qs.map PV.whole++(q.whole :: M.map (jN B))) F:=Sep.perm List.perm_middle.symm h
   obtain⟨F1,F2,g1,g2,gd,gF⟩:=Sep.append.1 h9
   refine Sep.append.2 ⟨F1,F2,g1,?_,gd,gF⟩
   have hc:KL L i n=cs:=by
    unfold KL
    rw [h1]
    simp
   have e0:(M.map (jN B)).set i FT=M.map (jN B):=by
    have:(M.map (jN B))[i]?=some FT:=by simp [hi,jN]
    obtain⟨hl,he⟩:=iE.1 this
    rw [<-he];exact aHD hl
   have e1:Sep w ((M.map (jN B)).set i q.whole) F2:=Sep.put (by simpa using hlt) (by rw [e0];exact g2)
   rw [MQ,hc]
   refine Sep.imp ?_ e1
   refine iV.set i (iV.refl _) fun F hF=>⟨p.b,p.z,q.A++(q.V++q.C),h2,?_,by rw [<-n1,<-n2];exact hF⟩
   have hlen:=j3 h3
   have hV:p.V.length=k:=by rw [h6,AL,GV];omega
   have hVe:e.length=k:=by rw [<-j3 n6,n5,hV]
   rw [aIU _ _ _ (by omega),n3,n4,h5,h7]
   have:=VY o h3 n6
   rw [this,aC6 (by omega),n5,hV]
 | [],[],e :: es,[],_,M,F,_,hn,_,_,_=>by simp [PvN] at hn
 | [],[],[],[],q :: qs,M,F,_,hn,_,_,_=>by simp [PvN] at hn
 | (i,n,o,k) :: r,d :: ds,[],p :: ps,qs,M,F,_,hn,_,_,_=>by simp [PvN] at hn
 | (i,n,o,k) :: r,d :: ds,e :: es,p :: ps,[],M,F,_,hn,_,_,_=>by simp [PvN] at hn
theorem aK9{x:Ch}:∀{ps:PS} {es:List (List SV)} {M:List Ch},x∈J0 L M ps es->x∈M\/∃n cs,x=.box n cs
 | [],_,M,h=>.inl (by simpa [J0] using h)
 | (i,n,o,k) :: r,[],M,h=>.inl (by simpa [J0] using h)
 | (i, n, o, k) :: r, e :: es, M, h => by
  rcases aK9 (ps:=r) (es:=es) (by simpa [J0] using h) with h | h
  ·rcases sQ h with h | h
   ·exact .inl h
   ·exact .inr ⟨_,_,h⟩
  ·exact .inr h
end
end Go.Gv
end
noncomputable section
namespace Go.Gv
def cpS:Stop->Option (Oper×Option Nat×FuncId×List SV×tO×tO×List Fr×Nat×SE×List Ch)
 | .call o d f xs cf cf' K m e L=>some (o,d,f,xs,cf,cf',K,m,e,L)
 | .callp o d f xs cf cf' K m e L=>some (o,d,f,xs,cf,cf',K,m,e,L)
 | _=>none
def ZS(d:Option Nat)(v:SV)(e:SE):SE:=match d with
 | some d=>(d,v) :: e
 | none=>e
def E3:List Ch->Bool
 | []=>true
 | .o _ :: L=>E3 L
 | _ :: _=>false
theorem Q6{B B':Bl}:∀{L:List Ch},E3 L=true->L.map (jN B)=L.map (jN B')
 | [],_=>rfl
 | .o c :: L,h=>by simp only [EZ,jN];rw [Q6 (L:=L) h]
theorem Q7{B:Bl}{R:List Fact}:∀{L:List Ch},E3 L=true->∀x∈L,roF B R x
 | [],_,x,hx=>by cases hx
 | .o c :: L, h, x, hx => by
  rcases gW.1 hx with hx | hx
  ·subst hx;trivial
  ·exact Q7 (L:=L) h x hx
theorem aLA{B:Bl}{R:List Fact}:∀{cs:List (List SV)} {k:Nat},∀x∈aI5 k cs,roF B R x
 | [],k,x,hx=>by cases hx
 | c :: cs, k, x, hx => by
  rcases gW.1 hx with hx | hx
  ·subst hx;trivial
  ·exact aLA x hx
theorem aC7:∀{cs:List (List SV)} {k i:Nat} {c:List SV},cs[i]?=some c->(aI5 k cs)[i]?=some (.box (k+i) c)
 | c' :: cs,k,0,c,h=>by simp at h;subst h;rfl
 | c' :: cs, k, i + 1, c, h => by
  have:=aC7 (k:=k+1) (show cs[i]?=some c by simpa using h)
  simpa [aI5,E0,Nat.add_comm 1] using this
theorem V8{L:List Chunk}:∀{a b:List Nat},pick L (a++b)=pick L a++pick L b
 | [],b=>rfl
 | i :: a,b=>by simp only [TW,pick,V8 (a:=a)]
theorem aBY:∀{js:List Nat} {L:List Ch},(FX L js).length=L.length
 | [],L=>rfl
 | j :: js,L=>by simp only [FX];rw [aBY];simp
theorem aVC:∀{js:List Nat} {L:List Ch} {i:Nat},i < L.length->L[i]?=some .no\/i∈js->(FX L js)[i]?=some .no
 | [],L,i,_,h=>by rcases h with h | h;exact h;cases h
 | j :: js, L, i, hl, h => by
  simp only [FX]
  refine aVC (by simpa using hl) ?_
  by_cases e:j=i
  ·subst e;left;rw [Y9 hl]
  ·rw [QZ e]
   rcases h with h | h
   ·exact .inl h
   ·rcases gW.1 h with h | h
    ·exact absurd h.symm e
    ·exact .inr h
theorem aVD{B:Bl}{L:List Ch}:∀{ps:PS} {ds:List (List SV)} {pv:List PV},PvR B L ps ds pv->∀i∈DD ps,i < L.length
 | [],[],[],_,i,h=>by cases h
 | (i, n, o, k) :: r, d :: ds, p :: ps, ⟨⟨cs, vs, h1, _⟩, hr⟩, j, h => by
  rcases gW.1 h with h | h
  ·subst h;exact(iE.1 h1).1
  ·exact aVD hr j h
theorem aQG:∀{a b:List Nat},cW (a++b)=true->cW a=true
 | [],b,_=>rfl
 | i :: a, b, h => by
  simp only [TW,cW,zP,List.all_append] at h ⊢
  exact⟨h.1.1,aQG h.2⟩
theorem aLB{g:Gx}{cf:tO}{L M:List Ch}{j:Nat}{z:Ch}(h:Frz g cf L M)(hn:fJ j cf.wR=true):Frz g cf L (M.set j z):=by
 cases cf with
 | d B1 ops l is Lf Lv =>
  intro hD
  obtain⟨h1,h2⟩:=h hD
  have:=SZ (L:=M) (M:=[]) (j:=j) (z:=z) h2 hn
  rw [xG] at this
  exact⟨by rw [this];exact h1,fun i hi=>by simpa using h2 i hi⟩
 | o B1 ops l is Lf Lv ii =>
  intro hD
  obtain⟨h1,h2⟩:=h hD
  have:=SZ (L:=M) (M:=[]) (j:=j) (z:=z) h2 hn
  rw [xG] at this
  exact⟨by rw [this];exact h1,fun i hi=>by simpa using h2 i hi⟩
 | _=>trivial
theorem aLC{g:Gx}{cf:tO}{L L0:List Ch}:∀{ps:PS} {es:List (List SV)} {M:List Ch},Frz g cf L M->((DD ps).all fun j=>fJ j cf.wR)=true->Frz g cf L (J0 L0 M ps es)
 | [],_,M,h,_=>by simpa [J0] using h
 | (i,n,o,k) :: r,[],M,h,_=>by simpa [J0] using h
 | (i, n, o, k) :: r, e :: es, M, h, hz => by
  simp only [DD,aCC,zP] at hz
  exact aLC (ps:=r) (es:=es) (aLB h hz.1) hz.2
theorem X9{i:Nat}:∀{js:List Nat},fJ i js=true->(js.all fun j=>!Nat.beq j i)=true
 | [],_=>rfl
 | j :: js, h => by
  simp only [fJ] at h
  split at h
  ·cases h
  ·rename_i hb
   simp only [aCC,zP,Bool.not_eq_true']
   refine⟨?_,X9 h⟩
   cases hji:Nat.beq j i with
   | false=>rfl
   | true =>
    rw [jJ hji] at hb
    simp at hb
theorem aVE{g:Gx}{s:Stop}{o:Oper}{d:Option Nat}{f:FuncId}{xs:List SV}{cf cf':tO}{K:List Fr}{m:Nat}{e:SE}{L:List Ch}(hs:cpS s=some (o,d,f,xs,cf,cf',K,m,e,L))
  (h:∀fo args ats,o.op=.call {callee:=.value fo,args:=args,argTypes:=ats}->o.dst=d->hU e fo=some (.f f [])->(∃ys,aR (hU e) args.toList=some ys/\nbA ys=xs)->oY g.n d=true->ZF g K m e L o cf cf'->G g K m e L cf):Gs g s:=by
 cases s <;> simp only [cpS] at hs <;> cases hs
 ·exact fun fo args ats a1 a2 a3 a4 _ a6 a7=>h fo args ats a1 a2 a3 a4 a6 a7
 ·exact h
noncomputable section
variable {P:Program} {T:TT} {hT:D7 P T} {n:Nat} {c:Ctx} {B0:Bl} {N:Act->World->Prop} {X:Nat->Act->World->Prop} {Q:Act->World->Prop} {K K':List Fr} {m m':Nat} {e e':SE} {L L':List Ch} {cf cf1 cf2:tO} {o:Oper}
theorem cwk{α β ex:Type}{fo:Option α}{kf:α->Option β}{q:β}{d:Option Nat}{f:FuncId}{xs xs0:List SV}{cs0:List (List SV)}{M:List Ch}{sv:α->ex->SV}{cb:α->ex->List (List SV)}{Lr:α->ex->List Ch}(ps:PS)(is:List Nat)
  (hs:cpS (i7 T n K cf m e L)=some (o,d,f,xs,cf1,cf2,K',m',e',L')) (hb:aC5 L' ps=some cs0) (hi:aR (fun i=>L'[i]?) is=some M) (hx:aR (rnP ps 0) xs=some xs0)
  (hk:(E3 M && (cs0.all (vG.okC 0) && (cW (DD ps++is) && (DD ps++is).all fun j=>fJ j cf1.wR)))=true)
  (hn:∀x y,(V7 ps (cb x y) && ((cb x y).all (vG.okC 0) && (E3 (Lr x y) && vG 0 (sv x y))))=true)
  (hc:∀{κ:Ctx},HG c κ L' (DD ps++is)->∀{Bs:Bl},Bs.length=ps.length->∀{x},fo=some x->FnS P f κ xs0 Bs (aI5 0 cs0++M) sv (fun x y=>aI5 0 (cb x y)++Lr x y) x)
  (hF:fo.bind kf=some q)
  (k:∀x,fo=some x->kf x=some q->∀y:ex,G (.mk P T hT n c B0 N X Q) K' m' (ZS d (sv x y) e') (J0 L' (FX L' (DD ps++is)++Lr x y) ps (cb x y)) cf2):G (.mk P T hT n c B0 N X Q) K m e L cf:=by
 refine fY (g:=.mk P T hT n c B0 N X Q) (aVE hs ?_)
 intro fo' args ats ho hd hf ⟨ys,hys,hxs⟩ hdn hE
 simp only [zP] at hk hn
 obtain⟨hkM,hkc,hka,hkz⟩:=hk
 cases hfo:fo with
 | none=>rw [hfo] at hF;cases hF
 | some x =>
  rw [hfo] at hF
  have hz2:((DD ps).all fun j=>fJ j cf1.wR)=true:=by
   rw [List.all_append,zP] at hkz;exact hkz.1
  refine hE ex (fun _=>m') (fun y=>ZS d (sv x y) e') (fun y=>J0 L' (FX L' (DD ps++is)++Lr x y) ps (cb x y)) (fun y=>aLC (N9 _ hkz) hz2) (fun B a w next Q' hm hA hS hnext=>?_) (k x hfo hF)
  generalize hBB:T0 (.mk P T hT n c B0 N X Q) cf1++B=BB at hm hA hS hnext
  obtain⟨⟨R,s1,s2⟩,s0⟩:=hS
  obtain⟨pv,hpv⟩:=a0G s1 hb
  have hBs:(blP pv).length=ps.length:=by simp [blP,aVA hpv]
  have hB0:∀i,(blP pv)[0+i]?=(blP pv)[i]?:=fun i=>by rw [AM]
  have f1:=s1.front (DD ps++is) hka
  have f2:St c w ((pv.map PV.mid++M.map (jN BB))++(pv.flatMap PV.rest++blank (L'.map (jN BB)) (DD ps++is))) R:=by
   refine f1.via fun F h=>?_
   rw [V8,KK hi] at h
   obtain⟨F1,F2,g1,g2,gd,gF⟩:=Sep.append.1 h
   obtain⟨F3,F4,g3,g4,gd2,gF2⟩:=Sep.append.1 g1
   have g5:=a3W (aQD (F:=F) hpv g3)
   have g6:Sep w (((pv.map PV.mid++pv.flatMap PV.rest)++M.map (jN BB))++blank (L'.map (jN BB)) (DD ps++is)) F:=Sep.append.2 ⟨F1,F2,Sep.append.2 ⟨F3,F4,g5,g4,gd2,gF2⟩,g2,gd,gF⟩
   refine Sep.perm ?_ g6
   simp only [tN]
   refine List.Perm.append_left _ ?_
   rw [<-tN,<-tN]
   exact List.Perm.append_right _ List.perm_append_comm
  obtain⟨κ,k1,k2,k3,k4,k5,k6,k7⟩:=f2.a0F s0
  subst k1
  have hHG:HG c κ L' (DD ps++is):=by
   refine⟨fun{α} _ {s d} h=>k4 (zQ [s.v d.length] d) h,fun{α} _ {s d} i hi hj=>?_,fun{α} _ {s d} i hi=>k5 _ (s2 _ (tP hi))⟩
   have:(blank (L'.map (jN BB)) (DD ps++is))[i]?=some (aZ [s.v d.length] d):=by
    rw [X2 (X9 hj),DJ,hi];rfl
   exact k6 _ (List.mem_append_right _ (tP this)) (zQ [s.v d.length] d) fun w F h=>aD.own_rd h
  obtain⟨hcall,hrun⟩:=hc hHG hBs hfo
  obtain⟨vs,h1,h2⟩:=T1 hA hys
  obtain⟨v,h3,h4⟩:=dR hA hf
  simp [eC,aR] at h3
  subst h3
  have h1':aR (eC BB) xs=some vs:=by rw [<-hxs,KH];exact h1
  have hst:kV κ κ.w0 (blP pv) (aI5 0 cs0++M):=by
   refine⟨⟨[],?_,fun x hx=>?_⟩,k2⟩
   ·rw [wI,Q6 (B':=BB) hkM]
    refine k3.via fun F h=>?_
    obtain⟨F1,F2,g1,g2,gd,gF⟩:=Sep.append.1 h
    exact Sep.append.2 ⟨F1,F2,aU9 hpv hkc hB0 g1,g2,gd,gF⟩
   ·rcases gC.1 hx with hx | hx
    ·exact aLA x hx
    ·exact Q7 hkM x hx
  have h5:=hrun vs (aI7 hpv hB0 hx h1') hst
  have h6:=M7 (w:=κ.w0) hcall ho h4 h2
  unfold Oper.wp
  rw [h6 _ a hA.env,Oper.upon_enter]
  refine Calls.mono h5 fun en w' ⟨v,hv,y,g1,g2⟩=>?_
  subst hv
  obtain⟨n1,n2,n3,n4⟩:=hn x y
  have g3:=sW BB (aHS n4 g1)
  rw [aCG] at g3
  obtain⟨⟨R',t1,t2⟩,t0⟩:=g2
  obtain⟨qs,q1,q2⟩:=aQE (w:=w') hpv n1 n2 hB0 fun i cs hi=>t1.chunk (ch:=N7 (blP pv) (0+i) cs) i (by
   rw [DJ,IK (by
    have:=(iE.1 (aC7 (k:=0) hi)).1
    exact this),aC7 hi];rfl)
  obtain⟨e1,e2⟩:=aK8 q1
  have t3:St κ w' (qs.map PV.mid++(Lr x y).map (jN BB)) R':=by
   refine t1.imp ?_
   rw [wI,Q6 (B:=blP pv) (B':=BB) n3]
   exact iV.append q2 (iV.refl _)
  have t4:=k7 w' _ R' t3
  have t5:St c w' ((J0 L' (FX L' (DD ps++is)++Lr x y) ps (cb x y)).map (jN BB)) R:=by
   refine t4.via fun F h=>?_
   refine aVB hpv q1 (fun i hi=>?_) (aQG hka) ?_
   ·have hl:=aVD hpv i hi
    rw [IK (by rw [aBY];exact hl)]
    exact aVC hl (.inr (ZA _ hi))
   ·rw [wI,D8]
    have h7:Sep w' ((qs.map PV.mid++qs.flatMap PV.rest)++(blank (L'.map (jN BB)) (DD ps++is)++(Lr x y).map (jN BB))) F:=by
     rw [e1]
     refine Sep.perm ?_ h
     simp only [tN]
     refine List.Perm.append_left _ ?_
     rw [<-tN (pv.flatMap PV.rest)]
     exact List.perm_append_comm
    obtain⟨F1,F2,p1,p2,pd,pF⟩:=Sep.append.1 h7
    exact Sep.append.2 ⟨F1,F2,a3X p1,p2,pd,pF⟩
  have t6:kV c w' BB (J0 L' (FX L' (DD ps++is)++Lr x y) ps (cb x y)):=by
   refine⟨⟨R,t5,fun z hz=>?_⟩,s0⟩
   rcases aK9 hz with hz | ⟨_,_,hz⟩
   ·rcases gC.1 hz with hz | hz
    ·rcases KJ _ _ hz with hz | hz
     ·exact s2 z hz
     ·subst hz;trivial
    ·exact Q7 n3 z hz
   ·subst hz;trivial
  rw [hd]
  cases d with
  | none=>exact hnext y _ _ ⟨[],by simpa using hm,by simpa [ZS,Act.put] using hA,by simpa using t6⟩
  | some d=>exact hnext y _ _ ⟨[],by simpa using hm,by simpa [ZS] using hA.of g3 (hA.env.put (by simpa [oY,mQ] using hdn) v),by simpa using t6⟩
end
end Go.Gv
end
noncomputable section
namespace Go.Gv
noncomputable section
variable {P:Program} {T:TT} {hT:D7 P T} {n:Nat} {c:Ctx} {B0:Bl} {N:Act->World->Prop} {X:Nat->Act->World->Prop} {Q:Act->World->Prop} {K K':List Fr} {m m':Nat} {e e':SE} {L L' Lv:List Ch} {cf cf' cf1 cf2:tO} {o:Oper}
noncomputable section
variable {α β ex:Type} {fo:Option α} {kf:α->Option β} {q:β} {d:Option Nat} {f:FuncId} {xs xs0:List SV} {M:List Ch} {sv:α->ex->SV} {Lr:α->ex->List Ch}
theorem cw0(is:List Nat)
  (hs:cpS (i7 T n K cf m e L)=some (o,d,f,xs,cf1,cf2,K',m',e',L')) (hi:aR (fun i=>L'[i]?) is=some M) (hx:aR (rnP [] 0) xs=some xs0)
  (hk:(E3 M && (cW is && is.all fun j=>fJ j cf1.wR))=true) (hn:∀x y,(E3 (Lr x y) && vG 0 (sv x y))=true)
  (hc:∀{κ:Ctx},HG c κ L' is->∀{x},fo=some x->FnS P f κ xs0 [] M sv Lr x) (hF:fo.bind kf=some q)
  (k:∀x,fo=some x->kf x=some q->∀y:ex,G (.mk P T hT n c B0 N X Q) K' m' (ZS d (sv x y) e') (FX L' is++Lr x y) cf2):G (.mk P T hT n c B0 N X Q) K m e L cf:=
 cwk (cb:=fun _ _=>[]) (Lr:=Lr) [] is hs rfl hi hx (by simpa [DD] using hk) (fun x y=>by simpa [V7] using hn x y) (fun{κ} h Bs hl x hx=>match Bs,hl with | [],_=>hc (by simpa [DD] using h) hx) hF (fun x h1 h2 y=>by simpa [J0,DD] using k x h1 h2 y)
theorem cw1{c1:List SV}{a1:α->ex->List SV}(i1 n1 o1 k1:Nat)(is:List Nat)
  (hs:cpS (i7 T n K cf m e L)=some (o,d,f,xs,cf1,cf2,K',m',e',L')) (hb:aC5 L' [(i1,n1,o1,k1)]=some [c1]) (hi:aR (fun i=>L'[i]?) is=some M) (hx:aR (rnP [(i1,n1,o1,k1)] 0) xs=some xs0)
  (hk:(E3 M && ([c1].all (vG.okC 0) && (cW (i1 :: is) && (i1 :: is).all fun j=>fJ j cf1.wR)))=true) (hn:∀x y,(V7 [(i1,n1,o1,k1)] [a1 x y] && ([a1 x y].all (vG.okC 0) && (E3 (Lr x y) && vG 0 (sv x y))))=true)
  (hc:∀{κ:Ctx},HG c κ L' (i1 :: is)->∀{b1:Nat×Nat} {x},fo=some x->FnS P f κ xs0 [b1] (.box 0 c1 :: M) sv (fun x y=>.box 0 (a1 x y) :: Lr x y) x) (hF:fo.bind kf=some q)
  (k:∀x,fo=some x->kf x=some q->∀y:ex,G (.mk P T hT n c B0 N X Q) K' m' (ZS d (sv x y) e') (J0 L' (FX L' (i1 :: is)++Lr x y) [(i1,n1,o1,k1)] [a1 x y]) cf2):G (.mk P T hT n c B0 N X Q) K m e L cf:=
 cwk (cb:=fun x y=>[a1 x y]) (Lr:=Lr) [(i1,n1,o1,k1)] is hs hb hi hx hk hn (fun{κ} h Bs hl x hx=>match Bs,hl with | [b1],_=>hc h hx) hF k
theorem cw2{c1 c2:List SV}{a1 a2:α->ex->List SV}(i1 n1 o1 k1:Nat)(i2 n2 o2 k2:Nat)(is:List Nat)
  (hs:cpS (i7 T n K cf m e L)=some (o,d,f,xs,cf1,cf2,K',m',e',L')) (hb:aC5 L' [(i1,n1,o1,k1),(i2,n2,o2,k2)]=some [c1,c2]) (hi:aR (fun i=>L'[i]?) is=some M) (hx:aR (rnP [(i1,n1,o1,k1),(i2,n2,o2,k2)] 0) xs=some xs0)
  (hk:(E3 M && ([c1,c2].all (vG.okC 0) && (cW (i1 :: i2 :: is) && (i1 :: i2 :: is).all fun j=>fJ j cf1.wR)))=true) (hn:∀x y,(V7 [(i1,n1,o1,k1),(i2,n2,o2,k2)] [a1 x y,a2 x y] && ([a1 x y,a2 x y].all (vG.okC 0) && (E3 (Lr x y) && vG 0 (sv x y))))=true)
  (hc:∀{κ:Ctx},HG c κ L' (i1 :: i2 :: is)->∀{b1 b2:Nat×Nat} {x},fo=some x->FnS P f κ xs0 [b1,b2] (.box 0 c1 :: .box 1 c2 :: M) sv (fun x y=>.box 0 (a1 x y) :: .box 1 (a2 x y) :: Lr x y) x) (hF:fo.bind kf=some q)
  (k:∀x,fo=some x->kf x=some q->∀y:ex,G (.mk P T hT n c B0 N X Q) K' m' (ZS d (sv x y) e') (J0 L' (FX L' (i1 :: i2 :: is)++Lr x y) [(i1,n1,o1,k1),(i2,n2,o2,k2)] [a1 x y,a2 x y]) cf2):G (.mk P T hT n c B0 N X Q) K m e L cf:=
 cwk (cb:=fun x y=>[a1 x y,a2 x y]) (Lr:=Lr) [(i1,n1,o1,k1),(i2,n2,o2,k2)] is hs hb hi hx hk hn (fun{κ} h Bs hl x hx=>match Bs,hl with | [b1,b2],_=>hc h hx) hF k
theorem cw3{c1 c2 c3:List SV}{a1 a2 a3:α->ex->List SV}(i1 n1 o1 k1:Nat)(i2 n2 o2 k2:Nat)(i3 n3 o3 k3:Nat)(is:List Nat)
  (hs:cpS (i7 T n K cf m e L)=some (o,d,f,xs,cf1,cf2,K',m',e',L')) (hb:aC5 L' [(i1,n1,o1,k1),(i2,n2,o2,k2),(i3,n3,o3,k3)]=some [c1,c2,c3]) (hi:aR (fun i=>L'[i]?) is=some M) (hx:aR (rnP [(i1,n1,o1,k1),(i2,n2,o2,k2),(i3,n3,o3,k3)] 0) xs=some xs0)
  (hk:(E3 M && ([c1,c2,c3].all (vG.okC 0) && (cW (i1 :: i2 :: i3 :: is) && (i1 :: i2 :: i3 :: is).all fun j=>fJ j cf1.wR)))=true) (hn:∀x y,(V7 [(i1,n1,o1,k1),(i2,n2,o2,k2),(i3,n3,o3,k3)] [a1 x y,a2 x y,a3 x y] && ([a1 x y,a2 x y,a3 x y].all (vG.okC 0) && (E3 (Lr x y) && vG 0 (sv x y))))=true)
  (hc:∀{κ:Ctx},HG c κ L' (i1 :: i2 :: i3 :: is)->∀{b1 b2 b3:Nat×Nat} {x},fo=some x->FnS P f κ xs0 [b1,b2,b3] (.box 0 c1 :: .box 1 c2 :: .box 2 c3 :: M) sv (fun x y=>.box 0 (a1 x y) :: .box 1 (a2 x y) :: .box 2 (a3 x y) :: Lr x y) x) (hF:fo.bind kf=some q)
  (k:∀x,fo=some x->kf x=some q->∀y:ex,G (.mk P T hT n c B0 N X Q) K' m' (ZS d (sv x y) e') (J0 L' (FX L' (i1 :: i2 :: i3 :: is)++Lr x y) [(i1,n1,o1,k1),(i2,n2,o2,k2),(i3,n3,o3,k3)] [a1 x y,a2 x y,a3 x y]) cf2):G (.mk P T hT n c B0 N X Q) K m e L cf:=
 cwk (cb:=fun x y=>[a1 x y,a2 x y,a3 x y]) (Lr:=Lr) [(i1,n1,o1,k1),(i2,n2,o2,k2),(i3,n3,o3,k3)] is hs hb hi hx hk hn (fun{κ} h Bs hl x hx=>match Bs,hl with | [b1,b2,b3],_=>hc h hx) hF k
end
theorem a0I(s:AC)(n1 n2:Nat):MW (s.v n1)=MW (s.v n2):=by obtain⟨a,c⟩:=s;cases a <;> rfl
theorem a0J(s:AC)(q k n1 n2:Nat):MO q k (s.v n1)=MO q k (s.v n2):=by obtain⟨a,c⟩:=s;cases a <;> rfl
theorem ro{α β:Type}[aD α](E:CO α)(j v nb:Nat){s:AC}{i:Int}{n0:Nat}{ls:List α}{kf:α->Option β}{q:β}(hs:TB (i7 T n K cf m e L)=some (K',cf',m',e',L'))(hj:L'[j]?=some (ow s ls))(hv:L'[v]?=some (wOf α nb s n0 i.toNat))(hz:fJ j cf'.wR=true)(hF:(idx ls i).bind kf=some q)
  (k:∀x,idx ls i=some x->kf x=some q->∀y:E.ex,G (.mk P T hT n c B0 N X Q) K' m' e' (L'.set j .no++([.o (qB (s.v ls.length) ls i.toNat),.box nb (E.cs x y),wOf α nb s ls.length i.toNat]++E.Lx x y)) cf'):G (.mk P T hT n c B0 N X Q) K m e L cf:=by
 refine go hs ?_
 cases hi:idx ls i with
 | none=>rw [hi] at hF;cases hF
 | some x =>
  rw [hi] at hF
  refine chg (fun _=>m') (fun _=>e') (fun y:E.ex=>L'.set j .no++([.o (qB (s.v ls.length) ls i.toNat),.box nb (E.cs x y),wOf α nb s ls.length i.toNat]++E.Lx x y)) (fun B a w hm hA hS=>?_) (fun y=>aI2 hz) (fun y=>k x hi hF y)
  obtain⟨⟨R,s1,s2⟩,s0⟩:=hS
  have hB:B[nb]?=some (MW (s.v ls.length),MO (aD.n α) i.toNat (s.v ls.length)):=by
   rw [a0I s ls.length n0,a0J s _ _ ls.length n0];exact s2 _ (tP hv)
  have hj2:(L'.map (jN B))[j]?=some (aZ [s.v ls.length] ls):=by simp [hj,jN]
  obtain⟨ec,h1⟩:=s1.open j hj2 (jZ hi).2.2
  have hlen:((L'.map (jN B)).set j FT).length=L'.length:=by simp
  obtain⟨F,hF'⟩:=h1.chunk (L'.length+2) (by rw [DI (by omega)];simp;rfl)
  obtain⟨y,hy2⟩:=E.op (show aD.own w ec x F from hF')
  have h2:=h1.unpack (L'.length+2) (by rw [DI (by omega)];simp) (E.pk hy2)
  have hset:((L'.map (jN B)).set j FT ++ [qB (s.v ls.length) ls i.toNat,QV (MW (s.v ls.length)) (MO (aD.n α) i.toNat (s.v ls.length)) ec,aZ ec x]).set (L'.length+2) FT=(L'.map (jN B)).set j FT ++ [qB (s.v ls.length) ls i.toNat,QV (MW (s.v ls.length)) (MO (aD.n α) i.toNat (s.v ls.length)) ec,FT]:=by
   rw [List.set_append_right _ _ (by omega)]
   simp
  rw [hset] at h2
  refine⟨y,[],by simpa using hm,by simpa using hA,⟨⟨R,?_,fun z hz=>?_⟩,s0⟩⟩
  ·have e1:(L'.set j Ch.no).map (jN B)=(L'.map (jN B)).set j FT:=by rw [MQ];rfl
   refine h2.imp ?_
   rw [xG,wI,wI,<-e1,tN]
   refine iV.append (iV.refl _) (iV.append (.cons (fun _ h=>h) (.cons (fun F h=>⟨_,_,ec,hB,dW (fun x v h=>by simpa using eX (B:=[]) B h) hy2,h⟩) (.cons (fun _ h=>h) .nil))) ?_)
   rw [E.nb x y B];exact iV.refl _
  ·rw [xG]
   rcases gC.1 hz with hz | hz
   ·rcases sQ hz with hz | hz
    ·exact s2 z hz
    ·subst hz;trivial
   ·rcases gC.1 hz with hz | hz
    ·simp at hz
     rcases hz with rfl | rfl | rfl
     ·trivial
     ·trivial
     ·exact hB
    ·exact aI0 (E.no x y) z hz
theorem nw(α:Type)[aD α](hs:TB (i7 T n K cf m e L)=some (K',cf',m',e',L'))
  (k:G (.mk P T hT n c B0 N X Q) K' m' e' (L' ++ [ow ⟨none,0⟩ ([]:List α)]) cf'):G (.mk P T hT n c B0 N X Q) K m e L cf:=by
 refine go hs ?_
 refine chg (fun _:Unit=>m') (fun _=>e') (fun _=>L' ++ [ow ⟨none,0⟩ ([]:List α)]) (fun B a w hm hA hS=>?_) (fun _=>vH _) (fun _=>k)
 obtain⟨⟨R,s1,s2⟩,s0⟩:=hS
 refine⟨(),[],by simpa using hm,by simpa using hA,⟨⟨R,?_,fun z hz=>?_⟩,s0⟩⟩
 ·rw [xG,wI]
  exact St.more s1 (dL.refl _ _) ⟨F0,⟨none,0,rfl,jA _,jK _,.inl ⟨rfl,rfl,fun _ _ h=>h⟩⟩,fun _ _ h=>h.elim⟩
 ·rw [xG]
  rcases gC.1 hz with hz | hz
  ·exact s2 z hz
  ·simp at hz;subst hz;trivial
theorem DE{Z:Act->World->Prop}(α:Type)[aD α](kk:∀a w,nI n c B0 m e (L ++ [ow ⟨none,0⟩ ([]:List α)]) a w->Z a w):∀a w,nI n c B0 m e L a w->Z a w:=by
 intro a w ⟨B,hm,hA,hS⟩
 refine kk a w ⟨B,hm,hA,?_⟩
 obtain⟨⟨R,s1,s2⟩,s0⟩:=hS
 refine⟨⟨R,?_,fun z hz=>?_⟩,s0⟩
 ·rw [wI]
  exact St.more s1 (dL.refl _ _) ⟨F0,⟨none,0,rfl,jA _,jK _,.inl ⟨rfl,rfl,fun _ _ h=>h⟩⟩,fun _ _ h=>h.elim⟩
 ·rcases gC.1 hz with hz | hz
  ·exact s2 z hz
  ·simp at hz;subst hz;trivial
end
end Go.Gv
end
noncomputable section
namespace Go.Gv
def AC.sub(s:AC)(n a:Nat):AC:=⟨if s.c=a then s.a else s.a.map (·.add (a * n)),s.c - a⟩
theorem PI{α:Type}{l:List α}{s:AC}{n a b k:Nat}(h1:a<=b)(h2:b<=l.length):gO n a b (s.v k)=(s.sub n a).v ((l.take b).drop a).length:=by
 rw [vF h1 h2];rfl
noncomputable section
variable {P:Program} {T:TT} {hT:D7 P T} {n:Nat} {c:Ctx} {B0:Bl} {N:Act->World->Prop} {X:Nat->Act->World->Prop} {Q:Act->World->Prop} {K K':List Fr} {m m':Nat} {e e':SE} {L L' Lv:List Ch} {cf cf' cf1 cf2:tO} {o:Oper} {d:Nat}
theorem cpc{α:Type}[aD α](j:Nat){s:AC}{l:List α}(hs:TB (i7 T n K cf m e L)=some (K',cf',m',e',L'))(hj:L'[j]?=some (ow s l))(k:l.length<=s.c->G (.mk P T hT n c B0 N X Q) K' m' e' L' cf'):G (.mk P T hT n c B0 N X Q) K m e L cf:=by
 refine go hs ?_
 refine chg (fun _:PLift (l.length<=s.c)=>m') (fun _=>e') (fun _=>L') (fun B a w hm hA hS=>?_) (fun _=>by simpa using vH (L:=L') []) (fun h=>k h.down)
 obtain⟨⟨R,s1,s2⟩,s0⟩:=hS
 obtain⟨F,hF⟩:=s1.chunk (ch:=aZ [s.v l.length] l) j (by simp [hj,jN])
 obtain⟨ad,cp,h1,h2⟩:=IF (show aD.own w [s.v l.length] l F from hF)
 simp only [AC.v,Value.slice.injEq] at h1
 exact⟨⟨by omega⟩,[],by simpa using hm,by simpa using hA,⟨⟨R,by simpa using s1,by simpa using s2⟩,s0⟩⟩
noncomputable section
variable {x y z u:Operand} {t el sz:Nat} {k1 k2 k3:IntKind} {i j p:Int} {α β:Type} [aD α] {A:Option β} {q:β} {s:AC} {l:List α} {b1 b2:Bool} {n1:Nat} {z1 z2:List SV} {kt:TK}
theorem aI8(hc:l.length<=s.c)(hs:opS (i7 T n K cf m e L)=some (o,Lv,cf1,cf2,K',m',e',L'))(ho:(o.op,o.dst)=(.slice t x (some y) none none,some d))(ht:AQ T t=some ⟨.sl el,b1,n1,z1⟩)(he:AQ T el=some ⟨kt,b2,sz,z2⟩)(hx:hU e' x=some (.h s l.length))(hy:(hU e' y).bind sN=some (k1,i))(hF:need (0<=i/\i<=(l.length:Int)) A=some q)
  (kk:A=some q->(i.toNat<=l.length/\l.length<=l.length)->G (.mk P T hT n c B0 N X Q) K' m' ((d,.h (s.sub sz i.toNat) ((l.take l.length).drop i.toNat).length) :: e') L' cf2):G (.mk P T hT n c B0 N X Q) K m e L cf:=by
 have hop:o.op=.slice t x (some y) none none:=congrArg Prod.fst ho
 have hb:=(iU hF).1
 have hb2:i.toNat<=l.length/\l.length<=l.length:=by omega
 refine pu hs (congrArg Prod.snd ho) (fun B a w hA hS=>⟨gO sz i.toNat l.length (s.v l.length),by rw [PI hb2.1 hb2.2];simp [eC,gV,bI],fun _ a hA'=>?_⟩) (kk (iU hF).2 hb2)
 obtain⟨h0,h1⟩:=hb
 have h5:max i 0=i:=by omega
 simp [execOp,hop,Instr.sliceAt,Instr.slice,run_underlying (FW ht hT),Instr.sliceBounds,hA'.eval (hdB hA hx),hA'.eval (xH hA hy),Instr.sliceBound,asIntOf,hT.size _ _ he,h0,h1,hc,h5,gO]
theorem aNZ(hc:l.length<=s.c)(hs:opS (i7 T n K cf m e L)=some (o,Lv,cf1,cf2,K',m',e',L'))(ho:(o.op,o.dst)=(.slice t x none (some z) none,some d))(ht:AQ T t=some ⟨.sl el,b1,n1,z1⟩)(he:AQ T el=some ⟨kt,b2,sz,z2⟩)(hx:hU e' x=some (.h s l.length))(hz:(hU e' z).bind sN=some (k2,j))(hF:need (0<=j/\j<=(l.length:Int)) A=some q)
  (kk:A=some q->(0<=j.toNat/\j.toNat<=l.length)->G (.mk P T hT n c B0 N X Q) K' m' ((d,.h (s.sub sz 0) ((l.take j.toNat).drop 0).length) :: e') L' cf2):G (.mk P T hT n c B0 N X Q) K m e L cf:=by
 have hop:o.op=.slice t x none (some z) none:=congrArg Prod.fst ho
 have hb:=(iU hF).1
 have hb2:0<=j.toNat/\j.toNat<=l.length:=by omega
 refine pu hs (congrArg Prod.snd ho) (fun B a w hA hS=>⟨gO sz 0 j.toNat (s.v l.length),by rw [PI hb2.1 hb2.2];simp [eC,gV,bI],fun _ a hA'=>?_⟩) (kk (iU hF).2 hb2)
 obtain⟨h0,h1⟩:=hb
 have h3:j<=(s.c:Int):=by omega
 have h5:max j 0=j:=by omega
 simp [execOp,hop,Instr.sliceAt,Instr.slice,run_underlying (FW ht hT),Instr.sliceBounds,hA'.eval (hdB hA hx),hA'.eval (xH hA hz),Instr.sliceBound,asIntOf,hT.size _ _ he,h0,h3,h5,gO]
theorem a3Y(hc:l.length<=s.c)(hs:opS (i7 T n K cf m e L)=some (o,Lv,cf1,cf2,K',m',e',L'))(ho:(o.op,o.dst)=(.slice t x none (some z) (some u),some d))(ht:AQ T t=some ⟨.sl el,b1,n1,z1⟩)(he:AQ T el=some ⟨kt,b2,sz,z2⟩)(hx:hU e' x=some (.h s l.length))(hz:(hU e' z).bind sN=some (k2,j))(hu:(hU e' u).bind sN=some (k3,p))(hF:need (0<=j/\j<=p/\p<=(l.length:Int)) A=some q)
  (kk:A=some q->(0<=j.toNat/\j.toNat<=p.toNat/\p.toNat<=l.length)->G (.mk P T hT n c B0 N X Q) K' m' ((d,.h ⟨(s.sub sz 0).a,p.toNat⟩ ((l.take j.toNat).drop 0).length) :: e') L' cf2):G (.mk P T hT n c B0 N X Q) K m e L cf:=by
 have hop:o.op=.slice t x none (some z) (some u):=congrArg Prod.fst ho
 have hb:=(iU hF).1
 have hb2:0<=j.toNat/\j.toNat<=p.toNat/\p.toNat<=l.length:=by omega
 have hl:=vF (l:=l) (a:=0) (b:=j.toNat) (by omega) (by omega)
 refine pu hs (congrArg Prod.snd ho) (fun B a w hA hS=>⟨AC.v ⟨(s.sub sz 0).a,p.toNat⟩ ((l.take j.toNat).drop 0).length,by simp [eC,gV,bI],fun _ a hA'=>?_⟩) (kk (iU hF).2 hb2)
 obtain⟨h0,h1,h2⟩:=hb
 have h3:p<=(s.c:Int):=by omega
 have h4:0<=p:=by omega
 have h5:max j 0=j:=by omega
 have h6:max p 0=p:=by omega
 rw [hl]
 have hadd:s.a.map (fun x=>x.add 0)=s.a:=by cases s.a <;> simp [Addr.add]
 by_cases hp:p=0
 ·subst hp
  simp [execOp,hop,Instr.sliceAt,Instr.slice,run_underlying (FW ht hT),Instr.sliceBounds,hA'.eval (hdB hA hx),hA'.eval (xH hA hz),hA'.eval (xH hA hu),Instr.sliceBound,asIntOf,hT.size _ _ he,h0,h1,h3,h4,h5,h6,AC.sub,hadd]
 ·simp [execOp,hop,Instr.sliceAt,Instr.slice,run_underlying (FW ht hT),Instr.sliceBounds,hA'.eval (hdB hA hx),hA'.eval (xH hA hz),hA'.eval (xH hA hu),Instr.sliceBound,asIntOf,hT.size _ _ he,h0,h1,h3,h4,h5,h6,AC.sub,hadd]
end
end
end Go.Gv
end
noncomputable section
namespace Go.Gv
noncomputable section
variable {P:Program} {T:TT} {hT:D7 P T} {n:Nat} {c:Ctx} {B0:Bl} {N:Act->World->Prop} {X:Nat->Act->World->Prop} {Q:Act->World->Prop} {K K':List Fr} {m m':Nat} {e e':SE} {L L' Lv:List Ch} {cf cf' cf1 cf2:tO} {o:Oper} {d:Nat}
theorem a0K{α:Type}[aD α]{B:Bl}{w:World}{R:List Fact}{j a b sz:Nat}{s s':AC}{l l':List α}(hn:aD.n α=sz)(hj:L[j]?=some (ow s l))(hb:a<=b/\b<=l.length)(hl:(l.take b).drop a=l')(hs:∀w F,aD.own w [s.v l.length] l F->∃F',aD.own w [s'.v l'.length] l' F'/\∀b o,F' b o->F b o)(hS:kV c w B L):kV c w B (L.set j (ow s' l')):=by
 obtain⟨⟨R,s1,s2⟩,s0⟩:=hS
 refine⟨⟨R,?_,fun z hz=>?_⟩,s0⟩
 ·rw [MQ]
  refine s1.VU j (by rw [DJ,hj];rfl) fun F hF=>?_
  obtain⟨F',h1,h2⟩:=hs w F hF
  exact⟨F',F0,dL.refl _ _,fun _ _ h=>h.elim,h1,fun b o h=>.inl (h2 b o h)⟩
 ·rcases sQ hz with hz | hz
  ·exact s2 z hz
  ·subst hz;trivial
theorem aVF{α:Type}[aD α]{s:AC}{l l':List α}{sz a b:Nat}(hn:aD.n α=sz)(hb:a<=b/\b<=l.length)(hl:(l.take b).drop a=l'):∀w F,aD.own w [s.v l.length] l F->∃F',aD.own w [(s.sub sz a).v l'.length] l' F'/\∀b o,F' b o->F b o:=by
 intro w F h
 obtain⟨F',h1,h2⟩:=aPN hn h hb.1 hb.2
 rw [PI hb.1 hb.2,hl] at h1
 exact⟨F',h1,h2⟩
theorem aVG{α:Type}[aD α]{s:AC}{l l':List α}{sz b p:Nat}(hn:aD.n α=sz)(hb:0<=b/\b<=p/\p<=l.length)(hl:(l.take b).drop 0=l'):∀w F,aD.own w [s.v l.length] l F->∃F',aD.own w [AC.v ⟨(s.sub sz 0).a,p⟩ l'.length] l' F'/\∀b o,F' b o->F b o:=by
 intro w F h
 obtain⟨F',h1,h2⟩:=aT1 hn h hb.1 hb.2.1 hb.2.2
 have hadd:s.a.map (fun x=>x.add 0)=s.a:=by cases s.a <;> simp [Addr.add]
 have hln:=vF (l:=l) (a:=0) (b:=b) (by omega) (by omega)
 rw [hl] at hln h1
 refine⟨F',?_,h2⟩
 have:aRG sz 0 b p (s.v l.length)=AC.v ⟨(s.sub sz 0).a,p⟩ l'.length:=by
  rw [hln]
  simp only [aRG,AC.v,AC.sub,Nat.zero_mul,hadd,Nat.sub_zero]
  by_cases hp:p=0 <;> simp [hp,hadd]
 rw [this] at h1
 exact h1
theorem poR{Z:Act->World->Prop}{α:Type}[aD α](j a b:Nat){sz:Nat}{s:AC}{l l':List α}(hn:aD.n α=sz)(hj:L[j]?=some (ow s l))(hb:a<=b/\b<=l.length)(hl:(l.take b).drop a=l')
  (kk:∀a' w,nI n c B0 m e (L.set j (ow (s.sub sz a) l')) a' w->Z a' w):∀a' w,nI n c B0 m e L a' w->Z a' w:=by
 intro a' w ⟨B,hm,hA,hS⟩
 exact kk a' w ⟨B,hm,hA,a0K (R:=[]) hn hj hb hl (aVF hn hb hl) hS⟩
theorem pmR{Z:Act->World->Prop}{α:Type}[aD α](j b p:Nat){sz:Nat}{s:AC}{l l':List α}(hn:aD.n α=sz)(hj:L[j]?=some (ow s l))(hb:0<=b/\b<=p/\p<=l.length)(hl:(l.take b).drop 0=l')
  (kk:∀a' w,nI n c B0 m e (L.set j (ow ⟨(s.sub sz 0).a,p⟩ l')) a' w->Z a' w):∀a' w,nI n c B0 m e L a' w->Z a' w:=by
 intro a' w ⟨B,hm,hA,hS⟩
 exact kk a' w ⟨B,hm,hA,a0K (R:=[]) hn hj ⟨by omega,by omega⟩ hl (aVG hn hb hl) hS⟩
theorem aN0{α:Type}{l xs:List α}{k a n:Nat}(h:k<=n/\n<=l.length)(ha:a<=l.length):k<=n/\n<=(cM l a xs).length:=⟨h.1,by rw [eQ ha];exact h.2⟩
theorem aI9{α:Type}{l xs:List α}{k a:Nat}(h:k<=a)(ha:a<=l.length):((cM l a xs).take k).drop 0=(l.take k).drop 0:=by
 simp only [MP,cM]
 rw [ZB (by simp;omega),List.take_take,Nat.min_eq_left h]
def AC.aYX(s:AC)(n a p:Nat):AC:=⟨if p=a then s.a else s.a.map (·.add (a * n)),p - a⟩
noncomputable section
variable {x y z:Operand} {t el sz:Nat} {zv:Value} {k1 k2:IntKind} {i j:Int} {α β:Type} [aD α] {A:Option β} {q:β} {s:AC} {l:List α} {b1 b2:Bool} {n1:Nat} {z1 z2:List SV} {kt:TK}
theorem ap2[Flat α](p a b:Nat)(hb:a<=b/\b<=l.length)(hs:i7 T n K cf m e L=.op o Lv cf1 cf2 K' m' e' L')(ho:(o.op,o.dst)=(.call {callee:=.builtin .append,args:=#[x,y],argTypes:=#[t,t]},some d))(ht:AQ T t=some ⟨.sl el,b1,n1,z1⟩)(he:AQ T el=some ⟨kt,b2,sz,z2⟩)(hn:aD.n α=sz)(hp:L'[p]?=some (ow s l))(hz:fJ p cf1.wR=true)(hx:hU e' x=some (.h (s.sub sz 0) ((l.take a).drop 0).length))(hy:hU e' y=some (.h (s.sub sz b) ((l.take l.length).drop b).length))
  (k:(0<=a+(l.length - b)/\a+(l.length - b)<=(cM l a (l.drop b)).length)->G (.mk P T hT n c B0 N X Q) K' m' ((d,.h (s.sub sz 0) (((cM l a (l.drop b)).take (a+(l.length - b))).drop 0).length) :: e') (L'.set p (ow s (cM l a (l.drop b)))) cf2):G (.mk P T hT n c B0 N X Q) K m e L cf:=by
 have hlen:(cM l a (l.drop b)).length=l.length:=eQ (by omega)
 have hk:0<=a+(l.length - b)/\a+(l.length - b)<=(cM l a (l.drop b)).length:=by omega
 refine fY (g:=.mk P T hT n c B0 N X Q) ?_
 rw [hs]
 intro hdn _ hE
 refine hE Unit (fun _=>m') (fun _=>(d,.h (s.sub sz 0) (((cM l a (l.drop b)).take (a+(l.length - b))).drop 0).length) :: e') (fun _=>L'.set p (ow s (cM l a (l.drop b)))) (fun _=>M9 hz) (fun B act w next Q' hm hA hS hnext=>?_) (fun _=>k hk)
 obtain⟨⟨R,s1,s2⟩,s0⟩:=hS
 have hx2:ev (vE (T0 (.mk P T hT n c B0 N X Q) cf1++B) e') x=some (gO sz 0 a (s.v l.length)):=by rw [hdB hA hx,PI (jK a) (sS hb.1 hb.2)]
 have hy2:ev (vE (T0 (.mk P T hT n c B0 N X Q) cf1++B) e') y=some (gO sz b l.length (s.v l.length)):=by rw [hdB hA hy,PI hb.2 (jA _)]
 have hop:o.op=.call {callee:=.builtin .append,args:=#[x,y],argTypes:=#[t,t]}:=congrArg Prod.fst ho
 have hd:o.dst=some d:=congrArg Prod.snd ho
 obtain⟨v,w',k1,rfl,k2⟩:=aNM p s1 (by rw [DJ,hp];rfl) hn hb.1 hb.2 (FW ht hT) (hT.size _ _ he) hop hx2 hy2
 unfold Oper.wp
 rw [k1 _ act hA.env,Oper.upon_value,hd]
 have hv:eC (T0 (.mk P T hT n c B0 N X Q) cf1++B) (.h (s.sub sz 0) (((cM l a (l.drop b)).take (a+(l.length - b))).drop 0).length)=some (gO sz 0 (a+(l.length - b)) (s.v l.length)):=by
  have:=PI (l:=cM l a (l.drop b)) (s:=s) (n:=sz) (k:=l.length) hk.1 hk.2
  rw [this]
  simp [eC,gV,bI]
 refine hnext () _ _ ⟨[],by simpa using hm,by simpa using hA.of hv (hA.env.put (by rw [hd] at hdn;simpa [oY,mQ] using hdn) _),?_⟩
 rw [xG]
 refine⟨⟨R,?_,fun z hz=>?_⟩,s0⟩
 ·rw [MQ]
  show St c w' ((L'.map _).set p (aZ [s.v (cM l a (l.drop b)).length] _)) R
  rw [hlen];exact k2
 ·rcases sQ hz with hz | hz
  ·exact s2 z hz
  ·subst hz;trivial
theorem aVH(p k':Nat)(hk:k'<=l.length){l0:List α}(h0:l0.length=k')(hs:opS (i7 T n K cf m e L)=some (o,Lv,cf1,cf2,K',m',e',L'))(ho:(o.op,o.dst)=(.slice t x (some y) (some z) none,some d))(ht:AQ T t=some ⟨.sl el,b1,n1,z1⟩)(he:AQ T el=some ⟨kt,b2,sz,z2⟩)(hn:aD.n α=sz)(hp:Lv[p]?=some (ow s l))(hx:hU e' x=some (.h (s.sub sz 0) l0.length))(hy:(hU e' y).bind sN=some (k1,i))(hz:(hU e' z).bind sN=some (k2,j))(hF:need (0<=i/\i<=j/\j<=(l.length:Int)) A=some q)
  (kk:A=some q->(i.toNat<=j.toNat/\j.toNat<=l.length)->G (.mk P T hT n c B0 N X Q) K' m' ((d,.h (s.sub sz i.toNat) ((l.take j.toNat).drop i.toNat).length) :: e') L' cf2):G (.mk P T hT n c B0 N X Q) K m e L cf:=by
 have hop:o.op=.slice t x (some y) (some z) none:=congrArg Prod.fst ho
 have hb:=(iU hF).1
 have hb2:i.toNat<=j.toNat/\j.toNat<=l.length:=by omega
 refine pu hs (congrArg Prod.snd ho) (fun B a w hA hS=>⟨gO sz i.toNat j.toNat (s.v l.length),by rw [PI hb2.1 hb2.2];simp [eC,gV,bI],?_⟩) (kk (iU hF).2 hb2)
 obtain⟨⟨R,s1,s2⟩,s0⟩:=hS
 have hx2:ev (vE B e') x=some (gO sz 0 k' (s.v l.length)):=by
  rw [hdB hA hx,h0];rfl
 exact aNN p s1 (by rw [DJ,hp];rfl) hn (FW ht hT) (hT.size _ _ he) hb hop hx2 (xH hA hy) (xH hA hz)
theorem clr[Flat α](p a b:Nat)(zd:α)(hb:a<=b/\b<=l.length)(hinf:QW P el sz zv)(hzs:zv.cells.size=sz)(hzd:∀w,aD.rd F0 w zv.cells.toList zd)(hone:(zv.cells.toList.all fun v=>v.oneCell')=true)(hs:i7 T n K cf m e L=.op o Lv cf1 cf2 K' m' e' L')(ho:(o.op,o.dst)=(.call {callee:=.builtin .clear,args:=#[x],argTypes:=#[t]},none))(ht:AQ T t=some ⟨.sl el,b1,n1,z1⟩)(hn:aD.n α=sz)(hp:L'[p]?=some (ow s l))(hz:fJ p cf1.wR=true)(hx:hU e' x=some (.h (s.sub sz a) ((l.take b).drop a).length))
  (k:G (.mk P T hT n c B0 N X Q) K' m' e' (L'.set p (ow s (cM l a (List.replicate (b - a) zd)))) cf2):G (.mk P T hT n c B0 N X Q) K m e L cf:=by
 have hlen:(cM l a (List.replicate (b - a) zd)).length=l.length:=eQ (by omega)
 refine fY (g:=.mk P T hT n c B0 N X Q) ?_
 rw [hs]
 intro hdn _ hE
 refine hE Unit (fun _=>m') (fun _=>e') (fun _=>L'.set p (ow s (cM l a (List.replicate (b - a) zd)))) (fun _=>M9 hz) (fun B act w next Q' hm hA hS hnext=>?_) (fun _=>k)
 obtain⟨⟨R,s1,s2⟩,s0⟩:=hS
 have hx2:ev (vE (T0 (.mk P T hT n c B0 N X Q) cf1++B) e') x=some (gO sz a b (s.v l.length)):=by rw [hdB hA hx,PI hb.1 hb.2]
 have hop:o.op=.call {callee:=.builtin .clear,args:=#[x],argTypes:=#[t]}:=congrArg Prod.fst ho
 have hd:o.dst=none:=congrArg Prod.snd ho
 obtain⟨v,w',k1,rfl,k2⟩:=aT6 zd p s1 (by rw [DJ,hp];rfl) hn hb.1 hb.2 (FW ht hT) hinf hzs hzd (fun v hv=>VN.1 hone v hv) hop hx2
 unfold Oper.wp
 rw [k1 _ act hA.env,Oper.upon_value,hd]
 refine hnext () _ _ ⟨[],by simpa using hm,by simpa [Act.put] using hA,?_⟩
 rw [xG]
 refine⟨⟨R,?_,fun z hz=>?_⟩,s0⟩
 ·rw [MQ]
  show St c w' ((L'.map _).set p (aZ [s.v (cM l a (List.replicate (b - a) zd)).length] _)) R
  rw [hlen];exact k2
 ·rcases sQ hz with hz | hz
  ·exact s2 z hz
  ·subst hz;trivial
theorem aN1{u:Operand}{k3:IntKind}{pz:Int}(hc:l.length<=s.c)(hs:opS (i7 T n K cf m e L)=some (o,Lv,cf1,cf2,K',m',e',L'))(ho:(o.op,o.dst)=(.slice t x (some y) (some z) (some u),some d))(ht:AQ T t=some ⟨.sl el,b1,n1,z1⟩)(he:AQ T el=some ⟨kt,b2,sz,z2⟩)(hx:hU e' x=some (.h s l.length))(hy:(hU e' y).bind sN=some (k1,i))(hz:(hU e' z).bind sN=some (k2,j))(hu:(hU e' u).bind sN=some (k3,pz))(hF:need (0<=i/\i<=j/\j<=pz/\pz<=(l.length:Int)) A=some q)
  (kk:A=some q->(i.toNat<=j.toNat/\j.toNat<=pz.toNat/\pz.toNat<=l.length)->G (.mk P T hT n c B0 N X Q) K' m' ((d,.h (s.aYX sz i.toNat pz.toNat) ((l.take j.toNat).drop i.toNat).length) :: e') L' cf2):G (.mk P T hT n c B0 N X Q) K m e L cf:=by
 have hop:o.op=.slice t x (some y) (some z) (some u):=congrArg Prod.fst ho
 have hb:=(iU hF).1
 have hb2:i.toNat<=j.toNat/\j.toNat<=pz.toNat/\pz.toNat<=l.length:=by omega
 have hl:=vF (l:=l) (a:=i.toNat) (b:=j.toNat) (by omega) (by omega)
 refine pu hs (congrArg Prod.snd ho) (fun B a w hA hS=>⟨AC.v (s.aYX sz i.toNat pz.toNat) ((l.take j.toNat).drop i.toNat).length,by simp [eC,gV,bI],fun _ a hA'=>?_⟩) (kk (iU hF).2 hb2)
 obtain⟨h0,h1,h2,h2'⟩:=hb
 have h3:pz<=(s.c:Int):=by omega
 have h4:0<=pz:=by omega
 have h4':0<=j:=by omega
 have h5:max j 0=j:=by omega
 have h6:max pz 0=pz:=by omega
 have h7:max i 0=i:=by omega
 rw [hl]
 by_cases hp:pz.toNat=i.toNat
 ·have:pz=i:=by omega
  subst this
  simp [execOp,hop,Instr.sliceAt,Instr.slice,run_underlying (FW ht hT),Instr.sliceBounds,hA'.eval (hdB hA hx),hA'.eval (xH hA hy),hA'.eval (xH hA hz),hA'.eval (xH hA hu),Instr.sliceBound,asIntOf,hT.size _ _ he,h0,h1,h2,h3,h4,h4',h5,h6,h7,AC.aYX]
 ·have hp2:¬pz=i:=fun h=>hp (by rw [h])
  simp [execOp,hop,Instr.sliceAt,Instr.slice,run_underlying (FW ht hT),Instr.sliceBounds,hA'.eval (hdB hA hx),hA'.eval (xH hA hy),hA'.eval (xH hA hz),hA'.eval (xH hA hu),Instr.sliceBound,asIntOf,hT.size _ _ he,h0,h1,h2,h3,h4,h4',h5,h6,h7,hp,hp2,AC.aYX]
theorem a5K{t2:Nat}(hs:opS (i7 T n K cf m e L)=some (o,Lv,cf1,cf2,K',m',e',L'))(ho:(o.op,o.dst)=(.binOp .shl t x y t2,some d))(hx:(hU e' x).bind sN=some (k1,i))(hy:(hU e' y).bind sN=some (k2,j))(hF:need (0<=j) A=some q)
  (kk:A=some q->G (.mk P T hT n c B0 N X Q) K' m' ((d,.i k1 (aCK k1 i j)) :: e') L' cf2):G (.mk P T hT n c B0 N X Q) K m e L cf:=
 pu hs (congrArg Prod.snd ho) (fun B a w hA _=>⟨_,rfl,aS6 (congrArg Prod.fst ho) (xH hA hx) (xH hA hy) (by have:=(iU hF).1;omega)⟩) (kk (iU hF).2)
theorem eqn{t2:Nat}{ln:Nat}(hs:opS (i7 T n K cf m e L)=some (o,Lv,cf1,cf2,K',m',e',L'))(ho:(o.op,o.dst)=(.binOp .eql t x (.const (.slice none 0 0)) t2,some d))(ht:AQ T t=some ⟨.sl el,b1,n1,z1⟩)(hx:hU e' x=some (.h s ln))
  (kt:s.a=none->G (.mk P T hT n c B0 N X Q) K' m' ((d,.l true) :: e') L' cf2) (kf:G (.mk P T hT n c B0 N X Q) K' m' ((d,.l false) :: e') L' cf2):G (.mk P T hT n c B0 N X Q) K m e L cf:=by
 cases hs':s.a with
 | none=>exact pu hs (congrArg Prod.snd ho) (fun B a w hA _=>⟨_,rfl,aNJ (FW ht hT) ⟨ln,s.c,by simp [AC.v,hs']⟩ (congrArg Prod.fst ho) (hdB hA hx) rfl⟩) (kt hs')
 | some ad=>exact pu hs (congrArg Prod.snd ho) (fun B a w hA _=>⟨_,rfl,aNK (FW ht hT) ⟨ad,ln,s.c,by simp [AC.v,hs']⟩ (congrArg Prod.fst ho) (hdB hA hx) rfl⟩) kf
theorem cln{w:Ctx}{r:List α}(h:bY w s l)(hn:s.a=none)(hF:need (([]:List α).length+l.length<=1073741824) (some (([]:List α)++l))=some r):some ([]:List α)=some r:=by
 obtain⟨ad,cp,h1,h2,h3,h4⟩:=(show sU w.S0 w.w0 [s.v l.length] l from h)
 have:l=[]:=by
  rcases h4 with h4 | ⟨b,off,h4,_⟩
  ·exact h4
  ·simp only [AC.v,List.cons.injEq,Value.slice.injEq] at h1
   rw [hn,h4] at h1
   exact absurd h1.1.1 (by simp)
 subst this
 simpa [need] using hF
end
noncomputable section
variable {x y:Operand} {t el sz:Nat} {zv:Value} {b1:Bool} {n1:Nat} {z1:List SV}
theorem S1{α:Type}[aD α](E:CO α)(is:List Nat)(q:α)(ye:E.ex)(hinf:QW P el sz zv)(hs:i7 T n K cf m e L=.op o Lv cf1 cf2 K' m' e' L')(ho:(o.op,o.dst)=(.buildSlice t 1 #[(0,x)],some d))(ht:AQ T t=some ⟨.sl el,b1,n1,z1⟩)(hn:aD.n α=sz)(hm:Nat.ble 1 sz=true)(hm2:Nat.ble sz 16777216=true)(hx:(hU e' x).map (fun v=>nbL (nV v))=some (E.cs q ye))(hxc:(hU e' x).map isCells=some true)(hle:(E.cs q ye).length=sz)(hec:(aR (bI []) (E.cs q ye)).isSome=true)(hi:aR (fun i=>L'[i]?) is=some (E.Lx q ye))(ha:cW is=true)(hz:(is.all fun j=>fJ j cf1.wR)=true)
  (k:∀s':AC,G (.mk P T hT n c B0 N X Q) K' m' ((d,.h s' [q].length) :: e') (FX L' is ++ [ow s' [q]]) cf2):G (.mk P T hT n c B0 N X Q) K m e L cf:=by
 obtain⟨ec,hec⟩:=aCH.1 hec
 refine aNW (l:=[q]) (fun s'=>FX L' is ++ [ow s' [q]]) hs (congrArg Prod.snd ho) (fun _=>N9 _ hz) (fun B a w hA hS=>?_) k
 obtain⟨⟨R,s1,s2⟩,s0⟩:=hS
 have hecl:ec.length=sz:=by rw [j3 hec,hle]
 cases hxv:hU e' x with
 | none=>rw [hxv] at hx;cases hx
 | some xv =>
  rw [hxv] at hx hxc
  simp at hx hxc
  obtain⟨v,v1,v2⟩:=dR hA hxv
  have hcell:aR (bI B) (nV xv)=some ec:=by
   rw [<-SU,hx];exact dW (fun x v h=>by simpa using eX (B:=[]) B h) hec
  have hvc:v.cells.toList=ec:=M6 v1 hcell
  have p1:=s1.shift is ha (A':=[aZ ec q]) fun F hF=>by
   rw [KK hi,E.nb] at hF
   exact Sep.one.2 ((E.pk hec w F).2 hF)
  have hlen:(blank (L'.map (jN B)) is).length=L'.length:=by rw [<-D8];simp [aBY]
  obtain⟨v',w',k1,k2⟩:=aXZ (e:=vE B e') (o:=o) (ps:=[(0,x)]) (vs:=[v]) (cells:=ec) [q] p1 [L'.length] rfl ⟨[],by
    simp only [pick,DI (PG hlen),hlen,Nat.sub_self]
    rw [show ec.take sz=ec by rw [<-hecl];exact Q0]
    rfl,by rw [AL,hecl];omega,⟨by rw [<-hecl];exact List.drop_length,rfl⟩⟩ hn (FW ht hT) hinf rfl hm (by simpa using hm2) (congrArg Prod.fst ho) (by simp [evs,v2]) (aCU (vs:=[v]) (ps:=[(0,x)]) rfl rfl (by simp;rw [<-Array.length_toList,hvc,hecl]) (by simp [hvc]))
  have hb2:blank (blank (L'.map (jN B)) is ++ [aZ ec q]) [L'.length]=blank (L'.map (jN B)) is ++ [FT]:=by
   simp only [blank]
   rw [List.set_append_right _ _ (by omega),hlen];simp
  rw [hb2] at k2
  obtain⟨s',rfl⟩:=X8 (v:=v') (l:=[q]) k2 (L'.length+1) (by rw [DI (by simp [hlen])];simp [hlen])
  refine⟨s',w',k1,⟨⟨R,?_,fun z hz=>?_⟩,s0⟩⟩
  ·have k3:=k2.MZ ((List.range L'.length) ++ [L'.length+1]) ?_
   ·refine k3.imp ?_
    rw [wI,D8,V8]
    refine iV.append ?_ ?_
    ·have:pick (blank (L'.map (jN B)) is ++ [FT] ++ [aZ [s'.v [q].length] [q]]) (List.range L'.length)=blank (L'.map (jN B)) is:=by
      have gen:∀(M M':List Chunk) (j:Nat),pick (M++M') ((List.range j))=(M++M').take j\/¬j<=(M++M').length:=by
       intro M M' j
       by_cases hj:j<=(M++M').length
       ·left
        induction j with
        | zero=>rfl
        | succ j ih =>
         rw [List.range_succ,V8,ih (by omega)]
         simp only [pick]
         rw [List.take_add_one,fT (by omega)]
         rfl
       ·exact .inr hj
      rcases gen (blank (L'.map (jN B)) is ++ [FT]) [aZ [s'.v [q].length] [q]] L'.length with h | h
      ·rw [h,tN,ZB (by omega),<-hlen,Q0]
      ·exact absurd (by simp [hlen]) h
     rw [this];exact iV.refl _
    ·simp only [pick]
     rw [DI (by simp [hlen])]
     simp [hlen,jN]
     try exact iV.refl _
   ·have gen:∀(j:Nat),cW (List.range' j (L'.length - j) ++ [L'.length+1])=true:=by
     intro j
     generalize hk:L'.length - j=k
     induction k generalizing j with
     | zero=>rfl
     | succ k ih =>
      rw [List.range'_succ,TW]
      simp only [cW,zP,VN,Bool.not_eq_true']
      refine⟨fun i hi=>?_,ih (j+1) (by omega)⟩
      cases hb:Nat.beq j i with
      | false=>rfl
      | true =>
       have:=jJ hb
       subst this
       rcases gC.1 hi with hi | hi
       ·rw [List.mem_range'] at hi
        obtain⟨p,_,hp⟩:=hi
        omega
       ·simp at hi;omega
    have:=gen 0
    rwa [Nat.sub_zero,<-List.range_eq_range'] at this
  ·rcases gC.1 hz with hz | hz
   ·rcases KJ _ _ hz with hz | hz
    ·exact s2 z hz
    ·subst hz;trivial
   ·simp at hz;subst hz;trivial
theorem ZT{α β:Type}[aD α]{A:Option β}{q:β}{s s2:AC}{l xs:List α}(i j:Nat)(hinf:QW P el sz zv)(hs:i7 T n K cf m e L=.op o Lv cf1 cf2 K' m' e' L')(ho:(o.op,o.dst)=(.call {callee:=.builtin .append,args:=#[x,y],argTypes:=#[t,t]},some d))(ht:AQ T t=some ⟨.sl el,b1,n1,z1⟩)(hn:aD.n α=sz)(hzs:zv.cells.size=sz)(hi:L'[i]?=some (ow s l))(hj:L'[j]?=some (ow s2 xs))(ha:cW [i,j]=true)(hz:([i,j].all fun j=>fJ j cf1.wR)=true)(hx:hU e' x=some (.h s l.length))(hy:hU e' y=some (.h s2 xs.length))(hF:need (l.length+xs.length<=1073741824) A=some q)
  (k:A=some q->∀s':AC,G (.mk P T hT n c B0 N X Q) K' m' ((d,.h s' (l++xs).length) :: e') (FX L' [i,j] ++ [ow s' (l++xs)]) cf2):G (.mk P T hT n c B0 N X Q) K m e L cf:=by
 refine aNW (l:=l++xs) (fun s'=>FX L' [i,j] ++ [ow s' (l++xs)]) hs (congrArg Prod.snd ho) (fun _=>N9 _ hz) (fun B a w hA hS=>?_) (k (iU hF).2)
 obtain⟨⟨R,s1,s2'⟩,s0⟩:=hS
 have hp:pick (L'.map (jN B)) [i,j]=[aZ [s.v l.length] l,aZ [s2.v xs.length] xs]:=by simp [pick,hi,hj,jN]
 obtain⟨v,w',k1,k2⟩:=aX0 [i,j] s1 ha hp hn (FW ht hT) hinf hzs (iU hF).1 (congrArg Prod.fst ho) (hdB hA hx) (hdB hA hy)
 have hlen:(blank (L'.map (jN B)) [i,j]).length=L'.length:=by rw [<-D8];simp [aBY]
 obtain⟨s',rfl⟩:=X8 k2 L'.length (by rw [DI (PG hlen),hlen,Nat.sub_self];rfl)
 refine⟨s',w',k1,⟨⟨R,?_,fun z hz=>?_⟩,s0⟩⟩
 ·rw [wI,D8];exact k2
 ·rcases gC.1 hz with hz | hz
  ·rcases KJ _ _ hz with hz | hz
   ·exact s2' z hz
   ·subst hz;trivial
  ·simp at hz;subst hz;trivial
end
theorem kb{b cb:Bool}(ss:List Nat)(hb:b=cb)(hs:TB (i7 T n K cf m e L)=some (K',cf',m',e',L'))(ho:aR (A8 e') ss=some (ss.map fun _=>SV.b b))(k:G (.mk P T hT n c B0 N X Q) K' m' (ovr cb e' ss) L' cf'):G (.mk P T hT n c B0 N X Q) K m e L cf:=
 go hs (aC3 (fun a B hA=>SY hb ss ho hA) k)
def rhE(v:SV)(e:SE):List (Nat×Nat)->SE
 | []=>e
 | (k, j) :: r => match A8 e k with
  | some (.g cs)=>(k,.g (ovw cs j [v])) :: rhE v e r
  | some (.t cs)=>(k,.t (ovw cs j [v])) :: rhE v e r
  | _=>rhE v e r
def rhL(v:SV)(L:List Ch):List (Nat×Nat)->List Ch
 | []=>L
 | (k, j) :: r => match L[k]? with
  | some (.box n cs)=>rhL v (L.set k (.box n (ovw cs j [v]))) r
  | _=>rhL v L r
theorem aBZ{B:Bl}{f:Bl->SV->Option Value}{u v:SV}(huv:∀B,f B u=f B v):∀{cs:List SV} {j:Nat},cs[j]?=some u->aR (f B) (ovw cs j [v])=aR (f B) cs
 | [],j,h=>by simp at h
 | x :: cs, 0, h => by
  simp at h;subst h
  show aR (f B) (v :: ovw cs 0 [])=_
  rw [aIT]
  simp only [aR,huv]
 | x :: cs, j + 1, h => by
  show aR (f B) (x :: ovw cs j [v])=_
  simp only [aR,aBZ (B:=B) huv (show cs[j]?=some u by simpa using h)]
theorem aVI{s:AC}{n0 n1:Nat}(hn:n0=n1){B:Bl}:∀{ps:List (Nat×Nat)} {k:Nat} {x:SV},(∀p∈ps,∃cs,(A8 e p.1=some (.g cs)\/A8 e p.1=some (.t cs))/\cs[p.2]?=some (.h s n0))->A8 (rhE (.h s n1) e ps) k=some x->∃y,A8 e k=some y/\eC B x=eC B y
 | [],k,x,_,h=>⟨x,h,rfl⟩
 | (k', j) :: r, k, x, hp, h => by
  have ih:=fun h=>aVI hn (B:=B) (ps:=r) (k:=k) (x:=x) (fun p hp'=>hp p (nF _ hp')) h
  obtain⟨cs,h1,h2⟩:=hp (k',j) (by simp)
  have hc:∀B,bI B (.h s n0)=bI B (.h s n1):=fun B=>by rw [hn]
  have hg:∀B,gV B (.h s n0)=gV B (.h s n1):=fun B=>by rw [hn]
  rcases h1 with h1 | h1
  ·simp only [rhE,h1,A8] at h
   split at h
   ·rename_i hb
    cases h
    have:=jJ hb
    subst this
    exact⟨_,h1,by simp only [eC,gV,aBZ (f:=bI) hc h2]⟩
   ·exact ih h
  ·simp only [rhE,h1,A8] at h
   split at h
   ·rename_i hb
    cases h
    have:=jJ hb
    subst this
    exact⟨_,h1,by simp only [eC,aBZ (f:=gV) hg h2]⟩
   ·exact ih h
theorem aQH{s:AC}{n0 n1:Nat}(hn:n0=n1){B:Bl}{w:World}{R:List Fact}:∀{ps:List (Nat×Nat)} {L:List Ch},(∀p∈ps,∃k cs,L[p.1]?=some (.box k cs)/\cs[p.2]?=some (.h s n0))->cW (ps.map (·.1))=true->iV w (L.map (jN B)) ((rhL (.h s n1) L ps).map (jN B))/\((∀x∈L,roF B R x)->∀x∈rhL (.h s n1) L ps,roF B R x)
 | [],L,_,_=>⟨iV.refl _,fun h=>h⟩
 | (i, j) :: r, L, hp, ha => by
  obtain⟨k,cs,h1,h2⟩:=hp (i,j) (by simp)
  have hc:∀B,bI B (.h s n0)=bI B (.h s n1):=fun B=>by rw [hn]
  simp only [EZ,cW,zP] at ha
  have ih:=aQH hn (B:=B) (w:=w) (R:=R) (ps:=r) (L:=L.set i (.box k (ovw cs j [.h s n1]))) (fun p hp'=>by
   obtain⟨k',cs',h3,h4⟩:=hp p (nF _ hp')
   have hne:i≠p.1:=fun he=>by
    have:=VN.1 ha.1 p.1 (List.mem_map_of_mem hp')
    rw [he] at this;simp at this
   exact⟨k',cs',by rw [QZ hne];exact h3,h4⟩) ha.2
  simp only [rhL,h1]
  refine⟨?_,fun h=>ih.2 fun x hx=>?_⟩
  ·have h5:iV w (L.map (jN B)) ((L.set i (.box k (ovw cs j [.h s n1]))).map (jN B)):=by
    rw [MQ]
    exact iV.put (a:=N7 B k cs) (b:=N7 B k (ovw cs j [.h s n1])) i (by rw [DJ,h1];rfl) fun F ⟨b,z,vs,q1,q2,q3⟩=>⟨b,z,vs,q1,by rw [aBZ (f:=bI) hc h2];exact q2,q3⟩
   have tr:∀{A B C:List Chunk},iV w A B->iV w B C->iV w A C:=by
    intro A B C h1
    induction h1 generalizing C with
    | nil=>exact fun h=>h
    | cons h t ih=>intro h2;cases h2 with | cons h' t'=>exact .cons (fun F hF=>h' F (h F hF)) (ih t')
   exact tr h5 ih.1
  ·rcases sQ hx with hx | hx
   ·exact h x hx
   ·subst hx;trivial
def atE(e:SE)(p:Nat×Nat):Option SV:=match A8 e p.1 with
 | some (.g cs)=>cs[p.2]?
 | some (.t cs)=>cs[p.2]?
 | _=>none
def atL(L:List Ch)(p:Nat×Nat):Option SV:=match L[p.1]? with
 | some (.box _ cs)=>cs[p.2]?
 | _=>none
theorem aVJ{B:Bl}{a:Act}{w:World}(s:AC){n0 n1:Nat}(hn:n0=n1){ps qs:List (Nat×Nat)}(hp:aR (atE e) ps=some (ps.map fun _=>.h s n0))(hq:aR (atL L) qs=some (qs.map fun _=>.h s n0))(ha:cW (qs.map (·.1))=true)(hA:fV n B e a)(hS:kV c w B L):fV n B (rhE (.h s n1) e ps) a/\kV c w B (rhL (.h s n1) L qs):=by
 have key:∀{γ:Type} {f:γ->Option SV} {ps:List γ},aR f ps=some (ps.map fun _=>.h s n0)->∀p∈ps,f p=some (.h s n0):=by
  intro γ f ps
  induction ps with
  | nil=>intro _ p hp;cases hp
  | cons q ps ih =>
   intro h p hp
   simp only [aR,EZ] at h
   split at h
   ·cases h
   ·rename_i h1
    split at h
    ·cases h
    ·rename_i h2
     cases h
     rcases gW.1 hp with hp | hp
     ·subst hp;exact h1
     ·exact ih h2 p hp
 refine⟨⟨hA.d,hA.size,fun k x hk=>?_⟩,?_⟩
 ·obtain⟨y,h1,h2⟩:=aVI hn (B:=B) (fun p hp'=>by
   have:=key hp p hp'
   unfold atE at this
   split at this
   ·rename_i cs hc;exact⟨cs,.inl hc,this⟩
   ·rename_i cs hc;exact⟨cs,.inr hc,this⟩
   ·cases this) hk
  obtain⟨v,h3,h4⟩:=hA.get k y h1
  exact⟨v,by rw [h2];exact h3,h4⟩
 ·obtain⟨⟨R,s1,s2⟩,s0⟩:=hS
  obtain⟨h1,h2⟩:=aQH hn (B:=B) (w:=w) (R:=R) (L:=L) (fun p hp'=>by
   have:=key hq p hp'
   unfold atL at this
   split at this
   ·rename_i k cs hc;exact⟨k,cs,hc,this⟩
   ·cases this) ha
  exact⟨⟨R,s1.imp h1,h2 s2⟩,s0⟩
theorem aB0{g:Gx}{cf:tO}{v:SV}:∀{qs:List (Nat×Nat)} {L M:List Ch},Frz g cf L M->((qs.map (·.1)).all fun j=>fJ j cf.wR)=true->Frz g cf L (rhL v M qs)
 | [],L,M,h,_=>h
 | (i, j) :: r, L, M, h, hz => by
  simp only [EZ,aCC,zP] at hz
  simp only [rhL]
  split
  ·exact aB0 (qs:=r) (aLB h hz.1) hz.2
  ·exact aB0 (qs:=r) h hz.2
theorem oZ{Z:Act->World->Prop}(s:AC){n0 n1:Nat}(hn:n0=n1)(ps qs:List (Nat×Nat))(hp:aR (atE e) ps=some (ps.map fun _=>.h s n0))(hq:aR (atL L) qs=some (qs.map fun _=>.h s n0))(ha:cW (qs.map (·.1))=true)
  (kk:∀a w,nI n c B0 m (rhE (.h s n1) e ps) (rhL (.h s n1) L qs) a w->Z a w):∀a w,nI n c B0 m e L a w->Z a w:=by
 intro a w ⟨B,hm,hA,hS⟩
 obtain⟨h1,h2⟩:=aVJ s hn hp hq ha hA hS
 exact kk a w ⟨B,hm,h1,h2⟩
end
end Go.Gv
end
noncomputable section
namespace Go.Gv
noncomputable section
variable {P:Program} {T:TT} {hT:D7 P T} {n:Nat} {c:Ctx} {B0:Bl} {N:Act->World->Prop} {X:Nat->Act->World->Prop} {Q:Act->World->Prop} {K K':List Fr} {m m':Nat} {e e':SE} {L L' Lv:List Ch} {cf cf' cf1 cf2:tO} {o:Oper} {d:Nat}
noncomputable section
variable {x:Operand} {t t2 el sz:Nat} {b1 b2 b3:Bool} {n1 n2 n3:Nat} {z1 z2 z3:List SV}
theorem qbo(p:Nat){s:AC}{l:List UInt8}(hs:opS (i7 T n K cf m e L)=some (o,Lv,cf1,cf2,K',m',e',L'))(ho:(o.op,o.dst)=(.convert t t2 x,some d))(ht:AQ T t=some ⟨.sl el,b1,n1,z1⟩)(he:AQ T el=some ⟨.i .u8,b2,n2,z2⟩)(h2:AQ T t2=some ⟨.s,b3,n3,z3⟩)(hp:Lv[p]?=some (ow s l))(hx:hU e' x=some (.h s l.length))
  (kk:G (.mk P T hT n c B0 N X Q) K' m' ((d,.s l) :: e') L' cf2):G (.mk P T hT n c B0 N X Q) K m e L cf:=by
 refine pu hs (congrArg Prod.snd ho) (fun B a w hA hS=>⟨_,rfl,?_⟩) kk
 obtain⟨⟨R,s1,s2⟩,s0⟩:=hS
 have hr:=s1.aPH (cs:=[s.v l.length]) (d:=l) p (by simp [hp,jN])
 obtain⟨de,q1,q2⟩:=hT.und _ _ he
 exact a09 hr (FW ht hT) (by rw [q1];simp only at q2;rw [q2]) (a3U h2 hT) (congrArg Prod.fst ho) (hdB hA hx)
theorem aYY{α:Type}[aD α](E:CO α){q:α}{y:E.ex}{ec:List Value}(h:aR (bI []) (E.cs q y)=some ec)(hL:E.Lx q y=[])(w:World):aD.rd F0 w ec q:=by
 have:=(E.pk h w F0).2 (by rw [hL];exact fun _ _ h=>h)
 exact aD.own_rd this
theorem lits{α:Type}[aD α](E:CO α)(y:E.ex){sz:Nat}{B:Bl}{a:Act}(hA:fV n B e a)(hL:∀q,E.Lx q y=[]):∀{ps:List (Nat×Operand)} {qs:List α},aR (fun p=>(hU e p.2).map fun v=>nbL (nV v)) ps=some (qs.map fun q=>E.cs q y)->(qs.all fun q=>Nat.beq (E.cs q y).length sz && (aR (bI []) (E.cs q y)).isSome)=true ->
  ∃vs cells,evs (vE B e) (ps.map (·.2))=some vs/\vs.length=ps.length/\(vs.all fun v=>v.cells.size == sz)=true/\(vs.flatMap fun v=>v.cells.toList)=cells/\aHJ sz cells qs
 | [],[],_,_=>⟨[],[],rfl,rfl,rfl,rfl,rfl⟩
 | [],q :: qs,h,_=>by cases h
 | p :: ps, [], h, _ => by
  simp only [aR] at h
  split at h
  ·cases h
  ·split at h <;> cases h
 | p :: ps, q :: qs, h, hc => by
  simp only [aR,EZ] at h
  split at h
  ·cases h
  ·rename_i c0 h1
   split at h
   ·cases h
   ·rename_i cs h2
    simp only [Option.some.injEq,List.cons.injEq] at h
    obtain⟨rfl,rfl⟩:=h
    simp only [aCC,zP] at hc
    obtain⟨⟨hl,hsome⟩,hc⟩:=hc
    obtain⟨vs,cells,g1,g2,g3,g4,g5⟩:=lits E y hA hL h2 (by simpa using hc)
    obtain⟨ec,hec⟩:=aCH.1 hsome
    cases hxv:hU e p.2 with
    | none=>rw [hxv] at h1;cases h1
    | some xv =>
     rw [hxv] at h1
     simp at h1
     obtain⟨v,v1,v2⟩:=dR hA hxv
     have hcell:aR (bI B) (nV xv)=some ec:=by
      rw [<-SU,h1];exact dW (fun x v h=>by simpa using eX (B:=[]) B h) hec
     have hvc:v.cells.toList=ec:=M6 v1 hcell
     have hecl:ec.length=sz:=by rw [j3 hec];exact jJ hl
     refine⟨v :: vs,ec++cells,by simp [evs,v2,g1],by simp [g2],?_,by simp [hvc,g4],?_,?_⟩
     ·rw [aCC,g3,<-Array.length_toList,hvc,hecl];simp
     ·rw [ZB (PG hecl.symm),<-hecl,Q0]
      exact aYY E hec (hL q) _
     ·rw [List.drop_append_of_le_length (PG hecl.symm),<-hecl,List.drop_length,aCG,hecl]
      exact g5
theorem ltK{α:Type}[aD α][Flat α](E:CO α)(y:E.ex)(qs:List α){len:Nat}{ps:List (Nat×Operand)}{zv:Value}(hinf:QW P el sz zv)(hs:i7 T n K cf m e L=.op o Lv cf1 cf2 K' m' e' L')(ho:(o.op,o.dst)=(.buildSlice t len ⟨ps⟩,some d))(ht:AQ T t=some ⟨.sl el,b1,n1,z1⟩)(hn:aD.n α=sz)(hl:qs.length=len)(hm:Nat.ble 1 sz=true)(hsm:Nat.ble (len * sz) 16777216=true)(hix:ps.map (·.1)=List.range' 0 len)(hev:aR (fun p=>(hU e' p.2).map fun v=>nbL (nV v)) ps=some (qs.map fun q=>E.cs q y))(hec:(qs.all fun q=>Nat.beq (E.cs q y).length sz && (aR (bI []) (E.cs q y)).isSome)=true)(hL:∀q,E.Lx q y=[])
  (k:∀s':AC,G (.mk P T hT n c B0 N X Q) K' m' ((d,.h s' qs.length) :: e') (L' ++ [ow s' qs]) cf2):G (.mk P T hT n c B0 N X Q) K m e L cf:=by
 refine aNW (l:=qs) (fun s'=>L' ++ [ow s' qs]) hs (congrArg Prod.snd ho) (fun _=>vH _) (fun B a w hA hS=>?_) k
 obtain⟨⟨R,s1,s2⟩,s0⟩:=hS
 obtain⟨vs,cells,g1,g2,g3,g4,g5⟩:=lits E y (sz:=sz) hA hL hev hec
 have hpl:ps.length=len:=by
  have:=congrArg List.length hix
  simpa using this
 obtain⟨v,w',k1,k2⟩:=aNH (e:=vE B e') (o:=o) (ps:=ps) (vs:=vs) (cells:=cells) qs s1 hn (FW ht hT) hinf hl hm hsm g5 (congrArg Prod.fst ho) g1 (aCU hix (by rw [g2,hpl]) g3 g4)
 obtain⟨s',rfl⟩:=X8 (v:=v) (l:=qs) k2 (L'.map (jN B)).length (by simp)
 refine⟨s',w',k1,⟨⟨R,by simpa [jN] using k2,fun z hz=>?_⟩,s0⟩⟩
 rcases gC.1 hz with hz | hz
 ·exact s2 z hz
 ·simp at hz;subst hz;trivial
end
end
end Go.Gv
end
noncomputable section
namespace Go.Gv
theorem a32{P:Program}{f:FuncId}{κ:Ctx}{xs:List SV}{ρ:Type}{sv:ρ->SV}{r:ρ}(hcall:∀args w,(callFunc f args).run P w=.ok (.enter f args) w)
  (H:(∀f:Fact,f.P κ.S0 κ.w0->f.P (MT κ.w0) κ.w0)->∀vs,aR (eC []) xs=some vs->Calls P f vs.toArray κ.w0 (Ret fun v w'=>eC [] (sv r)=some v/\St (bZ κ.w0) w' [] [])):Fn0 P f κ xs sv r:=
 ⟨hcall,fun vs hv hS=>Calls.mono (H (fun f hf=>f.mono hf fun b o hb=>hS.s0 b o hb) vs hv) fun en w' ⟨v,h1,h2,h3⟩=>⟨v,h1,(),h2,hS.aUX h3.keep⟩⟩
noncomputable section
variable {P:Program} {T:TT} {hT:D7 P T} {n:Nat} {c:Ctx} {B0:Bl} {N:Act->World->Prop} {X:Nat->Act->World->Prop} {Q:Act->World->Prop} {K K':List Fr} {m m':Nat} {e e':SE} {L L' Lv:List Ch} {cf cf' cf1 cf2:tO} {o:Oper} {d:Nat}
theorem un{α:Type}[aD α](j:Nat)(ks:List Nat)(ps qs:List (Nat×Nat)){s:AC}{n0:Nat}{l:List α}(hj:L[j]?=some (.o (aZ [s.v n0] l)))(hz:fJ j cf.wR=true)(hk:aR (A8 e) ks=some (ks.map fun _=>.h s n0))(hp:aR (atE (ovh (.h s l.length) e ks)) ps=some (ps.map fun _=>.h s n0))(hq:aR (atL (L.set j (ow s l))) qs=some (qs.map fun _=>.h s n0))(ha:(cW (qs.map (·.1)) && (qs.map (·.1)).all fun j=>fJ j cf.wR)=true)
  (k:l.length=n0->G (.mk P T hT n c B0 N X Q) K m (rhE (.h s l.length) (ovh (.h s l.length) e ks) ps) (rhL (.h s l.length) (L.set j (ow s l)) qs) cf):G (.mk P T hT n c B0 N X Q) K m e L cf:=by
 rw [zP] at ha
 refine chg (fun _:PLift (l.length=n0)=>m) (fun _=>rhE (.h s l.length) (ovh (.h s l.length) e ks) ps) (fun _=>rhL (.h s l.length) (L.set j (ow s l)) qs) (fun B a w hm hA hS=>?_) (fun _=>aB0 (M9 hz) ha.2) (fun h=>k h.down)
 have hn:l.length=n0:=by
  obtain⟨⟨R,s1,s2⟩,s0⟩:=hS
  obtain⟨F,hF⟩:=s1.chunk (ch:=aZ [s.v n0] l) j (by simp [hj,jN])
  obtain⟨ad,cp,h1,h2⟩:=IF (show aD.own w [s.v n0] l F from hF)
  simp only [AC.v,Value.slice.injEq] at h1
  exact h1.2.1.symm
 subst hn
 have hS':kV c w B (L.set j (ow s l)):=by
  have:L.set j (ow s l)=L:=by
   obtain⟨hl,he⟩:=iE.1 hj
   show L.set j (.o (aZ [s.v l.length] l))=L
   rw [<-he];exact aHD hl
  rw [this];exact hS
 obtain⟨h1,h2⟩:=aVJ s rfl hp hq ha.1 (aI3 ks hk hA) hS'
 exact⟨⟨rfl⟩,[],by simpa using hm,by simpa using h1,by simpa using h2⟩
theorem rr(s:AC){n0 n1:Nat}(hn:n0=n1)(ks:List Nat)(ps qs:List (Nat×Nat))(hk:aR (A8 e) ks=some (ks.map fun _=>.h s n0))(hp:aR (atE (ovh (.h s n1) e ks)) ps=some (ps.map fun _=>.h s n0))(hq:aR (atL L) qs=some (qs.map fun _=>.h s n0))(ha:(cW (qs.map (·.1)) && (qs.map (·.1)).all fun j=>fJ j cf.wR)=true)
  (k:G (.mk P T hT n c B0 N X Q) K m (rhE (.h s n1) (ovh (.h s n1) e ks) ps) (rhL (.h s n1) L qs) cf):G (.mk P T hT n c B0 N X Q) K m e L cf:=by
 rw [zP] at ha
 subst hn
 refine chg (fun _:Unit=>m) (fun _=>rhE (.h s n0) (ovh (.h s n0) e ks) ps) (fun _=>rhL (.h s n0) L qs) (fun B a w hm hA hS=>?_) (fun _=>aB0 (by simpa using vH (L:=L) []) ha.2) (fun _=>k)
 obtain⟨h1,h2⟩:=aVJ s rfl hp hq ha.1 (aI3 ks hk hA) hS
 exact⟨(),[],by simpa using hm,by simpa using h1,by simpa using h2⟩
theorem cpy{d:Option Nat}{x y:Operand}{t t2 el sz:Nat}{α:Type}[aD α][Flat α]{s s2:AC}{l xs:List α}{b1 b2:Bool}{n1:Nat}{z1 z2:List SV}{kt:TK}(p a:Nat)(hb:a<=l.length/\l.length<=l.length)(hsrc:∀{w},HS c w L'->bY (bZ w) s2 xs)(hs:i7 T n K cf m e L=.op o Lv cf1 cf2 K' m' e' L')(ho:(o.op,o.dst)=(.call {callee:=.builtin .copy,args:=#[x,y],argTypes:=#[t,t2]},d))(ht:AQ T t=some ⟨.sl el,b1,n1,z1⟩)(he:AQ T el=some ⟨kt,b2,sz,z2⟩)(hn:aD.n α=sz)(hp:(L'[p]?,fJ p cf1.wR)=(some (ow s l),true))(hx:hU e' x=some (.h (s.sub sz a) ((l.take l.length).drop a).length))(hy:hU e' y=some (.h s2 xs.length))
  (k:G (.mk P T hT n c B0 N X Q) K' m' (ZS d (.i .i64 ((min xs.length (l.length - a):Nat):Int)) e') (L'.set p (ow s (cM l a xs))) cf2):G (.mk P T hT n c B0 N X Q) K m e L cf:=by
 have hp1:L'[p]?=some (ow s l):=congrArg Prod.fst hp
 have hz:fJ p cf1.wR=true:=congrArg Prod.snd hp
 have hlen:(cM l a xs).length=l.length:=eQ hb.1
 refine fY (g:=.mk P T hT n c B0 N X Q) ?_
 rw [hs]
 intro hdn _ hE
 refine hE Unit (fun _=>m') (fun _=>ZS d (.i .i64 ((min xs.length (l.length - a):Nat):Int)) e') (fun _=>L'.set p (ow s (cM l a xs))) (fun _=>M9 hz) (fun B act w next Q' hm hA hS hnext=>?_) (fun _=>k)
 have hr:bY (bZ w) s2 xs:=hsrc ⟨_,hS⟩
 obtain⟨⟨R,s1,s2'⟩,s0⟩:=hS
 have hx2:ev (vE (T0 (.mk P T hT n c B0 N X Q) cf1++B) e') x=some (gO sz a l.length (s.v l.length)):=by rw [hdB hA hx,PI hb.1 hb.2]
 have hop:o.op=.call {callee:=.builtin .copy,args:=#[x,y],argTypes:=#[t,t2]}:=congrArg Prod.fst ho
 have hd:o.dst=d:=congrArg Prod.snd ho
 obtain⟨v,w',k1,rfl,k2⟩:=aPQ p s1 (by rw [DJ,hp1];rfl) hr hn hb.1 (FW ht hT) (hT.size _ _ he) hop hx2 (hdB hA hy)
 unfold Oper.wp
 rw [k1 _ act hA.env,Oper.upon_value,hd]
 have hS2:kV c w' (T0 (.mk P T hT n c B0 N X Q) cf1++B) (L'.set p (ow s (cM l a xs))):=by
  refine⟨⟨R,?_,fun z hz=>?_⟩,s0⟩
  ·rw [MQ]
   show St c w' ((L'.map _).set p (aZ [s.v (cM l a xs).length] _)) R
   rw [hlen];exact k2
  ·rcases sQ hz with hz | hz
   ·exact s2' z hz
   ·subst hz;trivial
 cases d with
 | none=>exact hnext () _ _ ⟨[],by simpa using hm,by simpa [Act.put,ZS] using hA,by simpa using hS2⟩
 | some d=>exact hnext () _ _ ⟨[],by simpa using hm,by simpa [ZS] using hA.of (by simp [eC,gV,bI]) (hA.env.put (by rw [hd] at hdn;simpa [oY,mQ] using hdn) _),by simpa using hS2⟩
theorem cp0{d:Option Nat}{x y:Operand}{t t2 el sz:Nat}{α:Type}[aD α][Flat α]{s s2:AC}{l xs:List α}{b1 b2:Bool}{n1:Nat}{z1 z2:List SV}{kt:TK}(p:Nat)(hsrc:∀{w},HS c w L'->bY (bZ w) s2 xs)(hs:i7 T n K cf m e L=.op o Lv cf1 cf2 K' m' e' L')(ho:(o.op,o.dst)=(.call {callee:=.builtin .copy,args:=#[x,y],argTypes:=#[t,t2]},d))(ht:AQ T t=some ⟨.sl el,b1,n1,z1⟩)(he:AQ T el=some ⟨kt,b2,sz,z2⟩)(hn:aD.n α=sz)(hp:(L'[p]?,fJ p cf1.wR)=(some (ow s l),true))(hx:hU e' x=some (.h s l.length))(hy:hU e' y=some (.h s2 xs.length))
  (k:G (.mk P T hT n c B0 N X Q) K' m' (ZS d (.i .i64 ((min xs.length (l.length - 0):Nat):Int)) e') (L'.set p (ow s (cM l 0 xs))) cf2):G (.mk P T hT n c B0 N X Q) K m e L cf:=by
 have hp1:L'[p]?=some (ow s l):=congrArg Prod.fst hp
 have hz:fJ p cf1.wR=true:=congrArg Prod.snd hp
 have hlen:(cM l 0 xs).length=l.length:=eQ (jK _)
 refine fY (g:=.mk P T hT n c B0 N X Q) ?_
 rw [hs]
 intro hdn _ hE
 refine hE Unit (fun _=>m') (fun _=>ZS d (.i .i64 ((min xs.length (l.length - 0):Nat):Int)) e') (fun _=>L'.set p (ow s (cM l 0 xs))) (fun _=>M9 hz) (fun B act w next Q' hm hA hS hnext=>?_) (fun _=>k)
 have hr:bY (bZ w) s2 xs:=hsrc ⟨_,hS⟩
 obtain⟨⟨R,s1,s2'⟩,s0⟩:=hS
 have hop:o.op=.call {callee:=.builtin .copy,args:=#[x,y],argTypes:=#[t,t2]}:=congrArg Prod.fst ho
 have hd:o.dst=d:=congrArg Prod.snd ho
 obtain⟨v,w',k1,rfl,k2⟩:=aT3 p s1 (by rw [DJ,hp1];rfl) hr hn (FW ht hT) (hT.size _ _ he) hop (hdB hA hx) (hdB hA hy)
 unfold Oper.wp
 rw [k1 _ act hA.env,Oper.upon_value,hd]
 have hS2:kV c w' (T0 (.mk P T hT n c B0 N X Q) cf1++B) (L'.set p (ow s (cM l 0 xs))):=by
  refine⟨⟨R,?_,fun z hz=>?_⟩,s0⟩
  ·rw [MQ]
   show St c w' ((L'.map _).set p (aZ [s.v (cM l 0 xs).length] _)) R
   rw [hlen];exact k2
  ·rcases sQ hz with hz | hz
   ·exact s2' z hz
   ·subst hz;trivial
 cases d with
 | none=>exact hnext () _ _ ⟨[],by simpa using hm,by simpa [Act.put,ZS] using hA,by simpa using hS2⟩
 | some d=>exact hnext () _ _ ⟨[],by simpa using hm,by simpa [ZS] using hA.of (by simp [eC,gV,bI]) (hA.env.put (by rw [hd] at hdn;simpa [oY,mQ] using hdn) _),by simpa using hS2⟩
theorem fR{Z:Act->World->Prop}{e1:SE}{L1:List Ch}(h1:aRI e=some e1)(h2:aRJ L=some L1)(kk:∀a w,nI n c B0 m e1 L1 a w->Z a w):∀a w,nI n c B0 m e L a w->Z a w:=by
 have:=aBT h1
 have:=aBU h2
 subst e1;subst L1
 exact kk
end
end Go.Gv
end
