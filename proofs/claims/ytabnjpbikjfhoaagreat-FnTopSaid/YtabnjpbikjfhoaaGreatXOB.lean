import Derived.Test.YtabnjpbikjfhoaaGreatXOA
set_option linter.unusedVariables false
set_option linter.unusedSimpArgs false
set_option linter.unusedSectionVars false
set_option linter.constructorNameAsVariable false
set_option linter.unnecessarySimpa false
noncomputable section
namespace Go.Gv
def SX(B:Bl)(n:Nat)(cs:List SV):Chunk where
 P:=fun w F=>∃b z vs,B[n]?=some (b,z)/\bA (bT B) cs=some vs/\(VJ b z vs).P w F
 keep:=fun⟨b,z,vs,h1,h2,h3⟩ hk hd=>⟨b,z,vs,h1,h2,(VJ b z vs).keep h3 hk hd⟩
 lt:=fun⟨b,z,vs,_,_,h3⟩ hf=>(VJ b z vs).lt h3 hf
def kW(B:Bl):Ch->Chunk
 | .box n cs=>SX B n cs
 | .o c=>c
 | _=>KR
def roF(B:Bl)(R:List Fact):Ch->Prop
 | .ro n cs=>∃b z vs,B[n]?=some (b,z)/\bA (bT B) cs=some vs/\fAt b z vs∈R
 | .f f=>f∈R
 | .w n b z=>B[n]?=some (b,z)
 | _=>True
structure nJ (c:Ctx) (w:World) (B:Bl) (L:List Ch):Prop where
 ex:∃R,St c w (L.map (kW B)) R/\∀x∈L,roF B R x
 s0:∀b o,c.S0 b o->b < c.w0.heap.size
inductive j7 (w:World):List Chunk->List Chunk->Prop where
 | nil:j7 w [] []
 | cons {a b:Chunk} {A B:List Chunk} (h:∀F,a.P w F->b.P w F) (t:j7 w A B):j7 w (a :: A) (b :: B)
theorem Sep.imp{w:World}:∀{A B:List Chunk} {F:cK},j7 w A B->Sep w A F->Sep w B F
 | _,_,_,.nil,h=>h
 | _,_,_,.cons h t,⟨F1,F2,h1,h2,hd,hF⟩=>⟨F1,F2,h F1 h1,Sep.imp t h2,hd,hF⟩
theorem St.imp{c:Ctx}{w:World}{A B:List Chunk}{R:List Fact}(h:St c w A R)(hi:j7 w A B):St c w B R:=by
 obtain⟨F,S,hsep,rest⟩:=h.sep
 exact⟨h.keep,⟨F,S,Sep.imp hi hsep,rest⟩,h.apart⟩
theorem j7.refl{w:World}:∀(A:List Chunk),j7 w A A
 | []=>.nil
 | _ :: A=>.cons (fun _ h=>h) (j7.refl A)
theorem j7.append{w:World}:∀{A B A' B':List Chunk},j7 w A B->j7 w A' B'->j7 w (A++A') (B++B')
 | _,_,_,_,.nil,h=>h
 | _,_,_,_,.cons h t,h2=>.cons h (j7.append t h2)
theorem j7.set{w:World}{a b:Chunk}:∀{A B:List Chunk} (i:Nat),j7 w A B->(∀F,a.P w F->b.P w F)->j7 w (A.set i a) (B.set i b)
 | _,_,_,.nil,_=>.nil
 | _,_,0,.cons _ t,h=>.cons h t
 | _,_,i+1,.cons g t,h=>.cons g (j7.set i t h)
theorem j7.put{w:World}{a b:Chunk}:∀{A:List Chunk} (i:Nat),A[i]?=some a->(∀F,a.P w F->b.P w F)->j7 w A (A.set i b)
 | [],_,h,_=>by simp at h
 | x :: A,0,h,g=>by simp at h;subst h;exact .cons g (j7.refl A)
 | x :: A,i+1,h,g=>.cons (fun _ h=>h) (j7.put i (by simpa using h) g)
theorem aWK{B:Bl}(B':Bl){n:Nat}{cs:List SV}{w:World}{F:cK}(h:(SX B n cs).P w F):(SX (B++B') n cs).P w F:=by
 obtain⟨b,z,vs,h1,h2,h3⟩:=h
 exact⟨b,z,vs,Bl.app B' h1,gA (fun _ _=>iB B') h2,h3⟩
theorem a0K{B:Bl}(B':Bl){x:Ch}{w:World}{F:cK}(h:(kW B x).P w F):(kW (B++B') x).P w F:=by
 cases x <;> first | exact aWK B' h | exact h
theorem VN{B:Bl}(B':Bl){w:World}:∀(L:List Ch),j7 w (L.map (kW B)) (L.map (kW (B++B')))
 | []=>.nil
 | _ :: L=>.cons (fun _ h=>a0K B' h) (VN B' L)
theorem aKU{B:Bl}(B':Bl){R:List Fact}{x:Ch}(h:roF B R x):roF (B++B') R x:=by
 cases x <;> try exact h
 ·obtain⟨b,z,vs,h1,h2,h3⟩:=h
  exact⟨b,z,vs,Bl.app B' h1,gA (fun _ _=>iB B') h2,h3⟩
 ·exact Bl.app B' h
theorem YT{B:Bl}{R R':List Fact}(hR:∀f∈R,f∈R'){x:Ch}(h:roF B R x):roF B R' x:=by
 cases x <;> try exact h
 ·obtain⟨b,z,vs,h1,h2,h3⟩:=h
  exact⟨b,z,vs,h1,h2,hR _ h3⟩
 ·exact hR _ h
noncomputable section
variable {P:Program} {T:TT} {n:Nat} {B:Bl} {e:SE} {E:Env} {o:Oper} {w w':World} {x y:Operand} {c:Ctx} {L:List Ch}
theorem nJ.app(h:nJ c w B L)(B':Bl):nJ c w (B++B') L:=by
 obtain⟨⟨R,h1,h2⟩,h3⟩:=h
 exact⟨⟨R,h1.imp (VN B' L),fun x hx=>aKU B' (h2 x hx)⟩,h3⟩
theorem aJU{n:Nat}{cs:List SV}:∀{L:List Ch},JC n L=some cs->Ch.box n cs∈L\/Ch.ro n cs∈L
 | [],h=>by cases h
 | x :: L, h => by
  have ih:JC n L=some cs->Ch.box n cs∈x :: L\/Ch.ro n cs∈x :: L:=fun h=>by
   rcases aJU h with h | h
   ·exact .inl (j9 _ h)
   ·exact .inr (j9 _ h)
  cases x <;> simp only [JC] at h <;> try exact ih h
  ·split at h
   ·rename_i hb;cases h;rw [mR hb];exact .inl (MM ..)
   ·exact ih h
  ·split at h
   ·rename_i hb;cases h;rw [mR hb];exact .inr (MM ..)
   ·exact ih h
theorem nJ.cells(h:nJ c w B L){n:Nat}{cs:List SV}(hb:JC n L=some cs):∃b z vs,B[n]?=some (b,z)/\bA (bT B) cs=some vs/\bZ w b z vs:=by
 obtain⟨⟨R,h1,h2⟩,_⟩:=h
 rcases aJU hb with hm | hm
 ·obtain⟨i,hi⟩:=aJK hm
  obtain⟨F,b,z,vs,h3,h4,h5⟩:=h1.chunk (ch:=SX B n cs) i (by rw [HZ,hi];rfl)
  exact⟨b,z,vs,h3,h4,h5.1⟩
 ·obtain⟨b,z,vs,h3,h4,h5⟩:=h2 _ hm
  obtain⟨i,hi⟩:=aJK h5
  exact⟨b,z,vs,h3,h4,h1.fat i hi⟩
theorem YU{b z o m:Nat}{vs:List Value}(h:bZ w b z vs)(_hm:o+m<=vs.length):bZ w b (z+o) ((vs.drop o).take m):=by
 intro q u hq
 rw [H0] at hq
 split at hq
 ·rw [YG] at hq
  have:=h (o+q) u hq
  rw [show z+o+q=z+(o+q) from by omega];exact this
 ·cases hq
theorem aRK:∀(cs:List SV) (o:Nat) (v:SV) (vs:List SV),o < cs.length->ovw cs o (v :: vs)=ovw (cs.set o v) (o+1) vs
 | [],o,v,vs,h=>by simp at h
 | c :: cs,0,v,vs,_=>by simp [ovw]
 | c :: cs, o + 1, v, vs, h => by
  simp only [ovw,List.set_cons_succ]
  rw [aRK cs o v vs (by simpa using h)]
theorem aKV:∀(cs:List SV) (o:Nat),ovw cs o []=cs
 | [],o=>by simp [ovw]
 | c :: cs,0=>by simp [ovw]
 | c :: cs,o+1=>by simp [ovw,aKV cs o]
theorem aKW:∀(vs cs:List SV) (o:Nat),o+vs.length<=cs.length->ovw cs o vs=a0F cs o vs
 | [],cs,o,_=>by rw [aKV];rfl
 | v :: vs, cs, o, h => by
  simp at h
  rw [aRK cs o v vs (by omega),aKW vs _ _ (by simp;omega)];rfl
theorem NP{α:Type}:∀{l r:List α},frc l=some r->r=l
 | [],r,h=>by cases h;rfl
 | x :: l, r, h => by
  simp only [frc] at h
  split at h
  ·rename_i s hs;cases h;rw [NP hs]
  ·cases h
theorem aWL(hT:JE P T){t:TypeId}{a r:SV}{va:Value}(hS:nJ c w B L)(ho:o.op=.load t x)(hx:ev E x=some va)(ha:gQ B a=some va)(h:aM5 T t a L=some r):∃v,gQ B r=some v/\eJ P o E w v w:=by
 unfold aM5 at h
 split at h
 ·rename_i n0 o0
  split at h
  ·rename_i cs _ m _ hb hl
   split at h
   ·rename_i hle
    split at h
    case h_2=>cases h
    rename_i ds hds
    cases h
    have:=NP hds
    subst this
    obtain⟨b,z,vs,h1,h2,h3⟩:=hS.cells hb
    have hlen:=mA h2
    have hle:=y9 hle
    simp only [gQ,gV,bT,h1] at ha
    cases ha
    have h4:=O3 m (O2 o0 h2)
    refine⟨_,by simp only [gQ,gV,h4],TE (cs:=(vs.drop o0).take m) ho hx (hT.agg _ _ hl) (hT.size _ _ hl) (by simp;omega) (YU h3 (by omega))⟩
   ·cases h
  ·rename_i cs _ _ _ hb hl
   obtain⟨b,z,vs,h1,h2,h3⟩:=hS.cells hb
   simp only [gQ,gV,bT,h1] at ha
   cases ha
   obtain⟨v,h4,h5⟩:=O1 h2 h
   exact⟨v,aRG h4,jR ho hx (hT.agg _ _ hl) (h3 o0 v h5)⟩
  ·cases h
 ·cases h
theorem O4{a:SV}{v:Value}{vs:List Value}(ha:gQ B a=some v)(h:bA (bT B) (qK a)=some vs):v.cells.toList=vs:=by
 cases a
 case g cs=>
  simp only [qK] at h
  simp only [gQ,gV,h] at ha
  cases ha;rfl
 all_goals
  simp only [qK,bA] at h
  split at h
  ·cases h
  ·rename_i u hu
   cases h
   have h2:=aRG hu
   rw [ha] at h2;cases h2
   have:=aM8 hu
   cases v <;> first | rfl | cases this
end
theorem a5Q{B:Bl}{a:SV}{v:Value}(h:bT B a=some v)(hc:qK a=[a]):∃vs,bA (bT B) (qK a)=some vs:=⟨[v],by rw [hc];simp only [bA,h]⟩
theorem XM{B:Bl}{a:SV}{v:Value}(h:isCells a=true)(ha:gQ B a=some v):∃vs,bA (bT B) (qK a)=some vs:=by
 cases a
 case g cs=>
  simp only [gQ,gV] at ha
  split at ha
  ·rename_i vs hv;exact⟨vs,hv⟩
  ·cases ha
 case t=>cases h
 case f=>cases h
 case u=>cases h
 all_goals exact a5Q ha rfl
theorem a2D(off:Nat):∀(vs:List Value) (k:Nat) (cells:Array Value),((vs.zipIdx k).foldl (fun cs (q:Value×Nat)=>cs.setIfInBounds (off+q.2) q.1) cells).toList=V4 cells.toList (off+k) vs
 | [],k,cells=>rfl
 | v :: vs, k, cells => by
  simp only [List.zipIdx_cons,V8,V4]
  rw [a2D off vs (k+1)]
  simp [YN]
theorem aJV{n:Nat}{B:Bl}{e:SE}{a:Act}(hA:gZ n B e a){fs:List (Nat×Nat)}:∀(ps:List (Nat×Operand)) {cs r:List SV} {cells:Array Value},bA (bT B) cs=some cells.toList->aKQ e fs ps cs=some r ->
  ∃vs rs,evs (vE B e) (ps.map (·.2))=some vs/\bA (bT B) r=some rs/\Instr.fill (fs.toArray[·]?) cells ((ps.map (·.1)).zip vs)=some rs.toArray
 | [], cs, r, cells, hc, h => by
  cases h
  exact⟨[],cells.toList,rfl,hc,by simp [Instr.fill]⟩
 | (ix, o) :: ps, cs, r, cells, hc, h => by
  simp only [aKQ] at h
  split at h
  ·rename_i f m v h1 h2
   split at h
   ·rename_i h3 h4 h5
    split at h
    case h_2=>cases h
    rename_i ds hds
    have h4:=mR h4
    have h5:=y9 h5
    have:=NP hds
    rw [aKW _ _ _ (by omega)] at this
    subst this
    obtain⟨u,h6,h7⟩:=fC hA h2
    obtain⟨ws,h8⟩:=XM h3 h6
    have h9:=O4 h6 h8
    have hl:=mA h8
    have hl2:=mA hc
    have hu:u.cells.size=m:=by rw [<-Array.length_toList,h9,hl,h4]
    have hcs:cells.size=cs.length:=by rw [<-hl2];simp
    have h10:bA (bT B) (a0F cs f (qK v))=some ((u.cells.zipIdx.foldl (fun cs (q:Value×Nat)=>cs.setIfInBounds (f+q.2) q.1) cells).toList):=by
     have:=a2D f u.cells.toList 0 cells
     rw [<-Array.toList_zipIdx,Array.foldl_toList] at this
     rw [this,h9]
     exact YS f hc h8
    obtain⟨vs,rs,g1,g2,g3⟩:=aJV hA ps h10 h
    refine⟨u :: vs,rs,by simp only [y8,evs,h7,g1],g2,?_⟩
    have hp:fs.toArray[ix]?=some (f,m):=by simpa using h1
    simp only [y8,List.zip_cons_cons,Instr.fill,hp]
    rw [if_neg (by rw [hu,hcs];simp;omega)]
    exact g3
   ·cases h
  ·cases h
noncomputable section
variable {P:Program} {T:TT} {n:Nat} {B:Bl} {e:SE} {a:Act} {o:Oper} {w w':World} {x y:Operand} {c:Ctx} {L:List Ch}
theorem aS4(hT:JE P T)(hA:gZ n B e a){t:TypeId}{ps:Array (Nat×Operand)}{r:SV}(ho:o.op=.build t ps)(h:aPM T e t ps.toList=some r):∃v,gQ B r=some v/\eJ P o (vE B e) w v w:=by
 unfold aPM at h
 split at h
 ·rename_i fs _ z h1
  split at h
  ·rename_i cs h2
   cases h
   obtain⟨d,hd,Fs,rfl,_,_,hp⟩:=hT.und _ _ h1
   obtain⟨zv,hz,hzc⟩:=hT.zero _ _ h1
   have hzc':bA (bT B) z=some zv.cells.toList:=by
    have:=gA (g:=bT B) (fun x v h=>by simpa using iB (B:=[]) B h) hzc
    exact this
   obtain⟨vs,rs,g1,g2,g3⟩:=aJV hA ps.toList hzc' h2
   exact⟨_,by simp only [gQ,gV,g2],aVG (ps:=ps.toList) (by simpa using ho) hz hd hp g1 g3⟩
  ·cases h
 ·cases h
theorem aKX(hT:JE P T)(hA:gZ n B e a)(hS:nJ c w B L){r:SV}(h:ev1 T e L o.op=some r):∃v,gQ B r=some v/\eJ P o (vE B e) w v w:=by
 generalize ho:o.op=op at h
 unfold ev1 at h
 split at h
 ·obtain⟨v,h1,h2⟩:=fC hA h;exact⟨v,h1,oJ ho h2⟩
 ·obtain⟨v,h1,h2⟩:=fC hA h;exact⟨v,h1,F9 ho h2⟩
 ·split at h
  ·rename_i heq
   cases h;obtain⟨v,h1,h2⟩:=fC hA heq
   refine⟨v,h1,?_⟩
   simp only [gQ,gV,bT] at h1
   split at h1
   ·cases h1;exact aU5 ho h2
   ·cases h1
  ·rename_i heq
   cases h;obtain⟨v,h1,h2⟩:=fC hA heq
   refine⟨v,h1,?_⟩
   cases h1;exact aU5 ho h2
  ·rename_i heq
   cases h;obtain⟨v,h1,h2⟩:=fC hA heq
   refine⟨v,h1,?_⟩
   simp only [gQ] at h1
   split at h1
   ·cases h1;exact aQ5 ho (fun _ h=>by cases h) h2
   ·cases h1
  ·rename_i heq
   cases h;obtain⟨v,h1,h2⟩:=fC hA heq
   refine⟨v,h1,?_⟩
   simp only [gQ,gV,bT] at h1
   split at h1
   ·cases h1;exact aQ5 ho (fun _ h=>by cases h) h2
   ·cases h1
  ·cases h
 ·split at h
  ·rename_i heq
   obtain⟨v,h1,h2⟩:=fC hA heq
   cases h1
   obtain⟨u,h3,h4⟩:=fC hA h
   exact⟨u,h3,xC ho h2 rfl h4⟩
  ·rename_i heq
   obtain⟨v,h1,h2⟩:=fC hA heq
   cases h1
   obtain⟨u,h3,h4⟩:=fC hA h
   exact⟨u,h3,CT ho h2 rfl h4⟩
  ·cases h
 ·split at h
  ·rename_i heq
   cases h;obtain⟨v,h1,h2⟩:=fC hA heq
   cases h1;exact⟨_,rfl,aEU ho h2⟩
  ·rename_i heq
   cases h;obtain⟨v,h1,h2⟩:=fC hA heq
   cases h1;exact⟨_,rfl,aEU ho h2⟩
  ·cases h
 ·split at h
  ·rename_i heq
   cases h;obtain⟨v,h1,h2⟩:=fC hA heq
   cases h1;exact⟨_,rfl,a29 ho h2⟩
  ·cases h
 ·split at h
  ·rename_i h1 h2
   obtain⟨v,g1,g2⟩:=fC hA h1
   obtain⟨u,g3,g4⟩:=fC hA h2
   exact a3Z hT ho g2 g4 g1 g3 h2 h
  ·cases h
 ·split at h
  ·rename_i h1
   obtain⟨v,g1,g2⟩:=fC hA h1
   exact a0J hT ho g2 g1 h
  ·cases h
 ·split at h
  ·rename_i h1
   obtain⟨v,g1,g2⟩:=fC hA h1
   simp only [gQ] at g1
   split at g1
   ·rename_i xs _ vs h3
    cases g1
    obtain⟨u,h4,h5⟩:=O1 h3 h
    exact⟨u,a5P h4,aPD ho g2 (by simpa using h5)⟩
   ·cases g1
  ·cases h
 ·split at h
  ·rename_i h1
   obtain⟨v,g1,g2⟩:=fC hA h1
   exact aWI hT ho g2 g1 h
  ·cases h
 ·split at h
  ·rename_i h1
   obtain⟨v,g1,g2⟩:=fC hA h1
   exact aWL hT hS ho g2 g1 h
  ·cases h
 ·exact aS4 hT hA ho h
 ·split at h
  ·rename_i h1 h2
   obtain⟨v,g1,g2⟩:=fC hA h1
   obtain⟨d,hd,hd2⟩:=hT.und _ _ h2
   unfold a5O at h
   split at h
   ·split at h
    ·cases h;cases g1;simp only at hd2;subst hd2
     exact⟨_,rfl,aU8 hd ho g2⟩
    ·cases h
   ·split at h
    ·cases h;cases g1;simp only at hd2;subst hd2
     exact⟨_,rfl,aZV hd ho g2⟩
    ·cases h
   ·cases h
  ·cases h
 ·cases h
end
def rO(n:Nat)(c:Ctx)(B0:Bl)(m:Nat)(e:SE)(L:List Ch)(a:Act)(w:World):Prop:=∃B,(B0++B).length=m/\gZ n (B0++B) e a/\nJ c w (B0++B) L
end Go.Gv
end
noncomputable section
namespace Go.Gv
noncomputable section
variable {m:Nat} {e:SE} {L:List Ch}
theorem aE8{B:Bl}{m:Nat}{x:SV}{v:Value}(hv:bT B x=some v)(h:∀n o,x=.p n o->n < m):bT (B.take m) x=some v:=by
 cases x <;> simp only [bT] at hv ⊢ <;> try exact hv
 rename_i n o
 rw [H0,if_pos (h n o rfl)];exact hv
theorem JJ{B:Bl}{m:Nat}:∀{cs:List SV} {vs:List Value},JD.okC m cs=true->bA (bT B) cs=some vs->bA (bT (B.take m)) cs=some vs
 | [],vs,_,h=>h
 | x :: cs, vs, ho, h => by
  simp only [bA] at h
  split at h
  ·cases h
  ·rename_i h1
   split at h
   ·cases h
   ·rename_i h2
    cases h
    have hx:(∀n o,x=.p n o->n < m)/\JD.okC m cs=true:=by
     simp only [JD.okC] at ho
     cases x <;> try exact⟨fun _ _ h=>(by cases h),ho⟩
     ·rename_i n o
      simp only at ho
      split at ho
      ·rename_i hb
       exact⟨fun n' o' he=>by cases he;simpa [pO] using hb,ho⟩
      ·cases ho
     ·cases ho
    simp [bA,aE8 h1 hx.1,JJ hx.2 h2]
theorem aRL{B:Bl}{m:Nat}:∀{cs:List SV} {vs:List Value},JD.okT m cs=true->bA (gV B) cs=some vs->bA (gV (B.take m)) cs=some vs
 | [],vs,_,h=>h
 | x :: cs, vs, ho, h => by
  simp only [bA] at h
  split at h
  ·cases h
  ·rename_i y0 h1
   split at h
   ·cases h
   ·rename_i h2
    cases h
    have hx:gV (B.take m) x=some y0/\JD.okT m cs=true:=by
     simp only [JD.okT] at ho
     cases x <;> try exact⟨h1,ho⟩
     ·rename_i n o
      simp only at ho
      split at ho
      ·rename_i hb
       refine⟨aE8 (x:=.p n o) h1 (fun n' o' he=>by cases he;simpa [pO] using hb),ho⟩
      ·cases ho
     ·rename_i ds
      simp only at ho
      split at ho
      ·rename_i hb
       refine⟨?_,ho⟩
       simp only [gV] at h1 ⊢
       split at h1
       ·rename_i h3;rw [JJ hb h3];exact h1
       ·cases h1
      ·cases ho
    simp [bA,hx.1,aRL hx.2 h2]
theorem aRM{B:Bl}{m:Nat}:∀{cs:List Nat} {vs:List Value},JD.okF m cs=true->bA (aAL B) cs=some vs->bA (aAL (B.take m)) cs=some vs
 | [],vs,_,h=>h
 | x :: cs, vs, ho, h => by
  simp only [bA] at h
  split at h
  ·cases h
  ·rename_i y0 h1
   split at h
   ·cases h
   ·rename_i h2
    cases h
    simp only [JD.okF] at ho
    split at ho
    ·rename_i hb
     have hx:aAL (B.take m) x=some y0:=by
      unfold aAL at h1 ⊢
      rw [H0,if_pos (by simpa [pO] using hb)];exact h1
     simp [bA,hx,aRM ho h2]
    ·cases ho
theorem P9{B:Bl}{m:Nat}{x:SV}{v:Value}(h:JD m x=true)(hv:gQ B x=some v):gQ (B.take m) x=some v:=by
 cases x
 case p n o=>exact aE8 (x:=.p n o) hv (fun n' o' he=>by cases he;simpa [JD,pO] using h)
 case g cs=>
  simp only [gQ,gV] at hv ⊢
  split at hv
  ·rename_i h1;rw [JJ h h1];exact hv
  ·cases hv
 case t cs=>
  simp only [gQ] at hv ⊢
  split at hv
  ·rename_i h1;rw [aRL h h1];exact hv
  ·cases hv
 case f f cs=>
  simp only [gQ] at hv ⊢
  split at hv
  ·rename_i h1;rw [aRM h h1];exact hv
  ·cases hv
 all_goals exact hv
theorem aWM{B:Bl}{z x:SV}:bT B (re1 z x)=bT B x:=by
 cases z <;> cases x <;> rfl
theorem a0L{B:Bl}{z x:SV}:gQ B (re1 z x)=gQ B x:=by
 cases z <;> cases x <;> rfl
theorem aRN{B:Bl}:∀{cs ds:List SV},bA (bT B) (reC cs ds)=bA (bT B) ds
 | [],[]=>rfl
 | [],_ :: _=>rfl
 | _ :: _,[]=>rfl
 | c :: cs,d :: ds=>by simp only [reC,bA,aWM,aRN]
theorem aWN{B:Bl}{x:SV}:bT B (nb1 x)=bT B x:=by cases x <;> rfl
theorem QA{B:Bl}:∀{cs:List SV},bA (bT B) (nbL cs)=bA (bT B) cs
 | []=>rfl
 | c :: cs=>by simp only [nbL,bA,aWN,QA]
theorem a30{B:Bl}{x:SV}:gV B (nbG x)=gV B x:=by
 cases x <;> try rfl
 simp only [nbG,gV,QA]
theorem aRO{B:Bl}:∀{cs:List SV},bA (gV B) (nbT cs)=bA (gV B) cs
 | []=>rfl
 | c :: cs=>by simp only [nbT,bA,a30,aRO]
theorem aKY{B:Bl}{x:SV}:gQ B (nbG x)=gQ B x:=by
 cases x <;> try rfl
 simp only [nbG,gQ,gV,QA]
theorem aD8{B:Bl}{x:SV}:gQ B (nbS x)=gQ B x:=by
 cases x with
 | g cs=>exact aKY (x:=.g cs)
 | t xs=>simp only [nbS,gQ,aRO]
 | _=>rfl
theorem aRP{B:Bl}:∀{cs:List SV},bA (gQ B) (nbT cs)=bA (gQ B) cs
 | []=>rfl
 | c :: cs=>by simp only [nbT,bA,aKY,aRP]
theorem VO{B:Bl}:∀{cs:List SV},bA (gQ B) (nbA cs)=bA (gQ B) cs
 | []=>rfl
 | c :: cs => by
  simp only [nbA]
  split
  ·simp only [bA,VO];rfl
  ·simp only [bA,aKY,VO]
theorem aWO{e:SE}:∀{e' s:SE} {k:Nat} {x:SV},reE e e'=some s->F5 s k=some x->∃y,F5 e k=some y/\∀B,gQ B x=gQ B y
 | [],s,k,x,h,hk=>by cases h;cases hk
 | (j, y) :: r, s, k, x, h, hk => by
  simp only [reE] at h
  split at h
  ·rename_i z hz
   split at h
   ·rename_i s' hs
    cases h
    simp only [F5] at hk
    cases hb:Nat.beq k j with
    | true=>rw [hb] at hk;cases hk;rw [mR hb];exact⟨z,hz,fun B=>a0L⟩
    | false=>rw [hb] at hk;exact aWO hs hk
   ·cases h
  ·cases h
theorem aKZ{B:Bl}{w:World}{R:List Fact}:∀(M L:List Ch),j7 w (L.map (kW B)) ((reL M L).map (kW B))/\((∀x∈L,roF B R x)->∀x∈reL M L,roF B R x)
 | [],L=>by simp only [reL];exact⟨j7.refl _,fun h=>h⟩
 | x :: M,[]=>by cases x <;> exact⟨.nil,fun h=>h⟩
 | x :: M, y :: L => by
  obtain⟨h1,h2⟩:=aKZ (B:=B) (w:=w) (R:=R) M L
  have gen:reL (x :: M) (y :: L)=y :: reL M L->j7 w ((y :: L).map (kW B)) ((reL (x :: M) (y :: L)).map (kW B))/\((∀x∈y :: L,roF B R x)->∀z∈reL (x :: M) (y :: L),roF B R z):=fun he=>by
   rw [he]
   refine⟨.cons (fun _ h=>h) h1,fun h z hz=>?_⟩
   rcases fA.1 hz with hz | hz
   ·subst hz;exact h _ (by simp)
   ·exact h2 (fun x hx=>h x (j9 _ hx)) z hz
  cases x with
  | box n cs =>
   cases y with
   | box k ds =>
    simp only [reL]
    refine⟨.cons (fun F ⟨b,z,vs,k1,k2,k3⟩=>⟨b,z,vs,k1,by rw [aRN];exact k2,k3⟩) h1,fun h z hz=>?_⟩
    rcases fA.1 hz with hz | hz
    ·subst hz;trivial
    ·exact h2 (fun x hx=>h x (j9 _ hx)) z hz
   | _=>exact gen rfl
  | _=>exact gen (by cases y <;> rfl)
theorem aWP{m:Nat}:∀{s:SE} {k:Nat} {x:SV},okE m s=true->F5 s k=some x->JD m x=true
 | [],k,x,h,hk=>by cases hk
 | (j, y) :: r, k, x, h, hk => by
  simp only [okE] at h
  split at h
  ·rename_i ho
   simp only [F5] at hk
   cases hb:Nat.beq k j with
   | true=>rw [hb] at hk;cases hk;exact ho
   | false=>rw [hb] at hk;exact aWP h hk
  ·cases h
theorem aK0{m:Nat}:∀{L:List Ch} {x:Ch},okL m L=true->x∈L->(∀n cs,x=.box n cs\/x=.ro n cs->n < m/\JD.okC m cs=true)
 | y :: L, x, h, hx, n, cs, he => by
  have key:(∀n cs,y=.box n cs\/y=.ro n cs->n < m/\JD.okC m cs=true)/\okL m L=true:=by
   cases y with
   | box k c =>
    simp only [okL] at h
    split at h
    ·rename_i h1 h2
     refine⟨fun n cs he=>?_,h⟩
     rcases he with he | he <;> cases he
     exact⟨by simpa [pO] using h1,h2⟩
    ·cases h
   | ro k c =>
    simp only [okL] at h
    split at h
    ·rename_i h1 h2
     refine⟨fun n cs he=>?_,h⟩
     rcases he with he | he <;> cases he
     exact⟨by simpa [pO] using h1,h2⟩
    ·cases h
   | o c=>exact⟨fun n cs he=>(by rcases he with he | he <;> cases he),h⟩
   | f c=>exact⟨fun n cs he=>(by rcases he with he | he <;> cases he),h⟩
   | no=>exact⟨fun n cs he=>(by rcases he with he | he <;> cases he),h⟩
   | w k b z =>
    simp only [okL] at h
    split at h
    ·exact⟨fun n cs he=>(by rcases he with he | he <;> cases he),h⟩
    ·cases h
  rcases fA.1 hx with hx | hx
  ·subst hx;exact key.1 n cs he
  ·exact aK0 key.2 hx n cs he
theorem a2E{m n b z:Nat}:∀{L:List Ch},okL m L=true->Ch.w n b z∈L->n < m
 | y :: L, h, hx => by
  have key:(y=.w n b z->n < m)/\okL m L=true:=by
   cases y with
   | box k c =>
    simp only [okL] at h
    split at h
    ·exact⟨fun he=>(by cases he),h⟩
    ·cases h
   | ro k c =>
    simp only [okL] at h
    split at h
    ·exact⟨fun he=>(by cases he),h⟩
    ·cases h
   | w k b z =>
    simp only [okL] at h
    split at h
    ·rename_i h1
     exact⟨fun he=>(by cases he;simpa [pO] using h1),h⟩
    ·cases h
   | o c=>exact⟨fun he=>(by cases he),h⟩
   | f c=>exact⟨fun he=>(by cases he),h⟩
   | no=>exact⟨fun he=>(by cases he),h⟩
  rcases fA.1 hx with hx | hx
  ·exact key.1 hx.symm
  ·exact a2E key.2 hx
theorem aK1{L:List Ch}:∀{is:List Nat} {x:Ch},x∈kl L is->x∈L
 | i :: is, x, h => by
  simp only [kl] at h
  split at h
  ·rename_i y hy
   rcases fA.1 h with h | h
   ·subst h;exact CR hy
   ·exact aK1 h
  ·exact aK1 h
theorem aRQ{B:Bl}{w:World}{L:List Ch}:∀(is:List Nat),∃is',(∀j∈is',j∈is)/\(dV is=true->dV is'=true)/\j7 w (pick (L.map (kW B)) is') ((kl L is).map (kW B))
 | []=>⟨[],by simp,fun h=>h,.nil⟩
 | i :: is => by
  obtain⟨is',h1,h2,h3⟩:=aRQ (B:=B) (w:=w) (L:=L) is
  cases hi:L[i]? with
  | none =>
   refine⟨is',fun j hj=>j9 _ (h1 j hj),fun h=>h2 ?_,?_⟩
   ·simp only [dV,xB] at h;exact h.2
   ·simp only [kl,hi];exact h3
  | some x =>
   refine⟨i :: is',fun j hj=>?_,fun h=>?_,?_⟩
   ·rcases fA.1 hj with h | h
    ·subst h;simp
    ·exact j9 _ (h1 j h)
   ·simp only [dV,xB] at h ⊢
    refine⟨?_,h2 h.2⟩
    rw [MI] at h ⊢
    exact fun j hj=>h.1 j (h1 j hj)
   ·simp only [kl,hi,pick,HZ,MN,Option.getD_some,y8]
    exact .cons (fun _ h=>h) h3
theorem aWQ{c:Ctx}{w:World}{B:Bl}(h:nJ c w B L)(is:List Nat)(ha:dV is=true):nJ c w B (kl L is):=by
 obtain⟨⟨R,s1,s2⟩,s0⟩:=h
 obtain⟨is',_,h2,h3⟩:=aRQ (B:=B) (w:=w) (L:=L) is
 exact⟨⟨R,(s1.P6 is' (h2 ha)).imp h3,fun x hx=>s2 x (aK1 hx)⟩,s0⟩
theorem aK2{c:Ctx}{w:World}{B:Bl}{m:Nat}{L:List Ch}(h:nJ c w B L)(ho:okL m L=true):nJ c w (B.take m) L:=by
 obtain⟨⟨R,s1,s2⟩,s0⟩:=h
 have key:∀x∈L,∀F,(kW B x).P w F->(kW (B.take m) x).P w F:=by
  intro x hx F hF
  cases x with
  | box n cs =>
   obtain⟨h1,h2⟩:=aK0 ho hx n cs (.inl rfl)
   obtain⟨b,z,vs,k1,k2,k3⟩:=hF
   exact⟨b,z,vs,by rw [H0,if_pos h1];exact k1,JJ h2 k2,k3⟩
  | _=>exact hF
 have imp:∀(M:List Ch),(∀x∈M,x∈L)->j7 w (M.map (kW B)) (M.map (kW (B.take m))):=by
  intro M
  induction M with
  | nil=>exact fun _=>.nil
  | cons x M ih=>exact fun hM=>.cons (key x (hM x (by simp))) (ih fun y hy=>hM y (j9 _ hy))
 refine⟨⟨R,s1.imp (imp L fun _ h=>h),fun x hx=>?_⟩,s0⟩
 have:=s2 x hx
 cases x with
 | ro n cs =>
  obtain⟨h1,h2⟩:=aK0 ho hx n cs (.inr rfl)
  obtain⟨b,z,vs,k1,k2,k3⟩:=this
  exact⟨b,z,vs,by rw [H0,if_pos h1];exact k1,JJ h2 k2,k3⟩
 | w n b z =>
  have h1:=a2E ho hx
  exact(by rw [H0,if_pos h1];exact this:(List.take m B)[n]?=some (b,z))
 | _=>exact this
theorem a31{c:Ctx}{w:World}{B:Bl}{L:List Ch}(h:nJ c w B L)(M:List Ch):nJ c w B (reL M L):=by
 obtain⟨⟨R,s1,s2⟩,s0⟩:=h
 exact⟨⟨R,s1.imp (aKZ (R:=R) M L).1,(aKZ (w:=w) M L).2 s2⟩,s0⟩
theorem Rel.as{n:Nat}{c:Ctx}{B0:Bl}{m':Nat}{e':SE}{L':List Ch}{a:Act}{w:World}(hr:rO n c B0 m e L a w)(is:List Nat)(ha:dV is=true){f:SE}{M:List Ch}(h:asS e L is m' f M=some (e',L'))(hm:m'<=m)(h0:B0.length<=m'):rO n c B0 m' e' L' a w:=by
 unfold asS at h
 split at h
 ·rename_i s hs
  split at h
  ·rename_i h1 h2
   cases h
   obtain⟨B,hl,hA,hS⟩:=hr
   have hB:(B0++B).take m'=B0++B.take (m' - B0.length):=by
    rw [List.take_append,aQ3 h0]
   refine⟨B.take (m' - B0.length),by rw [<-hB];simp only [FY,hl];omega,?_,?_⟩
   ·rw [<-hB]
    exact⟨hA.d,hA.size,fun k x hk=>by
     obtain⟨y,q1,q2⟩:=aWO hs hk
     obtain⟨v,k1,k2⟩:=hA.get k y q1
     exact⟨v,P9 (aWP h1 hk) (by rw [q2];exact k1),k2⟩⟩
   ·rw [<-hB]
    exact aK2 (a31 (aWQ hS is ha) _) h2
  ·cases h
 ·cases h
theorem rO.VM{n:Nat}{c:Ctx}{B0:Bl}{m':Nat}{e':SE}{L':List Ch}{a:Act}{w:World}(hr:rO n c B0 m e L a w)(is:List Nat){f:SE}{M:List Ch}(h:VM B0.length m e L is m' f M=some (e',L')):rO n c B0 m' e' L' a w:=by
 unfold Go.Gv.VM at h
 split at h
 ·rename_i h1 h2 h3
  exact Rel.as hr is h3 h (y9 h2) (y9 h1)
 ·cases h
end
end Go.Gv
end
noncomputable section
namespace Go.Gv
noncomputable section
variable {P:Program} {T:TT} {n:Nat} {B:Bl} {e:SE} {a:Act} {o:Oper} {w w':World} {x y:Operand} {c:Ctx} {L:List Ch}
theorem XN{ops:Array Oper}(h:B7 ops e o.guard=.yes):Want ops o (vE B e) true:=by
 unfold B7 at h
 split at h
 ·exact bY (by assumption)
 ·rename_i j w hg
  split at h
  ·rename_i q hq
   split at h
   ·rename_i s hs
    have hj:(ops[j]?).bind (·.dst)=some s:=by rw [<-Array.getElem?_toList,hq];exact hs
    split at h
    ·rename_i c hl
     have hv:lk (vE B e) s=some (.bool c):=by rw [aE7 hl];rfl
     refine cD hg hj hv ?_
     split at h <;> first | rfl | cases h
    all_goals cases h
   ·cases h
  ·cases h
theorem a2F{ops:Array Oper}(h:B7 ops e o.guard=.no):Want ops o (vE B e) false:=by
 unfold B7 at h
 split at h
 ·cases h
 ·rename_i j w hg
  split at h
  ·rename_i q hq
   split at h
   ·rename_i s hs
    have hj:(ops[j]?).bind (·.dst)=some s:=by rw [<-Array.getElem?_toList,hq];exact hs
    split at h
    ·rename_i c hl
     have hv:lk (vE B e) s=some (.bool c):=by rw [aE7 hl];rfl
     refine cD hg hj hv ?_
     cases c <;> cases w <;> first | rfl | cases h
    ·rename_i hl
     exact aZY hg hj (by rw [aE7 hl];rfl)
    all_goals cases h
   ·cases h
  ·cases h
theorem aNB{m:Nat}:∀{L:List Ch},RS m L=true->∃i cs,L[i]?=some (.box m cs)/\JC m L=some cs/\∀cs',yV m cs' L=L.set i (.box m cs')
 | [],h=>by cases h
 | x :: L, h => by
  have ih:RS m L=true->JC m (x :: L)=JC m L->(∀cs',yV m cs' (x :: L)=x :: yV m cs' L)->∃i cs,(x :: L)[i]?=some (.box m cs)/\JC m (x :: L)=some cs/\∀cs',yV m cs' (x :: L)=(x :: L).set i (.box m cs'):=fun h h2 h3=>by
   obtain⟨i,cs,g1,g2,g3⟩:=aNB h
   exact⟨i+1,cs,by simpa using g1,by rw [h2,g2],fun cs'=>by rw [h3,g3];rfl⟩
  cases x with
  | box k cs =>
   simp only [RS] at h
   split at h
   ·rename_i hb
    have:=mR hb
    subst this
    exact⟨0,cs,rfl,by simp only [JC,hb],fun cs'=>by simp only [yV,hb];rfl⟩
   ·rename_i hb
    exact ih h (by simp only [JC,hb]) (fun cs'=>by simp only [yV,hb])
  | ro k cs =>
   simp only [RS] at h
   split at h
   ·cases h
   ·rename_i hb
    exact ih h (by simp only [JC,hb]) (fun cs'=>by simp only [yV])
  | o ch=>exact ih h rfl (fun _=>rfl)
  | f g=>exact ih h rfl (fun _=>rfl)
  | no=>exact ih h rfl (fun _=>rfl)
  | w k b z=>exact ih h rfl (fun _=>rfl)
theorem aS5(hT:JE P T)(hA:gZ n B e a)(hS:nJ c w B L){t:TypeId}{p v:SV}{L':List Ch}(ho:o.op=.store t x y)(hx:jL e x=some p)(hy:jL e y=some v)(h:XJ T t p v L=some L'):∃w',aU3 P o (vE B e) w w'/\nJ c w' B L':=by
 unfold XJ at h
 split at h
 ·rename_i m j
  split at h
  ·rename_i hb
   split at h
   ·rename_i cs _ _ sz _ h1 h2
    split at h
    ·rename_i h3 h4 h5
     split at h
     case h_2=>cases h
     rename_i ds hds
     have h4:=mR h4
     have h5:=y9 h5
     have:=NP hds
     rw [aKW _ _ _ (by omega)] at this
     subst this
     split at h
     case h_2=>cases h
     rename_i L2 hL2
     cases h
     have:=NP hL2
     subst this
     obtain⟨i,cs',g1,g2,g3⟩:=aNB hb
     rw [h1] at g2;cases g2
     obtain⟨pv,hp1,hp2⟩:=fC hA hx
     obtain⟨u,hu1,hu2⟩:=fC hA hy
     obtain⟨vs,hv⟩:=XM h3 hu1
     obtain⟨b,z,rs,k1,k2,_⟩:=hS.cells h1
     simp only [gQ,gV,bT,k1] at hp1
     cases hp1
     have hl:=mA hv
     have hl2:=mA k2
     obtain⟨⟨R,s1,s2⟩,s0⟩:=hS
     have hlt:=(kP.1 g1).1
     have gi:(L.map (kW B))[i]?=some (SX B m cs):=by rw [HZ,g1];rfl
     have s3:St c w ((L.map (kW B)).set i (VJ b z rs)) R:=s1.imp (j7.put i gi fun F ⟨b',z',vs',q1,q2,q3⟩=>by
      rw [k1] at q1;cases q1;rw [k2] at q2;cases q2;exact q3)
     obtain⟨w2,r1,r2⟩:=a5K (P:=P) (o:=o) (e:=vE B e) (b:=b) (q:=z) (cs:=rs) (vs:=vs) (j:=j) (m:=sz) s3 (i:=i) (by rw [YI (by simpa using hlt)]) ho hp2 hu2 (O4 hu1 hv) (hT.size _ _ h2) (by omega) (Nat.ble_eq_true_of_le (by omega)) (MI.2 fun q hq=>by
      obtain⟨k,hk⟩:=aJK hq
      have hk2:k < (qK v).length:=by rw [<-hl];exact(kP.1 hk).1
      obtain⟨q',hq1,hq2⟩:=O1 hv (eM hk2)
      rw [hk] at hq2;cases hq2
      exact aM8 hq1)
     refine⟨w2,r1,⟨⟨R,?_,?_⟩,s0⟩⟩
     ·rw [OT] at r2
      rw [g3,ML]
      exact r2.imp (j7.set i (j7.refl _) fun F hF=>⟨b,z,_,k1,YS j k2 hv,hF⟩)
     ·rw [g3]
      intro q hq
      rcases pN hq with hq | hq
      ·exact s2 q hq
      ·subst hq;trivial
    ·cases h
   ·cases h
  ·cases h
 ·cases h
theorem nJ.box(hS:nJ c w B L){w':World}{b:Nat}{cs:List SV}{vs:List Value}(hc:bA (bT B) cs=some vs)(h:∀M R,St c w M R->St c w' (M ++ [FT b vs]) R):nJ c w' (B ++ [(b,0)]) (L ++ [.box B.length cs]):=by
 obtain⟨⟨R,s1,s2⟩,s0⟩:=hS
 refine⟨⟨R,?_,?_⟩,s0⟩
 ·rw [y7]
  refine(h _ _ s1).imp (j7.append (VN _ L) (.cons (fun F hF=>⟨b,0,vs,by simp,gA (fun _ _=>iB _) hc,hF⟩) .nil))
 ·intro q hq
  rcases e9.1 hq with hq | hq
  ·exact aKU _ (s2 q hq)
  ·simp at hq;subst hq;trivial
theorem aWR(hT:JE P T)(hS:nJ c w B L){t:TypeId}{i:TI}{E:Env}(ho:o.op=.alloc t)(h:C8 T t=some i):∃v w' b,eJ P o E w v w'/\v=.pointer (some ⟨b,0,none⟩)/\nJ c w' (B ++ [(b,0)]) (L ++ [.box B.length i.z]):=by
 obtain⟨z,hz,hzc⟩:=hT.zero _ _ h
 have hzc':bA (bT B) i.z=some z.cells.toList:=gA (fun x v h=>by simpa using iB (B:=[]) B h) hzc
 refine⟨_,_,w.heap.size,fun _ a hA=>?_,rfl,hS.box hzc' fun M R hM=>hM.alloc z.cells.toList t⟩
 simp [execOp,ho,Instr.alloc,hz,newVar,newRow]
theorem a32(hA:gZ n B e a)(hS:nJ c w B L){t:TypeId}{v:SV}(ho:o.op=.box t x)(h:jL e x=some v)(hc:isCells v=true):∃u w' b,eJ P o (vE B e) w u w'/\u=.pointer (some ⟨b,0,none⟩)/\nJ c w' (B ++ [(b,0)]) (L ++ [.box B.length (qK v)]):=by
 obtain⟨u,h1,h2⟩:=fC hA h
 obtain⟨vs,h3⟩:=XM hc h1
 have h4:=O4 h1 h3
 subst h4
 refine⟨_,_,w.heap.size,fun _ a hA=>?_,rfl,hS.box h3 fun M R hM=>hM.alloc u.cells.toList t⟩
 simp [execOp,ho,Instr.box,hA.eval h2,newVar,newRow]
end
structure Gx where
 P:Program
 T:TT
 hT:JE P T
 n:Nat
 c:Ctx
 B0:Bl
 N:Act->World->Prop
 X:Nat->Act->World->Prop
 Q:Act->World->Prop
abbrev Rel(g:Gx)(m:Nat)(e:SE)(L:List Ch)(a:Act)(w:World):Prop:=rO g.n g.c g.B0 m e L a w
mutual
def NK(g:Gx):List Fr->Act->World->Prop
 | []=>g.N
 | .s y :: K=>fun a w=>CW g.P y (NK g K) (XK g K) g.Q a w
 | .k _ :: K=>NK g K
def XK(g:Gx):List Fr->Nat->Act->World->Prop
 | []=>g.X
 | .s _ :: K=>XK g K
 | .k id :: K=>aET id (NK g K) (XK g K)
end
structure aAM (g:Gx) (B1:Bl) (ops:Array Oper) (l:List Bool) (is:List Nat) (Lf L:List Ch):Prop where
 pre:∃B,B1=g.B0++B
 len:l.length=ops.size
 free:aM7 ops=true
 B8:kl L is=Lf
 rng:∀j∈is,j < L.length
 okf:okL B1.length Lf=true
 ap:dV is=true
abbrev Sd(g:Gx)(B1:Bl)(Lf:List Ch):World->Prop:=fun w=>nJ g.c w B1 Lf
def a5R(g:Gx)(B1:Bl)(Lf Lv:List Ch)(m:Nat)(e:SE)(L:List Ch)(a:Act)(w:World):Prop:=∃B,(B1++B).length=m/\gZ g.n (B1++B) e a/\nJ g.c w (B1++B) L/\∀w',nJ g.c w' B1 Lf->nJ g.c w' (B1++B) Lv
def G(g:Gx)(K:List Fr)(m:Nat)(e:SE)(L:List Ch):yU->Prop
 | .n=>∀a w,Rel g m e L a w->NK g K a w
 | .c x=>∀a w,Rel g m e L a w->CW g.P x (NK g K) (XK g K) g.Q a w
 | .r ops l=>∀a w,Rel g m e L a w->wpList g.P ops (mkQ (NK g K) (XK g K) g.Q) l a w
 | .d B1 ops l is Lf Lv=>aAM g B1 ops l is Lf L->∀a w,a5R g B1 Lf Lv m e L a w->wpAnyH g.P .any ops (mkQ (NK g K) (XK g K) g.Q) (Sd g B1 Lf) (l.count false) l.toArray a w
 | .o B1 ops l is Lf Lv i=>aAM g B1 ops l is Lf L->∀a w,a5R g B1 Lf Lv m e L a w->wpOp g.P ops (mkQ (NK g K) (XK g K) g.Q) i (fun a' w'=>Sd g B1 Lf w'/\wpAnyH g.P .any ops (mkQ (NK g K) (XK g K) g.Q) (Sd g B1 Lf) ((l.set i true).count false) (l.set i true).toArray a' w') a w
def YC(g:Gx):yU->Bl
 | .d B1 _ _ _ _ _=>B1
 | .o B1 _ _ _ _ _ _=>B1
 | _=>g.B0
def Frz(g:Gx)(cf:yU)(L L':List Ch):Prop:=match cf with
 | .d B1 ops l is Lf _=>aAM g B1 ops l is Lf L->kl L' is=Lf/\∀j∈is,j < L'.length
 | .o B1 ops l is Lf _ _=>aAM g B1 ops l is Lf L->kl L' is=Lf/\∀j∈is,j < L'.length
 | _=>True
def YV(g:Gx)(K:List Fr)(m:Nat)(e:SE)(L:List Ch)(o:Oper)(Lv:List Ch)(cf cf':yU):Prop:=
 ∀(d:Nat) (x:SV) (Ln:List Ch) (nb:World->Bl) (k:Nat),o.dst=some d->(∀w,(nb w).length=k) ->
  (∀B a w,gZ g.n B e a->nJ g.c w B Lv->B.length=m->∃v,gQ (B++nb g.c.w0) x=some v/\eJ g.P o (vE B e) w v w) ->
  (∀B w L,B.length=m->nJ g.c w B L->nJ g.c w (B++nb g.c.w0) (L++Ln)) ->
  G g K (m+k) ((d,x) :: e) (L++Ln) (cf'.ext Ln)->G g K m e L cf
def aBT(g:Gx)(K:List Fr)(m:Nat)(e:SE)(L:List Ch)(o:Oper)(cf cf':yU):Prop:=
 ∀(ι:Type) (m':ι->Nat) (e':ι->SE) (L':ι->List Ch),(∀i,Frz g cf L (L' i)) ->
  (∀B a w (next:Act->World->Prop) (Q:Exit->Act->World->Prop),(YC g cf++B).length=m->gZ g.n (YC g cf++B) e a->nJ g.c w (YC g cf++B) L->(∀i a' w',rO g.n g.c (YC g cf++B) (m' i) (e' i) (L' i) a' w'->next a' w')->o.wp g.P a w next Q) ->
  (∀i,G g K (m' i) (e' i) (L' i) cf')->G g K m e L cf
def Gs(g:Gx):Stop->Prop
 | .ret m e L=>∀a w,Rel g m e L a w->g.Q a w
 | .fin m e L=>∀a w,Rel g m e L a w->g.N a w
 | .ex id m e L=>∀a w,Rel g m e L a w->g.X id a w
 | .cond o b x y K m e L=>jL e o=some (.b b)->G g K m e L (.c (.cond o x y))
 | .case _ cf K m e L=>G g K m e L cf
 | .loop id y K m e L=>G g K m e L (.c (.block id (.loop y)))
 | .idx o d t s n i Lv cf cf' K m e L=>(∀x y,o.op=.indexAddr t x y->o.dst=some d->jL e x=some (.h s n)->jL e y=some (.i .i64 i)->YV g K m e L o Lv cf cf'->G g K m e L cf)
 | .call o d f xs cf cf' K m e L=>(∀fo args ats,o.op=.call {callee:=.value fo,args:=args,argTypes:=ats}->o.dst=d->jL e fo=some (.f f [])->(∃ys,bA (jL e) args.toList=some ys/\nbA ys=xs)->okA xs=true->sY g.n d=true->aBT g K m e L o cf cf'->G g K m e L cf)
 | .callp o d f xs cf cf' K m e L=>(∀fo args ats,o.op=.call {callee:=.value fo,args:=args,argTypes:=ats}->o.dst=d->jL e fo=some (.f f [])->(∃ys,bA (jL e) args.toList=some ys/\nbA ys=xs)->sY g.n d=true->aBT g K m e L o cf cf'->G g K m e L cf)
 | .op o Lv cf cf' K m e L=>sY g.n o.dst=true->YV g K m e L o Lv cf cf'->aBT g K m e L o cf cf'->G g K m e L cf
 | .opp o Lv cf cf' K m e L=>sY g.n o.dst=true->YV g K m e L o Lv cf cf'->G g K m e L cf
 | .rgn id ops K m e L=>G g K m e L (.c (.region id ops true))
 | .alt cf K m e L=>G g K m e L cf
 | .stuck=>False
noncomputable section
variable {g:Gx} {K:List Fr} {m:Nat} {e:SE} {L:List Ch}
theorem a2G{a:Act}{w:World}:∀{K:List Fr},(match pop K with | some (y,K')=>CW g.P y (NK g K') (XK g K') g.Q a w | none=>g.N a w)->NK g K a w
 | [],h=>by simpa [pop,NK] using h
 | .s y :: K,h=>by simpa [pop,NK] using h
 | .k _ :: K, h => by
  have:NK g K a w:=a2G (by simpa [pop] using h)
  simpa [NK] using this
theorem aWS{a:Act}{w:World}{id:Nat}:∀{K:List Fr},(match xit id K with | some K'=>NK g K' a w | none=>g.X id a w)->XK g K id a w
 | [],h=>by simpa [xit,XK] using h
 | .s y :: K, h => by
  have:XK g K id a w:=aWS (by simpa [xit] using h)
  simpa [XK] using this
 | .k j :: K, h => by
  simp only [xit] at h
  simp only [XK,aET]
  cases hb:Nat.beq id j with
  | true =>
   rw [hb] at h
   rw [if_pos (mR hb)];exact h
  | false =>
   rw [hb] at h
   rw [if_neg (fun e=>by rw [e] at hb;simp at hb)]
   exact aWS h
theorem aRR{F:Nat}(ih:∀K c m e L,Gs g (YR g.T g.n F K c m e L)->G g K m e L c)(h:Gs g (match pop K with | some (y,K')=>YR g.T g.n F K' (.c y) m e L | none=>.fin m e L)):∀a w,Rel g m e L a w->NK g K a w:=fun a w hr=>by
 refine a2G ?_
 split
 ·rename_i y K' hp
  rw [hp] at h
  exact ih _ _ _ _ _ h a w hr
 ·rename_i hp
  rw [hp] at h
  exact h a w hr
theorem gZ.ext{n:Nat}{B nb:Bl}{a a':Act}{d:Nat}{x:SV}{v:Value}(hA:gZ n B e a)(hx:gQ (B++nb) x=some v)(hA':lS n ((d,v) :: vE B e) a'):gZ n (B++nb) ((d,x) :: e) a':=by
 refine(hA.app nb).of hx ⟨hA'.d,hA'.size,fun k u hk=>?_⟩
 simp only [lk] at hk
 cases hb:Nat.beq k d with
 | true=>rw [hb] at hk;exact hA'.get k u (by simp only [lk,hb];exact hk)
 | false =>
  rw [hb] at hk
  obtain⟨y,h2,h3⟩:=aWG hk
  obtain⟨u2,h4,h5⟩:=hA.get k y h2
  rw [GV nb h4] at h3
  refine hA'.get k u ?_
  simp only [lk,hb]
  rw [aE7 h2,h4];simpa using h3.symm
theorem a0M{ops:Array Oper}{l:List Oper}{o:Oper}(hg:B7 ops e o.guard=.yes)(hd:sY g.n o.dst=true):YV g K m e L o L (.r ops (o :: l)) (.r ops l):=by
 intro d x Ln nb k hdst hk hv hs hG a w ⟨B,hm,hA,hS⟩
 obtain⟨v,h1,h2⟩:=hv _ a w hA hS hm
 rw [hdst] at hd
 refine fY h2 (XN hg) hdst hd (fun a' hA'=>hG a' w ⟨B++nb g.c.w0,?_,?_,?_⟩) a hA.env
 ·rw [<-jM,FX,hm,hk]
 ·rw [<-jM];exact hA.ext h1 hA'
 ·rw [<-jM];exact hs _ w _ hm hS
theorem aRS{ops:Array Oper}{l:List Oper}{o:Oper}(hg:B7 ops e o.guard=.yes):aBT g K m e L o (.r ops (o :: l)) (.r ops l):=by
 intro ι m' e' L' _ hrun hG a w hr
 have ⟨B,hm,hA,hS⟩:=hr
 refine wpList_step fun K' hK=>?_
 rw [XN hg _ a hA.env,if_pos rfl]
 exact hrun B a w K' _ hm hA hS (fun i a' w' ⟨B',h1,h2,h3⟩=>hK a' w' (hG i a' w' ⟨B++B',by rw [<-jM];exact h1,by rw [<-jM];exact h2,by rw [<-jM];exact h3⟩))
theorem aAM.S{B1:Bl}{ops:Array Oper}{l:List Bool}{is:List Nat}{Lf:List Ch}(h:aAM g B1 ops l is Lf L){w:World}{B:Bl}(hS:nJ g.c w (B1++B) L):nJ g.c w B1 Lf:=by
 have h1:=aWQ hS is h.ap
 rw [h.B8] at h1
 have h2:=aK2 h1 h.okf
 rwa [YM (iE _),OU] at h2
theorem aAN{d:Edge}:Region.binds .any d=aWA d.ground:=by
 cases d with
 | mk on g=>cases g <;> rfl
theorem aD9{l:List Bool}:∀{es:List Edge},NO l es=true↔∀d∈es,Region.binds .any d=true->l[d.on]?=some true
 | []=>by simp [NO]
 | ⟨on, gr⟩ :: r => by
  have ih:=aD9 (l:=l) (es:=r)
  simp only [NO,fA,forall_eq_or_imp,aAN]
  cases hb:aWA gr with
  | true =>
   simp only
   split
   ·rename_i h1;rw [ih];simp [h1,aAN]
   ·rename_i h1
    constructor
    ·intro h;cases h
    ·intro h;exact absurd (h.1 trivial) (by simpa using h1)
  | false=>simp only;rw [ih];simp [aAN]
theorem VQ{ops:Array Oper}{l:List Bool}(hl:l.length=ops.size){j:Nat}:j∈Region.ready .any ops l.toArray↔l[j]?=some false/\∃o,ops.toList[j]?=some o/\NO l o.after.toList=true:=by
 rw [mem_ready]
 have h1:(l.toArray.getD j true=false)↔l[j]?=some false:=by
  rw [aU0,List.getElem?_toArray]
  cases l[j]? <;> simp
 rw [h1]
 refine and_congr_right fun _=>?_
 constructor
 ·rintro⟨o,h2,h3⟩
  refine⟨o,by simpa using h2,aD9.2 fun d hd hb=>?_⟩
  have:=h3 d (by simpa using hd) hb
  rw [aU0,List.getElem?_toArray] at this
  cases hx:l[d.on]? with
  | none=>rw [hx] at this;cases this
  | some b=>rw [hx] at this;simp at this;rw [this]
 ·rintro⟨o,h2,h3⟩
  refine⟨o,by simpa using h2,fun d hd hb=>?_⟩
  have:=aD9.1 h3 d (by simpa using hd) hb
  rw [aU0,List.getElem?_toArray,this];rfl
theorem aAO{i:Nat}:∀{es:List Edge},XL i es=true↔∃d∈es,Region.binds .any d=true/\d.on=i
 | []=>by simp [XL]
 | ⟨on, gr⟩ :: r => by
  have ih:=aAO (i:=i) (es:=r)
  simp only [XL,fA,exists_eq_or_imp,aAN]
  cases hb:aWA gr with
  | true =>
   simp only
   cases hi:Nat.beq on i with
   | true=>simp [mR hi]
   | false =>
    simp only
    have hne:on≠i:=fun h=>by rw [h] at hi;simp at hi
    rw [ih];simp [hne,aAN]
  | false=>simp only;rw [ih];simp [aAN]
theorem a0N{ops:Array Oper}{l:List Bool}(hl:l.length=ops.size)(hf:aM7 ops=true){i:Nat}{o:Oper}(ho:ops.toList[i]?=some o)(hr:NO l o.after.toList=true):Region.noSelect ops=true/\Region.free .any ops l.toArray i=true:=by
 unfold aM7 at hf
 rw [xB,MI] at hf
 refine⟨hf.1,?_⟩
 unfold Region.free
 have hoi:ops[i]?=some o:=by simpa using ho
 rw [hoi]
 simp only [MI,S9]
 intro j hj
 have hoj:ops[j]?=some ops[j]:=by simp [hj]
 rw [hoj]
 simp only [Bool.or_eq_true,beq_iff_eq]
 by_cases hji:j=i
 ·exact .inl (.inl hji)
 ·have h1:=hf.2 (o,i) (List.mk_mem_zipIdx_iff_getElem?.2 ho)
  rw [MI] at h1
  have h2:=h1 (ops[j],j) (List.mk_mem_zipIdx_iff_getElem?.2 (by simp [hj]))
  simp only [Bool.or_eq_true] at h2
  rcases h2 with ((h2 | h2) | h2) | h2
  ·exact absurd (mR h2).symm hji
  ·obtain⟨d,hd,hb,he⟩:=aAO.1 h2
   refine .inr (.inl ?_)
   rw [<-Array.any_toList,List.any_eq_true]
   exact⟨d,hd,by simp [hb,he]⟩
  ·obtain⟨d,hd,hb,he⟩:=aAO.1 h2
   have:=aD9.1 hr d hd hb
   rw [he] at this
   refine .inl (.inr ?_)
   rw [aU0,List.getElem?_toArray,this];rfl
  ·exact .inr (.inr h2)
theorem count_set{l:List Bool}:∀{i:Nat},l[i]?=some false->l.count false=(l.set i true).count false+1:=by
 induction l with
 | nil=>intro i h;simp at h
 | cons b l ih =>
  intro i h
  cases i with
  | zero=>simp at h;subst h;simp
  | succ i =>
   have:=ih (i:=i) (by simpa using h)
   simp only [List.set_cons_succ,List.count_cons]
   omega
theorem aPP{B1:Bl}{ops:Array Oper}{l:List Bool}{is:List Nat}{Lf:List Ch}{i:Nat}{o:Oper}{d:Nat}{v:Value}{a:Act}{w:World}{B:Bl}(hD:aAM g B1 ops l is Lf L)(ho:ops.toList[i]?=some o)(hl:l[i]?=some false)(hr:NO l o.after.toList=true)(hdst:o.dst=some d)(hdn:Nat.blt d g.n=true)(hA:gZ g.n (B1++B) e a)(hS:nJ g.c w (B1++B) L)
  (hy:(Want ops o (vE (B1++B) e) true/\∀w',Sd g B1 Lf w'->eJ g.P o (vE (B1++B) e) w' v w')\/(Want ops o (vE (B1++B) e) false/\v=undef))
  (k:∀a',lS g.n ((d,v) :: vE (B1++B) e) a'->wpAnyH g.P .any ops (mkQ (NK g K) (XK g K) g.Q) (Sd g B1 Lf) ((l.set i true).count false) (l.set i true).toArray a' w):wpAnyH g.P .any ops (mkQ (NK g K) (XK g K) g.Q) (Sd g B1 Lf) (l.count false) l.toArray a w:=by
 obtain⟨f1,f2⟩:=a0N hD.len hD.free ho hr
 rw [count_set hl]
 refine wpAnyH_take (v:=v) (by simpa using ho) f1 f2 (by simpa using (VQ hD.len).2 ⟨hl,o,ho,hr⟩) (fun _ _ _ h=>h.elim) ?_ (hD.S hS) ?_
 ·rcases hy with ⟨h1,h2⟩ | ⟨h1,h2⟩
  ·exact .inl ⟨h1 _ a hA.env,fun w' hS'=>h2 w' hS' _ a hA.env⟩
  ·exact .inr ⟨h1 _ a hA.env,h2⟩
 ·rw [hdst]
  have:=k _ (hA.env.put (by simpa [pO] using hdn) v)
  simpa using this
theorem aAM.set{B1:Bl}{ops:Array Oper}{l:List Bool}{is:List Nat}{Lf L':List Ch}(h:aAM g B1 ops l is Lf L)(i:Nat)(hz:kl L' is=Lf/\∀j∈is,j < L'.length):aAM g B1 ops (l.set i true) is Lf L':=
 ⟨h.pre,by simpa using h.len,h.free,hz.1,hz.2,h.okf,h.ap⟩
theorem aWT{L Ln:List Ch}:∀{is:List Nat},(∀j∈is,j < L.length)->kl (L++Ln) is=kl L is
 | [],_=>rfl
 | i :: is, h => by
  simp only [kl,S7 (h i (by simp)),aWT (fun j hj=>h j (j9 _ hj))]
theorem aAM.aE9{B1:Bl}{ops:Array Oper}{l:List Bool}{is:List Nat}{Lf:List Ch}(h:aAM g B1 ops l is Lf L)(Ln:List Ch):kl (L++Ln) is=Lf/\∀j∈is,j < (L++Ln).length:=
 ⟨by rw [aWT h.rng];exact h.B8,fun j hj=>by have:=h.rng j hj;simp;omega⟩
theorem a0O{B1:Bl}{ops:Array Oper}{l:List Bool}{is:List Nat}{Lf Lv:List Ch}{i:Nat}{o:Oper}(ho:ops.toList[i]?=some o)(hl:l[i]?=some false)(hr:NO l o.after.toList=true)(hg:B7 ops e o.guard=.yes)(hd:sY g.n o.dst=true):YV g K m e L o Lv (.d B1 ops l is Lf Lv) (.d B1 ops (l.set i true) is Lf Lv):=by
 intro d x Ln nb k hdst hk hv hs hG hD a w ⟨B,hm,hA,hS,hV⟩
 rw [hdst] at hd
 obtain⟨v,h1,h2⟩:=hv _ a w hA (hV w (hD.S hS)) hm
 refine aPP (v:=v) hD ho hl hr hdst hd hA hS (.inl ⟨XN hg,fun w' hS'=>?_⟩) fun a' hA'=>?_
 ·obtain⟨v',h3,h4⟩:=hv _ a w' hA (hV w' hS') hm
  rw [h1] at h3;cases h3;exact h4
 ·refine hG (hD.set i (hD.aE9 Ln)) a' w ⟨B++nb g.c.w0,?_,?_,?_,fun w' hS'=>?_⟩
  ·rw [<-jM,FX,hm,hk]
  ·rw [<-jM];exact hA.ext h1 hA'
  ·rw [<-jM];exact hs _ w _ hm hS
  ·rw [<-jM];exact hs _ w' _ hm (hV w' hS')
theorem aNC{l:List Bool}{i:Nat}:∀{os:List Oper} {j0:Nat},aBS l i os j0=true->∀j o,os[j]?=some o->l[j0+j]?=some false->(NO l o.after.toList=true↔j0+j=i)
 | [],_,_,j,o,h,_=>by simp at h
 | p :: os, j0, h, j, o, hj, hl => by
  simp only [aBS] at h
  cases j with
  | zero =>
   simp at hj;subst hj
   simp only [KX] at hl ⊢
   rw [hl] at h
   simp only at h
   cases hb:Nat.beq j0 i with
   | true =>
    rw [hb] at h;simp only at h
    split at h
    ·rename_i hr;simp [hr,mR hb]
    ·cases h
   | false =>
    rw [hb] at h;simp only at h
    have hne:j0≠i:=fun h=>by rw [h] at hb;simp at hb
    split at h
    ·cases h
    ·rename_i hr;simp [hr,hne]
  | succ j =>
   have h':aBS l i os (j0+1)=true:=by
    split at h
    ·split at h
     ·split at h
      ·exact h
      ·cases h
     ·split at h
      ·cases h
      ·exact h
    ·exact h
    ·cases h
   have:=aNC h' j o (by simpa using hj) (by rw [show j0+1+j=j0+(j+1) from by omega];exact hl)
   rw [this];omega
theorem a0P{B1:Bl}{ops:Array Oper}{l:List Bool}{is:List Nat}{Lf Lv:List Ch}{i:Nat}{o:Oper}(ho:ops.toList[i]?=some o)(hg:B7 ops e o.guard=.yes):aBT g K m e L o (.o B1 ops l is Lf Lv i) (.d B1 ops (l.set i true) is Lf Lv):=by
 intro ι m' e' L' hz hrun hG hD a w hr
 have ⟨B,hm,hA,hS,hV⟩:=hr
 unfold wpOp
 have hoi:ops[i]?=some o:=by simpa using ho
 simp only [hoi,XN hg _ a hA.env,if_true]
 refine .inl (hrun B a w _ _ hm hA hS fun j a' w' h=>?_)
 have hD':=hD.set i (hz j hD)
 obtain⟨B',q1,q2,q3⟩:=h
 refine⟨?_,?_⟩
 ·refine hD'.S (B:=B++B') ?_
  rw [<-jM];exact q3
 ·have:=hG j hD' a' w' ⟨B++B',by rw [<-jM];exact q1,by rw [<-jM];exact q2,by rw [<-jM];exact q3,fun w2 h2=>by rw [<-jM];exact(hV w2 h2).app B'⟩
  simpa using this
theorem a0Q{B1:Bl}{ops:Array Oper}{l:List Bool}{is:List Nat}{Lf Lv:List Ch}{i:Nat}{o:Oper}(ho:ops.toList[i]?=some o)(hg:B7 ops e o.guard=.yes)(hd:sY g.n o.dst=true):YV g K m e L o Lv (.o B1 ops l is Lf Lv i) (.d B1 ops (l.set i true) is Lf Lv):=by
 intro d x Ln nb k hdst hk hv hs hG hD a w ⟨B,hm,hA,hS,hV⟩
 rw [hdst] at hd
 obtain⟨v,h1,h2⟩:=hv _ a w hA (hV w (hD.S hS)) hm
 unfold wpOp
 have hoi:ops[i]?=some o:=by simpa using ho
 simp only [hoi,XN hg _ a hA.env,if_true]
 refine .inl ?_
 unfold Oper.wp
 rw [h2 _ a hA.env,Oper.upon_value,hdst]
 have hA':=hA.env.put (show d < g.n by simpa [sY,pO] using hd) v
 refine⟨hD.S hS,hG (hD.set i (hD.aE9 Ln)) _ w ⟨B++nb g.c.w0,?_,?_,?_,fun w' hS'=>?_⟩⟩
 ·rw [<-jM,FX,hm,hk]
 ·rw [<-jM];exact hA.ext h1 hA'
 ·rw [<-jM];exact hs _ w _ hm hS
 ·rw [<-jM];exact hs _ w' _ hm (hV w' hS')
theorem aJW{l:List Bool}{j:Nat}:∀{os:List Oper} {j0:Nat} {o:Oper},os[j]?=some o->l[j0+j]?=some false->NO l o.after.toList=true->j0+j∈vL l os j0:=by
 intro os
 induction os generalizing j with
 | nil=>intro j0 o h;simp at h
 | cons p os ih =>
  intro j0 o h hl hr
  cases j with
  | zero =>
   simp at h;subst h
   simp only [KX] at hl ⊢
   simp [vL,hl,hr]
  | succ j =>
   have h2:=ih (j:=j) (j0:=j0+1) (o:=o) (by simpa using h) (by rw [show j0+1+j=j0+(j+1) by omega];exact hl) hr
   rw [show j0+1+j=j0+(j+1) by omega] at h2
   simp only [vL]
   split
   ·split
    ·exact j9 _ h2
    ·exact h2
   ·exact h2
theorem a5S{B1:Bl}{ops:Array Oper}{l:List Bool}{is:List Nat}{Lf Lv:List Ch}(hex:∃i,i∈vL l ops.toList 0)(h:∀i∈vL l ops.toList 0,G g K m e L (.o B1 ops l is Lf Lv i))(hok:∀i∈vL l ops.toList 0,l[i]?=some false/\∃o,ops.toList[i]?=some o/\NO l o.after.toList=true):G g K m e L (.d B1 ops l is Lf Lv):=by
 intro hD a w hr
 obtain⟨i0,hi0⟩:=hex
 obtain⟨q1,q2⟩:=hok i0 hi0
 have hm:i0∈Region.ready .any ops l.toArray:=(VQ hD.len).2 ⟨q1,q2⟩
 rw [count_set q1]
 refine⟨fun h=>(by rw [h] at hm;cases hm),fun j hj=>?_⟩
 obtain⟨h1,p,h2,h3⟩:=(VQ hD.len).1 hj
 have h4:=aJW (j0:=0) h2 (by simpa using h1) h3
 rw [FZ] at h4
 have h5:=h j h4 hD a w hr
 have h6:(l.set i0 true).count false=(l.set j true).count false:=by
  have:=count_set q1
  have:=count_set h1
  omega
 rw [h6]
 simpa using h5
theorem aFA{l:List Bool}{i:Nat}:∀{os:List Oper} {j0:Nat},i∈vL l os j0->l[i]?=some false/\∃j o,os[j]?=some o/\j0+j=i/\NO l o.after.toList=true:=by
 intro os
 induction os with
 | nil=>intro j0 h;cases h
 | cons p os ih =>
  intro j0 h
  have tail:i∈vL l os (j0+1)->l[i]?=some false/\∃j o,(p :: os)[j]?=some o/\j0+j=i/\NO l o.after.toList=true:=fun h=>by
   obtain⟨h1,j,o,h2,h3,h4⟩:=ih h
   exact⟨h1,j+1,o,by simpa using h2,by omega,h4⟩
  simp only [vL] at h
  split at h
  ·rename_i hl
   split at h
   ·rename_i hr
    rcases fA.1 h with h | h
    ·subst h;exact⟨hl,0,p,rfl,by omega,hr⟩
    ·exact tail h
   ·exact tail h
  ·exact tail h
theorem aWU{B1:Bl}{ops:Array Oper}{l:List Bool}{is:List Nat}{Lf Lv:List Ch}{i0:Nat}{r:List Nat}(hr:vL l ops.toList 0=i0 :: r)(h:∀i∈i0 :: r,G g K m e L (.o B1 ops l is Lf Lv i)):G g K m e L (.d B1 ops l is Lf Lv):=
 a5S ⟨i0,by rw [hr];simp⟩ (fun i hi=>h i (by rw [<-hr];exact hi)) fun i hi=>by
  obtain⟨h1,j,o,h2,h3,h4⟩:=aFA hi
  rw [FZ] at h3;subst h3
  exact⟨h1,o,h2,h4⟩
theorem a0R{l:List Bool}{i:Nat}{ops:Array Oper}(h:aBS l i ops.toList 0=true):∀j∈vL l ops.toList 0,j=i:=fun j hj=>by
 obtain⟨h1,k,o,h2,h3,h4⟩:=aFA hj
 rw [FZ] at h3;subst h3
 have:=(aNC h k o h2 (by simpa using h1)).1 h4
 simpa using this
def PsG(g:Gx)(K:List Fr)(m:Nat)(L:List Ch)(B1:Bl)(ops:Array Oper)(is:List Nat)(Lf Lv:List Ch):Ps->Prop
 | .bad=>False
 | .ask _ l e=>G g K m e L (.d B1 ops l is Lf Lv)
 | .pur j o l e=>ops.toList[j]?=some o->l[j]?=some false->NO l o.after.toList=true->B7 ops e o.guard=.yes->G g K m e L (.d B1 ops l is Lf Lv)
 | .fin l e _=>G g K m e L (.d B1 ops l is Lf Lv)
theorem VR{B1:Bl}{ops:Array Oper}{is:List Nat}{Lf Lv:List Ch}:∀(r:List Oper) (i:Nat) (l:List Bool) (e:SE) (q:List (Nat×Oper)),(∀j,r[j]?=ops.toList[i+j]?) ->
  PsG g K m L B1 ops is Lf Lv (pass g.T g.n ops Lv r i l e q)->G g K m e L (.d B1 ops l is Lf Lv)
 | [], i, l, e, q, hr, h => by
  unfold pass at h
  exact h
 | o :: r, i, l, e, q, hr, h => by
  have ho:ops.toList[i]?=some o:=by have:=hr 0;simpa using this.symm
  have hr':∀j,r[j]?=ops.toList[i+1+j]?:=fun j=>by
   have:=hr (j+1)
   rw [show i+1+j=i+(j+1) from by omega,<-this];simp
  unfold pass at h
  cases hl:l[i]? with
  | none=>simp only [hl] at h;exact h.elim
  | some b =>
   cases b with
   | true=>simp only [hl] at h;exact VR r (i+1) l e q hr' h
   | false =>
    cases hre:NO l o.after.toList with
    | false=>simp only [hl,hre] at h;exact VR r (i+1) l e q hr' h
    | true =>
     cases hgd:B7 ops e o.guard with
     | bad=>simp only [hl,hre,hgd] at h;exact h.elim
     | ask c=>simp only [hl,hre,hgd] at h;exact h
     | no =>
      cases hd:o.dst with
      | none=>simp only [hl,hre,hgd,hd] at h;exact h.elim
      | some d =>
       cases hb:Nat.blt d g.n with
       | false=>simp only [hl,hre,hgd,hd,hb] at h;exact h.elim
       | true =>
        simp only [hl,hre,hgd,hd,hb] at h
        have ih:=VR r (i+1) _ _ q hr' h
        intro hD a w ⟨B,hm,hA,hS,hV⟩
        refine aPP (v:=undef) hD ho hl hre hd hb hA hS (.inr ⟨a2F hgd,rfl⟩) fun a' hA'=>?_
        exact ih (hD.set i ⟨hD.B8,hD.rng⟩) a' w ⟨B,hm,hA.of (x:=.u) rfl hA',hS,hV⟩
     | yes =>
      cases hv:ev1 g.T e Lv o.op with
      | some v =>
       cases hd:o.dst with
       | none=>simp only [hl,hre,hgd,hv,hd] at h;exact h.elim
       | some d =>
        cases hb:Nat.blt d g.n with
        | false=>simp only [hl,hre,hgd,hv,hd,hb] at h;exact h.elim
        | true =>
         simp only [hl,hre,hgd,hv,hd,hb] at h
         have ih:=VR r (i+1) _ _ q hr' h
         intro hD a w ⟨B,hm,hA,hS,hV⟩
         obtain⟨u,h1,h2⟩:=aKX g.hT hA (hV w (hD.S hS)) hv
         refine aPP (v:=u) hD ho hl hre hd hb hA hS (.inl ⟨XN hgd,fun w' hS'=>?_⟩) fun a' hA'=>?_
         ·obtain⟨u',h3,h4⟩:=aKX (w:=w') g.hT hA (hV w' hS') hv
          rw [h1] at h3;cases h3;exact h4
         ·exact ih (hD.set i ⟨hD.B8,hD.rng⟩) a' w ⟨B,hm,hA.of h1 hA',hS,hV⟩
      | none =>
       cases hp:a2C o.op with
       | true=>simp only [hl,hre,hgd,hv,hp] at h;exact h ho hl hre hgd
       | false =>
        simp only [hl,hre,hgd,hv,hp] at h
        exact VR r (i+1) l e ((i,o) :: q) hr' h
theorem aRT:∀{l:List Bool} {i:Nat},a0H l=true->l[i]?≠some false
 | [],i,_=>by simp
 | b :: l, i, h => by
  unfold a0H at h
  cases b with
  | false=>cases h
  | true =>
   cases i with
   | zero=>simp
   | succ i=>simpa using aRT (l:=l) (i:=i) h
theorem aJX{k:Nat}:∀{L:List Ch},RS k L=true->∃i,(∀cs',yV k cs' L=L.set i (.box k cs'))/\∀k0,aKR k L k0=k0+i
 | [],h=>by cases h
 | x :: L, h => by
  have ih:RS k L=true->(∀cs',yV k cs' (x :: L)=x :: yV k cs' L)->(∀k0,aKR k (x :: L) k0=aKR k L (k0+1))->∃i,(∀cs',yV k cs' (x :: L)=(x :: L).set i (.box k cs'))/\∀k0,aKR k (x :: L) k0=k0+i:=fun h h2 h3=>by
   obtain⟨i,g1,g2⟩:=aJX h
   exact⟨i+1,fun cs'=>by rw [h2,g1];rfl,fun k0=>by rw [h3,g2];omega⟩
  cases x with
  | box j cs =>
   simp only [RS] at h
   split at h
   ·rename_i hb
    exact⟨0,fun cs'=>by simp only [yV,hb];rw [mR hb];rfl,fun k0=>by simp only [aKR,hb];rfl⟩
   ·rename_i hb
    exact ih h (fun cs'=>by simp only [yV,hb]) (fun k0=>by simp only [aKR,hb])
  | ro j cs =>
   simp only [RS] at h
   split at h
   ·cases h
   ·exact ih h (fun _=>rfl) (fun _=>rfl)
  | o ch=>exact ih h (fun _=>rfl) (fun _=>rfl)
  | f g=>exact ih h (fun _=>rfl) (fun _=>rfl)
  | no=>exact ih h (fun _=>rfl) (fun _=>rfl)
  | w k b z=>exact ih h (fun _=>rfl) (fun _=>rfl)
theorem aFB{i:Nat}:∀{is:List Nat},hU i is=true->i∉is
 | [],_=>by simp
 | j :: r, h => by
  unfold hU at h
  cases hb:Nat.beq i j with
  | true=>rw [hb] at h;cases h
  | false =>
   rw [hb] at h
   have hne:i≠j:=fun e=>by rw [e] at hb;simp at hb
   simpa [hne] using aFB h
theorem aWV{L:List Ch}{i:Nat}{x:Ch}:∀{is:List Nat},i∉is->kl (L.set i x) is=kl L is
 | [],_=>rfl
 | j :: is, h => by
  have hne:i≠j:=fun e=>h (by simp [e])
  simp only [kl,YH hne,aWV (fun hj=>h (j9 _ hj))]
theorem aPQ{T:TT}{t:TypeId}{p v:SV}{L':List Ch}{x y:Operand}{is:List Nat}(h:XJ T t p v L=some L')(hp:jL e x=some p)(hf:a3V e L is (.store t x y)=true)(hr:∀j∈is,j < L.length):kl L' is=kl L is/\∀j∈is,j < L'.length:=by
 unfold XJ at h
 split at h
 ·rename_i k o
  split at h
  ·rename_i hb
   split at h
   ·split at h
    ·split at h
     case h_2=>cases h
     split at h
     case h_2=>cases h
     rename_i L2 hL2
     cases h
     have:=NP hL2
     subst this
     obtain⟨i,h1,h2⟩:=aJX hb
     simp only [a3V,hp,h2] at hf
     have:=aFB hf
     rw [FZ] at this
     rw [h1]
     exact⟨aWV this,by simpa using hr⟩
    ·cases h
   ·cases h
  ·cases h
 ·cases h
theorem a0S{a a':Act}{w':World}{B0 B:Bl}{d b:Nat}{cs:List SV}(hm:(B0++B).length=m)(hA:gZ g.n (B0++B) e a)(hA':lS g.n ((d,.pointer (some ⟨b,0,none⟩)) :: vE (B0++B) e) a')(hS':nJ g.c w' ((B0++B) ++ [(b,0)]) (L ++ [.box (B0++B).length cs])):rO g.n g.c (B0++B) (m+1) ((d,.p m 0) :: e) (L ++ [.box m cs]) a' w':=by
 refine⟨[(b,0)],by simp at hm ⊢;omega,?_,?_⟩
 ·exact hA.ext (nb:=[(b,0)]) (x:=.p m 0) (by simp [gQ,gV,bT,<-hm]) hA'
 ·rw [<-hm];exact hS'
theorem A2{cf:yU}(Ln:List Ch):Frz g cf L (L++Ln):=by
 cases cf with
 | d B1 ops l is Lf Lv=>exact fun hD=>hD.aE9 Ln
 | o B1 ops l is Lf Lv i=>exact fun hD=>hD.aE9 Ln
 | _=>trivial
theorem aRU{T:TT}{op:Op}{v:SV}(h:eff T e L op=.val v):ev1 T e L op=some v:=by
 unfold eff at h
 split at h
 ·rename_i hv;cases h;exact hv
 ·repeat' (split at h)
  all_goals cases h
theorem a0T{T:TT}{op:Op}{cs:List SV}(h:eff T e L op=.box cs):(∃t i,op=.alloc t/\C8 T t=some i/\cs=i.z)\/(∃t x v,op=.box t x/\jL e x=some v/\isCells v=true/\cs=qK v):=by
 unfold eff at h
 split at h
 ·cases h
 ·split at h
  ·split at h
   ·rename_i hl;cases h;exact .inl ⟨_,_,rfl,hl,rfl⟩
   ·cases h
  ·split at h
   ·rename_i hv
    split at h
    ·rename_i hc;cases h;exact .inr ⟨_,_,_,rfl,hv,hc,rfl⟩
    ·cases h
   ·cases h
  ·split at h
   ·split at h <;> cases h
   ·cases h
  ·cases h
theorem a33{T:TT}{op:Op}{L':List Ch}(h:eff T e L op=.st L'):∃t x y p v,op=.store t x y/\jL e x=some p/\XJ T t p v L=some L':=by
 unfold eff at h
 split at h
 ·cases h
 ·split at h
  ·split at h <;> cases h
  ·split at h
   ·split at h <;> cases h
   ·cases h
  ·split at h
   ·rename_i hx hy
    split at h
    ·rename_i hs;cases h;exact⟨_,_,_,_,_,rfl,hx,hs⟩
    ·cases h
   ·cases h
  ·cases h
theorem a0U{T:TT}{op:Op}{L':List Ch}(h:eff T e L op=.st L'):∃t x y p v,op=.store t x y/\jL e x=some p/\jL e y=some v/\XJ T t p v L=some L':=by
 unfold eff at h
 split at h
 ·cases h
 ·split at h
  ·split at h <;> cases h
  ·split at h
   ·split at h <;> cases h
   ·cases h
  ·split at h
   ·rename_i hx hy
    split at h
    ·rename_i hs;cases h;exact⟨_,_,_,_,_,rfl,hx,hy,hs⟩
    ·cases h
   ·cases h
  ·cases h
theorem aWW{o:Oper}{cf cf':yU}(hE:aBT g K m e L o cf cf') :
  (∀d cs,eff g.T e L o.op=.box cs->o.dst=some d->Nat.blt d g.n=true->Frz g cf L (L ++ [.box m cs])->G g K (m+1) ((d,.p m 0) :: e) (L ++ [.box m cs]) cf'->G g K m e L cf) /\
  (∀L',eff g.T e L o.op=.st L'->o.dst=none->Frz g cf L L'->G g K m e L' cf'->G g K m e L cf):=by
 refine⟨fun d cs hf hd hdn hz hG=>hE Unit (fun _=>m+1) (fun _=>(d,.p m 0) :: e) (fun _=>L ++ [.box m cs]) (fun _=>hz) (fun B a w next Q hm hA hS hnext=>?_) (fun _=>hG),fun L' hf hd hz hG=>hE Unit (fun _=>m) (fun _=>e) (fun _=>L') (fun _=>hz) (fun B a w next Q hm hA hS hnext=>?_) (fun _=>hG)⟩
 ·have fin:∀{u:Value} {w':World} {b:Nat},eJ g.P o (vE (YC g cf++B) e) w u w'->u=.pointer (some ⟨b,0,none⟩)->nJ g.c w' ((YC g cf++B) ++ [(b,0)]) (L ++ [.box (YC g cf++B).length cs])->o.wp g.P a w next Q:=by
   intro u w' b hR hu hS'
   subst hu
   unfold Oper.wp
   rw [hR _ a hA.env,Oper.upon_value,hd]
   exact hnext () _ _ (a0S hm hA (hA.env.put (by simpa [pO] using hdn) _) hS')
  rcases a0T hf with ⟨t,i,ho,hl,rfl⟩ | ⟨t,x,v,ho,hv,hc,rfl⟩
  ·obtain⟨u,w',b,k1,k2,k3⟩:=aWR (E:=vE (YC g cf++B) e) g.hT hS ho hl
   exact fin k1 k2 k3
  ·obtain⟨u,w',b,k1,k2,k3⟩:=a32 (P:=g.P) hA hS ho hv hc
   exact fin k1 k2 k3
 ·obtain⟨t,x,y,p,v,ho,hx,hy,hs⟩:=a0U hf
  obtain⟨w',k1,k2⟩:=aS5 g.hT hA hS ho hx hy hs
  unfold Oper.wp
  rw [k1 _ a hA.env,Oper.upon_skip,hd]
  exact hnext () _ _ ⟨[],by simpa using hm,by rw [jP];exact⟨hA.d,hA.size,hA.get⟩,by simpa using k2⟩
theorem aWX{o:Oper}{Lv:List Ch}{cf cf':yU}(h:Gs g (a0G e o Lv cf cf' K m L o.op))(hd:sY g.n o.dst=true)(hP:YV g K m e L o Lv cf cf')(hE:aBT g K m e L o cf cf'):G g K m e L cf:=by
 generalize hop:o.op=op at h
 unfold a0G at h
 split at h
 ·split at h
  ·exact h
  ·exact h.elim
 ·split at h
  ·rename_i h1 h2 h3
   exact h _ _ hop h3 h1 h2 hP
  ·exact h hd hP hE
 ·split at h
  ·rename_i h1 h2
   split at h
   ·rename_i hx
    exact h _ _ _ hop rfl h1 ⟨_,h2,rfl⟩ hx hd hE
   ·exact h _ _ _ hop rfl h1 ⟨_,h2,rfl⟩ hd hE
  ·exact h hd hP hE
 ·exact h hd hP hE
theorem a0V{o:Oper}{Lv:List Ch}{cf cf':yU}(h:Gs g (a3U e o Lv cf cf' K m L o.op))(hd:sY g.n o.dst=true)(hP:YV g K m e L o Lv cf cf'):G g K m e L cf:=by
 generalize hop:o.op=op at h
 unfold a3U at h
 split at h
 ·split at h
  ·exact h
  ·exact h.elim
 ·split at h
  ·rename_i h1 h2 h3
   exact h _ _ hop h3 h1 h2 hP
  ·exact h hd hP
 ·exact h hd hP
theorem XO : ∀ (F : Nat) (K : List Fr) (c : yU) (m : Nat) (e : SE) (L : List Ch), Gs g (YR g.T g.n F K c m e L) -> G g K m e L c
 | 0,_,_,_,_,_,h=>h.elim
 | F + 1, K, .c x, m, e, L, h => by
  have ih:=XO F
  unfold YR at h
  cases x with
  | skip=>exact fun a w hr=>pU (aRR ih h a w hr)
  | seq x y=>exact fun a w hr=>bV (ih _ _ _ _ _ h a w hr)
  | block id b =>
   simp only at h
   split at h
   ·exact h
   ·exact fun a w hr=>l9 (ih _ _ _ _ _ h a w hr)
  | exit id =>
   simp only at h
   refine fun a w hr=>MO (aWS ?_)
   cases hx:xit id K with
   | some K'=>rw [hx] at h;exact aRR ih h a w hr
   | none=>rw [hx] at h;exact h a w hr
  | ret=>exact fun a w hr=>B5 (h a w hr)
  | cond o x y =>
   simp only at h
   split at h
   ·rename_i c ho
    intro a w hr
    obtain⟨B,hm,hA,hS⟩:=hr
    obtain⟨v,h1,h2⟩:=fC hA ho
    cases h1
    cases c with
    | true=>exact a28 hA.env h2 rfl (ih _ _ _ _ _ h a w ⟨B,hm,hA,hS⟩)
    | false=>exact a5G hA.env h2 rfl (ih _ _ _ _ _ h a w ⟨B,hm,hA,hS⟩)
   ·rename_i c ho
    exact h ho
   ·exact h.elim
  | region id ops d =>
   cases d with
   | false=>exact fun a w hr=>aJM (ih _ _ _ _ _ h a w hr)
   | true=>exact h
  | _=>exact h.elim
 | F + 1, K, .n, m, e, L, h => by
  have ih:=XO F
  unfold YR at h
  exact fun a w hr=>aRR ih h a w hr
 | F + 1, K, .r ops [], m, e, L, h => by
  have ih:=XO F
  unfold YR at h
  exact fun a w hr=>aRR ih h a w hr
 | F + 1, K, .r ops (⟨dst, op, ty, ps, af, gd⟩ :: l), m, e, L, h => by
  have ih:=XO F
  unfold YR at h
  generalize hg:B7 ops e gd=gv at h
  cases gv with
  | bad=>exact h.elim
  | ask c=>exact h
  | no =>
   simp only at h
   split at h
   ·rename_i d
    split at h
    ·rename_i hd
     intro a w ⟨B,hm,hA,hS⟩
     exact gG (a2F hg) rfl hd (fun a' hA'=>ih _ _ _ _ _ h a' w ⟨B,hm,hA.of (x:=.u) (v:=undef) rfl hA',hS⟩) a hA.env
    ·exact h.elim
   ·exact h.elim
  | yes =>
   simp only at h
   have hE:=aWW (g:=g) (K:=K) (m:=m) (e:=e) (L:=L) (o:=⟨dst,op,ty,ps,af,gd⟩) (cf:=.r ops (⟨dst,op,ty,ps,af,gd⟩ :: l)) (cf':=.r ops l) (aRS hg)
   split at h
   ·rename_i d v hf
    split at h
    ·rename_i hd
     intro a w ⟨B,hm,hA,hS⟩
     obtain⟨u,h1,h2⟩:=aKX (o:=⟨_,op,ty,ps,af,gd⟩) g.hT hA hS (aRU hf)
     exact fY h2 (XN hg) rfl hd (fun a' hA'=>ih _ _ _ _ _ h a' w ⟨B,hm,hA.of h1 hA',hS⟩) a hA.env
    ·exact h.elim
   ·rename_i d cs hf
    split at h
    ·rename_i hd
     exact hE.1 _ _ hf rfl hd trivial (ih _ _ _ _ _ h)
    ·exact h.elim
   ·rename_i L' hf
    exact hE.2 _ hf rfl trivial (ih _ _ _ _ _ h)
   ·split at h
    ·rename_i hd
     exact aWX h hd (a0M hg hd) (aRS hg)
    ·exact h.elim
   ·exact h.elim
 | F + 1, K, .d B1 ops l is Lf Lv, m, e, L, h => by
  have ih:=XO F
  unfold YR at h
  refine VR ops.toList 0 l e [] (fun j=>by simp) ?_
  generalize pass g.T g.n ops Lv ops.toList 0 l e []=ps at h
  cases ps with
  | bad=>exact h.elim
  | ask c l' e'=>exact h
  | pur i o l' e' =>
   intro h1 h2 h3 h4
   simp only at h
   split at h
   ·rename_i hd
    exact a0V h hd (a0O h1 h2 h3 h4 hd)
   ·exact h.elim
  | fin l' e' q =>
   cases q with
   | nil =>
    simp only at h
    split at h
    ·rename_i hall
     intro hD a w hr
     have hn:=ih _ _ _ _ _ h
     obtain⟨B2,hB2⟩:=hD.pre
     have hr':Rel g m e' L a w:=by
      obtain⟨B,hm,hA,hS,_⟩:=hr
      subst hB2
      exact⟨B2++B,by rw [<-jM];exact hm,by rw [<-jM];exact hA,by rw [<-jM];exact hS⟩
     have hempty:Region.ready .any ops l'.toArray=[]:=by
      refine List.eq_nil_iff_forall_not_mem.2 fun j hj=>?_
      exact aRT hall ((VQ hD.len).1 hj).1
     exact wpAnyH_done hempty (hn a w hr') _
    ·exact h.elim
   | cons p q =>
    cases q with
    | cons p' q=>exact h
    | nil =>
     obtain⟨i,o⟩:=p
     simp only at h
     split at h
     ·rename_i hon
      have ho:=ih _ _ _ _ _ h
      cases hra:vL l' ops.toList 0 with
      | cons j r =>
       refine aWU hra fun k hk=>?_
       rw [a0R hon k (by rw [hra];exact hk)]
       exact ho
      | nil =>
       refine absurd h ?_
       intro h
       unfold YR at h
       cases F with
       | zero=>exact h
       | succ F =>
        simp only at h
        split at h
        ·rename_i hi
         split at h
         ·rename_i h1 h2 h3
          have:=aJW (j0:=0) hi (by simpa using h2) h1
          rw [FZ,hra] at this
          cases this
         ·exact h
        ·exact h
     ·exact h.elim
 | F + 1, K, .o B1 ops l is Lf Lv i, m, e, L, h => by
  have ih:=XO F
  unfold YR at h
  split at h
  ·rename_i dst op ty ps af gd ho
   split at h
   ·rename_i hre hli hg
    have hes:=a0P (g:=g) (K:=K) (m:=m) (e:=e) (L:=L) (B1:=B1) (ops:=ops) (l:=l) (is:=is) (Lf:=Lf) (Lv:=Lv) ho hg
    have hE:=aWW (g:=g) (K:=K) (m:=m) (e:=e) (L:=L) (o:=⟨dst,op,ty,ps,af,gd⟩) (cf:=.o B1 ops l is Lf Lv i) (cf':=.d B1 ops (l.set i true) is Lf Lv) hes
    split at h
    ·rename_i v d hf
     split at h
     ·rename_i hd
      have hG:=ih _ _ _ _ _ h
      have hv:=aRU hf
      refine hes Unit (fun _=>m) (fun _=>(d,v) :: e) (fun _=>L) (fun _ hD=>⟨hD.B8,hD.rng⟩) (fun B a w next Q hm hA hS hnext=>?_) (fun _=>hG)
      obtain⟨u,h1,h2⟩:=aKX (o:=⟨some d,op,ty,ps,af,gd⟩) g.hT hA hS hv
      unfold Oper.wp
      rw [h2 _ a hA.env,Oper.upon_value]
      exact hnext () _ _ ⟨[],by simpa using hm,by simpa using hA.of h1 (hA.env.put (by simpa [pO] using hd) u),by simpa using hS⟩
     ·exact h.elim
    ·rename_i d cs hf
     split at h
     ·rename_i hd
      exact hE.1 _ _ hf rfl hd (fun hD=>hD.aE9 _) (ih _ _ _ _ _ h)
     ·exact h.elim
    ·rename_i L' hf
     split at h
     ·rename_i hfz
      refine hE.2 _ hf rfl (fun hD=>?_) (ih _ _ _ _ _ h)
      obtain⟨t,x,y,p,v,hop,hx,hs⟩:=a33 hf
      subst hop
      have:=aPQ hs hx hfz hD.rng
      exact⟨by rw [this.1];exact hD.B8,this.2⟩
     ·exact h.elim
    ·split at h
     ·rename_i hd
      exact aWX h hd (a0Q ho hg hd) hes
     ·exact h.elim
    ·exact h.elim
   ·exact h.elim
  ·exact h.elim
theorem aK3:∀{e r:SE},aWB e=some r->r=e
 | [],r,h=>by cases h;rfl
 | (k, v) :: l, r, h => by
  simp only [aWB] at h
  split at h
  ·rename_i s hs;cases h;rw [aK3 hs]
  ·cases h
theorem aK4:∀{e r:List Ch},aWC e=some r->r=e
 | [],r,h=>by cases h;rfl
 | x :: l, r, h => by
  simp only [aWC] at h
  split at h
  ·rename_i s hs
   have:=aK4 hs
   subst this
   split at h
   ·split at h
    ·rename_i ds hds;cases h;rw [NP hds]
    ·cases h
   ·split at h
    ·rename_i ds hds;cases h;rw [NP hds]
    ·cases h
   ·cases h;rfl
  ·cases h
theorem iG{K:List Fr}{c:yU}{m:Nat}{e:SE}{L:List Ch}(h:Gs g (kV g.T g.n K c m e L)):G g K m e L c:=by
 unfold kV at h
 split at h
 ·rename_i e' L' he hL
  have h1:=aK3 he
  have h2:=aK4 hL
  subst h1;subst h2
  exact XO _ _ _ _ _ _ h
 ·exact h.elim
end
end Go.Gv
end
noncomputable section
namespace Go.Gv
noncomputable section
variable {P:Program} {N N':Act->World->Prop} {X X':Nat->Act->World->Prop} {T T':Act->World->Prop}
theorem TJ(h:LetsOut (mkQ N X T)):LetsOut (mkQ N' X' T'):=let ⟨_,_,h⟩:=h;h.elim
theorem aND{o:Oper}{a:Act}{next next':Act->World->Prop}{r:Result Next}(hn:∀a w,next a w->next' a w)(h:o.upon P a next (mkQ N X T) r):o.upon P a next' (mkQ N' X' T') r:=by
 unfold Oper.upon at h ⊢
 split at h
 ·exact hn _ _ h
 ·exact hn _ _ h
 ·exact hn _ _ h
 ·refine Calls.mono h fun e w' he=>?_
  cases e with
  | returned v=>exact hn _ _ he
  | panicked c=>exact he.elim
  | outgrown=>exact TJ he
 ·exact Rows.mono h fun u w'' he=>hn _ _ he
 ·exact h.elim
 ·exact h.elim
theorem XP{ops:Array Oper}(hN:∀a w,N a w->N' a w):∀(l:List Oper) {a:Act} {w:World},wpList P ops (mkQ N X T) l a w->wpList P ops (mkQ N' X' T') l a w
 | [],a,w,h=>hN a w h
 | o :: l, a, w, h => by
  unfold wpList at h ⊢
  split
  ·rename_i hw
   rw [if_pos hw] at h
   rcases h with h | ⟨h1,h2⟩
   ·exact .inl (aND (fun _ _ h=>XP hN l h) h)
   ·exact .inr ⟨h1,TJ h2⟩
  ·rename_i hw
   rw [if_neg hw] at h
   exact XP hN l h
theorem aNE{ops:Array Oper}{i:Nat}{k k':Act->World->Prop}{a:Act}{w:World}(hk:∀a w,k a w->k' a w)(h:wpOp P ops (mkQ N X T) i k a w):wpOp P ops (mkQ N' X' T') i k' a w:=by
 unfold wpOp at h ⊢
 split
 ·rename_i h0;rw [h0] at h;exact hk _ _ h
 ·rename_i o h0
  rw [h0] at h
  simp only at h
  split
  ·rename_i hw
   rw [if_pos hw] at h
   rcases h with h | ⟨h1,h2⟩
   ·exact .inl (aND hk h)
   ·exact .inr ⟨h1,TJ h2⟩
  ·rename_i hw
   rw [if_neg hw] at h
   exact hk _ _ h
theorem XQ{ops:Array Oper}{S:World->Prop}(hN:∀a w,N a w->N' a w):∀(fuel:Nat) {pM:Array Bool} {a:Act} {w:World},wpAnyH P .any ops (mkQ N X T) S fuel pM a w->wpAnyH P .any ops (mkQ N' X' T') S fuel pM a w
 | 0,_,a,w,h=>⟨h.1,hN a w h.2⟩
 | f+1,_,a,w,h=>⟨fun h0=>hN a w (h.1 h0),fun i hi=>aNE (fun _ _ h=>⟨h.1,XQ hN f h.2⟩) (h.2 i hi)⟩
end
noncomputable section
variable {P:Program} {T:TT} {hT:JE P T} {n:Nat} {c:Ctx} {B0:Bl} {N N1:Act->World->Prop} {X X1:Nat->Act->World->Prop} {Q:Act->World->Prop} {K K':List Fr} {m m':Nat} {e e':SE} {L L':List Ch} {cf cf':yU}
theorem aPR(Kb:List Fr)(hN:∀a w,N1 a w->NK (.mk P T hT n c B0 N X Q) Kb a w)(hX:∀i a w,X1 i a w->XK (.mk P T hT n c B0 N X Q) Kb i a w):∀(Ka:List Fr),(∀a w,NK (.mk P T hT n c B0 N1 X1 Q) Ka a w->NK (.mk P T hT n c B0 N X Q) (Ka++Kb) a w)/\(∀i a w,XK (.mk P T hT n c B0 N1 X1 Q) Ka i a w->XK (.mk P T hT n c B0 N X Q) (Ka++Kb) i a w)
 | []=>⟨hN,hX⟩
 | .s y :: Ka => by
  obtain⟨h1,h2⟩:=aPR Kb hN hX Ka
  exact⟨fun a w h=>CW.mono (show CW P y (NK _ Ka) (XK _ Ka) Q a w from h) h1 h2 (fun _ _ h=>h),h2⟩
 | .k id :: Ka => by
  obtain⟨h1,h2⟩:=aPR Kb hN hX Ka
  refine⟨h1,fun i a w h=>?_⟩
  simp only [XK,aET,OS] at h ⊢
  split
  ·rename_i hi;rw [if_pos hi] at h;exact h1 a w h
  ·rename_i hi;rw [if_neg hi] at h;exact h2 i a w h
theorem a5T{Ka Kb:List Fr}(hN:∀a w,N1 a w->NK (.mk P T hT n c B0 N X Q) Kb a w)(hX:∀i a w,X1 i a w->XK (.mk P T hT n c B0 N X Q) Kb i a w)(h:G (.mk P T hT n c B0 N1 X1 Q) Ka m e L cf):G (.mk P T hT n c B0 N X Q) (Ka++Kb) m e L cf:=by
 obtain⟨h1,h2⟩:=aPR Kb hN hX Ka
 cases cf with
 | n=>exact fun a w hr=>h1 a w (h a w hr)
 | c x=>exact fun a w hr=>CW.mono (h a w hr) h1 h2 (fun _ _ h=>h)
 | r ops l=>exact fun a w hr=>XP h1 l (h a w hr)
 | d B1 ops l is Lf Lv=>exact fun hD a w hr=>XQ h1 _ (h ⟨hD.pre,hD.len,hD.free,hD.B8,hD.rng,hD.okf,hD.ap⟩ a w hr)
 | o B1 ops l is Lf Lv i=>exact fun hD a w hr=>aNE (fun _ _ h=>⟨h.1,XQ h1 _ h.2⟩) (h ⟨hD.pre,hD.len,hD.free,hD.B8,hD.rng,hD.okf,hD.ap⟩ a w hr)
theorem aEA{g:Gx}{s:Stop}(hs:TH s=some (K,cf,m,e,L))(h:G g K m e L cf):Gs g s:=by
 cases s <;> simp only [TH] at hs <;> cases hs
 ·exact fun _=>h
 ·exact h
 ·exact h
 ·exact fun _ _ _ _ _ _ _=>h
 ·exact fun _ _ _ _ _ _ _ _ _ _=>h
 ·exact fun _ _ _ _ _ _ _ _ _=>h
 ·exact fun _ _=>h
 ·exact fun _ _ _=>h
 ·exact h
 ·exact h
def JP(n:Nat)(c:Ctx)(B0:Bl){π υ:Type}(eq:π->Prop)(m:Nat)(ej:π->υ->SE)(Lj:π->υ->List Ch):Act->World->Prop:=fun a w=>∃p u,eq p/\rO n c B0 m (ej p u) (Lj p u) a w
theorem j8{B1:Bl}{ops:Array Oper}{l:List Bool}{is:List Nat}{Lf Lv:List Ch}{i j:Nat}(hs:TH (kV T n K cf m e L)=some (K',.d B1 ops l is Lf Lv,m',e',L'))(hr:vL l ops.toList 0=[i,j])
  (k1:G (.mk P T hT n c B0 N X Q) K' m' e' L' (.o B1 ops l is Lf Lv i)) (k2:G (.mk P T hT n c B0 N X Q) K' m' e' L' (.o B1 ops l is Lf Lv j)):G (.mk P T hT n c B0 N X Q) K m e L cf:=
 iG (g:=.mk P T hT n c B0 N X Q) (aEA hs (aWU (g:=.mk P T hT n c B0 N X Q) hr fun k hk=>by
  rcases fA.1 hk with hk | hk
  ·subst hk;exact k1
  ·simp at hk;subst hk;exact k2))
theorem aWY{B1:Bl}{ops:Array Oper}{l:List Bool}{is:List Nat}{Lf Lv:List Ch}{i j p:Nat}(hs:TH (kV T n K cf m e L)=some (K',.d B1 ops l is Lf Lv,m',e',L'))(hr:vL l ops.toList 0=[i,j,p])
  (k1:G (.mk P T hT n c B0 N X Q) K' m' e' L' (.o B1 ops l is Lf Lv i)) (k2:G (.mk P T hT n c B0 N X Q) K' m' e' L' (.o B1 ops l is Lf Lv j)) (k3:G (.mk P T hT n c B0 N X Q) K' m' e' L' (.o B1 ops l is Lf Lv p)):G (.mk P T hT n c B0 N X Q) K m e L cf:=
 iG (g := .mk P T hT n c B0 N X Q) (aEA hs (aWU (g := .mk P T hT n c B0 N X Q) hr fun k hk => by
  rcases fA.1 hk with hk | hk
  ·subst hk;exact k1
  ·simp at hk
   rcases hk with rfl | rfl
   ·exact k2
   ·exact k3))
theorem bd{α β:Type}{A:Option α}{f:α->Option β}{q:β}{C:Prop}(hF:A.bind f=some q)(k:∀x,A=some x->f x=some q->C):C:=by
 cases h:A with
 | none=>rw [h] at hF;cases hF
 | some x=>exact k x h (by rw [h] at hF;exact hF)
theorem nd{β:Type}{p:Prop}[Decidable p]{A:Option β}{q:β}{C:Prop}(hF:need p A=some q)(k:p->A=some q->C):C:=k (kU hF).1 (kU hF).2
theorem rb{α:Type}{A:Option α}{x:α}(h:A=some x):A.bind some=some x:=by rw [h];rfl
theorem rn{p:Prop}[Decidable p](h:p):need p (some ())=some ():=by simp [need,h]
theorem go(hs:TH (kV T n K cf m e L)=some (K',cf',m',e',L'))(k:G (.mk P T hT n c B0 N X Q) K' m' e' L' cf'):G (.mk P T hT n c B0 N X Q) K m e L cf:=
 iG (g:=.mk P T hT n c B0 N X Q) (aEA hs k)
theorem cut{π υ:Type}(j mj:Nat)(eq:π->Prop)(ks:List Nat)(ej:π->υ->SE)(is:List Nat)(Lj:π->υ->List Ch)(hs:TH (kV T n K cf m e L)=some (K',cf',m',e',L'))
  (k1:G (.mk P T hT n c B0 (JP n c B0 eq mj (fun p u=>ej p u++kp e' ks) (fun p u=>Lj p u++kl L' is)) (XK (.mk P T hT n c B0 N X Q) (K'.drop j)) Q) (K'.take j) m' e' L' cf')
  (k2:∀p u,eq p->G (.mk P T hT n c B0 N X Q) (K'.drop j) mj (ej p u++kp e' ks) (Lj p u++kl L' is) .n):G (.mk P T hT n c B0 N X Q) K m e L cf:=by
 refine go hs ?_
 rw [<-TA j K']
 refine a5T (fun a w ⟨p,u,h1,h2⟩=>?_) (fun _ _ _ h=>h) k1
 exact k2 p u h1 a w h2
theorem jn{π υ:Type}{eq:π->Prop}{mj:Nat}{ej:π->υ->SE}{Lj:π->υ->List Ch}{p:π}(u:υ)(is:List Nat)(hF:eq p)(hs:kV T n K cf m e L=.fin m' e' L')(h:VM B0.length m' e' L' is mj (ej p u) (Lj p u)=some (ej p u,Lj p u)):G (.mk P T hT n c B0 (JP n c B0 eq mj ej Lj) X Q) K m e L cf:=
 iG (g:=.mk P T hT n c B0 _ X Q) (by
  rw [hs]
  exact fun a w hr=>⟨p,u,hF,rO.VM hr is h⟩)
theorem VT{b cb:Bool}{a:Act}{B:Bl}(hb:b=cb):∀(ss:List Nat),bA (F5 e) ss=some (ss.map fun _=>SV.b b)->gZ n B e a->gZ n B (ovr cb e ss) a:=by
 intro ss hs hA
 refine⟨hA.d,hA.size,?_⟩
 subst hb
 have key:∀k∈ss,F5 e k=some (.b b):=by
  induction ss with
  | nil=>intro k hk;cases hk
  | cons s ss ih =>
   simp only [bA,y8] at hs
   split at hs
   ·cases hs
   ·rename_i h1
    split at hs
    ·cases hs
    ·rename_i h2
     cases hs
     intro k hk
     rcases fA.1 hk with hk | hk
     ·subst hk;exact h1
     ·exact ih h2 k hk
 clear hs
 induction ss with
 | nil=>exact hA.get
 | cons s ss ih =>
  intro k x hk
  simp only [ovr,F5] at hk
  cases hb:Nat.beq k s with
  | true =>
   rw [hb] at hk;cases hk
   rw [mR hb]
   exact hA.get s (.b b) (key s (by simp))
  | false =>
   rw [hb] at hk
   exact ih (fun k hk=>key k (j9 _ hk)) k x hk
theorem aEB{b cb:Bool}{a:Act}{w:World}(hb:b=cb)(ss:List Nat)(hs:bA (F5 e) ss=some (ss.map fun _=>SV.b b))(h:rO n c B0 m e L a w):rO n c B0 m (ovr cb e ss) L a w:=by
 obtain⟨B,h1,hA,hS⟩:=h
 exact⟨B,h1,VT hb ss hs hA,hS⟩
theorem aFC{e1:SE}(h:∀a B,gZ n B e a->gZ n B e1 a)(k:G (.mk P T hT n c B0 N X Q) K m e1 L cf):G (.mk P T hT n c B0 N X Q) K m e L cf:=by
 cases cf with
 | d B1 ops l is Lf Lv=>exact fun hD a w ⟨B,h1,h2,h3,h4⟩=>k hD a w ⟨B,h1,h a _ h2,h3,h4⟩
 | o B1 ops l is Lf Lv i=>exact fun hD a w ⟨B,h1,h2,h3,h4⟩=>k hD a w ⟨B,h1,h a _ h2,h3,h4⟩
 | _=>exact fun a w ⟨B,h1,h2,h3⟩=>k a w ⟨B,h1,h a _ h2,h3⟩
noncomputable section
variable {b:Bool} {α:Type} {A B':Option α} {q:Option α}
theorem cs{o:Operand}{x y:Code}(ss:List Nat)(hs:kV T n K cf m e L=.cond o b x y K' m' e' L')(ho:bA (F5 e') ss=some (ss.map fun _=>SV.b b))(hF:(if b=true then A else B')=q)
  (k1:A=q->G (.mk P T hT n c B0 N X Q) K' m' (ovr true e' ss) L' (.c x)) (k2:B'=q->G (.mk P T hT n c B0 N X Q) K' m' (ovr false e' ss) L' (.c y)):G (.mk P T hT n c B0 N X Q) K m e L cf:=
 iG (g := .mk P T hT n c B0 N X Q) (by
  rw [hs]
  intro he a w hr
  have ⟨B,hm,hA,hS⟩:=hr
  obtain⟨v,h1,h2⟩:=fC hA he
  cases h1
  refine mE hA.env h2 (fun hc=>?_) (fun hc=>?_)
  ·rw [if_pos hc] at hF
   exact k1 hF a w (aEB hc ss ho hr)
  ·rw [if_neg (by rw [hc];simp)] at hF
   exact k2 hF a w (aEB hc ss ho hr))
theorem ca{cf':yU}(ss:List Nat)(hs:kV T n K cf m e L=.case b cf' K' m' e' L')(ho:bA (F5 e') ss=some (ss.map fun _=>SV.b b))(hF:(if b=true then A else B')=q)
  (k1:A=q->G (.mk P T hT n c B0 N X Q) K' m' (ovr true e' ss) L' cf') (k2:B'=q->G (.mk P T hT n c B0 N X Q) K' m' (ovr false e' ss) L' cf'):G (.mk P T hT n c B0 N X Q) K m e L cf:=
 iG (g:=.mk P T hT n c B0 N X Q) (by
  rw [hs]
  cases b with
  | true=>exact aFC (fun a B hA=>VT rfl ss ho hA) (k1 (by simpa using hF))
  | false=>exact aFC (fun a B hA=>VT rfl ss ho hA) (k2 (by simpa using hF)))
end
def QS(P:Program)(fn:Func)(c:Ctx)(B0:Bl){ρ ex:Type}(sv:ρ->ex->SV)(Lf:ρ->ex->List Ch)(r:ρ):Act->World->Prop:=Fin P fn fun v w'=>∃y,gQ B0 (sv r y)=some v/\nJ c w' B0 (Lf r y)
theorem aRV{r:ResultVar}{x:SV}{B:Bl}{a:Act}{w:World}(hT:JE P T)(hA:gZ n B e a)(hS:nJ c w B L)(h:aWD T e L r=some x):∃v,gQ B x=some v/\(TG a.tmps r).run P w=.ok v w:=by
 cases r with
 | tmp t =>
  obtain⟨v,h1,h2⟩:=hA.get t x h
  exact⟨v,h1,by simp [TG,h2]⟩
 | cell t ty =>
  simp only [aWD] at h
  split at h
  ·rename_i p hp
   obtain⟨v,h1,h2⟩:=hA.get t p hp
   unfold aM5 at h
   split at h
   ·rename_i n0 o0
    split at h
    ·rename_i cs _ mm _ hb hl
     split at h
     ·rename_i hle
      split at h
      case h_2=>cases h
      rename_i ds hds
      cases h
      have:=NP hds
      subst this
      obtain⟨b,z,vs,g1,g2,g3⟩:=hS.cells hb
      have hlen:=mA g2
      have hle:=y9 hle
      simp only [gQ,gV,bT,g1] at h1
      cases h1
      have h4:=O3 mm (O2 o0 g2)
      have h5:=YU g3 (o:=o0) (m:=mm) (by omega)
      have h6:=qI h5 P
      have h7:((vs.drop o0).take mm).length=mm:=by simp;omega
      rw [h7] at h6
      refine⟨.agg ((vs.drop o0).take mm).toArray,by simp only [gQ,gV,h4],?_⟩
      simp [TG,h2,asAddr,loadVar,hT.agg _ _ hl,hT.size _ _ hl,h6]
     ·cases h
    ·rename_i cs _ _ _ hb hl
     obtain⟨b,z,vs,g1,g2,g3⟩:=hS.cells hb
     simp only [gQ,gV,bT,g1] at h1
     cases h1
     obtain⟨u,h4,h5⟩:=O1 g2 h
     refine⟨u,aRG h4,?_⟩
     have h6:=g3 o0 u h5
     simp [TG,h2,asAddr,loadVar,hT.agg _ _ hl,load,Sem.run,h6]
    ·cases h
   ·cases h
  ·cases h
end
end Go.Gv
end
noncomputable section
namespace Go.Gv
noncomputable section
variable {P:Program} {T:TT} {hT:JE P T} {n:Nat} {c:Ctx} {B0:Bl} {N:Act->World->Prop} {X:Nat->Act->World->Prop} {Q:Act->World->Prop} {K K':List Fr} {m m':Nat} {e e':SE} {L L':List Ch} {cf:yU}
theorem a0W{B:Bl}{x:SV}{v:Value}(h:gQ B x=some v)(hc:isCells x=true):gV B x=some v:=by
 cases x <;> first | exact h | cases hc
theorem YW{r:ResultVar}{x:SV}{B:Bl}{a:Act}{w:World}(hT:JE P T)(hA:gZ n B e a)(hS:nJ c w B L)(h:aPN T e L r=some x):∃v,gV B x=some v/\(TG a.tmps r).run P w=.ok v w:=by
 unfold aPN at h
 split at h
 ·rename_i hv
  split at h
  ·rename_i hc
   cases h
   obtain⟨v,h1,h2⟩:=aRV hT hA hS hv
   exact⟨v,a0W h1 hc,h2⟩
  ·cases h
 ·cases h
theorem aEC{rs:List ResultVar}{x:SV}{B:Bl}{a:Act}{w:World}{fn:Func}(hf:fn.results=rs.toArray)(hT:JE P T)(hA:gZ n B e a)(hS:nJ c w B L)(h:aKT T e L rs=some x):∃v,gQ B x=some v/\(results fn a.tmps).run P w=.ok v w:=by
 rw [aEX hf]
 unfold aKT at h
 split at h
 ·cases h;exact⟨.tuple #[],rfl,by simp⟩
 ·obtain⟨v,h1,h2⟩:=aRV hT hA hS h
  exact⟨v,h1,by simp [h2]⟩
 ·split at h
  ·rename_i g1 g2
   cases h
   obtain⟨v1,h1,k1⟩:=YW hT hA hS g1
   obtain⟨v2,h2,k2⟩:=YW hT hA hS g2
   exact⟨.tuple #[v1,v2],by simp [gQ,bA,h1,h2],by simp [k1,k2]⟩
  ·cases h
 ·split at h
  ·rename_i g1 g2 g3
   cases h
   obtain⟨v1,h1,k1⟩:=YW hT hA hS g1
   obtain⟨v2,h2,k2⟩:=YW hT hA hS g2
   obtain⟨v3,h3,k3⟩:=YW hT hA hS g3
   exact⟨.tuple #[v1,v2,v3],by simp [gQ,bA,h1,h2,h3],by simp [k1,k2,k3]⟩
  ·cases h
 ·cases h
structure FnS (P:Program) (f:FuncId) (c:Ctx) (xs:List SV) (B0:Bl) (L0:List Ch) {ρ ex:Type} (sv:ρ->ex->SV) (Lf:ρ->ex->List Ch) (r:ρ):Prop where
 call:∀args w,(callFunc f args).run P w=.ok (.enter f args) w
 run:∀vs,bA (gQ B0) xs=some vs->nJ c c.w0 B0 L0->Calls P f vs.toArray c.w0 (Ret fun v w'=>∃y,gQ B0 (sv r y)=some v/\nJ c w' B0 (Lf r y))
abbrev Fn0(P:Program)(f:FuncId)(c:Ctx)(xs:List SV){ρ:Type}(sv:ρ->SV)(r:ρ):Prop:=FnS P f c xs [] [] (fun r (_:Unit)=>sv r) (fun _ _=>[]) r
def aJY:Nat->List SV->SE
 | _,[]=>[]
 | k,v :: r=>(k,v) :: aJY (k+1) r
theorem aJZ{B:Bl}:∀{xs:List SV} {vs:List Value} (k:Nat) {j:Nat} {x:SV},bA (gQ B) xs=some vs->F5 (aJY k xs) j=some x->∃v,gQ B x=some v/\lk (aKM k vs) j=some v
 | [],vs,k,j,x,h,hj=>by simp [aJY,F5] at hj
 | y :: xs, vs, k, j, x, h, hj => by
  simp only [bA] at h
  split at h
  ·cases h
  ·rename_i h1
   split at h
   ·cases h
   ·rename_i h2
    cases h
    simp only [aJY,F5] at hj
    simp only [aKM,lk]
    cases hb:Nat.beq j k with
    | true=>rw [hb] at hj;cases hj;exact⟨_,h1,rfl⟩
    | false=>rw [hb] at hj;exact aJZ (k+1) h2 hj
theorem en{f:FuncId}{fn:Func}{cd:Code}{xs:List SV}{L0:List Ch}{ρ ex:Type}{sv:ρ->ex->SV}{Lf:ρ->ex->List Ch}{r:ρ}(n:Nat)(hc:∀args w,(callFunc f args).run P w=.ok (.enter f args) w)(hf:P.funcs[f]?=some fn)(hT:JE P T)(hb:fn.body=some cd)(hm:fn.ntmps=n)(hl:Nat.ble xs.length n=true)
  (k:G (.mk P T hT n c B0 (QS P fn c B0 sv Lf r) (fun _ _ _=>False) (QS P fn c B0 sv Lf r)) [] B0.length (aJY 0 xs) L0 (.c cd)):FnS P f c xs B0 L0 sv Lf r:=by
 refine⟨hc,fun vs hv hS=>CU hf hb hm ?_ fun a hA=>?_⟩
 ·rw [mA hv];exact hl
 ·refine CW.mono (k a c.w0 ⟨[],by simp,⟨hA.d,hA.size,fun j x hj=>?_⟩,by simpa using hS⟩) (fun _ _ h=>h) (fun _ _ _ h=>h) (fun _ _ h=>h)
  obtain⟨v,h1,h2⟩:=aJZ 0 hv hj
  exact⟨v,by simpa using h1,hA.get j v h2⟩
theorem aS6(w:World):nJ (cL w) w [] []:=⟨⟨[],St.enter (by simp),by simp⟩,fun _ _ h=>h⟩
theorem rt{fn:Func}{ρ ex:Type}{sv:ρ->ex->SV}{Lf:ρ->ex->List Ch}{r r':ρ}{rs:List ResultVar}{zz:Option ρ}(y:ex)(is:List Nat)(hF:zz=some r)(hz:zz=some r')(hs:kV T n K cf m e L=.ret m' e' L')(hr:fn.results=rs.toArray){x:SV}(hv:aKT T e' L' rs=some x)(hx:nbS x=sv r' y)(hk:JD B0.length (sv r' y)=true)(hL:VM B0.length m' e' L' is B0.length [] (Lf r' y)=some ([],Lf r' y)):G (.mk P T hT n c B0 N X (QS P fn c B0 sv Lf r)) K m e L cf:=by
 subst hz;cases hF
 refine iG (g:=.mk P T hT n c B0 N X _) ?_
 rw [hs]
 intro a w hr'
 obtain⟨B,hm,hA,hS⟩:=id hr'
 obtain⟨v,h1,h2⟩:=aEC hr hT hA hS hv
 obtain⟨B',hm',_,hS'⟩:=hr'.VM is hL
 have hB':B'=[]:=(by simpa using hm')
 subst hB'
 refine⟨hA.d,v,h2,y,?_,by simpa using hS'⟩
 rw [<-hx] at hk ⊢
 have:=P9 hk (by rw [aD8];exact h1)
 rw [YM (iE _),OU] at this
 exact this
theorem rf{fn:Func}{ρ ex:Type}{sv:ρ->ex->SV}{Lf:ρ->ex->List Ch}{r r':ρ}{rs:List ResultVar}{zz:Option ρ}(y:ex)(is:List Nat)(hF:zz=some r)(hz:zz=some r')(hs:kV T n K cf m e L=.fin m' e' L')(hr:fn.results=rs.toArray){x:SV}(hv:aKT T e' L' rs=some x)(hx:nbS x=sv r' y)(hk:JD B0.length (sv r' y)=true)(hL:VM B0.length m' e' L' is B0.length [] (Lf r' y)=some ([],Lf r' y)):G (.mk P T hT n c B0 (QS P fn c B0 sv Lf r) X Q) K m e L cf:=by
 subst hz;cases hF
 refine iG (g:=.mk P T hT n c B0 _ X Q) ?_
 rw [hs]
 intro a w hr'
 obtain⟨B,hm,hA,hS⟩:=id hr'
 obtain⟨v,h1,h2⟩:=aEC hr hT hA hS hv
 obtain⟨B',hm',_,hS'⟩:=hr'.VM is hL
 have hB':B'=[]:=(by simpa using hm')
 subst hB'
 refine⟨hA.d,v,h2,y,?_,by simpa using hS'⟩
 rw [<-hx] at hk ⊢
 have:=P9 hk (by rw [aD8];exact h1)
 rw [YM (iE _),OU] at this
 exact this
def bB(c:Ctx){α:Type}[aK α](s:AC)(d:List α):Prop:=aK.rd c.S0 c.w0 [s.v d.length] d
structure HS (c:Ctx) (w:World) (L:List Ch):Prop where
 ex:∃B,nJ c w B L
abbrev ow{α:Type}[aK α](s:AC)(d:List α):Ch:=.o (gI [s.v d.length] d)
abbrev fr{α:Type}[aK α](s:AC)(d:List α):Ch:=.f (CS [s.v d.length] d)
theorem aK5{w:World}{B:Bl}(hS:nJ c w B L){f:Fact}(h:f.P c.S0 c.w0):f.P c.S0 w:=by
 obtain⟨⟨R,s1,_⟩,s0⟩:=hS
 exact f.agree h fun b o hb=>s1.keep.cell b o (s0 b o hb) fun hw=>s1.apart b o hw hb
theorem aWZ{w:World}{B:Bl}(hS:nJ c w B L):∀b o,c.S0 b o->RR w b o:=fun b o hb=>by
 obtain⟨⟨R,s1,_⟩,s0⟩:=hS
 exact TC (s0 b o hb) s1.keep.size
theorem HS.a{w:World}{α:Type}[aK α]{s:AC}{d:List α}(h:HS c w L)(hr:bB c s d):bB (cL w) s d:=by
 obtain⟨B,hS⟩:=h.ex
 have h1:(CS [s.v d.length] d).P c.S0 w:=aK5 hS (f:=CS [s.v d.length] d) hr
 exact aK.rd_mono h1 (aWZ hS)
theorem HS.o{w:World}{α:Type}[aK α]{s:AC}{d:List α}(h:HS c w L)(i:Nat)(hi:L[i]?=some (ow s d)):bB (cL w) s d:=by
 obtain⟨B,⟨⟨R,s1,_⟩,_⟩⟩:=h.ex
 exact s1.aQ4 i (by rw [HZ,hi];rfl)
theorem HS.f{w:World}{α:Type}[aK α]{s:AC}{d:List α}(h:HS c w L)(i:Nat)(hi:L[i]?=some (fr s d)):bB (cL w) s d:=by
 obtain⟨B,⟨⟨R,s1,s2⟩,_⟩⟩:=h.ex
 obtain⟨j,hj⟩:=aJK (s2 _ (CR hi))
 exact s1.rd j hj
theorem aED{B:Bl}:∀{xs:List SV} {vs:List Value},okA xs=true->bA (gQ B) xs=some vs->bA (gQ []) xs=some vs
 | [],vs,_,h=>h
 | x :: xs, vs, ho, h => by
  simp only [okA] at ho
  split at ho
  ·rename_i h0
   simp only [bA] at h
   split at h
   ·cases h
   ·rename_i h1
    split at h
    ·cases h
    ·rename_i h2
     cases h
     have h3:=P9 h0 h1
     rw [aBP] at h3
     simp [bA,h3,aED ho h2]
  ·cases ho
theorem aBU{B:Bl}{a:Act}(hA:gZ n B e a):∀{os:List Operand} {xs:List SV},bA (jL e) os=some xs->∃vs,bA (gQ B) xs=some vs/\evs (vE B e) os=some vs
 | [],xs,h=>by cases h;exact⟨[],rfl,rfl⟩
 | o :: os, xs, h => by
  simp only [bA] at h
  split at h
  ·cases h
  ·rename_i h1
   split at h
   ·cases h
   ·rename_i h2
    cases h
    obtain⟨v,k1,k2⟩:=fC hA h1
    obtain⟨vs,k3,k4⟩:=aBU hA h2
    exact⟨v :: vs,by simp [bA,k1,k3],by simp [evs,k2,k4]⟩
def noF:List Ch->Bool
 | []=>true
 | .ro _ _ :: _=>false
 | .f _ :: _=>false
 | .w _ _ _ :: _=>false
 | _ :: L=>noF L
theorem aK6{B:Bl}{R:List Fact}:∀{L:List Ch},noF L=true->∀x∈L,roF B R x
 | [],_,x,hx=>by cases hx
 | y :: L, h, x, hx => by
  rcases fA.1 hx with hx' | hx'
  ·subst hx'
   cases x <;> first | trivial | cases h
  ·cases y with
   | ro=>cases h
   | f=>cases h
   | w=>cases h
   | _=>exact aK6 (L:=L) h x hx'
theorem nJ.after{w w':World}{B:Bl}{L2:List Ch}(h:nJ c w B L)(hn:noF L2=true)(k:nJ (cL w) w' [] L2):nJ c w' B (L++L2):=by
 obtain⟨⟨R,s1,s2⟩,s0⟩:=h
 obtain⟨⟨R',t1,t2⟩,t0⟩:=k
 refine⟨⟨R,?_,fun x hx=>?_⟩,s0⟩
 ·rw [y7]
  have h1:=s1.after t1
  refine h1.imp (j7.append (j7.refl _) ?_)
  have:=VN (B:=[]) B (w:=w') L2
  simpa using this
 ·rcases e9.1 hx with hx | hx
  ·exact s2 x hx
  ·exact aK6 hn x hx
theorem nJ.aW0{w w':World}{B:Bl}(h:nJ c w B L)(k:gX F0 w w'):nJ c w' B L:=by
 obtain⟨⟨R,s1,s2⟩,s0⟩:=h
 exact⟨⟨R,s1.same k,s2⟩,s0⟩
theorem YX{o:Oper}{f:FuncId}{x:Operand}{args:Array Operand}{ts:Array TypeId}{vs:List Value}{E:Env}{w:World}(hcall:∀args w,(callFunc f args).run P w=.ok (.enter f args) w)(ho:o.op=.call {callee:=.value x,args:=args,argTypes:=ts})(hx:ev E x=some (.func (.func f) #[] #[]))(hv:evs E args.toList=some vs):aU4 P o E w f vs.toArray:=by
 have:=aMY (w:=w) (cap:=[]) (xs:=args.toList) (vs:=vs) hcall (by simpa using ho) hx hv
 simpa using this
theorem cl{α β ex:Type}{fo:Option α}{kf:α->Option β}{q:β}{o:Oper}{d:Nat}{f:FuncId}{xs:List SV}{cf1 cf2:yU}{sv:α->ex->SV}{Lf:α->ex->List Ch}(hs:kV T n K cf m e L=.call o (some d) f xs cf1 cf2 K' m' e' L')(hn:∀x y,noF (Lf x y)=true)
  (hc:∀{w},HS c w L'->∀{x},fo=some x->FnS P f (cL w) xs [] [] sv Lf x) (hF:fo.bind kf=some q)
  (k:∀x,fo=some x->kf x=some q->∀y:ex,G (.mk P T hT n c B0 N X Q) K' m' ((d,sv x y) :: e') (L'++Lf x y) cf2):G (.mk P T hT n c B0 N X Q) K m e L cf:=by
 refine iG (g:=.mk P T hT n c B0 N X Q) ?_
 rw [hs]
 intro fo' args ats ho hd hf ⟨ys,hys,hxs⟩ hA0 hdn hE
 subst hxs
 cases hfo:fo with
 | none=>rw [hfo] at hF;cases hF
 | some x =>
  rw [hfo] at hF
  refine hE ex (fun _=>m') (fun y=>(d,sv x y) :: e') (fun y=>L'++Lf x y) (fun y=>A2 _) (fun B a w next Q' hm hA hS hnext=>?_) (k x hfo hF)
  obtain⟨hcall,hrun⟩:=hc ⟨_,hS⟩ hfo
  obtain⟨vs,h1,h2⟩:=aBU hA hys
  obtain⟨v,h3,h4⟩:=fC hA hf
  simp [gQ,bA] at h3
  subst h3
  have h5:=hrun vs (aED hA0 (by rw [VO];exact h1)) (aS6 w)
  have h6:=YX (w:=w) hcall ho h4 h2
  unfold Oper.wp
  rw [h6 _ a hA.env,Oper.upon_enter]
  refine Calls.mono h5 fun en w' ⟨v,hv,y,g1,g2⟩=>?_
  subst hv
  rw [hd]
  have g3:=GV (YC (.mk P T hT n c B0 N X Q) cf1++B) g1
  exact hnext y _ _ ⟨[],by simpa using hm,by simpa using hA.of (by simpa using g3) (hA.env.put (by simpa [sY,pO] using hdn) v),by simpa using hS.after (hn x y) g2⟩
end
end Go.Gv
end
noncomputable section
namespace Go.Gv
noncomputable section
variable {P:Program} {T:TT} {hT:JE P T} {n:Nat} {c:Ctx} {B0:Bl} {N:Act->World->Prop} {X:Nat->Act->World->Prop} {Q:Act->World->Prop} {K K':List Fr} {m m':Nat} {e e':SE} {L L':List Ch} {cf:yU}
def NxP(n:Nat)(c:Ctx)(B0:Bl){σ ρ υ:Type}(o:Step σ ρ)(m:Nat)(el:σ->υ->SE)(Ll:σ->υ->List Ch):Act->World->Prop:=fun a w=>∃s u,o=.next s/\rO n c B0 m (el s u) (Ll s u) a w
def BkP(n:Nat)(c:Ctx)(B0:Bl){β ρ υ:Type}(ro:ρ)(enc:β->ρ)(m:Nat)(ej:β->υ->SE)(Lj:β->υ->List Ch)(id:Nat)(X:Nat->Act->World->Prop):Nat->Act->World->Prop:=fun i a w=>if i=id then ∃b u,ro=enc b/\rO n c B0 m (ej b u) (Lj b u) a w else X i a w
theorem lp{σ ρ υ β ω α:Type}{id:Nat}{y:Code}{fb:σ->Option (Step σ ρ)}{s0:σ}{gk:ρ->Option α}{q:α}(u0:υ)(ks:List Nat)(el:σ->υ->SE)(is0 is:List Nat)(Ll:σ->υ->List Ch)(enc:β->ρ)(kb:List Nat)(ej:β->ω->SE)(ib:List Nat)(Lj:β->ω->List Ch)
  (hs:kV T n K cf m e L=.loop id y K' m' e' L') (hF:(loop fb s0).bind gk=some q)
  (h0:VM B0.length m' e' L' is0 m' (el s0 u0++kp e' ks) (Ll s0 u0++kl L' is)=some (el s0 u0++kp e' ks,Ll s0 u0++kl L' is))
  (k1:∀ro,gk ro=some q->∀s u o,fb s=some o->(∀p,o=.stop p->p=ro)->G (.mk P T hT n c B0 (NxP n c B0 o m' (fun s u=>el s u++kp e' ks) (fun s u=>Ll s u++kl L' is)) (BkP n c B0 ro enc m' (fun b u=>ej b u++kp e' kb) (fun b u=>Lj b u++kl L' ib) id (XK (.mk P T hT n c B0 N X Q) K')) Q) [] m' (el s u++kp e' ks) (Ll s u++kl L' is) (.c y))
  (k2:∀b u,gk (enc b)=some q->G (.mk P T hT n c B0 N X Q) K' m' (ej b u++kp e' kb) (Lj b u++kl L' ib) .n):G (.mk P T hT n c B0 N X Q) K m e L cf:=by
 refine iG (g:=.mk P T hT n c B0 N X Q) ?_
 rw [hs]
 intro a w hr
 cases hl:loop fb s0 with
 | none=>rw [hl] at hF;cases hF
 | some ro =>
  rw [hl] at hF
  have hF:gk ro=some q:=hF
  refine l9 (MP (body:=fb) (r:=ro) (fun s a w=>∃u,rO n c B0 m' (el s u++kp e' ks) (Ll s u++kl L' is) a w) ?_ hl ⟨u0,hr.VM is0 h0⟩)
  intro s a w o ⟨u,hI⟩ hb ho
  refine CW.mono (k1 ro hF s u o hb ho a w hI) ?_ ?_ (fun _ _ h=>h)
  ·rintro a w ⟨s',u',h1,h2⟩
   exact⟨s',h1,u',h2⟩
  ·intro i a w h
   simp only [XK,BkP,aET] at h ⊢
   split
   ·rename_i hi
    rw [if_pos hi] at h
    obtain⟨b,u,h1,h2⟩:=h
    exact k2 b u (h1 ▸ hF) a w h2
   ·rename_i hi
    rw [if_neg hi] at h
    exact h
theorem nx{σ ρ υ:Type}{o:Step σ ρ}{mj:Nat}{el:σ->υ->SE}{Ll:σ->υ->List Ch}{s:σ}(u:υ)(is:List Nat)(hG:some (Step.next s)=some o)(hs:kV T n K cf m e L=.fin m' e' L')(h:VM B0.length m' e' L' is mj (el s u) (Ll s u)=some (el s u,Ll s u)):G (.mk P T hT n c B0 (NxP n c B0 o mj el Ll) X Q) K m e L cf:=
 iG (g:=.mk P T hT n c B0 _ X Q) (by
  rw [hs]
  cases hG
  exact fun a w hr=>⟨s,u,rfl,hr.VM is h⟩)
theorem bk{σ ρ β υ:Type}{o:Step σ ρ}{ro:ρ}{enc:β->ρ}{mj id:Nat}{ej:β->υ->SE}{Lj:β->υ->List Ch}{b:β}(u:υ)(is:List Nat)(hG:some (Step.stop (enc b))=some o)(hr:∀p,o=.stop p->p=ro)(hs:kV T n K cf m e L=.ex id m' e' L')(h:VM B0.length m' e' L' is mj (ej b u) (Lj b u)=some (ej b u,Lj b u)):G (.mk P T hT n c B0 N (BkP n c B0 ro enc mj ej Lj id X) Q) K m e L cf:=
 iG (g:=.mk P T hT n c B0 N _ Q) (by
  rw [hs]
  cases hG
  have:=hr _ rfl
  subst this
  intro a w hr
  show BkP n c B0 (enc b) enc mj ej Lj id X id a w
  unfold BkP
  rw [if_pos rfl]
  exact⟨b,u,rfl,hr.VM is h⟩)
theorem re{σ ρ α:Type}{o:Step σ ρ}{p ro:ρ}{F:ρ->Option α}{q:Option α}{zz:Option (Step σ ρ)}(hG:zz=some o)(hz:zz=some (Step.stop p))(hr:∀p,o=.stop p->p=ro)(hF:F ro=q):F p=q:=by
 subst hz;cases hG
 rw [hr _ rfl];exact hF
structure MB (α:Type) [aK α] where
 ex:Type
 cs:α->ex->List SV
 sub:cK->World->α->ex->Prop
 ok:∀{S w ec x},aK.rd S w ec x->∃y,bA (bT []) (cs x y)=some ec/\sub S w x y
 sv:α->ex->SV
 a7V:∀{S S' w w' x y},sub S w x y->(∀b o,S b o->w'.cell? ⟨b,o,none⟩=w.cell? ⟨b,o,none⟩)->(∀b o,S b o->S' b o)->sub S' w' x y
def cI:MB Int:=⟨Unit,fun x _=>[.i .i64 x],fun _ _ _ _=>True,fun h=>⟨(),by cases h;rfl,trivial⟩,fun x _=>.i .i64 x,fun _ _ _=>trivial⟩
def cB:MB Bool:=⟨Unit,fun x _=>[.b x],fun _ _ _ _=>True,fun h=>⟨(),by cases h;rfl,trivial⟩,fun x _=>.b x,fun _ _ _=>trivial⟩
def cU:MB UInt8:=⟨Unit,fun x _=>[.y x],fun _ _ _ _=>True,fun h=>⟨(),by cases h;rfl,trivial⟩,fun x _=>.y x,fun _ _ _=>trivial⟩
theorem aRW{α:Type}[aK α]{S:cK}{w:World}{ec:List Value}{l:List α}(h:aK.rd S w ec l):∃s:AC,ec=[s.v l.length]:=by
 obtain⟨ad,m,h1,_⟩:=(show pT S w ec l from h)
 exact⟨⟨ad,m⟩,h1⟩
theorem St.a5V{w:World}{M:List Chunk}{R:List Fact}{f:Fact}(h:St c w M R)(s0:∀b o,c.S0 b o->b < c.w0.heap.size)(hf:f.P c.S0 c.w0):St c w M (R ++ [f]):=by
 obtain⟨F,S,a1,a2,a3,a4,a5,a6⟩:=h.sep
 refine⟨h.keep,⟨F,fun b o=>S b o\/c.S0 b o,a1,?_,a3,?_,?_,?_⟩,h.apart⟩
 ·rintro b o hF (hs | hs)
  ·exact a2 b o hF hs
  ·rcases a3 b o hF with hw | hw
   ·exact h.apart b o hw hs
   ·have:=s0 b o hs;omega
 ·rintro b o (hs | hs)
  ·exact a4 b o hs
  ·exact .inl hs
 ·rintro b o (hs | hs)
  ·exact a5 b o hs
  ·exact TC (s0 b o hs) h.keep.size
 ·intro g hg
  rcases e9.1 hg with hg | hg
  ·exact g.mono (a6 g hg) fun b o hs=>.inl hs
  ·simp at hg;subst hg
   exact g.mono (g.agree hf fun b o hb=>h.keep.cell b o (s0 b o hb) fun hw=>h.apart b o hw hb) fun b o hs=>.inr hs
theorem nJ.a5W{w:World}{B:Bl}{k b z:Nat}{cs:List SV}{vs:List Value}(h:nJ c w B L)(hk:B[k]?=some (b,z))(hc:bA (bT B) cs=some vs)(hf:(fAt b z vs).P c.S0 c.w0):nJ c w B (L ++ [.ro k cs]):=by
 obtain⟨⟨R,s1,s2⟩,s0⟩:=h
 refine⟨⟨R ++ [fAt b z vs],?_,fun x hx=>?_⟩,s0⟩
 ·rw [y7]
  exact St.more (ch:=KR) (St.a5V s1 s0 hf) (gX.refl _ _) ⟨F0,fun _ _ h=>h,fun _ _ h=>h.elim⟩
 ·rcases e9.1 hx with hx | hx
  ·exact YT (fun f hf=>V9 _ hf) (s2 x hx)
  ·simp at hx;subst hx
   exact⟨b,z,vs,hk,hc,by simp⟩
theorem ix{α β:Type}{iR:aK α}(C:MB α){o:Oper}{d t:Nat}{s:AC}{i:Int}{Lv:List Ch}{cf1 cf2:yU}{ls:List α}{kf:α->Option β}{q:β}{el sz:Nat}{b1 b2:Bool}{z1 z2:List SV}{k2:TK}{n1:Nat}(hs:kV T n K cf m e L=.idx o d t s ls.length i Lv cf1 cf2 K' m' e' L')(h1:bB c s ls)(hF:(idx ls i).bind kf=some q)(ht:C8 T t=some ⟨.sl el,b1,n1,z1⟩)(he:C8 T el=some ⟨k2,b2,sz,z2⟩)(hn:aK.n α=sz)
  (k:∀x,idx ls i=some x->kf x=some q->∀y:C.ex,C.sub c.S0 c.w0 x y->G (.mk P T hT n c B0 N X Q) K' (m'+1) ((d,.p m' 0) :: e') (L' ++ [.ro m' (C.cs x y)]) (cf2.ext [.ro m' (C.cs x y)])):G (.mk P T hT n c B0 N X Q) K m e L cf:=by
 refine iG (g:=.mk P T hT n c B0 N X Q) ?_
 rw [hs]
 intro x' y' ho hd hx hy hP
 cases hi:idx ls i with
 | none=>rw [hi] at hF;cases hF
 | some x =>
  rw [hi] at hF
  obtain⟨dd,hd1,hd2⟩:=hT.und _ _ ht
  simp only at hd2;subst hd2
  obtain⟨ec,p1,p2⟩:=a3R (S:=c.S0) (w:=c.w0) h1 (lC hi).2.2
  obtain⟨y,p3,p4⟩:=C.ok p2
  subst hn
  refine hP d (.p m' 0) [.ro m' (C.cs x y)] (fun _=>[(S4 (s.v ls.length),SW (aK.n α) i.toNat (s.v ls.length))]) 1 hd (fun _=>rfl) (fun B a w hA hS hm=>?_) (fun B w L hm hS=>?_) (k x hi hF y p4)
  ·obtain⟨v,g1,g2⟩:=fC hA hx
   obtain⟨u,g3,g4⟩:=fC hA hy
   cases g1;cases g3
   have hrd:aK.rd c.S0 w [s.v ls.length] ls:=aK5 hS (f:=CS [s.v ls.length] ls) h1
   exact⟨_,by simp [gQ,gV,bT,<-hm],TF (P:=P) (o:=o) (w:=w) hrd rfl hi hd1 (hT.size _ _ he) ho g2 g4⟩
  ·exact(hS.app _).a5W (b:=S4 (s.v ls.length)) (z:=SW (aK.n α) i.toNat (s.v ls.length)) (by simp [<-hm]) (gA (fun x v h=>by simpa using iB (B:=[]) _ h) p3) p1
theorem dr{id:Nat}{ops:Array Oper}(is:List Nat)(hs:kV T n K cf m e L=.rgn id ops K' m' e' L')(hm:P.follows .mixedOrders=true)(hf:(aM7 ops && (okL m' (kl L' is) && (dV is && is.all fun j=>Nat.blt j L'.length)))=true)
  (k:∀B1,G (.mk P T hT n c B0 N X Q) K' m' e' L' (.d B1 ops (List.replicate ops.size false) is (kl L' is) (kl L' is))):G (.mk P T hT n c B0 N X Q) K m e L cf:=by
 refine iG (g:=.mk P T hT n c B0 N X Q) ?_
 rw [hs]
 intro a w ⟨B,hmm,hA,hS⟩
 simp only [xB,MI,pO] at hf
 obtain⟨f1,f2,f3,f4⟩:=hf
 refine wp_region_held (S:=Sd (.mk P T hT n c B0 N X Q) (B0++B) (kl L' is)) hm ?_
 have:=k (B0++B) ⟨⟨B,rfl⟩,by simp,f1,rfl,f4,by rw [hmm];exact f2,f3⟩ a w.drew ⟨[],by simpa using hmm,by simpa using hA,by simpa using hS.aW0 (gX.drew F0 w),fun w' h=>by simpa using h⟩
 simpa using this
end
end Go.Gv
end
noncomputable section
namespace Go.Gv
inductive StF (P:Program):List Field->List (Nat×Nat)->Prop where
 | n:StF P [] []
 | c {F:Field} {Fs:List Field} {fs:List (Nat×Nat)} {m:Nat} (h:∀w,(sizeOf F.type).run P w=.ok m w) (t:StF P Fs fs):StF P (F :: Fs) ((F.offset,m) :: fs)
noncomputable section
variable {P:Program} {T:TT} {t n:Nat} {a:Bool} {zs:List SV} {z:Value}
theorem StF.off{Fs:List Field}{fs:List (Nat×Nat)}(h:StF P Fs fs):Fs.map (·.offset)=fs.map (·.1):=by
 induction h with
 | n=>rfl
 | c h t ih=>simp [ih]
theorem StF.get{Fs:List Field}{fs:List (Nat×Nat)}(h:StF P Fs fs):∀(j:Nat) F,Fs[j]?=some F->∃m,fs[j]?=some (F.offset,m)/\∀w,(sizeOf F.type).run P w=.ok m w:=by
 induction h with
 | n=>intro j F h;simp at h
 | c h t ih =>
  intro j F hj
  cases j with
  | zero=>simp at hj;subst hj;exact⟨_,rfl,h⟩
  | succ j=>exact ih j F (by simpa using hj)
theorem StF.run{Fs:List Field}{fs:List (Nat×Nat)}(h:StF P Fs fs)(w:World):(Fs.mapM fun f=>(do pure (f.offset,<-sizeOf f.type):Sem (Nat×Nat))).run P w=.ok fs w:=by
 induction h with
 | n=>simp
 | c h t ih=>simp [h] at ih ⊢;simp [ih]
theorem JE.nil:JE P []:=⟨fun _ _ h=>(by cases h),fun _ _ h=>(by cases h),fun _ _ h=>(by cases h),fun _ _ h=>(by cases h)⟩
theorem JE.add{k:TK}{d:TypeDesc}(hu:P.underlying t=some d)(hk:match k with
  | .i k=>d=.int k
  | .b=>d=.bool
  | .st fs=>∃Fs:Array Field,d=.struct Fs/\Fs.toList.map (·.offset)=fs.map (·.1)/\(∀(j:Nat) F,Fs[j]?=some F->∃m,fs[j]?=some (F.offset,m)/\∀w,(sizeOf F.type).run P w=.ok m w)/\∀w,(Fs.mapM fun f=>(do pure (f.offset,<-sizeOf f.type):Sem (Nat×Nat))).run P w=.ok fs.toArray w
  | .s=>d=.string
  | .sl el=>d=.slice el
  | .x=>True) (ha:∀w,(isAgg t).run P w=.ok a w) (hs:∀w,(sizeOf t).run P w=.ok n w) (hz:∀w,(zeroValue t).run P w=.ok z w) (hc:bA (bT []) zs=some z.cells.toList) (h:JE P T):JE P ((t,⟨k,a,n,zs⟩) :: T):=by
 refine⟨fun t' i hi=>?_,fun t' i hi=>?_,fun t' i hi=>?_,fun t' i hi=>?_⟩ <;> simp only [C8] at hi <;> split at hi
 ·rename_i hb;cases hi;rw [mR hb];exact⟨d,hu,hk⟩
 ·exact h.und t' i hi
 ·rename_i hb;cases hi;rw [mR hb];exact ha
 ·exact h.agg t' i hi
 ·rename_i hb;cases hi;rw [mR hb];exact hs
 ·exact h.size t' i hi
 ·rename_i hb;cases hi;rw [mR hb];exact⟨z,hz,hc⟩
 ·exact h.zero t' i hi
theorem JE.st{fs:List (Nat×Nat)}{Fs:List Field}(hu:P.underlying t=some (.struct Fs.toArray))(hk:StF P Fs fs)(ha:∀w,(isAgg t).run P w=.ok a w)(hs:∀w,(sizeOf t).run P w=.ok n w)(hz:∀w,(zeroValue t).run P w=.ok z w)(hc:bA (bT []) zs=some z.cells.toList)(h:JE P T):JE P ((t,⟨.st fs,a,n,zs⟩) :: T):=
 JE.add (k:=.st fs) hu ⟨Fs.toArray,rfl,by simpa using hk.off,fun j F hj=>hk.get j F (by simpa using hj),fun w=>by
  have:=hk.run w
  simp at this ⊢
  simp [this]⟩ ha hs hz hc h
end
abbrev I(x:Int):SV:=.i .i64 x
end Go.Gv
end
noncomputable section
namespace Go.Gv
noncomputable section
variable {P:Program} {T:TT} {hT:JE P T} {n:Nat} {c:Ctx} {B0:Bl} {N:Act->World->Prop} {X:Nat->Act->World->Prop} {Q:Act->World->Prop} {K K':List Fr} {m m':Nat} {e e':SE} {L L':List Ch} {cf cf1 cf2:yU} {o:Oper} {Lv:List Ch} {d:Nat}
theorem ext_nil:cf.ext []=cf:=by cases cf <;> simp [yU.ext]
theorem pu{x:SV}(hs:opS (kV T n K cf m e L)=some (o,Lv,cf1,cf2,K',m',e',L'))(hd:o.dst=some d)(hv:∀B a w,gZ n B e' a->nJ c w B Lv->∃v,gQ B x=some v/\eJ P o (vE B e') w v w)
  (k:G (.mk P T hT n c B0 N X Q) K' m' ((d,x) :: e') L' cf2):G (.mk P T hT n c B0 N X Q) K m e L cf:=by
 refine iG (g:=.mk P T hT n c B0 N X Q) ?_
 have key:YV (.mk P T hT n c B0 N X Q) K' m' e' L' o Lv cf1 cf2->G (.mk P T hT n c B0 N X Q) K' m' e' L' cf1:=fun hP=>by
  refine hP d x [] (fun _=>[]) 0 hd (fun _=>rfl) (fun B a w hA hS _=>?_) (fun B w L _ hS=>by simpa using hS) (by rw [ext_nil];simpa using k)
  obtain⟨v,h1,h2⟩:=hv B a w hA hS
  exact⟨v,by simpa using h1,h2⟩
 generalize kV T n K cf m e L=s at hs
 cases s <;> simp only [opS] at hs <;> cases hs
 ·exact fun _ hP=>key hP
 ·exact fun _ hP _=>key hP
theorem zC{x:Operand}{k:IntKind}{i:Int}{B:Bl}{a:Act}(hA:gZ n B e a)(h:(jL e x).bind uR=some (k,i)):ev (vE B e) x=some (.int k i):=by
 cases hx:jL e x with
 | none=>rw [hx] at h;cases h
 | some y =>
  rw [hx] at h
  obtain⟨v,h1,h2⟩:=fC hA hx
  rw [h2,aPO (x:=y) h h1]
noncomputable section
variable {x y:Operand} {t z:TypeId} {k:IntKind} {i j:Int} {α:Type} {A:Option α} {q:α}
theorem a5X(hs:opS (kV T n K cf m e L)=some (o,Lv,cf1,cf2,K',m',e',L'))(ho:(o.op,o.dst)=(.binOp .quo t x y z,some d))(hx:(jL e' x).bind uR=some (k,i))(hy:(jL e' y).bind uR=some (k,j))(hF:need (j≠0) A=some q)
  (kk:A=some q->G (.mk P T hT n c B0 N X Q) K' m' ((d,.i k (k.wrap (i.tdiv j))) :: e') L' cf2):G (.mk P T hT n c B0 N X Q) K m e L cf:=
 pu hs (congrArg Prod.snd ho) (fun B a w hA _=>⟨_,rfl,aPA (congrArg Prod.fst ho) (zC hA hx) (zC hA hy) (kU hF).1⟩) (kk (kU hF).2)
theorem a5Y(hs:opS (kV T n K cf m e L)=some (o,Lv,cf1,cf2,K',m',e',L'))(ho:(o.op,o.dst)=(.binOp .rem t x y z,some d))(hx:(jL e' x).bind uR=some (k,i))(hy:(jL e' y).bind uR=some (k,j))(hF:need (j≠0) A=some q)
  (kk:A=some q->G (.mk P T hT n c B0 N X Q) K' m' ((d,.i k (i.tmod j)) :: e') L' cf2):G (.mk P T hT n c B0 N X Q) K m e L cf:=
 pu hs (congrArg Prod.snd ho) (fun B a w hA _=>⟨_,rfl,aAI (congrArg Prod.fst ho) (zC hA hx) (zC hA hy) (kU hF).1⟩) (kk (kU hF).2)
theorem a7N{x:Operand}{l:List UInt8}{B:Bl}{a:Act}(hA:gZ n B e a)(h:jL e x=some (.s l)):ev (vE B e) x=some (sv l):=by
 obtain⟨v,h1,h2⟩:=fC hA h
 cases h1;exact h2
theorem a0Y{x:Operand}{cs:List SV}{vs:List Value}{B:Bl}{a:Act}(hA:gZ n B e a)(h:(jL e x).map nbS=some (.g cs))(hv:bA (bT []) cs=some vs):ev (vE B e) x=some (.agg vs.toArray):=by
 cases hx:jL e x with
 | none=>rw [hx] at h;cases h
 | some y =>
  rw [hx] at h
  simp at h
  obtain⟨v,h1,h2⟩:=fC hA hx
  rw [h2,<-h1,<-aD8,h]
  simp only [gQ,gV]
  have:=gA (g:=bT B) (fun x v h=>by simpa using iB (B:=[]) B h) hv
  rw [this]
theorem eqS{xs ys:List SV}{vx vy:List Value}{fs:Array Field}{b:Bool}(hg:P.eqGuardType P.depth t=false)(hst:P.stoodInHeld t=false)(hu:P.underlying t=some (.struct fs))(hb:∀w,(Op.eqFields 9999 vx.toArray vy.toArray (match P.underlying t with | some (.struct fs)=>fs | _=>#[]).toList).run P w=.ok b w)(hs:opS (kV T n K cf m e L)=some (o,Lv,cf1,cf2,K',m',e',L'))(ho:(o.op,o.dst)=(.binOp .eql t x y z,some d))(hx:(jL e' x).map nbS=some (.g xs))(hy:(jL e' y).map nbS=some (.g ys))(hvx:bA (bT []) xs=some vx)(hvy:bA (bT []) ys=some vy)
  (kk:G (.mk P T hT n c B0 N X Q) K' m' ((d,.b b) :: e') L' cf2):G (.mk P T hT n c B0 N X Q) K m e L cf:=
 pu hs (congrArg Prod.snd ho) (fun B a w hA _=>⟨_,rfl,a3I hg hst hu hb (congrArg Prod.fst ho) (a0Y hA hx hvx) (a0Y hA hy hvy)⟩) kk
theorem neS{xs ys:List SV}{vx vy:List Value}{fs:Array Field}{b:Bool}(hg:P.eqGuardType P.depth t=false)(hst:P.stoodInHeld t=false)(hu:P.underlying t=some (.struct fs))(hb:∀w,(Op.eqFields 9999 vx.toArray vy.toArray (match P.underlying t with | some (.struct fs)=>fs | _=>#[]).toList).run P w=.ok b w)(hs:opS (kV T n K cf m e L)=some (o,Lv,cf1,cf2,K',m',e',L'))(ho:(o.op,o.dst)=(.binOp .neq t x y z,some d))(hx:(jL e' x).map nbS=some (.g xs))(hy:(jL e' y).map nbS=some (.g ys))(hvx:bA (bT []) xs=some vx)(hvy:bA (bT []) ys=some vy)
  (kk:G (.mk P T hT n c B0 N X Q) K' m' ((d,.b (!b)) :: e') L' cf2):G (.mk P T hT n c B0 N X Q) K m e L cf:=
 pu hs (congrArg Prod.snd ho) (fun B a w hA _=>⟨_,rfl,aZZ hg hst hu hb (congrArg Prod.fst ho) (a0Y hA hx hvx) (a0Y hA hy hvy)⟩) kk
theorem cl0{α β:Type}{fo:Option α}{kf:α->Option β}{q:β}{f:FuncId}{xs:List SV}{sv:α->SV}(hs:kV T n K cf m e L=.call o (some d) f xs cf1 cf2 K' m' e' L')
  (hc:∀{w},HS c w L'->∀{x},fo=some x->Fn0 P f (cL w) xs sv x) (hF:fo.bind kf=some q)
  (k:∀x,fo=some x->kf x=some q->G (.mk P T hT n c B0 N X Q) K' m' ((d,sv x) :: e') L' cf2):G (.mk P T hT n c B0 N X Q) K m e L cf:=
 cl (Lf:=fun _ _=>[]) hs (fun _ _=>rfl) (fun h=>hc h) hF (fun x hx hk _=>by simpa using k x hx hk)
theorem lr{σ ρ υ α:Type}{id:Nat}{y:Code}{fb:σ->Option (Step σ ρ)}{s0:σ}{gk:ρ->Option α}{q:α}(u0:υ)(ks:List Nat)(el:σ->υ->SE)(is0 is:List Nat)(Ll:σ->υ->List Ch)
  (hs:kV T n K cf m e L=.loop id y K' m' e' L') (hF:(loop fb s0).bind gk=some q)
  (h0:VM B0.length m' e' L' is0 m' (el s0 u0++kp e' ks) (Ll s0 u0++kl L' is)=some (el s0 u0++kp e' ks,Ll s0 u0++kl L' is))
  (k1:∀ro,gk ro=some q->∀s u o,fb s=some o->(∀p,o=.stop p->p=ro)->G (.mk P T hT n c B0 (NxP n c B0 o m' (fun s u=>el s u++kp e' ks) (fun s u=>Ll s u++kl L' is)) (BkP n c B0 ro (fun b:Empty=>nomatch b) m' (fun(b:Empty) (_:Unit)=>nomatch b) (fun b _=>nomatch b) id (XK (.mk P T hT n c B0 N X Q) K')) Q) [] m' (el s u++kp e' ks) (Ll s u++kl L' is) (.c y)):G (.mk P T hT n c B0 N X Q) K m e L cf:=
 lp (β:=Empty) (ω:=Unit) u0 ks el is0 is Ll (fun b=>nomatch b) [] (fun b=>nomatch b) [] (fun b=>nomatch b) hs hF h0 (fun ro hro s u o hb ho=>by
  have:=k1 ro hro s u o hb ho
  have h1:(fun(b:Empty) (u:Unit)=>((fun b=>nomatch b:Empty->Unit->SE) b u++kp e' []))=(fun(b:Empty) (_:Unit)=>nomatch b):=funext fun b=>nomatch b
  have h2:(fun(b:Empty) (u:Unit)=>((fun b=>nomatch b:Empty->Unit->List Ch) b u++kl L' []))=(fun(b:Empty) (_:Unit)=>nomatch b):=funext fun b=>nomatch b
  rw [h1,h2]
  exact this) (fun b=>nomatch b)
end
end
end Go.Gv
end
noncomputable section
namespace Go.Gv
noncomputable section
variable {P:Program} {T:TT} {hT:JE P T} {n:Nat} {c:Ctx} {B0:Bl} {N:Act->World->Prop} {X:Nat->Act->World->Prop} {Q:Act->World->Prop} {K K':List Fr} {m m':Nat} {e e':SE} {L L':List Ch} {cf cf1 cf2:yU} {o:Oper} {Lv:List Ch} {d:Nat}
def Fu1(P:Program)(c:Ctx){α β:Type}{iR:aK α}(C:MB α)(sr:β->SV)(g:FuncId)(cap:List Value)(p:α->Option β):Prop:=
 (∀args w,(callFunc g args).run P w=.ok (.enter g args) w)/\∀w,gX c.W c.w0 w->∀x y,C.sub (RR w) w x y->∀q,p x=some q->∀v,gQ [] (C.sv x y)=some v->Calls P g (v :: cap).toArray w (Ret fun u w'=>gQ [] (sr q)=some u/\nJ (cL w) w' [] [])
def Fu2(P:Program)(c:Ctx){α α' β:Type}{iR:aK α}{iR':aK α'}(C:MB α)(C':MB α')(sr:β->SV)(g:FuncId)(cap:List Value)(p:α->α'->Option β):Prop:=
 (∀args w,(callFunc g args).run P w=.ok (.enter g args) w)/\∀w,gX c.W c.w0 w->∀x y x' y',C.sub (RR w) w x y->C'.sub (RR w) w x' y'->∀q,p x x'=some q->∀v v',gQ [] (C.sv x y)=some v->gQ [] (C'.sv x' y')=some v'->Calls P g (v :: v' :: cap).toArray w (Ret fun u w'=>gQ [] (sr q)=some u/\nJ (cL w) w' [] [])
theorem aW1{α:Type}{iR:aK α}(C:MB α){w:World}{B:Bl}(hS:nJ c w B L){x:α}{y:C.ex}(h:C.sub c.S0 c.w0 x y):C.sub (RR w) w x y:=by
 refine C.a7V h (fun b o hb=>?_) (aWZ hS)
 obtain⟨⟨R,s1,_⟩,s0⟩:=hS
 exact s1.keep.cell b o (s0 b o hb) fun hw=>s1.apart b o hw hb
theorem nJ.aW2{w:World}{B:Bl}(hS:nJ c w B L):gX c.W c.w0 w:=by
 obtain⟨⟨R,s1,_⟩,s0⟩:=hS
 exact s1.keep
noncomputable section
variable {α α' β γ:Type} {iR:aK α} {iR':aK α'} {C:MB α} {C':MB α'} {sr:β->SV} {g:FuncId} {cap:List Value} {q:γ} {kf:β->Option γ} {fo:Operand} {args:Array Operand} {ats:Array TypeId}
theorem aW3{f:FuncId}{x:Operand}{ts:Array TypeId}{vs:List Value}{E:Env}{w:World}(hcall:∀args w,(callFunc f args).run P w=.ok (.enter f args) w)(ho:o.op=.call {callee:=.value x,args:=args,argTypes:=ts})(hx:ev E x=some (.func (.func f) #[] cap.toArray))(hv:evs E args.toList=some vs):aU4 P o E w f (vs++cap).toArray:=
 aMY (w:=w) (cap:=cap) (xs:=args.toList) (vs:=vs) hcall (by simpa using ho) hx hv
theorem aW4{B:Bl}{x:SV}{v:Value}(h:JD 0 x=true)(hv:gQ B x=some v):gQ [] x=some v:=by
 have:=P9 h hv
 rwa [aBP] at this
theorem fa1{p:α->Option β}(H:Fu1 P c C sr g cap p)(x:α)(y:C.ex)(hs:kV T n K cf m e L=.op o Lv cf1 cf2 K' m' e' L')(ho:(o.op,o.dst)=(.call {callee:=.value fo,args:=args,argTypes:=ats},some d))(hf:jL e' fo=some (.k (.func (.func g) #[] cap.toArray)))(hx:(bA (jL e') args.toList).map nbT=some [C.sv x y])(hz:JD 0 (C.sv x y)=true)(hy:C.sub c.S0 c.w0 x y)(hF:(p x).bind kf=some q)
  (k:∀z,p x=some z->kf z=some q->G (.mk P T hT n c B0 N X Q) K' m' ((d,sr z) :: e') L' cf2):G (.mk P T hT n c B0 N X Q) K m e L cf:=by
 refine iG (g:=.mk P T hT n c B0 N X Q) ?_
 rw [hs]
 intro hdn _ hE
 obtain⟨hcall,hrun⟩:=H
 cases hp:p x with
 | none=>rw [hp] at hF;cases hF
 | some z =>
  rw [hp] at hF
  refine hE Unit (fun _=>m') (fun _=>(d,sr z) :: e') (fun _=>L') (fun _=>by simpa using A2 (L:=L') []) (fun B a w next Q' hm hA hS hnext=>?_) (fun _=>k z hp hF)
  cases hys:bA (jL e') args.toList with
  | none=>rw [hys] at hx;cases hx
  | some ys =>
   rw [hys] at hx
   simp at hx
   obtain⟨vs,h1,h2⟩:=aBU hA hys
   obtain⟨u,h3,h4⟩:=fC hA hf
   simp only [gQ,gV,bT] at h3
   split at h3
   ·cases h3
    rw [<-aRP,hx] at h1
    simp only [bA] at h1
    cases hv:gQ (YC (.mk P T hT n c B0 N X Q) cf1++B) (C.sv x y) with
    | none=>rw [hv] at h1;cases h1
    | some v =>
     rw [hv] at h1
     cases h1
     have h6:=aW3 (w:=w) hcall (congrArg Prod.fst ho) h4 h2
     have hd:o.dst=some d:=congrArg Prod.snd ho
     unfold Oper.wp
     rw [h6 _ a hA.env,Oper.upon_enter]
     refine Calls.mono (hrun w hS.aW2 x y (aW1 C hS hy) z hp v (aW4 hz hv)) fun en w' ⟨v',hv',g1,g2⟩=>?_
     subst hv'
     rw [hd] at hdn ⊢
     have g3:=GV (YC (.mk P T hT n c B0 N X Q) cf1++B) g1
     exact hnext () _ _ ⟨[],by simpa using hm,by simpa using hA.of (by simpa using g3) (hA.env.put (by simpa [sY,pO] using hdn) v'),by simpa using hS.after (L2:=[]) rfl g2⟩
   ·cases h3
theorem fu1{w:World}{p:α->Option β}(hc:∀args w,(callFunc g args).run P w=.ok (.enter g args) w)(hn:∀{κ:Ctx} {x y},C.sub κ.S0 κ.w0 x y->∀{q},p x=some q->Fn0 P g κ [C.sv x y] sr q):Fu1 P (cL w) C sr g [] p:=
 ⟨hc,fun w1 _ x y hy q hq v hv=>by
  refine Calls.mono ((hn (κ:=cL w1) hy hq).run [v] (by simp [bA,hv]) (aS6 w1)) fun en w' ⟨v',h1,y,h2,h3⟩=>⟨v',h1,h2,h3⟩⟩
end
def roL:Nat->List (Nat×List SV)->List Ch
 | _,[]=>[]
 | k,(_,cs) :: r=>.ro k cs :: roL (k+1) r
def roS:List (Nat×List SV)->List Ch
 | []=>[]
 | (n,cs) :: r=>.ro n cs :: roS r
def aW5:Nat->List (Nat×List SV)->List SV
 | _,[]=>[]
 | k,_ :: r=>.p k 0 :: aW5 (k+1) r
def aFD(Bs:Bl):List Value:=Bs.map fun b=>.pointer (some ⟨b.1,b.2,none⟩)
theorem rk{α:Type}[aK α]{w w1:World}{s:AC}{l:List α}(hk:gX F0 w w1)(h:bB (cL w) s l):bB (cL w1) s l:=
 aK.rd_mono (aK.rd_agree h fun b o hb=>hk.cell b o hb fun h=>h) fun b o hb=>TC hb hk.size
theorem fk1{α β:Type}{iR:aK α}{C:MB α}{sr:β->SV}{g:FuncId}{w:World}{Bs:Bl}{cs:List (Nat×List SV)}{p:α->Option β}(hc:∀args w,(callFunc g args).run P w=.ok (.enter g args) w)(hB:∀w1,gX F0 w w1->nJ (cL w1) w1 Bs (roL 0 cs))(hl:bA (gQ Bs) (aW5 0 cs)=some (aFD Bs))(hz:∀q,JD 0 (sr q)=true)(hn:∀{w1 x y},gX F0 w w1->C.sub (RR w1) w1 x y->∀{q},p x=some q->FnS P g (cL w1) (C.sv x y :: aW5 0 cs) Bs (roL 0 cs) (fun r (_:Unit)=>sr r) (fun _ _=>[]) q):Fu1 P (cL w) C sr g (aFD Bs) p:=
 ⟨hc,fun w1 hk x y hy q hq v hv=>by
  have hv':gQ Bs (C.sv x y)=some v:=by simpa using GV (B:=[]) Bs hv
  refine Calls.mono ((hn hk hy hq).run (v :: aFD Bs) (by simp [bA,hv',hl]) (hB w1 hk)) fun en w' ⟨v',h1,y',h2,h3⟩=>⟨v',h1,?_,?_⟩
  ·exact aW4 (hz q) h2
  ·simpa using aK2 (m:=0) h3 rfl⟩
theorem aRX:∀{cs:List (Nat×List SV)} {k:Nat} {x:Ch},x∈roL k cs->∃j n c,cs[j]?=some (n,c)/\x=.ro (k+j) c
 | (n, c) :: r, k, x, h => by
  rcases fA.1 h with h | h
  ·exact⟨0,n,c,rfl,by rw [h];rfl⟩
  ·obtain⟨j,n',c',h1,h2⟩:=aRX h
   exact⟨j+1,n',c',by simpa using h1,by rw [h2];congr 1;omega⟩
theorem aRY:∀{cs:List (Nat×List SV)} {n:Nat} {c:List SV},(n,c)∈cs->Ch.ro n c∈roS cs
 | (n', c') :: r, n, c, h => by
  rcases fA.1 h with h | h
  ·cases h;exact MM ..
  ·exact j9 _ (aRY h)
theorem a35{B:Bl}{cs:List (Nat×List SV)}{cap:List Value}:bA (aAL B) (cs.map (·.1))=some cap->∃Bs:Bl,cap=aFD Bs/\Bs.length=cs.length/\∀(j:Nat) n c,cs[j]?=some (n,c)->∃b,Bs[j]?=some b/\B[n]?=some b:=by
 induction cs generalizing cap with
 | nil=>intro h;cases h;exact⟨[],rfl,rfl,by simp⟩
 | cons p r ih =>
  obtain⟨n,c⟩:=p
  intro h
  simp only [y8,bA] at h
  split at h
  ·cases h
  ·rename_i v hv
   split at h
   ·cases h
   ·rename_i vs hvs
    cases h
    obtain⟨Bs,h1,h2,h3⟩:=ih hvs
    simp only [aAL] at hv
    split at hv
    ·rename_i b z hb
     cases hv
     refine⟨(b,z) :: Bs,by simp [aFD,h1],by simp [h2],fun j n' c' hj=>?_⟩
     cases j with
     | zero=>simp at hj;obtain⟨rfl,rfl⟩:=hj;exact⟨(b,z),rfl,hb⟩
     | succ j=>simpa using h3 j n' c' (by simpa using hj)
    ·cases hv
def aNF:List (Nat×List SV)->Bool
 | []=>true
 | (_,c) :: r=>JD.okC 0 c && aNF r
theorem aNG:∀{cs:List (Nat×List SV)} {j n:Nat} {c:List SV},aNF cs=true->cs[j]?=some (n,c)->JD.okC 0 c=true
 | (n', c') :: r, 0, n, c, h, hj => by
  simp only [aNF,xB] at h
  simp at hj;rw [<-hj.2];exact h.1
 | (n', c') :: r, j + 1, n, c, h, hj => by
  simp only [aNF,xB] at h
  exact aNG h.2 (by simpa using hj)
theorem a36{w:World}{B Bs:Bl}{cs:List (Nat×List SV)}(hS:nJ c w B L)(hk:∀x∈roS cs,x∈L)(ho:aNF cs=true)(hB:∀(j:Nat) n c,cs[j]?=some (n,c)->∃b,Bs[j]?=some b/\B[n]?=some b):∀w1,gX F0 w w1->nJ (cL w1) w1 Bs (roL 0 cs):=by
 intro w1 hkp
 have facts:∀x∈roL 0 cs,∃(f:Fact),f.P (RR w1) w1/\(∀R,f∈R->roF Bs R x)/\kW Bs x=KR:=by
  intro x hx
  obtain⟨j,n,cc,h1,h2⟩:=aRX hx
  subst h2
  obtain⟨⟨R,s1,s2⟩,s0⟩:=hS
  obtain⟨b,z,vs,g1,g2,g3⟩:=s2 _ (hk _ (aRY (CR h1)))
  obtain⟨b',q1,q2⟩:=hB j n cc h1
  rw [g1] at q2;cases q2
  have hc0:=JJ (aNG ho h1) g2
  rw [aBP] at hc0
  obtain⟨i,hi⟩:=aJK g3
  refine⟨fAt b z vs,a5I (s1.fact i hi) hkp,fun R hR=>⟨b,z,vs,by simpa using q1,gA (fun x v h=>by simpa using iB (B:=[]) Bs h) hc0,hR⟩,rfl⟩
 have build:∀M:List Ch,(∀x∈M,x∈roL 0 cs)->∃R:List Fact,(∀f∈R,f.P (RR w1) w1)/\(∀x∈M,roF Bs R x)/\M.map (kW Bs)=List.replicate M.length KR:=by
  intro M
  induction M with
  | nil=>exact fun _=>⟨[],by simp,by simp,rfl⟩
  | cons x M ih =>
   intro hM
   obtain⟨R,h1,h2,h3⟩:=ih fun y hy=>hM y (j9 _ hy)
   obtain⟨f,f1,f2,f3⟩:=facts x (hM x (by simp))
   refine⟨f :: R,fun g hg=>?_,fun y hy=>?_,by simp [f3,h3,List.replicate_succ]⟩
   ·rcases fA.1 hg with hg | hg
    ·subst hg;exact f1
    ·exact h1 g hg
   ·rcases fA.1 hy with hy | hy
    ·subst hy;exact f2 _ (by simp)
    ·exact YT (fun g hg=>j9 _ hg) (h2 y hy)
 obtain⟨R,h1,h2,h3⟩:=build (roL 0 cs) fun _ h=>h
 refine⟨⟨R,?_,h2⟩,fun _ _ h=>h⟩
 rw [h3]
 have h4:St (cL w1) w1 [] R:=St.enter h1
 generalize (roL 0 cs).length=k
 clear h3
 induction k with
 | zero=>exact h4
 | succ k ih =>
  rw [List.replicate_succ']
  exact St.more (ch:=KR) ih (gX.refl _ _) ⟨F0,fun _ _ h=>h,fun _ _ h=>h.elim⟩
def shr(ns:List Nat):List Ch->List Ch
 | []=>[]
 | .box n cs :: L => match hU n ns with
  | true=>.box n cs :: shr ns L
  | false=>.ro n cs :: shr ns L
 | x :: L=>x :: shr ns L
theorem St.a37{w:World}{M:List Chunk}{R:List Fact}{b z i:Nat}{vs:List Value}(h:St c w M R)(hi:M[i]?=some (VJ b z vs)):St c w (M.set i KR) (R ++ [fAt b z vs]):=by
 have h1:=h.take i hi
 obtain⟨F,S,⟨F1,F2,h1,h2,hd,hF⟩,a2,a3,a4,a5,a6⟩:=h1.sep
 have hlt:∀b' o,F1 b' o->b' < w.heap.size:=fun _ _ hf=>Chunk.lt (VJ b z vs) h1 hf
 obtain⟨g1,g2,g3⟩:=h1
 refine⟨h.keep,⟨F2,fun b o=>S b o\/F1 b o,h2,?_,fun b o hf=>a3 b o ((hF b o).2 (.inr hf)),?_,?_,?_⟩,h.apart⟩
 ·rintro b o hf (hs | hs)
  ·exact a2 b o ((hF b o).2 (.inr hf)) hs
  ·exact hd b o hs hf
 ·rintro b o (hs | hs)
  ·exact a4 b o hs
  ·rcases a3 b o ((hF b o).2 (.inl hs)) with h | h
   ·exact .inr (.inl h)
   ·exact .inr (.inr h)
 ·rintro b o (hs | hs)
  ·exact a5 b o hs
  ·exact hlt b o hs
 ·intro f hf
  rcases e9.1 hf with hf | hf
  ·exact f.mono (a6 f hf) fun b o hs=>.inl hs
  ·simp at hf;subst hf
   exact⟨g1,fun o ho=>.inr ((g3 b o).2 ho)⟩
theorem aW6{w:World}{B:Bl}(ns:List Nat):∀(M L:List Ch),nJ c w B (M++L)->nJ c w B (M++shr ns L)
 | M,[],h=>h
 | M, x :: L, h => by
  have gen:nJ c w B (M++x :: shr ns L):=by
   have:=aW6 ns (M ++ [x]) L (by simpa using h)
   simpa using this
  cases x with
  | box n cs =>
   simp only [shr]
   split
   ·exact gen
   ·obtain⟨⟨R,s1,s2⟩,s0⟩:=gen
    have hi:((M++Ch.box n cs :: shr ns L).map (kW B))[M.length]?=some (SX B n cs):=by simp [kW]
    obtain⟨F,b,z,vs,h3,h4,h5⟩:=s1.chunk (ch:=SX B n cs) M.length hi
    have s3:=s1.imp (j7.put M.length hi fun F ⟨b',z',vs',q1,q2,q3⟩=>by
     rw [h3] at q1;cases q1;rw [h4] at q2;cases q2;exact q3)
    have s4:=s3.a37 (b:=b) (z:=z) (vs:=vs) (i:=M.length) (by rw [YI];simp)
    refine⟨⟨R ++ [fAt b z vs],?_,fun x hx=>?_⟩,s0⟩
    ·have:((M++Ch.ro n cs :: shr ns L).map (kW B))=(((M++Ch.box n cs :: shr ns L).map (kW B)).set M.length (VJ b z vs)).set M.length KR:=by
      simp [kW]
     rw [this];exact s4
    ·rcases e9.1 hx with hx | hx
     ·exact YT (fun f hf=>V9 _ hf) (s2 x (V9 _ hx))
     ·rcases fA.1 hx with hx | hx
      ·subst hx;exact⟨b,z,vs,h3,h4,by simp⟩
      ·exact YT (fun f hf=>V9 _ hf) (s2 x (aEP _ (j9 _ hx)))
  | _=>exact gen
theorem mf{f:FuncId}{caps:Array Operand}{ops:Array Oper}{l:List Oper}(ns:List Nat)(hs:kV T n K cf m e L=.op o Lv (.r ops l) cf2 K' m' e' L')(ho:(o.op,o.dst)=(.makeFunc (.func f) #[] caps,some d))(hx:bA (jL e') caps.toList=some (ns.map fun n=>.p n 0))
  (k:G (.mk P T hT n c B0 N X Q) K' m' ((d,.f f ns) :: e') (shr ns L') cf2):G (.mk P T hT n c B0 N X Q) K m e L cf:=by
 refine iG (g:=.mk P T hT n c B0 N X Q) ?_
 rw [hs]
 intro hdn _ hE
 refine hE Unit (fun _=>m') (fun _=>(d,.f f ns) :: e') (fun _=>shr ns L') (fun _=>trivial) (fun B a w next Q' hm hA hS hnext=>?_) (fun _=>k)
 obtain⟨vs,h1,h2⟩:=aBU hA hx
 have hd:o.dst=some d:=congrArg Prod.snd ho
 have h3:∀{ns:List Nat} {vs:List Value},bA (gQ (YC (.mk P T hT n c B0 N X Q) (.r ops l)++B)) (ns.map fun n=>SV.p n 0)=some vs->bA (aAL (YC (.mk P T hT n c B0 N X Q) (.r ops l)++B)) ns=some vs:=by
  intro ns
  induction ns with
  | nil=>intro vs h;exact h
  | cons jj ns ih =>
   intro vs h
   simp only [y8,bA] at h
   split at h
   ·cases h
   ·rename_i v hv
    split at h
    ·cases h
    ·rename_i vs' hvs
     cases h
     have:aAL (YC (.mk P T hT n c B0 N X Q) (.r ops l)++B) jj=some v:=by
      simp only [gQ,gV,bT] at hv
      simp only [aAL]
      split at hv
      ·simpa using hv
      ·cases hv
     simp [bA,this,ih hvs]
 have h5:∀{os:List Operand} {vs:List Value},evs (vE (YC (.mk P T hT n c B0 N X Q) (.r ops l)++B) e') os=some vs->os.map (ev (vE (YC (.mk P T hT n c B0 N X Q) (.r ops l)++B) e'))=vs.map some:=by
  intro os
  induction os with
  | nil=>intro vs h;cases h;rfl
  | cons o os ih =>
   intro vs h
   simp only [evs] at h
   split at h
   ·rename_i v vs' hv hvs
    cases h
    simp [hv,ih hvs]
   ·cases h
 have h6:=aZW (P:=P) (w:=w) (vf:=[]) (vc:=vs) (congrArg Prod.fst ho) rfl (h5 h2)
 unfold Oper.wp
 rw [h6 _ a hA.env,Oper.upon_value,hd]
 rw [hd] at hdn
 have h7:gQ (YC (.mk P T hT n c B0 N X Q) (.r ops l)++B) (.f f ns)=some (.func (.func f) #[] vs.toArray):=by simp only [gQ,h3 h1]
 exact hnext () _ _ ⟨[],by simpa using hm,by simpa using hA.of h7 (hA.env.put (by simpa [sY,pO] using hdn) _),by simpa using aW6 ns [] L' hS⟩
theorem clc{α β:Type}{fo:Option α}{kf:α->Option β}{q:β}{f g:FuncId}{xs xs0:List SV}{sv:α->SV}(is:List Nat)(cs:List (Nat×List SV))(hs:kV T n K cf m e L=.callp o (some d) f xs cf1 cf2 K' m' e' L')(hk:kl L' is=roS cs)(ho:(aNF cs && okA xs.dropLast)=true)(hx:xs=xs.dropLast ++ [.f g (cs.map (·.1))])
  (hc:∀{w},HS c w L'->∀{Bs:Bl},Bs.length=cs.length->(∀w1,gX F0 w w1->nJ (cL w1) w1 Bs (roL 0 cs))->∀{x},fo=some x->Fn0 P f (cL w) (xs.dropLast ++ [.k (.func (.func g) #[] (aFD Bs).toArray)]) sv x) (hF:fo.bind kf=some q)
  (k:∀x,fo=some x->kf x=some q->G (.mk P T hT n c B0 N X Q) K' m' ((d,sv x) :: e') L' cf2):G (.mk P T hT n c B0 N X Q) K m e L cf:=by
 refine iG (g:=.mk P T hT n c B0 N X Q) ?_
 rw [hs]
 intro fo' args ats ho' hd hf ⟨ys,hys,hxs⟩ hdn hE
 rw [xB] at ho
 cases hfo:fo with
 | none=>rw [hfo] at hF;cases hF
 | some x =>
  rw [hfo] at hF
  refine hE Unit (fun _=>m') (fun _=>(d,sv x) :: e') (fun _=>L') (fun _=>by simpa using A2 (L:=L') []) (fun B a w next Q' hm hA hS hnext=>?_) (fun _=>k x hfo hF)
  obtain⟨vs,h1,h2⟩:=aBU hA hys
  obtain⟨v,h3,h4⟩:=fC hA hf
  simp [gQ,bA] at h3
  subst h3
  rw [<-VO,hxs] at h1
  rw [hx] at h1
  have split:∀{as:List SV} {b:SV} {vs:List Value} {B:Bl},bA (gQ B) (as ++ [b])=some vs->∃us v,bA (gQ B) as=some us/\gQ B b=some v/\vs=us ++ [v]:=by
   intro as
   induction as with
   | nil =>
    intro b vs B h
    simp only [aBO,bA] at h
    split at h
    ·cases h
    ·rename_i v hv;cases h;exact⟨[],v,rfl,hv,rfl⟩
   | cons a as ih =>
    intro b vs B h
    simp only [OS,bA] at h
    split at h
    ·cases h
    ·rename_i u hu
     split at h
     ·cases h
     ·rename_i us' hus
      cases h
      obtain⟨us,v,g1,g2,rfl⟩:=ih hus
      exact⟨u :: us,v,by simp [bA,hu,g1],g2,rfl⟩
  obtain⟨us,fv,g1,g2,rfl⟩:=split h1
  simp only [gQ] at g2
  split at g2
  ·rename_i cap hcap
   cases g2
   obtain⟨Bs,b1,b2,b3⟩:=a35 hcap
   subst b1
   have hmem:∀x∈roS cs,x∈L':=fun x hx=>aK1 (is:=is) (by rw [hk];exact hx)
   obtain⟨hcall,hrun⟩:=hc ⟨_,hS⟩ b2 (a36 hS hmem ho.1 b3) hfo
   have join:∀{as:List SV} {us:List Value} {b:SV} {v:Value},bA (gQ []) as=some us->gQ [] b=some v->bA (gQ []) (as ++ [b])=some (us ++ [v]):=by
    intro as
    induction as with
    | nil=>intro us b v h hb;cases h;simp [bA,hb]
    | cons a as ih =>
     intro us b v h hb
     simp only [bA] at h
     split at h
     ·cases h
     ·rename_i u hu
      split at h
      ·cases h
      ·rename_i us' hus;cases h;simp [bA,hu,ih hus hb]
   have h5:=hrun (us ++ [.func (.func g) #[] (aFD Bs).toArray]) (join (aED ho.2 g1) (by simp [gQ,gV,bT,Value.oneCell'])) (aS6 w)
   have h6:=YX (w:=w) hcall ho' h4 h2
   unfold Oper.wp
   rw [h6 _ a hA.env,Oper.upon_enter]
   refine Calls.mono h5 fun en w' ⟨v,hv,y,e1,e2⟩=>?_
   subst hv
   rw [hd]
   have g3:=GV (YC (.mk P T hT n c B0 N X Q) cf1++B) e1
   exact hnext () _ _ ⟨[],by simpa using hm,by simpa using hA.of (by simpa using g3) (hA.env.put (by simpa [sY,pO] using hdn) v),by simpa using hS.after (L2:=[]) rfl e2⟩
  ·cases g2
theorem HS.u1{α β:Type}{iR:aK α}{C:MB α}{sr:β->SV}{g:FuncId}{cap:List Value}{w:World}{p:α->Option β}(h:HS c w L)(H:Fu1 P c C sr g cap p):Fu1 P (cL w) C sr g cap p:=by
 obtain⟨B,hS⟩:=h.ex
 exact⟨H.1,fun w1 hk=>H.2 w1 (hS.aW2.trans hk fun _ _ _ h=>h.elim)⟩
theorem HS.u2{α α' β:Type}{iR:aK α}{iR':aK α'}{C:MB α}{C':MB α'}{sr:β->SV}{g:FuncId}{cap:List Value}{w:World}{p:α->α'->Option β}(h:HS c w L)(H:Fu2 P c C C' sr g cap p):Fu2 P (cL w) C C' sr g cap p:=by
 obtain⟨B,hS⟩:=h.ex
 exact⟨H.1,fun w1 hk=>H.2 w1 (hS.aW2.trans hk fun _ _ _ h=>h.elim)⟩
theorem a7P{α β:Type}{fo:Option α}{kf:α->Option β}{q:β}{f g:FuncId}{xs:List SV}{sv:α->SV}{n1:Nat}{c1:List SV}(is:List Nat)(hs:kV T n K cf m e L=.callp o (some d) f xs cf1 cf2 K' m' e' L')(hk:kl L' is=[.ro n1 c1])(ho:(aNF [(n1,c1)] && okA xs.dropLast)=true)(hx:xs=xs.dropLast ++ [.f g [n1]])
  (hc:∀{w},HS c w L'->∀{b1:Nat×Nat},(∀w1,gX F0 w w1->nJ (cL w1) w1 [b1] [.ro 0 c1])->∀{x},fo=some x->Fn0 P f (cL w) (xs.dropLast ++ [.k (.func (.func g) #[] (aFD [b1]).toArray)]) sv x) (hF:fo.bind kf=some q)
  (k:∀x,fo=some x->kf x=some q->G (.mk P T hT n c B0 N X Q) K' m' ((d,sv x) :: e') L' cf2):G (.mk P T hT n c B0 N X Q) K m e L cf:=
 clc (xs0:=[]) is [(n1,c1)] hs hk ho hx (fun h Bs hl hB=>match Bs,hl,hB with | [_],_,hB=>hc h hB) hF k
end
end Go.Gv
end
noncomputable section
namespace Go.Gv
noncomputable section
variable {P:Program} {T:TT} {hT:JE P T} {n:Nat} {c:Ctx} {B0:Bl} {N:Act->World->Prop} {X:Nat->Act->World->Prop} {Q:Act->World->Prop} {K K':List Fr} {m m':Nat} {e e':SE} {L L':List Ch} {cf cf1 cf2:yU} {o:Oper} {Lv:List Ch} {d:Nat}
variable {x y z:Operand} {t t2:TypeId} {k k2:IntKind} {i j:Int} {α β:Type} {A:Option β} {q:β}
theorem a50(hs:opS (kV T n K cf m e L)=some (o,Lv,cf1,cf2,K',m',e',L'))(ho:(o.op,o.dst)=(.call {callee:=.builtin .min,args:=#[x,y],argTypes:=#[t,t2]},some d))(hx:(jL e' x).bind uR=some (.i64,i))(hy:(jL e' y).bind uR=some (k,j))
  (kk:G (.mk P T hT n c B0 N X Q) K' m' ((d,.i .i64 (if j < i then j else i)) :: e') L' cf2):G (.mk P T hT n c B0 N X Q) K m e L cf:=
 pu hs (congrArg Prod.snd ho) (fun B a w hA _=>⟨_,rfl,a3L (congrArg Prod.fst ho) (zC hA hx) (zC hA hy)⟩) kk
theorem a7Q(hs:opS (kV T n K cf m e L)=some (o,Lv,cf1,cf2,K',m',e',L'))(ho:(o.op,o.dst)=(.call {callee:=.builtin .max,args:=#[x,y],argTypes:=#[t,t2]},some d))(hx:(jL e' x).bind uR=some (.i64,i))(hy:(jL e' y).bind uR=some (k,j))
  (kk:G (.mk P T hT n c B0 N X Q) K' m' ((d,.i .i64 (if i < j then j else i)) :: e') L' cf2):G (.mk P T hT n c B0 N X Q) K m e L cf:=
 pu hs (congrArg Prod.snd ho) (fun B a w hA _=>⟨_,rfl,a3M (congrArg Prod.fst ho) (zC hA hx) (zC hA hy)⟩) kk
noncomputable section
variable {l:List UInt8} {b1:Bool} {n1:Nat} {z1:List SV}
theorem a51(ht:C8 T t=some ⟨.s,b1,n1,z1⟩)(hT:JE P T):P.underlying t=some .string:=by
 obtain⟨dd,hd1,hd2⟩:=hT.und _ _ ht
 simp only at hd2;subst hd2
 exact hd1
theorem qsi{kf:UInt8->Option β}(hs:opS (kV T n K cf m e L)=some (o,Lv,cf1,cf2,K',m',e',L'))(ho:(o.op,o.dst)=(.index t x y,some d))(ht:C8 T t=some ⟨.s,b1,n1,z1⟩)(hx:jL e' x=some (.s l))(hy:(jL e' y).bind uR=some (k,i))(hF:(idx l i).bind kf=some q)
  (kk:∀u,idx l i=some u->kf u=some q->G (.mk P T hT n c B0 N X Q) K' m' ((d,.y u) :: e') L' cf2):G (.mk P T hT n c B0 N X Q) K m e L cf:=by
 cases hi:idx l i with
 | none=>rw [hi] at hF;cases hF
 | some u =>
  rw [hi] at hF
  exact pu hs (congrArg Prod.snd ho) (fun B a w hA _=>⟨_,rfl,aZ7 (a51 ht hT) hi (congrArg Prod.fst ho) (a7N hA hx) (zC hA hy)⟩) (kk u hi hF)
end
noncomputable section
variable [aK α] {s:AC} {l:List α} {el:TypeId} {b1 b2:Bool} {n1 sz:Nat} {z1 z2:List SV} {kt:TK}
theorem hdB{B:Bl}{a:Act}(hA:gZ n B e a){ln:Nat}(h:jL e x=some (.h s ln)):ev (vE B e) x=some (s.v ln):=by
 obtain⟨v,h1,h2⟩:=fC hA h
 cases h1;exact h2
theorem JK(ht:C8 T t=some ⟨.sl el,b1,n1,z1⟩)(hT:JE P T):P.underlying t=some (.slice el):=by
 obtain⟨dd,hd1,hd2⟩:=hT.und _ _ ht
 simp only at hd2;subst hd2
 exact hd1
theorem qsb{a b:Nat}(h1:bB c s l)(hb:a<=b/\b<=l.length)(hs:opS (kV T n K cf m e L)=some (o,Lv,cf1,cf2,K',m',e',L'))(hd:o.dst=some d)(hr:∀B act w,gZ n B e' act->aK.rd c.S0 w [s.v l.length] l->eJ P o (vE B e') w (iM (aK.n α) a b (s.v l.length)) w)
  (kk:∀s',bB c s' ((l.take b).drop a)->G (.mk P T hT n c B0 N X Q) K' m' ((d,.h s' ((l.take b).drop a).length) :: e') L' cf2):G (.mk P T hT n c B0 N X Q) K m e L cf:=by
 have h2:=aPG (n:=aK.n α) (a:=a) (b:=b) rfl h1 hb.1 hb.2
 obtain⟨ad,cp,e1,_⟩:=aE3 h2
 rw [e1] at h2
 exact pu hs hd (fun B act w hA hS=>⟨_,by rw [e1];simp [gQ,gV,bT],hr B act w hA (aK5 hS (f:=CS [s.v l.length] l) h1)⟩) (kk ⟨ad,cp⟩ h2)
theorem aPS(hs:opS (kV T n K cf m e L)=some (o,Lv,cf1,cf2,K',m',e',L'))(ho:(o.op,o.dst)=(.slice t x (some y) (some z) none,some d))(ht:C8 T t=some ⟨.sl el,b1,n1,z1⟩)(he:C8 T el=some ⟨kt,b2,sz,z2⟩)(hn:aK.n α=sz)(h1:bB c s l)(hx:jL e' x=some (.h s l.length))(hy:(jL e' y).bind uR=some (k,i))(hz:(jL e' z).bind uR=some (k2,j))(hF:need (0<=i/\i<=j/\j<=(l.length:Int)) A=some q)
  (kk:A=some q->∀s',bB c s' ((l.take j.toNat).drop i.toNat)->G (.mk P T hT n c B0 N X Q) K' m' ((d,.h s' ((l.take j.toNat).drop i.toNat).length) :: e') L' cf2):G (.mk P T hT n c B0 N X Q) K m e L cf:=by
 have hb:=(kU hF).1
 subst hn
 exact qsb h1 (by omega) hs (congrArg Prod.snd ho) (fun B act w hA h=>aS0 h rfl (JK ht hT) (hT.size _ _ he) hb (congrArg Prod.fst ho) (hdB hA hx) (zC hA hy) (zC hA hz)) (kk (kU hF).2)
theorem a52(hs:opS (kV T n K cf m e L)=some (o,Lv,cf1,cf2,K',m',e',L'))(ho:(o.op,o.dst)=(.slice t x none (some z) none,some d))(ht:C8 T t=some ⟨.sl el,b1,n1,z1⟩)(he:C8 T el=some ⟨kt,b2,sz,z2⟩)(hn:aK.n α=sz)(h1:bB c s l)(hx:jL e' x=some (.h s l.length))(hz:(jL e' z).bind uR=some (k2,j))(hF:need (0<=j/\j<=(l.length:Int)) A=some q)
  (kk:A=some q->∀s',bB c s' ((l.take j.toNat).drop 0)->G (.mk P T hT n c B0 N X Q) K' m' ((d,.h s' ((l.take j.toNat).drop 0).length) :: e') L' cf2):G (.mk P T hT n c B0 N X Q) K m e L cf:=by
 have hb:=(kU hF).1
 subst hn
 exact qsb h1 (by omega) hs (congrArg Prod.snd ho) (fun B act w hA h=>aVR h rfl (JK ht hT) (hT.size _ _ he) hb (congrArg Prod.fst ho) (hdB hA hx) (zC hA hz)) (kk (kU hF).2)
end
noncomputable section
variable {zv:Value} {n1 m1:Nat} {el:TypeId}
theorem aW7{B:Bl}{xs:List SV}{vs:List Value}(h:bA (gQ []) xs=some vs):bA (gQ B) xs=some vs:=gA (fun x v h=>by simpa using GV (B:=[]) B h) h
theorem qba{ps:Array (Nat×Operand)}{xs:List SV}{vs cells:List Value}(cs:List SV)(hz:∀w,(zeroValue t).run P w=.ok zv w)(hu:P.underlying t=some (.array n1 el))(hp:∀w,(sizeOf el).run P w=.ok m1 w)(hs:opS (kV T n K cf m e L)=some (o,Lv,cf1,cf2,K',m',e',L'))(ho:(o.op,o.dst)=(.build t ps,some d))(hv:bA (jL e') (ps.toList.map (·.2))=some xs)(hvs:bA (gQ []) xs=some vs)(hcs:bA (bT []) cs=some cells)(hc:Instr.fill (fun i=>some (i * m1,m1)) zv.cells ((ps.toList.map (·.1)).zip vs)=some cells.toArray)
  (kk:G (.mk P T hT n c B0 N X Q) K' m' ((d,.g cs) :: e') L' cf2):G (.mk P T hT n c B0 N X Q) K m e L cf:=
 pu hs (congrArg Prod.snd ho) (fun B a w hA _=>⟨.agg cells.toArray,by
  simp only [gQ,gV]
  rw [gA (g:=bT B) (fun x v h=>by simpa using iB (B:=[]) B h) hcs],by
  obtain⟨us,h1,h2⟩:=aBU hA hv
  rw [aW7 hvs] at h1
  cases h1
  exact aAJ (ps:=ps.toList) (by have:=congrArg Prod.fst ho;simpa using this) hz hu hp h2 hc⟩) kk
theorem qai{γ:Type}(f:γ->Value)(g:γ->SV){l:List γ}{cs:List SV}{kf:γ->Option β}(hu:P.underlying t=some (.array n1 el))(hz:∀w,(sizeOf el).run P w=.ok 1 w)(hg:∀w,(isAgg el).run P w=.ok false w)(hgf:∀u,gQ [] (g u)=some (f u))(hs:opS (kV T n K cf m e L)=some (o,Lv,cf1,cf2,K',m',e',L'))(ho:(o.op,o.dst)=(.index t x y,some d))(hx:jL e' x=some (.g cs))(hcs:bA (bT []) cs=some (l.map f))(hn:l.length=n1)(hy:(jL e' y).bind uR=some (k,i))(hF:(idx l i).bind kf=some q)
  (kk:∀u,idx l i=some u->kf u=some q->G (.mk P T hT n c B0 N X Q) K' m' ((d,g u) :: e') L' cf2):G (.mk P T hT n c B0 N X Q) K m e L cf:=by
 cases hi:idx l i with
 | none=>rw [hi] at hF;cases hF
 | some u =>
  rw [hi] at hF
  refine pu hs (congrArg Prod.snd ho) (fun B a w hA _=>⟨f u,by simpa using GV (B:=[]) B (hgf u),?_⟩) (kk u hi hF)
  obtain⟨v,h1,h2⟩:=fC hA hx
  simp only [gQ,gV] at h1
  rw [gA (g:=bT B) (fun x v h=>by simpa using iB (B:=[]) B h) hcs] at h1
  cases h1
  exact a3O f hu hz hg hi hn rfl (congrArg Prod.fst ho) h2 (zC hA hy)
end
end
end Go.Gv
end
noncomputable section
namespace Go.Gv
noncomputable section
variable {P:Program} {T:TT} {hT:JE P T} {n:Nat} {c:Ctx} {B0:Bl} {N:Act->World->Prop} {X:Nat->Act->World->Prop} {Q:Act->World->Prop} {K K':List Fr} {m m':Nat} {e e':SE} {L L':List Ch} {cf cf1 cf2:yU} {o:Oper} {Lv:List Ch} {d:Nat}
theorem chg{g:Gx}{ι:Type}(m2:ι->Nat)(e2:ι->SE)(L2:ι->List Ch)(h:∀B a w,B.length=m->gZ g.n B e a->nJ g.c w B L->∃i B',(B++B').length=m2 i/\gZ g.n (B++B') (e2 i) a/\nJ g.c w (B++B') (L2 i))
  (hz:∀i,Frz g cf L (L2 i)) (k:∀i,G g K (m2 i) (e2 i) (L2 i) cf):G g K m e L cf:=by
 have key:∀a w,Rel g m e L a w->∃i,Rel g (m2 i) (e2 i) (L2 i) a w:=fun a w ⟨B,h1,h2,h3⟩=>by
  obtain⟨i,B',k1,k2,k3⟩:=h _ a w h1 h2 h3
  exact⟨i,B++B',by simpa using k1,by simpa using k2,by simpa using k3⟩
 cases cf with
 | n=>exact fun a w hr=>let ⟨i,hi⟩:=key a w hr;k i a w hi
 | c x=>exact fun a w hr=>let ⟨i,hi⟩:=key a w hr;k i a w hi
 | r ops l=>exact fun a w hr=>let ⟨i,hi⟩:=key a w hr;k i a w hi
 | d B1 ops l is Lf Lv =>
  refine fun hD a w ⟨B,h1,h2,h3,h4⟩=>?_
  obtain⟨i,B',k1,k2,k3⟩:=h _ a w h1 h2 h3
  obtain⟨z1,z2⟩:=hz i hD
  exact k i ⟨hD.pre,hD.len,hD.free,z1,z2,hD.okf,hD.ap⟩ a w ⟨B++B',by simpa using k1,by simpa using k2,by simpa using k3,fun w' hw=>by
   have:=(h4 w' hw).app B'
   simpa using this⟩
 | o B1 ops l is Lf Lv ii =>
  refine fun hD a w ⟨B,h1,h2,h3,h4⟩=>?_
  obtain⟨i,B',k1,k2,k3⟩:=h _ a w h1 h2 h3
  obtain⟨z1,z2⟩:=hz i hD
  exact k i ⟨hD.pre,hD.len,hD.free,z1,z2,hD.okf,hD.ap⟩ a w ⟨B++B',by simpa using k1,by simpa using k2,by simpa using k3,fun w' hw=>by
   have:=(h4 w' hw).app B'
   simpa using this⟩
theorem FR{α β:Type}[aK α]{x y:Operand}{t el sz:Nat}{i:Int}{zv:Value}{b1:Bool}{n1:Nat}{z1:List SV}{A:Option β}{q:β}(zd:α)(hinf:XH P el sz zv)(hzd:∀w,aK.own w zv.cells.toList zd F0)(hs:kV T n K cf m e L=.op o Lv cf1 cf2 K' m' e' L')(ho:(o.op,o.dst)=(.makeSlice t x y,some d))(ht:C8 T t=some ⟨.sl el,b1,n1,z1⟩)(hn:aK.n α=sz)(hzs:zv.cells.size=sz)(hx:(jL e' x).bind uR=some (.i64,i))(hy:(jL e' y).bind uR=some (.i64,i))(hF:need (0<=i/\i<=4294967296) A=some q)
  (k:A=some q->∀s':AC,G (.mk P T hT n c B0 N X Q) K' m' ((d,.h s' (List.replicate i.toNat zd).length) :: e') (L' ++ [ow s' (List.replicate i.toNat zd)]) cf2):G (.mk P T hT n c B0 N X Q) K m e L cf:=by
 refine iG (g:=.mk P T hT n c B0 N X Q) ?_
 rw [hs]
 intro hdn _ hE
 refine hE AC (fun _=>m') (fun s'=>(d,.h s' (List.replicate i.toNat zd).length) :: e') (fun s'=>L' ++ [ow s' (List.replicate i.toNat zd)]) (fun _=>A2 _) (fun B a w next Q' hm hA hS hnext=>?_) (k (kU hF).2)
 obtain⟨⟨R,s1,s2⟩,s0⟩:=hS
 have hd:o.dst=some d:=congrArg Prod.snd ho
 obtain⟨v,w',k1,k2⟩:=aVO zd s1 hn (JK ht hT) hinf hzs hzd (kU hF).1 (congrArg Prod.fst ho) (zC hA hx) (zC hA hy)
 have hrd:∃s':AC,v=s'.v (List.replicate i.toNat zd).length:=by
  have h1:=k2.aQ4 (cs:=[v]) (d:=List.replicate i.toNat zd) (L'.map (kW (YC (.mk P T hT n c B0 N X Q) cf1++B))).length (by simp)
  obtain⟨ad,cp,h2,_⟩:=aE3 h1
  exact⟨⟨ad,cp⟩,h2⟩
 obtain⟨s',rfl⟩:=hrd
 unfold Oper.wp
 rw [k1 _ a hA.env,Oper.upon_value,hd]
 refine hnext s' _ _ ⟨[],by simpa using hm,by simpa using hA.of (by simp [gQ,gV,bT]) (hA.env.put (by rw [hd] at hdn;simpa [sY,pO] using hdn) _),⟨⟨R,by simpa [kW] using k2,fun x hx=>?_⟩,fun b o hb=>TC (s0 b o hb) (iE _)⟩⟩
 rcases e9.1 hx with hx | hx
 ·simpa using s2 x hx
 ·simp at hx;subst hx;exact trivial
end
end Go.Gv
end
noncomputable section
namespace Go.Gv
def yU.B8:yU->List Nat
 | .d _ _ _ is _ _=>is
 | .o _ _ _ is _ _ _=>is
 | _=>[]
theorem VU{L M:List Ch}{j:Nat}{z:Ch}:∀{is:List Nat},(∀i∈is,i < L.length)->hU j is=true->kl (L.set j z++M) is=kl L is
 | [],_,_=>rfl
 | i :: is, h, hn => by
  have hi:=h i (by simp)
  have h1:=aFB hn
  have hne:j≠i:=fun he=>h1 (by simp [he])
  have h2:(L.set j z++M)[i]?=L[i]?:=by rw [S7 (by simpa using hi),YH hne]
  have h3:hU j is=true:=by
   unfold hU at hn
   split at hn
   ·cases hn
   ·exact hn
  simp only [kl,h2,VU (fun i hi=>h i (j9 _ hi)) h3]
theorem aRZ{L M:List Ch}:∀{is:List Nat},(∀i∈is,i < L.length)->kl (L++M) is=kl L is
 | [],_=>rfl
 | i :: is, h => by
  simp only [kl,S7 (h i (by simp)),aRZ (M:=M) (fun i hi=>h i (j9 _ hi))]
theorem aK7{g:Gx}{cf:yU}{L M:List Ch}{j:Nat}{z:Ch}(hn:hU j cf.B8=true):Frz g cf L (L.set j z++M):=by
 cases cf with
 | d B1 ops l is Lf Lv =>
  exact fun hD=>⟨(VU hD.rng hn).trans hD.B8,fun i hi=>by have:=hD.rng i hi;simp;omega⟩
 | o B1 ops l is Lf Lv i =>
  exact fun hD=>⟨(VU hD.rng hn).trans hD.B8,fun i hi=>by have:=hD.rng i hi;simp;omega⟩
 | _=>trivial
theorem aW8{c:Ctx}{w:World}{A:List Chunk}{R:List Fact}(h:St c w A R):St c w (A ++ [KR]) R:=by
 obtain⟨F,S,h1,rest⟩:=h.sep
 exact⟨h.keep,⟨F,S,Sep.append.2 ⟨F,F0,h1,Sep.one.2 (fun _ _ h=>h),fun _ _ _ h=>h,fun b o=>by simp [F0]⟩,rest⟩,h.apart⟩
structure CO (α:Type) [aK α] where
 ex:Type
 cs:α->ex->List SV
 Lx:α->ex->List Ch
 op:∀{w F ec q},aK.own w ec q F->∃y,bA (bT []) (cs q y)=some ec
 pk:∀{q y ec},bA (bT []) (cs q y)=some ec->OP ec q ((Lx q y).map (kW []))
 no:∀q y,noF (Lx q y)=true
 nb:∀q y B,(Lx q y).map (kW B)=(Lx q y).map (kW [])
noncomputable section
variable {P:Program} {T:TT} {hT:JE P T} {n:Nat} {c:Ctx} {B0:Bl} {N:Act->World->Prop} {X:Nat->Act->World->Prop} {Q:Act->World->Prop} {K K':List Fr} {m m':Nat} {e e':SE} {L L':List Ch} {cf cf1 cf2:yU} {o:Oper} {Lv:List Ch} {d:Nat}
theorem a7R{g:Gx}{ι:Type}(m2:ι->Nat)(e2:ι->SE)(L2:ι->List Ch)(Ln:ι->List Ch)(h:∀B a w,B.length=m->gZ g.n B e a->nJ g.c w B L->∃i B',(B++B').length=m2 i/\gZ g.n (B++B') (e2 i) a/\nJ g.c w (B++B') (L2 i)/\∀w' M,nJ g.c w' B M->nJ g.c w' (B++B') (M++Ln i))
  (hz:∀i,Frz g cf L (L2 i)) (k:∀i,G g K (m2 i) (e2 i) (L2 i) (cf.ext (Ln i))):G g K m e L cf:=by
 have key:∀a w,Rel g m e L a w->∃i,Rel g (m2 i) (e2 i) (L2 i) a w:=fun a w ⟨B,h1,h2,h3⟩=>by
  obtain⟨i,B',k1,k2,k3,_⟩:=h _ a w h1 h2 h3
  exact⟨i,B++B',by simpa using k1,by simpa using k2,by simpa using k3⟩
 cases cf with
 | n=>exact fun a w hr=>let ⟨i,hi⟩:=key a w hr;k i a w hi
 | c x=>exact fun a w hr=>let ⟨i,hi⟩:=key a w hr;k i a w hi
 | r ops l=>exact fun a w hr=>let ⟨i,hi⟩:=key a w hr;k i a w hi
 | d B1 ops l is Lf Lv =>
  refine fun hD a w ⟨B,h1,h2,h3,h4⟩=>?_
  obtain⟨i,B',k1,k2,k3,k4⟩:=h _ a w h1 h2 h3
  obtain⟨z1,z2⟩:=hz i hD
  exact k i ⟨hD.pre,hD.len,hD.free,z1,z2,hD.okf,hD.ap⟩ a w ⟨B++B',by simpa using k1,by simpa using k2,by simpa using k3,fun w' hw=>by
   have:=k4 w' _ (h4 w' hw)
   simpa using this⟩
 | o B1 ops l is Lf Lv ii =>
  refine fun hD a w ⟨B,h1,h2,h3,h4⟩=>?_
  obtain⟨i,B',k1,k2,k3,k4⟩:=h _ a w h1 h2 h3
  obtain⟨z1,z2⟩:=hz i hD
  exact k i ⟨hD.pre,hD.len,hD.free,z1,z2,hD.okf,hD.ap⟩ a w ⟨B++B',by simpa using k1,by simpa using k2,by simpa using k3,fun w' hw=>by
   have:=k4 w' _ (h4 w' hw)
   simpa using this⟩
abbrev Shp(s:AC)(len:Nat):Prop:=∃b off m,s.v len=.slice (some ⟨b,off,none⟩) len m/\len<=maxLen
abbrev wOf(α:Type)[aK α](nb:Nat)(s:AC)(len i:Nat):Ch:=.w nb (S4 (s.v len)) (SW (aK.n α) i (s.v len))
theorem oe{α β:Type}[aK α](E:CO α)(j:Nat){t:TypeId}{s:AC}{i:Int}{ls:List α}{kf:α->Option β}{q:β}(hs:kV T n K cf m e L=.idx o d t s ls.length i Lv cf1 cf2 K' m' e' L')(hj:L'[j]?=some (ow s ls))(hz:hU j cf1.B8=true)(hF:(idx ls i).bind kf=some q)
  (k:∀x,idx ls i=some x->kf x=some q->∀y:E.ex,Shp s ls.length->G (.mk P T hT n c B0 N X Q) K' (m'+1) e' (L'.set j .no++([.o (yO (s.v ls.length) ls i.toNat),.box m' (E.cs x y),wOf α m' s ls.length i.toNat]++E.Lx x y)) (cf1.ext [wOf α m' s ls.length i.toNat])):G (.mk P T hT n c B0 N X Q) K m e L cf:=by
 refine iG (g:=.mk P T hT n c B0 N X Q) ?_
 rw [hs]
 intro x' y' ho hd hx hy hP
 cases hi:idx ls i with
 | none=>rw [hi] at hF;cases hF
 | some x =>
  rw [hi] at hF
  refine a7R (fun _=>m'+1) (fun _=>e') (fun y:{y:E.ex // Shp s ls.length}=>L'.set j .no++([.o (yO (s.v ls.length) ls i.toNat),.box m' (E.cs x y.1),wOf α m' s ls.length i.toNat]++E.Lx x y.1)) (fun _=>[wOf α m' s ls.length i.toNat]) (fun B a w hm hA hS=>?_) (fun y=>aK7 hz) (fun y=>k x hi hF y.1 y.2)
  obtain⟨⟨R,s1,s2⟩,s0⟩:=hS
  have hj2:(L'.map (kW B))[j]?=some (gI [s.v ls.length] ls):=by simp [hj,kW]
  obtain⟨ec,h1⟩:=s1.open j hj2 (lC hi).2.2
  have hlen:((L'.map (kW B)).set j KR).length=L'.length:=by simp
  have hsh:Shp s ls.length:=aZ4 (k:=i.toNat) h1 L'.length (by rw [MJ (by omega)];simp)
  obtain⟨F,hF'⟩:=h1.chunk (L'.length+2) (by rw [MJ (by omega)];simp;rfl)
  obtain⟨y,hy2⟩:=E.op (show aK.own w ec x F from hF')
  have h2:=h1.unpack (L'.length+2) (by rw [MJ (by omega)];simp) (E.pk hy2)
  have hset:((L'.map (kW B)).set j KR ++ [yO (s.v ls.length) ls i.toNat,VJ (S4 (s.v ls.length)) (SW (aK.n α) i.toNat (s.v ls.length)) ec,gI ec x]).set (L'.length+2) KR=(L'.map (kW B)).set j KR ++ [yO (s.v ls.length) ls i.toNat,VJ (S4 (s.v ls.length)) (SW (aK.n α) i.toNat (s.v ls.length)) ec,KR]:=by
   rw [List.set_append_right _ _ (by omega)]
   simp
  rw [hset] at h2
  refine⟨⟨y,hsh⟩,[(S4 (s.v ls.length),SW (aK.n α) i.toNat (s.v ls.length))],by simp [hm],hA.app _,⟨⟨R,?_,fun z hz=>?_⟩,s0⟩,fun w' M hM=>?_⟩
  ·have e1:(L'.set j Ch.no).map (kW B)=(L'.map (kW B)).set j KR:=by rw [ML];rfl
   refine h2.imp ?_
   rw [y7,y7,<-e1,jM]
   refine j7.append (VN _ _) (j7.append (.cons (fun _ h=>h) (.cons (fun F h=>⟨_,_,ec,by simp [<-hm],gA (fun x v h=>by simpa using iB (B:=[]) _ h) hy2,h⟩) (.cons (fun _ h=>h) .nil))) ?_)
   have:=VN (B:=[]) (B ++ [(S4 (s.v ls.length),SW (aK.n α) i.toNat (s.v ls.length))]) (w:=w) (E.Lx x y)
   simpa using this
  ·rcases e9.1 hz with hz | hz
   ·rcases pN hz with hz | hz
    ·exact aKU _ (s2 z hz)
    ·subst hz;trivial
   ·rcases e9.1 hz with hz | hz
    ·simp at hz
     rcases hz with rfl | rfl | rfl
     ·trivial
     ·trivial
     ·show(B++_)[m']?=_
      simp [<-hm]
    ·exact aK6 (E.no x y) z hz
  ·obtain⟨⟨R',t1,t2⟩,t0⟩:=hM.app [(S4 (s.v ls.length),SW (aK.n α) i.toNat (s.v ls.length))]
   refine⟨⟨R',by simpa [kW] using aW8 t1,fun z hz=>?_⟩,t0⟩
   rcases e9.1 hz with hz | hz
   ·exact t2 z hz
   ·simp at hz;subst hz
    show(B++_)[m']?=_
    simp [<-hm]
theorem ie{α:Type}[aK α](p:Nat){t el sz:Nat}{s:AC}{i:Int}{ls:List α}{x:α}{nb:Nat}{b1 b2:Bool}{n1:Nat}{z1 z2:List SV}{k2:TK}(hsh:Shp s ls.length)(hs:kV T n K cf m e L=.idx o d t s ls.length i Lv cf1 cf2 K' m' e' L')(hi:idx ls i=some x)(hw:Lv[p]?=some (wOf α nb s ls.length i.toNat))(ht:C8 T t=some ⟨.sl el,b1,n1,z1⟩)(he:C8 T el=some ⟨k2,b2,sz,z2⟩)(hn:aK.n α=sz)
  (k:G (.mk P T hT n c B0 N X Q) K' m' ((d,.p nb 0) :: e') L' cf2):G (.mk P T hT n c B0 N X Q) K m e L cf:=by
 refine iG (g:=.mk P T hT n c B0 N X Q) ?_
 rw [hs]
 intro x' y' ho hd hx hy hP
 subst hn
 refine hP d (.p nb 0) [] (fun _=>[]) 0 hd (fun _=>rfl) (fun B a w hA hS hm=>?_) (fun B w L _ hS=>by simpa using hS) (by rw [ext_nil];simpa using k)
 obtain⟨v,g1,g2⟩:=fC hA hx
 obtain⟨u,g3,g4⟩:=fC hA hy
 cases g1;cases g3
 obtain⟨⟨R,s1,s2⟩,s0⟩:=hS
 have hB:B[nb]?=some (S4 (s.v ls.length),SW (aK.n α) i.toNat (s.v ls.length)):=s2 _ (CR hw)
 exact⟨_,by simp [gQ,gV,bT,hB],aZ5 (P:=P) (o:=o) (w:=w) hsh rfl hi (JK ht hT) (hT.size _ _ he) ho g2 g4⟩
def TL:List Ch->List Nat->List Ch
 | L,[]=>L
 | L,i :: r=>TL (L.set i .no) r
theorem QB{B:Bl}:∀(js:List Nat) (L:List Ch),(TL L js).map (kW B)=blank (L.map (kW B)) js
 | [],L=>rfl
 | j :: js,L=>by simp only [TL,blank];rw [QB js,ML];rfl
theorem YY{x:Ch}:∀(js:List Nat) (L:List Ch),x∈TL L js->x∈L\/x=.no
 | [],L,h=>.inl h
 | j :: js, L, h => by
  rcases YY js _ h with h | h
  ·exact pN h
  ·exact .inr h
theorem aEE{g:Gx}{cf:yU}{M:List Ch}:∀(js:List Nat) {L:List Ch},(js.all fun j=>hU j cf.B8)=true->Frz g cf L (TL L js++M):=by
 intro js L hj
 have main:∀{B1:Bl} {ops:Array Oper} {l:List Bool} {is:List Nat} {Lf:List Ch},(js.all fun j=>hU j is)=true->aAM g B1 ops l is Lf L->kl (TL L js++M) is=Lf/\∀j∈is,j < (TL L js++M).length:=by
  intro B1 ops l is Lf hj hD
  have key:∀(js:List Nat) (L:List Ch),(js.all fun j=>hU j is)=true->(∀i∈is,i < L.length)->kl (TL L js++M) is=kl L is/\(TL L js).length=L.length:=by
   intro js
   induction js with
   | nil =>
    intro L _ hr
    exact⟨aRZ hr,rfl⟩
   | cons j js ih =>
    intro L hj hr
    simp only [S6,xB] at hj
    obtain⟨h1,h2⟩:=ih (L.set j .no) hj.2 (fun i hi=>by simpa using hr i hi)
    refine⟨h1.trans ?_,by simpa [TL] using h2⟩
    have:=VU (M:=[]) (z:=.no) hr hj.1
    simpa using this
  obtain⟨k1,k2⟩:=key js L hj hD.rng
  exact⟨k1.trans hD.B8,fun i hi=>by have:=hD.rng i hi;simp [k2];omega⟩
 cases cf with
 | d B1 ops l is Lf Lv=>exact fun hD=>main hj hD
 | o B1 ops l is Lf Lv i=>exact fun hD=>main hj hD
 | _=>trivial
def ovh(v:SV)(e:SE):List Nat->SE
 | []=>e
 | k :: ks=>(k,v) :: ovh v e ks
theorem aK8{v:SV}{B:Bl}{a:Act}:∀(ks:List Nat),bA (F5 e) ks=some (ks.map fun _=>v)->gZ n B e a->gZ n B (ovh v e ks) a:=by
 intro ks
 have key:∀(ks:List Nat),bA (F5 e) ks=some (ks.map fun _=>v)->∀k∈ks,F5 e k=some v:=by
  intro ks
  induction ks with
  | nil=>intro _ k hk;cases hk
  | cons s ks ih =>
   intro hs
   simp only [bA,y8] at hs
   split at hs
   ·cases hs
   ·rename_i h1
    split at hs
    ·cases hs
    ·rename_i h2
     cases hs
     intro k hk
     rcases fA.1 hk with hk | hk
     ·subst hk;exact h1
     ·exact ih h2 k hk
 intro hs hA
 have hk:=key ks hs
 clear hs key
 have lk2:∀k x,F5 (ovh v e ks) k=some x->F5 e k=some x:=by
  induction ks with
  | nil=>exact fun k x h=>h
  | cons j ks ih =>
   intro k x h
   simp only [ovh,F5] at h
   split at h
   ·rename_i hb
    have:=mR hb
    subst this
    cases h
    exact hk k (by simp)
   ·exact ih (fun k hk'=>hk k (j9 _ hk')) k x h
 exact⟨hA.d,hA.size,fun k x h=>hA.get k x (lk2 k x h)⟩
theorem aEF{B:Bl}:∀{is:List Nat} {M:List Ch},bA (fun i=>L[i]?) is=some M->pick (L.map (kW B)) is=M.map (kW B)
 | [],M,h=>by cases h;rfl
 | i :: is, M, h => by
  simp only [bA] at h
  split at h
  ·cases h
  ·rename_i h1
   split at h
   ·cases h
   ·rename_i h2
    cases h
    simp only [pick,HZ,h1,MN,Option.getD_some,aEF h2,y8]
theorem aW9{α:Type}[aK α](E:CO α)(h b v:Nat)(is ks:List Nat){s:AC}{l:List α}{k nb:Nat}(x:α)(y:E.ex){cs0:List SV}{ec:List Value}(hs:L[h]?=some (.o (yO (s.v l.length) l k)))(hb:L[b]?=some (.box nb cs0))(hv:L[v]?=some (wOf α nb s l.length k))(hi:bA (fun i=>L[i]?) is=some (E.Lx x y))(hc:nbL cs0=E.cs x y)(hec:bA (bT []) (E.cs x y)=some ec)(ha:dV (h :: b :: is)=true)(hk:bA (F5 e) ks=some (ks.map fun _=>.h s l.length)){B:Bl}{a:Act}{w:World}(hA:gZ n B e a)(hS:nJ c w B L) :
  gZ n B (ovh (.h s (l.set k x).length) e ks) a/\nJ c w B (TL L (h :: b :: is) ++ [ow s (l.set k x)]):=by
 have hlen:(l.set k x).length=l.length:=dM
 unfold ow
 rw [hlen]
 refine⟨aK8 ks hk hA,?_⟩
 obtain⟨⟨R,s1,s2⟩,s0⟩:=hS
 have hB:B[nb]?=some (S4 (s.v l.length),SW (aK.n α) k (s.v l.length)):=s2 _ (CR hv)
 refine⟨⟨R,?_,fun z hz=>?_⟩,s0⟩
 ·rw [y7,QB]
  refine s1.shift (h :: b :: is) ha fun F hF=>?_
  simp only [pick,HZ,hs,hb,MN,Option.getD_some,aEF hi,E.nb] at hF
  have hE:bA (bT B) cs0=some ec:=by rw [<-QA,hc];exact gA (fun x v h=>by simpa using iB (B:=[]) B h) hec
  have h2:Sep w ([yO (s.v l.length) l k,VJ (S4 (s.v l.length)) (SW (aK.n α) k (s.v l.length)) ec]++(E.Lx x y).map (kW [])) F:=by
   refine Sep.imp (.cons (fun _ h=>h) (.cons (fun F h=>?_) (j7.refl _))) hF
   obtain⟨bb,z,vs,k1,k2,k3⟩:=h
   rw [hB] at k1;cases k1
   rw [hE] at k2;cases k2
   exact k3
  obtain⟨F1,F2,g1,g2,gd,gF⟩:=Sep.append.1 h2
  have h3:Sep w ([yO (s.v l.length) l k,VJ (S4 (s.v l.length)) (SW (aK.n α) k (s.v l.length)) ec] ++ [gI ec x]) F:=Sep.append.2 ⟨F1,F2,g1,Sep.one.2 ((E.pk hec w F2).2 g2),gd,gF⟩
  exact Sep.one.2 (aJR h3)
 ·rcases e9.1 hz with hz | hz
  ·rcases YY _ _ hz with hz | hz
   ·exact s2 z hz
   ·subst hz;trivial
  ·simp at hz;subst hz;trivial
theorem ce{α:Type}[aK α](E:CO α)(h b v:Nat)(is ks:List Nat){s:AC}{l:List α}{k nb:Nat}(x:α)(y:E.ex){cs0:List SV}{ec:List Value}(hs:L[h]?=some (.o (yO (s.v l.length) l k)))(hb:L[b]?=some (.box nb cs0))(hv:L[v]?=some (wOf α nb s l.length k))(hi:bA (fun i=>L[i]?) is=some (E.Lx x y))(hc:nbL cs0=E.cs x y)(hec:bA (bT []) (E.cs x y)=some ec)(ha:dV (h :: b :: is)=true)(hz:((h :: b :: is).all fun j=>hU j cf.B8)=true)(hk:bA (F5 e) ks=some (ks.map fun _=>.h s l.length))
  (kk:G (.mk P T hT n c B0 N X Q) K m (ovh (.h s (l.set k x).length) e ks) (TL L (h :: b :: is) ++ [ow s (l.set k x)]) cf):G (.mk P T hT n c B0 N X Q) K m e L cf:=by
 refine chg (fun _:Unit=>m) (fun _=>ovh (.h s (l.set k x).length) e ks) (fun _=>TL L (h :: b :: is) ++ [ow s (l.set k x)]) (fun B a w hm hA hS=>?_) (fun _=>aEE _ hz) (fun _=>kk)
 obtain⟨h1,h2⟩:=aW9 E h b v is ks x y hs hb hv hi hc hec ha hk hA hS
 exact⟨(),[],by simpa using hm,by simpa using h1,by simpa using h2⟩
end
end Go.Gv
end
noncomputable section
namespace Go.Gv
noncomputable section
variable {P:Program} {T:TT} {hT:JE P T} {n:Nat} {c:Ctx} {B0:Bl} {N:Act->World->Prop} {X:Nat->Act->World->Prop} {Q:Act->World->Prop} {K K':List Fr} {m m':Nat} {e e':SE} {L L':List Ch} {cf cf':yU}
theorem ceS{α:Type}[aK α](E:CO α)(h:Nat)(is ks:List Nat){s:AC}{l:List α}{k nb:Nat}(x:α)(y:E.ex){cs0:List SV}{ec:List Value}(h0:TH (kV T n K cf m e L)=some (K',cf',m',e',L'))(hs:L'[h]?=some (.o (yO (s.v l.length) l k)))(hb:L'[h+1]?=some (.box nb cs0))(hv:L'[h+2]?=some (wOf α nb s l.length k))(hi:bA (fun i=>L'[i]?) is=some (E.Lx x y))(hc:nbL cs0=E.cs x y)(hec:bA (bT []) (E.cs x y)=some ec)(ha:dV (h :: (h+1) :: is)=true)(hz:((h :: (h+1) :: is).all fun j=>hU j cf'.B8)=true)(hk:bA (F5 e') ks=some (ks.map fun _=>.h s l.length))
  (kk:G (.mk P T hT n c B0 N X Q) K' m' (ovh (.h s (l.set k x).length) e' ks) (TL L' (h :: (h+1) :: is) ++ [ow s (l.set k x)]) cf'):G (.mk P T hT n c B0 N X Q) K m e L cf:=
 iG (g:=.mk P T hT n c B0 N X Q) (aEA h0 (ce E h (h+1) (h+2) is ks x y hs hb hv hi hc hec ha hz hk kk))
theorem sF(hs:kV T n K cf m e L=.fin m' e' L')(h:∀a w,rO n c B0 m' e' L' a w->N a w):G (.mk P T hT n c B0 N X Q) K m e L cf:=
 iG (g:=.mk P T hT n c B0 N X Q) (by rw [hs];exact h)
theorem sX{id:Nat}(hs:kV T n K cf m e L=.ex id m' e' L')(h:∀a w,rO n c B0 m' e' L' a w->X id a w):G (.mk P T hT n c B0 N X Q) K m e L cf:=
 iG (g:=.mk P T hT n c B0 N X Q) (by rw [hs];exact h)
theorem sR(hs:kV T n K cf m e L=.ret m' e' L')(h:∀a w,rO n c B0 m' e' L' a w->Q a w):G (.mk P T hT n c B0 N X Q) K m e L cf:=
 iG (g:=.mk P T hT n c B0 N X Q) (by rw [hs];exact h)
theorem nxR{σ ρ υ:Type}{o:Step σ ρ}{mj:Nat}{el:σ->υ->SE}{Ll:σ->υ->List Ch}{s:σ}(u:υ)(is:List Nat)(hG:some (Step.next s)=some o)(h:VM B0.length m' e' L' is mj (el s u) (Ll s u)=some (el s u,Ll s u)):∀a w,rO n c B0 m' e' L' a w->NxP n c B0 o mj el Ll a w:=by
 cases hG
 exact fun a w hr=>⟨s,u,rfl,hr.VM is h⟩
theorem uE{π υ:Type}{eq:π->Prop}{mj:Nat}{ej:π->υ->SE}{Lj:π->υ->List Ch}{p:π}(u:υ)(is:List Nat)(hF:eq p)(h:VM B0.length m' e' L' is mj (ej p u) (Lj p u)=some (ej p u,Lj p u)):∀a w,rO n c B0 m' e' L' a w->JP n c B0 eq mj ej Lj a w:=
 fun a w hr=>⟨p,u,hF,rO.VM hr is h⟩
theorem bkR{σ ρ β υ:Type}{o:Step σ ρ}{ro:ρ}{enc:β->ρ}{mj id:Nat}{ej:β->υ->SE}{Lj:β->υ->List Ch}{b:β}(u:υ)(is:List Nat)(hG:some (Step.stop (enc b))=some o)(hr:∀p,o=.stop p->p=ro)(h:VM B0.length m' e' L' is mj (ej b u) (Lj b u)=some (ej b u,Lj b u)):∀a w,rO n c B0 m' e' L' a w->BkP n c B0 ro enc mj ej Lj id X id a w:=by
 cases hG
 have:=hr _ rfl
 subst this
 intro a w hr
 unfold BkP
 rw [if_pos rfl]
 exact⟨b,u,rfl,hr.VM is h⟩
include hT in
theorem rW{fn:Func}{ρ ex:Type}{sv:ρ->ex->SV}{Lf:ρ->ex->List Ch}{r r':ρ}{rs:List ResultVar}{zz:Option ρ}(y:ex)(is:List Nat)(hF:zz=some r)(hz:zz=some r')(hr:fn.results=rs.toArray){x:SV}(hv:aKT T e' L' rs=some x)(hx:nbS x=sv r' y)(hk:JD B0.length (sv r' y)=true)(hL:VM B0.length m' e' L' is B0.length [] (Lf r' y)=some ([],Lf r' y)):∀a w,rO n c B0 m' e' L' a w->QS P fn c B0 sv Lf r a w:=by
 subst hz;cases hF
 intro a w hr'
 obtain⟨B,hm,hA,hS⟩:=id hr'
 obtain⟨v,h1,h2⟩:=aEC hr hT hA hS hv
 obtain⟨B',hm',_,hS'⟩:=hr'.VM is hL
 have hB':B'=[]:=(by simpa using hm')
 subst hB'
 refine⟨hA.d,v,h2,y,?_,by simpa using hS'⟩
 rw [<-hx] at hk ⊢
 have:=P9 hk (by rw [aD8];exact h1)
 rw [YM (iE _),OU] at this
 exact this
theorem rX{Z:Act->World->Prop}{α:Type}[aK α](E:CO α)(h:Nat)(is ks:List Nat){s:AC}{l:List α}{k nb:Nat}(x:α)(y:E.ex){cs0:List SV}{ec:List Value}(hs:L[h]?=some (.o (yO (s.v l.length) l k)))(hb:L[h+1]?=some (.box nb cs0))(hv:L[h+2]?=some (wOf α nb s l.length k))(hi:bA (fun i=>L[i]?) is=some (E.Lx x y))(hc:nbL cs0=E.cs x y)(hec:bA (bT []) (E.cs x y)=some ec)(ha:dV (h :: (h+1) :: is)=true)(hk:bA (F5 e) ks=some (ks.map fun _=>.h s l.length))
  (kk:∀a w,rO n c B0 m (ovh (.h s (l.set k x).length) e ks) (TL L (h :: (h+1) :: is) ++ [ow s (l.set k x)]) a w->Z a w):∀a w,rO n c B0 m e L a w->Z a w:=by
 intro a w ⟨B,hm,hA,hS⟩
 obtain⟨h1,h2⟩:=aW9 E h (h+1) (h+2) is ks x y hs hb hv hi hc hec ha hk hA hS
 exact kk a w ⟨B,hm,h1,h2⟩
end
def wAt(n:Nat):List Ch->Option (Nat×Nat)
 | []=>none
 | .w k b z :: L => match Nat.beq n k with
  | true=>some (b,z)
  | false=>wAt n L
 | _ :: L=>wAt n L
theorem QC{n b z:Nat}:∀{L:List Ch},wAt n L=some (b,z)->Ch.w n b z∈L
 | [],h=>by cases h
 | x :: L, h => by
  cases x with
  | w k b' z' =>
   simp only [wAt] at h
   split at h
   ·rename_i hb
    have:=mR hb
    subst this
    cases h;simp
   ·exact j9 _ (QC h)
  | box k cs=>exact j9 _ (QC (L:=L) h)
  | ro k cs=>exact j9 _ (QC (L:=L) h)
  | o ch=>exact j9 _ (QC (L:=L) h)
  | f g=>exact j9 _ (QC (L:=L) h)
  | no=>exact j9 _ (QC (L:=L) h)
noncomputable section
variable {P:Program} {T:TT} {hT:JE P T} {n:Nat} {c:Ctx} {B0:Bl} {N:Act->World->Prop} {X:Nat->Act->World->Prop} {Q:Act->World->Prop} {K K':List Fr} {m m':Nat} {e e':SE} {L L' Lv:List Ch} {cf cf1 cf2:yU} {o:Oper} {d:Nat}
theorem m6{α:Type}[aK α](nb:Nat){t el sz:Nat}{s:AC}{i:Int}{ls:List α}{x:α}{b1 b2:Bool}{n1:Nat}{z1 z2:List SV}{k2:TK}(hsh:Shp s ls.length)(hi:idx ls i=some x)(hs:kV T n K cf m e L=.idx o d t s ls.length i Lv cf1 cf2 K' m' e' L')(hw:wAt nb Lv=some (S4 (s.v ls.length),SW (aK.n α) i.toNat (s.v ls.length)))(ht:C8 T t=some ⟨.sl el,b1,n1,z1⟩)(he:C8 T el=some ⟨k2,b2,sz,z2⟩)(hn:aK.n α=sz)
  (k:G (.mk P T hT n c B0 N X Q) K' m' ((d,.p nb 0) :: e') L' cf2):G (.mk P T hT n c B0 N X Q) K m e L cf:=by
 obtain⟨p,hp⟩:=List.mem_iff_getElem?.1 (QC hw)
 exact ie p hsh hs hi hp ht he hn k
end
def MB.o{α:Type}[aK α](C:MB α)(Lx:α->C.ex->List Ch)(pk:∀{q y ec},bA (bT []) (C.cs q y)=some ec->OP ec q ((Lx q y).map (kW [])))(no:∀q y,noF (Lx q y)=true)(nb:∀q y B,(Lx q y).map (kW B)=(Lx q y).map (kW [])):CO α:=
 ⟨C.ex,C.cs,Lx,fun h=>let ⟨y,h1,_⟩:=C.ok (aK.own_rd h);⟨y,h1⟩,pk,no,nb⟩
def oI:CO Int:=cI.o (fun _ _=>[]) (fun h=>by cases h;exact gL rfl) (fun _ _=>rfl) (fun _ _ _=>rfl)
def oB:CO Bool:=cB.o (fun _ _=>[]) (fun h=>by cases h;exact gL rfl) (fun _ _=>rfl) (fun _ _ _=>rfl)
def oU:CO UInt8:=cU.o (fun _ _=>[]) (fun h=>by cases h;exact gL rfl) (fun _ _=>rfl) (fun _ _ _=>rfl)
theorem mV{α:Type}[aK α][Flat α]{cs:List Value}{d:α}(h:aK.rd F0 default cs d)(w:World):aK.own w cs d F0:=Flat.own_of h
end Go.Gv
end
noncomputable section
namespace Go.Gv
noncomputable section
variable {P:Program} {T:TT} {hT:JE P T} {n:Nat} {c:Ctx} {B0:Bl} {N:Act->World->Prop} {X:Nat->Act->World->Prop} {Q:Act->World->Prop} {K K':List Fr} {m m':Nat} {e e':SE} {L L':List Ch} {cf:yU}
variable {b:Bool} {α:Type} {A B':Option α} {q:Option α}
theorem csK{o:Operand}{x y:Code}(ss:List Nat)(hs:kV T n K cf m e L=.cond o b x y K' m' e' L')(ho:bA (F5 e') ss=some (ss.map fun _=>SV.b b))(hF:(if b=true then A else B')=q)
  (k1:b=true->A=q->G (.mk P T hT n c B0 N X Q) K' m' (ovr true e' ss) L' (.c x)) (k2:b=false->B'=q->G (.mk P T hT n c B0 N X Q) K' m' (ovr false e' ss) L' (.c y)):G (.mk P T hT n c B0 N X Q) K m e L cf:=
 iG (g := .mk P T hT n c B0 N X Q) (by
  rw [hs]
  intro he a w hr
  have ⟨B,hm,hA,hS⟩:=hr
  obtain⟨v,h1,h2⟩:=fC hA he
  cases h1
  refine mE hA.env h2 (fun hc=>?_) (fun hc=>?_)
  ·rw [if_pos hc] at hF
   exact k1 hc hF a w (aEB hc ss ho hr)
  ·rw [if_neg (by rw [hc];simp)] at hF
   exact k2 hc hF a w (aEB hc ss ho hr))
theorem caK{cf':yU}(ss:List Nat)(hs:kV T n K cf m e L=.case b cf' K' m' e' L')(ho:bA (F5 e') ss=some (ss.map fun _=>SV.b b))(hF:(if b=true then A else B')=q)
  (k1:b=true->A=q->G (.mk P T hT n c B0 N X Q) K' m' (ovr true e' ss) L' cf') (k2:b=false->B'=q->G (.mk P T hT n c B0 N X Q) K' m' (ovr false e' ss) L' cf'):G (.mk P T hT n c B0 N X Q) K m e L cf:=
 iG (g:=.mk P T hT n c B0 N X Q) (by
  rw [hs]
  cases b with
  | true=>exact aFC (fun a B hA=>VT rfl ss ho hA) (k1 rfl (by simpa using hF))
  | false=>exact aFC (fun a B hA=>VT rfl ss ho hA) (k2 rfl (by simpa using hF)))
end
end Go.Gv
end
noncomputable section
namespace Go.Gv
noncomputable section
variable {P:Program} {T:TT} {hT:JE P T} {n:Nat} {c:Ctx} {B0:Bl} {N:Act->World->Prop} {X:Nat->Act->World->Prop} {Q:Act->World->Prop} {K K':List Fr} {m m':Nat} {e e':SE} {L L' Lv:List Ch} {cf cf1 cf2:yU} {o:Oper} {d:Nat}
theorem aS7{α:Type}[aK α]{l:List α}(L2:AC->List Ch)(hs:kV T n K cf m e L=.op o Lv cf1 cf2 K' m' e' L')(hd:o.dst=some d)(hz:∀s',Frz (.mk P T hT n c B0 N X Q) cf1 L' (L2 s'))(h:∀B a w,gZ n B e' a->nJ c w B L'->∃s' w',eJ P o (vE B e') w (AC.v s' l.length) w'/\nJ c w' B (L2 s'))
  (k:∀s':AC,G (.mk P T hT n c B0 N X Q) K' m' ((d,.h s' l.length) :: e') (L2 s') cf2):G (.mk P T hT n c B0 N X Q) K m e L cf:=by
 refine iG (g:=.mk P T hT n c B0 N X Q) ?_
 rw [hs]
 intro hdn _ hE
 refine hE AC (fun _=>m') (fun s'=>(d,.h s' l.length) :: e') L2 hz (fun B a w next Q' hm hA hS hnext=>?_) k
 obtain⟨s',w',k1,k2⟩:=h _ a w hA hS
 unfold Oper.wp
 rw [k1 _ a hA.env,Oper.upon_value,hd]
 exact hnext s' _ _ ⟨[],by simpa using hm,by simpa using hA.of (by simp [gQ,gV,bT]) (hA.env.put (by rw [hd] at hdn;simpa [sY,pO] using hdn) _),by simpa using k2⟩
theorem aAP{α:Type}[aK α]{w:World}{A:List Chunk}{R:List Fact}{v:Value}{l:List α}(h:St c w A R)(i:Nat)(hi:A[i]?=some (gI [v] l)):∃s':AC,v=s'.v l.length:=by
 obtain⟨ad,cp,h2,_⟩:=aE3 (h.aQ4 i hi)
 exact⟨⟨ad,cp⟩,h2⟩
noncomputable section
variable {x y:Operand} {t el sz:Nat} {zv:Value} {b1:Bool} {n1:Nat} {z1:List SV}
theorem lt0{α:Type}[aK α](hinf:XH P el sz zv)(hs:kV T n K cf m e L=.op o Lv cf1 cf2 K' m' e' L')(ho:(o.op,o.dst)=(.buildSlice t 0 #[],some d))(ht:C8 T t=some ⟨.sl el,b1,n1,z1⟩)(hn:aK.n α=sz)
  (k:∀s':AC,G (.mk P T hT n c B0 N X Q) K' m' ((d,.h s' ([]:List α).length) :: e') (L' ++ [ow s' ([]:List α)]) cf2):G (.mk P T hT n c B0 N X Q) K m e L cf:=by
 refine aS7 (l:=([]:List α)) (fun s'=>L' ++ [ow s' ([]:List α)]) hs (congrArg Prod.snd ho) (fun _=>A2 _) (fun B a w hA hS=>?_) k
 obtain⟨⟨R,s1,s2⟩,s0⟩:=hS
 obtain⟨v,w',k1,k2⟩:=aZ8 (α:=α) (e:=vE B e') (o:=o) s1 hn (JK ht hT) hinf (congrArg Prod.fst ho)
 obtain⟨s',rfl⟩:=aAP (v:=v) (l:=([]:List α)) k2 (L'.map (kW B)).length (by simp)
 refine⟨s',w',k1,⟨⟨R,by simpa [kW] using k2,fun z hz=>?_⟩,s0⟩⟩
 rcases e9.1 hz with hz | hz
 ·exact s2 z hz
 ·simp at hz;subst hz;trivial
theorem DF{g:Gx}{cf:yU}{L:List Ch}{j:Nat}{z:Ch}(hn:hU j cf.B8=true):Frz g cf L (L.set j z):=by
 have:=aK7 (g:=g) (M:=[]) (z:=z) (L:=L) hn
 simpa using this
theorem ap{α β:Type}[aK α][Flat α]{A:Option β}{q:β}{s s2:AC}{l xs:List α}(i:Nat)(hinf:XH P el sz zv)(hs:kV T n K cf m e L=.op o Lv cf1 cf2 K' m' e' L')(ho:(o.op,o.dst)=(.call {callee:=.builtin .append,args:=#[x,y],argTypes:=#[t,t]},some d))(ht:C8 T t=some ⟨.sl el,b1,n1,z1⟩)(hn:aK.n α=sz)(hzs:zv.cells.size=sz)(hi:L'[i]?=some (ow s l))(hz:hU i cf1.B8=true)(hsrc:∀{w},HS c w L'->bB (cL w) s2 xs)(hx:jL e' x=some (.h s l.length))(hy:jL e' y=some (.h s2 xs.length))(hF:need (l.length+xs.length<=1073741824) A=some q)
  (k:A=some q->∀s':AC,G (.mk P T hT n c B0 N X Q) K' m' ((d,.h s' (l++xs).length) :: e') (L'.set i (ow s' (l++xs))) cf2):G (.mk P T hT n c B0 N X Q) K m e L cf:=by
 refine aS7 (l:=l++xs) (fun s'=>L'.set i (ow s' (l++xs))) hs (congrArg Prod.snd ho) (fun _=>DF hz) (fun B a w hA hS=>?_) (k (kU hF).2)
 have hr:bB (cL w) s2 xs:=hsrc ⟨_,hS⟩
 obtain⟨⟨R,s1,s2'⟩,s0⟩:=hS
 have hj2:(L'.map (kW B))[i]?=some (gI [s.v l.length] l):=by simp [hi,kW]
 obtain⟨v,w',k1,k2⟩:=aJP i s1 hj2 hr hn (JK ht hT) hinf hzs (kU hF).1 (congrArg Prod.fst ho) (hdB hA hx) (hdB hA hy)
 have hlt:i < L'.length:=(kP.1 hi).1
 obtain⟨s',rfl⟩:=aAP k2 i (by rw [YI (by simpa using hlt)])
 refine⟨s',w',k1,⟨⟨R,?_,fun z hz=>?_⟩,s0⟩⟩
 ·rw [ML];exact k2
 ·rcases pN hz with hz | hz
  ·exact s2' z hz
  ·subst hz;trivial
end
end
end Go.Gv
end
noncomputable section
namespace Go.Gv
theorem aNI{α:Type}{l:List α}{i:Int}{x:α}(h:idx l i=some x):l.set i.toNat x=l:=by
 obtain⟨hk,h2⟩:=kP.1 (lC h).2.2
 rw [<-h2];simp
noncomputable section
variable {P:Program} {T:TT} {hT:JE P T} {n:Nat} {c:Ctx} {B0:Bl} {N:Act->World->Prop} {X:Nat->Act->World->Prop} {Q:Act->World->Prop} {K K':List Fr} {m m':Nat} {e e':SE} {L L' Lv:List Ch} {cf cf' cf1 cf2:yU} {o:Oper} {d:Nat}
theorem QD{α:Type}[aK α](E:CO α)(h:Nat)(is:List Nat){s:AC}{l:List α}{i:Int}{nb:Nat}{x:α}(hx:idx l i=some x)(y:E.ex){cs0:List SV}{ec:List Value}(h0:TH (kV T n K cf m e L)=some (K',cf',m',e',L'))(hs:L'[h]?=some (.o (yO (s.v l.length) l i.toNat)))(hb:L'[h+1]?=some (.box nb cs0))(hv:L'[h+2]?=some (wOf α nb s l.length i.toNat))(hi:bA (fun i=>L'[i]?) is=some (E.Lx x y))(hc:nbL cs0=E.cs x y)(hec:bA (bT []) (E.cs x y)=some ec)(ha:dV (h :: (h+1) :: is)=true)(hz:((h :: (h+1) :: is).all fun j=>hU j cf'.B8)=true)
  (kk:G (.mk P T hT n c B0 N X Q) K' m' e' (TL L' (h :: (h+1) :: is) ++ [ow s l]) cf'):G (.mk P T hT n c B0 N X Q) K m e L cf:=
 ceS E h is [] x y h0 hs hb hv hi hc hec ha hz rfl (by rw [aNI hx];exact kk)
theorem pS{Z:Act->World->Prop}{α:Type}[aK α](E:CO α)(h:Nat)(is:List Nat){s:AC}{l:List α}{i:Int}{nb:Nat}{x:α}(hx:idx l i=some x)(y:E.ex){cs0:List SV}{ec:List Value}(hs:L[h]?=some (.o (yO (s.v l.length) l i.toNat)))(hb:L[h+1]?=some (.box nb cs0))(hv:L[h+2]?=some (wOf α nb s l.length i.toNat))(hi:bA (fun i=>L[i]?) is=some (E.Lx x y))(hc:nbL cs0=E.cs x y)(hec:bA (bT []) (E.cs x y)=some ec)(ha:dV (h :: (h+1) :: is)=true)
  (kk:∀a w,rO n c B0 m e (TL L (h :: (h+1) :: is) ++ [ow s l]) a w->Z a w):∀a w,rO n c B0 m e L a w->Z a w:=
 rX E h is [] x y hs hb hv hi hc hec ha rfl (by rw [aNI hx];exact kk)
noncomputable section
variable {x:Operand} {t el:Nat} {zv:Value} {b1:Bool} {n1:Nat} {z1:List SV}
theorem lt1{k:IntKind}{i:Int}(hk:k=.i64)(hinf:XH P el 1 zv)(hs:kV T n K cf m e L=.op o Lv cf1 cf2 K' m' e' L')(ho:(o.op,o.dst)=(.buildSlice t 1 #[(0,x)],some d))(ht:C8 T t=some ⟨.sl el,b1,n1,z1⟩)(hx:(jL e' x).bind uR=some (k,i))
  (kk:∀s':AC,G (.mk P T hT n c B0 N X Q) K' m' ((d,.h s' [i].length) :: e') (L' ++ [ow s' [i]]) cf2):G (.mk P T hT n c B0 N X Q) K m e L cf:=by
 subst hk
 refine aS7 (l:=[i]) (fun s'=>L' ++ [ow s' [i]]) hs (congrArg Prod.snd ho) (fun _=>A2 _) (fun B a w hA hS=>?_) kk
 obtain⟨⟨R,s1,s2⟩,s0⟩:=hS
 obtain⟨v,w',k1,k2⟩:=aZ9 (α:=Int) (e:=vE B e') (o:=o) i s1 rfl (JK ht hT) hinf (c0:=.int .i64 i) rfl (congrArg Prod.fst ho) (zC hA hx) rfl
 obtain⟨s',rfl⟩:=aAP (v:=v) (l:=[i]) k2 (L'.map (kW B)).length (by simp)
 refine⟨s',w',k1,⟨⟨R,by simpa [kW] using k2,fun z hz=>?_⟩,s0⟩⟩
 rcases e9.1 hz with hz | hz
 ·exact s2 z hz
 ·simp at hz;subst hz;trivial
end
end
end Go.Gv
end
noncomputable section
namespace Go.Gv
theorem bB.sub{c:Ctx}{α:Type}[aK α]{s s':AC}{l:List α}{a b:Nat}(h:bB c s l)(hp:iM (aK.n α) a b (s.v l.length)=s'.v ((l.take b).drop a).length)(hb:a<=b/\b<=l.length):bB c s' ((l.take b).drop a):=by
 have:=aPG (n:=aK.n α) rfl h hb.1 hb.2
 rw [hp] at this
 exact this
noncomputable section
variable {P:Program} {T:TT} {hT:JE P T} {n:Nat} {c:Ctx} {B0:Bl} {N:Act->World->Prop} {X:Nat->Act->World->Prop} {Q:Act->World->Prop} {K K':List Fr} {m m':Nat} {e e':SE} {L L' Lv:List Ch} {cf cf1 cf2:yU} {o:Oper} {d:Nat}
variable {x y z:Operand} {t el sz:Nat} {k k2:IntKind} {i j:Int} {α β:Type} [aK α] {A:Option β} {q:β} {s:AC} {l:List α} {b1 b2:Bool} {n1:Nat} {z1 z2:List SV} {kt:TK}
end
end Go.Gv
end
noncomputable section
namespace Go.Gv
theorem Sep.perm{w:World}{A B:List Chunk}(h:A.Perm B):∀{F:cK},Sep w A F->Sep w B F:=by
 induction h with
 | nil=>exact fun h=>h
 | cons a _ ih=>exact fun⟨F1,F2,h1,h2,hd,hF⟩=>⟨F1,F2,h1,ih h2,hd,hF⟩
 | swap a b L =>
  intro F h
  have h:Sep w (([b] ++ [a])++L) F:=h
  obtain⟨F1,F2,h1,h2,hd,hF⟩:=Sep.append.1 h
  exact(Sep.append (A:=[a] ++ [b])).2 ⟨F1,F2,h1.swap,h2,hd,hF⟩
 | trans _ _ i1 i2=>exact fun h=>i2 (i1 h)
theorem St.via{c:Ctx}{w:World}{A B:List Chunk}{R:List Fact}(h:St c w A R)(hs:∀F,Sep w A F->Sep w B F):St c w B R:=by
 obtain⟨F,S,hsep,rest⟩:=h.sep
 exact⟨h.keep,⟨F,S,hs F hsep,rest⟩,h.apart⟩
structure PV where
 b:Nat
 z:Nat
 A:List Value
 V:List Value
 C:List Value
def PV.whole(p:PV):Chunk:=VJ p.b p.z (p.A++(p.V++p.C))
def PV.mid(p:PV):Chunk:=VJ p.b (p.z+p.A.length) p.V
def PV.rest(p:PV):List Chunk:=[VJ p.b p.z p.A,VJ p.b (p.z+p.A.length+p.V.length) p.C]
theorem a2J{α:Type}{a v c:α}{M R:List α}:(a :: v :: c :: (M++R)).Perm (v :: (M++(a :: c :: R))):=by
 refine(List.Perm.swap v a _).trans (List.Perm.cons v ?_)
 exact((WB (a:=c)).symm.cons a).trans (WB (a:=a)).symm
theorem a54{w:World}:∀{ps:List PV} {F:cK},Sep w (ps.map PV.whole) F->Sep w (ps.map PV.mid++ps.flatMap PV.rest) F
 | [],F,h=>h
 | p :: ps, F, h => by
  obtain⟨F1,F2,h1,h2,hd,hF⟩:=h
  exact Sep.perm a2J (Sep.append.2 ⟨F1,F2,aSZ h1,a54 h2,hd,hF⟩)
theorem a55{w:World}:∀{ps:List PV} {F:cK},Sep w (ps.map PV.mid++ps.flatMap PV.rest) F->Sep w (ps.map PV.whole) F
 | [],F,h=>h
 | p :: ps, F, h => by
  have h2:Sep w ([VJ p.b p.z p.A,p.mid,VJ p.b (p.z+p.A.length+p.V.length) p.C]++(ps.map PV.mid++ps.flatMap PV.rest)) F:=Sep.perm (a2J (M:=ps.map PV.mid) (R:=ps.flatMap PV.rest)).symm h
  obtain⟨F1,F2,h1,h3,hd,hF⟩:=Sep.append.1 h2
  exact⟨F1,F2,aVQ h1,a55 h3,hd,hF⟩
theorem St.a56{c:Ctx}{w:World}{A M:List Chunk}{R:List Fact}(h:St c w (A++M) R)(s0:∀b o,c.S0 b o->b < c.w0.heap.size) :
  ∃κ:Ctx,κ.w0=w/\(∀b o,κ.S0 b o->b < w.heap.size)/\St κ w A []/\(∀f:Fact,f.P c.S0 c.w0->f.P κ.S0 w)/\(∀f∈R,f.P κ.S0 w) /\
   (∀ch∈M,∀f:Fact,(∀w F,ch.P w F->f.P F w)->f.P κ.S0 w)/\∀w' A' R',St κ w' A' R'->St c w' (A'++M) R:=by
 obtain⟨F,S,hsep,hFS,hFW,hSS,hSlt,hR⟩:=h.sep
 obtain⟨F1,F2,h1,h2,hd,hF⟩:=Sep.append.1 hsep
 have hk0:c.w0.heap.size<=w.heap.size:=h.keep.size
 have h1S0:∀b o,F1 b o->c.S0 b o->False:=fun b o p q=>by
  rcases hFW b o ((hF b o).2 (.inl p)) with hw | hw
  ·exact h.apart b o hw q
  ·have:=s0 b o q;omega
 have hlt:∀b o,(S b o\/F2 b o)\/c.S0 b o->b < w.heap.size:=by
  rintro b o ((q | q) | q)
  ·exact hSlt b o q
  ·exact Sep.lt h2 q
  ·have:=s0 b o q;omega
 have hap:∀b o,F1 b o->((S b o\/F2 b o)\/c.S0 b o)->False:=by
  rintro b o p ((q | q) | q)
  ·exact hFS b o ((hF b o).2 (.inl p)) q
  ·exact hd b o p q
  ·exact h1S0 b o p q
 refine⟨⟨w,F1,fun b o=>(S b o\/F2 b o)\/c.S0 b o⟩,rfl,hlt,⟨gX.refl _ _,⟨F1,fun b o=>(S b o\/F2 b o)\/c.S0 b o,h1,hap,fun _ _ h=>.inl h,fun _ _ h=>.inl h,hlt,by simp⟩,hap⟩,fun f hf=>?_,fun f hf=>f.mono (hR f hf) fun b o q=>.inl (.inl q),fun ch hch f hf=>?_,?_⟩
 ·exact f.mono (f.agree hf fun b o q=>h.keep.cell b o (s0 b o q) fun hw=>h.apart b o hw q) fun b o q=>.inr q
 ·obtain⟨j,hj⟩:=aJK hch
  obtain⟨G1,G2,g1,_,_,gF⟩:=(Sep.take hj).1 h2
  exact f.mono (hf w G1 g1) fun b o q=>.inl (.inr ((gF b o).2 (.inl q)))
 ·intro w' A' R' k
  obtain⟨F',S',b1,b2,b3,b4,b5,b6⟩:=k.sep
  have hk:gX F1 w w':=k.keep
  have hGW:∀b o,b < c.w0.heap.size->F1 b o->c.W b o:=fun b o hb g=>by
   rcases hFW b o ((hF b o).2 (.inl g)) with h | h
   ·exact h
   ·omega
  refine⟨h.keep.trans hk hGW,⟨fun b o=>F' b o\/F2 b o,S,Sep.append.2 ⟨F',F2,b1,Sep.keep hk h2 fun b o hf g=>hd b o g hf,?_,fun _ _=>Iff.rfl⟩,?_,?_,hSS,fun b o hS=>TC (hSlt b o hS) hk.size,?_⟩,h.apart⟩
  ·intro b o hg hf
   rcases b3 b o hg with h | h
   ·exact hd b o h hf
   ·have h:w.heap.size<=b:=h
    have:=Sep.lt h2 hf;omega
  ·rintro b o (hf | hf) hS
   ·rcases b3 b o hf with h | h
    ·exact hFS b o ((hF b o).2 (.inl h)) hS
    ·have h:w.heap.size<=b:=h
     have:=hSlt b o hS;omega
   ·exact hFS b o ((hF b o).2 (.inr hf)) hS
  ·rintro b o (hf | hf)
   ·rcases b3 b o hf with h' | h'
    ·exact hFW b o ((hF b o).2 (.inl h'))
    ·exact .inr (yN h.keep.size h')
   ·exact hFW b o ((hF b o).2 (.inr hf))
  ·intro f hf
   exact f.agree (hR f hf) fun b o hS=>hk.cell b o (hSlt b o hS) fun g=>hFS b o ((hF b o).2 (.inl g)) hS
abbrev PS:=List (Nat×Nat×Nat×Nat)
def aK9:Nat->List (List SV)->List Ch
 | _,[]=>[]
 | k,c :: r=>.box k c :: aK9 (k+1) r
def MU(L:List Ch)(i n:Nat):List SV:=match L[i]? with
 | some (.box k cs) => match Nat.beq n k with
  | true=>cs
  | false=>[]
 | _=>[]
def aNJ(L:List Ch):PS->Option (List (List SV))
 | []=>some []
 | (i, n, o, k) :: r => match Nat.ble (o + k) (MU L i n).length, Nat.ble 1 k, frc (((MU L i n).drop o).take k), aNJ L r with
  | true,true,some d,some ds=>some (d :: ds)
  | _,_,_,_=>none
def QE(L M:List Ch):PS->List (List SV)->List Ch
 | (i,n,o,_) :: r,c :: cs=>QE L (M.set i (.box n (ovw (MU L i n) o c))) r cs
 | _,_=>M
def FU:PS->List Nat
 | []=>[]
 | p :: r=>p.1 :: FU r
def rnP:PS->Nat->SV->Option SV
 | [], _, x => match JD 0 x with
  | true=>some x
  | false=>none
 | (_, n, o, _) :: r, j, x => match x with
  | .p n' o' => match Nat.beq n n', Nat.beq o o' with
   | true,true=>some (.p j 0)
   | _,_=>rnP r (j+1) (.p n' o')
  | x=>rnP r (j+1) x
structure HG (c κ:Ctx) (L:List Ch) (js:List Nat):Prop where
 a:∀{α:Type} [aK α] {s:AC} {d:List α},bB c s d->bB κ s d
 o:∀{α:Type} [aK α] {s:AC} {d:List α} (i:Nat),L[i]?=some (ow s d)->hU i js=true->bB κ s d
 f:∀{α:Type} [aK α] {s:AC} {d:List α} (i:Nat),L[i]?=some (fr s d)->bB κ s d
def PvR(B:Bl)(L:List Ch):PS->List (List SV)->List PV->Prop
 | [],[],[]=>True
 | (i,n,o,k) :: r,d :: ds,p :: ps=>(∃cs vs,L[i]?=some (.box n cs)/\B[n]?=some (p.b,p.z)/\bA (bT B) cs=some vs/\o+k<=cs.length/\p.A=vs.take o/\p.V=(vs.drop o).take k/\p.C=vs.drop (o+k)/\d=(cs.drop o).take k)/\PvR B L r ds ps
 | _,_,_=>False
def blP(pv:List PV):Bl:=pv.map fun p=>(p.b,p.z+p.A.length)
noncomputable section
variable {c:Ctx} {w:World} {B:Bl} {L:List Ch} {R:List Fact}
theorem aNK{i n:Nat}{x:SV}{r:List SV}(h:MU L i n=x :: r):L[i]?=some (.box n (x :: r)):=by
 unfold MU at h
 split at h
 ·rename_i k cs hk
  split at h
  ·rename_i hb
   rw [mR hb,hk,h]
  ·cases h
 ·cases h
theorem a2K(hS:St c w (L.map (kW B)) R):∀{ps:PS} {ds:List (List SV)},aNJ L ps=some ds->∃pv,PvR B L ps ds pv
 | [],ds,h=>by cases h;exact⟨[],trivial⟩
 | (i, n, o, k) :: r, ds, h => by
  simp only [aNJ] at h
  split at h
  ·rename_i d ds' h1 h2 h3 h4
   cases h
   have h1:=y9 h1
   have h2:=y9 h2
   obtain⟨pv,hpv⟩:=a2K hS h4
   have h3:=NP h3
   subst h3
   cases hc:MU L i n with
   | nil=>rw [hc] at h1;simp at h1;omega
   | cons x cs =>
    have hL:=aNK hc
    obtain⟨F,b,z,vs,g1,g2,g3⟩:=hS.chunk (ch:=SX B n (x :: cs)) i (by simp [hL,kW])
    exact⟨⟨b,z,vs.take o,(vs.drop o).take k,vs.drop (o+k)⟩ :: pv,⟨x :: cs,vs,hL,g1,g2,by rw [<-hc];exact h1,rfl,rfl,rfl,by simp only [hc]⟩,hpv⟩
  ·cases h
theorem parts{vs:List Value}{o k:Nat}:vs.take o++((vs.drop o).take k++vs.drop (o+k))=vs:=by
 rw [<-List.drop_drop,TA,TA]
theorem aR1{F:cK}:∀{ps:PS} {ds:List (List SV)} {pv:List PV} {F:cK},PvR B L ps ds pv->Sep w (pick (L.map (kW B)) (FU ps)) F->Sep w (pv.map PV.whole) F
 | [],[],[],F,_,h=>h
 | (i, n, o, k) :: r, d :: ds, p :: ps, F, ⟨⟨cs, vs, h1, h2, h3, h4, h5, h6, h7, h8⟩, hr⟩, h => by
  simp only [FU,pick,HZ,h1,MN,Option.getD_some] at h
  obtain⟨F1,F2,g1,g2,gd,gF⟩:=h
  refine⟨F1,F2,?_,aR1 (F:=F) hr g2,gd,gF⟩
  obtain⟨b,z,vs',k1,k2,k3⟩:=g1
  rw [h2] at k1;cases k1
  rw [h3] at k2;cases k2
  unfold PV.whole
  rw [h5,h6,h7,parts]
  exact k3
theorem aPU{Bs:Bl}{p:PV}{ps:List PV}{j:Nat}(h:∀i,Bs[j+i]?=(blP (p :: ps))[i]?):Bs[j]?=some (p.b,p.z+p.A.length)/\∀i,Bs[j+1+i]?=(blP ps)[i]?:=by
 refine⟨?_,fun i=>?_⟩
 ·have:=h 0
  simpa [blP] using this
 ·have:=h (i+1)
  rw [show j+1+i=j+(i+1) by omega,this]
  simp [blP]
theorem aXB{Bs:Bl}:∀{ps:PS} {ds:List (List SV)} {pv:List PV} {j:Nat} {F:cK},PvR B L ps ds pv->ds.all (JD.okC 0)=true->(∀i,Bs[j+i]?=(blP pv)[i]?)->Sep w (pv.map PV.mid) F->Sep w ((aK9 j ds).map (kW Bs)) F
 | [],[],[],_,F,_,_,_,h=>h
 | (i, n, o, k) :: r, d :: ds, p :: ps, j, F, ⟨⟨cs, vs, h1, h2, h3, h4, h5, h6, h7, h8⟩, hr⟩, ho, hB, h => by
  simp only [S6,xB] at ho
  obtain⟨F1,F2,g1,g2,gd,gF⟩:=h
  obtain⟨b1,b2⟩:=aPU hB
  refine⟨F1,F2,⟨p.b,p.z+p.A.length,p.V,b1,?_,g1⟩,aXB hr ho.2 b2 g2,gd,gF⟩
  have e1:bA (bT B) d=some p.V:=by rw [h8,h6];exact O3 k (O2 o h3)
  have e2:=JJ ho.1 e1
  rw [aBP] at e2
  exact gA (fun x v h=>by simpa using iB (B:=[]) Bs h) e2
theorem aPV{Bs:Bl}:∀{ps:PS} {ds:List (List SV)} {pv:List PV} {j:Nat} {x x':SV} {v:Value},PvR B L ps ds pv->(∀i,Bs[j+i]?=(blP pv)[i]?)->rnP ps j x=some x'->gQ B x=some v->gQ Bs x'=some v
 | [], [], [], j, x, x', v, _, _, hx, hv => by
  simp only [rnP] at hx
  split at hx
  ·rename_i h0
   cases hx
   have:=P9 h0 hv
   rw [aBP] at this
   simpa using GV (B:=[]) Bs this
  ·cases hx
 | (i, n, o, k) :: r, d :: ds, p :: ps, j, x, x', v, ⟨⟨cs, vs, h1, h2, h3, h4, h5, h6, h7, h8⟩, hr⟩, hB, hx, hv => by
  obtain⟨b1,b2⟩:=aPU hB
  simp only [rnP] at hx
  split at hx
  ·rename_i n' o'
   split at hx
   ·rename_i e1 e2
    cases hx
    have e1:=mR e1
    have e2:=mR e2
    subst e1;subst e2
    simp only [gQ,gV,bT,h2] at hv
    have hA:p.A.length=o:=by rw [h5,FY,mA h3];omega
    simp only [gQ,gV,bT,b1,hA,KX]
    exact hv
   ·exact aPV hr b2 hx hv
  ·exact aPV hr b2 hx hv
theorem aR2{Bs:Bl}{ps:PS}{ds:List (List SV)}{pv:List PV}(hr:PvR B L ps ds pv)(hB:∀i,Bs[0+i]?=(blP pv)[i]?):∀{xs xs':List SV} {vs:List Value},bA (rnP ps 0) xs=some xs'->bA (gQ B) xs=some vs->bA (gQ Bs) xs'=some vs
 | [],_,_,h,hv=>by cases h;exact hv
 | x :: xs, xs', vs, h, hv => by
  simp only [bA] at h hv
  split at h
  ·cases h
  ·rename_i h1
   split at h
   ·cases h
   ·rename_i h2
    cases h
    split at hv
    ·cases hv
    ·rename_i v1
     split at hv
     ·cases hv
     ·rename_i v2
      cases hv
      simp only [bA,aPV hr hB h1 v1,aR2 hr hB h2 v2]
def PvN(B:Bl):List PV->List (List SV)->List PV->Prop
 | [],[],[]=>True
 | p :: ps,d :: ds,q :: qs=>(q.b=p.b/\q.z=p.z/\q.A=p.A/\q.C=p.C/\q.V.length=p.V.length/\bA (bT B) d=some q.V)/\PvN B ps ds qs
 | _,_,_=>False
theorem aNL:∀{ps:List PV} {ds:List (List SV)} {qs:List PV},PvN B ps ds qs->qs.flatMap PV.rest=ps.flatMap PV.rest/\blP qs=blP ps
 | [],[],[],_=>⟨rfl,rfl⟩
 | p :: ps, d :: ds, q :: qs, ⟨⟨h1, h2, h3, h4, h5, h6⟩, hr⟩ => by
  obtain⟨e1,e2⟩:=aNL hr
  simp only [List.flatMap_cons,e1,PV.rest,h1,h2,h3,h4,h5]
  refine⟨trivial,?_⟩
  simp only [blP,y8,h1,h2,h3] at e2 ⊢
  rw [e2]
def aFF:PS->List (List SV)->Bool
 | [],[]=>true
 | (_, _, _, k) :: r, d :: ds => match Nat.beq d.length k with
  | true=>aFF r ds
  | false=>false
 | _,_=>false
theorem aXC:∀{ps:PS} {ds:List (List SV)} {pv:List PV},PvR B L ps ds pv->pv.length=ps.length
 | [],[],[],_=>rfl
 | (i,n,o,k) :: r,d :: ds,p :: ps,⟨_,hr⟩=>by simp [aXC hr]
theorem aR3{Bs:Bl}:∀{ps:PS} {ds:List (List SV)} {pv:List PV} {es:List (List SV)} {j:Nat},PvR B L ps ds pv->aFF ps es=true->es.all (JD.okC 0)=true->(∀i,Bs[j+i]?=(blP pv)[i]?)->(∀i cs,es[i]?=some cs->∃F,(SX Bs (j+i) cs).P w F)->∃qs,PvN B pv es qs/\j7 w ((aK9 j es).map (kW Bs)) (qs.map PV.mid)
 | [],[],[],[],j,_,_,_,_,_=>⟨[],trivial,.nil⟩
 | [],[],[],e :: es,j,_,hl,_,_,_=>by simp [aFF] at hl
 | (i,n,o,k) :: r,d :: ds,p :: ps,[],j,_,hl,_,_,_=>by simp [aFF] at hl
 | (i, n, o, k) :: r, d :: ds, p :: ps, e :: es, j, ⟨⟨cs, vs, h1, h2, h3, h4, h5, h6, h7, h8⟩, hr⟩, hl, ho, hB, hc => by
  simp only [aFF] at hl
  split at hl
  ·rename_i he
   have he:=mR he
   simp only [S6,xB] at ho
   obtain⟨b1,b2⟩:=aPU hB
   obtain⟨qs,q1,q2⟩:=aR3 hr hl ho.2 b2 fun i cs hi=>by
    have:=hc (i+1) cs (by simpa using hi)
    rwa [show j+(i+1)=j+1+i by omega] at this
   obtain⟨F,b,z,us,g1,g2,g3⟩:=hc 0 e rfl
   have hlen:=mA h3
   have g4:=JJ ho.1 g2
   rw [aBP] at g4
   refine⟨⟨p.b,p.z,p.A,us,p.C⟩ :: qs,⟨⟨rfl,rfl,rfl,rfl,?_,gA (fun x v h=>by simpa using iB (B:=[]) B h) g4⟩,q1⟩,.cons (fun F hF=>?_) q2⟩
   ·rw [mA g2,h6,FY,MK,he];omega
   ·obtain⟨b',z',us',k1,k2,k3⟩:=hF
    rw [show j=j+0 by omega] at b1
    simp only [KX] at g2 k2 k1 b1
    rw [b1] at k1;cases k1
    rw [g2] at k2;cases k2
    exact k3
  ·cases hl
theorem aFG:∀{ws vs:List Value} {o:Nat},o+ws.length<=vs.length->V4 vs o ws=vs.take o++(ws++vs.drop (o+ws.length))
 | [],vs,o,h=>by simp [V4]
 | x :: ws, vs, o, h => by
  simp only [yL] at h
  simp only [V4]
  rw [aFG (by simp;omega)]
  have t1:(vs.set o x).take (o+1)=vs.take o ++ [x]:=by
   rw [List.take_add_one,YI (by omega)]
   rw [List.take_set,List.set_eq_of_length_le (by simp;omega)]
   rfl
  have t2:(vs.set o x).drop (o+1+ws.length)=vs.drop (o+(ws.length+1)):=by
   rw [List.drop_set_of_lt (by omega),show o+1+ws.length=o+(ws.length+1) by omega]
  rw [t1,t2]
  simp
theorem aXD:∀{ps:PS} {ds es:List (List SV)} {pv qs:List PV} {M:List Ch} {F:cK},PvR B L ps ds pv->PvN B pv es qs->(∀i∈FU ps,M[i]?=some .no)->dV (FU ps)=true->Sep w (qs.map PV.whole++M.map (kW B)) F->Sep w ((QE L M ps es).map (kW B)) F
 | [],[],[],[],[],M,F,_,_,_,_,h=>h
 | (i, n, o, k) :: r, d :: ds, e :: es, p :: ps, q :: qs, M, F, ⟨⟨cs, vs, h1, h2, h3, h4, h5, h6, h7, h8⟩, hr⟩, ⟨⟨n1, n2, n3, n4, n5, n6⟩, hn⟩, hM, ha, h => by
  simp only [FU,dV,xB] at ha
  have hi:M[i]?=some .no:=hM i (by simp [FU])
  have hlt:i < M.length:=(kP.1 hi).1
  simp only [QE]
  refine aXD (ps:=r) (ds:=ds) (es:=es) (pv:=ps) (qs:=qs) hr hn (fun j hj=>?_) ha.2 ?_
  ·have hne:i≠j:=fun e=>by
    subst e
    have:=MI.1 ha.1 _ hj
    simp at this
   rw [YH hne]
   exact hM j (by simp [FU,hj])
  ·have h9:Sep w (qs.map PV.whole++(q.whole :: M.map (kW B))) F:=Sep.perm WB.symm h
   obtain⟨F1,F2,g1,g2,gd,gF⟩:=Sep.append.1 h9
   refine Sep.append.2 ⟨F1,F2,g1,?_,gd,gF⟩
   have hc:MU L i n=cs:=by
    unfold MU
    rw [h1]
    simp
   have e0:(M.map (kW B)).set i KR=M.map (kW B):=by
    have:(M.map (kW B))[i]?=some KR:=by simp [hi,kW]
    obtain⟨hl,he⟩:=kP.1 this
    rw [<-he];exact aER hl
   have e1:Sep w ((M.map (kW B)).set i q.whole) F2:=Sep.put (by simpa using hlt) (by rw [e0];exact g2)
   rw [ML,hc]
   refine Sep.imp ?_ e1
   refine j7.set i (j7.refl _) fun F hF=>⟨p.b,p.z,q.A++(q.V++q.C),h2,?_,by rw [<-n1,<-n2];exact hF⟩
   have hlen:=mA h3
   have hV:p.V.length=k:=by rw [h6,FY,MK];omega
   have hVe:e.length=k:=by rw [<-mA n6,n5,hV]
   rw [aKW _ _ _ (by omega),n3,n4,h5,h7]
   have:=YS o h3 n6
   rw [this,aFG (by omega),n5,hV]
 | [],[],e :: es,[],_,M,F,_,hn,_,_,_=>by simp [PvN] at hn
 | [],[],[],[],q :: qs,M,F,_,hn,_,_,_=>by simp [PvN] at hn
 | (i,n,o,k) :: r,d :: ds,[],p :: ps,qs,M,F,_,hn,_,_,_=>by simp [PvN] at hn
 | (i,n,o,k) :: r,d :: ds,e :: es,p :: ps,[],M,F,_,hn,_,_,_=>by simp [PvN] at hn
theorem aNM{x:Ch}:∀{ps:PS} {es:List (List SV)} {M:List Ch},x∈QE L M ps es->x∈M\/∃n cs,x=.box n cs
 | [],_,M,h=>.inl (by simpa [QE] using h)
 | (i,n,o,k) :: r,[],M,h=>.inl (by simpa [QE] using h)
 | (i, n, o, k) :: r, e :: es, M, h => by
  rcases aNM (ps:=r) (es:=es) (by simpa [QE] using h) with h | h
  ·rcases pN h with h | h
   ·exact .inl h
   ·exact .inr ⟨_,_,h⟩
  ·exact .inr h
end
end Go.Gv
end
noncomputable section
namespace Go.Gv
def cpS:Stop->Option (Oper×Option Nat×FuncId×List SV×yU×yU×List Fr×Nat×SE×List Ch)
 | .call o d f xs cf cf' K m e L=>some (o,d,f,xs,cf,cf',K,m,e,L)
 | .callp o d f xs cf cf' K m e L=>some (o,d,f,xs,cf,cf',K,m,e,L)
 | _=>none
def dse(d:Option Nat)(v:SV)(e:SE):SE:=match d with
 | some d=>(d,v) :: e
 | none=>e
def TM:List Ch->Bool
 | []=>true
 | .o _ :: L=>TM L
 | _ :: _=>false
theorem aFH{B B':Bl}:∀{L:List Ch},TM L=true->L.map (kW B)=L.map (kW B')
 | [],_=>rfl
 | .o c :: L,h=>by simp only [y8,kW];rw [aFH (L:=L) h]
theorem aFI{B:Bl}{R:List Fact}:∀{L:List Ch},TM L=true->∀x∈L,roF B R x
 | [],_,x,hx=>by cases hx
 | .o c :: L, h, x, hx => by
  rcases fA.1 hx with hx | hx
  ·subst hx;trivial
  ·exact aFI (L:=L) h x hx
theorem aNN{B:Bl}{R:List Fact}:∀{cs:List (List SV)} {k:Nat},∀x∈aK9 k cs,roF B R x
 | [],k,x,hx=>by cases hx
 | c :: cs, k, x, hx => by
  rcases fA.1 hx with hx | hx
  ·subst hx;trivial
  ·exact aNN x hx
theorem aFJ:∀{cs:List (List SV)} {k i:Nat} {c:List SV},cs[i]?=some c->(aK9 k cs)[i]?=some (.box (k+i) c)
 | c' :: cs,k,0,c,h=>by simp at h;subst h;rfl
 | c' :: cs, k, i + 1, c, h => by
  have:=aFJ (k:=k+1) (show cs[i]?=some c by simpa using h)
  simpa [aK9,YN,Nat.add_comm 1] using this
theorem YZ{L:List Chunk}:∀{a b:List Nat},pick L (a++b)=pick L a++pick L b
 | [],b=>rfl
 | i :: a,b=>by simp only [OS,pick,YZ (a:=a)]
theorem aEG:∀{js:List Nat} {L:List Ch},(TL L js).length=L.length
 | [],L=>rfl
 | j :: js,L=>by simp only [TL];rw [aEG];simp
theorem aXE:∀{js:List Nat} {L:List Ch} {i:Nat},i < L.length->L[i]?=some .no\/i∈js->(TL L js)[i]?=some .no
 | [],L,i,_,h=>by rcases h with h | h;exact h;cases h
 | j :: js, L, i, hl, h => by
  simp only [TL]
  refine aXE (by simpa using hl) ?_
  by_cases e:j=i
  ·subst e;left;rw [YI hl]
  ·rw [YH e]
   rcases h with h | h
   ·exact .inl h
   ·rcases fA.1 h with h | h
    ·exact absurd h.symm e
    ·exact .inr h
theorem aXF{B:Bl}{L:List Ch}:∀{ps:PS} {ds:List (List SV)} {pv:List PV},PvR B L ps ds pv->∀i∈FU ps,i < L.length
 | [],[],[],_,i,h=>by cases h
 | (i, n, o, k) :: r, d :: ds, p :: ps, ⟨⟨cs, vs, h1, _⟩, hr⟩, j, h => by
  rcases fA.1 h with h | h
  ·subst h;exact(kP.1 h1).1
  ·exact aXF hr j h
theorem aR4:∀{a b:List Nat},dV (a++b)=true->dV a=true
 | [],b,_=>rfl
 | i :: a, b, h => by
  simp only [OS,dV,xB,List.all_append] at h ⊢
  exact⟨h.1.1,aR4 h.2⟩
theorem aNO{g:Gx}{cf:yU}{L M:List Ch}{j:Nat}{z:Ch}(h:Frz g cf L M)(hn:hU j cf.B8=true):Frz g cf L (M.set j z):=by
 cases cf with
 | d B1 ops l is Lf Lv =>
  intro hD
  obtain⟨h1,h2⟩:=h hD
  have:=VU (L:=M) (M:=[]) (j:=j) (z:=z) h2 hn
  rw [jP] at this
  exact⟨by rw [this];exact h1,fun i hi=>by simpa using h2 i hi⟩
 | o B1 ops l is Lf Lv ii =>
  intro hD
  obtain⟨h1,h2⟩:=h hD
  have:=VU (L:=M) (M:=[]) (j:=j) (z:=z) h2 hn
  rw [jP] at this
  exact⟨by rw [this];exact h1,fun i hi=>by simpa using h2 i hi⟩
 | _=>trivial
theorem aNP{g:Gx}{cf:yU}{L L0:List Ch}:∀{ps:PS} {es:List (List SV)} {M:List Ch},Frz g cf L M->((FU ps).all fun j=>hU j cf.B8)=true->Frz g cf L (QE L0 M ps es)
 | [],_,M,h,_=>by simpa [QE] using h
 | (i,n,o,k) :: r,[],M,h,_=>by simpa [QE] using h
 | (i, n, o, k) :: r, e :: es, M, h, hz => by
  simp only [FU,S6,xB] at hz
  exact aNP (ps:=r) (es:=es) (aNO h hz.1) hz.2
theorem aJ0{i:Nat}:∀{js:List Nat},hU i js=true->(js.all fun j=>!Nat.beq j i)=true
 | [],_=>rfl
 | j :: js, h => by
  simp only [hU] at h
  split at h
  ·cases h
  ·rename_i hb
   simp only [S6,xB,Bool.not_eq_true']
   refine⟨?_,aJ0 h⟩
   cases hji:Nat.beq j i with
   | false=>rfl
   | true =>
    rw [mR hji] at hb
    simp at hb
theorem a38{g:Gx}{s:Stop}{o:Oper}{d:Option Nat}{f:FuncId}{xs:List SV}{cf cf':yU}{K:List Fr}{m:Nat}{e:SE}{L:List Ch}(hs:cpS s=some (o,d,f,xs,cf,cf',K,m,e,L))
  (h:∀fo args ats,o.op=.call {callee:=.value fo,args:=args,argTypes:=ats}->o.dst=d->jL e fo=some (.f f [])->(∃ys,bA (jL e) args.toList=some ys/\nbA ys=xs)->sY g.n d=true->aBT g K m e L o cf cf'->G g K m e L cf):Gs g s:=by
 cases s <;> simp only [cpS] at hs <;> cases hs
 ·exact fun fo args ats a1 a2 a3 a4 _ a6 a7=>h fo args ats a1 a2 a3 a4 a6 a7
 ·exact h
noncomputable section
variable {P:Program} {T:TT} {hT:JE P T} {n:Nat} {c:Ctx} {B0:Bl} {N:Act->World->Prop} {X:Nat->Act->World->Prop} {Q:Act->World->Prop} {K K':List Fr} {m m':Nat} {e e':SE} {L L':List Ch} {cf cf1 cf2:yU} {o:Oper}
theorem cwk{α β ex:Type}{fo:Option α}{kf:α->Option β}{q:β}{d:Option Nat}{f:FuncId}{xs xs0:List SV}{cs0:List (List SV)}{M:List Ch}{sv:α->ex->SV}{cb:α->ex->List (List SV)}{Lr:α->ex->List Ch}(ps:PS)(is:List Nat)
  (hs:cpS (kV T n K cf m e L)=some (o,d,f,xs,cf1,cf2,K',m',e',L')) (hb:aNJ L' ps=some cs0) (hi:bA (fun i=>L'[i]?) is=some M) (hx:bA (rnP ps 0) xs=some xs0)
  (hk:(TM M && (cs0.all (JD.okC 0) && (dV (FU ps++is) && (FU ps++is).all fun j=>hU j cf1.B8)))=true)
  (hn:∀x y,(aFF ps (cb x y) && ((cb x y).all (JD.okC 0) && (TM (Lr x y) && JD 0 (sv x y))))=true)
  (hc:∀{κ:Ctx},HG c κ L' (FU ps++is)->∀{Bs:Bl},Bs.length=ps.length->∀{x},fo=some x->FnS P f κ xs0 Bs (aK9 0 cs0++M) sv (fun x y=>aK9 0 (cb x y)++Lr x y) x)
  (hF:fo.bind kf=some q)
  (k:∀x,fo=some x->kf x=some q->∀y:ex,G (.mk P T hT n c B0 N X Q) K' m' (dse d (sv x y) e') (QE L' (TL L' (FU ps++is)++Lr x y) ps (cb x y)) cf2):G (.mk P T hT n c B0 N X Q) K m e L cf:=by
 refine iG (g:=.mk P T hT n c B0 N X Q) (a38 hs ?_)
 intro fo' args ats ho hd hf ⟨ys,hys,hxs⟩ hdn hE
 simp only [xB] at hk hn
 obtain⟨hkM,hkc,hka,hkz⟩:=hk
 cases hfo:fo with
 | none=>rw [hfo] at hF;cases hF
 | some x =>
  rw [hfo] at hF
  have hz2:((FU ps).all fun j=>hU j cf1.B8)=true:=by
   rw [List.all_append,xB] at hkz;exact hkz.1
  refine hE ex (fun _=>m') (fun y=>dse d (sv x y) e') (fun y=>QE L' (TL L' (FU ps++is)++Lr x y) ps (cb x y)) (fun y=>aNP (aEE _ hkz) hz2) (fun B a w next Q' hm hA hS hnext=>?_) (k x hfo hF)
  generalize hBB:YC (.mk P T hT n c B0 N X Q) cf1++B=BB at hm hA hS hnext
  obtain⟨⟨R,s1,s2⟩,s0⟩:=hS
  obtain⟨pv,hpv⟩:=a2K s1 hb
  have hBs:(blP pv).length=ps.length:=by simp [blP,aXC hpv]
  have hB0:∀i,(blP pv)[0+i]?=(blP pv)[i]?:=fun i=>by rw [FZ]
  have f1:=s1.front (FU ps++is) hka
  have f2:St c w ((pv.map PV.mid++M.map (kW BB))++(pv.flatMap PV.rest++blank (L'.map (kW BB)) (FU ps++is))) R:=by
   refine f1.via fun F h=>?_
   rw [YZ,aEF hi] at h
   obtain⟨F1,F2,g1,g2,gd,gF⟩:=Sep.append.1 h
   obtain⟨F3,F4,g3,g4,gd2,gF2⟩:=Sep.append.1 g1
   have g5:=a54 (aR1 (F:=F) hpv g3)
   have g6:Sep w (((pv.map PV.mid++pv.flatMap PV.rest)++M.map (kW BB))++blank (L'.map (kW BB)) (FU ps++is)) F:=Sep.append.2 ⟨F1,F2,Sep.append.2 ⟨F3,F4,g5,g4,gd2,gF2⟩,g2,gd,gF⟩
   refine Sep.perm ?_ g6
   simp only [jM]
   refine List.Perm.append_left _ ?_
   rw [<-jM,<-jM]
   exact List.Perm.append_right _ List.perm_append_comm
  obtain⟨κ,k1,k2,k3,k4,k5,k6,k7⟩:=f2.a56 s0
  subst k1
  have hHG:HG c κ L' (FU ps++is):=by
   refine⟨fun{α} _ {s d} h=>k4 (CS [s.v d.length] d) h,fun{α} _ {s d} i hi hj=>?_,fun{α} _ {s d} i hi=>k5 _ (s2 _ (CR hi))⟩
   have:(blank (L'.map (kW BB)) (FU ps++is))[i]?=some (gI [s.v d.length] d):=by
    rw [aJS (aJ0 hj),HZ,hi];rfl
   exact k6 _ (aEP _ (CR this)) (CS [s.v d.length] d) fun w F h=>aK.own_rd h
  obtain⟨hcall,hrun⟩:=hc hHG hBs hfo
  obtain⟨vs,h1,h2⟩:=aBU hA hys
  obtain⟨v,h3,h4⟩:=fC hA hf
  simp [gQ,bA] at h3
  subst h3
  have h1':bA (gQ BB) xs=some vs:=by rw [<-hxs,VO];exact h1
  have hst:nJ κ κ.w0 (blP pv) (aK9 0 cs0++M):=by
   refine⟨⟨[],?_,fun x hx=>?_⟩,k2⟩
   ·rw [y7,aFH (B':=BB) hkM]
    refine k3.via fun F h=>?_
    obtain⟨F1,F2,g1,g2,gd,gF⟩:=Sep.append.1 h
    exact Sep.append.2 ⟨F1,F2,aXB hpv hkc hB0 g1,g2,gd,gF⟩
   ·rcases e9.1 hx with hx | hx
    ·exact aNN x hx
    ·exact aFI hkM x hx
  have h5:=hrun vs (aR2 hpv hB0 hx h1') hst
  have h6:=YX (w:=κ.w0) hcall ho h4 h2
  unfold Oper.wp
  rw [h6 _ a hA.env,Oper.upon_enter]
  refine Calls.mono h5 fun en w' ⟨v,hv,y,g1,g2⟩=>?_
  subst hv
  obtain⟨n1,n2,n3,n4⟩:=hn x y
  have g3:=GV BB (aW4 n4 g1)
  rw [aBO] at g3
  obtain⟨⟨R',t1,t2⟩,t0⟩:=g2
  obtain⟨qs,q1,q2⟩:=aR3 (w:=w') hpv n1 n2 hB0 fun i cs hi=>t1.chunk (ch:=SX (blP pv) (0+i) cs) i (by
   rw [HZ,S7 (by
    have:=(kP.1 (aFJ (k:=0) hi)).1
    exact this),aFJ hi];rfl)
  obtain⟨e1,e2⟩:=aNL q1
  have t3:St κ w' (qs.map PV.mid++(Lr x y).map (kW BB)) R':=by
   refine t1.imp ?_
   rw [y7,aFH (B:=blP pv) (B':=BB) n3]
   exact j7.append q2 (j7.refl _)
  have t4:=k7 w' _ R' t3
  have t5:St c w' ((QE L' (TL L' (FU ps++is)++Lr x y) ps (cb x y)).map (kW BB)) R:=by
   refine t4.via fun F h=>?_
   refine aXD hpv q1 (fun i hi=>?_) (aR4 hka) ?_
   ·have hl:=aXF hpv i hi
    rw [S7 (by rw [aEG];exact hl)]
    exact aXE hl (.inr (V9 _ hi))
   ·rw [y7,QB]
    have h7:Sep w' ((qs.map PV.mid++qs.flatMap PV.rest)++(blank (L'.map (kW BB)) (FU ps++is)++(Lr x y).map (kW BB))) F:=by
     rw [e1]
     refine Sep.perm ?_ h
     simp only [jM]
     refine List.Perm.append_left _ ?_
     rw [<-jM (pv.flatMap PV.rest)]
     exact List.perm_append_comm
    obtain⟨F1,F2,p1,p2,pd,pF⟩:=Sep.append.1 h7
    exact Sep.append.2 ⟨F1,F2,a55 p1,p2,pd,pF⟩
  have t6:nJ c w' BB (QE L' (TL L' (FU ps++is)++Lr x y) ps (cb x y)):=by
   refine⟨⟨R,t5,fun z hz=>?_⟩,s0⟩
   rcases aNM hz with hz | ⟨_,_,hz⟩
   ·rcases e9.1 hz with hz | hz
    ·rcases YY _ _ hz with hz | hz
     ·exact s2 z hz
     ·subst hz;trivial
    ·exact aFI n3 z hz
   ·subst hz;trivial
  rw [hd]
  cases d with
  | none=>exact hnext y _ _ ⟨[],by simpa using hm,by simpa [dse,Act.put] using hA,by simpa using t6⟩
  | some d=>exact hnext y _ _ ⟨[],by simpa using hm,by simpa [dse] using hA.of g3 (hA.env.put (by simpa [sY,pO] using hdn) v),by simpa using t6⟩
end
end Go.Gv
end
noncomputable section
namespace Go.Gv
noncomputable section
variable {P:Program} {T:TT} {hT:JE P T} {n:Nat} {c:Ctx} {B0:Bl} {N:Act->World->Prop} {X:Nat->Act->World->Prop} {Q:Act->World->Prop} {K K':List Fr} {m m':Nat} {e e':SE} {L L' Lv:List Ch} {cf cf' cf1 cf2:yU} {o:Oper}
noncomputable section
variable {α β ex:Type} {fo:Option α} {kf:α->Option β} {q:β} {d:Option Nat} {f:FuncId} {xs xs0:List SV} {M:List Ch} {sv:α->ex->SV} {Lr:α->ex->List Ch}
theorem cw0(is:List Nat)
  (hs:cpS (kV T n K cf m e L)=some (o,d,f,xs,cf1,cf2,K',m',e',L')) (hi:bA (fun i=>L'[i]?) is=some M) (hx:bA (rnP [] 0) xs=some xs0)
  (hk:(TM M && (dV is && is.all fun j=>hU j cf1.B8))=true) (hn:∀x y,(TM (Lr x y) && JD 0 (sv x y))=true)
  (hc:∀{κ:Ctx},HG c κ L' is->∀{x},fo=some x->FnS P f κ xs0 [] M sv Lr x) (hF:fo.bind kf=some q)
  (k:∀x,fo=some x->kf x=some q->∀y:ex,G (.mk P T hT n c B0 N X Q) K' m' (dse d (sv x y) e') (TL L' is++Lr x y) cf2):G (.mk P T hT n c B0 N X Q) K m e L cf:=
 cwk (cb:=fun _ _=>[]) (Lr:=Lr) [] is hs rfl hi hx (by simpa [FU] using hk) (fun x y=>by simpa [aFF] using hn x y) (fun{κ} h Bs hl x hx=>match Bs,hl with | [],_=>hc (by simpa [FU] using h) hx) hF (fun x h1 h2 y=>by simpa [QE,FU] using k x h1 h2 y)
theorem cw1{c1:List SV}{a1:α->ex->List SV}(i1 n1 o1 k1:Nat)(is:List Nat)
  (hs:cpS (kV T n K cf m e L)=some (o,d,f,xs,cf1,cf2,K',m',e',L')) (hb:aNJ L' [(i1,n1,o1,k1)]=some [c1]) (hi:bA (fun i=>L'[i]?) is=some M) (hx:bA (rnP [(i1,n1,o1,k1)] 0) xs=some xs0)
  (hk:(TM M && ([c1].all (JD.okC 0) && (dV (i1 :: is) && (i1 :: is).all fun j=>hU j cf1.B8)))=true) (hn:∀x y,(aFF [(i1,n1,o1,k1)] [a1 x y] && ([a1 x y].all (JD.okC 0) && (TM (Lr x y) && JD 0 (sv x y))))=true)
  (hc:∀{κ:Ctx},HG c κ L' (i1 :: is)->∀{b1:Nat×Nat} {x},fo=some x->FnS P f κ xs0 [b1] (.box 0 c1 :: M) sv (fun x y=>.box 0 (a1 x y) :: Lr x y) x) (hF:fo.bind kf=some q)
  (k:∀x,fo=some x->kf x=some q->∀y:ex,G (.mk P T hT n c B0 N X Q) K' m' (dse d (sv x y) e') (QE L' (TL L' (i1 :: is)++Lr x y) [(i1,n1,o1,k1)] [a1 x y]) cf2):G (.mk P T hT n c B0 N X Q) K m e L cf:=
 cwk (cb:=fun x y=>[a1 x y]) (Lr:=Lr) [(i1,n1,o1,k1)] is hs hb hi hx hk hn (fun{κ} h Bs hl x hx=>match Bs,hl with | [b1],_=>hc h hx) hF k
theorem cw2{c1 c2:List SV}{a1 a2:α->ex->List SV}(i1 n1 o1 k1:Nat)(i2 n2 o2 k2:Nat)(is:List Nat)
  (hs:cpS (kV T n K cf m e L)=some (o,d,f,xs,cf1,cf2,K',m',e',L')) (hb:aNJ L' [(i1,n1,o1,k1),(i2,n2,o2,k2)]=some [c1,c2]) (hi:bA (fun i=>L'[i]?) is=some M) (hx:bA (rnP [(i1,n1,o1,k1),(i2,n2,o2,k2)] 0) xs=some xs0)
  (hk:(TM M && ([c1,c2].all (JD.okC 0) && (dV (i1 :: i2 :: is) && (i1 :: i2 :: is).all fun j=>hU j cf1.B8)))=true) (hn:∀x y,(aFF [(i1,n1,o1,k1),(i2,n2,o2,k2)] [a1 x y,a2 x y] && ([a1 x y,a2 x y].all (JD.okC 0) && (TM (Lr x y) && JD 0 (sv x y))))=true)
  (hc:∀{κ:Ctx},HG c κ L' (i1 :: i2 :: is)->∀{b1 b2:Nat×Nat} {x},fo=some x->FnS P f κ xs0 [b1,b2] (.box 0 c1 :: .box 1 c2 :: M) sv (fun x y=>.box 0 (a1 x y) :: .box 1 (a2 x y) :: Lr x y) x) (hF:fo.bind kf=some q)
  (k:∀x,fo=some x->kf x=some q->∀y:ex,G (.mk P T hT n c B0 N X Q) K' m' (dse d (sv x y) e') (QE L' (TL L' (i1 :: i2 :: is)++Lr x y) [(i1,n1,o1,k1),(i2,n2,o2,k2)] [a1 x y,a2 x y]) cf2):G (.mk P T hT n c B0 N X Q) K m e L cf:=
 cwk (cb:=fun x y=>[a1 x y,a2 x y]) (Lr:=Lr) [(i1,n1,o1,k1),(i2,n2,o2,k2)] is hs hb hi hx hk hn (fun{κ} h Bs hl x hx=>match Bs,hl with | [b1,b2],_=>hc h hx) hF k
end
theorem a57(s:AC)(n1 n2:Nat):S4 (s.v n1)=S4 (s.v n2):=by obtain⟨a,c⟩:=s;cases a <;> rfl
theorem a58(s:AC)(q k n1 n2:Nat):SW q k (s.v n1)=SW q k (s.v n2):=by obtain⟨a,c⟩:=s;cases a <;> rfl
theorem ro{α β:Type}[aK α](E:CO α)(j v nb:Nat){s:AC}{i:Int}{n0:Nat}{ls:List α}{kf:α->Option β}{q:β}(hs:TH (kV T n K cf m e L)=some (K',cf',m',e',L'))(hj:L'[j]?=some (ow s ls))(hv:L'[v]?=some (wOf α nb s n0 i.toNat))(hz:hU j cf'.B8=true)(hF:(idx ls i).bind kf=some q)
  (k:∀x,idx ls i=some x->kf x=some q->∀y:E.ex,G (.mk P T hT n c B0 N X Q) K' m' e' (L'.set j .no++([.o (yO (s.v ls.length) ls i.toNat),.box nb (E.cs x y),wOf α nb s ls.length i.toNat]++E.Lx x y)) cf'):G (.mk P T hT n c B0 N X Q) K m e L cf:=by
 refine go hs ?_
 cases hi:idx ls i with
 | none=>rw [hi] at hF;cases hF
 | some x =>
  rw [hi] at hF
  refine chg (fun _=>m') (fun _=>e') (fun y:E.ex=>L'.set j .no++([.o (yO (s.v ls.length) ls i.toNat),.box nb (E.cs x y),wOf α nb s ls.length i.toNat]++E.Lx x y)) (fun B a w hm hA hS=>?_) (fun y=>aK7 hz) (fun y=>k x hi hF y)
  obtain⟨⟨R,s1,s2⟩,s0⟩:=hS
  have hB:B[nb]?=some (S4 (s.v ls.length),SW (aK.n α) i.toNat (s.v ls.length)):=by
   rw [a57 s ls.length n0,a58 s _ _ ls.length n0];exact s2 _ (CR hv)
  have hj2:(L'.map (kW B))[j]?=some (gI [s.v ls.length] ls):=by simp [hj,kW]
  obtain⟨ec,h1⟩:=s1.open j hj2 (lC hi).2.2
  have hlen:((L'.map (kW B)).set j KR).length=L'.length:=by simp
  obtain⟨F,hF'⟩:=h1.chunk (L'.length+2) (by rw [MJ (by omega)];simp;rfl)
  obtain⟨y,hy2⟩:=E.op (show aK.own w ec x F from hF')
  have h2:=h1.unpack (L'.length+2) (by rw [MJ (by omega)];simp) (E.pk hy2)
  have hset:((L'.map (kW B)).set j KR ++ [yO (s.v ls.length) ls i.toNat,VJ (S4 (s.v ls.length)) (SW (aK.n α) i.toNat (s.v ls.length)) ec,gI ec x]).set (L'.length+2) KR=(L'.map (kW B)).set j KR ++ [yO (s.v ls.length) ls i.toNat,VJ (S4 (s.v ls.length)) (SW (aK.n α) i.toNat (s.v ls.length)) ec,KR]:=by
   rw [List.set_append_right _ _ (by omega)]
   simp
  rw [hset] at h2
  refine⟨y,[],by simpa using hm,by simpa using hA,⟨⟨R,?_,fun z hz=>?_⟩,s0⟩⟩
  ·have e1:(L'.set j Ch.no).map (kW B)=(L'.map (kW B)).set j KR:=by rw [ML];rfl
   refine h2.imp ?_
   rw [jP,y7,y7,<-e1,jM]
   refine j7.append (j7.refl _) (j7.append (.cons (fun _ h=>h) (.cons (fun F h=>⟨_,_,ec,hB,gA (fun x v h=>by simpa using iB (B:=[]) B h) hy2,h⟩) (.cons (fun _ h=>h) .nil))) ?_)
   rw [E.nb x y B];exact j7.refl _
  ·rw [jP]
   rcases e9.1 hz with hz | hz
   ·rcases pN hz with hz | hz
    ·exact s2 z hz
    ·subst hz;trivial
   ·rcases e9.1 hz with hz | hz
    ·simp at hz
     rcases hz with rfl | rfl | rfl
     ·trivial
     ·trivial
     ·exact hB
    ·exact aK6 (E.no x y) z hz
theorem bx(i:Nat){nb:Nat}{cs:List SV}(hs:TH (kV T n K cf m e L)=some (K',cf',m',e',L'))(hb:L'[i]?=some (.box nb cs))(hz:hU i cf'.B8=true)(k:G (.mk P T hT n c B0 N X Q) K' m' e' (L'.set i (.box nb (nbL cs))) cf'):G (.mk P T hT n c B0 N X Q) K m e L cf:=by
 refine go hs (chg (fun _:Unit=>m') (fun _=>e') (fun _=>L'.set i (.box nb (nbL cs))) (fun B a w hm hA hS=>?_) (fun _=>DF hz) (fun _=>k))
 obtain⟨⟨R,s1,s2⟩,s0⟩:=hS
 have e1:(L'.set i (.box nb (nbL cs))).map (kW B)=L'.map (kW B):=by
  obtain⟨hl,he⟩:=kP.1 hb
  rw [ML]
  have:kW B (.box nb (nbL cs))=(L'.map (kW B))[i]'(by simpa using hl):=by
   rw [List.getElem_map,he];simp only [kW,SX,QA]
  rw [this];exact aER _
 refine⟨(),[],by simpa using hm,by simpa using hA,⟨⟨R,?_,fun z hz=>?_⟩,s0⟩⟩
 ·rw [jP,e1];exact s1
 ·rw [jP]
  rcases pN hz with hz | hz
  ·exact s2 z hz
  ·subst hz;trivial
theorem nw(α:Type)[aK α](hs:TH (kV T n K cf m e L)=some (K',cf',m',e',L'))
  (k:G (.mk P T hT n c B0 N X Q) K' m' e' (L' ++ [ow ⟨none,0⟩ ([]:List α)]) cf'):G (.mk P T hT n c B0 N X Q) K m e L cf:=by
 refine go hs ?_
 refine chg (fun _:Unit=>m') (fun _=>e') (fun _=>L' ++ [ow ⟨none,0⟩ ([]:List α)]) (fun B a w hm hA hS=>?_) (fun _=>A2 _) (fun _=>k)
 obtain⟨⟨R,s1,s2⟩,s0⟩:=hS
 refine⟨(),[],by simpa using hm,by simpa using hA,⟨⟨R,?_,fun z hz=>?_⟩,s0⟩⟩
 ·rw [jP,y7]
  exact St.more s1 (gX.refl _ _) ⟨F0,⟨none,0,rfl,iE _,sW _,.inl ⟨rfl,rfl,fun _ _ h=>h⟩⟩,fun _ _ h=>h.elim⟩
 ·rw [jP]
  rcases e9.1 hz with hz | hz
  ·exact s2 z hz
  ·simp at hz;subst hz;trivial
theorem Y0{Z:Act->World->Prop}(α:Type)[aK α](kk:∀a w,rO n c B0 m e (L ++ [ow ⟨none,0⟩ ([]:List α)]) a w->Z a w):∀a w,rO n c B0 m e L a w->Z a w:=by
 intro a w ⟨B,hm,hA,hS⟩
 refine kk a w ⟨B,hm,hA,?_⟩
 obtain⟨⟨R,s1,s2⟩,s0⟩:=hS
 refine⟨⟨R,?_,fun z hz=>?_⟩,s0⟩
 ·rw [y7]
  exact St.more s1 (gX.refl _ _) ⟨F0,⟨none,0,rfl,iE _,sW _,.inl ⟨rfl,rfl,fun _ _ h=>h⟩⟩,fun _ _ h=>h.elim⟩
 ·rcases e9.1 hz with hz | hz
  ·exact s2 z hz
  ·simp at hz;subst hz;trivial
end
end Go.Gv
end
noncomputable section
namespace Go.Gv
def AC.sub(s:AC)(n a:Nat):AC:=⟨if s.c=a then s.a else s.a.map (·.add (a * n)),s.c - a⟩
theorem JF{α:Type}{l:List α}{s:AC}{n a b k:Nat}(h1:a<=b)(h2:b<=l.length):iM n a b (s.v k)=(s.sub n a).v ((l.take b).drop a).length:=by
 rw [DE h1 h2];rfl
noncomputable section
variable {P:Program} {T:TT} {hT:JE P T} {n:Nat} {c:Ctx} {B0:Bl} {N:Act->World->Prop} {X:Nat->Act->World->Prop} {Q:Act->World->Prop} {K K':List Fr} {m m':Nat} {e e':SE} {L L' Lv:List Ch} {cf cf' cf1 cf2:yU} {o:Oper} {d:Nat}
theorem cpc{α:Type}[aK α](j:Nat){s:AC}{l:List α}(hs:TH (kV T n K cf m e L)=some (K',cf',m',e',L'))(hj:L'[j]?=some (ow s l))(k:l.length<=s.c->G (.mk P T hT n c B0 N X Q) K' m' e' L' cf'):G (.mk P T hT n c B0 N X Q) K m e L cf:=by
 refine go hs ?_
 refine chg (fun _:PLift (l.length<=s.c)=>m') (fun _=>e') (fun _=>L') (fun B a w hm hA hS=>?_) (fun _=>by simpa using A2 (L:=L') []) (fun h=>k h.down)
 obtain⟨⟨R,s1,s2⟩,s0⟩:=hS
 obtain⟨F,hF⟩:=s1.chunk (ch:=gI [s.v l.length] l) j (by simp [hj,kW])
 obtain⟨ad,cp,h1,h2⟩:=KS (show aK.own w [s.v l.length] l F from hF)
 simp only [AC.v,Value.slice.injEq] at h1
 exact⟨⟨by omega⟩,[],by simpa using hm,by simpa using hA,⟨⟨R,by simpa using s1,by simpa using s2⟩,s0⟩⟩
theorem a01{α:Type}[aK α]{s:AC}{l:List α}(h:bB c s l):l.length<=s.c:=by
 obtain⟨ad,cp,h1,h2,_⟩:=(show pT c.S0 c.w0 [s.v l.length] l from h)
 simp only [AC.v,List.cons.injEq,Value.slice.injEq] at h1
 omega
noncomputable section
variable {x y z u:Operand} {t el sz:Nat} {k1 k2 k3:IntKind} {i j p:Int} {α β:Type} [aK α] {A:Option β} {q:β} {s:AC} {l:List α} {b1 b2:Bool} {n1:Nat} {z1 z2:List SV} {kt:TK}
theorem aNQ(hc:l.length<=s.c)(hs:opS (kV T n K cf m e L)=some (o,Lv,cf1,cf2,K',m',e',L'))(ho:(o.op,o.dst)=(.slice t x (some y) none none,some d))(ht:C8 T t=some ⟨.sl el,b1,n1,z1⟩)(he:C8 T el=some ⟨kt,b2,sz,z2⟩)(hx:jL e' x=some (.h s l.length))(hy:(jL e' y).bind uR=some (k1,i))(hF:need (0<=i/\i<=(l.length:Int)) A=some q)
  (kk:A=some q->(i.toNat<=l.length/\l.length<=l.length)->G (.mk P T hT n c B0 N X Q) K' m' ((d,.h (s.sub sz i.toNat) ((l.take l.length).drop i.toNat).length) :: e') L' cf2):G (.mk P T hT n c B0 N X Q) K m e L cf:=by
 have hop:o.op=.slice t x (some y) none none:=congrArg Prod.fst ho
 have hb:=(kU hF).1
 have hb2:i.toNat<=l.length/\l.length<=l.length:=by omega
 refine pu hs (congrArg Prod.snd ho) (fun B a w hA hS=>⟨iM sz i.toNat l.length (s.v l.length),by rw [JF hb2.1 hb2.2];simp [gQ,gV,bT],fun _ a hA'=>?_⟩) (kk (kU hF).2 hb2)
 obtain⟨h0,h1⟩:=hb
 have h5:max i 0=i:=by omega
 simp [execOp,hop,Instr.sliceAt,Instr.slice,run_underlying (JK ht hT),Instr.sliceBounds,hA'.eval (hdB hA hx),hA'.eval (zC hA hy),Instr.sliceBound,asIntOf,hT.size _ _ he,h0,h1,hc,h5,iM]
theorem aPW(hc:l.length<=s.c)(hs:opS (kV T n K cf m e L)=some (o,Lv,cf1,cf2,K',m',e',L'))(ho:(o.op,o.dst)=(.slice t x none (some z) none,some d))(ht:C8 T t=some ⟨.sl el,b1,n1,z1⟩)(he:C8 T el=some ⟨kt,b2,sz,z2⟩)(hx:jL e' x=some (.h s l.length))(hz:(jL e' z).bind uR=some (k2,j))(hF:need (0<=j/\j<=(l.length:Int)) A=some q)
  (kk:A=some q->(0<=j.toNat/\j.toNat<=l.length)->G (.mk P T hT n c B0 N X Q) K' m' ((d,.h (s.sub sz 0) ((l.take j.toNat).drop 0).length) :: e') L' cf2):G (.mk P T hT n c B0 N X Q) K m e L cf:=by
 have hop:o.op=.slice t x none (some z) none:=congrArg Prod.fst ho
 have hb:=(kU hF).1
 have hb2:0<=j.toNat/\j.toNat<=l.length:=by omega
 refine pu hs (congrArg Prod.snd ho) (fun B a w hA hS=>⟨iM sz 0 j.toNat (s.v l.length),by rw [JF hb2.1 hb2.2];simp [gQ,gV,bT],fun _ a hA'=>?_⟩) (kk (kU hF).2 hb2)
 obtain⟨h0,h1⟩:=hb
 have h3:j<=(s.c:Int):=by omega
 have h5:max j 0=j:=by omega
 simp [execOp,hop,Instr.sliceAt,Instr.slice,run_underlying (JK ht hT),Instr.sliceBounds,hA'.eval (hdB hA hx),hA'.eval (zC hA hz),Instr.sliceBound,asIntOf,hT.size _ _ he,h0,h3,h5,iM]
theorem a59(hc:l.length<=s.c)(hs:opS (kV T n K cf m e L)=some (o,Lv,cf1,cf2,K',m',e',L'))(ho:(o.op,o.dst)=(.slice t x none (some z) (some u),some d))(ht:C8 T t=some ⟨.sl el,b1,n1,z1⟩)(he:C8 T el=some ⟨kt,b2,sz,z2⟩)(hx:jL e' x=some (.h s l.length))(hz:(jL e' z).bind uR=some (k2,j))(hu:(jL e' u).bind uR=some (k3,p))(hF:need (0<=j/\j<=p/\p<=(l.length:Int)) A=some q)
  (kk:A=some q->(0<=j.toNat/\j.toNat<=p.toNat/\p.toNat<=l.length)->G (.mk P T hT n c B0 N X Q) K' m' ((d,.h ⟨(s.sub sz 0).a,p.toNat⟩ ((l.take j.toNat).drop 0).length) :: e') L' cf2):G (.mk P T hT n c B0 N X Q) K m e L cf:=by
 have hop:o.op=.slice t x none (some z) (some u):=congrArg Prod.fst ho
 have hb:=(kU hF).1
 have hb2:0<=j.toNat/\j.toNat<=p.toNat/\p.toNat<=l.length:=by omega
 have hl:=DE (l:=l) (a:=0) (b:=j.toNat) (by omega) (by omega)
 refine pu hs (congrArg Prod.snd ho) (fun B a w hA hS=>⟨AC.v ⟨(s.sub sz 0).a,p.toNat⟩ ((l.take j.toNat).drop 0).length,by simp [gQ,gV,bT],fun _ a hA'=>?_⟩) (kk (kU hF).2 hb2)
 obtain⟨h0,h1,h2⟩:=hb
 have h3:p<=(s.c:Int):=by omega
 have h4:0<=p:=by omega
 have h5:max j 0=j:=by omega
 have h6:max p 0=p:=by omega
 rw [hl]
 have hadd:s.a.map (fun x=>x.add 0)=s.a:=by cases s.a <;> simp [Addr.add]
 by_cases hp:p=0
 ·subst hp
  simp [execOp,hop,Instr.sliceAt,Instr.slice,run_underlying (JK ht hT),Instr.sliceBounds,hA'.eval (hdB hA hx),hA'.eval (zC hA hz),hA'.eval (zC hA hu),Instr.sliceBound,asIntOf,hT.size _ _ he,h0,h1,h3,h4,h5,h6,AC.sub,hadd]
 ·simp [execOp,hop,Instr.sliceAt,Instr.slice,run_underlying (JK ht hT),Instr.sliceBounds,hA'.eval (hdB hA hx),hA'.eval (zC hA hz),hA'.eval (zC hA hu),Instr.sliceBound,asIntOf,hT.size _ _ he,h0,h1,h3,h4,h5,h6,AC.sub,hadd]
end
end
end Go.Gv
end
noncomputable section
namespace Go.Gv
noncomputable section
variable {P:Program} {T:TT} {hT:JE P T} {n:Nat} {c:Ctx} {B0:Bl} {N:Act->World->Prop} {X:Nat->Act->World->Prop} {Q:Act->World->Prop} {K K':List Fr} {m m':Nat} {e e':SE} {L L' Lv:List Ch} {cf cf' cf1 cf2:yU} {o:Oper} {d:Nat}
theorem aR5{α:Type}[aK α]{B:Bl}{w:World}{R:List Fact}{j a b sz:Nat}{s s':AC}{l l':List α}(hn:aK.n α=sz)(hj:L[j]?=some (ow s l))(hb:a<=b/\b<=l.length)(hl:(l.take b).drop a=l')(hs:∀w F,aK.own w [s.v l.length] l F->∃F',aK.own w [s'.v l'.length] l' F'/\∀b o,F' b o->F b o)(hS:nJ c w B L):nJ c w B (L.set j (ow s' l')):=by
 obtain⟨⟨R,s1,s2⟩,s0⟩:=hS
 refine⟨⟨R,?_,fun z hz=>?_⟩,s0⟩
 ·rw [ML]
  refine s1.YP j (by rw [HZ,hj];rfl) fun F hF=>?_
  obtain⟨F',h1,h2⟩:=hs w F hF
  exact⟨F',F0,gX.refl _ _,fun _ _ h=>h.elim,h1,fun b o h=>.inl (h2 b o h)⟩
 ·rcases pN hz with hz | hz
  ·exact s2 z hz
  ·subst hz;trivial
theorem aNR{α:Type}[aK α]{s:AC}{l l':List α}{sz a b:Nat}(hn:aK.n α=sz)(hb:a<=b/\b<=l.length)(hl:(l.take b).drop a=l'):∀w F,aK.own w [s.v l.length] l F->∃F',aK.own w [(s.sub sz a).v l'.length] l' F'/\∀b o,F' b o->F b o:=by
 intro w F h
 obtain⟨F',h1,h2⟩:=aRB hn h hb.1 hb.2
 rw [JF hb.1 hb.2,hl] at h1
 exact⟨F',h1,h2⟩
theorem aNS{α:Type}[aK α]{s:AC}{l l':List α}{sz b p:Nat}(hn:aK.n α=sz)(hb:0<=b/\b<=p/\p<=l.length)(hl:(l.take b).drop 0=l'):∀w F,aK.own w [s.v l.length] l F->∃F',aK.own w [AC.v ⟨(s.sub sz 0).a,p⟩ l'.length] l' F'/\∀b o,F' b o->F b o:=by
 intro w F h
 obtain⟨F',h1,h2⟩:=aV2 hn h hb.1 hb.2.1 hb.2.2
 have hadd:s.a.map (fun x=>x.add 0)=s.a:=by cases s.a <;> simp [Addr.add]
 have hln:=DE (l:=l) (a:=0) (b:=b) (by omega) (by omega)
 rw [hl] at hln h1
 refine⟨F',?_,h2⟩
 have:aS1 sz 0 b p (s.v l.length)=AC.v ⟨(s.sub sz 0).a,p⟩ l'.length:=by
  rw [hln]
  simp only [aS1,AC.v,AC.sub,Nat.zero_mul,hadd,Nat.sub_zero]
  by_cases hp:p=0 <;> simp [hp,hadd]
 rw [this] at h1
 exact h1
theorem po{α:Type}[aK α](j a b:Nat){sz:Nat}{s:AC}{l l':List α}(hn:aK.n α=sz)(hs:TH (kV T n K cf m e L)=some (K',cf',m',e',L'))(hj:L'[j]?=some (ow s l))(hz:hU j cf'.B8=true)(hb:a<=b/\b<=l.length)(hl:(l.take b).drop a=l')
  (k:G (.mk P T hT n c B0 N X Q) K' m' e' (L'.set j (ow (s.sub sz a) l')) cf'):G (.mk P T hT n c B0 N X Q) K m e L cf:=by
 refine go hs (chg (fun _:Unit=>m') (fun _=>e') (fun _=>L'.set j (ow (s.sub sz a) l')) (fun B a' w hm hA hS=>?_) (fun _=>DF hz) (fun _=>k))
 exact⟨(),[],by simpa using hm,by simpa using hA,by simpa using aR5 (R:=[]) hn hj hb hl (aNR hn hb hl) hS⟩
theorem poR{Z:Act->World->Prop}{α:Type}[aK α](j a b:Nat){sz:Nat}{s:AC}{l l':List α}(hn:aK.n α=sz)(hj:L[j]?=some (ow s l))(hb:a<=b/\b<=l.length)(hl:(l.take b).drop a=l')
  (kk:∀a' w,rO n c B0 m e (L.set j (ow (s.sub sz a) l')) a' w->Z a' w):∀a' w,rO n c B0 m e L a' w->Z a' w:=by
 intro a' w ⟨B,hm,hA,hS⟩
 exact kk a' w ⟨B,hm,hA,aR5 (R:=[]) hn hj hb hl (aNR hn hb hl) hS⟩
theorem pm{α:Type}[aK α](j b p:Nat){sz:Nat}{s:AC}{l l':List α}(hn:aK.n α=sz)(hs:TH (kV T n K cf m e L)=some (K',cf',m',e',L'))(hj:L'[j]?=some (ow s l))(hz:hU j cf'.B8=true)(hb:0<=b/\b<=p/\p<=l.length)(hl:(l.take b).drop 0=l')
  (k:G (.mk P T hT n c B0 N X Q) K' m' e' (L'.set j (ow ⟨(s.sub sz 0).a,p⟩ l')) cf'):G (.mk P T hT n c B0 N X Q) K m e L cf:=by
 refine go hs (chg (fun _:Unit=>m') (fun _=>e') (fun _=>L'.set j (ow ⟨(s.sub sz 0).a,p⟩ l')) (fun B a' w hm hA hS=>?_) (fun _=>DF hz) (fun _=>k))
 exact⟨(),[],by simpa using hm,by simpa using hA,by simpa using aR5 (R:=[]) hn hj ⟨by omega,by omega⟩ hl (aNS hn hb hl) hS⟩
theorem pmR{Z:Act->World->Prop}{α:Type}[aK α](j b p:Nat){sz:Nat}{s:AC}{l l':List α}(hn:aK.n α=sz)(hj:L[j]?=some (ow s l))(hb:0<=b/\b<=p/\p<=l.length)(hl:(l.take b).drop 0=l')
  (kk:∀a' w,rO n c B0 m e (L.set j (ow ⟨(s.sub sz 0).a,p⟩ l')) a' w->Z a' w):∀a' w,rO n c B0 m e L a' w->Z a' w:=by
 intro a' w ⟨B,hm,hA,hS⟩
 exact kk a' w ⟨B,hm,hA,aR5 (R:=[]) hn hj ⟨by omega,by omega⟩ hl (aNS hn hb hl) hS⟩
theorem aXG{α:Type}{l xs:List α}{k a n:Nat}(h:k<=n/\n<=l.length)(ha:a<=l.length):k<=n/\n<=(dF l a xs).length:=⟨h.1,by rw [fE ha];exact h.2⟩
theorem aR6{α:Type}{l xs:List α}{k a:Nat}(h:k<=a)(ha:a<=l.length):((dF l a xs).take k).drop 0=(l.take k).drop 0:=by
 simp only [FW,dF]
 rw [YM (by simp;omega),List.take_take,Nat.min_eq_left h]
def AC.a02(s:AC)(n a p:Nat):AC:=⟨if p=a then s.a else s.a.map (·.add (a * n)),p - a⟩
noncomputable section
variable {x y z:Operand} {t el sz:Nat} {zv:Value} {k1 k2:IntKind} {i j:Int} {α β:Type} [aK α] {A:Option β} {q:β} {s:AC} {l:List α} {b1 b2:Bool} {n1:Nat} {z1 z2:List SV} {kt:TK}
theorem ap2[Flat α](p a b:Nat)(hb:a<=b/\b<=l.length)(hs:kV T n K cf m e L=.op o Lv cf1 cf2 K' m' e' L')(ho:(o.op,o.dst)=(.call {callee:=.builtin .append,args:=#[x,y],argTypes:=#[t,t]},some d))(ht:C8 T t=some ⟨.sl el,b1,n1,z1⟩)(he:C8 T el=some ⟨kt,b2,sz,z2⟩)(hn:aK.n α=sz)(hp:L'[p]?=some (ow s l))(hz:hU p cf1.B8=true)(hx:jL e' x=some (.h (s.sub sz 0) ((l.take a).drop 0).length))(hy:jL e' y=some (.h (s.sub sz b) ((l.take l.length).drop b).length))
  (k:(0<=a+(l.length - b)/\a+(l.length - b)<=(dF l a (l.drop b)).length)->G (.mk P T hT n c B0 N X Q) K' m' ((d,.h (s.sub sz 0) (((dF l a (l.drop b)).take (a+(l.length - b))).drop 0).length) :: e') (L'.set p (ow s (dF l a (l.drop b)))) cf2):G (.mk P T hT n c B0 N X Q) K m e L cf:=by
 have hlen:(dF l a (l.drop b)).length=l.length:=fE (by omega)
 have hk:0<=a+(l.length - b)/\a+(l.length - b)<=(dF l a (l.drop b)).length:=by omega
 refine iG (g:=.mk P T hT n c B0 N X Q) ?_
 rw [hs]
 intro hdn _ hE
 refine hE Unit (fun _=>m') (fun _=>(d,.h (s.sub sz 0) (((dF l a (l.drop b)).take (a+(l.length - b))).drop 0).length) :: e') (fun _=>L'.set p (ow s (dF l a (l.drop b)))) (fun _=>DF hz) (fun B act w next Q' hm hA hS hnext=>?_) (fun _=>k hk)
 obtain⟨⟨R,s1,s2⟩,s0⟩:=hS
 have hx2:ev (vE (YC (.mk P T hT n c B0 N X Q) cf1++B) e') x=some (iM sz 0 a (s.v l.length)):=by rw [hdB hA hx,JF (sW a) (yN hb.1 hb.2)]
 have hy2:ev (vE (YC (.mk P T hT n c B0 N X Q) cf1++B) e') y=some (iM sz b l.length (s.v l.length)):=by rw [hdB hA hy,JF hb.2 (iE _)]
 have hop:o.op=.call {callee:=.builtin .append,args:=#[x,y],argTypes:=#[t,t]}:=congrArg Prod.fst ho
 have hd:o.dst=some d:=congrArg Prod.snd ho
 obtain⟨v,w',k1,rfl,k2⟩:=aPK p s1 (by rw [HZ,hp];rfl) hn hb.1 hb.2 (JK ht hT) (hT.size _ _ he) hop hx2 hy2
 unfold Oper.wp
 rw [k1 _ act hA.env,Oper.upon_value,hd]
 have hv:gQ (YC (.mk P T hT n c B0 N X Q) cf1++B) (.h (s.sub sz 0) (((dF l a (l.drop b)).take (a+(l.length - b))).drop 0).length)=some (iM sz 0 (a+(l.length - b)) (s.v l.length)):=by
  have:=JF (l:=dF l a (l.drop b)) (s:=s) (n:=sz) (k:=l.length) hk.1 hk.2
  rw [this]
  simp [gQ,gV,bT]
 refine hnext () _ _ ⟨[],by simpa using hm,by simpa using hA.of hv (hA.env.put (by rw [hd] at hdn;simpa [sY,pO] using hdn) _),?_⟩
 rw [jP]
 refine⟨⟨R,?_,fun z hz=>?_⟩,s0⟩
 ·rw [ML]
  show St c w' ((L'.map _).set p (gI [s.v (dF l a (l.drop b)).length] _)) R
  rw [hlen];exact k2
 ·rcases pN hz with hz | hz
  ·exact s2 z hz
  ·subst hz;trivial
theorem a2M(p k':Nat)(hk:k'<=l.length){l0:List α}(h0:l0.length=k')(hs:opS (kV T n K cf m e L)=some (o,Lv,cf1,cf2,K',m',e',L'))(ho:(o.op,o.dst)=(.slice t x (some y) (some z) none,some d))(ht:C8 T t=some ⟨.sl el,b1,n1,z1⟩)(he:C8 T el=some ⟨kt,b2,sz,z2⟩)(hn:aK.n α=sz)(hp:Lv[p]?=some (ow s l))(hx:jL e' x=some (.h (s.sub sz 0) l0.length))(hy:(jL e' y).bind uR=some (k1,i))(hz:(jL e' z).bind uR=some (k2,j))(hF:need (0<=i/\i<=j/\j<=(l.length:Int)) A=some q)
  (kk:A=some q->(i.toNat<=j.toNat/\j.toNat<=l.length)->G (.mk P T hT n c B0 N X Q) K' m' ((d,.h (s.sub sz i.toNat) ((l.take j.toNat).drop i.toNat).length) :: e') L' cf2):G (.mk P T hT n c B0 N X Q) K m e L cf:=by
 have hop:o.op=.slice t x (some y) (some z) none:=congrArg Prod.fst ho
 have hb:=(kU hF).1
 have hb2:i.toNat<=j.toNat/\j.toNat<=l.length:=by omega
 refine pu hs (congrArg Prod.snd ho) (fun B a w hA hS=>⟨iM sz i.toNat j.toNat (s.v l.length),by rw [JF hb2.1 hb2.2];simp [gQ,gV,bT],?_⟩) (kk (kU hF).2 hb2)
 obtain⟨⟨R,s1,s2⟩,s0⟩:=hS
 have hx2:ev (vE B e') x=some (iM sz 0 k' (s.v l.length)):=by
  rw [hdB hA hx,h0];rfl
 exact aPL p s1 (by rw [HZ,hp];rfl) hn (JK ht hT) (hT.size _ _ he) hb hop hx2 (zC hA hy) (zC hA hz)
theorem clr[Flat α](p a b:Nat)(zd:α)(hb:a<=b/\b<=l.length)(hinf:XH P el sz zv)(hzs:zv.cells.size=sz)(hzd:∀w,aK.rd F0 w zv.cells.toList zd)(hone:(zv.cells.toList.all fun v=>v.oneCell')=true)(hs:kV T n K cf m e L=.op o Lv cf1 cf2 K' m' e' L')(ho:(o.op,o.dst)=(.call {callee:=.builtin .clear,args:=#[x],argTypes:=#[t]},none))(ht:C8 T t=some ⟨.sl el,b1,n1,z1⟩)(hn:aK.n α=sz)(hp:L'[p]?=some (ow s l))(hz:hU p cf1.B8=true)(hx:jL e' x=some (.h (s.sub sz a) ((l.take b).drop a).length))
  (k:G (.mk P T hT n c B0 N X Q) K' m' e' (L'.set p (ow s (dF l a (List.replicate (b - a) zd)))) cf2):G (.mk P T hT n c B0 N X Q) K m e L cf:=by
 have hlen:(dF l a (List.replicate (b - a) zd)).length=l.length:=fE (by omega)
 refine iG (g:=.mk P T hT n c B0 N X Q) ?_
 rw [hs]
 intro hdn _ hE
 refine hE Unit (fun _=>m') (fun _=>e') (fun _=>L'.set p (ow s (dF l a (List.replicate (b - a) zd)))) (fun _=>DF hz) (fun B act w next Q' hm hA hS hnext=>?_) (fun _=>k)
 obtain⟨⟨R,s1,s2⟩,s0⟩:=hS
 have hx2:ev (vE (YC (.mk P T hT n c B0 N X Q) cf1++B) e') x=some (iM sz a b (s.v l.length)):=by rw [hdB hA hx,JF hb.1 hb.2]
 have hop:o.op=.call {callee:=.builtin .clear,args:=#[x],argTypes:=#[t]}:=congrArg Prod.fst ho
 have hd:o.dst=none:=congrArg Prod.snd ho
 obtain⟨v,w',k1,rfl,k2⟩:=aV7 zd p s1 (by rw [HZ,hp];rfl) hn hb.1 hb.2 (JK ht hT) hinf hzs hzd (fun v hv=>MI.1 hone v hv) hop hx2
 unfold Oper.wp
 rw [k1 _ act hA.env,Oper.upon_value,hd]
 refine hnext () _ _ ⟨[],by simpa using hm,by simpa [Act.put] using hA,?_⟩
 rw [jP]
 refine⟨⟨R,?_,fun z hz=>?_⟩,s0⟩
 ·rw [ML]
  show St c w' ((L'.map _).set p (gI [s.v (dF l a (List.replicate (b - a) zd)).length] _)) R
  rw [hlen];exact k2
 ·rcases pN hz with hz | hz
  ·exact s2 z hz
  ·subst hz;trivial
theorem aXH{u:Operand}{k3:IntKind}{pz:Int}(hc:l.length<=s.c)(hs:opS (kV T n K cf m e L)=some (o,Lv,cf1,cf2,K',m',e',L'))(ho:(o.op,o.dst)=(.slice t x (some y) (some z) (some u),some d))(ht:C8 T t=some ⟨.sl el,b1,n1,z1⟩)(he:C8 T el=some ⟨kt,b2,sz,z2⟩)(hx:jL e' x=some (.h s l.length))(hy:(jL e' y).bind uR=some (k1,i))(hz:(jL e' z).bind uR=some (k2,j))(hu:(jL e' u).bind uR=some (k3,pz))(hF:need (0<=i/\i<=j/\j<=pz/\pz<=(l.length:Int)) A=some q)
  (kk:A=some q->(i.toNat<=j.toNat/\j.toNat<=pz.toNat/\pz.toNat<=l.length)->G (.mk P T hT n c B0 N X Q) K' m' ((d,.h (s.a02 sz i.toNat pz.toNat) ((l.take j.toNat).drop i.toNat).length) :: e') L' cf2):G (.mk P T hT n c B0 N X Q) K m e L cf:=by
 have hop:o.op=.slice t x (some y) (some z) (some u):=congrArg Prod.fst ho
 have hb:=(kU hF).1
 have hb2:i.toNat<=j.toNat/\j.toNat<=pz.toNat/\pz.toNat<=l.length:=by omega
 have hl:=DE (l:=l) (a:=i.toNat) (b:=j.toNat) (by omega) (by omega)
 refine pu hs (congrArg Prod.snd ho) (fun B a w hA hS=>⟨AC.v (s.a02 sz i.toNat pz.toNat) ((l.take j.toNat).drop i.toNat).length,by simp [gQ,gV,bT],fun _ a hA'=>?_⟩) (kk (kU hF).2 hb2)
 obtain⟨h0,h1,h2,h2'⟩:=hb
 have h3:pz<=(s.c:Int):=by omega
 have h4:0<=pz:=by omega
 have h4':0<=j:=by omega
 have h5:max j 0=j:=by omega
 have h6:max pz 0=pz:=by omega
 have h7:max i 0=i:=by omega
 rw [hl]
 by_cases hp:pz.toNat=i.toNat
 ·have:pz=i:=by omega
  subst this
  simp [execOp,hop,Instr.sliceAt,Instr.slice,run_underlying (JK ht hT),Instr.sliceBounds,hA'.eval (hdB hA hx),hA'.eval (zC hA hy),hA'.eval (zC hA hz),hA'.eval (zC hA hu),Instr.sliceBound,asIntOf,hT.size _ _ he,h0,h1,h2,h3,h4,h4',h5,h6,h7,AC.a02]
 ·have hp2:¬pz=i:=fun h=>hp (by rw [h])
  simp [execOp,hop,Instr.sliceAt,Instr.slice,run_underlying (JK ht hT),Instr.sliceBounds,hA'.eval (hdB hA hx),hA'.eval (zC hA hy),hA'.eval (zC hA hz),hA'.eval (zC hA hu),Instr.sliceBound,asIntOf,hT.size _ _ he,h0,h1,h2,h3,h4,h4',h5,h6,h7,hp,hp2,AC.a02]
theorem a7U{t2:Nat}(hs:opS (kV T n K cf m e L)=some (o,Lv,cf1,cf2,K',m',e',L'))(ho:(o.op,o.dst)=(.binOp .shl t x y t2,some d))(hx:(jL e' x).bind uR=some (k1,i))(hy:(jL e' y).bind uR=some (k2,j))(hF:need (0<=j) A=some q)
  (kk:A=some q->G (.mk P T hT n c B0 N X Q) K' m' ((d,.i k1 (aJN k1 i j)) :: e') L' cf2):G (.mk P T hT n c B0 N X Q) K m e L cf:=
 pu hs (congrArg Prod.snd ho) (fun B a w hA _=>⟨_,rfl,aU7 (congrArg Prod.fst ho) (zC hA hx) (zC hA hy) (by have:=(kU hF).1;omega)⟩) (kk (kU hF).2)
theorem eqn{t2:Nat}{ln:Nat}(hs:opS (kV T n K cf m e L)=some (o,Lv,cf1,cf2,K',m',e',L'))(ho:(o.op,o.dst)=(.binOp .eql t x (.const (.slice none 0 0)) t2,some d))(ht:C8 T t=some ⟨.sl el,b1,n1,z1⟩)(hx:jL e' x=some (.h s ln))
  (kt:s.a=none->G (.mk P T hT n c B0 N X Q) K' m' ((d,.l true) :: e') L' cf2) (kf:G (.mk P T hT n c B0 N X Q) K' m' ((d,.l false) :: e') L' cf2):G (.mk P T hT n c B0 N X Q) K m e L cf:=by
 cases hs':s.a with
 | none=>exact pu hs (congrArg Prod.snd ho) (fun B a w hA _=>⟨_,rfl,aPH (JK ht hT) ⟨ln,s.c,by simp [AC.v,hs']⟩ (congrArg Prod.fst ho) (hdB hA hx) rfl⟩) (kt hs')
 | some ad=>exact pu hs (congrArg Prod.snd ho) (fun B a w hA _=>⟨_,rfl,aPI (JK ht hT) ⟨ad,ln,s.c,by simp [AC.v,hs']⟩ (congrArg Prod.fst ho) (hdB hA hx) rfl⟩) kf
theorem cln{w:Ctx}{r:List α}(h:bB w s l)(hn:s.a=none)(hF:need (([]:List α).length+l.length<=1073741824) (some (([]:List α)++l))=some r):some ([]:List α)=some r:=by
 obtain⟨ad,cp,h1,h2,h3,h4⟩:=(show pT w.S0 w.w0 [s.v l.length] l from h)
 have:l=[]:=by
  rcases h4 with h4 | ⟨b,off,h4,_⟩
  ·exact h4
  ·simp only [AC.v,List.cons.injEq,Value.slice.injEq] at h1
   rw [hn,h4] at h1
   exact absurd h1.1.1 (by simp)
 subst this
 simpa [need] using hF
end
noncomputable section
variable {x y:Operand} {t el sz:Nat} {zv:Value} {b1:Bool} {n1:Nat} {z1:List SV}
theorem ltN{α:Type}[aK α](E:CO α)(is:List Nat)(q:α)(ye:E.ex)(hinf:XH P el sz zv)(hs:kV T n K cf m e L=.op o Lv cf1 cf2 K' m' e' L')(ho:(o.op,o.dst)=(.buildSlice t 1 #[(0,x)],some d))(ht:C8 T t=some ⟨.sl el,b1,n1,z1⟩)(hn:aK.n α=sz)(hm:Nat.ble 1 sz=true)(hm2:Nat.ble sz 16777216=true)(hx:(jL e' x).map (fun v=>nbL (qK v))=some (E.cs q ye))(hxc:(jL e' x).map isCells=some true)(hle:(E.cs q ye).length=sz)(hec:(bA (bT []) (E.cs q ye)).isSome=true)(hi:bA (fun i=>L'[i]?) is=some (E.Lx q ye))(ha:dV is=true)(hz:(is.all fun j=>hU j cf1.B8)=true)
  (k:∀s':AC,G (.mk P T hT n c B0 N X Q) K' m' ((d,.h s' [q].length) :: e') (TL L' is ++ [ow s' [q]]) cf2):G (.mk P T hT n c B0 N X Q) K m e L cf:=by
 obtain⟨ec,hec⟩:=aES.1 hec
 refine aS7 (l:=[q]) (fun s'=>TL L' is ++ [ow s' [q]]) hs (congrArg Prod.snd ho) (fun _=>aEE _ hz) (fun B a w hA hS=>?_) k
 obtain⟨⟨R,s1,s2⟩,s0⟩:=hS
 have hecl:ec.length=sz:=by rw [mA hec,hle]
 cases hxv:jL e' x with
 | none=>rw [hxv] at hx;cases hx
 | some xv =>
  rw [hxv] at hx hxc
  simp at hx hxc
  obtain⟨v,v1,v2⟩:=fC hA hxv
  have hcell:bA (bT B) (qK xv)=some ec:=by
   rw [<-QA,hx];exact gA (fun x v h=>by simpa using iB (B:=[]) B h) hec
  have hvc:v.cells.toList=ec:=O4 v1 hcell
  have p1:=s1.shift is ha (A':=[gI ec q]) fun F hF=>by
   rw [aEF hi,E.nb] at hF
   exact Sep.one.2 ((E.pk hec w F).2 hF)
  have hlen:(blank (L'.map (kW B)) is).length=L'.length:=by rw [<-QB];simp [aEG]
  obtain⟨v',w',k1,k2⟩:=aZ2 (e:=vE B e') (o:=o) (ps:=[(0,x)]) (vs:=[v]) (cells:=ec) [q] p1 [L'.length] rfl ⟨[],by
    simp only [pick,MJ (TB hlen),hlen,Nat.sub_self]
    rw [show ec.take sz=ec by rw [<-hecl];exact OU]
    rfl,by rw [FY,hecl];omega,⟨by rw [<-hecl];exact List.drop_length,rfl⟩⟩ hn (JK ht hT) hinf rfl hm (by simpa using hm2) (congrArg Prod.fst ho) (by simp [evs,v2]) (aM3 (vs:=[v]) (ps:=[(0,x)]) rfl rfl (by simp;rw [<-Array.length_toList,hvc,hecl]) (by simp [hvc]))
  have hb2:blank (blank (L'.map (kW B)) is ++ [gI ec q]) [L'.length]=blank (L'.map (kW B)) is ++ [KR]:=by
   simp only [blank]
   rw [List.set_append_right _ _ (by omega),hlen];simp
  rw [hb2] at k2
  obtain⟨s',rfl⟩:=aAP (v:=v') (l:=[q]) k2 (L'.length+1) (by rw [MJ (by simp [hlen])];simp [hlen])
  refine⟨s',w',k1,⟨⟨R,?_,fun z hz=>?_⟩,s0⟩⟩
  ·have k3:=k2.P6 ((List.range L'.length) ++ [L'.length+1]) ?_
   ·refine k3.imp ?_
    rw [y7,QB,YZ]
    refine j7.append ?_ ?_
    ·have:pick (blank (L'.map (kW B)) is ++ [KR] ++ [gI [s'.v [q].length] [q]]) (List.range L'.length)=blank (L'.map (kW B)) is:=by
      have gen:∀(M M':List Chunk) (j:Nat),pick (M++M') ((List.range j))=(M++M').take j\/¬j<=(M++M').length:=by
       intro M M' j
       by_cases hj:j<=(M++M').length
       ·left
        induction j with
        | zero=>rfl
        | succ j ih =>
         rw [List.range_succ,YZ,ih (by omega)]
         simp only [pick]
         rw [List.take_add_one,eM (by omega)]
         rfl
       ·exact .inr hj
      rcases gen (blank (L'.map (kW B)) is ++ [KR]) [gI [s'.v [q].length] [q]] L'.length with h | h
      ·rw [h,jM,YM (by omega),<-hlen,OU]
      ·exact absurd (by simp [hlen]) h
     rw [this];exact j7.refl _
    ·simp only [pick]
     rw [MJ (by simp [hlen])]
     simp [hlen,kW]
     try exact j7.refl _
   ·have gen:∀(j:Nat),dV (List.range' j (L'.length - j) ++ [L'.length+1])=true:=by
     intro j
     generalize hk:L'.length - j=k
     induction k generalizing j with
     | zero=>rfl
     | succ k ih =>
      rw [List.range'_succ,OS]
      simp only [dV,xB,MI,Bool.not_eq_true']
      refine⟨fun i hi=>?_,ih (j+1) (by omega)⟩
      cases hb:Nat.beq j i with
      | false=>rfl
      | true =>
       have:=mR hb
       subst this
       rcases e9.1 hi with hi | hi
       ·rw [List.mem_range'] at hi
        obtain⟨p,_,hp⟩:=hi
        omega
       ·simp at hi;omega
    have:=gen 0
    rwa [Nat.sub_zero,<-List.range_eq_range'] at this
  ·rcases e9.1 hz with hz | hz
   ·rcases YY _ _ hz with hz | hz
    ·exact s2 z hz
    ·subst hz;trivial
   ·simp at hz;subst hz;trivial
theorem apN{α β:Type}[aK α]{A:Option β}{q:β}{s s2:AC}{l xs:List α}(i j:Nat)(hinf:XH P el sz zv)(hs:kV T n K cf m e L=.op o Lv cf1 cf2 K' m' e' L')(ho:(o.op,o.dst)=(.call {callee:=.builtin .append,args:=#[x,y],argTypes:=#[t,t]},some d))(ht:C8 T t=some ⟨.sl el,b1,n1,z1⟩)(hn:aK.n α=sz)(hzs:zv.cells.size=sz)(hi:L'[i]?=some (ow s l))(hj:L'[j]?=some (ow s2 xs))(ha:dV [i,j]=true)(hz:([i,j].all fun j=>hU j cf1.B8)=true)(hx:jL e' x=some (.h s l.length))(hy:jL e' y=some (.h s2 xs.length))(hF:need (l.length+xs.length<=1073741824) A=some q)
  (k:A=some q->∀s':AC,G (.mk P T hT n c B0 N X Q) K' m' ((d,.h s' (l++xs).length) :: e') (TL L' [i,j] ++ [ow s' (l++xs)]) cf2):G (.mk P T hT n c B0 N X Q) K m e L cf:=by
 refine aS7 (l:=l++xs) (fun s'=>TL L' [i,j] ++ [ow s' (l++xs)]) hs (congrArg Prod.snd ho) (fun _=>aEE _ hz) (fun B a w hA hS=>?_) (k (kU hF).2)
 obtain⟨⟨R,s1,s2'⟩,s0⟩:=hS
 have hp:pick (L'.map (kW B)) [i,j]=[gI [s.v l.length] l,gI [s2.v xs.length] xs]:=by simp [pick,hi,hj,kW]
 obtain⟨v,w',k1,k2⟩:=aZ3 [i,j] s1 ha hp hn (JK ht hT) hinf hzs (kU hF).1 (congrArg Prod.fst ho) (hdB hA hx) (hdB hA hy)
 have hlen:(blank (L'.map (kW B)) [i,j]).length=L'.length:=by rw [<-QB];simp [aEG]
 obtain⟨s',rfl⟩:=aAP k2 L'.length (by rw [MJ (TB hlen),hlen,Nat.sub_self];rfl)
 refine⟨s',w',k1,⟨⟨R,?_,fun z hz=>?_⟩,s0⟩⟩
 ·rw [y7,QB];exact k2
 ·rcases e9.1 hz with hz | hz
  ·rcases YY _ _ hz with hz | hz
   ·exact s2' z hz
   ·subst hz;trivial
  ·simp at hz;subst hz;trivial
end
theorem kb{b cb:Bool}(ss:List Nat)(hb:b=cb)(hs:TH (kV T n K cf m e L)=some (K',cf',m',e',L'))(ho:bA (F5 e') ss=some (ss.map fun _=>SV.b b))(k:G (.mk P T hT n c B0 N X Q) K' m' (ovr cb e' ss) L' cf'):G (.mk P T hT n c B0 N X Q) K m e L cf:=
 go hs (aFC (fun a B hA=>VT hb ss ho hA) k)
def rhE(v:SV)(e:SE):List (Nat×Nat)->SE
 | []=>e
 | (k, j) :: r => match F5 e k with
  | some (.g cs)=>(k,.g (ovw cs j [v])) :: rhE v e r
  | some (.t cs)=>(k,.t (ovw cs j [v])) :: rhE v e r
  | _=>rhE v e r
def rhL(v:SV)(L:List Ch):List (Nat×Nat)->List Ch
 | []=>L
 | (k, j) :: r => match L[k]? with
  | some (.box n cs)=>rhL v (L.set k (.box n (ovw cs j [v]))) r
  | _=>rhL v L r
theorem aEH{B:Bl}{f:Bl->SV->Option Value}{u v:SV}(huv:∀B,f B u=f B v):∀{cs:List SV} {j:Nat},cs[j]?=some u->bA (f B) (ovw cs j [v])=bA (f B) cs
 | [],j,h=>by simp at h
 | x :: cs, 0, h => by
  simp at h;subst h
  show bA (f B) (v :: ovw cs 0 [])=_
  rw [aKV]
  simp only [bA,huv]
 | x :: cs, j + 1, h => by
  show bA (f B) (x :: ovw cs j [v])=_
  simp only [bA,aEH (B:=B) huv (show cs[j]?=some u by simpa using h)]
theorem aXI{s:AC}{n0 n1:Nat}(hn:n0=n1){B:Bl}:∀{ps:List (Nat×Nat)} {k:Nat} {x:SV},(∀p∈ps,∃cs,(F5 e p.1=some (.g cs)\/F5 e p.1=some (.t cs))/\cs[p.2]?=some (.h s n0))->F5 (rhE (.h s n1) e ps) k=some x->∃y,F5 e k=some y/\gQ B x=gQ B y
 | [],k,x,_,h=>⟨x,h,rfl⟩
 | (k', j) :: r, k, x, hp, h => by
  have ih:=fun h=>aXI hn (B:=B) (ps:=r) (k:=k) (x:=x) (fun p hp'=>hp p (j9 _ hp')) h
  obtain⟨cs,h1,h2⟩:=hp (k',j) (by simp)
  have hc:∀B,bT B (.h s n0)=bT B (.h s n1):=fun B=>by rw [hn]
  have hg:∀B,gV B (.h s n0)=gV B (.h s n1):=fun B=>by rw [hn]
  rcases h1 with h1 | h1
  ·simp only [rhE,h1,F5] at h
   split at h
   ·rename_i hb
    cases h
    have:=mR hb
    subst this
    exact⟨_,h1,by simp only [gQ,gV,aEH (f:=bT) hc h2]⟩
   ·exact ih h
  ·simp only [rhE,h1,F5] at h
   split at h
   ·rename_i hb
    cases h
    have:=mR hb
    subst this
    exact⟨_,h1,by simp only [gQ,aEH (f:=gV) hg h2]⟩
   ·exact ih h
theorem aR8{s:AC}{n0 n1:Nat}(hn:n0=n1){B:Bl}{w:World}{R:List Fact}:∀{ps:List (Nat×Nat)} {L:List Ch},(∀p∈ps,∃k cs,L[p.1]?=some (.box k cs)/\cs[p.2]?=some (.h s n0))->dV (ps.map (·.1))=true->j7 w (L.map (kW B)) ((rhL (.h s n1) L ps).map (kW B))/\((∀x∈L,roF B R x)->∀x∈rhL (.h s n1) L ps,roF B R x)
 | [],L,_,_=>⟨j7.refl _,fun h=>h⟩
 | (i, j) :: r, L, hp, ha => by
  obtain⟨k,cs,h1,h2⟩:=hp (i,j) (by simp)
  have hc:∀B,bT B (.h s n0)=bT B (.h s n1):=fun B=>by rw [hn]
  simp only [y8,dV,xB] at ha
  have ih:=aR8 hn (B:=B) (w:=w) (R:=R) (ps:=r) (L:=L.set i (.box k (ovw cs j [.h s n1]))) (fun p hp'=>by
   obtain⟨k',cs',h3,h4⟩:=hp p (j9 _ hp')
   have hne:i≠p.1:=fun he=>by
    have:=MI.1 ha.1 p.1 (List.mem_map_of_mem hp')
    rw [he] at this;simp at this
   exact⟨k',cs',by rw [YH hne];exact h3,h4⟩) ha.2
  simp only [rhL,h1]
  refine⟨?_,fun h=>ih.2 fun x hx=>?_⟩
  ·have h5:j7 w (L.map (kW B)) ((L.set i (.box k (ovw cs j [.h s n1]))).map (kW B)):=by
    rw [ML]
    exact j7.put (a:=SX B k cs) (b:=SX B k (ovw cs j [.h s n1])) i (by rw [HZ,h1];rfl) fun F ⟨b,z,vs,q1,q2,q3⟩=>⟨b,z,vs,q1,by rw [aEH (f:=bT) hc h2];exact q2,q3⟩
   have tr:∀{A B C:List Chunk},j7 w A B->j7 w B C->j7 w A C:=by
    intro A B C h1
    induction h1 generalizing C with
    | nil=>exact fun h=>h
    | cons h t ih=>intro h2;cases h2 with | cons h' t'=>exact .cons (fun F hF=>h' F (h F hF)) (ih t')
   exact tr h5 ih.1
  ·rcases pN hx with hx | hx
   ·exact h x hx
   ·subst hx;trivial
def atE(e:SE)(p:Nat×Nat):Option SV:=match F5 e p.1 with
 | some (.g cs)=>cs[p.2]?
 | some (.t cs)=>cs[p.2]?
 | _=>none
def atL(L:List Ch)(p:Nat×Nat):Option SV:=match L[p.1]? with
 | some (.box _ cs)=>cs[p.2]?
 | _=>none
theorem aR9{B:Bl}{a:Act}{w:World}(s:AC){n0 n1:Nat}(hn:n0=n1){ps qs:List (Nat×Nat)}(hp:bA (atE e) ps=some (ps.map fun _=>.h s n0))(hq:bA (atL L) qs=some (qs.map fun _=>.h s n0))(ha:dV (qs.map (·.1))=true)(hA:gZ n B e a)(hS:nJ c w B L):gZ n B (rhE (.h s n1) e ps) a/\nJ c w B (rhL (.h s n1) L qs):=by
 have key:∀{γ:Type} {f:γ->Option SV} {ps:List γ},bA f ps=some (ps.map fun _=>.h s n0)->∀p∈ps,f p=some (.h s n0):=by
  intro γ f ps
  induction ps with
  | nil=>intro _ p hp;cases hp
  | cons q ps ih =>
   intro h p hp
   simp only [bA,y8] at h
   split at h
   ·cases h
   ·rename_i h1
    split at h
    ·cases h
    ·rename_i h2
     cases h
     rcases fA.1 hp with hp | hp
     ·subst hp;exact h1
     ·exact ih h2 p hp
 refine⟨⟨hA.d,hA.size,fun k x hk=>?_⟩,?_⟩
 ·obtain⟨y,h1,h2⟩:=aXI hn (B:=B) (fun p hp'=>by
   have:=key hp p hp'
   unfold atE at this
   split at this
   ·rename_i cs hc;exact⟨cs,.inl hc,this⟩
   ·rename_i cs hc;exact⟨cs,.inr hc,this⟩
   ·cases this) hk
  obtain⟨v,h3,h4⟩:=hA.get k y h1
  exact⟨v,by rw [h2];exact h3,h4⟩
 ·obtain⟨⟨R,s1,s2⟩,s0⟩:=hS
  obtain⟨h1,h2⟩:=aR8 hn (B:=B) (w:=w) (R:=R) (L:=L) (fun p hp'=>by
   have:=key hq p hp'
   unfold atL at this
   split at this
   ·rename_i k cs hc;exact⟨k,cs,hc,this⟩
   ·cases this) ha
  exact⟨⟨R,s1.imp h1,h2 s2⟩,s0⟩
theorem Y1{g:Gx}{cf:yU}{v:SV}:∀{qs:List (Nat×Nat)} {L M:List Ch},Frz g cf L M->((qs.map (·.1)).all fun j=>hU j cf.B8)=true->Frz g cf L (rhL v M qs)
 | [],L,M,h,_=>h
 | (i, j) :: r, L, M, h, hz => by
  simp only [y8,S6,xB] at hz
  simp only [rhL]
  split
  ·exact Y1 (qs:=r) (aNO h hz.1) hz.2
  ·exact Y1 (qs:=r) h hz.2
theorem rh(s:AC){n0 n1:Nat}(hn:n0=n1)(ps qs:List (Nat×Nat))(hp:bA (atE e) ps=some (ps.map fun _=>.h s n0))(hq:bA (atL L) qs=some (qs.map fun _=>.h s n0))(ha:(dV (qs.map (·.1)) && (qs.map (·.1)).all fun j=>hU j cf.B8)=true)
  (k:G (.mk P T hT n c B0 N X Q) K m (rhE (.h s n1) e ps) (rhL (.h s n1) L qs) cf):G (.mk P T hT n c B0 N X Q) K m e L cf:=by
 rw [xB] at ha
 refine chg (fun _:Unit=>m) (fun _=>rhE (.h s n1) e ps) (fun _=>rhL (.h s n1) L qs) (fun B a w hm hA hS=>?_) (fun _=>Y1 (by simpa using A2 (L:=L) []) ha.2) (fun _=>k)
 obtain⟨h1,h2⟩:=aR9 s hn hp hq ha.1 hA hS
 exact⟨(),[],by simpa using hm,by simpa using h1,by simpa using h2⟩
theorem CX{Z:Act->World->Prop}(s:AC){n0 n1:Nat}(hn:n0=n1)(ps qs:List (Nat×Nat))(hp:bA (atE e) ps=some (ps.map fun _=>.h s n0))(hq:bA (atL L) qs=some (qs.map fun _=>.h s n0))(ha:dV (qs.map (·.1))=true)
  (kk:∀a w,rO n c B0 m (rhE (.h s n1) e ps) (rhL (.h s n1) L qs) a w->Z a w):∀a w,rO n c B0 m e L a w->Z a w:=by
 intro a w ⟨B,hm,hA,hS⟩
 obtain⟨h1,h2⟩:=aR9 s hn hp hq ha hA hS
 exact kk a w ⟨B,hm,h1,h2⟩
end
end Go.Gv
end
noncomputable section
namespace Go.Gv
noncomputable section
variable {P:Program} {T:TT} {hT:JE P T} {n:Nat} {c:Ctx} {B0:Bl} {N:Act->World->Prop} {X:Nat->Act->World->Prop} {Q:Act->World->Prop} {K K':List Fr} {m m':Nat} {e e':SE} {L L' Lv:List Ch} {cf cf' cf1 cf2:yU} {o:Oper} {d:Nat}
noncomputable section
variable {x:Operand} {t t2 el sz:Nat} {b1 b2 b3:Bool} {n1 n2 n3:Nat} {z1 z2 z3:List SV}
theorem qbo(p:Nat){s:AC}{l:List UInt8}(hs:opS (kV T n K cf m e L)=some (o,Lv,cf1,cf2,K',m',e',L'))(ho:(o.op,o.dst)=(.convert t t2 x,some d))(ht:C8 T t=some ⟨.sl el,b1,n1,z1⟩)(he:C8 T el=some ⟨.i .u8,b2,n2,z2⟩)(h2:C8 T t2=some ⟨.s,b3,n3,z3⟩)(hp:Lv[p]?=some (ow s l))(hx:jL e' x=some (.h s l.length))
  (kk:G (.mk P T hT n c B0 N X Q) K' m' ((d,.s l) :: e') L' cf2):G (.mk P T hT n c B0 N X Q) K m e L cf:=by
 refine pu hs (congrArg Prod.snd ho) (fun B a w hA hS=>⟨_,rfl,?_⟩) kk
 obtain⟨⟨R,s1,s2⟩,s0⟩:=hS
 have hr:=s1.aQ4 (cs:=[s.v l.length]) (d:=l) p (by simp [hp,kW])
 obtain⟨de,q1,q2⟩:=hT.und _ _ he
 exact a3N hr (JK ht hT) (by rw [q1];simp only at q2;rw [q2]) (a51 h2 hT) (congrArg Prod.fst ho) (hdB hA hx)
theorem a03{α:Type}[aK α](E:CO α){q:α}{y:E.ex}{ec:List Value}(h:bA (bT []) (E.cs q y)=some ec)(hL:E.Lx q y=[])(w:World):aK.rd F0 w ec q:=by
 have:=(E.pk h w F0).2 (by rw [hL];exact fun _ _ h=>h)
 exact aK.own_rd this
theorem lits{α:Type}[aK α](E:CO α)(y:E.ex){sz:Nat}{B:Bl}{a:Act}(hA:gZ n B e a)(hL:∀q,E.Lx q y=[]):∀{ps:List (Nat×Operand)} {qs:List α},bA (fun p=>(jL e p.2).map fun v=>nbL (qK v)) ps=some (qs.map fun q=>E.cs q y)->(qs.all fun q=>Nat.beq (E.cs q y).length sz && (bA (bT []) (E.cs q y)).isSome)=true ->
  ∃vs cells,evs (vE B e) (ps.map (·.2))=some vs/\vs.length=ps.length/\(vs.all fun v=>v.cells.size == sz)=true/\(vs.flatMap fun v=>v.cells.toList)=cells/\aJQ sz cells qs
 | [],[],_,_=>⟨[],[],rfl,rfl,rfl,rfl,rfl⟩
 | [],q :: qs,h,_=>by cases h
 | p :: ps, [], h, _ => by
  simp only [bA] at h
  split at h
  ·cases h
  ·split at h <;> cases h
 | p :: ps, q :: qs, h, hc => by
  simp only [bA,y8] at h
  split at h
  ·cases h
  ·rename_i c0 h1
   split at h
   ·cases h
   ·rename_i cs h2
    simp only [YO,List.cons.injEq] at h
    obtain⟨rfl,rfl⟩:=h
    simp only [S6,xB] at hc
    obtain⟨⟨hl,hsome⟩,hc⟩:=hc
    obtain⟨vs,cells,g1,g2,g3,g4,g5⟩:=lits E y hA hL h2 (by simpa using hc)
    obtain⟨ec,hec⟩:=aES.1 hsome
    cases hxv:jL e p.2 with
    | none=>rw [hxv] at h1;cases h1
    | some xv =>
     rw [hxv] at h1
     simp at h1
     obtain⟨v,v1,v2⟩:=fC hA hxv
     have hcell:bA (bT B) (qK xv)=some ec:=by
      rw [<-QA,h1];exact gA (fun x v h=>by simpa using iB (B:=[]) B h) hec
     have hvc:v.cells.toList=ec:=O4 v1 hcell
     have hecl:ec.length=sz:=by rw [mA hec];exact mR hl
     refine⟨v :: vs,ec++cells,by simp [evs,v2,g1],by simp [g2],?_,by simp [hvc,g4],?_,?_⟩
     ·rw [S6,g3,<-Array.length_toList,hvc,hecl];simp
     ·rw [YM (TB hecl.symm),<-hecl,OU]
      exact a03 E hec (hL q) _
     ·rw [List.drop_append_of_le_length (TB hecl.symm),<-hecl,List.drop_length,aBO,hecl]
      exact g5
theorem ltK{α:Type}[aK α][Flat α](E:CO α)(y:E.ex)(qs:List α){len:Nat}{ps:List (Nat×Operand)}{zv:Value}(hinf:XH P el sz zv)(hs:kV T n K cf m e L=.op o Lv cf1 cf2 K' m' e' L')(ho:(o.op,o.dst)=(.buildSlice t len ⟨ps⟩,some d))(ht:C8 T t=some ⟨.sl el,b1,n1,z1⟩)(hn:aK.n α=sz)(hl:qs.length=len)(hm:Nat.ble 1 sz=true)(hsm:Nat.ble (len * sz) 16777216=true)(hix:ps.map (·.1)=List.range' 0 len)(hev:bA (fun p=>(jL e' p.2).map fun v=>nbL (qK v)) ps=some (qs.map fun q=>E.cs q y))(hec:(qs.all fun q=>Nat.beq (E.cs q y).length sz && (bA (bT []) (E.cs q y)).isSome)=true)(hL:∀q,E.Lx q y=[])
  (k:∀s':AC,G (.mk P T hT n c B0 N X Q) K' m' ((d,.h s' qs.length) :: e') (L' ++ [ow s' qs]) cf2):G (.mk P T hT n c B0 N X Q) K m e L cf:=by
 refine aS7 (l:=qs) (fun s'=>L' ++ [ow s' qs]) hs (congrArg Prod.snd ho) (fun _=>A2 _) (fun B a w hA hS=>?_) k
 obtain⟨⟨R,s1,s2⟩,s0⟩:=hS
 obtain⟨vs,cells,g1,g2,g3,g4,g5⟩:=lits E y (sz:=sz) hA hL hev hec
 have hpl:ps.length=len:=by
  have:=congrArg List.length hix
  simpa using this
 obtain⟨v,w',k1,k2⟩:=aPE (e:=vE B e') (o:=o) (ps:=ps) (vs:=vs) (cells:=cells) qs s1 hn (JK ht hT) hinf hl hm hsm g5 (congrArg Prod.fst ho) g1 (aM3 hix (by rw [g2,hpl]) g3 g4)
 obtain⟨s',rfl⟩:=aAP (v:=v) (l:=qs) k2 (L'.map (kW B)).length (by simp)
 refine⟨s',w',k1,⟨⟨R,by simpa [kW] using k2,fun z hz=>?_⟩,s0⟩⟩
 rcases e9.1 hz with hz | hz
 ·exact s2 z hz
 ·simp at hz;subst hz;trivial
end
end
end Go.Gv
end
noncomputable section
namespace Go.Gv
theorem a39{P:Program}{f:FuncId}{κ:Ctx}{xs:List SV}{ρ:Type}{sv:ρ->SV}{r:ρ}(hcall:∀args w,(callFunc f args).run P w=.ok (.enter f args) w)
  (H:(∀f:Fact,f.P κ.S0 κ.w0->f.P (RR κ.w0) κ.w0)->∀vs,bA (gQ []) xs=some vs->Calls P f vs.toArray κ.w0 (Ret fun v w'=>gQ [] (sv r)=some v/\St (cL κ.w0) w' [] [])):Fn0 P f κ xs sv r:=
 ⟨hcall,fun vs hv hS=>Calls.mono (H (fun f hf=>f.mono hf fun b o hb=>hS.s0 b o hb) vs hv) fun en w' ⟨v,h1,h2,h3⟩=>⟨v,h1,(),h2,hS.aW0 h3.keep⟩⟩
noncomputable section
variable {P:Program} {T:TT} {hT:JE P T} {n:Nat} {c:Ctx} {B0:Bl} {N:Act->World->Prop} {X:Nat->Act->World->Prop} {Q:Act->World->Prop} {K K':List Fr} {m m':Nat} {e e':SE} {L L' Lv:List Ch} {cf cf' cf1 cf2:yU} {o:Oper} {d:Nat}
theorem un{α:Type}[aK α](j:Nat)(ks:List Nat)(ps qs:List (Nat×Nat)){s:AC}{n0:Nat}{l:List α}(hj:L[j]?=some (.o (gI [s.v n0] l)))(hz:hU j cf.B8=true)(hk:bA (F5 e) ks=some (ks.map fun _=>.h s n0))(hp:bA (atE (ovh (.h s l.length) e ks)) ps=some (ps.map fun _=>.h s n0))(hq:bA (atL (L.set j (ow s l))) qs=some (qs.map fun _=>.h s n0))(ha:(dV (qs.map (·.1)) && (qs.map (·.1)).all fun j=>hU j cf.B8)=true)
  (k:l.length=n0->G (.mk P T hT n c B0 N X Q) K m (rhE (.h s l.length) (ovh (.h s l.length) e ks) ps) (rhL (.h s l.length) (L.set j (ow s l)) qs) cf):G (.mk P T hT n c B0 N X Q) K m e L cf:=by
 rw [xB] at ha
 refine chg (fun _:PLift (l.length=n0)=>m) (fun _=>rhE (.h s l.length) (ovh (.h s l.length) e ks) ps) (fun _=>rhL (.h s l.length) (L.set j (ow s l)) qs) (fun B a w hm hA hS=>?_) (fun _=>Y1 (DF hz) ha.2) (fun h=>k h.down)
 have hn:l.length=n0:=by
  obtain⟨⟨R,s1,s2⟩,s0⟩:=hS
  obtain⟨F,hF⟩:=s1.chunk (ch:=gI [s.v n0] l) j (by simp [hj,kW])
  obtain⟨ad,cp,h1,h2⟩:=KS (show aK.own w [s.v n0] l F from hF)
  simp only [AC.v,Value.slice.injEq] at h1
  exact h1.2.1.symm
 subst hn
 have hS':nJ c w B (L.set j (ow s l)):=by
  have:L.set j (ow s l)=L:=by
   obtain⟨hl,he⟩:=kP.1 hj
   show L.set j (.o (gI [s.v l.length] l))=L
   rw [<-he];exact aER hl
  rw [this];exact hS
 obtain⟨h1,h2⟩:=aR9 s rfl hp hq ha.1 (aK8 ks hk hA) hS'
 exact⟨⟨rfl⟩,[],by simpa using hm,by simpa using h1,by simpa using h2⟩
theorem rr(s:AC){n0 n1:Nat}(hn:n0=n1)(ks:List Nat)(ps qs:List (Nat×Nat))(hk:bA (F5 e) ks=some (ks.map fun _=>.h s n0))(hp:bA (atE (ovh (.h s n1) e ks)) ps=some (ps.map fun _=>.h s n0))(hq:bA (atL L) qs=some (qs.map fun _=>.h s n0))(ha:(dV (qs.map (·.1)) && (qs.map (·.1)).all fun j=>hU j cf.B8)=true)
  (k:G (.mk P T hT n c B0 N X Q) K m (rhE (.h s n1) (ovh (.h s n1) e ks) ps) (rhL (.h s n1) L qs) cf):G (.mk P T hT n c B0 N X Q) K m e L cf:=by
 rw [xB] at ha
 subst hn
 refine chg (fun _:Unit=>m) (fun _=>rhE (.h s n0) (ovh (.h s n0) e ks) ps) (fun _=>rhL (.h s n0) L qs) (fun B a w hm hA hS=>?_) (fun _=>Y1 (by simpa using A2 (L:=L) []) ha.2) (fun _=>k)
 obtain⟨h1,h2⟩:=aR9 s rfl hp hq ha.1 (aK8 ks hk hA) hS
 exact⟨(),[],by simpa using hm,by simpa using h1,by simpa using h2⟩
theorem cpy{d:Option Nat}{x y:Operand}{t t2 el sz:Nat}{α:Type}[aK α][Flat α]{s s2:AC}{l xs:List α}{b1 b2:Bool}{n1:Nat}{z1 z2:List SV}{kt:TK}(p a:Nat)(hb:a<=l.length/\l.length<=l.length)(hsrc:∀{w},HS c w L'->bB (cL w) s2 xs)(hs:kV T n K cf m e L=.op o Lv cf1 cf2 K' m' e' L')(ho:(o.op,o.dst)=(.call {callee:=.builtin .copy,args:=#[x,y],argTypes:=#[t,t2]},d))(ht:C8 T t=some ⟨.sl el,b1,n1,z1⟩)(he:C8 T el=some ⟨kt,b2,sz,z2⟩)(hn:aK.n α=sz)(hp:(L'[p]?,hU p cf1.B8)=(some (ow s l),true))(hx:jL e' x=some (.h (s.sub sz a) ((l.take l.length).drop a).length))(hy:jL e' y=some (.h s2 xs.length))
  (k:G (.mk P T hT n c B0 N X Q) K' m' (dse d (.i .i64 ((min xs.length (l.length - a):Nat):Int)) e') (L'.set p (ow s (dF l a xs))) cf2):G (.mk P T hT n c B0 N X Q) K m e L cf:=by
 have hp1:L'[p]?=some (ow s l):=congrArg Prod.fst hp
 have hz:hU p cf1.B8=true:=congrArg Prod.snd hp
 have hlen:(dF l a xs).length=l.length:=fE hb.1
 refine iG (g:=.mk P T hT n c B0 N X Q) ?_
 rw [hs]
 intro hdn _ hE
 refine hE Unit (fun _=>m') (fun _=>dse d (.i .i64 ((min xs.length (l.length - a):Nat):Int)) e') (fun _=>L'.set p (ow s (dF l a xs))) (fun _=>DF hz) (fun B act w next Q' hm hA hS hnext=>?_) (fun _=>k)
 have hr:bB (cL w) s2 xs:=hsrc ⟨_,hS⟩
 obtain⟨⟨R,s1,s2'⟩,s0⟩:=hS
 have hx2:ev (vE (YC (.mk P T hT n c B0 N X Q) cf1++B) e') x=some (iM sz a l.length (s.v l.length)):=by rw [hdB hA hx,JF hb.1 hb.2]
 have hop:o.op=.call {callee:=.builtin .copy,args:=#[x,y],argTypes:=#[t,t2]}:=congrArg Prod.fst ho
 have hd:o.dst=d:=congrArg Prod.snd ho
 obtain⟨v,w',k1,rfl,k2⟩:=aRE p s1 (by rw [HZ,hp1];rfl) hr hn hb.1 (JK ht hT) (hT.size _ _ he) hop hx2 (hdB hA hy)
 unfold Oper.wp
 rw [k1 _ act hA.env,Oper.upon_value,hd]
 have hS2:nJ c w' (YC (.mk P T hT n c B0 N X Q) cf1++B) (L'.set p (ow s (dF l a xs))):=by
  refine⟨⟨R,?_,fun z hz=>?_⟩,s0⟩
  ·rw [ML]
   show St c w' ((L'.map _).set p (gI [s.v (dF l a xs).length] _)) R
   rw [hlen];exact k2
  ·rcases pN hz with hz | hz
   ·exact s2' z hz
   ·subst hz;trivial
 cases d with
 | none=>exact hnext () _ _ ⟨[],by simpa using hm,by simpa [Act.put,dse] using hA,by simpa using hS2⟩
 | some d=>exact hnext () _ _ ⟨[],by simpa using hm,by simpa [dse] using hA.of (by simp [gQ,gV,bT]) (hA.env.put (by rw [hd] at hdn;simpa [sY,pO] using hdn) _),by simpa using hS2⟩
theorem cp0{d:Option Nat}{x y:Operand}{t t2 el sz:Nat}{α:Type}[aK α][Flat α]{s s2:AC}{l xs:List α}{b1 b2:Bool}{n1:Nat}{z1 z2:List SV}{kt:TK}(p:Nat)(hsrc:∀{w},HS c w L'->bB (cL w) s2 xs)(hs:kV T n K cf m e L=.op o Lv cf1 cf2 K' m' e' L')(ho:(o.op,o.dst)=(.call {callee:=.builtin .copy,args:=#[x,y],argTypes:=#[t,t2]},d))(ht:C8 T t=some ⟨.sl el,b1,n1,z1⟩)(he:C8 T el=some ⟨kt,b2,sz,z2⟩)(hn:aK.n α=sz)(hp:(L'[p]?,hU p cf1.B8)=(some (ow s l),true))(hx:jL e' x=some (.h s l.length))(hy:jL e' y=some (.h s2 xs.length))
  (k:G (.mk P T hT n c B0 N X Q) K' m' (dse d (.i .i64 ((min xs.length (l.length - 0):Nat):Int)) e') (L'.set p (ow s (dF l 0 xs))) cf2):G (.mk P T hT n c B0 N X Q) K m e L cf:=by
 have hp1:L'[p]?=some (ow s l):=congrArg Prod.fst hp
 have hz:hU p cf1.B8=true:=congrArg Prod.snd hp
 have hlen:(dF l 0 xs).length=l.length:=fE (sW _)
 refine iG (g:=.mk P T hT n c B0 N X Q) ?_
 rw [hs]
 intro hdn _ hE
 refine hE Unit (fun _=>m') (fun _=>dse d (.i .i64 ((min xs.length (l.length - 0):Nat):Int)) e') (fun _=>L'.set p (ow s (dF l 0 xs))) (fun _=>DF hz) (fun B act w next Q' hm hA hS hnext=>?_) (fun _=>k)
 have hr:bB (cL w) s2 xs:=hsrc ⟨_,hS⟩
 obtain⟨⟨R,s1,s2'⟩,s0⟩:=hS
 have hop:o.op=.call {callee:=.builtin .copy,args:=#[x,y],argTypes:=#[t,t2]}:=congrArg Prod.fst ho
 have hd:o.dst=d:=congrArg Prod.snd ho
 obtain⟨v,w',k1,rfl,k2⟩:=aV4 p s1 (by rw [HZ,hp1];rfl) hr hn (JK ht hT) (hT.size _ _ he) hop (hdB hA hx) (hdB hA hy)
 unfold Oper.wp
 rw [k1 _ act hA.env,Oper.upon_value,hd]
 have hS2:nJ c w' (YC (.mk P T hT n c B0 N X Q) cf1++B) (L'.set p (ow s (dF l 0 xs))):=by
  refine⟨⟨R,?_,fun z hz=>?_⟩,s0⟩
  ·rw [ML]
   show St c w' ((L'.map _).set p (gI [s.v (dF l 0 xs).length] _)) R
   rw [hlen];exact k2
  ·rcases pN hz with hz | hz
   ·exact s2' z hz
   ·subst hz;trivial
 cases d with
 | none=>exact hnext () _ _ ⟨[],by simpa using hm,by simpa [Act.put,dse] using hA,by simpa using hS2⟩
 | some d=>exact hnext () _ _ ⟨[],by simpa using hm,by simpa [dse] using hA.of (by simp [gQ,gV,bT]) (hA.env.put (by rw [hd] at hdn;simpa [sY,pO] using hdn) _),by simpa using hS2⟩
theorem fR{Z:Act->World->Prop}{e1:SE}{L1:List Ch}(h1:aWB e=some e1)(h2:aWC L=some L1)(kk:∀a w,rO n c B0 m e1 L1 a w->Z a w):∀a w,rO n c B0 m e L a w->Z a w:=by
 have:=aK3 h1
 have:=aK4 h2
 subst e1;subst L1
 exact kk
end
end Go.Gv
end
noncomputable section
namespace Go.Gv
noncomputable section
variable {B B':Bl} {i j:Nat}
end
noncomputable section
variable {n:Nat} {c:Ctx} {B0:Bl} {m:Nat} {e:SE} {L:List Ch}
theorem pnR{Z:Act->World->Prop}{α:Type}[aK α](j:Nat){s:AC}{l:List α}{n0:Nat}(hl:l.length=n0)(hj:L[j]?=some (ow s l))
  (kk:∀a w,rO n c B0 m e (L.set j (.o (gI [s.v n0] l))) a w->Z a w):∀a w,rO n c B0 m e L a w->Z a w:=by
 subst hl
 have:L.set j (.o (gI [s.v l.length] l))=L:=by
  obtain⟨h1,h2⟩:=kP.1 hj
  rw [<-show L[j]=.o (gI [s.v l.length] l) from h2];exact aER h1
 rw [this] at kk
 exact kk
end
end Go.Gv
end
