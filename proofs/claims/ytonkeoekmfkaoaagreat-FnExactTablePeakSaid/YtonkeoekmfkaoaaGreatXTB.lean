import Derived.Test.YtonkeoekmfkaoaaGreatXTA
set_option linter.unusedVariables false
set_option linter.unusedSimpArgs false
set_option linter.unusedSectionVars false
set_option linter.constructorNameAsVariable false
set_option linter.unnecessarySimpa false
noncomputable section
namespace Go.Gv
variable{t:TypeId}
section
variable {P:Program} {T:TT} {n:Nat} {B:Bl} {e:SE} {a:Act} {o:Oper} {w w':World} {x y:Operand} {c:Ctx} {L:List Ch}
theorem XQ{ops:Array Oper}(h:BD ops e o.guard=.yes):Want ops o (vE B e) true:=by
 unfold BD at h;split at h
 ·exact aW9 (by assumption)
 ·rename_i j w hg;split at h
  ·rename_i q hq;split at h
   ·rename_i s hs;have hj:(ops[j]?).bind (·.dst)=some s:=by rw[<-Array.getElem?_toList,hq];exact hs
    split at h
    ·rename_i c hl;have hv:lk (vE B e) s=some (.bool c):=by rw[aFK hl];rfl
     refine aS4 hg hj hv ?_;split at h<;>first|rfl|cases h
    all_goals cases h
   ·cases h
  ·cases h
theorem a4T{ops:Array Oper}(h:BD ops e o.guard=.no):Want ops o (vE B e) false:=by
 unfold BD at h;split at h
 ·cases h
 ·rename_i j w hg;split at h
  ·rename_i q hq;split at h
   ·rename_i s hs;have hj:(ops[j]?).bind (·.dst)=some s:=by rw[<-Array.getElem?_toList,hq];exact hs
    split at h
    ·rename_i c hl;have hv:lk (vE B e) s=some (.bool c):=by rw[aFK hl];rfl
     refine aS4 hg hj hv ?_;cases c<;>cases w<;>first|rfl|cases h
    ·rename_i hl;exact a16 hg hj (by rw[aFK hl];rfl)
    all_goals cases h
   ·cases h
  ·cases h
theorem aFO{m:Nat}:∀{L:List Ch},OY m L=true->∃i cs,L[i]?=some (.box m cs)/\FC m L=some cs/\∀cs',rM m cs' L=L.set i (.box m cs')
 |[],h=>by cases h
 |x::L,h=>by
  have ih:OY m L=true->FC m (x::L)=FC m L->(∀cs',rM m cs' (x::L)=x::rM m cs' L)->∃i cs,(x::L)[i]?=some (.box m cs)/\FC m (x::L)=some cs/\∀cs',rM m cs' (x::L)=(x::L).set i (.box m cs'):=λh h2 h3=>by obtain⟨i,cs,g1,g2,g3⟩:=aFO h;exact⟨i+1,cs,aj,by rw[h2,g2],λcs'=>aj⟩
  cases x with
  |box k cs=>
   simp only[OY] at h;split at h
   ·rename_i hb;have:=nS hb;subst this;exact⟨0,cs,rfl,by grind[FC],λcs'=>by grind[rM]⟩
   grind[FC,rM]
  |ro k cs=>
   grind[OY,FC,rM]
  |o ch=>exact ih h rfl (λ_=>rfl)
  |f g=>exact ih h rfl (λ_=>rfl)
  |no=>exact ih h rfl (λ_=>rfl)
  |w k b z=>exact ih h rfl (λ_=>rfl)
theorem aK3(hT:CR P T)(hA:gA n B e a)(hS:kY c w B L){p v:SV}{L':List Ch}(ho:o.op=.store t x y)(hx:gY e x=some p)(hy:gY e y=some v)(h:P7 T t p v L=some L'):∃w',a8C P o (vE B e) w w'/\kY c w' B L':=by
 unfold P7 at h;split at h
 ·rename_i m j;split at h
  ·rename_i hb;split at h
   ·rename_i cs _ _ sz _ h1 h2;split at h
    ·rename_i h3 h4 h5;split at h
     case h_2=>cases h
     rename_i ds hds;have h4:=nS h4;have h5:=RQ h5;have:=P8 hds;rw[aFL _ _ _ aa] at this;subst this;split at h
     case h_2=>cases h
     rename_i L2 hL2;cases h;have:=P8 hL2;subst this;obtain⟨i,cs',g1,g2,g3⟩:=aFO hb;rw[h1] at g2;cases g2;obtain⟨pv,hp1,hp2⟩:=dZ hA hx;obtain⟨u,hu1,hu2⟩:=dZ hA hy;obtain⟨vs,hv⟩:=XP h3 hu1;obtain⟨b,z,rs,k1,k2,_⟩:=hS.cells h1;simp only[fA,gV,bQ,k1] at hp1;cases hp1;have hl:=k9 hv;have hl2:=k9 k2;obtain⟨⟨R,s1,s2⟩,s0⟩:=hS;have hlt:=(FB.1 g1).1;have gi:(L.map (jO B))[i]?=some (YL B m cs):=by rw[yF,g1];rfl
     have s3:St c w ((L.map (jO B)).set i (TB b z rs)) R:=s1.imp (iV.put i gi λF ⟨b',z',vs',q1,q2,q3⟩=>by
      grind)
     obtain⟨w2,r1,r2⟩:=a8E (P:=P) (o:=o) (e:=vE B e) (b:=b) (q:=z) (cs:=rs) (vs:=vs) (j:=j) (m:=sz) s3 (i:=i) aj ho hp2 hu2 (O0 hu1 hv) (hT.size _ _ h2) aa (Nat.ble_eq_true_of_le aa) (aI3.2 λq hq=>by
      obtain⟨k,hk⟩:=aBW hq;have hk2:k<(mZ v).length:=aj
      obtain⟨q',hq1,hq2⟩:=TY hv (kG hk2);grind[aFJ])
     refine⟨w2,r1,⟨⟨R,?_,?_⟩,s0⟩⟩
     ·rw[aKW] at r2;rw[g3,G9];exact r2.imp (iV.set i (iV.refl _) λF hF=>⟨b,z,_,k1,YK j k2 hv,hF⟩)
     ·rw[g3];intro q hq;rcases rB hq with hq|hq
      ·grind
      ·subst hq;trivial
    ·cases h
   ·cases h
  ·cases h
 ·cases h
theorem kY.box(hS:kY c w B L){w':World}{b:Nat}{cs:List SV}{vs:List Value}(hc:aV (bQ B) cs=some vs)(h:∀M R,St c w M R->St c w' (M++[a15 b vs]) R):kY c w' (B++[(b,0)]) (L++[.box B.length cs]):=by
 obtain⟨⟨R,s1,s2⟩,s0⟩:=hS;refine⟨⟨R,?_,?_⟩,s0⟩
 ·rw[BX];refine(h _ _ s1).imp (iV.append (VR _ L) (.cons (λF hF=>⟨b,0,vs,ae,eP (λ_ _=>fU _) hc,hF⟩) .nil))
 ·intro q hq;rcases iX.1 hq with hq|hq
  ·grind[aL7]
  ·simp at hq;subst hq;trivial
theorem aYO(hT:CR P T)(hS:kY c w B L){i:TI}{E:Env}(ho:o.op=.alloc t)(h:wU T t=some i):∃v w' b,eN P o E w v w'/\v=.pointer (some ⟨b,0,none⟩)/\kY c w' (B++[(b,0)]) (L++[.box B.length i.z]):=by obtain⟨z,hz,hzc⟩:=hT.zero _ _ h;have hzc':aV (bQ B) i.z=some z.cells.toList:=eP (λx v h=>by simpa using fU (B:=[]) B h) hzc;refine⟨_,_,w.heap.size,λ_ a hA=>?_,rfl,hS.box hzc' λM R hM=>hM.alloc z.cells.toList t⟩;simp_all[execOp,Instr.alloc,newVar,newRow]
theorem a6G(hA:gA n B e a)(hS:kY c w B L){v:SV}(ho:o.op=.box t x)(h:gY e x=some v)(hc:isCells v=true):∃u w' b,eN P o (vE B e) w u w'/\u=.pointer (some ⟨b,0,none⟩)/\kY c w' (B++[(b,0)]) (L++[.box B.length (mZ v)]):=by obtain⟨u,h1,h2⟩:=dZ hA h;obtain⟨vs,h3⟩:=XP hc h1;have h4:=O0 h1 h3;subst h4;refine⟨_,_,w.heap.size,λ_ a hA=>?_,rfl,hS.box h3 λM R hM=>hM.alloc u.cells.toList t⟩;simp[execOp,ho,Instr.box,hA.eval h2,newVar,newRow]
end
structure Gx where
 P:Program
 T:TT
 hT:CR P T
 n:Nat
 c:Ctx
 B0:Bl
 N:Act->World->Prop
 X:Nat->Act->World->Prop
 Q:Act->World->Prop
abbrev Rel(g:Gx)(m:Nat)(e:SE)(L:List Ch)(a:Act)(w:World):Prop:=oV g.n g.c g.B0 m e L a w
mutual
def NK(g:Gx):List Fr->Act->World->Prop
 |[]=>g.N
 |.s y::K=>λa w=>CW g.P y (NK g K) (XK g K) g.Q a w
 |.k _::K=>NK g K
def XK(g:Gx):List Fr->Nat->Act->World->Prop
 |[]=>g.X
 |.s _::K=>XK g K
 |.k id::K=>aKX id (NK g K) (XK g K)
end
structure aAM (g:Gx) (B1:Bl) (ops:Array Oper) (l:List Bool) (is:List Nat) (Lf L:List Ch):Prop where
 pre:∃B,B1=g.B0++B
 len:l.length=ops.size
 free:aOE ops=true
 vA:kl L is=Lf
 rng:∀j∈is,j<L.length
 okf:okL B1.length Lf=true
 ap:cX is=true
abbrev Sd(g:Gx)(B1:Bl)(Lf:List Ch):World->Prop:=λw=>kY g.c w B1 Lf
def a8J(g:Gx)(B1:Bl)(Lf Lv:List Ch)(m:Nat)(e:SE)(L:List Ch)(a:Act)(w:World):Prop:=∃B,(B1++B).length=m/\gA g.n (B1++B) e a/\kY g.c w (B1++B) L/\∀w',kY g.c w' B1 Lf->kY g.c w' (B1++B) Lv
def G(g:Gx)(K:List Fr)(m:Nat)(e:SE)(L:List Ch):rL->Prop
 |.n=>∀a w,Rel g m e L a w->NK g K a w
 |.c x=>∀a w,Rel g m e L a w->CW g.P x (NK g K) (XK g K) g.Q a w
 |.r ops l=>∀a w,Rel g m e L a w->wpList g.P ops (mkQ (NK g K) (XK g K) g.Q) l a w
 |.d B1 ops l is Lf Lv=>aAM g B1 ops l is Lf L->∀a w,a8J g B1 Lf Lv m e L a w->wpAnyH g.P .any ops (mkQ (NK g K) (XK g K) g.Q) (Sd g B1 Lf) (l.count false) l.toArray a w
 |.o B1 ops l is Lf Lv i=>aAM g B1 ops l is Lf L->∀a w,a8J g B1 Lf Lv m e L a w->wpOp g.P ops (mkQ (NK g K) (XK g K) g.Q) i (λa' w'=>Sd g B1 Lf w'/\wpAnyH g.P .any ops (mkQ (NK g K) (XK g K) g.Q) (Sd g B1 Lf) ((l.set i true).count false) (l.set i true).toArray a' w') a w
def WQ(g:Gx):rL->Bl
 |.d B1 _ _ _ _ _=>B1
 |.o B1 _ _ _ _ _ _=>B1
 |_=>g.B0
def Frz(g:Gx)(cf:rL)(L L':List Ch):Prop:=match cf with
 |.d B1 ops l is Lf _=>aAM g B1 ops l is Lf L->kl L' is=Lf/\∀j∈is,j<L'.length
 |.o B1 ops l is Lf _ _=>aAM g B1 ops l is Lf L->kl L' is=Lf/\∀j∈is,j<L'.length
 |_=>True
def YP(g:Gx)(K:List Fr)(m:Nat)(e:SE)(L:List Ch)(o:Oper)(Lv:List Ch)(cf cf':rL):Prop:=
 ∀(d:Nat) (x:SV) (Ln:List Ch) (nb:World->Bl) (k:Nat),o.dst=some d->(∀w,(nb w).length=k) ->
  (∀B a w,gA g.n B e a->kY g.c w B Lv->B.length=m->∃v,fA (B++nb g.c.w0) x=some v/\eN g.P o (vE B e) w v w) ->
  (∀B w L,B.length=m->kY g.c w B L->kY g.c w (B++nb g.c.w0) (L++Ln)) ->
  G g K (m+k) ((d,x)::e) (L++Ln) (cf'.ext Ln)->G g K m e L cf
def aB5(g:Gx)(K:List Fr)(m:Nat)(e:SE)(L:List Ch)(o:Oper)(cf cf':rL):Prop:=
 ∀(ι:Type) (m':ι->Nat) (e':ι->SE) (L':ι->List Ch),(∀i,Frz g cf L (L' i)) ->
  (∀B a w (next:Act->World->Prop) (Q:Exit->Act->World->Prop),(WQ g cf++B).length=m->gA g.n (WQ g cf++B) e a->kY g.c w (WQ g cf++B) L->(∀i a' w',oV g.n g.c (WQ g cf++B) (m' i) (e' i) (L' i) a' w'->next a' w')->o.wp g.P a w next Q) ->
  (∀i,G g K (m' i) (e' i) (L' i) cf')->G g K m e L cf
def Gs(g:Gx):Stop->Prop
 |.ret m e L=>∀a w,Rel g m e L a w->g.Q a w
 |.fin m e L=>∀a w,Rel g m e L a w->g.N a w
 |.ex id m e L=>∀a w,Rel g m e L a w->g.X id a w
 |.cond o b x y K m e L=>gY e o=some (.b b)->G g K m e L (.c (.cond o x y))
 |.case _ cf K m e L=>G g K m e L cf
 |.loop id y K m e L=>G g K m e L (.c (.block id (.loop y)))
 |.idx o d t s n i Lv cf cf' K m e L=>(∀x y,o.op=.indexAddr t x y->o.dst=some d->gY e x=some (.h s n)->gY e y=some (.i .i64 i)->YP g K m e L o Lv cf cf'->G g K m e L cf)
 |.call o d f xs cf cf' K m e L=>(∀fo args ats,o.op=.call {callee:=.value fo,args:=args,argTypes:=ats}->o.dst=d->gY e fo=some (.f f [])->(∃ys,aV (gY e) args.toList=some ys/\nbA ys=xs)->okA xs=true->pQ g.n d=true->aB5 g K m e L o cf cf'->G g K m e L cf)
 |.callp o d f xs cf cf' K m e L=>(∀fo args ats,o.op=.call {callee:=.value fo,args:=args,argTypes:=ats}->o.dst=d->gY e fo=some (.f f [])->(∃ys,aV (gY e) args.toList=some ys/\nbA ys=xs)->pQ g.n d=true->aB5 g K m e L o cf cf'->G g K m e L cf)
 |.op o Lv cf cf' K m e L=>pQ g.n o.dst=true->YP g K m e L o Lv cf cf'->aB5 g K m e L o cf cf'->G g K m e L cf
 |.opp o Lv cf cf' K m e L=>pQ g.n o.dst=true->YP g K m e L o Lv cf cf'->G g K m e L cf
 |.rgn id ops K m e L=>G g K m e L (.c (.region id ops true))
 |.alt cf K m e L=>G g K m e L cf
 |.stuck=>False
section
variable {g:Gx} {K:List Fr} {m:Nat} {e:SE} {L:List Ch}
theorem a4U{a:Act}{w:World}:∀{K:List Fr},(match pop K with|some (y,K')=>CW g.P y (NK g K') (XK g K') g.Q a w|none=>g.N a w)->NK g K a w
 |[],h=>by simpa[pop,NK] using h
 |.s y::K,h=>by simpa[pop,NK] using h
 |.k _::K,h=>by have:NK g K a w:=a4U (by grind[pop]);simp_all[NK]
theorem aYP{a:Act}{w:World}{id:Nat}:∀{K:List Fr},(match xit id K with|some K'=>NK g K' a w|none=>g.X id a w)->XK g K id a w
 |[],h=>by simpa[xit,XK] using h
 |.s y::K,h=>by have:XK g K id a w:=aYP (by grind[xit]);simp_all[XK]
 |.k j::K,h=>by
  simp only[xit] at h;simp only[XK,aKX];cases hb:Nat.beq id j with
  |true=>
   simp_all
  |false=>
   rw[hb] at h;rw[aN (λe=>by simp_all)];exact aYP h
theorem aTP{F:Nat}(ih:∀K c m e L,Gs g (YJ g.T g.n F K c m e L)->G g K m e L c)(h:Gs g (match pop K with|some (y,K')=>YJ g.T g.n F K' (.c y) m e L|none=>.fin m e L)):∀a w,Rel g m e L a w->NK g K a w:=λa w hr=>by
 refine a4U ?_;split
 ·rename_i y K' hp;rw[hp] at h;exact ih _ _ _ _ _ h a w hr
 ·rename_i hp;rw[hp] at h;exact h a w hr
theorem gA.ext{n:Nat}{B nb:Bl}{a a':Act}{d:Nat}{x:SV}{v:Value}(hA:gA n B e a)(hx:fA (B++nb) x=some v)(hA':I5 n ((d,v)::vE B e) a'):gA n (B++nb) ((d,x)::e) a':=by
 refine(hA.app nb).of hx ⟨hA'.d,hA'.size,λk u hk=>?_⟩;simp only[lk] at hk;cases hb:Nat.beq k d with
 |true=>rw[hb] at hk;exact hA'.get k u (by grind[lk])
 |false=>
  rw[hb] at hk;obtain⟨y,h2,h3⟩:=aYF hk;obtain⟨u2,h4,h5⟩:=hA.get k y h2;rw[uK nb h4] at h3;refine hA'.get k u ?_;grind[lk,aFK]
theorem a2U{ops:Array Oper}{l:List Oper}{o:Oper}(hg:BD ops e o.guard=.yes)(hd:pQ g.n o.dst=true):YP g K m e L o L (.r ops (o::l)) (.r ops l):=by
 intro d x Ln nb k hdst hk hv hs hG a w ⟨B,hm,hA,hS⟩;obtain⟨v,h1,h2⟩:=hv _ a w hA hS hm;rw[hdst] at hd;refine a4M h2 (XQ hg) hdst hd (λa' hA'=>hG a' w ⟨B++nb g.c.w0,?_,?_,?_⟩) a hA.env
 ·grind
 ·rw[<-I3];exact hA.ext h1 hA'
 grind
theorem aTQ{ops:Array Oper}{l:List Oper}{o:Oper}(hg:BD ops e o.guard=.yes):aB5 g K m e L o (.r ops (o::l)) (.r ops l):=by intro ι m' e' L' _ hrun hG a w hr;have ⟨B,hm,hA,hS⟩:=hr;refine wpList_step λK' hK=>?_;rw[XQ hg _ a hA.env,aL rfl];exact hrun B a w K' _ hm hA hS (λi a' w' ⟨B',h1,h2,h3⟩=>hK a' w' (hG i a' w' ⟨B++B',by rw[<-I3];exact h1,by rw[<-I3];exact h2,by rw[<-I3];exact h3⟩))
theorem aAM.S{B1:Bl}{ops:Array Oper}{l:List Bool}{is:List Nat}{Lf:List Ch}(h:aAM g B1 ops l is Lf L){w:World}{B:Bl}(hS:kY g.c w (B1++B) L):kY g.c w B1 Lf:=by have h1:=aYN hS is h.ap;rw[h.vA] at h1;have h2:=YO h1 h.okf;grind
theorem aAN{d:Edge}:Region.binds .any d=aYB d.ground:=by
 cases d with
 |mk on g=>cases g<;>rfl
theorem aER{l:List Bool}:∀{es:List Edge},NQ l es=true↔∀d∈es,Region.binds .any d=true->l[d.on]?=some true
 |[]=>by simp[NQ]
 |⟨on,gr⟩::r=>by
  have ih:=aER (l:=l) (es:=r);simp only[NQ,uI,forall_eq_or_imp,aAN];cases hb:aYB gr with
  |true=>
   simp only;split
   ·rename_i h1;rw[ih];simp[h1,aAN]
   ·rename_i h1;constructor
    ·intro h;cases h
    ·intro h;exact absurd (h.1 trivial) (by simpa using h1)
  |false=>grind[aAN]
theorem VT{ops:Array Oper}{l:List Bool}(hl:l.length=ops.size){j:Nat}:j∈Region.ready .any ops l.toArray↔l[j]?=some false/\∃o,ops.toList[j]?=some o/\NQ l o.after.toList=true:=by
 rw[mem_ready];have h1:(l.toArray.getD j true=false)↔l[j]?=some false:=by rw[Array.getD_eq_getD_getElem?,List.getElem?_toArray];grind
 rw[h1];refine and_congr_right λ_=>?_;constructor
 ·rintro⟨o,h2,h3⟩;refine⟨o,aj,aER.2 λd hd hb=>?_⟩;have:=h3 d aj hb;rw[Array.getD_eq_getD_getElem?,List.getElem?_toArray] at this;grind
 simp_all[aER]
theorem aAO{i:Nat}:∀{es:List Edge},XO i es=true↔∃d∈es,Region.binds .any d=true/\d.on=i
 |[]=>by simp[XO]
 |⟨on,gr⟩::r=>by
  have ih:=aAO (i:=i) (es:=r);simp only[XO,uI,exists_eq_or_imp,aAN];cases hb:aYB gr with
  |true=>
   simp only;cases hi:Nat.beq on i with
   |true=>simp_all
   |false=>
    simp only;have hne:on≠i:=λh=>by simp_all
    grind[aAN]
  |false=>grind[aAN]
theorem a2V{ops:Array Oper}{l:List Bool}(hl:l.length=ops.size)(hf:aOE ops=true){i:Nat}{o:Oper}(ho:ops.toList[i]?=some o)(hr:NQ l o.after.toList=true):Region.noSelect ops=true/\Region.free .any ops l.toArray i=true:=by
 unfold aOE at hf;rw[CL,aI3] at hf;refine⟨hf.1,?_⟩;unfold Region.free;have hoi:ops[i]?=some o:=aj
 rw[hoi];simp only[aI3,List.mem_range];intro j hj;have hoj:ops[j]?=some ops[j]:=by simp[hj]
 rw[hoj];simp only[Bool.or_eq_true,beq_iff_eq];by_cases hji:j=i
 ·omega
 ·have h1:=hf.2 (o,i) (List.mk_mem_zipIdx_iff_getElem?.2 ho);rw[aI3] at h1;have h2:=h1 (ops[j],j) (List.mk_mem_zipIdx_iff_getElem?.2 (by simp[hj]));simp only[Bool.or_eq_true] at h2;rcases h2 with ((h2|h2)|h2)|h2
  ·simp_all
  ·obtain⟨d,hd,hb,he⟩:=aAO.1 h2;refine .inr (.inl ?_);rw[<-Array.any_toList,List.any_eq_true];grind
  ·obtain⟨d,hd,hb,he⟩:=aAO.1 h2;have:=aER.1 hr d hd hb;simp_all
  grind
theorem count_set{l:List Bool}:∀{i:Nat},l[i]?=some false->l.count false=(l.set i true).count false+1:=aj
theorem aQ0{B1:Bl}{ops:Array Oper}{l:List Bool}{is:List Nat}{Lf:List Ch}{i:Nat}{o:Oper}{d:Nat}{v:Value}{a:Act}{w:World}{B:Bl}(hD:aAM g B1 ops l is Lf L)(ho:ops.toList[i]?=some o)(hl:l[i]?=some false)(hr:NQ l o.after.toList=true)(hdst:o.dst=some d)(hdn:Nat.blt d g.n=true)(hA:gA g.n (B1++B) e a)(hS:kY g.c w (B1++B) L)
  (hy:(Want ops o (vE (B1++B) e) true/\∀w',Sd g B1 Lf w'->eN g.P o (vE (B1++B) e) w' v w')\/(Want ops o (vE (B1++B) e) false/\v=undef))
  (k:∀a',I5 g.n ((d,v)::vE (B1++B) e) a'->wpAnyH g.P .any ops (mkQ (NK g K) (XK g K) g.Q) (Sd g B1 Lf) ((l.set i true).count false) (l.set i true).toArray a' w):wpAnyH g.P .any ops (mkQ (NK g K) (XK g K) g.Q) (Sd g B1 Lf) (l.count false) l.toArray a w:=by
 obtain⟨f1,f2⟩:=a2V hD.len hD.free ho hr;rw[count_set hl];refine wpAnyH_take (v:=v) (by simpa using ho) f1 f2 (by simpa using (VT hD.len).2 ⟨hl,o,ho,hr⟩) (λ_ _ _ h=>h.elim) ?_ (hD.S hS) ?_
 ·rcases hy with ⟨h1,h2⟩|⟨h1,h2⟩
  ·exact .inl ⟨h1 _ a hA.env,λw' hS'=>h2 w' hS' _ a hA.env⟩
  ·exact .inr ⟨h1 _ a hA.env,h2⟩
 ·rw[hdst];have:=k _ (hA.env.put (by simp_all) v);grind
theorem aAM.set{B1:Bl}{ops:Array Oper}{l:List Bool}{is:List Nat}{Lf L':List Ch}(h:aAM g B1 ops l is Lf L)(i:Nat)(hz:kl L' is=Lf/\∀j∈is,j<L'.length):aAM g B1 ops (l.set i true) is Lf L':=
 ⟨h.pre,by simpa using h.len,h.free,hz.1,hz.2,h.okf,h.ap⟩
theorem aYQ{L Ln:List Ch}:∀{is:List Nat},(∀j∈is,j<L.length)->kl (L++Ln) is=kl L is
 |[],_=>rfl
 |i::is,h=>by simp only[kl,List.getElem?_append_left (h i ae),aYQ (λj hj=>h j (yG _ hj))]
theorem aAM.aFP{B1:Bl}{ops:Array Oper}{l:List Bool}{is:List Nat}{Lf:List Ch}(h:aAM g B1 ops l is Lf L)(Ln:List Ch):kl (L++Ln) is=Lf/\∀j∈is,j<(L++Ln).length:=
 ⟨by rw[aYQ h.rng];exact h.vA,λj hj=>by have:=h.rng j hj;simp;omega⟩
theorem a2W{B1:Bl}{ops:Array Oper}{l:List Bool}{is:List Nat}{Lf Lv:List Ch}{i:Nat}{o:Oper}(ho:ops.toList[i]?=some o)(hl:l[i]?=some false)(hr:NQ l o.after.toList=true)(hg:BD ops e o.guard=.yes)(hd:pQ g.n o.dst=true):YP g K m e L o Lv (.d B1 ops l is Lf Lv) (.d B1 ops (l.set i true) is Lf Lv):=by
 intro d x Ln nb k hdst hk hv hs hG hD a w ⟨B,hm,hA,hS,hV⟩;rw[hdst] at hd;obtain⟨v,h1,h2⟩:=hv _ a w hA (hV w (hD.S hS)) hm;refine aQ0 (v:=v) hD ho hl hr hdst hd hA hS (.inl ⟨XQ hg,λw' hS'=>?_⟩) λa' hA'=>?_
 ·obtain⟨v',h3,h4⟩:=hv _ a w' hA (hV w' hS') hm;rw[h1] at h3;cases h3;exact h4
 ·refine hG (hD.set i (hD.aFP Ln)) a' w ⟨B++nb g.c.w0,?_,?_,?_,λw' hS'=>?_⟩
  ·rw[<-I3,G8,hm,hk]
  ·rw[<-I3];exact hA.ext h1 hA'
  ·rw[<-I3];exact hs _ w _ hm hS
  ·rw[<-I3];exact hs _ w' _ hm (hV w' hS')
theorem aOH{l:List Bool}{i:Nat}:∀{os:List Oper} {j0:Nat},aB4 l i os j0=true->∀j o,os[j]?=some o->l[j0+j]?=some false->(NQ l o.after.toList=true↔j0+j=i)
 |[],_,_,j,o,h,_=>by simp at h
 |p::os,j0,h,j,o,hj,hl=>by
  simp only[aB4] at h;cases j with
  |zero=>
   simp at hj;subst hj;simp only[WM] at hl ⊢;rw[hl] at h;simp only at h;cases hb:Nat.beq j0 i with
   |true=>
    grind[nS]
   |false=>
    rw[hb] at h;simp only at h;have hne:j0≠i:=λh=>by simp_all
    grind
  |succ j=>
   have h':aB4 l i os (j0+1)=true:=aj
   have:=aOH h' j o aj aj;grind
theorem a2X{B1:Bl}{ops:Array Oper}{l:List Bool}{is:List Nat}{Lf Lv:List Ch}{i:Nat}{o:Oper}(ho:ops.toList[i]?=some o)(hg:BD ops e o.guard=.yes):aB5 g K m e L o (.o B1 ops l is Lf Lv i) (.d B1 ops (l.set i true) is Lf Lv):=by
 intro ι m' e' L' hz hrun hG hD a w hr;have ⟨B,hm,hA,hS,hV⟩:=hr;unfold wpOp;have hoi:ops[i]?=some o:=aj
 simp only[hoi,XQ hg _ a hA.env,bP];refine .inl (hrun B a w _ _ hm hA hS λj a' w' h=>?_);have hD':=hD.set i (hz j hD);obtain⟨B',q1,q2,q3⟩:=h;refine⟨?_,?_⟩
 ·refine hD'.S (B:=B++B') ?_;rw[<-I3];exact q3
 ·have:=hG j hD' a' w' ⟨B++B',by rw[<-I3];exact q1,by rw[<-I3];exact q2,by rw[<-I3];exact q3,λw2 h2=>by rw[<-I3];exact(hV w2 h2).app B'⟩;omega
theorem a2Y{B1:Bl}{ops:Array Oper}{l:List Bool}{is:List Nat}{Lf Lv:List Ch}{i:Nat}{o:Oper}(ho:ops.toList[i]?=some o)(hg:BD ops e o.guard=.yes)(hd:pQ g.n o.dst=true):YP g K m e L o Lv (.o B1 ops l is Lf Lv i) (.d B1 ops (l.set i true) is Lf Lv):=by
 intro d x Ln nb k hdst hk hv hs hG hD a w ⟨B,hm,hA,hS,hV⟩;rw[hdst] at hd;obtain⟨v,h1,h2⟩:=hv _ a w hA (hV w (hD.S hS)) hm;unfold wpOp;have hoi:ops[i]?=some o:=by simpa using ho
 simp only[hoi,XQ hg _ a hA.env,bP];refine .inl ?_;unfold Oper.wp;rw[h2 _ a hA.env,Oper.upon_value,hdst];have hA':=hA.env.put (show d<g.n by simpa[pQ,vF] using hd) v;refine⟨hD.S hS,hG (hD.set i (hD.aFP Ln)) _ w ⟨B++nb g.c.w0,?_,?_,?_,λw' hS'=>?_⟩⟩
 ·rw[<-I3,G8,hm,hk]
 ·rw[<-I3];exact hA.ext h1 hA'
 ·rw[<-I3];exact hs _ w _ hm hS
 ·rw[<-I3];exact hs _ w' _ hm (hV w' hS')
theorem aK4{l:List Bool}{j:Nat}:∀{os:List Oper} {j0:Nat} {o:Oper},os[j]?=some o->l[j0+j]?=some false->NQ l o.after.toList=true->j0+j∈vG l os j0:=by
 intro os;induction os generalizing j with
 |nil=>simp
 |cons p os ih=>
  intro j0 o h hl hr;cases j with
  |zero=>
   simp_all[vG]
  |succ j=>
   have h2:=ih (j:=j) (j0:=j0+1) (o:=o) aj aj hr;grind[vG]
theorem a8K{B1:Bl}{ops:Array Oper}{l:List Bool}{is:List Nat}{Lf Lv:List Ch}(hex:∃i,i∈vG l ops.toList 0)(h:∀i∈vG l ops.toList 0,G g K m e L (.o B1 ops l is Lf Lv i))(hok:∀i∈vG l ops.toList 0,l[i]?=some false/\∃o,ops.toList[i]?=some o/\NQ l o.after.toList=true):G g K m e L (.d B1 ops l is Lf Lv):=by intro hD a w hr;obtain⟨i0,hi0⟩:=hex;obtain⟨q1,q2⟩:=hok i0 hi0;have hm:i0∈Region.ready .any ops l.toArray:=(VT hD.len).2 ⟨q1,q2⟩;rw[count_set q1];refine⟨λh=>aj,λj hj=>?_⟩;obtain⟨h1,p,h2,h3⟩:=(VT hD.len).1 hj;have h4:=aK4 (j0:=0) h2 aj h3;rw[WN] at h4;have h5:=h j h4 hD a w hr;grind
theorem aFQ{l:List Bool}{i:Nat}:∀{os:List Oper} {j0:Nat},i∈vG l os j0->l[i]?=some false/\∃j o,os[j]?=some o/\j0+j=i/\NQ l o.after.toList=true:=by
 intro os;induction os with
 |nil=>intro j0 h;cases h
 |cons p os ih=>
  intro j0 h;have tail:i∈vG l os (j0+1)->l[i]?=some false/\∃j o,(p::os)[j]?=some o/\j0+j=i/\NQ l o.after.toList=true:=λh=>by obtain⟨h1,j,o,h2,h3,h4⟩:=ih h;exact⟨h1,j+1,o,aj,aa,h4⟩
  simp only[vG] at h;split at h
  ·rename_i hl;split at h
   ·rename_i hr;rcases uI.1 h with h|h
    ·subst h;grind
    grind
   grind
  grind
theorem aYR{B1:Bl}{ops:Array Oper}{l:List Bool}{is:List Nat}{Lf Lv:List Ch}{i0:Nat}{r:List Nat}(hr:vG l ops.toList 0=i0::r)(h:∀i∈i0::r,G g K m e L (.o B1 ops l is Lf Lv i)):G g K m e L (.d B1 ops l is Lf Lv):=
 a8K ⟨i0,aj⟩ (λi hi=>h i aj) λi hi=>by obtain⟨h1,j,o,h2,h3,h4⟩:=aFQ hi;grind
theorem a2Z{l:List Bool}{i:Nat}{ops:Array Oper}(h:aB4 l i ops.toList 0=true):∀j∈vG l ops.toList 0,j=i:=λj hj=>by obtain⟨h1,k,o,h2,h3,h4⟩:=aFQ hj;rw[WN] at h3;grind[aOH]
def PsG(g:Gx)(K:List Fr)(m:Nat)(L:List Ch)(B1:Bl)(ops:Array Oper)(is:List Nat)(Lf Lv:List Ch):Ps->Prop
 |.bad=>False
 |.ask _ l e=>G g K m e L (.d B1 ops l is Lf Lv)
 |.pur j o l e=>ops.toList[j]?=some o->l[j]?=some false->NQ l o.after.toList=true->BD ops e o.guard=.yes->G g K m e L (.d B1 ops l is Lf Lv)
 |.fin l e _=>G g K m e L (.d B1 ops l is Lf Lv)
theorem VU{B1:Bl}{ops:Array Oper}{is:List Nat}{Lf Lv:List Ch}:∀(r:List Oper) (i:Nat) (l:List Bool) (e:SE) (q:List (Nat×Oper)),(∀j,r[j]?=ops.toList[i+j]?) ->
  PsG g K m L B1 ops is Lf Lv (pass g.T g.n ops Lv r i l e q)->G g K m e L (.d B1 ops l is Lf Lv)
 |[],i,l,e,q,hr,h=>by unfold pass at h;exact h
 |o::r,i,l,e,q,hr,h=>by
  have ho:ops.toList[i]?=some o:=by have:=hr 0;grind
  have hr':∀j,r[j]?=ops.toList[i+1+j]?:=λj=>by have:=hr (j+1);grind
  unfold pass at h;cases hl:l[i]? with
  |none=>simp only[hl] at h;exact h.elim
  |some b=>
   cases b with
   |true=>simp only[hl] at h;exact VU r (i+1) l e q hr' h
   |false=>
    cases hre:NQ l o.after.toList with
    |false=>simp only[hl,hre] at h;exact VU r (i+1) l e q hr' h
    |true=>
     cases hgd:BD ops e o.guard with
     |bad=>simp only[hl,hre,hgd] at h;exact h.elim
     |ask c=>simp only[hl,hre,hgd] at h;exact h
     |no=>
      cases hd:o.dst with
      |none=>simp only[hl,hre,hgd,hd] at h;exact h.elim
      |some d=>
       cases hb:Nat.blt d g.n with
       |false=>simp only[hl,hre,hgd,hd,hb] at h;exact h.elim
       |true=>
        simp only[hl,hre,hgd,hd,hb] at h;have ih:=VU r (i+1) _ _ q hr' h;intro hD a w ⟨B,hm,hA,hS,hV⟩;refine aQ0 (v:=undef) hD ho hl hre hd hb hA hS (.inr ⟨a4T hgd,rfl⟩) λa' hA'=>?_;exact ih (hD.set i ⟨hD.vA,hD.rng⟩) a' w ⟨B,hm,hA.of (x:=.u) rfl hA',hS,hV⟩
     |yes=>
      cases hv:ev1 g.T e Lv o.op with
      |some v=>
       cases hd:o.dst with
       |none=>simp only[hl,hre,hgd,hv,hd] at h;exact h.elim
       |some d=>
        cases hb:Nat.blt d g.n with
        |false=>simp only[hl,hre,hgd,hv,hd,hb] at h;exact h.elim
        |true=>
         simp only[hl,hre,hgd,hv,hd,hb] at h;have ih:=VU r (i+1) _ _ q hr' h;intro hD a w ⟨B,hm,hA,hS,hV⟩;obtain⟨u,h1,h2⟩:=aL9 g.hT hA (hV w (hD.S hS)) hv;refine aQ0 (v:=u) hD ho hl hre hd hb hA hS (.inl ⟨XQ hgd,λw' hS'=>?_⟩) λa' hA'=>?_
         ·obtain⟨u',h3,h4⟩:=aL9 (w:=w') g.hT hA (hV w' hS') hv;grind
         ·exact ih (hD.set i ⟨hD.vA,hD.rng⟩) a' w ⟨B,hm,hA.of h1 hA',hS,hV⟩
      |none=>
       cases hp:a4Q o.op with
       |true=>simp only[hl,hre,hgd,hv,hp] at h;exact h ho hl hre hgd
       |false=>
        simp only[hl,hre,hgd,hv,hp] at h;exact VU r (i+1) l e ((i,o)::q) hr' h
theorem aTR:∀{l:List Bool} {i:Nat},a2O l=true->l[i]?≠some false
 |[],i,_=>ae
 |b::l,i,h=>by
  unfold a2O at h;cases b with
  |false=>cases h
  |true=>
   cases i with
   |zero=>simp
   |succ i=>simpa using aTR (l:=l) (i:=i) h
theorem aK5{k:Nat}:∀{L:List Ch},OY k L=true->∃i,(∀cs',rM k cs' L=L.set i (.box k cs'))/\∀k0,aL5 k L k0=k0+i
 |[],h=>by cases h
 |x::L,h=>by
  have ih:OY k L=true->(∀cs',rM k cs' (x::L)=x::rM k cs' L)->(∀k0,aL5 k (x::L) k0=aL5 k L (k0+1))->∃i,(∀cs',rM k cs' (x::L)=(x::L).set i (.box k cs'))/\∀k0,aL5 k (x::L) k0=k0+i:=λh h2 h3=>by obtain⟨i,g1,g2⟩:=aK5 h;exact⟨i+1,λcs'=>aj,λk0=>aj⟩
  cases x with
  |box j cs=>
   simp only[OY] at h;split at h
   ·rename_i hb;exact⟨0,λcs'=>by grind[rM,nS],λk0=>by grind[aL5]⟩
   simp_all[rM,aL5]
  |ro j cs=>
   simp only[OY] at h;split at h
   ·cases h
   ·exact ih h (λ_=>rfl) (λ_=>rfl)
  |o ch=>exact ih h (λ_=>rfl) (λ_=>rfl)
  |f g=>exact ih h (λ_=>rfl) (λ_=>rfl)
  |no=>exact ih h (λ_=>rfl) (λ_=>rfl)
  |w k b z=>exact ih h (λ_=>rfl) (λ_=>rfl)
theorem aFR{i:Nat}:∀{is:List Nat},eO i is=true->i∉is
 |[],_=>ae
 |j::r,h=>by
  unfold eO at h;cases hb:Nat.beq i j with
  |true=>grind
  |false=>
   rw[hb] at h;have hne:i≠j:=λe=>by simp_all
   simpa[hne] using aFR h
theorem aYS{L:List Ch}{i:Nat}{x:Ch}:∀{is:List Nat},i∉is->kl (L.set i x) is=kl L is
 |[],_=>rfl
 |j::is,h=>by have hne:i≠j:=λe=>h (by simp[e]);simp only[kl,List.getElem?_set_ne hne,aYS (λhj=>h (yG _ hj))]
theorem aQ1{T:TT}{t:TypeId}{p v:SV}{L':List Ch}{x y:Operand}{is:List Nat}(h:P7 T t p v L=some L')(hp:gY e x=some p)(hf:a59 e L is (.store t x y)=true)(hr:∀j∈is,j<L.length):kl L' is=kl L is/\∀j∈is,j<L'.length:=by
 unfold P7 at h;split at h
 ·rename_i k o;split at h
  ·rename_i hb;split at h
   ·split at h
    ·split at h
     case h_2=>cases h
     split at h
     case h_2=>cases h
     rename_i L2 hL2;cases h;have:=P8 hL2;subst this;obtain⟨i,h1,h2⟩:=aK5 hb;simp_all[a59,aFR,aYS]
    ·cases h
   ·cases h
  ·cases h
 ·cases h
theorem a21{a a':Act}{w':World}{B0 B:Bl}{d b:Nat}{cs:List SV}(hm:(B0++B).length=m)(hA:gA g.n (B0++B) e a)(hA':I5 g.n ((d,.pointer (some ⟨b,0,none⟩))::vE (B0++B) e) a')(hS':kY g.c w' ((B0++B)++[(b,0)]) (L++[.box (B0++B).length cs])):oV g.n g.c (B0++B) (m+1) ((d,.p m 0)::e) (L++[.box m cs]) a' w':=by
 refine⟨[(b,0)],aj,?_,?_⟩
 ·exact hA.ext (nb:=[(b,0)]) (x:=.p m 0) (by grind[fA,gV,bQ]) hA'
 grind
theorem rN{cf:rL}(Ln:List Ch):Frz g cf L (L++Ln):=by
 cases cf with
 |d B1 ops l is Lf Lv=>exact λhD=>hD.aFP Ln
 |o B1 ops l is Lf Lv i=>exact λhD=>hD.aFP Ln
 |_=>trivial
theorem aTS{T:TT}{op:Op}{v:SV}(h:eff T e L op=.val v):ev1 T e L op=some v:=by unfold eff at h;grind
theorem a23{T:TT}{op:Op}{cs:List SV}(h:eff T e L op=.box cs):(∃t i,op=.alloc t/\wU T t=some i/\cs=i.z)\/(∃t x v,op=.box t x/\gY e x=some v/\isCells v=true/\cs=mZ v):=by unfold eff at h;grind
theorem a6H{T:TT}{op:Op}{L':List Ch}(h:eff T e L op=.st L'):∃t x y p v,op=.store t x y/\gY e x=some p/\P7 T t p v L=some L':=by unfold eff at h;grind
theorem a25{T:TT}{op:Op}{L':List Ch}(h:eff T e L op=.st L'):∃t x y p v,op=.store t x y/\gY e x=some p/\gY e y=some v/\P7 T t p v L=some L':=by unfold eff at h;grind
theorem aYT{o:Oper}{cf cf':rL}(hE:aB5 g K m e L o cf cf') :
  (∀d cs,eff g.T e L o.op=.box cs->o.dst=some d->Nat.blt d g.n=true->Frz g cf L (L++[.box m cs])->G g K (m+1) ((d,.p m 0)::e) (L++[.box m cs]) cf'->G g K m e L cf) /\
  (∀L',eff g.T e L o.op=.st L'->o.dst=none->Frz g cf L L'->G g K m e L' cf'->G g K m e L cf):=by
 refine⟨λd cs hf hd hdn hz hG=>hE Unit (λ_=>m+1) (λ_=>(d,.p m 0)::e) (λ_=>L++[.box m cs]) (λ_=>hz) (λB a w next Q hm hA hS hnext=>?_) (λ_=>hG),λL' hf hd hz hG=>hE Unit (λ_=>m) (λ_=>e) (λ_=>L') (λ_=>hz) (λB a w next Q hm hA hS hnext=>?_) (λ_=>hG)⟩
 ·have fin:∀{u:Value} {w':World} {b:Nat},eN g.P o (vE (WQ g cf++B) e) w u w'->u=.pointer (some ⟨b,0,none⟩)->kY g.c w' ((WQ g cf++B)++[(b,0)]) (L++[.box (WQ g cf++B).length cs])->o.wp g.P a w next Q:=by intro u w' b hR hu hS';subst hu;unfold Oper.wp;rw[hR _ a hA.env,Oper.upon_value,hd];exact hnext () _ _ (a21 hm hA (hA.env.put (by simp_all) _) hS')
  rcases a23 hf with ⟨t,i,ho,hl,rfl⟩|⟨t,x,v,ho,hv,hc,rfl⟩
  ·obtain⟨u,w',b,k1,k2,k3⟩:=aYO (E:=vE (WQ g cf++B) e) g.hT hS ho hl;grind
  ·obtain⟨u,w',b,k1,k2,k3⟩:=a6G (P:=g.P) hA hS ho hv hc;grind
 ·obtain⟨t,x,y,p,v,ho,hx,hy,hs⟩:=a25 hf;obtain⟨w',k1,k2⟩:=aK3 g.hT hA hS ho hx hy hs;unfold Oper.wp;rw[k1 _ a hA.env,Oper.upon_skip,hd];exact hnext () _ _ ⟨[],aj,by rw[rA];exact⟨hA.d,hA.size,hA.get⟩,aj⟩
theorem aYU{o:Oper}{Lv:List Ch}{cf cf':rL}(h:Gs g (a2N e o Lv cf cf' K m L o.op))(hd:pQ g.n o.dst=true)(hP:YP g K m e L o Lv cf cf')(hE:aB5 g K m e L o cf cf'):G g K m e L cf:=by
 generalize hop:o.op=op at h;unfold a2N at h;split at h
 ·split at h
  ·exact h
  ·exact h.elim
 ·split at h
  ·rename_i h1 h2 h3;exact h _ _ hop h3 h1 h2 hP
  ·exact h hd hP hE
 ·split at h
  ·rename_i h1 h2;split at h
   ·rename_i hx;exact h _ _ _ hop rfl h1 ⟨_,h2,rfl⟩ hx hd hE
   ·exact h _ _ _ hop rfl h1 ⟨_,h2,rfl⟩ hd hE
  ·exact h hd hP hE
 ·exact h hd hP hE
theorem a26{o:Oper}{Lv:List Ch}{cf cf':rL}(h:Gs g (a58 e o Lv cf cf' K m L o.op))(hd:pQ g.n o.dst=true)(hP:YP g K m e L o Lv cf cf'):G g K m e L cf:=by
 generalize hop:o.op=op at h;unfold a58 at h;split at h
 ·split at h
  ·exact h
  ·exact h.elim
 ·split at h
  ·rename_i h1 h2 h3;exact h _ _ hop h3 h1 h2 hP
  ·exact h hd hP
 ·exact h hd hP
theorem XR : ∀ (F : Nat) (K : List Fr) (c : rL) (m : Nat) (e : SE) (L : List Ch),Gs g (YJ g.T g.n F K c m e L) -> G g K m e L c
 |0,_,_,_,_,_,h=>h.elim
 |F + 1,K,.c x,m,e,L,h=>by
  have ih:=XR F;unfold YJ at h;cases x with
  |skip=>exact λa w hr=>a1U (aTP ih h a w hr)
  |seq x y=>exact λa w hr=>a5D (ih _ _ _ _ _ h a w hr)
  |block id b=>
   simp only at h;split at h
   ·exact h
   ·exact λa w hr=>aN7 (ih _ _ _ _ _ h a w hr)
  |exit id=>
   simp only at h;refine λa w hr=>a1V (aYP ?_);cases hx:xit id K with
   |some K'=>rw[hx] at h;exact aTP ih h a w hr
   |none=>rw[hx] at h;exact h a w hr
  |ret=>exact λa w hr=>a5E (h a w hr)
  |cond o x y=>
   simp only at h;split at h
   ·rename_i c ho;intro a w hr;obtain⟨B,hm,hA,hS⟩:=hr;obtain⟨v,h1,h2⟩:=dZ hA ho;cases h1;cases c with
    |true=>exact a5F hA.env h2 rfl (ih _ _ _ _ _ h a w ⟨B,hm,hA,hS⟩)
    |false=>exact a8B hA.env h2 rfl (ih _ _ _ _ _ h a w ⟨B,hm,hA,hS⟩)
   ·rename_i c ho;exact h ho
   ·exact h.elim
  |region id ops d=>
   cases d with
   |false=>exact λa w hr=>aU2 (ih _ _ _ _ _ h a w hr)
   |true=>exact h
  |_=>exact h.elim
 |F + 1,K,.n,m,e,L,h=>by have ih:=XR F;unfold YJ at h;exact λa w hr=>aTP ih h a w hr
 |F + 1,K,.r ops [],m,e,L,h=>by have ih:=XR F;unfold YJ at h;exact λa w hr=>aTP ih h a w hr
 |F + 1,K,.r ops (⟨dst,op,ty,ps,af,gd⟩::l),m,e,L,h=>by
  have ih:=XR F;unfold YJ at h;generalize hg:BD ops e gd=gv at h;cases gv with
  |bad=>exact h.elim
  |ask c=>exact h
  |no=>
   simp only at h;split at h
   ·rename_i d;split at h
    ·rename_i hd;intro a w ⟨B,hm,hA,hS⟩;exact a1X (a4T hg) rfl hd (λa' hA'=>ih _ _ _ _ _ h a' w ⟨B,hm,hA.of (x:=.u) (v:=undef) rfl hA',hS⟩) a hA.env
    ·exact h.elim
   ·exact h.elim
  |yes=>
   simp only at h;have hE:=aYT (g:=g) (K:=K) (m:=m) (e:=e) (L:=L) (o:=⟨dst,op,ty,ps,af,gd⟩) (cf:=.r ops (⟨dst,op,ty,ps,af,gd⟩::l)) (cf':=.r ops l) (aTQ hg);split at h
   ·rename_i d v hf;split at h
    ·rename_i hd;intro a w ⟨B,hm,hA,hS⟩;obtain⟨u,h1,h2⟩:=aL9 (o:=⟨_,op,ty,ps,af,gd⟩) g.hT hA hS (aTS hf);exact a4M h2 (XQ hg) rfl hd (λa' hA'=>ih _ _ _ _ _ h a' w ⟨B,hm,hA.of h1 hA',hS⟩) a hA.env
    ·exact h.elim
   ·rename_i d cs hf;split at h
    ·rename_i hd;exact hE.1 _ _ hf rfl hd trivial (ih _ _ _ _ _ h)
    ·exact h.elim
   ·rename_i L' hf;exact hE.2 _ hf rfl trivial (ih _ _ _ _ _ h)
   ·split at h
    ·rename_i hd;exact aYU h hd (a2U hg hd) (aTQ hg)
    ·exact h.elim
   ·exact h.elim
 |F + 1,K,.d B1 ops l is Lf Lv,m,e,L,h=>by
  have ih:=XR F;unfold YJ at h;refine VU ops.toList 0 l e [] (λj=>ae) ?_;generalize pass g.T g.n ops Lv ops.toList 0 l e []=ps at h;cases ps with
  |bad=>exact h.elim
  |ask c l' e'=>exact h
  |pur i o l' e'=>
   intro h1 h2 h3 h4;simp only at h;split at h
   ·grind[a26,a2W]
   ·exact h.elim
  |fin l' e' q=>
   cases q with
   |nil=>
    simp only at h;split at h
    ·rename_i hall;intro hD a w hr;have hn:=ih _ _ _ _ _ h;obtain⟨B2,hB2⟩:=hD.pre;have hr':Rel g m e' L a w:=by obtain⟨B,hm,hA,hS,_⟩:=hr;subst hB2;exact⟨B2++B,aj,aj,aj⟩
     have hempty:Region.ready .any ops l'.toArray=[]:=by refine List.eq_nil_iff_forall_not_mem.2 λj hj=>?_;exact aTR hall ((VT hD.len).1 hj).1
     exact wpAnyH_done hempty (hn a w hr') _
    ·exact h.elim
   |cons p q=>
    cases q with
    |cons p' q=>exact h
    |nil=>
     obtain⟨i,o⟩:=p;simp only at h;split at h
     ·rename_i hon;have ho:=ih _ _ _ _ _ h;cases hra:vG l' ops.toList 0 with
      |cons j r=>
       refine aYR hra λk hk=>?_;grind[a2Z]
      |nil=>
       refine absurd h ?_;intro h;unfold YJ at h;cases F with
       |zero=>exact h
       |succ F=>
        simp only at h;split at h
        ·rename_i hi;split at h
         ·rename_i h1 h2 h3;have:=aK4 (j0:=0) hi aj h1;grind
         ·exact h
        ·exact h
     ·exact h.elim
 |F + 1,K,.o B1 ops l is Lf Lv i,m,e,L,h=>by
  have ih:=XR F;unfold YJ at h;split at h
  ·rename_i dst op ty ps af gd ho;split at h
   ·rename_i hre hli hg;have hes:=a2X (g:=g) (K:=K) (m:=m) (e:=e) (L:=L) (B1:=B1) (ops:=ops) (l:=l) (is:=is) (Lf:=Lf) (Lv:=Lv) ho hg;have hE:=aYT (g:=g) (K:=K) (m:=m) (e:=e) (L:=L) (o:=⟨dst,op,ty,ps,af,gd⟩) (cf:=.o B1 ops l is Lf Lv i) (cf':=.d B1 ops (l.set i true) is Lf Lv) hes;split at h
    ·rename_i v d hf;split at h
     ·rename_i hd;have hG:=ih _ _ _ _ _ h;have hv:=aTS hf;refine hes Unit (λ_=>m) (λ_=>(d,v)::e) (λ_=>L) (λ_ hD=>⟨hD.vA,hD.rng⟩) (λB a w next Q hm hA hS hnext=>?_) (λ_=>hG);obtain⟨u,h1,h2⟩:=aL9 (o:=⟨some d,op,ty,ps,af,gd⟩) g.hT hA hS hv;unfold Oper.wp;rw[h2 _ a hA.env,Oper.upon_value];exact hnext () _ _ ⟨[],aj,by simpa using hA.of h1 (hA.env.put (by simp_all) u),aj⟩
     ·exact h.elim
    ·rename_i d cs hf;split at h
     ·rename_i hd;exact hE.1 _ _ hf rfl hd (λhD=>hD.aFP _) (ih _ _ _ _ _ h)
     ·exact h.elim
    ·rename_i L' hf;split at h
     ·rename_i hfz;refine hE.2 _ hf rfl (λhD=>?_) (ih _ _ _ _ _ h);obtain⟨t,x,y,p,v,hop,hx,hs⟩:=a6H hf;subst hop;have:=aQ1 hs hx hfz hD.rng;exact⟨by rw[this.1];exact hD.vA,this.2⟩
     ·exact h.elim
    ·split at h
     ·rename_i hd;exact aYU h hd (a2Y ho hg hd) hes
     ·exact h.elim
    ·exact h.elim
   ·exact h.elim
  ·exact h.elim
theorem aES:∀{e r:SE},aVF e=some r->r=e
 |[],r,h=>by cases h;rfl
 |(k,v)::l,r,h=>by
  simp only[aVF] at h;split at h
  ·rename_i s hs;cases h;rw[aES hs]
  ·cases h
theorem aET:∀{e r:List Ch},aVG e=some r->r=e
 |[],r,h=>by cases h;rfl
 |x::l,r,h=>by
  simp only[aVG] at h;split at h
  ·rename_i s hs;have:=aET hs;grind[P8]
  ·cases h
theorem gE{K:List Fr}{c:rL}{m:Nat}{e:SE}{L:List Ch}(h:Gs g (iO g.T g.n K c m e L)):G g K m e L c:=by
 unfold iO at h;split at h
 ·grind[aES,aET,XR]
 ·exact h.elim
end
section
variable {P:Program} {N N':Act->World->Prop} {X X':Nat->Act->World->Prop} {T T':Act->World->Prop}
theorem TZ(h:LetsOut (mkQ N X T)):LetsOut (mkQ N' X' T'):=let ⟨_,_,h⟩:=h;h.elim
theorem aOI{o:Oper}{a:Act}{next next':Act->World->Prop}{r:Result Next}(hn:∀a w,next a w->next' a w)(h:o.upon P a next (mkQ N X T) r):o.upon P a next' (mkQ N' X' T') r:=by
 unfold Oper.upon at h ⊢;split at h
 ·grind
 ·grind
 ·grind
 ·refine Calls.mono h λe w' he=>?_;cases e with
  |returned v=>grind
  |panicked c=>exact he.elim
  |outgrown=>exact TZ he
 ·grind[Rows.mono]
 ·exact h.elim
 omega
theorem XS{ops:Array Oper}(hN:∀a w,N a w->N' a w):∀(l:List Oper) {a:Act} {w:World},wpList P ops (mkQ N X T) l a w->wpList P ops (mkQ N' X' T') l a w
 |[],a,w,h=>hN a w h
 |o::l,a,w,h=>by
  unfold wpList at h ⊢;split
  ·rename_i hw;rw[aL hw] at h;rcases h with h|⟨h1,h2⟩
   ·exact .inl (aOI (λ_ _ h=>XS hN l h) h)
   grind[TZ]
  ·rename_i hw;rw[aN hw] at h;exact XS hN l h
theorem aOJ{ops:Array Oper}{i:Nat}{k k':Act->World->Prop}{a:Act}{w:World}(hk:∀a w,k a w->k' a w)(h:wpOp P ops (mkQ N X T) i k a w):wpOp P ops (mkQ N' X' T') i k' a w:=by
 unfold wpOp at h ⊢;split
 ·grind
 ·rename_i o h0;rw[h0] at h;simp only at h;split
  ·rename_i hw;rw[aL hw] at h;rcases h with h|⟨h1,h2⟩
   ·exact .inl (aOI hk h)
   grind[TZ]
  grind
theorem XT{ops:Array Oper}{S:World->Prop}(hN:∀a w,N a w->N' a w):∀(fuel:Nat) {VG:Array Bool} {a:Act} {w:World},wpAnyH P .any ops (mkQ N X T) S fuel VG a w->wpAnyH P .any ops (mkQ N' X' T') S fuel VG a w
 |0,_,a,w,h=>⟨h.1,hN a w h.2⟩
 |f+1,_,a,w,h=>⟨λh0=>hN a w (h.1 h0),λi hi=>aOJ (λ_ _ h=>⟨h.1,XT hN f h.2⟩) (h.2 i hi)⟩
end
section
variable {P:Program} {T:TT} {hT:CR P T} {n:Nat} {c:Ctx} {B0:Bl} {N N1:Act->World->Prop} {X X1:Nat->Act->World->Prop} {Q:Act->World->Prop} {K K':List Fr} {m m':Nat} {e e':SE} {L L':List Ch} {cf cf':rL}
theorem aQ2(Kb:List Fr)(hN:∀a w,N1 a w->NK (.mk P T hT n c B0 N X Q) Kb a w)(hX:∀i a w,X1 i a w->XK (.mk P T hT n c B0 N X Q) Kb i a w):∀(Ka:List Fr),(∀a w,NK (.mk P T hT n c B0 N1 X1 Q) Ka a w->NK (.mk P T hT n c B0 N X Q) (Ka++Kb) a w)/\(∀i a w,XK (.mk P T hT n c B0 N1 X1 Q) Ka i a w->XK (.mk P T hT n c B0 N X Q) (Ka++Kb) i a w)
 |[]=>⟨hN,hX⟩
 |.s y::Ka=>by obtain⟨h1,h2⟩:=aQ2 Kb hN hX Ka;exact⟨λa w h=>CW.mono (show CW P y (NK _ Ka) (XK _ Ka) Q a w from h) h1 h2 (λ_ _ h=>h),h2⟩
 |.k id::Ka=>by obtain⟨h1,h2⟩:=aQ2 Kb hN hX Ka;refine⟨h1,λi a w h=>?_⟩;simp only[XK,aKX,WK] at h ⊢;grind
theorem a8L{Ka Kb:List Fr}(hN:∀a w,N1 a w->NK (.mk P T hT n c B0 N X Q) Kb a w)(hX:∀i a w,X1 i a w->XK (.mk P T hT n c B0 N X Q) Kb i a w)(h:G (.mk P T hT n c B0 N1 X1 Q) Ka m e L cf):G (.mk P T hT n c B0 N X Q) (Ka++Kb) m e L cf:=by
 obtain⟨h1,h2⟩:=aQ2 Kb hN hX Ka;cases cf with
 |n=>exact λa w hr=>h1 a w (h a w hr)
 |c x=>exact λa w hr=>CW.mono (h a w hr) h1 h2 (λ_ _ h=>h)
 |r ops l=>exact λa w hr=>XS h1 l (h a w hr)
 |d B1 ops l is Lf Lv=>exact λhD a w hr=>XT h1 _ (h ⟨hD.pre,hD.len,hD.free,hD.vA,hD.rng,hD.okf,hD.ap⟩ a w hr)
 |o B1 ops l is Lf Lv i=>exact λhD a w hr=>aOJ (λ_ _ h=>⟨h.1,XT h1 _ h.2⟩) (h ⟨hD.pre,hD.len,hD.free,hD.vA,hD.rng,hD.okf,hD.ap⟩ a w hr)
theorem aEU{g:Gx}{s:Stop}(hs:OZ s=some (K,cf,m,e,L))(h:G g K m e L cf):Gs g s:=by
 cases s<;>simp only[OZ] at hs<;>cases hs
 ·exact λ_=>h
 ·exact h
 ·exact h
 ·exact λ_ _ _ _ _ _ _=>h
 ·exact λ_ _ _ _ _ _ _ _ _ _=>h
 ·exact λ_ _ _ _ _ _ _ _ _=>h
 ·exact λ_ _=>h
 ·exact λ_ _ _=>h
 ·exact h
 ·exact h
def JP(n:Nat)(c:Ctx)(B0:Bl){π υ:Type}(eq:π->Prop)(m:Nat)(ej:π->υ->SE)(Lj:π->υ->List Ch):Act->World->Prop:=λa w=>∃p u,eq p/\oV n c B0 m (ej p u) (Lj p u) a w
theorem dJ{B1:Bl}{ops:Array Oper}{l:List Bool}{is:List Nat}{Lf Lv:List Ch}{i j:Nat}(q0_:OZ (iO T n K cf m e L)=some (K',.d B1 ops l is Lf Lv,m',e',L')/\vG l ops.toList 0=[i,j])
  (k1:G (.mk P T hT n c B0 N X Q) K' m' e' L' (.o B1 ops l is Lf Lv i)) (k2:G (.mk P T hT n c B0 N X Q) K' m' e' L' (.o B1 ops l is Lf Lv j)):G (.mk P T hT n c B0 N X Q) K m e L cf:=
 let ⟨hs,hr⟩:=q0_;gE (g:=.mk P T hT n c B0 N X Q) (aEU hs (aYR (g:=.mk P T hT n c B0 N X Q) hr λk hk=>by
  grind))
theorem aCK{B1:Bl}{ops:Array Oper}{l:List Bool}{is:List Nat}{Lf Lv:List Ch}{i j p:Nat}(hs:OZ (iO T n K cf m e L)=some (K',.d B1 ops l is Lf Lv,m',e',L'))(hr:vG l ops.toList 0=[i,j,p])
  (k1:G (.mk P T hT n c B0 N X Q) K' m' e' L' (.o B1 ops l is Lf Lv i)) (k2:G (.mk P T hT n c B0 N X Q) K' m' e' L' (.o B1 ops l is Lf Lv j)) (k3:G (.mk P T hT n c B0 N X Q) K' m' e' L' (.o B1 ops l is Lf Lv p)):G (.mk P T hT n c B0 N X Q) K m e L cf:=
 gE (g:=.mk P T hT n c B0 N X Q) (aEU hs (aYR (g:=.mk P T hT n c B0 N X Q) hr λk hk=>by
  grind))
theorem bd{O J:Type}{A:Option O}{f:O->Option J}{q:J}{C:Prop}(hF:A.bind f=some q)(k:∀x,A=some x->f x=some q->C):C:=by
 cases h:A with
 |none=>grind
 |some x=>grind
theorem nd{J:Type}{p:Prop}[Decidable p]{A:Option J}{q:J}{C:Prop}(hF:need p A=some q)(k:p->A=some q->C):C:=k (lP hF).1 (lP hF).2
theorem rb{O:Type}{A:Option O}{x:O}(h:A=some x):A.bind some=some x:=by rw[h];rfl
theorem rn{p:Prop}[Decidable p](h:p):need p (some ())=some ():=by simp[need,h]
theorem go(hs:OZ (iO T n K cf m e L)=some (K',cf',m',e',L'))(k:G (.mk P T hT n c B0 N X Q) K' m' e' L' cf'):G (.mk P T hT n c B0 N X Q) K m e L cf:=
 gE (g:=.mk P T hT n c B0 N X Q) (aEU hs k)
theorem cut{π υ:Type}(j mj:Nat)(eq:π->Prop)(ks:List Nat)(ej:π->υ->SE)(is:List Nat)(Lj:π->υ->List Ch)(hs:OZ (iO T n K cf m e L)=some (K',cf',m',e',L'))
  (k1:G (.mk P T hT n c B0 (JP n c B0 eq mj (λp u=>ej p u++kp e' ks) (λp u=>Lj p u++kl L' is)) (XK (.mk P T hT n c B0 N X Q) (K'.drop j)) Q) (K'.take j) m' e' L' cf')
  (k2:∀p u,eq p->G (.mk P T hT n c B0 N X Q) (K'.drop j) mj (ej p u++kp e' ks) (Lj p u++kl L' is) .n):G (.mk P T hT n c B0 N X Q) K m e L cf:=by
 refine go hs ?_;rw[<-aB1 j K'];refine a8L (λa w ⟨p,u,h1,h2⟩=>?_) (λ_ _ _ h=>h) k1;exact k2 p u h1 a w h2
theorem jn{π υ:Type}{eq:π->Prop}{mj:Nat}{ej:π->υ->SE}{Lj:π->υ->List Ch}{p:π}(u:υ)(is:List Nat)(hF:eq p)(hs:iO T n K cf m e L=.fin m' e' L')(h:WO B0.length m' e' L' is mj (ej p u) (Lj p u)=some (ej p u,Lj p u)):G (.mk P T hT n c B0 (JP n c B0 eq mj ej Lj) X Q) K m e L cf:=
 gE (g:=.mk P T hT n c B0 _ X Q) (by
  rw[hs];exact λa w hr=>⟨p,u,hF,oV.WO hr is h⟩)
theorem VV{b cb:Bool}{a:Act}{B:Bl}(hb:b=cb):∀(ss:List Nat),aV (BZ e) ss=some (ss.map λ_=>SV.b b)->gA n B e a->gA n B (ovr cb e ss) a:=by
 intro ss hs hA;refine⟨hA.d,hA.size,?_⟩;subst hb;have key:∀k∈ss,BZ e k=some (.b b):=by
  induction ss with
  |nil=>simp
  |cons s ss ih=>
   grind[aV]
 clear hs;induction ss with
 |nil=>exact hA.get
 |cons s ss ih=>
  intro k x hk;simp only[ovr,BZ] at hk;cases hb:Nat.beq k s with
  |true=>
   rw[hb] at hk;cases hk;rw[nS hb];exact hA.get s (.b b) (key s ae)
  |false=>
   grind
theorem aEV{b cb:Bool}{a:Act}{w:World}(hb:b=cb)(ss:List Nat)(hs:aV (BZ e) ss=some (ss.map λ_=>SV.b b))(h:oV n c B0 m e L a w):oV n c B0 m (ovr cb e ss) L a w:=by obtain⟨B,h1,hA,hS⟩:=h;exact⟨B,h1,VV hb ss hs hA,hS⟩
theorem aFS{e1:SE}(h:∀a B,gA n B e a->gA n B e1 a)(k:G (.mk P T hT n c B0 N X Q) K m e1 L cf):G (.mk P T hT n c B0 N X Q) K m e L cf:=by
 cases cf with
 |d B1 ops l is Lf Lv=>exact λhD a w ⟨B,h1,h2,h3,h4⟩=>k hD a w ⟨B,h1,h a _ h2,h3,h4⟩
 |o B1 ops l is Lf Lv i=>exact λhD a w ⟨B,h1,h2,h3,h4⟩=>k hD a w ⟨B,h1,h a _ h2,h3,h4⟩
 |_=>exact λa w ⟨B,h1,h2,h3⟩=>k a w ⟨B,h1,h a _ h2,h3⟩
section
variable {b:Bool} {O:Type} {A B':Option O} {q:Option O}
theorem cs{o:Operand}{x y:Code}(ss:List Nat)(hs:iO T n K cf m e L=.cond o b x y K' m' e' L')(ho:aV (BZ e') ss=some (ss.map λ_=>SV.b b))(hF:(if b=true then A else B')=q)
  (k1:A=q->G (.mk P T hT n c B0 N X Q) K' m' (ovr true e' ss) L' (.c x)) (k2:B'=q->G (.mk P T hT n c B0 N X Q) K' m' (ovr false e' ss) L' (.c y)):G (.mk P T hT n c B0 N X Q) K m e L cf:=
 gE (g:=.mk P T hT n c B0 N X Q) (by
  rw[hs];intro he a w hr;have ⟨B,hm,hA,hS⟩:=hr;obtain⟨v,h1,h2⟩:=dZ hA he;cases h1;refine aEN hA.env h2 (λhc=>?_) (λhc=>?_)
  ·rw[aL hc] at hF;exact k1 hF a w (aEV hc ss ho hr)
  ·rw[aN aj] at hF;exact k2 hF a w (aEV hc ss ho hr))
theorem ca{cf':rL}(ss:List Nat)(hs:iO T n K cf m e L=.case b cf' K' m' e' L')(ho:aV (BZ e') ss=some (ss.map λ_=>SV.b b))(hF:(if b=true then A else B')=q)
  (k1:A=q->G (.mk P T hT n c B0 N X Q) K' m' (ovr true e' ss) L' cf') (k2:B'=q->G (.mk P T hT n c B0 N X Q) K' m' (ovr false e' ss) L' cf'):G (.mk P T hT n c B0 N X Q) K m e L cf:=
 gE (g:=.mk P T hT n c B0 N X Q) (by
  rw[hs];cases b with
  |true=>exact aFS (λa B hA=>VV rfl ss ho hA) (k1 aj)
  |false=>exact aFS (λa B hA=>VV rfl ss ho hA) (k2 aj))
end
def QS(P:Program)(fn:Func)(c:Ctx)(B0:Bl){ρ ex:Type}(sv:ρ->ex->SV)(Lf:ρ->ex->List Ch)(r:ρ):Act->World->Prop:=Fin P fn λv w'=>∃y,fA B0 (sv r y)=some v/\kY c w' B0 (Lf r y)
theorem aTT{r:ResultVar}{x:SV}{B:Bl}{a:Act}{w:World}(hT:CR P T)(hA:gA n B e a)(hS:kY c w B L)(h:a2P T e L r=some x):∃v,fA B x=some v/\(aAJ a.tmps r).run P w=.ok v w:=by
 cases r with
 |tmp t=>
  obtain⟨v,h1,h2⟩:=hA.get t x h;simp_all[aAJ]
 |cell t ty=>
  simp only[a2P] at h;split at h
  ·rename_i p hp;obtain⟨v,h1,h2⟩:=hA.get t p hp;unfold aK0 at h;split at h
   ·rename_i n0 o0;split at h
    ·rename_i cs _ mm _ hb hl;split at h
     ·rename_i hle;split at h
      case h_2=>cases h
      rename_i ds hds;cases h;have:=P8 hds;subst this;obtain⟨b,z,vs,g1,g2,g3⟩:=hS.cells hb;have hlen:=k9 g2;have hle:=RQ hle;simp only[fA,gV,bQ,g1] at h1;cases h1;have h4:=VQ mm (VP o0 g2);have h5:=YN g3 (o:=o0) (m:=mm) aa;have h6:=pP h5 P;have h7:((vs.drop o0).take mm).length=mm:=ah
      rw[h7] at h6;refine⟨.agg ((vs.drop o0).take mm).toArray,by grind[fA,gV],?_⟩;simp[aAJ,h2,asAddr,loadVar,hT.agg _ _ hl,hT.size _ _ hl,h6]
     ·cases h
    ·rename_i cs _ _ _ hb hl;obtain⟨b,z,vs,g1,g2,g3⟩:=hS.cells hb;simp only[fA,gV,bQ,g1] at h1;cases h1;obtain⟨u,h4,h5⟩:=TY g2 h;refine⟨u,aYE h4,?_⟩;have h6:=g3 o0 u h5;simp[aAJ,h2,asAddr,loadVar,hT.agg _ _ hl,load,Sem.run,h6]
    ·cases h
   ·cases h
  ·cases h
end
section
variable {P:Program} {T:TT} {hT:CR P T} {n:Nat} {c:Ctx} {B0:Bl} {N:Act->World->Prop} {X:Nat->Act->World->Prop} {Q:Act->World->Prop} {K K':List Fr} {m m':Nat} {e e':SE} {L L':List Ch} {cf:rL}
theorem a27{B:Bl}{x:SV}{v:Value}(h:fA B x=some v)(hc:isCells x=true):gV B x=some v:=by cases x<;>first|exact h|cases hc
theorem YQ{r:ResultVar}{x:SV}{B:Bl}{a:Act}{w:World}(hT:CR P T)(hA:gA n B e a)(hS:kY c w B L)(h:aQX T e L r=some x):∃v,gV B x=some v/\(aAJ a.tmps r).run P w=.ok v w:=by grind[aQX,aTT,a27]
theorem aMD{rs:List ResultVar}{x:SV}{B:Bl}{a:Act}{w:World}{fn:Func}(hf:fn.results=rs.toArray)(hT:CR P T)(hA:gA n B e a)(hS:kY c w B L)(h:aQY T e L rs=some x):∃v,fA B x=some v/\(results fn a.tmps).run P w=.ok v w:=by
 rw[aQP hf];unfold aQY at h;split at h
 ·cases h;exact⟨.tuple #[],rfl,ae⟩
 ·obtain⟨v,h1,h2⟩:=aTT hT hA hS h;simp_all
 ·split at h
  ·rename_i g1 g2;cases h;obtain⟨v1,h1,k1⟩:=YQ hT hA hS g1;obtain⟨v2,h2,k2⟩:=YQ hT hA hS g2;simp_all[fA,aV]
  ·cases h
 ·split at h
  ·rename_i g1 g2 g3;cases h;obtain⟨v1,h1,k1⟩:=YQ hT hA hS g1;obtain⟨v2,h2,k2⟩:=YQ hT hA hS g2;obtain⟨v3,h3,k3⟩:=YQ hT hA hS g3;simp_all[fA,aV]
  ·cases h
 ·cases h
structure FnS (P:Program) (f:FuncId) (c:Ctx) (xs:List SV) (B0:Bl) (L0:List Ch) {ρ ex:Type} (sv:ρ->ex->SV) (Lf:ρ->ex->List Ch) (r:ρ):Prop where
 call:∀args w,(callFunc f args).run P w=.ok (.enter f args) w
 run:∀vs,aV (fA B0) xs=some vs->kY c c.w0 B0 L0->Calls P f vs.toArray c.w0 (Ret λv w'=>∃y,fA B0 (sv r y)=some v/\kY c w' B0 (Lf r y))
abbrev Fn0(P:Program)(f:FuncId)(c:Ctx)(xs:List SV){ρ:Type}(sv:ρ->SV)(r:ρ):Prop:=FnS P f c xs [] [] (λr (_:Unit)=>sv r) (λ_ _=>[]) r
def aK6:Nat->List SV->SE
 |_,[]=>[]
 |k,v::r=>(k,v)::aK6 (k+1) r
theorem aK7{B:Bl}:∀{xs:List SV} {vs:List Value} (k:Nat) {j:Nat} {x:SV},aV (fA B) xs=some vs->BZ (aK6 k xs) j=some x->∃v,fA B x=some v/\lk (aN6 k vs) j=some v
 |[],vs,k,j,x,h,hj=>by grind[aK6,BZ]
 |y::xs,vs,k,j,x,h,hj=>by
  simp only[aV] at h;split at h
  ·cases h
  ·rename_i h1;split at h
   ·cases h
   ·rename_i h2;cases h;simp only[aK6,BZ] at hj;simp only[aN6,lk];cases hb:Nat.beq j k with
    |true=>grind
    |false=>rw[hb] at hj;exact aK7 (k+1) h2 hj
theorem en{f:FuncId}{fn:Func}{cd:Code}{xs:List SV}{L0:List Ch}{ρ ex:Type}{sv:ρ->ex->SV}{Lf:ρ->ex->List Ch}{r:ρ}(n:Nat)(hc:∀args w,(callFunc f args).run P w=.ok (.enter f args) w)(hf:P.funcs[f]?=some fn)(hT:CR P T)(hb:fn.body=some cd)(hm:fn.ntmps=n)(hl:Nat.ble xs.length n=true)
  (k:G (.mk P T hT n c B0 (QS P fn c B0 sv Lf r) (λ_ _ _=>False) (QS P fn c B0 sv Lf r)) [] B0.length (aK6 0 xs) L0 (.c cd)):FnS P f c xs B0 L0 sv Lf r:=by
 refine⟨hc,λvs hv hS=>aU7 hf hb hm ?_ λa hA=>?_⟩
 ·grind[k9]
 ·refine CW.mono (k a c.w0 ⟨[],ae,⟨hA.d,hA.size,λj x hj=>?_⟩,aj⟩) (λ_ _ h=>h) (λ_ _ _ h=>h) (λ_ _ h=>h);obtain⟨v,h1,h2⟩:=aK7 0 hv hj;exact⟨v,aj,hA.get j v h2⟩
theorem aYW(w:World):kY (eB w) w [] []:=⟨⟨[],St.enter ae,ae⟩,λ_ _ h=>h⟩
theorem rt{fn:Func}{ρ ex:Type}{sv:ρ->ex->SV}{Lf:ρ->ex->List Ch}{r r':ρ}{rs:List ResultVar}{zz:Option ρ}(y:ex)(is:List Nat)(hF:zz=some r)(hz:zz=some r')(hs:iO T n K cf m e L=.ret m' e' L')(hr:fn.results=rs.toArray){x:SV}(hv:aQY T e' L' rs=some x)(hx:nbS x=sv r' y)(hk:yH B0.length (sv r' y)=true)(hL:WO B0.length m' e' L' is B0.length [] (Lf r' y)=some ([],Lf r' y)):G (.mk P T hT n c B0 N X (QS P fn c B0 sv Lf r)) K m e L cf:=by subst hz;cases hF;refine gE (g:=.mk P T hT n c B0 N X _) ?_;rw[hs];intro a w hr';obtain⟨B,hm,hA,hS⟩:=id hr';obtain⟨v,h1,h2⟩:=aMD hr hT hA hS hv;obtain⟨B',hm',_,hS'⟩:=hr'.WO is hL;have hB':B'=[]:=(by simp_all);subst hB';refine⟨hA.d,v,h2,y,?_,aj⟩;rw[<-hx] at hk ⊢;have:=P9 hk (by rw[aEQ];exact h1);grind
theorem rf{fn:Func}{ρ ex:Type}{sv:ρ->ex->SV}{Lf:ρ->ex->List Ch}{r r':ρ}{rs:List ResultVar}{zz:Option ρ}(y:ex)(is:List Nat)(hF:zz=some r)(hz:zz=some r')(hs:iO T n K cf m e L=.fin m' e' L')(hr:fn.results=rs.toArray){x:SV}(hv:aQY T e' L' rs=some x)(hx:nbS x=sv r' y)(hk:yH B0.length (sv r' y)=true)(hL:WO B0.length m' e' L' is B0.length [] (Lf r' y)=some ([],Lf r' y)):G (.mk P T hT n c B0 (QS P fn c B0 sv Lf r) X Q) K m e L cf:=by subst hz;cases hF;refine gE (g:=.mk P T hT n c B0 _ X Q) ?_;rw[hs];intro a w hr';obtain⟨B,hm,hA,hS⟩:=id hr';obtain⟨v,h1,h2⟩:=aMD hr hT hA hS hv;obtain⟨B',hm',_,hS'⟩:=hr'.WO is hL;have hB':B'=[]:=(by simp_all);subst hB';refine⟨hA.d,v,h2,y,?_,aj⟩;rw[<-hx] at hk ⊢;have:=P9 hk (by rw[aEQ];exact h1);grind
def bU(c:Ctx){O:Type}[aJ O](s:AC)(d:List O):Prop:=aJ.rd c.S0 c.w0 [s.v d.length] d
structure HS (c:Ctx) (w:World) (L:List Ch):Prop where
 ex:∃B,kY c w B L
abbrev ow{O:Type}[aJ O](s:AC)(d:List O):Ch:=.o (eK [s.v d.length] d)
abbrev fr{O:Type}[aJ O](s:AC)(d:List O):Ch:=.f (fRd [s.v d.length] d)
theorem aME{w:World}{B:Bl}(hS:kY c w B L){f:Fact}(h:f.P c.S0 c.w0):f.P c.S0 w:=by obtain⟨⟨R,s1,_⟩,s0⟩:=hS;exact f.agree h λb o hb=>s1.keep.cell b o (s0 b o hb) λhw=>s1.apart b o hw hb
theorem aQ3{w:World}{B:Bl}(hS:kY c w B L):∀b o,c.S0 b o->TW w b o:=λb o hb=>by obtain⟨⟨R,s1,_⟩,s0⟩:=hS;exact KM (s0 b o hb) s1.keep.size
theorem HS.a{w:World}{O:Type}[aJ O]{s:AC}{d:List O}(h:HS c w L)(hr:bU c s d):bU (eB w) s d:=by obtain⟨B,hS⟩:=h.ex;have h1:(fRd [s.v d.length] d).P c.S0 w:=aME hS (f:=fRd [s.v d.length] d) hr;exact aJ.rd_mono h1 (aQ3 hS)
theorem HS.o{w:World}{O:Type}[aJ O]{s:AC}{d:List O}(h:HS c w L)(i:Nat)(hi:L[i]?=some (ow s d)):bU (eB w) s d:=by obtain⟨B,⟨⟨R,s1,_⟩,_⟩⟩:=h.ex;exact s1.aS3 i (by rw[yF,hi];rfl)
theorem HS.f{w:World}{O:Type}[aJ O]{s:AC}{d:List O}(h:HS c w L)(i:Nat)(hi:L[i]?=some (fr s d)):bU (eB w) s d:=by obtain⟨B,⟨⟨R,s1,s2⟩,_⟩⟩:=h.ex;obtain⟨j,hj⟩:=aBW (s2 _ (HA hi));exact s1.rd j hj
theorem aEW{B:Bl}:∀{xs:List SV} {vs:List Value},okA xs=true->aV (fA B) xs=some vs->aV (fA []) xs=some vs
 |[],vs,_,h=>h
 |x::xs,vs,ho,h=>by
  simp only[okA] at ho;split at ho
  ·rename_i h0;simp only[aV] at h;split at h
   ·cases h
   ·rename_i h1;split at h
    ·cases h
    ·rename_i h2;cases h;have h3:=P9 h0 h1;rw[List.take_zero] at h3;simp[aV,h3,aEW ho h2]
  ·cases ho
theorem YR{B:Bl}{a:Act}(hA:gA n B e a):∀{os:List Operand} {xs:List SV},aV (gY e) os=some xs->∃vs,aV (fA B) xs=some vs/\evs (vE B e) os=some vs
 |[],xs,h=>by cases h;exact⟨[],rfl,rfl⟩
 |o::os,xs,h=>by
  simp only[aV] at h;split at h
  ·cases h
  ·rename_i h1;split at h
   ·cases h
   ·rename_i h2;cases h;obtain⟨v,k1,k2⟩:=dZ hA h1;obtain⟨vs,k3,k4⟩:=YR hA h2;grind[aV,evs]
def noF:List Ch->Bool
 |[]=>true
 |.ro _ _::_=>false
 |.f _::_=>false
 |.w _ _ _::_=>false
 |_::L=>noF L
theorem aFT{B:Bl}{R:List Fact}:∀{L:List Ch},noF L=true->∀x∈L,roF B R x
 |[],_,x,hx=>by cases hx
 |y::L,h,x,hx=>by
  rcases uI.1 hx with hx'|hx'
  ·subst hx';cases x<;>first|trivial|cases h
  ·cases y with
   |ro=>cases h
   |f=>cases h
   |w=>cases h
   |_=>exact aFT (L:=L) h x hx'
theorem kY.after{w w':World}{B:Bl}{L2:List Ch}(h:kY c w B L)(hn:noF L2=true)(k:kY (eB w) w' [] L2):kY c w' B (L++L2):=by
 obtain⟨⟨R,s1,s2⟩,s0⟩:=h;obtain⟨⟨R',t1,t2⟩,t0⟩:=k;refine⟨⟨R,?_,λx hx=>?_⟩,s0⟩
 ·rw[BX];have h1:=s1.after t1;refine h1.imp (iV.append (iV.refl _) ?_);have:=VR (B:=[]) B (w:=w') L2;grind
 grind[aFT]
theorem kY.a6I{w w':World}{B:Bl}(h:kY c w B L)(k:dS F0 w w'):kY c w' B L:=by obtain⟨⟨R,s1,s2⟩,s0⟩:=h;exact⟨⟨R,s1.same k,s2⟩,s0⟩
theorem T0{o:Oper}{f:FuncId}{x:Operand}{args:Array Operand}{ts:Array TypeId}{vs:List Value}{E:Env}{w:World}(hcall:∀args w,(callFunc f args).run P w=.ok (.enter f args) w)(ho:o.op=.call {callee:=.value x,args:=args,argTypes:=ts})(hx:ev E x=some (.func (.func f) #[] #[]))(hv:evs E args.toList=some vs):a5G P o E w f vs.toArray:=by have:=aOA (w:=w) (cap:=[]) (xs:=args.toList) (vs:=vs) hcall aa hx hv;grind
theorem cl{O J ex:Type}{fo:Option O}{kf:O->Option J}{q:J}{o:Oper}{d:Nat}{f:FuncId}{xs:List SV}{cf1 cf2:rL}{sv:O->ex->SV}{Lf:O->ex->List Ch}(hs:iO T n K cf m e L=.call o (some d) f xs cf1 cf2 K' m' e' L')(hn:∀x y,noF (Lf x y)=true)
  (hc:∀{w},HS c w L'->∀{x},fo=some x->FnS P f (eB w) xs [] [] sv Lf x) (hF:fo.bind kf=some q)
  (k:∀x,fo=some x->kf x=some q->∀y:ex,G (.mk P T hT n c B0 N X Q) K' m' ((d,sv x y)::e') (L'++Lf x y) cf2):G (.mk P T hT n c B0 N X Q) K m e L cf:=by
 refine gE (g:=.mk P T hT n c B0 N X Q) ?_;rw[hs];intro fo' args ats ho hd hf ⟨ys,hys,hxs⟩ hA0 hdn hE;subst hxs;cases hfo:fo with
 |none=>grind
 |some x=>
  rw[hfo] at hF;refine hE ex (λ_=>m') (λy=>(d,sv x y)::e') (λy=>L'++Lf x y) (λy=>rN _) (λB a w next Q' hm hA hS hnext=>?_) (k x hfo hF);obtain⟨hcall,hrun⟩:=hc ⟨_,hS⟩ hfo;obtain⟨vs,h1,h2⟩:=YR hA hys;obtain⟨v,h3,h4⟩:=dZ hA hf;simp[fA,aV] at h3;subst h3;have h5:=hrun vs (aEW hA0 (by rw[QA];exact h1)) (aYW w);have h6:=T0 (w:=w) hcall ho h4 h2;unfold Oper.wp;rw[h6 _ a hA.env,Oper.upon_enter];refine Calls.mono h5 λen w' ⟨v,hv,y,g1,g2⟩=>?_;subst hv;rw[hd];have g3:=uK (WQ (.mk P T hT n c B0 N X Q) cf1++B) g1;exact hnext y _ _ ⟨[],aj,by simpa using hA.of aj (hA.env.put (by grind[pQ,vF]) v),by simpa using hS.after (hn x y) g2⟩
end
section
variable {P:Program} {T:TT} {hT:CR P T} {n:Nat} {c:Ctx} {B0:Bl} {N:Act->World->Prop} {X:Nat->Act->World->Prop} {Q:Act->World->Prop} {K K':List Fr} {m m':Nat} {e e':SE} {L L':List Ch} {cf:rL}
def NxP(n:Nat)(c:Ctx)(B0:Bl){σ ρ υ:Type}(o:Step σ ρ)(m:Nat)(el:σ->υ->SE)(Ll:σ->υ->List Ch):Act->World->Prop:=λa w=>∃s u,o=.next s/\oV n c B0 m (el s u) (Ll s u) a w
def BkP(n:Nat)(c:Ctx)(B0:Bl){J ρ υ:Type}(ro:ρ)(enc:J->ρ)(m:Nat)(ej:J->υ->SE)(Lj:J->υ->List Ch)(id:Nat)(X:Nat->Act->World->Prop):Nat->Act->World->Prop:=λi a w=>if i=id then ∃b u,ro=enc b/\oV n c B0 m (ej b u) (Lj b u) a w else X i a w
theorem lp{σ ρ υ J ω O:Type}{id:Nat}{y:Code}{fb:σ->Option (Step σ ρ)}{s0:σ}{gk:ρ->Option O}{q:O}(u0:υ)(ks:List Nat)(el:σ->υ->SE)(is0 is:List Nat)(Ll:σ->υ->List Ch)(enc:J->ρ)(kb:List Nat)(ej:J->ω->SE)(ib:List Nat)(Lj:J->ω->List Ch)
  (hs:iO T n K cf m e L=.loop id y K' m' e' L') (hF:(loop fb s0).bind gk=some q)
  (h0:WO B0.length m' e' L' is0 m' (el s0 u0++kp e' ks) (Ll s0 u0++kl L' is)=some (el s0 u0++kp e' ks,Ll s0 u0++kl L' is))
  (k1:∀ro,gk ro=some q->∀s u o,fb s=some o->(∀p,o=.stop p->p=ro)->G (.mk P T hT n c B0 (NxP n c B0 o m' (λs u=>el s u++kp e' ks) (λs u=>Ll s u++kl L' is)) (BkP n c B0 ro enc m' (λb u=>ej b u++kp e' kb) (λb u=>Lj b u++kl L' ib) id (XK (.mk P T hT n c B0 N X Q) K')) Q) [] m' (el s u++kp e' ks) (Ll s u++kl L' is) (.c y))
  (k2:∀b u,gk (enc b)=some q->G (.mk P T hT n c B0 N X Q) K' m' (ej b u++kp e' kb) (Lj b u++kl L' ib) .n):G (.mk P T hT n c B0 N X Q) K m e L cf:=by
 refine gE (g:=.mk P T hT n c B0 N X Q) ?_;rw[hs];intro a w hr;cases hl:loop fb s0 with
 |none=>grind
 |some ro=>
  rw[hl] at hF;have hF:gk ro=some q:=hF;refine aN7 (a1W (body:=fb) (r:=ro) (λs a w=>∃u,oV n c B0 m' (el s u++kp e' ks) (Ll s u++kl L' is) a w) ?_ hl ⟨u0,hr.WO is0 h0⟩);intro s a w o ⟨u,hI⟩ hb ho;refine CW.mono (k1 ro hF s u o hb ho a w hI) ?_ ?_ (λ_ _ h=>h)
  ·rintro a w ⟨s',u',h1,h2⟩;grind
  ·intro i a w h;simp only[XK,BkP,aKX] at h ⊢;split
   ·rename_i hi;rw[aL hi] at h;obtain⟨b,u,h1,h2⟩:=h;exact k2 b u (h1 ▸ hF) a w h2
   grind
theorem nx{σ ρ υ:Type}{o:Step σ ρ}{mj:Nat}{el:σ->υ->SE}{Ll:σ->υ->List Ch}{s:σ}(u:υ)(is:List Nat)(hG:some (Step.next s)=some o)(hs:iO T n K cf m e L=.fin m' e' L')(h:WO B0.length m' e' L' is mj (el s u) (Ll s u)=some (el s u,Ll s u)):G (.mk P T hT n c B0 (NxP n c B0 o mj el Ll) X Q) K m e L cf:=
 gE (g:=.mk P T hT n c B0 _ X Q) (by
  rw[hs];cases hG;exact λa w hr=>⟨s,u,rfl,hr.WO is h⟩)
theorem bk{σ ρ J υ:Type}{o:Step σ ρ}{ro:ρ}{enc:J->ρ}{mj id:Nat}{ej:J->υ->SE}{Lj:J->υ->List Ch}{b:J}(u:υ)(is:List Nat)(hG:some (Step.stop (enc b))=some o)(hr:∀p,o=.stop p->p=ro)(hs:iO T n K cf m e L=.ex id m' e' L')(h:WO B0.length m' e' L' is mj (ej b u) (Lj b u)=some (ej b u,Lj b u)):G (.mk P T hT n c B0 N (BkP n c B0 ro enc mj ej Lj id X) Q) K m e L cf:=
 gE (g:=.mk P T hT n c B0 N _ Q) (by
  rw[hs];cases hG;have:=hr _ rfl;subst this;intro a w hr;show BkP n c B0 (enc b) enc mj ej Lj id X id a w;unfold BkP;rw[aL rfl];exact⟨b,u,rfl,hr.WO is h⟩)
theorem re{σ ρ O:Type}{o:Step σ ρ}{p ro:ρ}{F:ρ->Option O}{q:Option O}{zz:Option (Step σ ρ)}(hG:zz=some o)(hz:zz=some (Step.stop p))(hr:∀p,o=.stop p->p=ro)(hF:F ro=q):F p=q:=aj
structure FI (O:Type) [aJ O] where
 ex:Type
 cs:O->ex->List SV
 sub:cE->World->O->ex->Prop
 ok:∀{S w ec x},aJ.rd S w ec x->∃y,aV (bQ []) (cs x y)=some ec/\sub S w x y
 sv:O->ex->SV
 bAL:∀{S S' w w' x y},sub S w x y->(∀b o,S b o->w'.cell? ⟨b,o,none⟩=w.cell? ⟨b,o,none⟩)->(∀b o,S b o->S' b o)->sub S' w' x y
def cI:FI Int:=⟨Unit,λx _=>[.i .i64 x],λ_ _ _ _=>True,λh=>⟨(),by cases h;rfl,trivial⟩,λx _=>.i .i64 x,λ_ _ _=>trivial⟩
def cU:FI UInt8:=⟨Unit,λx _=>[.y x],λ_ _ _ _=>True,λh=>⟨(),by cases h;rfl,trivial⟩,λx _=>.y x,λ_ _ _=>trivial⟩
theorem IV{O:Type}[aJ O]{S:cE}{w:World}{ec:List Value}{l:List O}(h:aJ.rd S w ec l):∃s:AC,ec=[s.v l.length]:=by obtain⟨ad,m,h1,_⟩:=(show wV S w ec l from h);exact⟨⟨ad,m⟩,h1⟩
def cL{O:Type}[aJ O]:FI (List O):=⟨AC,λx y=>[.h y x.length],λS w x y=>aJ.rd S w [y.v x.length] x,λh=>by
 obtain⟨s,h1⟩:=IV h;subst h1;exact⟨s,rfl,h⟩,λx y=>.h y x.length,λh h1 h2=>aJ.rd_mono (aJ.rd_agree h h1) h2⟩
theorem St.a8N{w:World}{M:List Chunk}{R:List Fact}{f:Fact}(h:St c w M R)(s0:∀b o,c.S0 b o->b<c.w0.heap.size)(hf:f.P c.S0 c.w0):St c w M (R++[f]):=by
 obtain⟨F,S,a1,a2,a3,a4,a5,a6⟩:=h.sep;refine⟨h.keep,⟨F,λb o=>S b o\/c.S0 b o,a1,?_,a3,?_,?_,?_⟩,h.apart⟩
 ·rintro b o hF (hs|hs)
  ·exact a2 b o hF hs
  ·rcases a3 b o hF with hw|hw
   ·exact h.apart b o hw hs
   grind
 ·grind
 ·rintro b o (hs|hs)
  ·grind
  ·exact KM (s0 b o hs) h.keep.size
 ·intro g hg;rcases iX.1 hg with hg|hg
  ·exact g.mono (a6 g hg) λb o hs=>.inl hs
  ·simp at hg;subst hg;exact g.mono (g.agree hf λb o hb=>h.keep.cell b o (s0 b o hb) λhw=>h.apart b o hw hb) λb o hs=>.inr hs
theorem kY.a8O{w:World}{B:Bl}{k b z:Nat}{cs:List SV}{vs:List Value}(h:kY c w B L)(hk:B[k]?=some (b,z))(hc:aV (bQ B) cs=some vs)(hf:(fAt b z vs).P c.S0 c.w0):kY c w B (L++[.ro k cs]):=by
 obtain⟨⟨R,s1,s2⟩,s0⟩:=h;refine⟨⟨R++[fAt b z vs],?_,λx hx=>?_⟩,s0⟩
 ·rw[BX];exact St.more (ch:=I4) (St.a8N s1 s0 hf) (dS.refl _ _) ⟨F0,λ_ _ h=>h,λ_ _ h=>h.elim⟩
 ·rcases iX.1 hx with hx|hx
  ·grind[YM]
  ·simp at hx;subst hx;exact⟨b,z,vs,hk,hc,ae⟩
theorem ix{O J:Type}{iR:aJ O}(C:FI O){o:Oper}{d t:Nat}{s:AC}{i:Int}{Lv:List Ch}{cf1 cf2:rL}{ls:List O}{kf:O->Option J}{q:J}{el sz:Nat}{b1 b2:Bool}{z1 z2:List SV}{k2:TK}{n1:Nat}(hs:iO T n K cf m e L=.idx o d t s ls.length i Lv cf1 cf2 K' m' e' L')(h1:bU c s ls)(hF:(idx ls i).bind kf=some q)(ht:wU T t=some ⟨.sl el,b1,n1,z1⟩)(he:wU T el=some ⟨k2,b2,sz,z2⟩)(hn:aJ.n O=sz)
  (k:∀x,idx ls i=some x->kf x=some q->∀y:C.ex,C.sub c.S0 c.w0 x y->G (.mk P T hT n c B0 N X Q) K' (m'+1) ((d,.p m' 0)::e') (L'++[.ro m' (C.cs x y)]) (cf2.ext [.ro m' (C.cs x y)])):G (.mk P T hT n c B0 N X Q) K m e L cf:=by
 refine gE (g:=.mk P T hT n c B0 N X Q) ?_;rw[hs];intro x' y' ho hd hx hy hP;cases hi:idx ls i with
 |none=>grind
 |some x=>
  rw[hi] at hF;obtain⟨dd,hd1,hd2⟩:=hT.und _ _ ht;simp only at hd2;subst hd2;obtain⟨ec,p1,p2⟩:=a55 (S:=c.S0) (w:=c.w0) h1 (zC hi).2.2;obtain⟨y,p3,p4⟩:=C.ok p2;subst hn;refine hP d (.p m' 0) [.ro m' (C.cs x y)] (λ_=>[(S4 (s.v ls.length),RS (aJ.n O) i.toNat (s.v ls.length))]) 1 hd (λ_=>rfl) (λB a w hA hS hm=>?_) (λB w L hm hS=>?_) (k x hi hF y p4)
  ·obtain⟨v,g1,g2⟩:=dZ hA hx;obtain⟨u,g3,g4⟩:=dZ hA hy;cases g1;cases g3;have hrd:aJ.rd c.S0 w [s.v ls.length] ls:=aME hS (f:=fRd [s.v ls.length] ls) h1;exact⟨_,by grind[fA,gV,bQ],a5X (P:=P) (o:=o) (w:=w) hrd rfl hi hd1 (hT.size _ _ he) ho g2 g4⟩
  ·exact(hS.app _).a8O (b:=S4 (s.v ls.length)) (z:=RS (aJ.n O) i.toNat (s.v ls.length)) aj (eP (λx v h=>by simpa using fU (B:=[]) _ h) p3) p1
theorem dr{id:Nat}{ops:Array Oper}(is:List Nat)(hs:iO T n K cf m e L=.rgn id ops K' m' e' L')(hm:P.follows .mixedOrders=true)(hf:(aOE ops && (okL m' (kl L' is) && (cX is && is.all λj=>Nat.blt j L'.length)))=true)
  (k:∀B1,G (.mk P T hT n c B0 N X Q) K' m' e' L' (.d B1 ops (List.replicate ops.size false) is (kl L' is) (kl L' is))):G (.mk P T hT n c B0 N X Q) K m e L cf:=by
 refine gE (g:=.mk P T hT n c B0 N X Q) ?_;rw[hs];intro a w ⟨B,hmm,hA,hS⟩;simp only[CL,aI3,vF] at hf;obtain⟨f1,f2,f3,f4⟩:=hf;refine wp_region_held (S:=Sd (.mk P T hT n c B0 N X Q) (B0++B) (kl L' is)) hm ?_;have:=k (B0++B) ⟨⟨B,rfl⟩,ae,f1,rfl,f4,aj,f3⟩ a w.drew ⟨[],aj,aj,by simpa using hS.a6I (dS.drew F0 w),λw' h=>aj⟩;simp_all
end
inductive StF (P:Program):List Field->List (Nat×Nat)->Prop where
 |n:StF P [] []
 |c {F:Field} {Fs:List Field} {fs:List (Nat×Nat)} {m:Nat} (h:∀w,(sizeOf F.type).run P w=.ok m w) (t:StF P Fs fs):StF P (F::Fs) ((F.offset,m)::fs)
section
variable {P:Program} {T:TT} {t n:Nat} {a:Bool} {zs:List SV} {z:Value}
theorem StF.off{Fs:List Field}{fs:List (Nat×Nat)}(h:StF P Fs fs):Fs.map (·.offset)=fs.map (·.1):=by
 induction h with
 |n=>rfl
 |c h t ih=>simp[ih]
theorem StF.get{Fs:List Field}{fs:List (Nat×Nat)}(h:StF P Fs fs):∀(j:Nat) F,Fs[j]?=some F->∃m,fs[j]?=some (F.offset,m)/\∀w,(sizeOf F.type).run P w=.ok m w:=by
 induction h with
 |n=>simp
 |c h t ih=>
  intro j F hj;cases j with
  |zero=>simp_all
  |succ j=>grind
theorem StF.run{Fs:List Field}{fs:List (Nat×Nat)}(h:StF P Fs fs)(w:World):(Fs.mapM λf=>(do pure (f.offset,<-sizeOf f.type):Sem (Nat×Nat))).run P w=.ok fs w:=by
 induction h with
 |n=>simp
 |c h t ih=>simp_all
theorem CR.nil:CR P []:=⟨λ_ _ h=>(by cases h),λ_ _ h=>(by cases h),λ_ _ h=>(by cases h),λ_ _ h=>(by cases h)⟩
theorem CR.add{k:TK}{d:TypeDesc}(hu:P.underlying t=some d)(hk:match k with
  |.i k=>d=.int k
  |.b=>d=.bool
  |.st fs=>∃Fs:Array Field,d=.struct Fs/\Fs.toList.map (·.offset)=fs.map (·.1)/\(∀(j:Nat) F,Fs[j]?=some F->∃m,fs[j]?=some (F.offset,m)/\∀w,(sizeOf F.type).run P w=.ok m w)/\∀w,(Fs.mapM λf=>(do pure (f.offset,<-sizeOf f.type):Sem (Nat×Nat))).run P w=.ok fs.toArray w
  |.s=>d=.string
  |.sl el=>d=.slice el
  |.x=>True) (ha:∀w,(isAgg t).run P w=.ok a w) (hs:∀w,(sizeOf t).run P w=.ok n w) (hz:∀w,(zeroValue t).run P w=.ok z w) (hc:aV (bQ []) zs=some z.cells.toList) (h:CR P T):CR P ((t,⟨k,a,n,zs⟩)::T):=by
 refine⟨λt' i hi=>?_,λt' i hi=>?_,λt' i hi=>?_,λt' i hi=>?_⟩<;>simp only[wU] at hi<;>split at hi
 ·grind[nS]
 ·exact h.und t' i hi
 ·grind[nS]
 ·exact h.agg t' i hi
 ·grind[nS]
 ·exact h.size t' i hi
 ·grind[nS]
 ·exact h.zero t' i hi
theorem CR.st{fs:List (Nat×Nat)}{Fs:List Field}(hu:P.underlying t=some (.struct Fs.toArray))(hk:StF P Fs fs)(ha:∀w,(isAgg t).run P w=.ok a w)(hs:∀w,(sizeOf t).run P w=.ok n w)(hz:∀w,(zeroValue t).run P w=.ok z w)(hc:aV (bQ []) zs=some z.cells.toList)(h:CR P T):CR P ((t,⟨.st fs,a,n,zs⟩)::T):=
 CR.add (k:=.st fs) hu ⟨Fs.toArray,rfl,by simpa using hk.off,λj F hj=>hk.get j F aj,λw=>by
  have:=hk.run w;simp_all⟩ ha hs hz hc h
end
abbrev I(x:Int):SV:=.i .i64 x
section
variable {P:Program} {T:TT} {hT:CR P T} {n:Nat} {c:Ctx} {B0:Bl} {N:Act->World->Prop} {X:Nat->Act->World->Prop} {Q:Act->World->Prop} {K K':List Fr} {m m':Nat} {e e':SE} {L L':List Ch} {cf cf1 cf2:rL} {o:Oper} {Lv:List Ch} {d:Nat}
theorem ext_nil:cf.ext []=cf:=by cases cf<;>simp[rL.ext]
theorem pu{x:SV}(hs:opS (iO T n K cf m e L)=some (o,Lv,cf1,cf2,K',m',e',L'))(hd:o.dst=some d)(hv:∀B a w,gA n B e' a->kY c w B Lv->∃v,fA B x=some v/\eN P o (vE B e') w v w)
  (k:G (.mk P T hT n c B0 N X Q) K' m' ((d,x)::e') L' cf2):G (.mk P T hT n c B0 N X Q) K m e L cf:=by
 refine gE (g:=.mk P T hT n c B0 N X Q) ?_;have key:YP (.mk P T hT n c B0 N X Q) K' m' e' L' o Lv cf1 cf2->G (.mk P T hT n c B0 N X Q) K' m' e' L' cf1:=λhP=>by refine hP d x [] (λ_=>[]) 0 hd (λ_=>rfl) (λB a w hA hS _=>?_) (λB w L _ hS=>aj) (by grind[ext_nil]);grind
 generalize iO T n K cf m e L=s at hs;cases s<;>simp only[opS] at hs<;>cases hs
 ·exact λ_ hP=>key hP
 ·exact λ_ hP _=>key hP
theorem wX{x:Operand}{k:IntKind}{i:Int}{B:Bl}{a:Act}(hA:gA n B e a)(h:(gY e x).bind rK=some (k,i)):ev (vE B e) x=some (.int k i):=by
 cases hx:gY e x with
 |none=>grind
 |some y=>
  grind[dZ,aQZ]
section
variable {x y:Operand} {t z:TypeId} {k:IntKind} {i j:Int} {O:Type} {A:Option O} {q:O}
theorem a8P(hs:opS (iO T n K cf m e L)=some (o,Lv,cf1,cf2,K',m',e',L'))(ho:(o.op,o.dst)=(.binOp .quo t x y z,some d))(hx:(gY e' x).bind rK=some (k,i))(hy:(gY e' y).bind rK=some (k,j))(hF:need (j≠0) A=some q)
  (kk:A=some q->G (.mk P T hT n c B0 N X Q) K' m' ((d,.i k (k.wrap (i.tdiv j)))::e') L' cf2):G (.mk P T hT n c B0 N X Q) K m e L cf:=
 pu hs (cP Prod.snd ho) (λB a w hA _=>⟨_,rfl,aQN (cP Prod.fst ho) (wX hA hx) (wX hA hy) (lP hF).1⟩) (kk (lP hF).2)
theorem a6J{x:Operand}{l:List UInt8}{B:Bl}{a:Act}(hA:gA n B e a)(h:gY e x=some (.s l)):ev (vE B e) x=some (sv l):=by obtain⟨v,h1,h2⟩:=dZ hA h;cases h1;exact h2
theorem cat{p r:List UInt8}(hs:opS (iO T n K cf m e L)=some (o,Lv,cf1,cf2,K',m',e',L'))(ho:(o.op,o.dst)=(.binOp .add t x y z,some d))(hx:gY e' x=some (.s p))(hy:gY e' y=some (.s r))(hF:need (p.length+r.length<=9223372036854775807) A=some q)
  (kk:A=some q->G (.mk P T hT n c B0 N X Q) K' m' ((d,.s (p++r))::e') L' cf2):G (.mk P T hT n c B0 N X Q) K m e L cf:=
 pu hs (cP Prod.snd ho) (λB a w hA _=>⟨_,rfl,a5V (cP Prod.fst ho) (a6J hA hx) (a6J hA hy) (lP hF).1⟩) (kk (lP hF).2)
theorem a8Q{x:Operand}{cs:List SV}{vs:List Value}{B:Bl}{a:Act}(hA:gA n B e a)(h:(gY e x).map nbS=some (.g cs))(hv:aV (bQ []) cs=some vs):ev (vE B e) x=some (.agg vs.toArray):=by
 cases hx:gY e x with
 |none=>grind
 |some y=>
  rw[hx] at h;simp at h;obtain⟨v,h1,h2⟩:=dZ hA hx;rw[h2,<-h1,<-aEQ,h];simp only[fA,gV];have:=eP (g:=bQ B) (λx v h=>by simpa using fU (B:=[]) B h) hv;rw[this]
theorem neS{xs ys:List SV}{vx vy:List Value}{fs:Array Field}{b:Bool}(hg:P.eqGuardType P.depth t=false)(hst:P.stoodInHeld t=false)(hu:P.underlying t=some (.struct fs))(hb:∀w,(Op.eqFields 9999 vx.toArray vy.toArray (match P.underlying t with|some (.struct fs)=>fs|_=>#[]).toList).run P w=.ok b w)(hs:opS (iO T n K cf m e L)=some (o,Lv,cf1,cf2,K',m',e',L'))(ho:(o.op,o.dst)=(.binOp .neq t x y z,some d))(hx:(gY e' x).map nbS=some (.g xs))(hy:(gY e' y).map nbS=some (.g ys))(hvx:aV (bQ []) xs=some vx)(hvy:aV (bQ []) ys=some vy)
  (kk:G (.mk P T hT n c B0 N X Q) K' m' ((d,.b (!b))::e') L' cf2):G (.mk P T hT n c B0 N X Q) K m e L cf:=
 pu hs (cP Prod.snd ho) (λB a w hA _=>⟨_,rfl,a19 hg hst hu hb (cP Prod.fst ho) (a8Q hA hx hvx) (a8Q hA hy hvy)⟩) kk
theorem cl0{O J:Type}{fo:Option O}{kf:O->Option J}{q:J}{f:FuncId}{xs:List SV}{sv:O->SV}(hs:iO T n K cf m e L=.call o (some d) f xs cf1 cf2 K' m' e' L')
  (hc:∀{w},HS c w L'->∀{x},fo=some x->Fn0 P f (eB w) xs sv x) (hF:fo.bind kf=some q)
  (k:∀x,fo=some x->kf x=some q->G (.mk P T hT n c B0 N X Q) K' m' ((d,sv x)::e') L' cf2):G (.mk P T hT n c B0 N X Q) K m e L cf:=
 cl (Lf:=λ_ _=>[]) hs (λ_ _=>rfl) (λh=>hc h) hF (λx hx hk _=>aj)
theorem lr{σ ρ υ O:Type}{id:Nat}{y:Code}{fb:σ->Option (Step σ ρ)}{s0:σ}{gk:ρ->Option O}{q:O}(u0:υ)(ks:List Nat)(el:σ->υ->SE)(is0 is:List Nat)(Ll:σ->υ->List Ch)
  (hs:iO T n K cf m e L=.loop id y K' m' e' L') (hF:(loop fb s0).bind gk=some q)
  (h0:WO B0.length m' e' L' is0 m' (el s0 u0++kp e' ks) (Ll s0 u0++kl L' is)=some (el s0 u0++kp e' ks,Ll s0 u0++kl L' is))
  (k1:∀ro,gk ro=some q->∀s u o,fb s=some o->(∀p,o=.stop p->p=ro)->G (.mk P T hT n c B0 (NxP n c B0 o m' (λs u=>el s u++kp e' ks) (λs u=>Ll s u++kl L' is)) (BkP n c B0 ro (λb:Empty=>nomatch b) m' (λ(b:Empty) (_:Unit)=>nomatch b) (λb _=>nomatch b) id (XK (.mk P T hT n c B0 N X Q) K')) Q) [] m' (el s u++kp e' ks) (Ll s u++kl L' is) (.c y)):G (.mk P T hT n c B0 N X Q) K m e L cf:=
 lp (J:=Empty) (ω:=Unit) u0 ks el is0 is Ll (λb=>nomatch b) [] (λb=>nomatch b) [] (λb=>nomatch b) hs hF h0 (λro hro s u o hb ho=>by
  have:=k1 ro hro s u o hb ho;have h1:(λ(b:Empty) (u:Unit)=>((λb=>nomatch b:Empty->Unit->SE) b u++kp e' []))=(λ(b:Empty) (_:Unit)=>nomatch b):=funext λb=>nomatch b
  have h2:(λ(b:Empty) (u:Unit)=>((λb=>nomatch b:Empty->Unit->List Ch) b u++kl L' []))=(λ(b:Empty) (_:Unit)=>nomatch b):=funext λb=>nomatch b
  simp_all) (λb=>nomatch b)
end
end
section
variable {P:Program} {T:TT} {hT:CR P T} {n:Nat} {c:Ctx} {B0:Bl} {N:Act->World->Prop} {X:Nat->Act->World->Prop} {Q:Act->World->Prop} {K K':List Fr} {m m':Nat} {e e':SE} {L L':List Ch} {cf cf1 cf2:rL} {o:Oper} {Lv:List Ch} {d:Nat}
def YS(P:Program)(c:Ctx){O J:Type}{iR:aJ O}(C:FI O)(sr:J->SV)(g:FuncId)(cap:List Value)(p:O->Option J):Prop:=
 (∀args w,(callFunc g args).run P w=.ok (.enter g args) w)/\∀w,dS c.W c.w0 w->∀x y,C.sub (TW w) w x y->∀q,p x=some q->∀v,fA [] (C.sv x y)=some v->Calls P g (v::cap).toArray w (Ret λu w'=>fA [] (sr q)=some u/\kY (eB w) w' [] [])
def Fu2(P:Program)(c:Ctx){O α' J:Type}{iR:aJ O}{iR':aJ α'}(C:FI O)(C':FI α')(sr:J->SV)(g:FuncId)(cap:List Value)(p:O->α'->Option J):Prop:=
 (∀args w,(callFunc g args).run P w=.ok (.enter g args) w)/\∀w,dS c.W c.w0 w->∀x y x' y',C.sub (TW w) w x y->C'.sub (TW w) w x' y'->∀q,p x x'=some q->∀v v',fA [] (C.sv x y)=some v->fA [] (C'.sv x' y')=some v'->Calls P g (v::v'::cap).toArray w (Ret λu w'=>fA [] (sr q)=some u/\kY (eB w) w' [] [])
theorem aYX{O:Type}{iR:aJ O}(C:FI O){w:World}{B:Bl}(hS:kY c w B L){x:O}{y:C.ex}(h:C.sub c.S0 c.w0 x y):C.sub (TW w) w x y:=by refine C.bAL h (λb o hb=>?_) (aQ3 hS);obtain⟨⟨R,s1,_⟩,s0⟩:=hS;exact s1.keep.cell b o (s0 b o hb) λhw=>s1.apart b o hw hb
theorem kY.aYY{w:World}{B:Bl}(hS:kY c w B L):dS c.W c.w0 w:=by obtain⟨⟨R,s1,_⟩,s0⟩:=hS;exact s1.keep
section
variable {O α' J γ:Type} {iR:aJ O} {iR':aJ α'} {C:FI O} {C':FI α'} {sr:J->SV} {g:FuncId} {cap:List Value} {q:γ} {kf:J->Option γ} {fo:Operand} {args:Array Operand} {ats:Array TypeId}
theorem aYZ{f:FuncId}{x:Operand}{ts:Array TypeId}{vs:List Value}{E:Env}{w:World}(hcall:∀args w,(callFunc f args).run P w=.ok (.enter f args) w)(ho:o.op=.call {callee:=.value x,args:=args,argTypes:=ts})(hx:ev E x=some (.func (.func f) #[] cap.toArray))(hv:evs E args.toList=some vs):a5G P o E w f (vs++cap).toArray:=
 aOA (w:=w) (cap:=cap) (xs:=args.toList) (vs:=vs) hcall aa hx hv
theorem aK8{B:Bl}{x:SV}{v:Value}(h:yH 0 x=true)(hv:fA B x=some v):fA [] x=some v:=by have:=P9 h hv;grind
theorem fa1{p:O->Option J}(H:YS P c C sr g cap p)(x:O)(y:C.ex)(hs:iO T n K cf m e L=.op o Lv cf1 cf2 K' m' e' L')(ho:(o.op,o.dst)=(.call {callee:=.value fo,args:=args,argTypes:=ats},some d))(hf:gY e' fo=some (.k (.func (.func g) #[] cap.toArray)))(hx:(aV (gY e') args.toList).map nbT=some [C.sv x y])(hz:yH 0 (C.sv x y)=true)(hy:C.sub c.S0 c.w0 x y)(hF:(p x).bind kf=some q)
  (k:∀z,p x=some z->kf z=some q->G (.mk P T hT n c B0 N X Q) K' m' ((d,sr z)::e') L' cf2):G (.mk P T hT n c B0 N X Q) K m e L cf:=by
 refine gE (g:=.mk P T hT n c B0 N X Q) ?_;rw[hs];intro hdn _ hE;obtain⟨hcall,hrun⟩:=H;cases hp:p x with
 |none=>grind
 |some z=>
  rw[hp] at hF;refine hE Unit (λ_=>m') (λ_=>(d,sr z)::e') (λ_=>L') (λ_=>by simpa using rN (L:=L') []) (λB a w next Q' hm hA hS hnext=>?_) (λ_=>k z hp hF);cases hys:aV (gY e') args.toList with
  |none=>grind
  |some ys=>
   rw[hys] at hx;simp at hx;obtain⟨vs,h1,h2⟩:=YR hA hys;obtain⟨u,h3,h4⟩:=dZ hA hf;simp only[fA,gV,bQ] at h3;split at h3
   ·cases h3;rw[<-aTN,hx] at h1;simp only[aV] at h1;cases hv:fA (WQ (.mk P T hT n c B0 N X Q) cf1++B) (C.sv x y) with
    |none=>grind
    |some v=>
     rw[hv] at h1;cases h1;have h6:=aYZ (w:=w) hcall (cP Prod.fst ho) h4 h2;have hd:o.dst=some d:=cP Prod.snd ho;unfold Oper.wp;rw[h6 _ a hA.env,Oper.upon_enter];refine Calls.mono (hrun w hS.aYY x y (aYX C hS hy) z hp v (aK8 hz hv)) λen w' ⟨v',hv',g1,g2⟩=>?_;subst hv';rw[hd] at hdn ⊢;have g3:=uK (WQ (.mk P T hT n c B0 N X Q) cf1++B) g1;exact hnext () _ _ ⟨[],aj,by simpa using hA.of aj (hA.env.put (by grind[pQ,vF]) v'),by simpa using hS.after (L2:=[]) rfl g2⟩
   ·cases h3
theorem fu1{w:World}{p:O->Option J}(hc:∀args w,(callFunc g args).run P w=.ok (.enter g args) w)(hn:∀{U:Ctx} {x y},C.sub U.S0 U.w0 x y->∀{q},p x=some q->Fn0 P g U [C.sv x y] sr q):YS P (eB w) C sr g [] p:=
 ⟨hc,λw1 _ x y hy q hq v hv=>by
  refine Calls.mono ((hn (U:=eB w1) hy hq).run [v] (by simp[aV,hv]) (aYW w1)) λen w' ⟨v',h1,y,h2,h3⟩=>⟨v',h1,h2,h3⟩⟩
end
def roL:Nat->List (Nat×List SV)->List Ch
 |_,[]=>[]
 |k,(_,cs)::r=>.ro k cs::roL (k+1) r
def roS:List (Nat×List SV)->List Ch
 |[]=>[]
 |(n,cs)::r=>.ro n cs::roS r
def aY1:Nat->List (Nat×List SV)->List SV
 |_,[]=>[]
 |k,_::r=>.p k 0::aY1 (k+1) r
def O1(Bs:Bl):List Value:=Bs.map λb=>.pointer (some ⟨b.1,b.2,none⟩)
theorem rk{O:Type}[aJ O]{w w1:World}{s:AC}{l:List O}(hk:dS F0 w w1)(h:bU (eB w) s l):bU (eB w1) s l:=
 aJ.rd_mono (aJ.rd_agree h λb o hb=>hk.cell b o hb λh=>h) λb o hb=>KM hb hk.size
theorem fk1{O J:Type}{iR:aJ O}{C:FI O}{sr:J->SV}{g:FuncId}{w:World}{Bs:Bl}{cs:List (Nat×List SV)}{p:O->Option J}(hc:∀args w,(callFunc g args).run P w=.ok (.enter g args) w)(hB:∀w1,dS F0 w w1->kY (eB w1) w1 Bs (roL 0 cs))(hl:aV (fA Bs) (aY1 0 cs)=some (O1 Bs))(hz:∀q,yH 0 (sr q)=true)(hn:∀{w1 x y},dS F0 w w1->C.sub (TW w1) w1 x y->∀{q},p x=some q->FnS P g (eB w1) (C.sv x y::aY1 0 cs) Bs (roL 0 cs) (λr (_:Unit)=>sr r) (λ_ _=>[]) q):YS P (eB w) C sr g (O1 Bs) p:=
 ⟨hc,λw1 hk x y hy q hq v hv=>by
  have hv':fA Bs (C.sv x y)=some v:=by simpa using uK (B:=[]) Bs hv
  refine Calls.mono ((hn hk hy hq).run (v::O1 Bs) (by grind[aV]) (hB w1 hk)) λen w' ⟨v',h1,y',h2,h3⟩=>⟨v',h1,?_,?_⟩
  ·grind[aK8]
  ·simpa using YO (m:=0) h3 rfl⟩
theorem aTU:∀{cs:List (Nat×List SV)} {k:Nat} {x:Ch},x∈roL k cs->∃j n c,cs[j]?=some (n,c)/\x=.ro (k+j) c
 |(n,c)::r,k,x,h=>by
  rcases uI.1 h with h|h
  ·simp_all
  ·obtain⟨j,n',c',h1,h2⟩:=aTU h;exact⟨j+1,n',c',aj,aj⟩
theorem aTV:∀{cs:List (Nat×List SV)} {n:Nat} {c:List SV},(n,c)∈cs->Ch.ro n c∈roS cs
 |(n',c')::r,n,c,h=>by
  rcases uI.1 h with h|h
  ·cases h;exact List.mem_cons_self ..
  ·exact yG _ (aTV h)
theorem aY2{B:Bl}{cs:List (Nat×List SV)}{cap:List Value}:aV (S5 B) (cs.map (·.1))=some cap->∃Bs:Bl,cap=O1 Bs/\Bs.length=cs.length/\∀(j:Nat) n c,cs[j]?=some (n,c)->∃b,Bs[j]?=some b/\B[n]?=some b:=by
 induction cs generalizing cap with
 |nil=>intro h;cases h;exact⟨[],rfl,rfl,ae⟩
 |cons p r ih=>
  obtain⟨n,c⟩:=p;intro h;simp only[TQ,aV] at h;split at h
  ·cases h
  ·rename_i v hv;split at h
   ·cases h
   ·rename_i vs hvs;cases h;obtain⟨Bs,h1,h2,h3⟩:=ih hvs;simp only[S5] at hv;split at hv
    ·rename_i b z hb;cases hv;refine⟨(b,z)::Bs,by simp[O1,h1],by simp[h2],λj n' c' hj=>?_⟩;grind
    ·cases hv
def aOK:List (Nat×List SV)->Bool
 |[]=>true
 |(_,c)::r=>yH.okC 0 c && aOK r
theorem aOL:∀{cs:List (Nat×List SV)} {j n:Nat} {c:List SV},aOK cs=true->cs[j]?=some (n,c)->yH.okC 0 c=true
 |(n',c')::r,0,n,c,h,hj=>by simp_all[aOK]
 |(n',c')::r,j + 1,n,c,h,hj=>by simp only[aOK,CL] at h;exact aOL h.2 (by simpa using hj)
theorem a6K{w:World}{B Bs:Bl}{cs:List (Nat×List SV)}(hS:kY c w B L)(hk:∀x∈roS cs,x∈L)(ho:aOK cs=true)(hB:∀(j:Nat) n c,cs[j]?=some (n,c)->∃b,Bs[j]?=some b/\B[n]?=some b):∀w1,dS F0 w w1->kY (eB w1) w1 Bs (roL 0 cs):=by
 intro w1 hkp;have facts:∀x∈roL 0 cs,∃(f:Fact),f.P (TW w1) w1/\(∀R,f∈R->roF Bs R x)/\jO Bs x=I4:=by intro x hx;obtain⟨j,n,cc,h1,h2⟩:=aTU hx;subst h2;obtain⟨⟨R,s1,s2⟩,s0⟩:=hS;obtain⟨b,z,vs,g1,g2,g3⟩:=s2 _ (hk _ (aTV (HA h1)));obtain⟨b',q1,q2⟩:=hB j n cc h1;rw[g1] at q2;cases q2;have hc0:=CU (aOL ho h1) g2;rw[List.take_zero] at hc0;obtain⟨i,hi⟩:=aBW g3;refine⟨fAt b z vs,a4N (s1.fact i hi) hkp,λR hR=>⟨b,z,vs,by simpa using q1,eP (λx v h=>by simpa using fU (B:=[]) Bs h) hc0,hR⟩,rfl⟩
 have build:∀M:List Ch,(∀x∈M,x∈roL 0 cs)->∃R:List Fact,(∀f∈R,f.P (TW w1) w1)/\(∀x∈M,roF Bs R x)/\M.map (jO Bs)=List.replicate M.length I4:=by
  intro M;induction M with
  |nil=>exact λ_=>⟨[],ae,ae,rfl⟩
  |cons x M ih=>
   intro hM;obtain⟨R,h1,h2,h3⟩:=ih λy hy=>hM y (yG _ hy);obtain⟨f,f1,f2,f3⟩:=facts x (hM x ae);refine⟨f::R,λg hg=>?_,λy hy=>?_,by simp[f3,h3,List.replicate_succ]⟩
   ·rcases uI.1 hg with hg|hg
    ·subst hg;exact f1
    ·exact h1 g hg
   ·rcases uI.1 hy with hy|hy
    ·subst hy;exact f2 _ ae
    ·exact YM (λg hg=>yG _ hg) (h2 y hy)
 obtain⟨R,h1,h2,h3⟩:=build (roL 0 cs) λ_ h=>h;refine⟨⟨R,?_,h2⟩,λ_ _ h=>h⟩;rw[h3];have h4:St (eB w1) w1 [] R:=St.enter h1;generalize (roL 0 cs).length=k;clear h3;induction k with
 |zero=>exact h4
 |succ k ih=>
  rw[List.replicate_succ'];exact St.more (ch:=I4) ih (dS.refl _ _) ⟨F0,λ_ _ h=>h,λ_ _ h=>h.elim⟩
def shr(ns:List Nat):List Ch->List Ch
 |[]=>[]
 |.box n cs::L=>match eO n ns with
  |true=>.box n cs::shr ns L
  |false=>.ro n cs::shr ns L
 |x::L=>x::shr ns L
theorem St.a6L{w:World}{M:List Chunk}{R:List Fact}{b z i:Nat}{vs:List Value}(h:St c w M R)(hi:M[i]?=some (TB b z vs)):St c w (M.set i I4) (R++[fAt b z vs]):=by
 have h1:=h.take i hi;obtain⟨F,S,⟨F1,F2,h1,h2,hd,hF⟩,a2,a3,a4,a5,a6⟩:=h1.sep;have hlt:∀b' o,F1 b' o->b'<w.heap.size:=λ_ _ hf=>Chunk.lt (TB b z vs) h1 hf;obtain⟨g1,g2,g3⟩:=h1;refine⟨h.keep,⟨F2,λb o=>S b o\/F1 b o,h2,?_,λb o hf=>a3 b o ((hF b o).2 (.inr hf)),?_,?_,?_⟩,h.apart⟩
 ·rintro b o hf (hs|hs)
  ·exact a2 b o ((hF b o).2 (.inr hf)) hs
  ·exact hd b o hs hf
 ·grind
 ·grind
 ·intro f hf;rcases iX.1 hf with hf|hf
  ·exact f.mono (a6 f hf) λb o hs=>.inl hs
  ·simp at hf;subst hf;exact⟨g1,λo ho=>.inr ((g3 b o).2 ho)⟩
theorem aMF{w:World}{B:Bl}(ns:List Nat):∀(M L:List Ch),kY c w B (M++L)->kY c w B (M++shr ns L)
 |M,[],h=>h
 |M,x::L,h=>by
  have gen:kY c w B (M++x::shr ns L):=by have:=aMF ns (M++[x]) L (by simpa using h);grind
  cases x with
  |box n cs=>
   simp only[shr];split
   ·exact gen
   ·obtain⟨⟨R,s1,s2⟩,s0⟩:=gen;have hi:((M++Ch.box n cs::shr ns L).map (jO B))[M.length]?=some (YL B n cs):=by simp[jO]
    obtain⟨F,b,z,vs,h3,h4,h5⟩:=s1.chunk (ch:=YL B n cs) M.length hi;have s3:=s1.imp (iV.put M.length hi λF ⟨b',z',vs',q1,q2,q3⟩=>by
     rw[h3] at q1;cases q1;rw[h4] at q2;cases q2;exact q3)
    have s4:=s3.a6L (b:=b) (z:=z) (vs:=vs) (i:=M.length) (by rw[List.getElem?_set_self];simp);refine⟨⟨R++[fAt b z vs],?_,λx hx=>?_⟩,s0⟩
    ·have:((M++Ch.ro n cs::shr ns L).map (jO B))=(((M++Ch.box n cs::shr ns L).map (jO B)).set M.length (TB b z vs)).set M.length I4:=by simp[jO]
     grind
    ·rcases iX.1 hx with hx|hx
     ·exact YM (λf hf=>List.mem_append_left _ hf) (s2 x (List.mem_append_left _ hx))
     ·rcases uI.1 hx with hx|hx
      ·subst hx;exact⟨b,z,vs,h3,h4,ae⟩
      ·exact YM (λf hf=>List.mem_append_left _ hf) (s2 x (List.mem_append_right _ (yG _ hx)))
  |_=>exact gen
theorem mf{f:FuncId}{caps:Array Operand}{ops:Array Oper}{l:List Oper}(ns:List Nat)(hs:iO T n K cf m e L=.op o Lv (.r ops l) cf2 K' m' e' L')(ho:(o.op,o.dst)=(.makeFunc (.func f) #[] caps,some d))(hx:aV (gY e') caps.toList=some (ns.map λn=>.p n 0))
  (k:G (.mk P T hT n c B0 N X Q) K' m' ((d,.f f ns)::e') (shr ns L') cf2):G (.mk P T hT n c B0 N X Q) K m e L cf:=by
 refine gE (g:=.mk P T hT n c B0 N X Q) ?_;rw[hs];intro hdn _ hE;refine hE Unit (λ_=>m') (λ_=>(d,.f f ns)::e') (λ_=>shr ns L') (λ_=>trivial) (λB a w next Q' hm hA hS hnext=>?_) (λ_=>k);obtain⟨vs,h1,h2⟩:=YR hA hx;have hd:o.dst=some d:=cP Prod.snd ho;have h3:∀{ns:List Nat} {vs:List Value},aV (fA (WQ (.mk P T hT n c B0 N X Q) (.r ops l)++B)) (ns.map λn=>SV.p n 0)=some vs->aV (S5 (WQ (.mk P T hT n c B0 N X Q) (.r ops l)++B)) ns=some vs:=by
  intro ns;induction ns with
  |nil=>intro vs h;exact h
  |cons jj ns ih=>
   grind[aV,S5,fA,gV,bQ]
 have h5:∀{os:List Operand} {vs:List Value},evs (vE (WQ (.mk P T hT n c B0 N X Q) (.r ops l)++B) e') os=some vs->os.map (ev (vE (WQ (.mk P T hT n c B0 N X Q) (.r ops l)++B) e'))=vs.map some:=by
  intro os;induction os with
  |nil=>intro vs h;cases h;rfl
  |cons o os ih=>
   grind[evs]
 have h6:=a14 (P:=P) (w:=w) (vf:=[]) (vc:=vs) (cP Prod.fst ho) rfl (h5 h2);unfold Oper.wp;rw[h6 _ a hA.env,Oper.upon_value,hd];rw[hd] at hdn;have h7:fA (WQ (.mk P T hT n c B0 N X Q) (.r ops l)++B) (.f f ns)=some (.func (.func f) #[] vs.toArray):=by grind[fA]
 exact hnext () _ _ ⟨[],aj,by simpa using hA.of h7 (hA.env.put (by grind[pQ,vF]) _),by simpa using aMF ns [] L' hS⟩
theorem clc{O J:Type}{fo:Option O}{kf:O->Option J}{q:J}{f g:FuncId}{xs xs0:List SV}{sv:O->SV}(is:List Nat)(cs:List (Nat×List SV))(hs:iO T n K cf m e L=.callp o (some d) f xs cf1 cf2 K' m' e' L')(hk:kl L' is=roS cs)(ho:(aOK cs && okA xs.dropLast)=true)(hx:xs=xs.dropLast++[.f g (cs.map (·.1))])
  (hc:∀{w},HS c w L'->∀{Bs:Bl},Bs.length=cs.length->(∀w1,dS F0 w w1->kY (eB w1) w1 Bs (roL 0 cs))->∀{x},fo=some x->Fn0 P f (eB w) (xs.dropLast++[.k (.func (.func g) #[] (O1 Bs).toArray)]) sv x) (hF:fo.bind kf=some q)
  (k:∀x,fo=some x->kf x=some q->G (.mk P T hT n c B0 N X Q) K' m' ((d,sv x)::e') L' cf2):G (.mk P T hT n c B0 N X Q) K m e L cf:=by
 refine gE (g:=.mk P T hT n c B0 N X Q) ?_;rw[hs];intro fo' args ats ho' hd hf ⟨ys,hys,hxs⟩ hdn hE;rw[CL] at ho;cases hfo:fo with
 |none=>grind
 |some x=>
  rw[hfo] at hF;refine hE Unit (λ_=>m') (λ_=>(d,sv x)::e') (λ_=>L') (λ_=>by simpa using rN (L:=L') []) (λB a w next Q' hm hA hS hnext=>?_) (λ_=>k x hfo hF);obtain⟨vs,h1,h2⟩:=YR hA hys;obtain⟨v,h3,h4⟩:=dZ hA hf;simp[fA,aV] at h3;subst h3;rw[<-QA,hxs] at h1;rw[hx] at h1;have split:∀{az:List SV} {b:SV} {vs:List Value} {B:Bl},aV (fA B) (az++[b])=some vs->∃us v,aV (fA B) az=some us/\fA B b=some v/\vs=us++[v]:=by
   intro az;induction az with
   |nil=>
    grind[aV]
   |cons a az ih=>
    intro b vs B h;simp only[WK,aV] at h;grind[aV]
  obtain⟨us,fv,g1,g2,rfl⟩:=split h1;simp only[fA] at g2;split at g2
  ·rename_i cap hcap;cases g2;obtain⟨Bs,b1,b2,b3⟩:=aY2 hcap;subst b1;have hmem:∀x∈roS cs,x∈L':=λx hx=>aFN (is:=is) aj;obtain⟨hcall,hrun⟩:=hc ⟨_,hS⟩ b2 (a6K hS hmem ho.1 b3) hfo;have join:∀{az:List SV} {us:List Value} {b:SV} {v:Value},aV (fA []) az=some us->fA [] b=some v->aV (fA []) (az++[b])=some (us++[v]):=by
    intro az;induction az with
    |nil=>grind[aV]
    |cons a az ih=>
     intro us b v h hb;simp only[aV] at h;split at h
     ·cases h
     ·rename_i u hu;split at h
      ·cases h
      ·rename_i us' hus;cases h;simp[aV,hu,ih hus hb]
   have h5:=hrun (us++[.func (.func g) #[] (O1 Bs).toArray]) (join (aEW ho.2 g1) (by simp[fA,gV,bQ,Value.oneCell'])) (aYW w);have h6:=T0 (w:=w) hcall ho' h4 h2;unfold Oper.wp;rw[h6 _ a hA.env,Oper.upon_enter];refine Calls.mono h5 λen w' ⟨v,hv,y,e1,e2⟩=>?_;subst hv;rw[hd];have g3:=uK (WQ (.mk P T hT n c B0 N X Q) cf1++B) e1;exact hnext () _ _ ⟨[],aj,by simpa using hA.of aj (hA.env.put (by grind[pQ,vF]) v),by simpa using hS.after (L2:=[]) rfl e2⟩
  ·cases g2
theorem HS.u1{O J:Type}{iR:aJ O}{C:FI O}{sr:J->SV}{g:FuncId}{cap:List Value}{w:World}{p:O->Option J}(h:HS c w L)(H:YS P c C sr g cap p):YS P (eB w) C sr g cap p:=by obtain⟨B,hS⟩:=h.ex;exact⟨H.1,λw1 hk=>H.2 w1 (hS.aYY.trans hk λ_ _ _ h=>h.elim)⟩
theorem HS.u2{O α' J:Type}{iR:aJ O}{iR':aJ α'}{C:FI O}{C':FI α'}{sr:J->SV}{g:FuncId}{cap:List Value}{w:World}{p:O->α'->Option J}(h:HS c w L)(H:Fu2 P c C C' sr g cap p):Fu2 P (eB w) C C' sr g cap p:=by obtain⟨B,hS⟩:=h.ex;exact⟨H.1,λw1 hk=>H.2 w1 (hS.aYY.trans hk λ_ _ _ h=>h.elim)⟩
theorem bAG{O J:Type}{fo:Option O}{kf:O->Option J}{q:J}{f g:FuncId}{xs:List SV}{sv:O->SV}{n1:Nat}{c1:List SV}(is:List Nat)(hs:iO T n K cf m e L=.callp o (some d) f xs cf1 cf2 K' m' e' L')(hk:kl L' is=[.ro n1 c1])(ho:(aOK [(n1,c1)] && okA xs.dropLast)=true)(hx:xs=xs.dropLast++[.f g [n1]])
  (hc:∀{w},HS c w L'->∀{b1:Nat×Nat},(∀w1,dS F0 w w1->kY (eB w1) w1 [b1] [.ro 0 c1])->∀{x},fo=some x->Fn0 P f (eB w) (xs.dropLast++[.k (.func (.func g) #[] (O1 [b1]).toArray)]) sv x) (hF:fo.bind kf=some q)
  (k:∀x,fo=some x->kf x=some q->G (.mk P T hT n c B0 N X Q) K' m' ((d,sv x)::e') L' cf2):G (.mk P T hT n c B0 N X Q) K m e L cf:=
 clc (xs0:=[]) is [(n1,c1)] hs hk ho hx (λh Bs hl hB=>match Bs,hl,hB with|[_],_,hB=>hc h hB) hF k
end
section
variable {P:Program} {T:TT} {hT:CR P T} {n:Nat} {c:Ctx} {B0:Bl} {N:Act->World->Prop} {X:Nat->Act->World->Prop} {Q:Act->World->Prop} {K K':List Fr} {m m':Nat} {e e':SE} {L L':List Ch} {cf cf1 cf2:rL} {o:Oper} {Lv:List Ch} {d:Nat}
variable {x y z:Operand} {t t2:TypeId} {k k2:IntKind} {i j:Int} {O J:Type} {A:Option J} {q:J}
theorem a3A(hs:opS (iO T n K cf m e L)=some (o,Lv,cf1,cf2,K',m',e',L'))(ho:(o.op,o.dst)=(.call {callee:=.builtin .min,args:=#[x,y],argTypes:=#[t,t2]},some d))(hx:(gY e' x).bind rK=some (.i64,i))(hy:(gY e' y).bind rK=some (k,j))
  (kk:G (.mk P T hT n c B0 N X Q) K' m' ((d,.i .i64 (if j<i then j else i))::e') L' cf2):G (.mk P T hT n c B0 N X Q) K m e L cf:=
 pu hs (cP Prod.snd ho) (λB a w hA _=>⟨_,rfl,a5Z (cP Prod.fst ho) (wX hA hx) (wX hA hy)⟩) kk
theorem aY3(hs:opS (iO T n K cf m e L)=some (o,Lv,cf1,cf2,K',m',e',L'))(ho:(o.op,o.dst)=(.call {callee:=.builtin .max,args:=#[x,y],argTypes:=#[t,t2]},some d))(hx:(gY e' x).bind rK=some (.i64,i))(hy:(gY e' y).bind rK=some (k,j))
  (kk:G (.mk P T hT n c B0 N X Q) K' m' ((d,.i .i64 (if i<j then j else i))::e') L' cf2):G (.mk P T hT n c B0 N X Q) K m e L cf:=
 pu hs (cP Prod.snd ho) (λB a w hA _=>⟨_,rfl,a50 (cP Prod.fst ho) (wX hA hx) (wX hA hy)⟩) kk
section
variable {l:List UInt8} {b1:Bool} {n1:Nat} {z1:List SV}
theorem a8S(ht:wU T t=some ⟨.s,b1,n1,z1⟩)(hT:CR P T):P.underlying t=some .string:=by obtain⟨dd,hd1,hd2⟩:=hT.und _ _ ht;grind
theorem qsi{kf:UInt8->Option J}(hs:opS (iO T n K cf m e L)=some (o,Lv,cf1,cf2,K',m',e',L'))(ho:(o.op,o.dst)=(.index t x y,some d))(ht:wU T t=some ⟨.s,b1,n1,z1⟩)(hx:gY e' x=some (.s l))(hy:(gY e' y).bind rK=some (k,i))(hF:(idx l i).bind kf=some q)
  (kk:∀u,idx l i=some u->kf u=some q->G (.mk P T hT n c B0 N X Q) K' m' ((d,.y u)::e') L' cf2):G (.mk P T hT n c B0 N X Q) K m e L cf:=by
 cases hi:idx l i with
 |none=>grind
 |some u=>
  rw[hi] at hF;exact pu hs (cP Prod.snd ho) (λB a w hA _=>⟨_,rfl,a2F (a8S ht hT) hi (cP Prod.fst ho) (a6J hA hx) (wX hA hy)⟩) (kk u hi hF)
end
section
variable [aJ O] {s:AC} {l:List O} {el:TypeId} {b1 b2:Bool} {n1 sz:Nat} {z1 z2:List SV} {kt:TK}
theorem hdB{B:Bl}{a:Act}(hA:gA n B e a){ln:Nat}(h:gY e x=some (.h s ln)):ev (vE B e) x=some (s.v ln):=by obtain⟨v,h1,h2⟩:=dZ hA h;cases h1;exact h2
theorem CV(ht:wU T t=some ⟨.sl el,b1,n1,z1⟩)(hT:CR P T):P.underlying t=some (.slice el):=by obtain⟨dd,hd1,hd2⟩:=hT.und _ _ ht;grind
theorem qsb{a b:Nat}(h1:bU c s l)(hb:a<=b/\b<=l.length)(hs:opS (iO T n K cf m e L)=some (o,Lv,cf1,cf2,K',m',e',L'))(hd:o.dst=some d)(hr:∀B act w,gA n B e' act->aJ.rd c.S0 w [s.v l.length] l->eN P o (vE B e') w (gU (aJ.n O) a b (s.v l.length)) w)
  (kk:∀s',bU c s' ((l.take b).drop a)->G (.mk P T hT n c B0 N X Q) K' m' ((d,.h s' ((l.take b).drop a).length)::e') L' cf2):G (.mk P T hT n c B0 N X Q) K m e L cf:=by
 have h2:=aQQ (n:=aJ.n O) (a:=a) (b:=b) rfl h1 hb.1 hb.2;obtain⟨ad,cp,e1,_⟩:=aFF h2;rw[e1] at h2;exact pu hs hd (λB act w hA hS=>⟨_,by grind[fA,gV,bQ],hr B act w hA (aME hS (f:=fRd [s.v l.length] l) h1)⟩) (kk ⟨ad,cp⟩ h2)
theorem aQ4(hs:opS (iO T n K cf m e L)=some (o,Lv,cf1,cf2,K',m',e',L'))(ho:(o.op,o.dst)=(.slice t x (some y) (some z) none,some d))(ht:wU T t=some ⟨.sl el,b1,n1,z1⟩)(he:wU T el=some ⟨kt,b2,sz,z2⟩)(hn:aJ.n O=sz)(h1:bU c s l)(hx:gY e' x=some (.h s l.length))(hy:(gY e' y).bind rK=some (k,i))(hz:(gY e' z).bind rK=some (k2,j))(hF:need (0<=i/\i<=j/\j<=(l.length:Int)) A=some q)
  (kk:A=some q->∀s',bU c s' ((l.take j.toNat).drop i.toNat)->G (.mk P T hT n c B0 N X Q) K' m' ((d,.h s' ((l.take j.toNat).drop i.toNat).length)::e') L' cf2):G (.mk P T hT n c B0 N X Q) K m e L cf:=by
 have hb:=(lP hF).1;subst hn;exact qsb h1 aa hs (cP Prod.snd ho) (λB act w hA h=>aVB h rfl (CV ht hT) (hT.size _ _ he) hb (cP Prod.fst ho) (hdB hA hx) (wX hA hy) (wX hA hz)) (kk (lP hF).2)
theorem a4V(hs:opS (iO T n K cf m e L)=some (o,Lv,cf1,cf2,K',m',e',L'))(ho:(o.op,o.dst)=(.slice t x none (some z) none,some d))(ht:wU T t=some ⟨.sl el,b1,n1,z1⟩)(he:wU T el=some ⟨kt,b2,sz,z2⟩)(hn:aJ.n O=sz)(h1:bU c s l)(hx:gY e' x=some (.h s l.length))(hz:(gY e' z).bind rK=some (k2,j))(hF:need (0<=j/\j<=(l.length:Int)) A=some q)
  (kk:A=some q->∀s',bU c s' ((l.take j.toNat).drop 0)->G (.mk P T hT n c B0 N X Q) K' m' ((d,.h s' ((l.take j.toNat).drop 0).length)::e') L' cf2):G (.mk P T hT n c B0 N X Q) K m e L cf:=by
 have hb:=(lP hF).1;subst hn;exact qsb h1 aa hs (cP Prod.snd ho) (λB act w hA h=>aXV h rfl (CV ht hT) (hT.size _ _ he) hb (cP Prod.fst ho) (hdB hA hx) (wX hA hz)) (kk (lP hF).2)
end
section
variable {zv:Value} {n1 m1:Nat} {el:TypeId}
theorem aY4{B:Bl}{xs:List SV}{vs:List Value}(h:aV (fA []) xs=some vs):aV (fA B) xs=some vs:=eP (λx v h=>by simpa using uK (B:=[]) B h) h
theorem qba{ps:Array (Nat×Operand)}{xs:List SV}{vs cells:List Value}(cs:List SV)(hz:∀w,(zeroValue t).run P w=.ok zv w)(hu:P.underlying t=some (.array n1 el))(hp:∀w,(sizeOf el).run P w=.ok m1 w)(hs:opS (iO T n K cf m e L)=some (o,Lv,cf1,cf2,K',m',e',L'))(ho:(o.op,o.dst)=(.build t ps,some d))(hv:aV (gY e') (ps.toList.map (·.2))=some xs)(hvs:aV (fA []) xs=some vs)(hcs:aV (bQ []) cs=some cells)(hc:Instr.fill (λi=>some (i*m1,m1)) zv.cells ((ps.toList.map (·.1)).zip vs)=some cells.toArray)
  (kk:G (.mk P T hT n c B0 N X Q) K' m' ((d,.g cs)::e') L' cf2):G (.mk P T hT n c B0 N X Q) K m e L cf:=
 pu hs (cP Prod.snd ho) (λB a w hA _=>⟨.agg cells.toArray,by
  simp only[fA,gV];rw[eP (g:=bQ B) (λx v h=>by simpa using fU (B:=[]) B h) hcs],by
  obtain⟨us,h1,h2⟩:=YR hA hv;rw[aY4 hvs] at h1;cases h1;exact aVC (ps:=ps.toList) (by simp_all) hz hu hp h2 hc⟩) kk
theorem qai{γ:Type}(f:γ->Value)(g:γ->SV){l:List γ}{cs:List SV}{kf:γ->Option J}(hu:P.underlying t=some (.array n1 el))(hz:∀w,(sizeOf el).run P w=.ok 1 w)(hg:∀w,(isAgg el).run P w=.ok false w)(hgf:∀u,fA [] (g u)=some (f u))(hs:opS (iO T n K cf m e L)=some (o,Lv,cf1,cf2,K',m',e',L'))(ho:(o.op,o.dst)=(.index t x y,some d))(hx:gY e' x=some (.g cs))(hcs:aV (bQ []) cs=some (l.map f))(hn:l.length=n1)(hy:(gY e' y).bind rK=some (k,i))(hF:(idx l i).bind kf=some q)
  (kk:∀u,idx l i=some u->kf u=some q->G (.mk P T hT n c B0 N X Q) K' m' ((d,g u)::e') L' cf2):G (.mk P T hT n c B0 N X Q) K m e L cf:=by
 cases hi:idx l i with
 |none=>grind
 |some u=>
  rw[hi] at hF;refine pu hs (cP Prod.snd ho) (λB a w hA _=>⟨f u,by simpa using uK (B:=[]) B (hgf u),?_⟩) (kk u hi hF);obtain⟨v,h1,h2⟩:=dZ hA hx;simp only[fA,gV] at h1;rw[eP (g:=bQ B) (λx v h=>by simpa using fU (B:=[]) B h) hcs] at h1;cases h1;exact a52 f hu hz hg hi hn rfl (cP Prod.fst ho) h2 (wX hA hy)
end
end
section
variable {P:Program} {T:TT} {hT:CR P T} {n:Nat} {c:Ctx} {B0:Bl} {N:Act->World->Prop} {X:Nat->Act->World->Prop} {Q:Act->World->Prop} {K K':List Fr} {m m':Nat} {e e':SE} {L L':List Ch} {cf cf1 cf2:rL} {o:Oper} {Lv:List Ch} {d:Nat}
theorem chg{g:Gx}{ι:Type}(m2:ι->Nat)(e2:ι->SE)(L2:ι->List Ch)(h:∀B a w,B.length=m->gA g.n B e a->kY g.c w B L->∃i B',(B++B').length=m2 i/\gA g.n (B++B') (e2 i) a/\kY g.c w (B++B') (L2 i))
  (hz:∀i,Frz g cf L (L2 i)) (k:∀i,G g K (m2 i) (e2 i) (L2 i) cf):G g K m e L cf:=by
 have key:∀a w,Rel g m e L a w->∃i,Rel g (m2 i) (e2 i) (L2 i) a w:=λa w ⟨B,h1,h2,h3⟩=>by obtain⟨i,B',k1,k2,k3⟩:=h _ a w h1 h2 h3;exact⟨i,B++B',aj,aj,aj⟩
 cases cf with
 |n=>exact λa w hr=>let ⟨i,hi⟩:=key a w hr;k i a w hi
 |c x=>exact λa w hr=>let ⟨i,hi⟩:=key a w hr;k i a w hi
 |r ops l=>exact λa w hr=>let ⟨i,hi⟩:=key a w hr;k i a w hi
 |d B1 ops l is Lf Lv=>
  refine λhD a w ⟨B,h1,h2,h3,h4⟩=>?_;obtain⟨i,B',k1,k2,k3⟩:=h _ a w h1 h2 h3;obtain⟨z1,z2⟩:=hz i hD;exact k i ⟨hD.pre,hD.len,hD.free,z1,z2,hD.okf,hD.ap⟩ a w ⟨B++B',aj,aj,aj,λw' hw=>by
   have:=(h4 w' hw).app B';grind⟩
 |o B1 ops l is Lf Lv ii=>
  refine λhD a w ⟨B,h1,h2,h3,h4⟩=>?_;obtain⟨i,B',k1,k2,k3⟩:=h _ a w h1 h2 h3;obtain⟨z1,z2⟩:=hz i hD;exact k i ⟨hD.pre,hD.len,hD.free,z1,z2,hD.okf,hD.ap⟩ a w ⟨B++B',aj,aj,aj,λw' hw=>by
   have:=(h4 w' hw).app B';grind⟩
theorem mks{O J:Type}[aJ O]{x y:Operand}{t el sz:Nat}{i:Int}{zv:Value}{b1:Bool}{n1:Nat}{z1:List SV}{A:Option J}{q:J}(zd:O)(hinf:TC P el sz zv)(hzd:∀w,aJ.own w zv.cells.toList zd F0)(q0_:iO T n K cf m e L=.op o Lv cf1 cf2 K' m' e' L'/\(o.op,o.dst)=(.makeSlice t x y,some d)/\wU T t=some ⟨.sl el,b1,n1,z1⟩/\aJ.n O=sz/\zv.cells.size=sz/\(gY e' x).bind rK=some (.i64,i)/\(gY e' y).bind rK=some (.i64,i))(hF:need (0<=i/\i<=4294967296) A=some q)
  (k:A=some q->∀s':AC,G (.mk P T hT n c B0 N X Q) K' m' ((d,.h s' (List.replicate i.toNat zd).length)::e') (L'++[ow s' (List.replicate i.toNat zd)]) cf2):G (.mk P T hT n c B0 N X Q) K m e L cf:=by
 obtain⟨hs,ho,ht,hn,hzs,hx,hy⟩:=q0_;refine gE (g:=.mk P T hT n c B0 N X Q) ?_;rw[hs];intro hdn _ hE;refine hE AC (λ_=>m') (λs'=>(d,.h s' (List.replicate i.toNat zd).length)::e') (λs'=>L'++[ow s' (List.replicate i.toNat zd)]) (λ_=>rN _) (λB a w next Q' hm hA hS hnext=>?_) (k (lP hF).2);obtain⟨⟨R,s1,s2⟩,s0⟩:=hS;have hd:o.dst=some d:=cP Prod.snd ho;obtain⟨v,w',k1,k2⟩:=aXS zd s1 hn (CV ht hT) hinf hzs hzd (lP hF).1 (cP Prod.fst ho) (wX hA hx) (wX hA hy);have hrd:∃s':AC,v=s'.v (List.replicate i.toNat zd).length:=by have h1:=k2.aS3 (cs:=[v]) (d:=List.replicate i.toNat zd) (L'.map (jO (WQ (.mk P T hT n c B0 N X Q) cf1++B))).length ae;obtain⟨ad,cp,h2,_⟩:=aFF h1;exact⟨⟨ad,cp⟩,h2⟩
 obtain⟨s',rfl⟩:=hrd;unfold Oper.wp;rw[k1 _ a hA.env,Oper.upon_value,hd];refine hnext s' _ _ ⟨[],aj,by simpa using hA.of (by simp[fA,gV,bQ]) (hA.env.put (by grind[pQ,vF]) _),⟨⟨R,by grind[jO],λx hx=>?_⟩,λb o hb=>KM (s0 b o hb) (kH _)⟩⟩;rcases iX.1 hx with hx|hx
 ·grind
 ·simp at hx;subst hx;exact trivial
end
def rL.vA:rL->List Nat
 |.d _ _ _ is _ _=>is
 |.o _ _ _ is _ _ _=>is
 |_=>[]
theorem VW{L M:List Ch}{j:Nat}{z:Ch}:∀{is:List Nat},(∀i∈is,i<L.length)->eO j is=true->kl (L.set j z++M) is=kl L is
 |[],_,_=>rfl
 |i::is,h,hn=>by
  have hi:=h i ae;have h1:=aFR hn;have hne:j≠i:=λhe=>h1 (by simp[he]);have h2:(L.set j z++M)[i]?=L[i]?:=aj
  have h3:eO j is=true:=by grind[eO]
  simp only[kl,h2,VW (λi hi=>h i (yG _ hi)) h3]
theorem aTW{L M:List Ch}:∀{is:List Nat},(∀i∈is,i<L.length)->kl (L++M) is=kl L is
 |[],_=>rfl
 |i::is,h=>by simp only[kl,List.getElem?_append_left (h i ae),aTW (M:=M) (λi hi=>h i (yG _ hi))]
theorem aMG{g:Gx}{cf:rL}{L M:List Ch}{j:Nat}{z:Ch}(hn:eO j cf.vA=true):Frz g cf L (L.set j z++M):=by
 cases cf with
 |d B1 ops l is Lf Lv=>
  exact λhD=>⟨(VW hD.rng hn).trans hD.vA,λi hi=>by have:=hD.rng i hi;simp;omega⟩
 |o B1 ops l is Lf Lv i=>
  exact λhD=>⟨(VW hD.rng hn).trans hD.vA,λi hi=>by have:=hD.rng i hi;simp;omega⟩
 |_=>trivial
theorem aOM{c:Ctx}{w:World}{A:List Chunk}{R:List Fact}(h:St c w A R):St c w (A++[I4]) R:=by obtain⟨F,S,h1,rest⟩:=h.sep;exact⟨h.keep,⟨F,S,Sep.append.2 ⟨F,F0,h1,Sep.one.2 (λ_ _ h=>h),λ_ _ _ h=>h,λb o=>by simp[F0]⟩,rest⟩,h.apart⟩
structure CO (O:Type) [aJ O] where
 ex:Type
 cs:O->ex->List SV
 Lx:O->ex->List Ch
 op:∀{w F ec q},aJ.own w ec q F->∃y,aV (bQ []) (cs q y)=some ec
 pk:∀{q y ec},aV (bQ []) (cs q y)=some ec->OP ec q ((Lx q y).map (jO []))
 no:∀q y,noF (Lx q y)=true
 nb:∀q y B,(Lx q y).map (jO B)=(Lx q y).map (jO [])
section
variable {P:Program} {T:TT} {hT:CR P T} {n:Nat} {c:Ctx} {B0:Bl} {N:Act->World->Prop} {X:Nat->Act->World->Prop} {Q:Act->World->Prop} {K K':List Fr} {m m':Nat} {e e':SE} {L L':List Ch} {cf cf1 cf2:rL} {o:Oper} {Lv:List Ch} {d:Nat}
theorem bAI{g:Gx}{ι:Type}(m2:ι->Nat)(e2:ι->SE)(L2:ι->List Ch)(Ln:ι->List Ch)(h:∀B a w,B.length=m->gA g.n B e a->kY g.c w B L->∃i B',(B++B').length=m2 i/\gA g.n (B++B') (e2 i) a/\kY g.c w (B++B') (L2 i)/\∀w' M,kY g.c w' B M->kY g.c w' (B++B') (M++Ln i))
  (hz:∀i,Frz g cf L (L2 i)) (k:∀i,G g K (m2 i) (e2 i) (L2 i) (cf.ext (Ln i))):G g K m e L cf:=by
 have key:∀a w,Rel g m e L a w->∃i,Rel g (m2 i) (e2 i) (L2 i) a w:=λa w ⟨B,h1,h2,h3⟩=>by obtain⟨i,B',k1,k2,k3,_⟩:=h _ a w h1 h2 h3;exact⟨i,B++B',aj,aj,aj⟩
 cases cf with
 |n=>exact λa w hr=>let ⟨i,hi⟩:=key a w hr;k i a w hi
 |c x=>exact λa w hr=>let ⟨i,hi⟩:=key a w hr;k i a w hi
 |r ops l=>exact λa w hr=>let ⟨i,hi⟩:=key a w hr;k i a w hi
 |d B1 ops l is Lf Lv=>
  refine λhD a w ⟨B,h1,h2,h3,h4⟩=>?_;obtain⟨i,B',k1,k2,k3,k4⟩:=h _ a w h1 h2 h3;obtain⟨z1,z2⟩:=hz i hD;exact k i ⟨hD.pre,hD.len,hD.free,z1,z2,hD.okf,hD.ap⟩ a w ⟨B++B',aj,aj,aj,λw' hw=>by
   grind⟩
 |o B1 ops l is Lf Lv ii=>
  refine λhD a w ⟨B,h1,h2,h3,h4⟩=>?_;obtain⟨i,B',k1,k2,k3,k4⟩:=h _ a w h1 h2 h3;obtain⟨z1,z2⟩:=hz i hD;exact k i ⟨hD.pre,hD.len,hD.free,z1,z2,hD.okf,hD.ap⟩ a w ⟨B++B',aj,aj,aj,λw' hw=>by
   grind⟩
abbrev Shp(s:AC)(len:Nat):Prop:=∃b off m,s.v len=.slice (some ⟨b,off,none⟩) len m/\len<=maxLen
abbrev wOf(O:Type)[aJ O](nb:Nat)(s:AC)(len i:Nat):Ch:=.w nb (S4 (s.v len)) (RS (aJ.n O) i (s.v len))
theorem oe{O J:Type}[aJ O](E:CO O)(j:Nat){t:TypeId}{s:AC}{i:Int}{ls:List O}{kf:O->Option J}{q:J}(hs:iO T n K cf m e L=.idx o d t s ls.length i Lv cf1 cf2 K' m' e' L')(hj:L'[j]?=some (ow s ls))(hz:eO j cf1.vA=true)(hF:(idx ls i).bind kf=some q)
  (k:∀x,idx ls i=some x->kf x=some q->∀y:E.ex,Shp s ls.length->G (.mk P T hT n c B0 N X Q) K' (m'+1) e' (L'.set j .no++([.o (nU (s.v ls.length) ls i.toNat),.box m' (E.cs x y),wOf O m' s ls.length i.toNat]++E.Lx x y)) (cf1.ext [wOf O m' s ls.length i.toNat])):G (.mk P T hT n c B0 N X Q) K m e L cf:=by
 refine gE (g:=.mk P T hT n c B0 N X Q) ?_;rw[hs];intro x' y' ho hd hx hy hP;cases hi:idx ls i with
 |none=>grind
 |some x=>
  rw[hi] at hF;refine bAI (λ_=>m'+1) (λ_=>e') (λy:{y:E.ex // Shp s ls.length}=>L'.set j .no++([.o (nU (s.v ls.length) ls i.toNat),.box m' (E.cs x y.1),wOf O m' s ls.length i.toNat]++E.Lx x y.1)) (λ_=>[wOf O m' s ls.length i.toNat]) (λB a w hm hA hS=>?_) (λy=>aMG hz) (λy=>k x hi hF y.1 y.2);obtain⟨⟨R,s1,s2⟩,s0⟩:=hS;have hj2:(L'.map (jO B))[j]?=some (eK [s.v ls.length] ls):=by simp[hj,jO]
  obtain⟨ec,h1⟩:=s1.open j hj2 (zC hi).2.2;have hlen:((L'.map (jO B)).set j I4).length=L'.length:=ae
  have hsh:Shp s ls.length:=a2C (k:=i.toNat) h1 L'.length ae;obtain⟨F,hF'⟩:=h1.chunk (L'.length+2) (by rw[aKS aa];simp;rfl);obtain⟨y,hy2⟩:=E.op (show aJ.own w ec x F from hF');have h2:=h1.unpack (L'.length+2) ae (E.pk hy2);have hset:((L'.map (jO B)).set j I4++[nU (s.v ls.length) ls i.toNat,TB (S4 (s.v ls.length)) (RS (aJ.n O) i.toNat (s.v ls.length)) ec,eK ec x]).set (L'.length+2) I4=(L'.map (jO B)).set j I4++[nU (s.v ls.length) ls i.toNat,TB (S4 (s.v ls.length)) (RS (aJ.n O) i.toNat (s.v ls.length)) ec,I4]:=ae
  rw[hset] at h2;refine⟨⟨y,hsh⟩,[(S4 (s.v ls.length),RS (aJ.n O) i.toNat (s.v ls.length))],by simp[hm],hA.app _,⟨⟨R,?_,λz hz=>?_⟩,s0⟩,λw' M hM=>?_⟩
  ·have e1:(L'.set j Ch.no).map (jO B)=(L'.map (jO B)).set j I4:=by rw[G9];rfl
   refine h2.imp ?_;rw[BX,BX,<-e1,I3];refine iV.append (VR _ _) (iV.append (.cons (λ_ h=>h) (.cons (λF h=>⟨_,_,ec,aj,eP (λx v h=>by simpa using fU (B:=[]) _ h) hy2,h⟩) (.cons (λ_ h=>h) .nil))) ?_);have:=VR (B:=[]) (B++[(S4 (s.v ls.length),RS (aJ.n O) i.toNat (s.v ls.length))]) (w:=w) (E.Lx x y);grind
  ·rcases iX.1 hz with hz|hz
   ·rcases rB hz with hz|hz
    ·grind[aL7]
    ·subst hz;trivial
   ·rcases iX.1 hz with hz|hz
    ·simp at hz;rcases hz with rfl|rfl|rfl
     ·trivial
     ·trivial
     ·show(B++_)[m']?=_;grind
    ·exact aFT (E.no x y) z hz
  ·obtain⟨⟨R',t1,t2⟩,t0⟩:=hM.app [(S4 (s.v ls.length),RS (aJ.n O) i.toNat (s.v ls.length))];refine⟨⟨R',by grind[jO,aOM],λz hz=>?_⟩,t0⟩;rcases iX.1 hz with hz|hz
   ·grind
   ·simp at hz;subst hz;show(B++_)[m']?=_;grind
theorem ie{O:Type}[aJ O](p:Nat){t el sz:Nat}{s:AC}{i:Int}{ls:List O}{x:O}{nb:Nat}{b1 b2:Bool}{n1:Nat}{z1 z2:List SV}{k2:TK}(hsh:Shp s ls.length)(hs:iO T n K cf m e L=.idx o d t s ls.length i Lv cf1 cf2 K' m' e' L')(hi:idx ls i=some x)(hw:Lv[p]?=some (wOf O nb s ls.length i.toNat))(ht:wU T t=some ⟨.sl el,b1,n1,z1⟩)(he:wU T el=some ⟨k2,b2,sz,z2⟩)(hn:aJ.n O=sz)
  (k:G (.mk P T hT n c B0 N X Q) K' m' ((d,.p nb 0)::e') L' cf2):G (.mk P T hT n c B0 N X Q) K m e L cf:=by
 refine gE (g:=.mk P T hT n c B0 N X Q) ?_;rw[hs];intro x' y' ho hd hx hy hP;subst hn;refine hP d (.p nb 0) [] (λ_=>[]) 0 hd (λ_=>rfl) (λB a w hA hS hm=>?_) (λB w L _ hS=>aj) (by grind[ext_nil]);obtain⟨v,g1,g2⟩:=dZ hA hx;obtain⟨u,g3,g4⟩:=dZ hA hy;cases g1;cases g3;obtain⟨⟨R,s1,s2⟩,s0⟩:=hS;have hB:B[nb]?=some (S4 (s.v ls.length),RS (aJ.n O) i.toNat (s.v ls.length)):=s2 _ (HA hw);exact⟨_,by simp[fA,gV,bQ,hB],a2D (P:=P) (o:=o) (w:=w) hsh rfl hi (CV ht hT) (hT.size _ _ he) ho g2 g4⟩
def H3:List Ch->List Nat->List Ch
 |L,[]=>L
 |L,i::r=>H3 (L.set i .no) r
theorem F7{B:Bl}:∀(js:List Nat) (L:List Ch),(H3 L js).map (jO B)=blank (L.map (jO B)) js
 |[],L=>rfl
 |j::js,L=>by simp only[H3,blank];rw[F7 js,G9];rfl
theorem ME{x:Ch}:∀(js:List Nat) (L:List Ch),x∈H3 L js->x∈L\/x=.no
 |[],L,h=>.inl h
 |j::js,L,h=>by
  rcases ME js _ h with h|h
  ·exact rB h
  ·exact .inr h
theorem QB{g:Gx}{cf:rL}{M:List Ch}:∀(js:List Nat) {L:List Ch},(js.all λj=>eO j cf.vA)=true->Frz g cf L (H3 L js++M):=by
 intro js L hj;have main:∀{B1:Bl} {ops:Array Oper} {l:List Bool} {is:List Nat} {Lf:List Ch},(js.all λj=>eO j is)=true->aAM g B1 ops l is Lf L->kl (H3 L js++M) is=Lf/\∀j∈is,j<(H3 L js++M).length:=by
  intro B1 ops l is Lf hj hD;have key:∀(js:List Nat) (L:List Ch),(js.all λj=>eO j is)=true->(∀i∈is,i<L.length)->kl (H3 L js++M) is=kl L is/\(H3 L js).length=L.length:=by
   intro js;induction js with
   |nil=>
    intro L _ hr;exact⟨aTW hr,rfl⟩
   |cons j js ih=>
    intro L hj hr;simp only[aI2,CL] at hj;obtain⟨h1,h2⟩:=ih (L.set j .no) hj.2 (λi hi=>aj);refine⟨h1.trans ?_,by grind[H3]⟩;have:=VW (M:=[]) (z:=.no) hr hj.1;grind
  obtain⟨k1,k2⟩:=key js L hj hD.rng;exact⟨k1.trans hD.vA,λi hi=>by have:=hD.rng i hi;grind⟩
 cases cf with
 |d B1 ops l is Lf Lv=>exact λhD=>main hj hD
 |o B1 ops l is Lf Lv i=>exact λhD=>main hj hD
 |_=>trivial
def ovh(v:SV)(e:SE):List Nat->SE
 |[]=>e
 |k::ks=>(k,v)::ovh v e ks
theorem aMH{v:SV}{B:Bl}{a:Act}:∀(ks:List Nat),aV (BZ e) ks=some (ks.map λ_=>v)->gA n B e a->gA n B (ovh v e ks) a:=by
 intro ks;have key:∀(ks:List Nat),aV (BZ e) ks=some (ks.map λ_=>v)->∀k∈ks,BZ e k=some v:=by
  intro ks;induction ks with
  |nil=>simp
  |cons s ks ih=>
   grind[aV]
 intro hs hA;have hk:=key ks hs;clear hs key;have lk2:∀k x,BZ (ovh v e ks) k=some x->BZ e k=some x:=by
  induction ks with
  |nil=>exact λk x h=>h
  |cons j ks ih=>
   grind[ovh,BZ,nS]
 exact⟨hA.d,hA.size,λk x h=>hA.get k x (lk2 k x h)⟩
theorem MF{B:Bl}:∀{is:List Nat} {M:List Ch},aV (λi=>L[i]?) is=some M->pick (L.map (jO B)) is=M.map (jO B)
 |[],M,h=>by cases h;rfl
 |i::is,M,h=>by
  simp only[aV] at h;split at h
  ·cases h
  ·rename_i h1;split at h
   ·cases h
   ·rename_i h2;cases h;simp only[pick,yF,h1,Option.map_some,Option.getD_some,MF h2,TQ]
theorem aY5{O:Type}[aJ O](E:CO O)(h b v:Nat)(is ks:List Nat){s:AC}{l:List O}{k nb:Nat}(x:O)(y:E.ex){cs0:List SV}{ec:List Value}(hs:L[h]?=some (.o (nU (s.v l.length) l k)))(hb:L[b]?=some (.box nb cs0))(hv:L[v]?=some (wOf O nb s l.length k))(hi:aV (λi=>L[i]?) is=some (E.Lx x y))(hc:nbL cs0=E.cs x y)(hec:aV (bQ []) (E.cs x y)=some ec)(ha:cX (h::b::is)=true)(hk:aV (BZ e) ks=some (ks.map λ_=>.h s l.length)){B:Bl}{a:Act}{w:World}(hA:gA n B e a)(hS:kY c w B L) :
  gA n B (ovh (.h s (l.set k x).length) e ks) a/\kY c w B (H3 L (h::b::is)++[ow s (l.set k x)]):=by
 have hlen:(l.set k x).length=l.length:=bV;unfold ow;rw[hlen];refine⟨aMH ks hk hA,?_⟩;obtain⟨⟨R,s1,s2⟩,s0⟩:=hS;have hB:B[nb]?=some (S4 (s.v l.length),RS (aJ.n O) k (s.v l.length)):=s2 _ (HA hv);refine⟨⟨R,?_,λz hz=>?_⟩,s0⟩
 ·rw[BX,F7];refine s1.shift (h::b::is) ha λF hF=>?_;simp only[pick,yF,hs,hb,Option.map_some,Option.getD_some,MF hi,E.nb] at hF;have hE:aV (bQ B) cs0=some ec:=by rw[<-MD,hc];exact eP (λx v h=>by simpa using fU (B:=[]) B h) hec
  have h2:Sep w ([nU (s.v l.length) l k,TB (S4 (s.v l.length)) (RS (aJ.n O) k (s.v l.length)) ec]++(E.Lx x y).map (jO [])) F:=by refine Sep.imp (.cons (λ_ h=>h) (.cons (λF h=>?_) (iV.refl _))) hF;obtain⟨bb,z,vs,k1,k2,k3⟩:=h;grind
  obtain⟨F1,F2,g1,g2,gd,gF⟩:=Sep.append.1 h2;have h3:Sep w ([nU (s.v l.length) l k,TB (S4 (s.v l.length)) (RS (aJ.n O) k (s.v l.length)) ec]++[eK ec x]) F:=Sep.append.2 ⟨F1,F2,g1,Sep.one.2 ((E.pk hec w F2).2 g2),gd,gF⟩;exact Sep.one.2 (aU9 h3)
 ·rcases iX.1 hz with hz|hz
  ·rcases ME _ _ hz with hz|hz
   ·grind
   ·subst hz;trivial
  ·simp at hz;subst hz;trivial
theorem ce{O:Type}[aJ O](E:CO O)(h b v:Nat)(is ks:List Nat){s:AC}{l:List O}{k nb:Nat}(x:O)(y:E.ex){cs0:List SV}{ec:List Value}(hs:L[h]?=some (.o (nU (s.v l.length) l k)))(hb:L[b]?=some (.box nb cs0))(hv:L[v]?=some (wOf O nb s l.length k))(hi:aV (λi=>L[i]?) is=some (E.Lx x y))(hc:nbL cs0=E.cs x y)(hec:aV (bQ []) (E.cs x y)=some ec)(ha:cX (h::b::is)=true)(hz:((h::b::is).all λj=>eO j cf.vA)=true)(hk:aV (BZ e) ks=some (ks.map λ_=>.h s l.length))
  (kk:G (.mk P T hT n c B0 N X Q) K m (ovh (.h s (l.set k x).length) e ks) (H3 L (h::b::is)++[ow s (l.set k x)]) cf):G (.mk P T hT n c B0 N X Q) K m e L cf:=by
 refine chg (λ_:Unit=>m) (λ_=>ovh (.h s (l.set k x).length) e ks) (λ_=>H3 L (h::b::is)++[ow s (l.set k x)]) (λB a w hm hA hS=>?_) (λ_=>QB _ hz) (λ_=>kk);obtain⟨h1,h2⟩:=aY5 E h b v is ks x y hs hb hv hi hc hec ha hk hA hS;simp_all
end
section
variable {P:Program} {T:TT} {hT:CR P T} {n:Nat} {c:Ctx} {B0:Bl} {N:Act->World->Prop} {X:Nat->Act->World->Prop} {Q:Act->World->Prop} {K K':List Fr} {m m':Nat} {e e':SE} {L L':List Ch} {cf cf':rL}
theorem ceS{O:Type}[aJ O](E:CO O)(h:Nat)(is ks:List Nat){s:AC}{l:List O}{k nb:Nat}(x:O)(y:E.ex){cs0:List SV}{ec:List Value}(q0_:OZ (iO T n K cf m e L)=some (K',cf',m',e',L')/\L'[h]?=some (.o (nU (s.v l.length) l k))/\L'[h+1]?=some (.box nb cs0)/\L'[h+2]?=some (wOf O nb s l.length k)/\aV (λi=>L'[i]?) is=some (E.Lx x y)/\nbL cs0=E.cs x y/\aV (bQ []) (E.cs x y)=some ec/\cX (h::(h+1)::is)=true/\((h::(h+1)::is).all λj=>eO j cf'.vA)=true/\aV (BZ e') ks=some (ks.map λ_=>.h s l.length))
  (kk:G (.mk P T hT n c B0 N X Q) K' m' (ovh (.h s (l.set k x).length) e' ks) (H3 L' (h::(h+1)::is)++[ow s (l.set k x)]) cf'):G (.mk P T hT n c B0 N X Q) K m e L cf:=
 let ⟨h0,hs,hb,hv,hi,hc,hec,ha,hz,hk⟩:=q0_;gE (g:=.mk P T hT n c B0 N X Q) (aEU h0 (ce E h (h+1) (h+2) is ks x y hs hb hv hi hc hec ha hz hk kk))
theorem sF(hs:iO T n K cf m e L=.fin m' e' L')(h:∀a w,oV n c B0 m' e' L' a w->N a w):G (.mk P T hT n c B0 N X Q) K m e L cf:=
 gE (g:=.mk P T hT n c B0 N X Q) (by rw[hs];exact h)
theorem sX{id:Nat}(hs:iO T n K cf m e L=.ex id m' e' L')(h:∀a w,oV n c B0 m' e' L' a w->X id a w):G (.mk P T hT n c B0 N X Q) K m e L cf:=
 gE (g:=.mk P T hT n c B0 N X Q) (by rw[hs];exact h)
theorem sR(hs:iO T n K cf m e L=.ret m' e' L')(h:∀a w,oV n c B0 m' e' L' a w->Q a w):G (.mk P T hT n c B0 N X Q) K m e L cf:=
 gE (g:=.mk P T hT n c B0 N X Q) (by rw[hs];exact h)
theorem nxR{σ ρ υ:Type}{o:Step σ ρ}{mj:Nat}{el:σ->υ->SE}{Ll:σ->υ->List Ch}{s:σ}(u:υ)(is:List Nat)(hG:some (Step.next s)=some o)(h:WO B0.length m' e' L' is mj (el s u) (Ll s u)=some (el s u,Ll s u)):∀a w,oV n c B0 m' e' L' a w->NxP n c B0 o mj el Ll a w:=by cases hG;exact λa w hr=>⟨s,u,rfl,hr.WO is h⟩
theorem gI{π υ:Type}{eq:π->Prop}{mj:Nat}{ej:π->υ->SE}{Lj:π->υ->List Ch}{p:π}(u:υ)(is:List Nat)(hF:eq p)(h:WO B0.length m' e' L' is mj (ej p u) (Lj p u)=some (ej p u,Lj p u)):∀a w,oV n c B0 m' e' L' a w->JP n c B0 eq mj ej Lj a w:=
 λa w hr=>⟨p,u,hF,oV.WO hr is h⟩
theorem bkR{σ ρ J υ:Type}{o:Step σ ρ}{ro:ρ}{enc:J->ρ}{mj id:Nat}{ej:J->υ->SE}{Lj:J->υ->List Ch}{b:J}(u:υ)(is:List Nat)(hG:some (Step.stop (enc b))=some o)(hr:∀p,o=.stop p->p=ro)(h:WO B0.length m' e' L' is mj (ej b u) (Lj b u)=some (ej b u,Lj b u)):∀a w,oV n c B0 m' e' L' a w->BkP n c B0 ro enc mj ej Lj id X id a w:=by cases hG;have:=hr _ rfl;subst this;intro a w hr;unfold BkP;rw[aL rfl];exact⟨b,u,rfl,hr.WO is h⟩
include hT in
theorem rtR{fn:Func}{ρ ex:Type}{sv:ρ->ex->SV}{Lf:ρ->ex->List Ch}{r r':ρ}{rs:List ResultVar}{zz:Option ρ}(y:ex)(is:List Nat)(hF:zz=some r)(q0_:zz=some r'/\fn.results=rs.toArray){x:SV}(q1_:aQY T e' L' rs=some x/\nbS x=sv r' y/\yH B0.length (sv r' y)=true/\WO B0.length m' e' L' is B0.length [] (Lf r' y)=some ([],Lf r' y)):∀a w,oV n c B0 m' e' L' a w->QS P fn c B0 sv Lf r a w:=by obtain⟨hz,hr⟩:=q0_;obtain⟨hv,hx,hk,hL⟩:=q1_;subst hz;cases hF;intro a w hr';obtain⟨B,hm,hA,hS⟩:=id hr';obtain⟨v,h1,h2⟩:=aMD hr hT hA hS hv;obtain⟨B',hm',_,hS'⟩:=hr'.WO is hL;have hB':B'=[]:=(by simp_all);subst hB';refine⟨hA.d,v,h2,y,?_,aj⟩;rw[<-hx] at hk ⊢;have:=P9 hk (by rw[aEQ];exact h1);grind
theorem jB{Z:Act->World->Prop}{O:Type}[aJ O](E:CO O)(h:Nat)(is ks:List Nat){s:AC}{l:List O}{k nb:Nat}(x:O)(y:E.ex){cs0:List SV}{ec:List Value}(q0_:L[h]?=some (.o (nU (s.v l.length) l k))/\L[h+1]?=some (.box nb cs0)/\L[h+2]?=some (wOf O nb s l.length k)/\aV (λi=>L[i]?) is=some (E.Lx x y)/\nbL cs0=E.cs x y/\aV (bQ []) (E.cs x y)=some ec/\cX (h::(h+1)::is)=true/\aV (BZ e) ks=some (ks.map λ_=>.h s l.length))
  (kk:∀a w,oV n c B0 m (ovh (.h s (l.set k x).length) e ks) (H3 L (h::(h+1)::is)++[ow s (l.set k x)]) a w->Z a w):∀a w,oV n c B0 m e L a w->Z a w:=by
 obtain⟨hs,hb,hv,hi,hc,hec,ha,hk⟩:=q0_;intro a w ⟨B,hm,hA,hS⟩;obtain⟨h1,h2⟩:=aY5 E h (h+1) (h+2) is ks x y hs hb hv hi hc hec ha hk hA hS;exact kk a w ⟨B,hm,h1,h2⟩
end
def wAt(n:Nat):List Ch->Option (Nat×Nat)
 |[]=>none
 |.w k b z::L=>match Nat.beq n k with
  |true=>some (b,z)
  |false=>wAt n L
 |_::L=>wAt n L
theorem QC{n b z:Nat}:∀{L:List Ch},wAt n L=some (b,z)->Ch.w n b z∈L
 |[],h=>by cases h
 |x::L,h=>by
  cases x with
  |w k b' z'=>
   simp only[wAt] at h;split at h
   ·simp_all
   ·exact yG _ (QC h)
  |box k cs=>exact yG _ (QC (L:=L) h)
  |ro k cs=>exact yG _ (QC (L:=L) h)
  |o ch=>exact yG _ (QC (L:=L) h)
  |f g=>exact yG _ (QC (L:=L) h)
  |no=>exact yG _ (QC (L:=L) h)
section
variable {P:Program} {T:TT} {hT:CR P T} {n:Nat} {c:Ctx} {B0:Bl} {N:Act->World->Prop} {X:Nat->Act->World->Prop} {Q:Act->World->Prop} {K K':List Fr} {m m':Nat} {e e':SE} {L L' Lv:List Ch} {cf cf1 cf2:rL} {o:Oper} {d:Nat}
theorem fM{O:Type}[aJ O](nb:Nat){t el sz:Nat}{s:AC}{i:Int}{ls:List O}{x:O}{b1 b2:Bool}{n1:Nat}{z1 z2:List SV}{k2:TK}(hsh:Shp s ls.length)(hi:idx ls i=some x)(q0_:iO T n K cf m e L=.idx o d t s ls.length i Lv cf1 cf2 K' m' e' L'/\wAt nb Lv=some (S4 (s.v ls.length),RS (aJ.n O) i.toNat (s.v ls.length))/\wU T t=some ⟨.sl el,b1,n1,z1⟩/\wU T el=some ⟨k2,b2,sz,z2⟩/\aJ.n O=sz)
  (k:G (.mk P T hT n c B0 N X Q) K' m' ((d,.p nb 0)::e') L' cf2):G (.mk P T hT n c B0 N X Q) K m e L cf:=by
 obtain⟨hs,hw,ht,he,hn⟩:=q0_;obtain⟨p,hp⟩:=List.mem_iff_getElem?.1 (QC hw);grind[ie]
end
def FI.o{O:Type}[aJ O](C:FI O)(Lx:O->C.ex->List Ch)(pk:∀{q y ec},aV (bQ []) (C.cs q y)=some ec->OP ec q ((Lx q y).map (jO [])))(no:∀q y,noF (Lx q y)=true)(nb:∀q y B,(Lx q y).map (jO B)=(Lx q y).map (jO [])):CO O:=
 ⟨C.ex,C.cs,Lx,λh=>let ⟨y,h1,_⟩:=C.ok (aJ.own_rd h);⟨y,h1⟩,pk,no,nb⟩
def oI:CO Int:=cI.o (λ_ _=>[]) (λh=>by cases h;exact dQ rfl) (λ_ _=>rfl) (λ_ _ _=>rfl)
def oU:CO UInt8:=cU.o (λ_ _=>[]) (λh=>by cases h;exact dQ rfl) (λ_ _=>rfl) (λ_ _ _=>rfl)
theorem YT{O:Type}[aJ O][Flat O]{cs:List Value}{d:O}(h:aJ.rd F0 default cs d)(w:World):aJ.own w cs d F0:=Flat.own_of h
section
variable {P:Program} {T:TT} {hT:CR P T} {n:Nat} {c:Ctx} {B0:Bl} {N:Act->World->Prop} {X:Nat->Act->World->Prop} {Q:Act->World->Prop} {K K':List Fr} {m m':Nat} {e e':SE} {L L':List Ch} {cf:rL}
variable {b:Bool} {O:Type} {A B':Option O} {q:Option O}
theorem csK{o:Operand}{x y:Code}(ss:List Nat)(hs:iO T n K cf m e L=.cond o b x y K' m' e' L')(ho:aV (BZ e') ss=some (ss.map λ_=>SV.b b))(hF:(if b=true then A else B')=q)
  (k1:b=true->A=q->G (.mk P T hT n c B0 N X Q) K' m' (ovr true e' ss) L' (.c x)) (k2:b=false->B'=q->G (.mk P T hT n c B0 N X Q) K' m' (ovr false e' ss) L' (.c y)):G (.mk P T hT n c B0 N X Q) K m e L cf:=
 gE (g:=.mk P T hT n c B0 N X Q) (by
  rw[hs];intro he a w hr;have ⟨B,hm,hA,hS⟩:=hr;obtain⟨v,h1,h2⟩:=dZ hA he;cases h1;refine aEN hA.env h2 (λhc=>?_) (λhc=>?_)
  ·rw[aL hc] at hF;exact k1 hc hF a w (aEV hc ss ho hr)
  ·rw[aN aj] at hF;exact k2 hc hF a w (aEV hc ss ho hr))
theorem caK{cf':rL}(ss:List Nat)(hs:iO T n K cf m e L=.case b cf' K' m' e' L')(ho:aV (BZ e') ss=some (ss.map λ_=>SV.b b))(hF:(if b=true then A else B')=q)
  (k1:b=true->A=q->G (.mk P T hT n c B0 N X Q) K' m' (ovr true e' ss) L' cf') (k2:b=false->B'=q->G (.mk P T hT n c B0 N X Q) K' m' (ovr false e' ss) L' cf'):G (.mk P T hT n c B0 N X Q) K m e L cf:=
 gE (g:=.mk P T hT n c B0 N X Q) (by
  rw[hs];cases b with
  |true=>exact aFS (λa B hA=>VV rfl ss ho hA) (k1 rfl aj)
  |false=>exact aFS (λa B hA=>VV rfl ss ho hA) (k2 rfl aj))
end
section
variable {P:Program} {T:TT} {hT:CR P T} {n:Nat} {c:Ctx} {B0:Bl} {N:Act->World->Prop} {X:Nat->Act->World->Prop} {Q:Act->World->Prop} {K K':List Fr} {m m':Nat} {e e':SE} {L L' Lv:List Ch} {cf cf1 cf2:rL} {o:Oper} {d:Nat}
theorem aMI{O:Type}[aJ O]{l:List O}(L2:AC->List Ch)(hs:iO T n K cf m e L=.op o Lv cf1 cf2 K' m' e' L')(hd:o.dst=some d)(hz:∀s',Frz (.mk P T hT n c B0 N X Q) cf1 L' (L2 s'))(h:∀B a w,gA n B e' a->kY c w B L'->∃s' w',eN P o (vE B e') w (AC.v s' l.length) w'/\kY c w' B (L2 s'))
  (k:∀s':AC,G (.mk P T hT n c B0 N X Q) K' m' ((d,.h s' l.length)::e') (L2 s') cf2):G (.mk P T hT n c B0 N X Q) K m e L cf:=by
 refine gE (g:=.mk P T hT n c B0 N X Q) ?_;rw[hs];intro hdn _ hE;refine hE AC (λ_=>m') (λs'=>(d,.h s' l.length)::e') L2 hz (λB a w next Q' hm hA hS hnext=>?_) k;obtain⟨s',w',k1,k2⟩:=h _ a w hA hS;unfold Oper.wp;rw[k1 _ a hA.env,Oper.upon_value,hd];exact hnext s' _ _ ⟨[],aj,by simpa using hA.of (by simp[fA,gV,bQ]) (hA.env.put (by grind[pQ,vF]) _),aj⟩
theorem aAP{O:Type}[aJ O]{w:World}{A:List Chunk}{R:List Fact}{v:Value}{l:List O}(h:St c w A R)(i:Nat)(hi:A[i]?=some (eK [v] l)):∃s':AC,v=s'.v l.length:=by obtain⟨ad,cp,h2,_⟩:=aFF (h.aS3 i hi);exact⟨⟨ad,cp⟩,h2⟩
section
variable {x y:Operand} {t el sz:Nat} {zv:Value} {b1:Bool} {n1:Nat} {z1:List SV}
theorem lt0{O:Type}[aJ O](hinf:TC P el sz zv)(q0_:iO T n K cf m e L=.op o Lv cf1 cf2 K' m' e' L'/\(o.op,o.dst)=(.buildSlice t 0 #[],some d)/\wU T t=some ⟨.sl el,b1,n1,z1⟩/\aJ.n O=sz)
  (k:∀s':AC,G (.mk P T hT n c B0 N X Q) K' m' ((d,.h s' ([]:List O).length)::e') (L'++[ow s' ([]:List O)]) cf2):G (.mk P T hT n c B0 N X Q) K m e L cf:=by
 obtain⟨hs,ho,ht,hn⟩:=q0_;refine aMI (l:=([]:List O)) (λs'=>L'++[ow s' ([]:List O)]) hs (cP Prod.snd ho) (λ_=>rN _) (λB a w hA hS=>?_) k;obtain⟨⟨R,s1,s2⟩,s0⟩:=hS;obtain⟨v,w',k1,k2⟩:=a2G (O:=O) (e:=vE B e') (o:=o) s1 hn (CV ht hT) hinf (cP Prod.fst ho);obtain⟨s',rfl⟩:=aAP (v:=v) (l:=([]:List O)) k2 (L'.map (jO B)).length ae;refine⟨s',w',k1,⟨⟨R,by grind[jO],λz hz=>?_⟩,s0⟩⟩;rcases iX.1 hz with hz|hz
 ·grind
 ·simp at hz;subst hz;trivial
theorem CX{g:Gx}{cf:rL}{L:List Ch}{j:Nat}{z:Ch}(hn:eO j cf.vA=true):Frz g cf L (L.set j z):=by have:=aMG (g:=g) (M:=[]) (z:=z) (L:=L) hn;grind
theorem ap{O J:Type}[aJ O][Flat O]{A:Option J}{q:J}{s s2:AC}{l xs:List O}(i:Nat)(hinf:TC P el sz zv)(hs:iO T n K cf m e L=.op o Lv cf1 cf2 K' m' e' L')(ho:(o.op,o.dst)=(.call {callee:=.builtin .append,args:=#[x,y],argTypes:=#[t,t]},some d))(ht:wU T t=some ⟨.sl el,b1,n1,z1⟩)(hn:aJ.n O=sz)(hzs:zv.cells.size=sz)(hi:L'[i]?=some (ow s l))(hz:eO i cf1.vA=true)(hsrc:∀{w},HS c w L'->bU (eB w) s2 xs)(hx:gY e' x=some (.h s l.length))(hy:gY e' y=some (.h s2 xs.length))(hF:need (l.length+xs.length<=1073741824) A=some q)
  (k:A=some q->∀s':AC,G (.mk P T hT n c B0 N X Q) K' m' ((d,.h s' (l++xs).length)::e') (L'.set i (ow s' (l++xs))) cf2):G (.mk P T hT n c B0 N X Q) K m e L cf:=by
 refine aMI (l:=l++xs) (λs'=>L'.set i (ow s' (l++xs))) hs (cP Prod.snd ho) (λ_=>CX hz) (λB a w hA hS=>?_) (k (lP hF).2);have hr:bU (eB w) s2 xs:=hsrc ⟨_,hS⟩;obtain⟨⟨R,s1,s2'⟩,s0⟩:=hS;have hj2:(L'.map (jO B))[i]?=some (eK [s.v l.length] l):=by simp[hi,jO]
 obtain⟨v,w',k1,k2⟩:=aU8 i s1 hj2 hr hn (CV ht hT) hinf hzs (lP hF).1 (cP Prod.fst ho) (hdB hA hx) (hdB hA hy);have hlt:i<L'.length:=(FB.1 hi).1;obtain⟨s',rfl⟩:=aAP k2 i (by rw[List.getElem?_set_self aj]);refine⟨s',w',k1,⟨⟨R,?_,λz hz=>?_⟩,s0⟩⟩
 ·rw[G9];exact k2
 ·rcases rB hz with hz|hz
  ·grind
  ·subst hz;trivial
end
end
theorem aOO{O:Type}{l:List O}{i:Int}{x:O}(h:idx l i=some x):l.set i.toNat x=l:=by obtain⟨hk,h2⟩:=FB.1 (zC h).2.2;rw[<-h2];simp
section
variable {P:Program} {T:TT} {hT:CR P T} {n:Nat} {c:Ctx} {B0:Bl} {N:Act->World->Prop} {X:Nat->Act->World->Prop} {Q:Act->World->Prop} {K K':List Fr} {m m':Nat} {e e':SE} {L L' Lv:List Ch} {cf cf' cf1 cf2:rL} {o:Oper} {d:Nat}
theorem cqS{O:Type}[aJ O](E:CO O)(h:Nat)(is:List Nat){s:AC}{l:List O}{i:Int}{nb:Nat}{x:O}(hx:idx l i=some x)(y:E.ex){cs0:List SV}{ec:List Value}(q0_:OZ (iO T n K cf m e L)=some (K',cf',m',e',L')/\L'[h]?=some (.o (nU (s.v l.length) l i.toNat))/\L'[h+1]?=some (.box nb cs0)/\L'[h+2]?=some (wOf O nb s l.length i.toNat)/\aV (λi=>L'[i]?) is=some (E.Lx x y)/\nbL cs0=E.cs x y/\aV (bQ []) (E.cs x y)=some ec/\cX (h::(h+1)::is)=true/\((h::(h+1)::is).all λj=>eO j cf'.vA)=true)
  (kk:G (.mk P T hT n c B0 N X Q) K' m' e' (H3 L' (h::(h+1)::is)++[ow s l]) cf'):G (.mk P T hT n c B0 N X Q) K m e L cf:=
 let ⟨h0,hs,hb,hv,hi,hc,hec,ha,hz⟩:=q0_;ceS E h is [] x y ⟨h0,hs,hb,hv,hi,hc,hec,ha,hz,rfl⟩ (by rw[aOO hx];exact kk)
theorem fC{Z:Act->World->Prop}{O:Type}[aJ O](E:CO O)(h:Nat)(is:List Nat){s:AC}{l:List O}{i:Int}{nb:Nat}{x:O}(hx:idx l i=some x)(y:E.ex){cs0:List SV}{ec:List Value}(q0_:L[h]?=some (.o (nU (s.v l.length) l i.toNat))/\L[h+1]?=some (.box nb cs0)/\L[h+2]?=some (wOf O nb s l.length i.toNat)/\aV (λi=>L[i]?) is=some (E.Lx x y)/\nbL cs0=E.cs x y/\aV (bQ []) (E.cs x y)=some ec/\cX (h::(h+1)::is)=true)
  (kk:∀a w,oV n c B0 m e (H3 L (h::(h+1)::is)++[ow s l]) a w->Z a w):∀a w,oV n c B0 m e L a w->Z a w:=
 let ⟨hs,hb,hv,hi,hc,hec,ha⟩:=q0_;jB E h is [] x y ⟨hs,hb,hv,hi,hc,hec,ha,rfl⟩ (by rw[aOO hx];exact kk)
section
variable {x:Operand} {t el:Nat} {zv:Value} {b1:Bool} {n1:Nat} {z1:List SV}
theorem lt1{k:IntKind}{i:Int}(hk:k=.i64)(hinf:TC P el 1 zv)(q0_:iO T n K cf m e L=.op o Lv cf1 cf2 K' m' e' L'/\(o.op,o.dst)=(.buildSlice t 1 #[(0,x)],some d)/\wU T t=some ⟨.sl el,b1,n1,z1⟩/\(gY e' x).bind rK=some (k,i))
  (kk:∀s':AC,G (.mk P T hT n c B0 N X Q) K' m' ((d,.h s' [i].length)::e') (L'++[ow s' [i]]) cf2):G (.mk P T hT n c B0 N X Q) K m e L cf:=by
 obtain⟨hs,ho,ht,hx⟩:=q0_;subst hk;refine aMI (l:=[i]) (λs'=>L'++[ow s' [i]]) hs (cP Prod.snd ho) (λ_=>rN _) (λB a w hA hS=>?_) kk;obtain⟨⟨R,s1,s2⟩,s0⟩:=hS;obtain⟨v,w',k1,k2⟩:=a2H (O:=Int) (e:=vE B e') (o:=o) i s1 rfl (CV ht hT) hinf (c0:=.int .i64 i) rfl (cP Prod.fst ho) (wX hA hx) rfl;obtain⟨s',rfl⟩:=aAP (v:=v) (l:=[i]) k2 (L'.map (jO B)).length ae;refine⟨s',w',k1,⟨⟨R,by grind[jO],λz hz=>?_⟩,s0⟩⟩;rcases iX.1 hz with hz|hz
 ·grind
 ·simp at hz;subst hz;trivial
end
end
theorem bU.sub{c:Ctx}{O:Type}[aJ O]{s s':AC}{l:List O}{a b:Nat}(h:bU c s l)(hp:gU (aJ.n O) a b (s.v l.length)=s'.v ((l.take b).drop a).length)(hb:a<=b/\b<=l.length):bU c s' ((l.take b).drop a):=by have:=aQQ (n:=aJ.n O) rfl h hb.1 hb.2;rw[hp] at this;exact this
theorem Sep.perm{w:World}{A B:List Chunk}(h:A.Perm B):∀{F:cE},Sep w A F->Sep w B F:=by
 induction h with
 |nil=>simp
 |cons a _ ih=>exact λ⟨F1,F2,h1,h2,hd,hF⟩=>⟨F1,F2,h1,ih h2,hd,hF⟩
 |swap a b L=>
  intro F h;have h:Sep w (([b]++[a])++L) F:=h;obtain⟨F1,F2,h1,h2,hd,hF⟩:=Sep.append.1 h;exact(Sep.append (A:=[a]++[b])).2 ⟨F1,F2,h1.swap,h2,hd,hF⟩
 |trans _ _ i1 i2=>grind
theorem St.via{c:Ctx}{w:World}{A B:List Chunk}{R:List Fact}(h:St c w A R)(hs:∀F,Sep w A F->Sep w B F):St c w B R:=by obtain⟨F,S,hsep,rest⟩:=h.sep;exact⟨h.keep,⟨F,S,hs F hsep,rest⟩,h.apart⟩
structure PV where
 b:Nat
 z:Nat
 A:List Value
 V:List Value
 C:List Value
def PV.whole(p:PV):Chunk:=TB p.b p.z (p.A++(p.V++p.C))
def PV.mid(p:PV):Chunk:=TB p.b (p.z+p.A.length) p.V
def PV.rest(p:PV):List Chunk:=[TB p.b p.z p.A,TB p.b (p.z+p.A.length+p.V.length) p.C]
theorem a4W{O:Type}{a v c:O}{M R:List O}:(a::v::c::(M++R)).Perm (v::(M++(a::c::R))):=by refine(List.Perm.swap v a _).trans (List.Perm.cons v ?_);exact((List.perm_middle (a:=c)).symm.cons a).trans (List.perm_middle (a:=a)).symm
theorem a8U{w:World}:∀{ps:List PV} {F:cE},Sep w (ps.map PV.whole) F->Sep w (ps.map PV.mid++ps.flatMap PV.rest) F
 |[],F,h=>h
 |p::ps,F,h=>by obtain⟨F1,F2,h1,h2,hd,hF⟩:=h;exact Sep.perm a4W (Sep.append.2 ⟨F1,F2,aVA h1,a8U h2,hd,hF⟩)
theorem a8V{w:World}:∀{ps:List PV} {F:cE},Sep w (ps.map PV.mid++ps.flatMap PV.rest) F->Sep w (ps.map PV.whole) F
 |[],F,h=>h
 |p::ps,F,h=>by have h2:Sep w ([TB p.b p.z p.A,p.mid,TB p.b (p.z+p.A.length+p.V.length) p.C]++(ps.map PV.mid++ps.flatMap PV.rest)) F:=Sep.perm (a4W (M:=ps.map PV.mid) (R:=ps.flatMap PV.rest)).symm h;obtain⟨F1,F2,h1,h3,hd,hF⟩:=Sep.append.1 h2;exact⟨F1,F2,aXU h1,a8V h3,hd,hF⟩
theorem St.a4X{c:Ctx}{w:World}{A M:List Chunk}{R:List Fact}(h:St c w (A++M) R)(s0:∀b o,c.S0 b o->b<c.w0.heap.size) :
  ∃U:Ctx,U.w0=w/\(∀b o,U.S0 b o->b<w.heap.size)/\St U w A []/\(∀f:Fact,f.P c.S0 c.w0->f.P U.S0 w)/\(∀f∈R,f.P U.S0 w) /\
   (∀ch∈M,∀f:Fact,(∀w F,ch.P w F->f.P F w)->f.P U.S0 w)/\∀w' A' R',St U w' A' R'->St c w' (A'++M) R:=by
 obtain⟨F,S,hsep,hFS,hFW,hSS,hSlt,hR⟩:=h.sep;obtain⟨F1,F2,h1,h2,hd,hF⟩:=Sep.append.1 hsep;have hk0:c.w0.heap.size<=w.heap.size:=h.keep.size;have h1S0:∀b o,F1 b o->c.S0 b o->False:=λb o p q=>by
  rcases hFW b o ((hF b o).2 (.inl p)) with hw|hw
  ·exact h.apart b o hw q
  grind
 have hlt:∀b o,(S b o\/F2 b o)\/c.S0 b o->b<w.heap.size:=by
  rintro b o ((q|q)|q)
  ·grind
  ·exact Sep.lt h2 q
  grind
 have hap:∀b o,F1 b o->((S b o\/F2 b o)\/c.S0 b o)->False:=by
  rintro b o p ((q|q)|q)
  ·exact hFS b o ((hF b o).2 (.inl p)) q
  ·exact hd b o p q
  grind
 refine⟨⟨w,F1,λb o=>(S b o\/F2 b o)\/c.S0 b o⟩,rfl,hlt,⟨dS.refl _ _,⟨F1,λb o=>(S b o\/F2 b o)\/c.S0 b o,h1,hap,λ_ _ h=>.inl h,λ_ _ h=>.inl h,hlt,ae⟩,hap⟩,λf hf=>?_,λf hf=>f.mono (hR f hf) λb o q=>.inl (.inl q),λch hch f hf=>?_,?_⟩
 ·exact f.mono (f.agree hf λb o q=>h.keep.cell b o (s0 b o q) λhw=>h.apart b o hw q) λb o q=>.inr q
 ·obtain⟨j,hj⟩:=aBW hch;obtain⟨G1,G2,g1,_,_,gF⟩:=(Sep.take hj).1 h2;exact f.mono (hf w G1 g1) λb o q=>.inl (.inr ((gF b o).2 (.inl q)))
 ·intro w' A' R' k;obtain⟨F',S',b1,b2,b3,b4,b5,b6⟩:=k.sep;have hk:dS F1 w w':=k.keep;have hGW:∀b o,b<c.w0.heap.size->F1 b o->c.W b o:=λb o hb g=>aj
  refine⟨h.keep.trans hk hGW,⟨λb o=>F' b o\/F2 b o,S,Sep.append.2 ⟨F',F2,b1,Sep.keep hk h2 λb o hf g=>hd b o g hf,?_,λ_ _=>Iff.rfl⟩,?_,?_,hSS,λb o hS=>KM (hSlt b o hS) hk.size,?_⟩,h.apart⟩
  ·intro b o hg hf;grind
  ·rintro b o (hf|hf) hS
   ·grind
   ·exact hFS b o ((hF b o).2 (.inr hf)) hS
  ·grind
  ·intro f hf;exact f.agree (hR f hf) λb o hS=>hk.cell b o (hSlt b o hS) λg=>hFS b o ((hF b o).2 (.inl g)) hS
abbrev PS:=List (Nat×Nat×Nat×Nat)
def aMJ:Nat->List (List SV)->List Ch
 |_,[]=>[]
 |k,c::r=>.box k c::aMJ (k+1) r
def MG(L:List Ch)(i n:Nat):List SV:=match L[i]? with
 |some (.box k cs)=>match Nat.beq n k with
  |true=>cs
  |false=>[]
 |_=>[]
def aFV(L:List Ch):PS->Option (List (List SV))
 |[]=>some []
 |(i,n,o,k)::r=>match Nat.ble (o + k) (MG L i n).length,Nat.ble 1 k,frc (((MG L i n).drop o).take k),aFV L r with
  |true,true,some d,some ds=>some (d::ds)
  |_,_,_,_=>none
def LV(L M:List Ch):PS->List (List SV)->List Ch
 |(i,n,o,_)::r,c::cs=>LV L (M.set i (.box n (ovw (MG L i n) o c))) r cs
 |_,_=>M
def E7:PS->List Nat
 |[]=>[]
 |p::r=>p.1::E7 r
def rnP:PS->Nat->SV->Option SV
 |[],_,x=>match yH 0 x with
  |true=>some x
  |false=>none
 |(_,n,o,_)::r,j,x=>match x with
  |.p n' o'=>match Nat.beq n n',Nat.beq o o' with
   |true,true=>some (.p j 0)
   |_,_=>rnP r (j+1) (.p n' o')
  |x=>rnP r (j+1) x
structure HG (c U:Ctx) (L:List Ch) (js:List Nat):Prop where
 a:∀{O:Type} [aJ O] {s:AC} {d:List O},bU c s d->bU U s d
 o:∀{O:Type} [aJ O] {s:AC} {d:List O} (i:Nat),L[i]?=some (ow s d)->eO i js=true->bU U s d
 f:∀{O:Type} [aJ O] {s:AC} {d:List O} (i:Nat),L[i]?=some (fr s d)->bU U s d
def PvR(B:Bl)(L:List Ch):PS->List (List SV)->List PV->Prop
 |[],[],[]=>True
 |(i,n,o,k)::r,d::ds,p::ps=>(∃cs vs,L[i]?=some (.box n cs)/\B[n]?=some (p.b,p.z)/\aV (bQ B) cs=some vs/\o+k<=cs.length/\p.A=vs.take o/\p.V=(vs.drop o).take k/\p.C=vs.drop (o+k)/\d=(cs.drop o).take k)/\PvR B L r ds ps
 |_,_,_=>False
def blP(pv:List PV):Bl:=pv.map λp=>(p.b,p.z+p.A.length)
section
variable {c:Ctx} {w:World} {B:Bl} {L:List Ch} {R:List Fact}
theorem aOP{i n:Nat}{x:SV}{r:List SV}(h:MG L i n=x::r):L[i]?=some (.box n (x::r)):=by
 unfold MG at h;split at h
 ·rename_i k cs hk;grind[nS]
 ·cases h
theorem a4Y(hS:St c w (L.map (jO B)) R):∀{ps:PS} {ds:List (List SV)},aFV L ps=some ds->∃pv,PvR B L ps ds pv
 |[],ds,h=>by cases h;exact⟨[],trivial⟩
 |(i,n,o,k)::r,ds,h=>by
  simp only[aFV] at h;split at h
  ·rename_i d ds' h1 h2 h3 h4;cases h;have h1:=RQ h1;have h2:=RQ h2;obtain⟨pv,hpv⟩:=a4Y hS h4;have h3:=P8 h3;subst h3;cases hc:MG L i n with
   |nil=>grind
   |cons x cs=>
    have hL:=aOP hc;obtain⟨F,b,z,vs,g1,g2,g3⟩:=hS.chunk (ch:=YL B n (x::cs)) i (by simp[hL,jO]);exact⟨⟨b,z,vs.take o,(vs.drop o).take k,vs.drop (o+k)⟩::pv,⟨x::cs,vs,hL,g1,g2,aj,rfl,rfl,rfl,ae⟩,hpv⟩
  ·cases h
theorem parts{vs:List Value}{o k:Nat}:vs.take o++((vs.drop o).take k++vs.drop (o+k))=vs:=by grind[List.drop_drop,aB1]
theorem aTX{F:cE}:∀{ps:PS} {ds:List (List SV)} {pv:List PV} {F:cE},PvR B L ps ds pv->Sep w (pick (L.map (jO B)) (E7 ps)) F->Sep w (pv.map PV.whole) F
 |[],[],[],F,_,h=>h
 |(i,n,o,k)::r,d::ds,p::ps,F,⟨⟨cs,vs,h1,h2,h3,h4,h5,h6,h7,h8⟩,hr⟩,h=>by simp only[E7,pick,yF,h1,Option.map_some,Option.getD_some] at h;obtain⟨F1,F2,g1,g2,gd,gF⟩:=h;refine⟨F1,F2,?_,aTX (F:=F) hr g2,gd,gF⟩;obtain⟨b,z,vs',k1,k2,k3⟩:=g1;grind[PV.whole,parts]
theorem aQ6{Bs:Bl}{p:PV}{ps:List PV}{j:Nat}(h:∀i,Bs[j+i]?=(blP (p::ps))[i]?):Bs[j]?=some (p.b,p.z+p.A.length)/\∀i,Bs[j+1+i]?=(blP ps)[i]?:=by
 refine⟨?_,λi=>?_⟩
 ·have:=h 0;grind[blP]
 ·have:=h (i+1);grind[blP]
theorem aY7{Bs:Bl}:∀{ps:PS} {ds:List (List SV)} {pv:List PV} {j:Nat} {F:cE},PvR B L ps ds pv->ds.all (yH.okC 0)=true->(∀i,Bs[j+i]?=(blP pv)[i]?)->Sep w (pv.map PV.mid) F->Sep w ((aMJ j ds).map (jO Bs)) F
 |[],[],[],_,F,_,_,_,h=>h
 |(i,n,o,k)::r,d::ds,p::ps,j,F,⟨⟨cs,vs,h1,h2,h3,h4,h5,h6,h7,h8⟩,hr⟩,ho,hB,h=>by
  simp only[aI2,CL] at ho;obtain⟨F1,F2,g1,g2,gd,gF⟩:=h;obtain⟨b1,b2⟩:=aQ6 hB;refine⟨F1,F2,⟨p.b,p.z+p.A.length,p.V,b1,?_,g1⟩,aY7 hr ho.2 b2 g2,gd,gF⟩;have e1:aV (bQ B) d=some p.V:=by grind[VQ,VP]
  have e2:=CU ho.1 e1;rw[List.take_zero] at e2;exact eP (λx v h=>by simpa using fU (B:=[]) Bs h) e2
theorem aQ7{Bs:Bl}:∀{ps:PS} {ds:List (List SV)} {pv:List PV} {j:Nat} {x x':SV} {v:Value},PvR B L ps ds pv->(∀i,Bs[j+i]?=(blP pv)[i]?)->rnP ps j x=some x'->fA B x=some v->fA Bs x'=some v
 |[],[],[],j,x,x',v,_,_,hx,hv=>by
  simp only[rnP] at hx;split at hx
  ·rename_i h0;cases hx;have:=P9 h0 hv;rw[List.take_zero] at this;simpa using uK (B:=[]) Bs this
  ·cases hx
 |(i,n,o,k)::r,d::ds,p::ps,j,x,x',v,⟨⟨cs,vs,h1,h2,h3,h4,h5,h6,h7,h8⟩,hr⟩,hB,hx,hv=>by
  obtain⟨b1,b2⟩:=aQ6 hB;simp only[rnP] at hx;split at hx
  ·rename_i n' o';split at hx
   ·rename_i e1 e2;cases hx;have e1:=nS e1;have e2:=nS e2;subst e1;subst e2;simp only[fA,gV,bQ,h2] at hv;have hA:p.A.length=o:=by grind[k9]
    simp_all[fA,gV,bQ]
   ·exact aQ7 hr b2 hx hv
  ·exact aQ7 hr b2 hx hv
theorem aMK{Bs:Bl}{ps:PS}{ds:List (List SV)}{pv:List PV}(hr:PvR B L ps ds pv)(hB:∀i,Bs[0+i]?=(blP pv)[i]?):∀{xs xs':List SV} {vs:List Value},aV (rnP ps 0) xs=some xs'->aV (fA B) xs=some vs->aV (fA Bs) xs'=some vs
 |[],_,_,h,hv=>by cases h;exact hv
 |x::xs,xs',vs,h,hv=>by
  simp only[aV] at h hv;split at h
  ·cases h
  ·rename_i h1;split at h
   ·cases h
   ·rename_i h2;cases h;split at hv
    ·cases hv
    ·rename_i v1;split at hv
     ·cases hv
     ·rename_i v2;cases hv;simp only[aV,aQ7 hr hB h1 v1,aMK hr hB h2 v2]
def PvN(B:Bl):List PV->List (List SV)->List PV->Prop
 |[],[],[]=>True
 |p::ps,d::ds,q::qs=>(q.b=p.b/\q.z=p.z/\q.A=p.A/\q.C=p.C/\q.V.length=p.V.length/\aV (bQ B) d=some q.V)/\PvN B ps ds qs
 |_,_,_=>False
theorem aOQ:∀{ps:List PV} {ds:List (List SV)} {qs:List PV},PvN B ps ds qs->qs.flatMap PV.rest=ps.flatMap PV.rest/\blP qs=blP ps
 |[],[],[],_=>⟨rfl,rfl⟩
 |p::ps,d::ds,q::qs,⟨⟨h1,h2,h3,h4,h5,h6⟩,hr⟩=>by obtain⟨e1,e2⟩:=aOQ hr;simp_all[PV.rest,blP]
def YU:PS->List (List SV)->Bool
 |[],[]=>true
 |(_,_,_,k)::r,d::ds=>match Nat.beq d.length k with
  |true=>YU r ds
  |false=>false
 |_,_=>false
theorem aY8:∀{ps:PS} {ds:List (List SV)} {pv:List PV},PvR B L ps ds pv->pv.length=ps.length
 |[],[],[],_=>rfl
 |(i,n,o,k)::r,d::ds,p::ps,⟨_,hr⟩=>by simp[aY8 hr]
theorem aTY{Bs:Bl}:∀{ps:PS} {ds:List (List SV)} {pv:List PV} {es:List (List SV)} {j:Nat},PvR B L ps ds pv->YU ps es=true->es.all (yH.okC 0)=true->(∀i,Bs[j+i]?=(blP pv)[i]?)->(∀i cs,es[i]?=some cs->∃F,(YL Bs (j+i) cs).P w F)->∃qs,PvN B pv es qs/\iV w ((aMJ j es).map (jO Bs)) (qs.map PV.mid)
 |[],[],[],[],j,_,_,_,_,_=>⟨[],trivial,.nil⟩
 |[],[],[],e::es,j,_,hl,_,_,_=>by grind[YU]
 |(i,n,o,k)::r,d::ds,p::ps,[],j,_,hl,_,_,_=>by grind[YU]
 |(i,n,o,k)::r,d::ds,p::ps,e::es,j,⟨⟨cs,vs,h1,h2,h3,h4,h5,h6,h7,h8⟩,hr⟩,hl,ho,hB,hc=>by
  simp only[YU] at hl;split at hl
  ·rename_i he;have he:=nS he;simp only[aI2,CL] at ho;obtain⟨b1,b2⟩:=aQ6 hB;obtain⟨qs,q1,q2⟩:=aTY hr hl ho.2 b2 λi cs hi=>by have:=hc (i+1) cs aj;grind
   obtain⟨F,b,z,us,g1,g2,g3⟩:=hc 0 e rfl;have hlen:=k9 h3;have g4:=CU ho.1 g2;rw[List.take_zero] at g4;refine⟨⟨p.b,p.z,p.A,us,p.C⟩::qs,⟨⟨rfl,rfl,rfl,rfl,?_,eP (λx v h=>by simpa using fU (B:=[]) B h) g4⟩,q1⟩,.cons (λF hF=>?_) q2⟩
   ·grind[k9]
   ·obtain⟨b',z',us',k1,k2,k3⟩:=hF;rw[show j=j+0 by omega] at b1;simp only[WM] at g2 k2 k1 b1;rw[b1] at k1;cases k1;rw[g2] at k2;cases k2;exact k3
  ·cases hl
theorem aFW:∀{ws vs:List Value} {o:Nat},o+ws.length<=vs.length->YF vs o ws=vs.take o++(ws++vs.drop (o+ws.length))
 |[],vs,o,h=>by simp[YF]
 |x::ws,vs,o,h=>by
  simp only[aBZ] at h;simp only[YF];rw[aFW ah];have t1:(vs.set o x).take (o+1)=vs.take o++[x]:=by rw[List.take_add_one,List.getElem?_set_self aa];grind[List.take_set,List.set_eq_of_length_le]
  grind[List.drop_set_of_lt]
theorem aY9:∀{ps:PS} {ds es:List (List SV)} {pv qs:List PV} {M:List Ch} {F:cE},PvR B L ps ds pv->PvN B pv es qs->(∀i∈E7 ps,M[i]?=some .no)->cX (E7 ps)=true->Sep w (qs.map PV.whole++M.map (jO B)) F->Sep w ((LV L M ps es).map (jO B)) F
 |[],[],[],[],[],M,F,_,_,_,_,h=>h
 |(i,n,o,k)::r,d::ds,e::es,p::ps,q::qs,M,F,⟨⟨cs,vs,h1,h2,h3,h4,h5,h6,h7,h8⟩,hr⟩,⟨⟨n1,n2,n3,n4,n5,n6⟩,hn⟩,hM,ha,h=>by
  simp only[E7,cX,CL] at ha;have hi:M[i]?=some .no:=hM i (by simp[E7]);have hlt:i<M.length:=(FB.1 hi).1;simp only[LV];refine aY9 (ps:=r) (ds:=ds) (es:=es) (pv:=ps) (qs:=qs) hr hn (λj hj=>?_) ha.2 ?_
  ·have hne:i≠j:=λe=>by subst e;have:=aI3.1 ha.1 _ hj;simp at this
   grind[E7]
  ·have h9:Sep w (qs.map PV.whole++(q.whole::M.map (jO B))) F:=Sep.perm List.perm_middle.symm h;obtain⟨F1,F2,g1,g2,gd,gF⟩:=Sep.append.1 h9;refine Sep.append.2 ⟨F1,F2,g1,?_,gd,gF⟩;have hc:MG L i n=cs:=by simp_all[MG]
   have e0:(M.map (jO B)).set i I4=M.map (jO B):=by
    have:(M.map (jO B))[i]?=some I4:=by simp[hi,jO]
    grind[aKV]
   have e1:Sep w ((M.map (jO B)).set i q.whole) F2:=Sep.put aj aj;rw[G9,hc];refine Sep.imp ?_ e1;refine iV.set i (iV.refl _) λF hF=>⟨p.b,p.z,q.A++(q.V++q.C),h2,?_,by rw[<-n1,<-n2];exact hF⟩;have hlen:=k9 h3;have hV:p.V.length=k:=aj
   have hVe:e.length=k:=by grind[k9]
   simp_all[aFL,YK,aFW]
 |[],[],e::es,[],_,M,F,_,hn,_,_,_=>by grind[PvN]
 |[],[],[],[],q::qs,M,F,_,hn,_,_,_=>by grind[PvN]
 |(i,n,o,k)::r,d::ds,[],p::ps,qs,M,F,_,hn,_,_,_=>by grind[PvN]
 |(i,n,o,k)::r,d::ds,e::es,p::ps,[],M,F,_,hn,_,_,_=>by grind[PvN]
theorem aOR{x:Ch}:∀{ps:PS} {es:List (List SV)} {M:List Ch},x∈LV L M ps es->x∈M\/∃n cs,x=.box n cs
 |[],_,M,h=>.inl (by simpa[LV] using h)
 |(i,n,o,k)::r,[],M,h=>.inl (by simpa[LV] using h)
 |(i,n,o,k)::r,e::es,M,h=>by
  rcases aOR (ps:=r) (es:=es) (by simpa[LV] using h) with h|h
  ·rcases rB h with h|h
   ·exact .inl h
   ·exact .inr ⟨_,_,h⟩
  ·exact .inr h
end
def cpS:Stop->Option (Oper×Option Nat×FuncId×List SV×rL×rL×List Fr×Nat×SE×List Ch)
 |.call o d f xs cf cf' K m e L=>some (o,d,f,xs,cf,cf',K,m,e,L)
 |.callp o d f xs cf cf' K m e L=>some (o,d,f,xs,cf,cf',K,m,e,L)
 |_=>none
def dse(d:Option Nat)(v:SV)(e:SE):SE:=match d with
 |some d=>(d,v)::e
 |none=>e
def E8:List Ch->Bool
 |[]=>true
 |.o _::L=>E8 L
 |_::_=>false
theorem T1{B B':Bl}:∀{L:List Ch},E8 L=true->L.map (jO B)=L.map (jO B')
 |[],_=>rfl
 |.o c::L,h=>by simp only[TQ,jO];rw[T1 (L:=L) h]
theorem T2{B:Bl}{R:List Fact}:∀{L:List Ch},E8 L=true->∀x∈L,roF B R x
 |[],_,x,hx=>by cases hx
 |.o c::L,h,x,hx=>by
  rcases uI.1 hx with hx|hx
  ·subst hx;trivial
  ·exact T2 (L:=L) h x hx
theorem aOS{B:Bl}{R:List Fact}:∀{cs:List (List SV)} {k:Nat},∀x∈aMJ k cs,roF B R x
 |[],k,x,hx=>by cases hx
 |c::cs,k,x,hx=>by
  rcases uI.1 hx with hx|hx
  ·subst hx;trivial
  ·exact aOS x hx
theorem aFX:∀{cs:List (List SV)} {k i:Nat} {c:List SV},cs[i]?=some c->(aMJ k cs)[i]?=some (.box (k+i) c)
 |c'::cs,k,0,c,h=>by simp at h;subst h;rfl
 |c'::cs,k,i + 1,c,h=>by have:=aFX (k:=k+1) (show cs[i]?=some c by grind);grind[aMJ]
theorem YV{L:List Chunk}:∀{a b:List Nat},pick L (a++b)=pick L a++pick L b
 |[],b=>rfl
 |i::a,b=>by simp only[WK,pick,YV (a:=a)]
theorem aEX:∀{js:List Nat} {L:List Ch},(H3 L js).length=L.length
 |[],L=>rfl
 |j::js,L=>by simp only[H3];rw[aEX];simp
theorem aZA:∀{js:List Nat} {L:List Ch} {i:Nat},i<L.length->L[i]?=some .no\/i∈js->(H3 L js)[i]?=some .no
 |[],L,i,_,h=>by rcases h with h|h;exact h;cases h
 |j::js,L,i,hl,h=>by simp only[H3];refine aZA aj ?_;grind
theorem aZB{B:Bl}{L:List Ch}:∀{ps:PS} {ds:List (List SV)} {pv:List PV},PvR B L ps ds pv->∀i∈E7 ps,i<L.length
 |[],[],[],_,i,h=>by cases h
 |(i,n,o,k)::r,d::ds,p::ps,⟨⟨cs,vs,h1,_⟩,hr⟩,j,h=>by
  rcases uI.1 h with h|h
  ·grind
  ·exact aZB hr j h
theorem aTZ:∀{a b:List Nat},cX (a++b)=true->cX a=true
 |[],b,_=>rfl
 |i::a,b,h=>by simp only[WK,cX,CL,List.all_append] at h ⊢;exact⟨h.1.1,aTZ h.2⟩
theorem aOT{g:Gx}{cf:rL}{L M:List Ch}{j:Nat}{z:Ch}(h:Frz g cf L M)(hn:eO j cf.vA=true):Frz g cf L (M.set j z):=by
 cases cf with
 |d B1 ops l is Lf Lv=>
  intro hD;obtain⟨h1,h2⟩:=h hD;have:=VW (L:=M) (M:=[]) (j:=j) (z:=z) h2 hn;grind
 |o B1 ops l is Lf Lv ii=>
  intro hD;obtain⟨h1,h2⟩:=h hD;have:=VW (L:=M) (M:=[]) (j:=j) (z:=z) h2 hn;grind
 |_=>trivial
theorem aOU{g:Gx}{cf:rL}{L L0:List Ch}:∀{ps:PS} {es:List (List SV)} {M:List Ch},Frz g cf L M->((E7 ps).all λj=>eO j cf.vA)=true->Frz g cf L (LV L0 M ps es)
 |[],_,M,h,_=>by grind[LV]
 |(i,n,o,k)::r,[],M,h,_=>by grind[LV]
 |(i,n,o,k)::r,e::es,M,h,hz=>by simp only[E7,aI2,CL] at hz;exact aOU (ps:=r) (es:=es) (aOT h hz.1) hz.2
theorem aAQ{i:Nat}:∀{js:List Nat},eO i js=true->(js.all λj=>!Nat.beq j i)=true
 |[],_=>rfl
 |j::js,h=>by
  simp only[eO] at h;split at h
  ·cases h
  ·rename_i hb;simp only[aI2,CL,Bool.not_eq_true'];refine⟨?_,aAQ h⟩;grind[nS]
theorem aZC{g:Gx}{s:Stop}{o:Oper}{d:Option Nat}{f:FuncId}{xs:List SV}{cf cf':rL}{K:List Fr}{m:Nat}{e:SE}{L:List Ch}(hs:cpS s=some (o,d,f,xs,cf,cf',K,m,e,L))
  (h:∀fo args ats,o.op=.call {callee:=.value fo,args:=args,argTypes:=ats}->o.dst=d->gY e fo=some (.f f [])->(∃ys,aV (gY e) args.toList=some ys/\nbA ys=xs)->pQ g.n d=true->aB5 g K m e L o cf cf'->G g K m e L cf):Gs g s:=by
 cases s<;>simp only[cpS] at hs<;>cases hs
 ·exact λfo args ats a1 a2 a3 a4 _ a6 a7=>h fo args ats a1 a2 a3 a4 a6 a7
 ·exact h
section
variable {P:Program} {T:TT} {hT:CR P T} {n:Nat} {c:Ctx} {B0:Bl} {N:Act->World->Prop} {X:Nat->Act->World->Prop} {Q:Act->World->Prop} {K K':List Fr} {m m':Nat} {e e':SE} {L L':List Ch} {cf cf1 cf2:rL} {o:Oper}
theorem cwk{O J ex:Type}{fo:Option O}{kf:O->Option J}{q:J}{d:Option Nat}{f:FuncId}{xs xs0:List SV}{cs0:List (List SV)}{M:List Ch}{sv:O->ex->SV}{cb:O->ex->List (List SV)}{Lr:O->ex->List Ch}(ps:PS)(is:List Nat)
  (hs:cpS (iO T n K cf m e L)=some (o,d,f,xs,cf1,cf2,K',m',e',L')) (hb:aFV L' ps=some cs0) (hi:aV (λi=>L'[i]?) is=some M) (hx:aV (rnP ps 0) xs=some xs0)
  (hk:(E8 M && (cs0.all (yH.okC 0) && (cX (E7 ps++is) && (E7 ps++is).all λj=>eO j cf1.vA)))=true)
  (hn:∀x y,(YU ps (cb x y) && ((cb x y).all (yH.okC 0) && (E8 (Lr x y) && yH 0 (sv x y))))=true)
  (hc:∀{U:Ctx},HG c U L' (E7 ps++is)->∀{Bs:Bl},Bs.length=ps.length->∀{x},fo=some x->FnS P f U xs0 Bs (aMJ 0 cs0++M) sv (λx y=>aMJ 0 (cb x y)++Lr x y) x)
  (hF:fo.bind kf=some q)
  (k:∀x,fo=some x->kf x=some q->∀y:ex,G (.mk P T hT n c B0 N X Q) K' m' (dse d (sv x y) e') (LV L' (H3 L' (E7 ps++is)++Lr x y) ps (cb x y)) cf2):G (.mk P T hT n c B0 N X Q) K m e L cf:=by
 refine gE (g:=.mk P T hT n c B0 N X Q) (aZC hs ?_);intro fo' args ats ho hd hf ⟨ys,hys,hxs⟩ hdn hE;simp only[CL] at hk hn;obtain⟨hkM,hkc,hka,hkz⟩:=hk;cases hfo:fo with
 |none=>grind
 |some x=>
  rw[hfo] at hF;have hz2:((E7 ps).all λj=>eO j cf1.vA)=true:=aj
  refine hE ex (λ_=>m') (λy=>dse d (sv x y) e') (λy=>LV L' (H3 L' (E7 ps++is)++Lr x y) ps (cb x y)) (λy=>aOU (QB _ hkz) hz2) (λB a w next Q' hm hA hS hnext=>?_) (k x hfo hF);generalize hBB:WQ (.mk P T hT n c B0 N X Q) cf1++B=BB at hm hA hS hnext;obtain⟨⟨R,s1,s2⟩,s0⟩:=hS;obtain⟨pv,hpv⟩:=a4Y s1 hb;have hBs:(blP pv).length=ps.length:=by grind[blP,aY8]
  have hB0:∀i,(blP pv)[0+i]?=(blP pv)[i]?:=λi=>ae
  have f1:=s1.front (E7 ps++is) hka;have f2:St c w ((pv.map PV.mid++M.map (jO BB))++(pv.flatMap PV.rest++blank (L'.map (jO BB)) (E7 ps++is))) R:=by refine f1.via λF h=>?_;rw[YV,MF hi] at h;obtain⟨F1,F2,g1,g2,gd,gF⟩:=Sep.append.1 h;obtain⟨F3,F4,g3,g4,gd2,gF2⟩:=Sep.append.1 g1;have g5:=a8U (aTX (F:=F) hpv g3);have g6:Sep w (((pv.map PV.mid++pv.flatMap PV.rest)++M.map (jO BB))++blank (L'.map (jO BB)) (E7 ps++is)) F:=Sep.append.2 ⟨F1,F2,Sep.append.2 ⟨F3,F4,g5,g4,gd2,gF2⟩,g2,gd,gF⟩;refine Sep.perm ?_ g6;grind[List.Perm.append_left,List.Perm.append_right,List.perm_append_comm]
  obtain⟨U,k1,k2,k3,k4,k5,k6,k7⟩:=f2.a4X s0;subst k1;have hHG:HG c U L' (E7 ps++is):=by
   refine⟨λ{O} _ {s d} h=>k4 (fRd [s.v d.length] d) h,λ{O} _ {s d} i hi hj=>?_,λ{O} _ {s d} i hi=>k5 _ (s2 _ (HA hi))⟩;have:(blank (L'.map (jO BB)) (E7 ps++is))[i]?=some (eK [s.v d.length] d):=by rw[aAK (aAQ hj),yF,hi];rfl
   exact k6 _ (List.mem_append_right _ (HA this)) (fRd [s.v d.length] d) λw F h=>aJ.own_rd h
  obtain⟨hcall,hrun⟩:=hc hHG hBs hfo;obtain⟨vs,h1,h2⟩:=YR hA hys;obtain⟨v,h3,h4⟩:=dZ hA hf;simp[fA,aV] at h3;subst h3;have h1':aV (fA BB) xs=some vs:=by grind[QA]
  have hst:kY U U.w0 (blP pv) (aMJ 0 cs0++M):=by
   refine⟨⟨[],?_,λx hx=>?_⟩,k2⟩
   ·rw[BX,T1 (B':=BB) hkM];refine k3.via λF h=>?_;grind[Sep.append,aY7]
   grind[aOS,T2]
  have h5:=hrun vs (aMK hpv hB0 hx h1') hst;have h6:=T0 (w:=U.w0) hcall ho h4 h2;unfold Oper.wp;rw[h6 _ a hA.env,Oper.upon_enter];refine Calls.mono h5 λen w' ⟨v,hv,y,g1,g2⟩=>?_;subst hv;obtain⟨n1,n2,n3,n4⟩:=hn x y;have g3:=uK BB (aK8 n4 g1);rw[aKU] at g3;obtain⟨⟨R',t1,t2⟩,t0⟩:=g2;obtain⟨qs,q1,q2⟩:=aTY (w:=w') hpv n1 n2 hB0 λi cs hi=>t1.chunk (ch:=YL (blP pv) (0+i) cs) i (by
   rw[yF,List.getElem?_append_left (by
    have:=(FB.1 (aFX (k:=0) hi)).1;exact this),aFX hi];rfl)
  obtain⟨e1,e2⟩:=aOQ q1;have t3:St U w' (qs.map PV.mid++(Lr x y).map (jO BB)) R':=by refine t1.imp ?_;grind[T1,iV.append,iV.refl]
  have t4:=k7 w' _ R' t3;have t5:St c w' ((LV L' (H3 L' (E7 ps++is)++Lr x y) ps (cb x y)).map (jO BB)) R:=by
   refine t4.via λF h=>?_;refine aY9 hpv q1 (λi hi=>?_) (aTZ hka) ?_
   ·grind[aZB,aEX,aZA]
   ·rw[BX,F7];have h7:Sep w' ((qs.map PV.mid++qs.flatMap PV.rest)++(blank (L'.map (jO BB)) (E7 ps++is)++(Lr x y).map (jO BB))) F:=by rw[e1];refine Sep.perm ?_ h;grind[List.Perm.append_left,List.perm_append_comm]
    grind[Sep.append,a8V]
  have t6:kY c w' BB (LV L' (H3 L' (E7 ps++is)++Lr x y) ps (cb x y)):=by
   refine⟨⟨R,t5,λz hz=>?_⟩,s0⟩;rcases aOR hz with hz|⟨_,_,hz⟩
   ·rcases iX.1 hz with hz|hz
    ·rcases ME _ _ hz with hz|hz
     ·grind
     ·subst hz;trivial
    grind[T2]
   ·subst hz;trivial
  rw[hd];cases d with
  |none=>exact hnext y _ _ ⟨[],aj,by grind[dse,Act.put],aj⟩
  |some d=>exact hnext y _ _ ⟨[],aj,by simpa[dse] using hA.of g3 (hA.env.put (by grind[pQ,vF]) v),aj⟩
end
section
variable {P:Program} {T:TT} {hT:CR P T} {n:Nat} {c:Ctx} {B0:Bl} {N:Act->World->Prop} {X:Nat->Act->World->Prop} {Q:Act->World->Prop} {K K':List Fr} {m m':Nat} {e e':SE} {L L' Lv:List Ch} {cf cf' cf1 cf2:rL} {o:Oper}
section
variable {O J ex:Type} {fo:Option O} {kf:O->Option J} {q:J} {d:Option Nat} {f:FuncId} {xs xs0:List SV} {M:List Ch} {sv:O->ex->SV} {Lr:O->ex->List Ch}
theorem cw0(is:List Nat)
  (hs:cpS (iO T n K cf m e L)=some (o,d,f,xs,cf1,cf2,K',m',e',L')) (hi:aV (λi=>L'[i]?) is=some M) (hx:aV (rnP [] 0) xs=some xs0)
  (hk:(E8 M && (cX is && is.all λj=>eO j cf1.vA))=true) (hn:∀x y,(E8 (Lr x y) && yH 0 (sv x y))=true)
  (hc:∀{U:Ctx},HG c U L' is->∀{x},fo=some x->FnS P f U xs0 [] M sv Lr x) (hF:fo.bind kf=some q)
  (k:∀x,fo=some x->kf x=some q->∀y:ex,G (.mk P T hT n c B0 N X Q) K' m' (dse d (sv x y) e') (H3 L' is++Lr x y) cf2):G (.mk P T hT n c B0 N X Q) K m e L cf:=
 cwk (cb:=λ_ _=>[]) (Lr:=Lr) [] is hs rfl hi hx (by grind[E7]) (λx y=>by grind[YU]) (λ{U} h Bs hl x hx=>match Bs,hl with|[],_=>hc (by grind[E7]) hx) hF (λx h1 h2 y=>by grind[LV,E7])
theorem cw1{c1:List SV}{a1:O->ex->List SV}(i1 n1 o1 k1:Nat)(is:List Nat)
  (hs:cpS (iO T n K cf m e L)=some (o,d,f,xs,cf1,cf2,K',m',e',L')) (hb:aFV L' [(i1,n1,o1,k1)]=some [c1]) (hi:aV (λi=>L'[i]?) is=some M) (hx:aV (rnP [(i1,n1,o1,k1)] 0) xs=some xs0)
  (hk:(E8 M && ([c1].all (yH.okC 0) && (cX (i1::is) && (i1::is).all λj=>eO j cf1.vA)))=true) (hn:∀x y,(YU [(i1,n1,o1,k1)] [a1 x y] && ([a1 x y].all (yH.okC 0) && (E8 (Lr x y) && yH 0 (sv x y))))=true)
  (hc:∀{U:Ctx},HG c U L' (i1::is)->∀{b1:Nat×Nat} {x},fo=some x->FnS P f U xs0 [b1] (.box 0 c1::M) sv (λx y=>.box 0 (a1 x y)::Lr x y) x) (hF:fo.bind kf=some q)
  (k:∀x,fo=some x->kf x=some q->∀y:ex,G (.mk P T hT n c B0 N X Q) K' m' (dse d (sv x y) e') (LV L' (H3 L' (i1::is)++Lr x y) [(i1,n1,o1,k1)] [a1 x y]) cf2):G (.mk P T hT n c B0 N X Q) K m e L cf:=
 cwk (cb:=λx y=>[a1 x y]) (Lr:=Lr) [(i1,n1,o1,k1)] is hs hb hi hx hk hn (λ{U} h Bs hl x hx=>match Bs,hl with|[b1],_=>hc h hx) hF k
theorem cw2{c1 c2:List SV}{a1 a2:O->ex->List SV}(i1 n1 o1 k1:Nat)(i2 n2 o2 k2:Nat)(is:List Nat)
  (hs:cpS (iO T n K cf m e L)=some (o,d,f,xs,cf1,cf2,K',m',e',L')) (hb:aFV L' [(i1,n1,o1,k1),(i2,n2,o2,k2)]=some [c1,c2]) (hi:aV (λi=>L'[i]?) is=some M) (hx:aV (rnP [(i1,n1,o1,k1),(i2,n2,o2,k2)] 0) xs=some xs0)
  (hk:(E8 M && ([c1,c2].all (yH.okC 0) && (cX (i1::i2::is) && (i1::i2::is).all λj=>eO j cf1.vA)))=true) (hn:∀x y,(YU [(i1,n1,o1,k1),(i2,n2,o2,k2)] [a1 x y,a2 x y] && ([a1 x y,a2 x y].all (yH.okC 0) && (E8 (Lr x y) && yH 0 (sv x y))))=true)
  (hc:∀{U:Ctx},HG c U L' (i1::i2::is)->∀{b1 b2:Nat×Nat} {x},fo=some x->FnS P f U xs0 [b1,b2] (.box 0 c1::.box 1 c2::M) sv (λx y=>.box 0 (a1 x y)::.box 1 (a2 x y)::Lr x y) x) (hF:fo.bind kf=some q)
  (k:∀x,fo=some x->kf x=some q->∀y:ex,G (.mk P T hT n c B0 N X Q) K' m' (dse d (sv x y) e') (LV L' (H3 L' (i1::i2::is)++Lr x y) [(i1,n1,o1,k1),(i2,n2,o2,k2)] [a1 x y,a2 x y]) cf2):G (.mk P T hT n c B0 N X Q) K m e L cf:=
 cwk (cb:=λx y=>[a1 x y,a2 x y]) (Lr:=Lr) [(i1,n1,o1,k1),(i2,n2,o2,k2)] is hs hb hi hx hk hn (λ{U} h Bs hl x hx=>match Bs,hl with|[b1,b2],_=>hc h hx) hF k
theorem cw3{c1 c2 c3:List SV}{a1 a2 a3:O->ex->List SV}(i1 n1 o1 k1:Nat)(i2 n2 o2 k2:Nat)(i3 n3 o3 k3:Nat)(is:List Nat)
  (hs:cpS (iO T n K cf m e L)=some (o,d,f,xs,cf1,cf2,K',m',e',L')) (hb:aFV L' [(i1,n1,o1,k1),(i2,n2,o2,k2),(i3,n3,o3,k3)]=some [c1,c2,c3]) (hi:aV (λi=>L'[i]?) is=some M) (hx:aV (rnP [(i1,n1,o1,k1),(i2,n2,o2,k2),(i3,n3,o3,k3)] 0) xs=some xs0)
  (hk:(E8 M && ([c1,c2,c3].all (yH.okC 0) && (cX (i1::i2::i3::is) && (i1::i2::i3::is).all λj=>eO j cf1.vA)))=true) (hn:∀x y,(YU [(i1,n1,o1,k1),(i2,n2,o2,k2),(i3,n3,o3,k3)] [a1 x y,a2 x y,a3 x y] && ([a1 x y,a2 x y,a3 x y].all (yH.okC 0) && (E8 (Lr x y) && yH 0 (sv x y))))=true)
  (hc:∀{U:Ctx},HG c U L' (i1::i2::i3::is)->∀{b1 b2 b3:Nat×Nat} {x},fo=some x->FnS P f U xs0 [b1,b2,b3] (.box 0 c1::.box 1 c2::.box 2 c3::M) sv (λx y=>.box 0 (a1 x y)::.box 1 (a2 x y)::.box 2 (a3 x y)::Lr x y) x) (hF:fo.bind kf=some q)
  (k:∀x,fo=some x->kf x=some q->∀y:ex,G (.mk P T hT n c B0 N X Q) K' m' (dse d (sv x y) e') (LV L' (H3 L' (i1::i2::i3::is)++Lr x y) [(i1,n1,o1,k1),(i2,n2,o2,k2),(i3,n3,o3,k3)] [a1 x y,a2 x y,a3 x y]) cf2):G (.mk P T hT n c B0 N X Q) K m e L cf:=
 cwk (cb:=λx y=>[a1 x y,a2 x y,a3 x y]) (Lr:=Lr) [(i1,n1,o1,k1),(i2,n2,o2,k2),(i3,n3,o3,k3)] is hs hb hi hx hk hn (λ{U} h Bs hl x hx=>match Bs,hl with|[b1,b2,b3],_=>hc h hx) hF k
end
theorem a41(s:AC)(n1 n2:Nat):S4 (s.v n1)=S4 (s.v n2):=by obtain⟨a,c⟩:=s;cases a<;>rfl
theorem a42(s:AC)(q k n1 n2:Nat):RS q k (s.v n1)=RS q k (s.v n2):=by obtain⟨a,c⟩:=s;cases a<;>rfl
theorem ro{O J:Type}[aJ O](E:CO O)(j v nb:Nat){s:AC}{i:Int}{n0:Nat}{ls:List O}{kf:O->Option J}{q:J}(hs:OZ (iO T n K cf m e L)=some (K',cf',m',e',L'))(hj:L'[j]?=some (ow s ls))(hv:L'[v]?=some (wOf O nb s n0 i.toNat))(hz:eO j cf'.vA=true)(hF:(idx ls i).bind kf=some q)
  (k:∀x,idx ls i=some x->kf x=some q->∀y:E.ex,G (.mk P T hT n c B0 N X Q) K' m' e' (L'.set j .no++([.o (nU (s.v ls.length) ls i.toNat),.box nb (E.cs x y),wOf O nb s ls.length i.toNat]++E.Lx x y)) cf'):G (.mk P T hT n c B0 N X Q) K m e L cf:=by
 refine go hs ?_;cases hi:idx ls i with
 |none=>grind
 |some x=>
  rw[hi] at hF;refine chg (λ_=>m') (λ_=>e') (λy:E.ex=>L'.set j .no++([.o (nU (s.v ls.length) ls i.toNat),.box nb (E.cs x y),wOf O nb s ls.length i.toNat]++E.Lx x y)) (λB a w hm hA hS=>?_) (λy=>aMG hz) (λy=>k x hi hF y);obtain⟨⟨R,s1,s2⟩,s0⟩:=hS;have hB:B[nb]?=some (S4 (s.v ls.length),RS (aJ.n O) i.toNat (s.v ls.length)):=by rw[a41 s ls.length n0,a42 s _ _ ls.length n0];exact s2 _ (HA hv)
  have hj2:(L'.map (jO B))[j]?=some (eK [s.v ls.length] ls):=by simp[hj,jO]
  obtain⟨ec,h1⟩:=s1.open j hj2 (zC hi).2.2;have hlen:((L'.map (jO B)).set j I4).length=L'.length:=ae
  obtain⟨F,hF'⟩:=h1.chunk (L'.length+2) (by rw[aKS aa];simp;rfl);obtain⟨y,hy2⟩:=E.op (show aJ.own w ec x F from hF');have h2:=h1.unpack (L'.length+2) ae (E.pk hy2);have hset:((L'.map (jO B)).set j I4++[nU (s.v ls.length) ls i.toNat,TB (S4 (s.v ls.length)) (RS (aJ.n O) i.toNat (s.v ls.length)) ec,eK ec x]).set (L'.length+2) I4=(L'.map (jO B)).set j I4++[nU (s.v ls.length) ls i.toNat,TB (S4 (s.v ls.length)) (RS (aJ.n O) i.toNat (s.v ls.length)) ec,I4]:=ae
  rw[hset] at h2;refine⟨y,[],aj,aj,⟨⟨R,?_,λz hz=>?_⟩,s0⟩⟩
  ·have e1:(L'.set j Ch.no).map (jO B)=(L'.map (jO B)).set j I4:=by rw[G9];rfl
   refine h2.imp ?_;rw[rA,BX,BX,<-e1,I3];refine iV.append (iV.refl _) (iV.append (.cons (λ_ h=>h) (.cons (λF h=>⟨_,_,ec,hB,eP (λx v h=>by simpa using fU (B:=[]) B h) hy2,h⟩) (.cons (λ_ h=>h) .nil))) ?_);rw[E.nb x y B];exact iV.refl _
  ·rw[rA];rcases iX.1 hz with hz|hz
   ·rcases rB hz with hz|hz
    ·grind
    ·subst hz;trivial
   ·rcases iX.1 hz with hz|hz
    ·simp at hz;rcases hz with rfl|rfl|rfl
     ·trivial
     ·trivial
     ·exact hB
    ·exact aFT (E.no x y) z hz
theorem nw(O:Type)[aJ O](hs:OZ (iO T n K cf m e L)=some (K',cf',m',e',L'))
  (k:G (.mk P T hT n c B0 N X Q) K' m' e' (L'++[ow ⟨none,0⟩ ([]:List O)]) cf'):G (.mk P T hT n c B0 N X Q) K m e L cf:=by
 refine go hs ?_;refine chg (λ_:Unit=>m') (λ_=>e') (λ_=>L'++[ow ⟨none,0⟩ ([]:List O)]) (λB a w hm hA hS=>?_) (λ_=>rN _) (λ_=>k);obtain⟨⟨R,s1,s2⟩,s0⟩:=hS;refine⟨(),[],aj,aj,⟨⟨R,?_,λz hz=>?_⟩,s0⟩⟩
 ·rw[rA,BX];exact St.more s1 (dS.refl _ _) ⟨F0,⟨none,0,rfl,kH _,jT _,.inl ⟨rfl,rfl,λ_ _ h=>h⟩⟩,λ_ _ h=>h.elim⟩
 ·rw[rA];rcases iX.1 hz with hz|hz
  ·grind
  ·simp at hz;subst hz;trivial
theorem nV{Z:Act->World->Prop}(O:Type)[aJ O](kk:∀a w,oV n c B0 m e (L++[ow ⟨none,0⟩ ([]:List O)]) a w->Z a w):∀a w,oV n c B0 m e L a w->Z a w:=by
 intro a w ⟨B,hm,hA,hS⟩;refine kk a w ⟨B,hm,hA,?_⟩;obtain⟨⟨R,s1,s2⟩,s0⟩:=hS;refine⟨⟨R,?_,λz hz=>?_⟩,s0⟩
 ·rw[BX];exact St.more s1 (dS.refl _ _) ⟨F0,⟨none,0,rfl,kH _,jT _,.inl ⟨rfl,rfl,λ_ _ h=>h⟩⟩,λ_ _ h=>h.elim⟩
 ·rcases iX.1 hz with hz|hz
  ·grind
  ·simp at hz;subst hz;trivial
end
def AC.sub(s:AC)(n a:Nat):AC:=⟨if s.c=a then s.a else s.a.map (·.add (a*n)),s.c-a⟩
theorem MH{O:Type}{l:List O}{s:AC}{n a b k:Nat}(h1:a<=b)(h2:b<=l.length):gU n a b (s.v k)=(s.sub n a).v ((l.take b).drop a).length:=by rw[wW h1 h2];rfl
section
variable {P:Program} {T:TT} {hT:CR P T} {n:Nat} {c:Ctx} {B0:Bl} {N:Act->World->Prop} {X:Nat->Act->World->Prop} {Q:Act->World->Prop} {K K':List Fr} {m m':Nat} {e e':SE} {L L' Lv:List Ch} {cf cf' cf1 cf2:rL} {o:Oper} {d:Nat}
theorem cpc{O:Type}[aJ O](j:Nat){s:AC}{l:List O}(hs:OZ (iO T n K cf m e L)=some (K',cf',m',e',L'))(hj:L'[j]?=some (ow s l))(k:l.length<=s.c->G (.mk P T hT n c B0 N X Q) K' m' e' L' cf'):G (.mk P T hT n c B0 N X Q) K m e L cf:=by refine go hs ?_;refine chg (λ_:PLift (l.length<=s.c)=>m') (λ_=>e') (λ_=>L') (λB a w hm hA hS=>?_) (λ_=>by simpa using rN (L:=L') []) (λh=>k h.down);obtain⟨⟨R,s1,s2⟩,s0⟩:=hS;obtain⟨F,hF⟩:=s1.chunk (ch:=eK [s.v l.length] l) j (by simp[hj,jO]);obtain⟨ad,cp,h1,h2⟩:=KI (show aJ.own w [s.v l.length] l F from hF);simp only[AC.v,Value.slice.injEq] at h1;exact⟨⟨aa⟩,[],aj,aj,⟨⟨R,aj,aj⟩,s0⟩⟩
section
variable {x y z u:Operand} {t el sz:Nat} {k1 k2 k3:IntKind} {i j p:Int} {O J:Type} [aJ O] {A:Option J} {q:J} {s:AC} {l:List O} {b1 b2:Bool} {n1:Nat} {z1 z2:List SV} {kt:TK}
theorem YW(hc:l.length<=s.c)(q0_:opS (iO T n K cf m e L)=some (o,Lv,cf1,cf2,K',m',e',L')/\(o.op,o.dst)=(.slice t x (some y) none none,some d)/\wU T t=some ⟨.sl el,b1,n1,z1⟩/\wU T el=some ⟨kt,b2,sz,z2⟩/\gY e' x=some (.h s l.length)/\(gY e' y).bind rK=some (k1,i))(hF:need (0<=i/\i<=(l.length:Int)) A=some q)
  (kk:A=some q->(i.toNat<=l.length/\l.length<=l.length)->G (.mk P T hT n c B0 N X Q) K' m' ((d,.h (s.sub sz i.toNat) ((l.take l.length).drop i.toNat).length)::e') L' cf2):G (.mk P T hT n c B0 N X Q) K m e L cf:=by
 obtain⟨hs,ho,ht,he,hx,hy⟩:=q0_;have hop:o.op=.slice t x (some y) none none:=cP Prod.fst ho;have hb:=(lP hF).1;have hb2:i.toNat<=l.length/\l.length<=l.length:=aa
 refine pu hs (cP Prod.snd ho) (λB a w hA hS=>⟨gU sz i.toNat l.length (s.v l.length),by grind[MH,fA,gV,bQ],λ_ a hA'=>?_⟩) (kk (lP hF).2 hb2);obtain⟨h0,h1⟩:=hb;have h5:max i 0=i:=aa
 simp[execOp,hop,Instr.sliceAt,Instr.slice,run_underlying (CV ht hT),Instr.sliceBounds,hA'.eval (hdB hA hx),hA'.eval (wX hA hy),Instr.sliceBound,asIntOf,hT.size _ _ he,h0,h1,hc,h5,gU]
theorem aOV(hc:l.length<=s.c)(hs:opS (iO T n K cf m e L)=some (o,Lv,cf1,cf2,K',m',e',L'))(ho:(o.op,o.dst)=(.slice t x none (some z) none,some d))(ht:wU T t=some ⟨.sl el,b1,n1,z1⟩)(he:wU T el=some ⟨kt,b2,sz,z2⟩)(hx:gY e' x=some (.h s l.length))(hz:(gY e' z).bind rK=some (k2,j))(hF:need (0<=j/\j<=(l.length:Int)) A=some q)
  (kk:A=some q->(0<=j.toNat/\j.toNat<=l.length)->G (.mk P T hT n c B0 N X Q) K' m' ((d,.h (s.sub sz 0) ((l.take j.toNat).drop 0).length)::e') L' cf2):G (.mk P T hT n c B0 N X Q) K m e L cf:=by
 have hop:o.op=.slice t x none (some z) none:=cP Prod.fst ho;have hb:=(lP hF).1;have hb2:0<=j.toNat/\j.toNat<=l.length:=aa
 refine pu hs (cP Prod.snd ho) (λB a w hA hS=>⟨gU sz 0 j.toNat (s.v l.length),by grind[MH,fA,gV,bQ],λ_ a hA'=>?_⟩) (kk (lP hF).2 hb2);obtain⟨h0,h1⟩:=hb;have h3:j<=(s.c:Int):=aa
 have h5:max j 0=j:=aa
 simp[execOp,hop,Instr.sliceAt,Instr.slice,run_underlying (CV ht hT),Instr.sliceBounds,hA'.eval (hdB hA hx),hA'.eval (wX hA hz),Instr.sliceBound,asIntOf,hT.size _ _ he,h0,h3,h5,gU]
theorem a8W(hc:l.length<=s.c)(hs:opS (iO T n K cf m e L)=some (o,Lv,cf1,cf2,K',m',e',L'))(ho:(o.op,o.dst)=(.slice t x none (some z) (some u),some d))(ht:wU T t=some ⟨.sl el,b1,n1,z1⟩)(he:wU T el=some ⟨kt,b2,sz,z2⟩)(hx:gY e' x=some (.h s l.length))(hz:(gY e' z).bind rK=some (k2,j))(hu:(gY e' u).bind rK=some (k3,p))(hF:need (0<=j/\j<=p/\p<=(l.length:Int)) A=some q)
  (kk:A=some q->(0<=j.toNat/\j.toNat<=p.toNat/\p.toNat<=l.length)->G (.mk P T hT n c B0 N X Q) K' m' ((d,.h ⟨(s.sub sz 0).a,p.toNat⟩ ((l.take j.toNat).drop 0).length)::e') L' cf2):G (.mk P T hT n c B0 N X Q) K m e L cf:=by
 have hop:o.op=.slice t x none (some z) (some u):=cP Prod.fst ho;have hb:=(lP hF).1;have hb2:0<=j.toNat/\j.toNat<=p.toNat/\p.toNat<=l.length:=aa
 have hl:=wW (l:=l) (a:=0) (b:=j.toNat) aa aa;refine pu hs (cP Prod.snd ho) (λB a w hA hS=>⟨AC.v ⟨(s.sub sz 0).a,p.toNat⟩ ((l.take j.toNat).drop 0).length,by simp[fA,gV,bQ],λ_ a hA'=>?_⟩) (kk (lP hF).2 hb2);obtain⟨h0,h1,h2⟩:=hb;have h3:p<=(s.c:Int):=aa
 have h4:0<=p:=aa
 have h5:max j 0=j:=aa
 have h6:max p 0=p:=aa
 rw[hl];have hadd:s.a.map (λx=>x.add 0)=s.a:=by simp[Addr.add]
 by_cases hp:p=0
 ·subst hp;simp[execOp,hop,Instr.sliceAt,Instr.slice,run_underlying (CV ht hT),Instr.sliceBounds,hA'.eval (hdB hA hx),hA'.eval (wX hA hz),hA'.eval (wX hA hu),Instr.sliceBound,asIntOf,hT.size _ _ he,h0,h1,h3,h4,h5,h6,AC.sub,hadd]
 ·simp[execOp,hop,Instr.sliceAt,Instr.slice,run_underlying (CV ht hT),Instr.sliceBounds,hA'.eval (hdB hA hx),hA'.eval (wX hA hz),hA'.eval (wX hA hu),Instr.sliceBound,asIntOf,hT.size _ _ he,h0,h1,h3,h4,h5,h6,AC.sub,hadd]
end
end
section
variable {P:Program} {T:TT} {hT:CR P T} {n:Nat} {c:Ctx} {B0:Bl} {N:Act->World->Prop} {X:Nat->Act->World->Prop} {Q:Act->World->Prop} {K K':List Fr} {m m':Nat} {e e':SE} {L L' Lv:List Ch} {cf cf' cf1 cf2:rL} {o:Oper} {d:Nat}
theorem a43{O:Type}[aJ O]{B:Bl}{w:World}{R:List Fact}{j a b sz:Nat}{s s':AC}{l l':List O}(hn:aJ.n O=sz)(hj:L[j]?=some (ow s l))(hb:a<=b/\b<=l.length)(hl:(l.take b).drop a=l')(hs:∀w F,aJ.own w [s.v l.length] l F->∃F',aJ.own w [s'.v l'.length] l' F'/\∀b o,F' b o->F b o)(hS:kY c w B L):kY c w B (L.set j (ow s' l')):=by
 obtain⟨⟨R,s1,s2⟩,s0⟩:=hS;refine⟨⟨R,?_,λz hz=>?_⟩,s0⟩
 ·rw[G9];refine s1.YE j (by rw[yF,hj];rfl) λF hF=>?_;obtain⟨F',h1,h2⟩:=hs w F hF;exact⟨F',F0,dS.refl _ _,λ_ _ h=>h.elim,h1,λb o h=>.inl (h2 b o h)⟩
 ·rcases rB hz with hz|hz
  ·grind
  ·subst hz;trivial
theorem aZD{O:Type}[aJ O]{s:AC}{l l':List O}{sz a b:Nat}(hn:aJ.n O=sz)(hb:a<=b/\b<=l.length)(hl:(l.take b).drop a=l'):∀w F,aJ.own w [s.v l.length] l F->∃F',aJ.own w [(s.sub sz a).v l'.length] l' F'/\∀b o,F' b o->F b o:=by intro w F h;obtain⟨F',h1,h2⟩:=aTA hn h hb.1 hb.2;grind[MH]
theorem aZE{O:Type}[aJ O]{s:AC}{l l':List O}{sz b p:Nat}(hn:aJ.n O=sz)(hb:0<=b/\b<=p/\p<=l.length)(hl:(l.take b).drop 0=l'):∀w F,aJ.own w [s.v l.length] l F->∃F',aJ.own w [AC.v ⟨(s.sub sz 0).a,p⟩ l'.length] l' F'/\∀b o,F' b o->F b o:=by
 intro w F h;obtain⟨F',h1,h2⟩:=aX1 hn h hb.1 hb.2.1 hb.2.2;have hadd:s.a.map (λx=>x.add 0)=s.a:=by simp[Addr.add]
 have hln:=wW (l:=l) (a:=0) (b:=b) aa aa;rw[hl] at hln h1;refine⟨F',?_,h2⟩;simp_all[a2J,AC.sub]
theorem poR{Z:Act->World->Prop}{O:Type}[aJ O](j a b:Nat){sz:Nat}{s:AC}{l l':List O}(hn:aJ.n O=sz)(hj:L[j]?=some (ow s l))(hb:a<=b/\b<=l.length)(hl:(l.take b).drop a=l')
  (kk:∀a' w,oV n c B0 m e (L.set j (ow (s.sub sz a) l')) a' w->Z a' w):∀a' w,oV n c B0 m e L a' w->Z a' w:=by
 intro a' w ⟨B,hm,hA,hS⟩;exact kk a' w ⟨B,hm,hA,a43 (R:=[]) hn hj hb hl (aZD hn hb hl) hS⟩
theorem pmR{Z:Act->World->Prop}{O:Type}[aJ O](j b p:Nat){sz:Nat}{s:AC}{l l':List O}(hn:aJ.n O=sz)(hj:L[j]?=some (ow s l))(hb:0<=b/\b<=p/\p<=l.length)(hl:(l.take b).drop 0=l')
  (kk:∀a' w,oV n c B0 m e (L.set j (ow ⟨(s.sub sz 0).a,p⟩ l')) a' w->Z a' w):∀a' w,oV n c B0 m e L a' w->Z a' w:=by
 intro a' w ⟨B,hm,hA,hS⟩;exact kk a' w ⟨B,hm,hA,a43 (R:=[]) hn hj ⟨aa,aa⟩ hl (aZE hn hb hl) hS⟩
theorem aQ9{O:Type}{l xs:List O}{k a n:Nat}(h:k<=n/\n<=l.length)(ha:a<=l.length):k<=n/\n<=(cO l a xs).length:=⟨h.1,by grind[fB]⟩
theorem aML{O:Type}{l xs:List O}{k a:Nat}(h:k<=a)(ha:a<=l.length):((cO l a xs).take k).drop 0=(l.take k).drop 0:=by grind[cO]
def AC.a3D(s:AC)(n a p:Nat):AC:=⟨if p=a then s.a else s.a.map (·.add (a*n)),p-a⟩
section
variable {x y z:Operand} {t el sz:Nat} {zv:Value} {k1 k2:IntKind} {i j:Int} {O J:Type} [aJ O] {A:Option J} {q:J} {s:AC} {l:List O} {b1 b2:Bool} {n1:Nat} {z1 z2:List SV} {kt:TK}
theorem ap2[Flat O](p a b:Nat)(hb:a<=b/\b<=l.length)(hs:iO T n K cf m e L=.op o Lv cf1 cf2 K' m' e' L')(ho:(o.op,o.dst)=(.call {callee:=.builtin .append,args:=#[x,y],argTypes:=#[t,t]},some d))(ht:wU T t=some ⟨.sl el,b1,n1,z1⟩)(he:wU T el=some ⟨kt,b2,sz,z2⟩)(hn:aJ.n O=sz)(hp:L'[p]?=some (ow s l))(hz:eO p cf1.vA=true)(hx:gY e' x=some (.h (s.sub sz 0) ((l.take a).drop 0).length))(hy:gY e' y=some (.h (s.sub sz b) ((l.take l.length).drop b).length))
  (k:(0<=a+(l.length-b)/\a+(l.length-b)<=(cO l a (l.drop b)).length)->G (.mk P T hT n c B0 N X Q) K' m' ((d,.h (s.sub sz 0) (((cO l a (l.drop b)).take (a+(l.length-b))).drop 0).length)::e') (L'.set p (ow s (cO l a (l.drop b)))) cf2):G (.mk P T hT n c B0 N X Q) K m e L cf:=by
 have hlen:(cO l a (l.drop b)).length=l.length:=fB aa;have hk:0<=a+(l.length-b)/\a+(l.length-b)<=(cO l a (l.drop b)).length:=aa
 refine gE (g:=.mk P T hT n c B0 N X Q) ?_;rw[hs];intro hdn _ hE;refine hE Unit (λ_=>m') (λ_=>(d,.h (s.sub sz 0) (((cO l a (l.drop b)).take (a+(l.length-b))).drop 0).length)::e') (λ_=>L'.set p (ow s (cO l a (l.drop b)))) (λ_=>CX hz) (λB act w next Q' hm hA hS hnext=>?_) (λ_=>k hk);obtain⟨⟨R,s1,s2⟩,s0⟩:=hS;have hx2:ev (vE (WQ (.mk P T hT n c B0 N X Q) cf1++B) e') x=some (gU sz 0 a (s.v l.length)):=by rw[hdB hA hx,MH (jT a) (pG hb.1 hb.2)]
 have hy2:ev (vE (WQ (.mk P T hT n c B0 N X Q) cf1++B) e') y=some (gU sz b l.length (s.v l.length)):=by rw[hdB hA hy,MH hb.2 (kH _)]
 have hop:o.op=.call {callee:=.builtin .append,args:=#[x,y],argTypes:=#[t,t]}:=cP Prod.fst ho;have hd:o.dst=some d:=cP Prod.snd ho;obtain⟨v,w',k1,rfl,k2⟩:=aQU p s1 (by rw[yF,hp];rfl) hn hb.1 hb.2 (CV ht hT) (hT.size _ _ he) hop hx2 hy2;unfold Oper.wp;rw[k1 _ act hA.env,Oper.upon_value,hd];have hv:fA (WQ (.mk P T hT n c B0 N X Q) cf1++B) (.h (s.sub sz 0) (((cO l a (l.drop b)).take (a+(l.length-b))).drop 0).length)=some (gU sz 0 (a+(l.length-b)) (s.v l.length)):=by grind[MH,fA,gV,bQ]
 refine hnext () _ _ ⟨[],aj,by simpa using hA.of hv (hA.env.put (by grind[pQ,vF]) _),?_⟩;rw[rA];refine⟨⟨R,?_,λz hz=>?_⟩,s0⟩
 ·rw[G9];show St c w' ((L'.map _).set p (eK [s.v (cO l a (l.drop b)).length] _)) R;grind
 ·rcases rB hz with hz|hz
  ·grind
  ·subst hz;trivial
theorem aZF(p k':Nat)(hk:k'<=l.length){l0:List O}(h0:l0.length=k')(hs:opS (iO T n K cf m e L)=some (o,Lv,cf1,cf2,K',m',e',L'))(ho:(o.op,o.dst)=(.slice t x (some y) (some z) none,some d))(ht:wU T t=some ⟨.sl el,b1,n1,z1⟩)(he:wU T el=some ⟨kt,b2,sz,z2⟩)(hn:aJ.n O=sz)(hp:Lv[p]?=some (ow s l))(hx:gY e' x=some (.h (s.sub sz 0) l0.length))(hy:(gY e' y).bind rK=some (k1,i))(hz:(gY e' z).bind rK=some (k2,j))(hF:need (0<=i/\i<=j/\j<=(l.length:Int)) A=some q)
  (kk:A=some q->(i.toNat<=j.toNat/\j.toNat<=l.length)->G (.mk P T hT n c B0 N X Q) K' m' ((d,.h (s.sub sz i.toNat) ((l.take j.toNat).drop i.toNat).length)::e') L' cf2):G (.mk P T hT n c B0 N X Q) K m e L cf:=by
 have hop:o.op=.slice t x (some y) (some z) none:=cP Prod.fst ho;have hb:=(lP hF).1;have hb2:i.toNat<=j.toNat/\j.toNat<=l.length:=aa
 refine pu hs (cP Prod.snd ho) (λB a w hA hS=>⟨gU sz i.toNat j.toNat (s.v l.length),by grind[MH,fA,gV,bQ],?_⟩) (kk (lP hF).2 hb2);obtain⟨⟨R,s1,s2⟩,s0⟩:=hS;have hx2:ev (vE B e') x=some (gU sz 0 k' (s.v l.length)):=by rw[hdB hA hx,h0];rfl
 exact aQV p s1 (by rw[yF,hp];rfl) hn (CV ht hT) (hT.size _ _ he) hb hop hx2 (wX hA hy) (wX hA hz)
theorem clr[Flat O](p a b:Nat)(zd:O)(hb:a<=b/\b<=l.length)(hinf:TC P el sz zv)(hzs:zv.cells.size=sz)(hzd:∀w,aJ.rd F0 w zv.cells.toList zd)(hone:(zv.cells.toList.all λv=>v.oneCell')=true)(hs:iO T n K cf m e L=.op o Lv cf1 cf2 K' m' e' L')(ho:(o.op,o.dst)=(.call {callee:=.builtin .clear,args:=#[x],argTypes:=#[t]},none))(ht:wU T t=some ⟨.sl el,b1,n1,z1⟩)(hn:aJ.n O=sz)(hp:L'[p]?=some (ow s l))(hz:eO p cf1.vA=true)(hx:gY e' x=some (.h (s.sub sz a) ((l.take b).drop a).length))
  (k:G (.mk P T hT n c B0 N X Q) K' m' e' (L'.set p (ow s (cO l a (List.replicate (b-a) zd)))) cf2):G (.mk P T hT n c B0 N X Q) K m e L cf:=by
 have hlen:(cO l a (List.replicate (b-a) zd)).length=l.length:=fB aa;refine gE (g:=.mk P T hT n c B0 N X Q) ?_;rw[hs];intro hdn _ hE;refine hE Unit (λ_=>m') (λ_=>e') (λ_=>L'.set p (ow s (cO l a (List.replicate (b-a) zd)))) (λ_=>CX hz) (λB act w next Q' hm hA hS hnext=>?_) (λ_=>k);obtain⟨⟨R,s1,s2⟩,s0⟩:=hS;have hx2:ev (vE (WQ (.mk P T hT n c B0 N X Q) cf1++B) e') x=some (gU sz a b (s.v l.length)):=by grind[hdB,MH]
 have hop:o.op=.call {callee:=.builtin .clear,args:=#[x],argTypes:=#[t]}:=cP Prod.fst ho;have hd:o.dst=none:=cP Prod.snd ho;obtain⟨v,w',k1,rfl,k2⟩:=aX6 zd p s1 (by rw[yF,hp];rfl) hn hb.1 hb.2 (CV ht hT) hinf hzs hzd (λv hv=>aI3.1 hone v hv) hop hx2;unfold Oper.wp;rw[k1 _ act hA.env,Oper.upon_value,hd];refine hnext () _ _ ⟨[],aj,by grind[Act.put],?_⟩;rw[rA];refine⟨⟨R,?_,λz hz=>?_⟩,s0⟩
 ·rw[G9];show St c w' ((L'.map _).set p (eK [s.v (cO l a (List.replicate (b-a) zd)).length] _)) R;grind
 ·rcases rB hz with hz|hz
  ·grind
  ·subst hz;trivial
theorem aRA{u:Operand}{k3:IntKind}{pz:Int}(hc:l.length<=s.c)(hs:opS (iO T n K cf m e L)=some (o,Lv,cf1,cf2,K',m',e',L'))(ho:(o.op,o.dst)=(.slice t x (some y) (some z) (some u),some d))(ht:wU T t=some ⟨.sl el,b1,n1,z1⟩)(he:wU T el=some ⟨kt,b2,sz,z2⟩)(hx:gY e' x=some (.h s l.length))(hy:(gY e' y).bind rK=some (k1,i))(hz:(gY e' z).bind rK=some (k2,j))(hu:(gY e' u).bind rK=some (k3,pz))(hF:need (0<=i/\i<=j/\j<=pz/\pz<=(l.length:Int)) A=some q)
  (kk:A=some q->(i.toNat<=j.toNat/\j.toNat<=pz.toNat/\pz.toNat<=l.length)->G (.mk P T hT n c B0 N X Q) K' m' ((d,.h (s.a3D sz i.toNat pz.toNat) ((l.take j.toNat).drop i.toNat).length)::e') L' cf2):G (.mk P T hT n c B0 N X Q) K m e L cf:=by
 have hop:o.op=.slice t x (some y) (some z) (some u):=cP Prod.fst ho;have hb:=(lP hF).1;have hb2:i.toNat<=j.toNat/\j.toNat<=pz.toNat/\pz.toNat<=l.length:=aa
 have hl:=wW (l:=l) (a:=i.toNat) (b:=j.toNat) aa aa;refine pu hs (cP Prod.snd ho) (λB a w hA hS=>⟨AC.v (s.a3D sz i.toNat pz.toNat) ((l.take j.toNat).drop i.toNat).length,by simp[fA,gV,bQ],λ_ a hA'=>?_⟩) (kk (lP hF).2 hb2);obtain⟨h0,h1,h2,h2'⟩:=hb;have h3:pz<=(s.c:Int):=aa
 have h4:0<=pz:=aa
 have h4':0<=j:=aa
 have h5:max j 0=j:=aa
 have h6:max pz 0=pz:=aa
 have h7:max i 0=i:=aa
 rw[hl];by_cases hp:pz.toNat=i.toNat
 ·have:pz=i:=aa
  subst this;simp[execOp,hop,Instr.sliceAt,Instr.slice,run_underlying (CV ht hT),Instr.sliceBounds,hA'.eval (hdB hA hx),hA'.eval (wX hA hy),hA'.eval (wX hA hz),hA'.eval (wX hA hu),Instr.sliceBound,asIntOf,hT.size _ _ he,h0,h1,h2,h3,h4,h4',h5,h6,h7,AC.a3D]
 ·have hp2:¬pz=i:=λh=>hp (by rw[h]);simp[execOp,hop,Instr.sliceAt,Instr.slice,run_underlying (CV ht hT),Instr.sliceBounds,hA'.eval (hdB hA hx),hA'.eval (wX hA hy),hA'.eval (wX hA hz),hA'.eval (wX hA hu),Instr.sliceBound,asIntOf,hT.size _ _ he,h0,h1,h2,h3,h4,h4',h5,h6,h7,hp,hp2,AC.a3D]
theorem bAJ{t2:Nat}(hs:opS (iO T n K cf m e L)=some (o,Lv,cf1,cf2,K',m',e',L'))(ho:(o.op,o.dst)=(.binOp .shl t x y t2,some d))(hx:(gY e' x).bind rK=some (k1,i))(hy:(gY e' y).bind rK=some (k2,j))(hF:need (0<=j) A=some q)
  (kk:A=some q->G (.mk P T hT n c B0 N X Q) K' m' ((d,.i k1 (aFB k1 i j))::e') L' cf2):G (.mk P T hT n c B0 N X Q) K m e L cf:=
 pu hs (cP Prod.snd ho) (λB a w hA _=>⟨_,rfl,aXC (cP Prod.fst ho) (wX hA hx) (wX hA hy) (by grind[lP])⟩) (kk (lP hF).2)
theorem eqn{t2:Nat}{ln:Nat}(hs:opS (iO T n K cf m e L)=some (o,Lv,cf1,cf2,K',m',e',L'))(ho:(o.op,o.dst)=(.binOp .eql t x (.const (.slice none 0 0)) t2,some d))(ht:wU T t=some ⟨.sl el,b1,n1,z1⟩)(hx:gY e' x=some (.h s ln))
  (kt:s.a=none->G (.mk P T hT n c B0 N X Q) K' m' ((d,.l true)::e') L' cf2) (kf:G (.mk P T hT n c B0 N X Q) K' m' ((d,.l false)::e') L' cf2):G (.mk P T hT n c B0 N X Q) K m e L cf:=by
 cases hs':s.a with
 |none=>exact pu hs (cP Prod.snd ho) (λB a w hA _=>⟨_,rfl,aQR (CV ht hT) ⟨ln,s.c,aj⟩ (cP Prod.fst ho) (hdB hA hx) rfl⟩) (kt hs')
 |some ad=>exact pu hs (cP Prod.snd ho) (λB a w hA _=>⟨_,rfl,aQS (CV ht hT) ⟨ad,ln,s.c,aj⟩ (cP Prod.fst ho) (hdB hA hx) rfl⟩) kf
theorem cln{w:Ctx}{r:List O}(h:bU w s l)(hn:s.a=none)(hF:need (([]:List O).length+l.length<=1073741824) (some (([]:List O)++l))=some r):some ([]:List O)=some r:=by obtain⟨ad,cp,h1,h2,h3,h4⟩:=(show wV w.S0 w.w0 [s.v l.length] l from h);grind[need]
end
section
variable {x y:Operand} {t el sz:Nat} {zv:Value} {b1:Bool} {n1:Nat} {z1:List SV}
theorem WR{O:Type}[aJ O](E:CO O)(is:List Nat)(q:O)(ye:E.ex)(hinf:TC P el sz zv)(q0_:iO T n K cf m e L=.op o Lv cf1 cf2 K' m' e' L'/\(o.op,o.dst)=(.buildSlice t 1 #[(0,x)],some d)/\wU T t=some ⟨.sl el,b1,n1,z1⟩/\aJ.n O=sz/\Nat.ble 1 sz=true/\Nat.ble sz 16777216=true/\(gY e' x).map (λv=>nbL (mZ v))=some (E.cs q ye)/\(gY e' x).map isCells=some true/\(E.cs q ye).length=sz/\(aV (bQ []) (E.cs q ye)).isSome=true/\aV (λi=>L'[i]?) is=some (E.Lx q ye)/\cX is=true/\(is.all λj=>eO j cf1.vA)=true)
  (k:∀s':AC,G (.mk P T hT n c B0 N X Q) K' m' ((d,.h s' [q].length)::e') (H3 L' is++[ow s' [q]]) cf2):G (.mk P T hT n c B0 N X Q) K m e L cf:=by
 obtain⟨hs,ho,ht,hn,hm,hm2,hx,hxc,hle,hec,hi,ha,hz⟩:=q0_;obtain⟨ec,hec⟩:=aFA.1 hec;refine aMI (l:=[q]) (λs'=>H3 L' is++[ow s' [q]]) hs (cP Prod.snd ho) (λ_=>QB _ hz) (λB a w hA hS=>?_) k;obtain⟨⟨R,s1,s2⟩,s0⟩:=hS;have hecl:ec.length=sz:=by grind[k9]
 cases hxv:gY e' x with
 |none=>grind
 |some xv=>
  rw[hxv] at hx hxc;simp at hx hxc;obtain⟨v,v1,v2⟩:=dZ hA hxv;have hcell:aV (bQ B) (mZ xv)=some ec:=by rw[<-MD,hx];exact eP (λx v h=>by simpa using fU (B:=[]) B h) hec
  have hvc:v.cells.toList=ec:=O0 v1 hcell;have p1:=s1.shift is ha (A':=[eK ec q]) λF hF=>by rw[MF hi,E.nb] at hF;exact Sep.one.2 ((E.pk hec w F).2 hF)
  have hlen:(blank (L'.map (jO B)) is).length=L'.length:=by rw[<-F7];simp[aEX]
  obtain⟨v',w',k1,k2⟩:=a2A (e:=vE B e') (o:=o) (ps:=[(0,x)]) (vs:=[v]) (cells:=ec) [q] p1 [L'.length] rfl ⟨[],by
    simp only[pick,aKS (RR hlen),hlen,Nat.sub_self];grind,aj,⟨aj,rfl⟩⟩ hn (CV ht hT) hinf rfl hm aj (cP Prod.fst ho) (by simp[evs,v2]) (aFH (vs:=[v]) (ps:=[(0,x)]) rfl rfl aj (by simp[hvc]))
  have hb2:blank (blank (L'.map (jO B)) is++[eK ec q]) [L'.length]=blank (L'.map (jO B)) is++[I4]:=by simp_all[blank]
  rw[hb2] at k2;obtain⟨s',rfl⟩:=aAP (v:=v') (l:=[q]) k2 (L'.length+1) aj;refine⟨s',w',k1,⟨⟨R,?_,λz hz=>?_⟩,s0⟩⟩
  ·have k3:=k2.sel ((List.range L'.length)++[L'.length+1]) ?_
   ·refine k3.imp ?_;rw[BX,F7,YV];refine iV.append ?_ ?_
    ·have:pick (blank (L'.map (jO B)) is++[I4]++[eK [s'.v [q].length] [q]]) (List.range L'.length)=blank (L'.map (jO B)) is:=by
      have gen:∀(M M':List Chunk) (j:Nat),pick (M++M') ((List.range j))=(M++M').take j\/¬j<=(M++M').length:=by
       intro M M' j;by_cases hj:j<=(M++M').length
       ·left;induction j with
        |zero=>rfl
        |succ j ih=>
         grind[List.range_succ,YV,pick,List.take_add_one]
       omega
      grind
     grind[iV.refl]
    simp_all[pick,jO,iV.refl]
   ·have gen:∀(j:Nat),cX (List.range' j (L'.length-j)++[L'.length+1])=true:=by
     intro j;generalize hk:L'.length-j=k;induction k generalizing j with
     |zero=>rfl
     |succ k ih=>
      rw[List.range'_succ,WK];simp only[cX,CL,aI3,Bool.not_eq_true'];grind[nS]
    have:=gen 0;simp_all[List.range_eq_range']
  ·rcases iX.1 hz with hz|hz
   ·rcases ME _ _ hz with hz|hz
    ·grind
    ·subst hz;trivial
   ·simp at hz;subst hz;trivial
theorem apN{O J:Type}[aJ O]{A:Option J}{q:J}{s s2:AC}{l xs:List O}(i j:Nat)(hinf:TC P el sz zv)(hs:iO T n K cf m e L=.op o Lv cf1 cf2 K' m' e' L')(ho:(o.op,o.dst)=(.call {callee:=.builtin .append,args:=#[x,y],argTypes:=#[t,t]},some d))(q0_:wU T t=some ⟨.sl el,b1,n1,z1⟩/\aJ.n O=sz/\zv.cells.size=sz/\L'[i]?=some (ow s l)/\L'[j]?=some (ow s2 xs)/\cX [i,j]=true/\([i,j].all λj=>eO j cf1.vA)=true/\gY e' x=some (.h s l.length)/\gY e' y=some (.h s2 xs.length))(hF:need (l.length+xs.length<=1073741824) A=some q)
  (k:A=some q->∀s':AC,G (.mk P T hT n c B0 N X Q) K' m' ((d,.h s' (l++xs).length)::e') (H3 L' [i,j]++[ow s' (l++xs)]) cf2):G (.mk P T hT n c B0 N X Q) K m e L cf:=by
 obtain⟨ht,hn,hzs,hi,hj,ha,hz,hx,hy⟩:=q0_;refine aMI (l:=l++xs) (λs'=>H3 L' [i,j]++[ow s' (l++xs)]) hs (cP Prod.snd ho) (λ_=>QB _ hz) (λB a w hA hS=>?_) (k (lP hF).2);obtain⟨⟨R,s1,s2'⟩,s0⟩:=hS;have hp:pick (L'.map (jO B)) [i,j]=[eK [s.v l.length] l,eK [s2.v xs.length] xs]:=by grind[pick,jO]
 obtain⟨v,w',k1,k2⟩:=a2B [i,j] s1 ha hp hn (CV ht hT) hinf hzs (lP hF).1 (cP Prod.fst ho) (hdB hA hx) (hdB hA hy);have hlen:(blank (L'.map (jO B)) [i,j]).length=L'.length:=by rw[<-F7];simp[aEX]
 obtain⟨s',rfl⟩:=aAP k2 L'.length (by rw[aKS (RR hlen),hlen,Nat.sub_self];rfl);refine⟨s',w',k1,⟨⟨R,?_,λz hz=>?_⟩,s0⟩⟩
 ·rw[BX,F7];exact k2
 ·rcases iX.1 hz with hz|hz
  ·rcases ME _ _ hz with hz|hz
   ·grind
   ·subst hz;trivial
  ·simp at hz;subst hz;trivial
end
theorem kb{b cb:Bool}(ss:List Nat)(hb:b=cb)(hs:OZ (iO T n K cf m e L)=some (K',cf',m',e',L'))(ho:aV (BZ e') ss=some (ss.map λ_=>SV.b b))(k:G (.mk P T hT n c B0 N X Q) K' m' (ovr cb e' ss) L' cf'):G (.mk P T hT n c B0 N X Q) K m e L cf:=
 go hs (aFS (λa B hA=>VV hb ss ho hA) k)
def rhE(v:SV)(e:SE):List (Nat×Nat)->SE
 |[]=>e
 |(k,j)::r=>match BZ e k with
  |some (.g cs)=>(k,.g (ovw cs j [v]))::rhE v e r
  |some (.t cs)=>(k,.t (ovw cs j [v]))::rhE v e r
  |_=>rhE v e r
def rhL(v:SV)(L:List Ch):List (Nat×Nat)->List Ch
 |[]=>L
 |(k,j)::r=>match L[k]? with
  |some (.box n cs)=>rhL v (L.set k (.box n (ovw cs j [v]))) r
  |_=>rhL v L r
theorem aEY{B:Bl}{f:Bl->SV->Option Value}{u v:SV}(huv:∀B,f B u=f B v):∀{cs:List SV} {j:Nat},cs[j]?=some u->aV (f B) (ovw cs j [v])=aV (f B) cs
 |[],j,h=>by simp at h
 |x::cs,0,h=>by grind[aV,ovw,aL8]
 |x::cs,j + 1,h=>by show aV (f B) (x::ovw cs j [v])=_;simp only[aV,aEY (B:=B) huv (show cs[j]?=some u by grind)]
theorem aZG{s:AC}{n0 n1:Nat}(hn:n0=n1){B:Bl}:∀{ps:List (Nat×Nat)} {k:Nat} {x:SV},(∀p∈ps,∃cs,(BZ e p.1=some (.g cs)\/BZ e p.1=some (.t cs))/\cs[p.2]?=some (.h s n0))->BZ (rhE (.h s n1) e ps) k=some x->∃y,BZ e k=some y/\fA B x=fA B y
 |[],k,x,_,h=>⟨x,h,rfl⟩
 |(k',j)::r,k,x,hp,h=>by
  have ih:=λh=>aZG hn (B:=B) (ps:=r) (k:=k) (x:=x) (λp hp'=>hp p (yG _ hp')) h;obtain⟨cs,h1,h2⟩:=hp (k',j) ae;have hc:∀B,bQ B (.h s n0)=bQ B (.h s n1):=λB=>by rw[hn]
  have hg:∀B,gV B (.h s n0)=gV B (.h s n1):=λB=>by rw[hn]
  rcases h1 with h1|h1
  ·simp only[rhE,h1,BZ] at h;split at h
   ·rename_i hb;cases h;have:=nS hb;subst this;exact⟨_,h1,by simp only[fA,gV,aEY (f:=bQ) hc h2]⟩
   grind
  ·simp only[rhE,h1,BZ] at h;split at h
   ·rename_i hb;cases h;have:=nS hb;subst this;exact⟨_,h1,by simp only[fA,aEY (f:=gV) hg h2]⟩
   grind
theorem aT1{s:AC}{n0 n1:Nat}(hn:n0=n1){B:Bl}{w:World}{R:List Fact}:∀{ps:List (Nat×Nat)} {L:List Ch},(∀p∈ps,∃k cs,L[p.1]?=some (.box k cs)/\cs[p.2]?=some (.h s n0))->cX (ps.map (·.1))=true->iV w (L.map (jO B)) ((rhL (.h s n1) L ps).map (jO B))/\((∀x∈L,roF B R x)->∀x∈rhL (.h s n1) L ps,roF B R x)
 |[],L,_,_=>⟨iV.refl _,λh=>h⟩
 |(i,j)::r,L,hp,ha=>by
  obtain⟨k,cs,h1,h2⟩:=hp (i,j) ae;have hc:∀B,bQ B (.h s n0)=bQ B (.h s n1):=λB=>by rw[hn]
  simp only[TQ,cX,CL] at ha;have ih:=aT1 hn (B:=B) (w:=w) (R:=R) (ps:=r) (L:=L.set i (.box k (ovw cs j [.h s n1]))) (λp hp'=>by
   obtain⟨k',cs',h3,h4⟩:=hp p (yG _ hp');have hne:i≠p.1:=λhe=>by have:=aI3.1 ha.1 p.1 (List.mem_map_of_mem hp');simp_all
   exact⟨k',cs',aj,h4⟩) ha.2
  simp only[rhL,h1];refine⟨?_,λh=>ih.2 λx hx=>?_⟩
  ·have h5:iV w (L.map (jO B)) ((L.set i (.box k (ovw cs j [.h s n1]))).map (jO B)):=by rw[G9];exact iV.put (a:=YL B k cs) (b:=YL B k (ovw cs j [.h s n1])) i (by rw[yF,h1];rfl) λF ⟨b,z,vs,q1,q2,q3⟩=>⟨b,z,vs,q1,by rw[aEY (f:=bQ) hc h2];exact q2,q3⟩
   have tr:∀{A B C:List Chunk},iV w A B->iV w B C->iV w A C:=by
    intro A B C h1;induction h1 generalizing C with
    |nil=>simp
    |cons h t ih=>intro h2;cases h2 with|cons h' t'=>exact .cons (λF hF=>h' F (h F hF)) (ih t')
   grind
  ·rcases rB hx with hx|hx
   ·exact h x hx
   ·subst hx;trivial
def atE(e:SE)(p:Nat×Nat):Option SV:=match BZ e p.1 with
 |some (.g cs)=>cs[p.2]?
 |some (.t cs)=>cs[p.2]?
 |_=>none
def atL(L:List Ch)(p:Nat×Nat):Option SV:=match L[p.1]? with
 |some (.box _ cs)=>cs[p.2]?
 |_=>none
theorem aT2{B:Bl}{a:Act}{w:World}(s:AC){n0 n1:Nat}(hn:n0=n1){ps qs:List (Nat×Nat)}(hp:aV (atE e) ps=some (ps.map λ_=>.h s n0))(hq:aV (atL L) qs=some (qs.map λ_=>.h s n0))(ha:cX (qs.map (·.1))=true)(hA:gA n B e a)(hS:kY c w B L):gA n B (rhE (.h s n1) e ps) a/\kY c w B (rhL (.h s n1) L qs):=by
 have key:∀{γ:Type} {f:γ->Option SV} {ps:List γ},aV f ps=some (ps.map λ_=>.h s n0)->∀p∈ps,f p=some (.h s n0):=by
  intro γ f ps;induction ps with
  |nil=>simp
  |cons q ps ih=>
   grind[aV]
 refine⟨⟨hA.d,hA.size,λk x hk=>?_⟩,?_⟩
 ·obtain⟨y,h1,h2⟩:=aZG hn (B:=B) (λp hp'=>by
   have:=key hp p hp';unfold atE at this;grind) hk
  obtain⟨v,h3,h4⟩:=hA.get k y h1;grind
 ·obtain⟨⟨R,s1,s2⟩,s0⟩:=hS;obtain⟨h1,h2⟩:=aT1 hn (B:=B) (w:=w) (R:=R) (L:=L) (λp hp'=>by
   have:=key hq p hp';unfold atL at this;split at this
   ·rename_i k cs hc;exact⟨k,cs,hc,this⟩
   grind) ha
  exact⟨⟨R,s1.imp h1,h2 s2⟩,s0⟩
theorem YX{g:Gx}{cf:rL}{v:SV}:∀{qs:List (Nat×Nat)} {L M:List Ch},Frz g cf L M->((qs.map (·.1)).all λj=>eO j cf.vA)=true->Frz g cf L (rhL v M qs)
 |[],L,M,h,_=>h
 |(i,j)::r,L,M,h,hz=>by
  simp only[TQ,aI2,CL] at hz;simp only[rhL];split
  ·exact YX (qs:=r) (aOT h hz.1) hz.2
  ·exact YX (qs:=r) h hz.2
theorem rh(s:AC){n0 n1:Nat}(hn:n0=n1)(ps qs:List (Nat×Nat))(hp:aV (atE e) ps=some (ps.map λ_=>.h s n0))(hq:aV (atL L) qs=some (qs.map λ_=>.h s n0))(ha:(cX (qs.map (·.1)) && (qs.map (·.1)).all λj=>eO j cf.vA)=true)
  (k:G (.mk P T hT n c B0 N X Q) K m (rhE (.h s n1) e ps) (rhL (.h s n1) L qs) cf):G (.mk P T hT n c B0 N X Q) K m e L cf:=by
 rw[CL] at ha;refine chg (λ_:Unit=>m) (λ_=>rhE (.h s n1) e ps) (λ_=>rhL (.h s n1) L qs) (λB a w hm hA hS=>?_) (λ_=>YX (by simpa using rN (L:=L) []) ha.2) (λ_=>k);obtain⟨h1,h2⟩:=aT2 s hn hp hq ha.1 hA hS;simp_all
theorem kE{Z:Act->World->Prop}(s:AC){n0 n1:Nat}(hn:n0=n1)(ps qs:List (Nat×Nat))(q0_:aV (atE e) ps=some (ps.map λ_=>.h s n0)/\aV (atL L) qs=some (qs.map λ_=>.h s n0)/\cX (qs.map (·.1))=true)
  (kk:∀a w,oV n c B0 m (rhE (.h s n1) e ps) (rhL (.h s n1) L qs) a w->Z a w):∀a w,oV n c B0 m e L a w->Z a w:=by
 obtain⟨hp,hq,ha⟩:=q0_;intro a w ⟨B,hm,hA,hS⟩;obtain⟨h1,h2⟩:=aT2 s hn hp hq ha hA hS;exact kk a w ⟨B,hm,h1,h2⟩
end
section
variable {P:Program} {T:TT} {hT:CR P T} {n:Nat} {c:Ctx} {B0:Bl} {N:Act->World->Prop} {X:Nat->Act->World->Prop} {Q:Act->World->Prop} {K K':List Fr} {m m':Nat} {e e':SE} {L L' Lv:List Ch} {cf cf' cf1 cf2:rL} {o:Oper} {d:Nat}
section
variable {x:Operand} {t t2 el sz:Nat} {b1 b2 b3:Bool} {n1 n2 n3:Nat} {z1 z2 z3:List SV}
theorem qbo(p:Nat){s:AC}{l:List UInt8}(hs:opS (iO T n K cf m e L)=some (o,Lv,cf1,cf2,K',m',e',L'))(ho:(o.op,o.dst)=(.convert t t2 x,some d))(ht:wU T t=some ⟨.sl el,b1,n1,z1⟩)(he:wU T el=some ⟨.i .u8,b2,n2,z2⟩)(h2:wU T t2=some ⟨.s,b3,n3,z3⟩)(hp:Lv[p]?=some (ow s l))(hx:gY e' x=some (.h s l.length))
  (kk:G (.mk P T hT n c B0 N X Q) K' m' ((d,.s l)::e') L' cf2):G (.mk P T hT n c B0 N X Q) K m e L cf:=by
 refine pu hs (cP Prod.snd ho) (λB a w hA hS=>⟨_,rfl,?_⟩) kk;obtain⟨⟨R,s1,s2⟩,s0⟩:=hS;have hr:=s1.aS3 (cs:=[s.v l.length]) (d:=l) p (by simp[hp,jO]);obtain⟨de,q1,q2⟩:=hT.und _ _ he;exact a51 hr (CV ht hT) aj (a8S h2 hT) (cP Prod.fst ho) (hdB hA hx)
theorem a3E{O:Type}[aJ O](E:CO O){q:O}{y:E.ex}{ec:List Value}(h:aV (bQ []) (E.cs q y)=some ec)(hL:E.Lx q y=[])(w:World):aJ.rd F0 w ec q:=by have:=(E.pk h w F0).2 (by rw[hL];exact λ_ _ h=>h);grind[aJ.own_rd]
theorem lits{O:Type}[aJ O](E:CO O)(y:E.ex){sz:Nat}{B:Bl}{a:Act}(hA:gA n B e a)(hL:∀q,E.Lx q y=[]):∀{ps:List (Nat×Operand)} {qs:List O},aV (λp=>(gY e p.2).map λv=>nbL (mZ v)) ps=some (qs.map λq=>E.cs q y)->(qs.all λq=>Nat.beq (E.cs q y).length sz && (aV (bQ []) (E.cs q y)).isSome)=true ->
  ∃vs cells,evs (vE B e) (ps.map (·.2))=some vs/\vs.length=ps.length/\(vs.all λv=>v.cells.size == sz)=true/\(vs.flatMap λv=>v.cells.toList)=cells/\aKY sz cells qs
 |[],[],_,_=>⟨[],[],rfl,rfl,rfl,rfl,rfl⟩
 |[],q::qs,h,_=>by cases h
 |p::ps,[],h,_=>by grind[aV]
 |p::ps,q::qs,h,hc=>by
  simp only[aV,TQ] at h;split at h
  ·cases h
  ·rename_i c0 h1;split at h
   ·cases h
   ·rename_i cs h2;simp only[Option.some.injEq,List.cons.injEq] at h;obtain⟨rfl,rfl⟩:=h;simp only[aI2,CL] at hc;obtain⟨⟨hl,hsome⟩,hc⟩:=hc;obtain⟨vs,cells,g1,g2,g3,g4,g5⟩:=lits E y hA hL h2 (by simpa using hc);obtain⟨ec,hec⟩:=aFA.1 hsome;cases hxv:gY e p.2 with
    |none=>rw[hxv] at h1;cases h1
    |some xv=>
     rw[hxv] at h1;simp at h1;obtain⟨v,v1,v2⟩:=dZ hA hxv;have hcell:aV (bQ B) (mZ xv)=some ec:=by rw[<-MD,h1];exact eP (λx v h=>by simpa using fU (B:=[]) B h) hec
     have hvc:v.cells.toList=ec:=O0 v1 hcell;have hecl:ec.length=sz:=by rw[k9 hec];exact nS hl
     refine⟨v::vs,ec++cells,by simp[evs,v2,g1],by simp[g2],?_,by simp[hvc,g4],?_,?_⟩
     ·rw[aI2,g3,<-Array.length_toList,hvc,hecl];simp
     ·rw[List.take_append_of_le_length (RR hecl.symm),<-hecl,List.take_length];exact a3E E hec (hL q) _
     ·rw[List.drop_append_of_le_length (RR hecl.symm),<-hecl,List.drop_length,aKU,hecl];exact g5
theorem ltK{O:Type}[aJ O][Flat O](E:CO O)(y:E.ex)(qs:List O){len:Nat}{ps:List (Nat×Operand)}{zv:Value}(hinf:TC P el sz zv)(hs:iO T n K cf m e L=.op o Lv cf1 cf2 K' m' e' L')(ho:(o.op,o.dst)=(.buildSlice t len ⟨ps⟩,some d))(ht:wU T t=some ⟨.sl el,b1,n1,z1⟩)(hn:aJ.n O=sz)(hl:qs.length=len)(hm:Nat.ble 1 sz=true)(hsm:Nat.ble (len*sz) 16777216=true)(hix:ps.map (·.1)=List.range' 0 len)(hev:aV (λp=>(gY e' p.2).map λv=>nbL (mZ v)) ps=some (qs.map λq=>E.cs q y))(hec:(qs.all λq=>Nat.beq (E.cs q y).length sz && (aV (bQ []) (E.cs q y)).isSome)=true)(hL:∀q,E.Lx q y=[])
  (k:∀s':AC,G (.mk P T hT n c B0 N X Q) K' m' ((d,.h s' qs.length)::e') (L'++[ow s' qs]) cf2):G (.mk P T hT n c B0 N X Q) K m e L cf:=by
 refine aMI (l:=qs) (λs'=>L'++[ow s' qs]) hs (cP Prod.snd ho) (λ_=>rN _) (λB a w hA hS=>?_) k;obtain⟨⟨R,s1,s2⟩,s0⟩:=hS;obtain⟨vs,cells,g1,g2,g3,g4,g5⟩:=lits E y (sz:=sz) hA hL hev hec;have hpl:ps.length=len:=by have:=cP List.length hix;grind
 obtain⟨v,w',k1,k2⟩:=aXN (e:=vE B e') (o:=o) (ps:=ps) (vs:=vs) (cells:=cells) qs s1 hn (CV ht hT) hinf hl hm hsm g5 (cP Prod.fst ho) g1 (aFH hix (by rw[g2,hpl]) g3 g4);obtain⟨s',rfl⟩:=aAP (v:=v) (l:=qs) k2 (L'.map (jO B)).length ae;refine⟨s',w',k1,⟨⟨R,by grind[jO],λz hz=>?_⟩,s0⟩⟩;rcases iX.1 hz with hz|hz
 ·grind
 ·simp at hz;subst hz;trivial
end
end
section
variable {P:Program} {T:TT} {hT:CR P T} {n:Nat} {c:Ctx} {B0:Bl} {N:Act->World->Prop} {X:Nat->Act->World->Prop} {Q:Act->World->Prop} {K K':List Fr} {m m':Nat} {e e':SE} {L L' Lv:List Ch} {cf cf' cf1 cf2:rL} {o:Oper} {d:Nat}
theorem un{O:Type}[aJ O](j:Nat)(ks:List Nat)(ps qs:List (Nat×Nat)){s:AC}{n0:Nat}{l:List O}(q0_:L[j]?=some (.o (eK [s.v n0] l))/\eO j cf.vA=true/\aV (BZ e) ks=some (ks.map λ_=>.h s n0)/\aV (atE (ovh (.h s l.length) e ks)) ps=some (ps.map λ_=>.h s n0)/\aV (atL (L.set j (ow s l))) qs=some (qs.map λ_=>.h s n0)/\(cX (qs.map (·.1)) && (qs.map (·.1)).all λj=>eO j cf.vA)=true)
  (k:l.length=n0->G (.mk P T hT n c B0 N X Q) K m (rhE (.h s l.length) (ovh (.h s l.length) e ks) ps) (rhL (.h s l.length) (L.set j (ow s l)) qs) cf):G (.mk P T hT n c B0 N X Q) K m e L cf:=by
 obtain⟨hj,hz,hk,hp,hq,ha⟩:=q0_;rw[CL] at ha;refine chg (λ_:PLift (l.length=n0)=>m) (λ_=>rhE (.h s l.length) (ovh (.h s l.length) e ks) ps) (λ_=>rhL (.h s l.length) (L.set j (ow s l)) qs) (λB a w hm hA hS=>?_) (λ_=>YX (CX hz) ha.2) (λh=>k h.down);have hn:l.length=n0:=by obtain⟨⟨R,s1,s2⟩,s0⟩:=hS;obtain⟨F,hF⟩:=s1.chunk (ch:=eK [s.v n0] l) j (by simp[hj,jO]);obtain⟨ad,cp,h1,h2⟩:=KI (show aJ.own w [s.v n0] l F from hF);grind
 subst hn;have hS':kY c w B (L.set j (ow s l)):=by grind[aKV]
 obtain⟨h1,h2⟩:=aT2 s rfl hp hq ha.1 (aMH ks hk hA) hS';exact⟨⟨rfl⟩,[],aj,aj,aj⟩
theorem rr(s:AC){n0 n1:Nat}(hn:n0=n1)(ks:List Nat)(ps qs:List (Nat×Nat))(hk:aV (BZ e) ks=some (ks.map λ_=>.h s n0))(hp:aV (atE (ovh (.h s n1) e ks)) ps=some (ps.map λ_=>.h s n0))(hq:aV (atL L) qs=some (qs.map λ_=>.h s n0))(ha:(cX (qs.map (·.1)) && (qs.map (·.1)).all λj=>eO j cf.vA)=true)
  (k:G (.mk P T hT n c B0 N X Q) K m (rhE (.h s n1) (ovh (.h s n1) e ks) ps) (rhL (.h s n1) L qs) cf):G (.mk P T hT n c B0 N X Q) K m e L cf:=by
 rw[CL] at ha;subst hn;refine chg (λ_:Unit=>m) (λ_=>rhE (.h s n0) (ovh (.h s n0) e ks) ps) (λ_=>rhL (.h s n0) L qs) (λB a w hm hA hS=>?_) (λ_=>YX (by simpa using rN (L:=L) []) ha.2) (λ_=>k);obtain⟨h1,h2⟩:=aT2 s rfl hp hq ha.1 (aMH ks hk hA) hS;simp_all
theorem cpy{d:Option Nat}{x y:Operand}{t t2 el sz:Nat}{O:Type}[aJ O][Flat O]{s s2:AC}{l xs:List O}{b1 b2:Bool}{n1:Nat}{z1 z2:List SV}{kt:TK}(p a:Nat)(hb:a<=l.length/\l.length<=l.length)(hsrc:∀{w},HS c w L'->bU (eB w) s2 xs)(hs:iO T n K cf m e L=.op o Lv cf1 cf2 K' m' e' L')(ho:(o.op,o.dst)=(.call {callee:=.builtin .copy,args:=#[x,y],argTypes:=#[t,t2]},d))(ht:wU T t=some ⟨.sl el,b1,n1,z1⟩)(he:wU T el=some ⟨kt,b2,sz,z2⟩)(hn:aJ.n O=sz)(hp:(L'[p]?,eO p cf1.vA)=(some (ow s l),true))(hx:gY e' x=some (.h (s.sub sz a) ((l.take l.length).drop a).length))(hy:gY e' y=some (.h s2 xs.length))
  (k:G (.mk P T hT n c B0 N X Q) K' m' (dse d (.i .i64 ((min xs.length (l.length-a):Nat):Int)) e') (L'.set p (ow s (cO l a xs))) cf2):G (.mk P T hT n c B0 N X Q) K m e L cf:=by
 have hp1:L'[p]?=some (ow s l):=cP Prod.fst hp;have hz:eO p cf1.vA=true:=cP Prod.snd hp;have hlen:(cO l a xs).length=l.length:=fB hb.1;refine gE (g:=.mk P T hT n c B0 N X Q) ?_;rw[hs];intro hdn _ hE;refine hE Unit (λ_=>m') (λ_=>dse d (.i .i64 ((min xs.length (l.length-a):Nat):Int)) e') (λ_=>L'.set p (ow s (cO l a xs))) (λ_=>CX hz) (λB act w next Q' hm hA hS hnext=>?_) (λ_=>k);have hr:bU (eB w) s2 xs:=hsrc ⟨_,hS⟩;obtain⟨⟨R,s1,s2'⟩,s0⟩:=hS;have hx2:ev (vE (WQ (.mk P T hT n c B0 N X Q) cf1++B) e') x=some (gU sz a l.length (s.v l.length)):=by grind[hdB,MH]
 have hop:o.op=.call {callee:=.builtin .copy,args:=#[x,y],argTypes:=#[t,t2]}:=cP Prod.fst ho;have hd:o.dst=d:=cP Prod.snd ho;obtain⟨v,w',k1,rfl,k2⟩:=aTC p s1 (by rw[yF,hp1];rfl) hr hn hb.1 (CV ht hT) (hT.size _ _ he) hop hx2 (hdB hA hy);unfold Oper.wp;rw[k1 _ act hA.env,Oper.upon_value,hd];have hS2:kY c w' (WQ (.mk P T hT n c B0 N X Q) cf1++B) (L'.set p (ow s (cO l a xs))):=by
  refine⟨⟨R,?_,λz hz=>?_⟩,s0⟩
  ·rw[G9];show St c w' ((L'.map _).set p (eK [s.v (cO l a xs).length] _)) R;grind
  ·rcases rB hz with hz|hz
   ·grind
   ·subst hz;trivial
 cases d with
 |none=>exact hnext () _ _ ⟨[],aj,by grind[Act.put,dse],aj⟩
 |some d=>exact hnext () _ _ ⟨[],aj,by simpa[dse] using hA.of (by simp[fA,gV,bQ]) (hA.env.put (by grind[pQ,vF]) _),aj⟩
theorem cp0{d:Option Nat}{x y:Operand}{t t2 el sz:Nat}{O:Type}[aJ O][Flat O]{s s2:AC}{l xs:List O}{b1 b2:Bool}{n1:Nat}{z1 z2:List SV}{kt:TK}(p:Nat)(hsrc:∀{w},HS c w L'->bU (eB w) s2 xs)(hs:iO T n K cf m e L=.op o Lv cf1 cf2 K' m' e' L')(ho:(o.op,o.dst)=(.call {callee:=.builtin .copy,args:=#[x,y],argTypes:=#[t,t2]},d))(ht:wU T t=some ⟨.sl el,b1,n1,z1⟩)(he:wU T el=some ⟨kt,b2,sz,z2⟩)(hn:aJ.n O=sz)(hp:(L'[p]?,eO p cf1.vA)=(some (ow s l),true))(hx:gY e' x=some (.h s l.length))(hy:gY e' y=some (.h s2 xs.length))
  (k:G (.mk P T hT n c B0 N X Q) K' m' (dse d (.i .i64 ((min xs.length (l.length-0):Nat):Int)) e') (L'.set p (ow s (cO l 0 xs))) cf2):G (.mk P T hT n c B0 N X Q) K m e L cf:=by
 have hp1:L'[p]?=some (ow s l):=cP Prod.fst hp;have hz:eO p cf1.vA=true:=cP Prod.snd hp;have hlen:(cO l 0 xs).length=l.length:=fB (jT _);refine gE (g:=.mk P T hT n c B0 N X Q) ?_;rw[hs];intro hdn _ hE;refine hE Unit (λ_=>m') (λ_=>dse d (.i .i64 ((min xs.length (l.length-0):Nat):Int)) e') (λ_=>L'.set p (ow s (cO l 0 xs))) (λ_=>CX hz) (λB act w next Q' hm hA hS hnext=>?_) (λ_=>k);have hr:bU (eB w) s2 xs:=hsrc ⟨_,hS⟩;obtain⟨⟨R,s1,s2'⟩,s0⟩:=hS;have hop:o.op=.call {callee:=.builtin .copy,args:=#[x,y],argTypes:=#[t,t2]}:=cP Prod.fst ho;have hd:o.dst=d:=cP Prod.snd ho;obtain⟨v,w',k1,rfl,k2⟩:=aX3 p s1 (by rw[yF,hp1];rfl) hr hn (CV ht hT) (hT.size _ _ he) hop (hdB hA hx) (hdB hA hy);unfold Oper.wp;rw[k1 _ act hA.env,Oper.upon_value,hd];have hS2:kY c w' (WQ (.mk P T hT n c B0 N X Q) cf1++B) (L'.set p (ow s (cO l 0 xs))):=by
  refine⟨⟨R,?_,λz hz=>?_⟩,s0⟩
  ·rw[G9];show St c w' ((L'.map _).set p (eK [s.v (cO l 0 xs).length] _)) R;grind
  ·rcases rB hz with hz|hz
   ·grind
   ·subst hz;trivial
 cases d with
 |none=>exact hnext () _ _ ⟨[],aj,by grind[Act.put,dse],aj⟩
 |some d=>exact hnext () _ _ ⟨[],aj,by simpa[dse] using hA.of (by simp[fA,gV,bQ]) (hA.env.put (by grind[pQ,vF]) _),aj⟩
theorem fR{Z:Act->World->Prop}{e1:SE}{L1:List Ch}(q0_:aVF e=some e1/\aVG L=some L1)(kk:∀a w,oV n c B0 m e1 L1 a w->Z a w):∀a w,oV n c B0 m e L a w->Z a w:=by obtain⟨h1,h2⟩:=q0_;grind[aES,aET]
end
def swN(i j n:Nat):Nat:=match Nat.beq n i with
 |true=>j
 |false=>match Nat.beq n j with
  |true=>i
  |false=>n
def swC(i j:Nat):SV->SV
 |.p n o=>.p (swN i j n) o
 |x=>x
def aVJ(i j:Nat):List SV->List SV
 |[]=>[]
 |x::r=>swC i j x::aVJ i j r
def swG(i j:Nat):SV->SV
 |.g cs=>.g (aVJ i j cs)
 |x=>swC i j x
def a3F(i j:Nat):List SV->List SV
 |[]=>[]
 |x::r=>swG i j x::a3F i j r
def swF(i j:Nat):List Nat->List Nat
 |[]=>[]
 |n::r=>swN i j n::swF i j r
def swT(i j:Nat):SV->SV
 |.t cs=>.t (a3F i j cs)
 |.f f ns=>.f f (swF i j ns)
 |x=>swG i j x
def swE(i j:Nat):SE->SE
 |[]=>[]
 |(k,x)::r=>(k,swT i j x)::swE i j r
def swL(i j:Nat):List Ch->List Ch
 |[]=>[]
 |x::r=>(match x with
  |.box n cs=>.box (swN i j n) (aVJ i j cs)
  |.ro n cs=>.ro (swN i j n) (aVJ i j cs)
  |.w n b z=>.w (swN i j n) b z
  |y=>y)::swL i j r
section
variable {B B':Bl} {i j:Nat}
theorem aZH(h:∀n,B'[swN i j n]?=B[n]?)(x:SV):bQ B' (swC i j x)=bQ B x:=by cases x<;>first|rfl|grind[swC,bQ]
theorem aEZ(h:∀n,B'[swN i j n]?=B[n]?):∀cs:List SV,aV (bQ B') (aVJ i j cs)=aV (bQ B) cs
 |[]=>rfl
 |x::r=>by simp only[aVJ,aV,aZH h,aEZ h r]
theorem aRC(h:∀n,B'[swN i j n]?=B[n]?)(x:SV):gV B' (swG i j x)=gV B x:=by
 cases x with
 |g cs=>grind[swG,gV,aEZ]
 |p n o=>exact aZH h (.p n o)
 |_=>rfl
theorem aT3(h:∀n,B'[swN i j n]?=B[n]?):∀cs:List SV,aV (gV B') (a3F i j cs)=aV (gV B) cs
 |[]=>rfl
 |x::r=>by simp only[a3F,aV,aRC h,aT3 h r]
theorem aZI(h:∀n,B'[swN i j n]?=B[n]?):∀cs:List Nat,aV (S5 B') (swF i j cs)=aV (S5 B) cs
 |[]=>rfl
 |x::r=>by simp only[swF,aV,S5,h];rw[show aV (S5 B') (swF i j r)=aV (S5 B) r from aZI h r]
theorem a6M(h:∀n,B'[swN i j n]?=B[n]?)(x:SV):fA B' (swT i j x)=fA B x:=by
 cases x with
 |t cs=>grind[swT,fA,aT3]
 |f f ns=>grind[swT,fA,aZI]
 |g cs=>exact aRC h (.g cs)
 |p n o=>exact aRC h (.p n o)
 |_=>rfl
theorem aZJ{k:Nat}{x:SV}:∀{e:SE},BZ (swE i j e) k=some x->∃y,BZ e k=some y/\x=swT i j y
 |[],h=>by cases h
 |(k',y)::r,h=>by
  simp only[swE,BZ] at h ⊢;split at h
  ·grind
  ·rename_i hb;exact aZJ h
theorem aT4(h:∀n,B'[swN i j n]?=B[n]?){w:World}{R:List Fact}:∀(L:List Ch),iV w (L.map (jO B)) ((swL i j L).map (jO B'))/\((∀x∈L,roF B R x)->∀x∈swL i j L,roF B' R x)
 |[]=>⟨.nil,λ_ x hx=>by cases hx⟩
 |x::L=>by
  obtain⟨h1,h2⟩:=aT4 h (w:=w) (R:=R) L;refine⟨.cons (λF hF=>?_) h1,λhr y hy=>?_⟩
  ·cases x with
   |box n cs=>
    obtain⟨b,z,vs,k1,k2,k3⟩:=hF;exact⟨b,z,vs,aj,by grind[aEZ],k3⟩
   |_=>exact hF
  ·rcases uI.1 hy with hy|hy
   ·have hx:=hr x ae;cases x with
    |box n cs=>subst hy;trivial
    |ro n cs=>
     obtain⟨b,z,vs,k1,k2,k3⟩:=hx;subst hy;exact⟨b,z,vs,aj,by grind[aEZ],k3⟩
    |w n b z=>subst hy;show B'[swN i j n]?=_;rw[h];exact hx
    |o c=>subst hy;trivial
    |no=>subst hy;trivial
    |f f=>subst hy;exact hx
   grind
end
theorem a8Z{B:Bl}{i j:Nat}(hi:i<B.length)(hj:j<B.length):∃B':Bl,B'.length=B.length/\(∀n,B'[swN i j n]?=B[n]?):=by
 refine⟨(B.set i B[j]).set j B[i],ae,λn=>?_⟩;unfold swN;cases h1:Nat.beq n i with
 |true=>
  simp_all
 |false=>
  have h1:n≠i:=λh=>by simp_all
  cases h2:Nat.beq n j with
  |true=>
   simp_all
  |false=>
   have h2:n≠j:=λh=>by simp_all
   grind
section
variable {n:Nat} {c:Ctx} {B0:Bl} {m:Nat} {e:SE} {L:List Ch}
theorem swR{Z:Act->World->Prop}(i j:Nat)(h:(Nat.ble B0.length i && (Nat.ble B0.length j && (Nat.blt i m && Nat.blt j m)))=true)
  (kk:∀a w,oV n c B0 m (swE i j e) (swL i j L) a w->Z a w):∀a w,oV n c B0 m e L a w->Z a w:=by
 simp only[CL,Nat.ble_eq,vF] at h;obtain⟨h1,h2,h3,h4⟩:=h;intro a w ⟨B,hm,hA,hS⟩;refine kk a w ?_;rw[G8] at hm;obtain⟨B',hl,hB⟩:=a8Z (B:=B) (i:=i-B0.length) (j:=j-B0.length) aa aa;have key:∀n,(B0++B')[swN i j n]?=(B0++B)[n]?:=by
  intro n;have hsw:∀n,n<B0.length->swN i j n=n:=λn hn=>by grind[swN,nS]
  have hge:∀n,B0.length<=n->swN i j n=B0.length+swN (i-B0.length) (j-B0.length) (n-B0.length):=λn hn=>by
   have q1:Nat.beq (n-B0.length) (i-B0.length)=Nat.beq n i:=by rw[P4];(simp_all;omega)
   have q2:Nat.beq (n-B0.length) (j-B0.length)=Nat.beq n j:=by rw[P4];(simp_all;omega)
   grind[swN]
  grind[Nat.add_sub_cancel_left]
 refine⟨B',aj,⟨hA.d,hA.size,λk x hk=>?_⟩,?_⟩
 ·obtain⟨y,g1,rfl⟩:=aZJ hk;obtain⟨v,g2,g3⟩:=hA.get k y g1;grind[a6M]
 ·obtain⟨⟨R,s1,s2⟩,s0⟩:=hS;obtain⟨g1,g2⟩:=aT4 key (w:=w) (R:=R) L;exact⟨⟨R,s1.imp g1,g2 s2⟩,s0⟩
theorem pnR{Z:Act->World->Prop}{O:Type}[aJ O](j:Nat){s:AC}{l:List O}{n0:Nat}(hl:l.length=n0)(hj:L[j]?=some (ow s l))
  (kk:∀a w,oV n c B0 m e (L.set j (.o (eK [s.v n0] l))) a w->Z a w):∀a w,oV n c B0 m e L a w->Z a w:=by
 grind[aKV]
end
theorem fG{P:Program}{T:TT}{hT:CR P T}{n:Nat}{c:Ctx}{B0:Bl}{N:Act->World->Prop}{X:Nat->Act->World->Prop}{Q:Act->World->Prop}{K:List Fr}{m:Nat}{e e1:SE}{L L1:List Ch}{cf:rL}(h1:aVF e=some e1)(h2:aVG L=some L1)(k:G (.mk P T hT n c B0 N X Q) K m e1 L1 cf):G (.mk P T hT n c B0 N X Q) K m e L cf:=by grind[aES,aET]
def fc1:SV->Option SV
 |.i k x=>some (.i k x)
 |.y b=>some (.y b)
 |.b c=>some (.b c)
 |.l c=>some (.l c)
 |.s l=>some (.s l)
 |.p n o=>some (.p n o)
 |.h s n=>some (.h s n)
 |.e s n i o=>some (.e s n i o)
 |.k x=>some (.k x)
 |.g cs=>some (.g cs)
 |.t cs=>some (.t cs)
 |.f f cs=>some (.f f cs)
 |.u=>some .u
def fcs:List SV->Option (List SV)
 |[]=>some []
 |x::r=>match fc1 x with
  |some y=>match fcs r with
   |some s=>some (y::s)
   |none=>none
  |none=>none
def fc2:SV->Option SV
 |.g cs=>match fcs cs with
  |some ds=>some (.g ds)
  |none=>none
 |x=>fc1 x
def fgs:List SV->Option (List SV)
 |[]=>some []
 |x::r=>match fc2 x with
  |some y=>match fgs r with
   |some s=>some (y::s)
   |none=>none
  |none=>none
def fc3:SV->Option SV
 |.t cs=>match fgs cs with
  |some ds=>some (.t ds)
  |none=>none
 |x=>fc2 x
def fdE:SE->Option SE
 |[]=>some []
 |(k,v)::r=>match fc3 v with
  |some y=>match fdE r with
   |some s=>some ((k,y)::s)
   |none=>none
  |none=>none
def fdL:List Ch->Option (List Ch)
 |[]=>some []
 |x::r=>match fdL r with
  |some s=>match x with
   |.box n cs=>match fcs cs with
    |some ds=>some (.box n ds::s)
    |none=>none
   |.ro n cs=>match fcs cs with
    |some ds=>some (.ro n ds::s)
    |none=>none
   |y=>some (y::s)
  |none=>none
theorem aZK{x y:SV}(h:fc1 x=some y):y=x:=by cases x<;>simp only[fc1] at h<;>cases h<;>rfl
theorem aRD:∀{l r:List SV},fcs l=some r->r=l
 |[],r,h=>by cases h;rfl
 |x::l,r,h=>by
  simp only[fcs] at h;split at h
  ·rename_i y hy;split at h
   ·rename_i s hs;cases h;rw[aZK hy,aRD hs]
   ·cases h
  ·cases h
theorem aZL{x y:SV}(h:fc2 x=some y):y=x:=by
 cases x with
 |g cs=>
  grind[fc2,aRD]
 |_=>exact aZK h
theorem aZM:∀{l r:List SV},fgs l=some r->r=l
 |[],r,h=>by cases h;rfl
 |x::l,r,h=>by
  simp only[fgs] at h;split at h
  ·rename_i y hy;split at h
   ·rename_i s hs;cases h;rw[aZL hy,aZM hs]
   ·cases h
  ·cases h
theorem a6O{x y:SV}(h:fc3 x=some y):y=x:=by
 cases x with
 |t cs=>
  grind[fc3,aZM]
 |_=>exact aZL h
theorem aZN:∀{e r:SE},fdE e=some r->r=e
 |[],r,h=>by cases h;rfl
 |(k,v)::l,r,h=>by
  simp only[fdE] at h;split at h
  ·rename_i y hy;split at h
   ·rename_i s hs;cases h;rw[a6O hy,aZN hs]
   ·cases h
  ·cases h
theorem aZO:∀{e r:List Ch},fdL e=some r->r=e
 |[],r,h=>by cases h;rfl
 |x::l,r,h=>by
  simp only[fdL] at h;split at h
  ·rename_i s hs;have:=aZO hs;grind[aRD]
  ·cases h
theorem fD{n:Nat}{c:Ctx}{B0:Bl}{m:Nat}{e e1:SE}{L L1:List Ch}{Z:Act->World->Prop}(h1:fdE e=some e1)(h2:fdL L=some L1)(kk:∀a w,oV n c B0 m e1 L1 a w->Z a w):∀a w,oV n c B0 m e L a w->Z a w:=by grind[aZN,aZO]
end Go.Gv
end
