import Derived.Test.YtonkeoekmfkaoaaGreatXVA
set_option linter.unusedVariables false
set_option linter.unusedSimpArgs false
set_option linter.unusedSectionVars false
set_option linter.constructorNameAsVariable false
set_option linter.unnecessarySimpa false
noncomputable section
namespace Go.Gv
variable{t:TypeId}
section
variable {P:Program} {T:TT} {n:Nat} {B:Bl} {e:SE} {a:Act} {o:Oper} {w w':World} {x y:Operand} {c:Ctx} {L:List Ch}
theorem aCM{ops:Array Oper}(h:EP ops e o.guard=.yes):Want ops o (vE B e) true:=by
 unfold EP at h;split at h
 ·exact a4I (by assumption)
 ·rename_i j w hg;split at h
  ·rename_i q hq;split at h
   ·rename_i s hs;have hj:(ops[j]?).bind (·.dst)=some s:=by rw[<-Array.getElem?_toList,hq];exact hs
    split at h
    ·rename_i c hl;have hv:lk (vE B e) s=some (.bool c):=by rw[aL8 hl];rfl
     refine aZ9 hg hj hv ?_;split at h<;>first|rfl|cases h
    all_goals cases h
   ·cases h
  ·cases h
theorem bB6{ops:Array Oper}(h:EP ops e o.guard=.no):Want ops o (vE B e) false:=by
 unfold EP at h;split at h
 ·cases h
 ·rename_i j w hg;split at h
  ·rename_i q hq;split at h
   ·rename_i s hs;have hj:(ops[j]?).bind (·.dst)=some s:=by rw[<-Array.getElem?_toList,hq];exact hs
    split at h
    ·rename_i c hl;have hv:lk (vE B e) s=some (.bool c):=by rw[aL8 hl];rfl
     refine aZ9 hg hj hv ?_;cases c<;>cases w<;>first|rfl|cases h
    ·rename_i hl;exact a9M hg hj (by rw[aL8 hl];rfl)
    all_goals cases h
   ·cases h
  ·cases h
theorem aMC{m:Nat}:∀{L:List Ch},T2 m L=true->∃i cs,L[i]?=some (.box m cs)/\I7 m L=some cs/\∀cs',uK m cs' L=L.set i (.box m cs')
 |[],h=>by cases h
 |x::L,h=>by
  have ih:T2 m L=true->I7 m (x::L)=I7 m L->(∀cs',uK m cs' (x::L)=x::uK m cs' L)->∃i cs,(x::L)[i]?=some (.box m cs)/\I7 m (x::L)=some cs/\∀cs',uK m cs' (x::L)=(x::L).set i (.box m cs'):=λh h2 h3=>by obtain⟨i,cs,g1,g2,g3⟩:=aMC h;exact⟨i+1,cs,aj,by rw[h2,g2],λcs'=>aj⟩
  cases x with
  |box k cs=>
   simp only[T2] at h;split at h
   ·rename_i hb;have:=pM hb;subst this;exact⟨0,cs,rfl,by grind[I7],λcs'=>by grind[uK]⟩
   grind[I7,uK]
  |ro k cs=>
   grind[T2,I7,uK]
  |o ch=>exact ih h rfl (λ_=>rfl)
  |f g=>exact ih h rfl (λ_=>rfl)
  |no=>exact ih h rfl (λ_=>rfl)
  |w k b z=>exact ih h rfl (λ_=>rfl)
theorem aR7(hT:FY P T)(hA:gU n B e a)(hS:mM c w B L){p v:SV}{L':List Ch}(ho:o.op=.store t x y)(hx:iL e x=some p)(hy:iL e y=some v)(h:VD T t p v L=some L'):∃w',bF2 P o (vE B e) w w'/\mM c w' B L':=by
 unfold VD at h;split at h
 ·rename_i m j;split at h
  ·rename_i hb;split at h
   ·rename_i cs _ _ sz _ h1 h2;split at h
    ·rename_i h3 h4 h5;split at h
     case h_2=>cases h
     rename_i ds hds;have h4:=pM h4;have h5:=TX h5;have:=VF hds;rw[aL9 _ _ _ aa] at this;subst this;split at h
     case h_2=>cases h
     rename_i L2 hL2;cases h;have:=VF hL2;subst this;obtain⟨i,cs',g1,g2,g3⟩:=aMC hb;rw[h1] at g2;cases g2;obtain⟨pv,hp1,hp2⟩:=eH hA hx;obtain⟨u,hu1,hu2⟩:=eH hA hy;obtain⟨vs,hv⟩:=aCL h3 hu1;obtain⟨b,z,rs,k1,k2,_⟩:=hS.cells h1;simp only[fJ,gV,bU,k1] at hp1;cases hp1;have hl:=lI hv;have hl2:=lI k2;obtain⟨⟨R,s1,s2⟩,s0⟩:=hS;have hlt:=(I6.1 g1).1;have gi:(L.map (kL B))[i]?=some (VE B m cs):=by rw[CH,g1];rfl
     have s3:St c w ((L.map (kL B)).set i (YG b z rs)) R:=s1.imp (jI.put i gi λF ⟨b',z',vs',q1,q2,q3⟩=>by
      grind)
     obtain⟨w2,r1,r2⟩:=bF4 (P:=P) (o:=o) (e:=vE B e) (b:=b) (q:=z) (cs:=rs) (vs:=vs) (j:=j) (m:=sz) s3 (i:=i) aj ho hp2 hu2 (T7 hu1 hv) (hT.size _ _ h2) aa (Nat.ble_eq_true_of_le aa) (aP5.2 λq hq=>by
      obtain⟨k,hk⟩:=aHR hq;have hk2:k<(oR v).length:=aj
      obtain⟨q',hq1,hq2⟩:=T4 hv (lH hk2);grind[aL7])
     refine⟨w2,r1,⟨⟨R,?_,?_⟩,s0⟩⟩
     ·rw[aR0] at r2;rw[g3,MX];exact r2.imp (jI.set i (jI.refl _) λF hF=>⟨b,z,_,k1,aDT j k2 hv,hF⟩)
     ·rw[g3];intro q hq;rcases rV hq with hq|hq
      ·grind
      ·subst hq;trivial
    ·cases h
   ·cases h
  ·cases h
 ·cases h
theorem mM.box(hS:mM c w B L){w':World}{b:Nat}{cs:List SV}{vs:List Value}(hc:aW (bU B) cs=some vs)(h:∀M R,St c w M R->St c w' (M++[a9L b vs]) R):mM c w' (B++[(b,0)]) (L++[.box B.length cs]):=by
 obtain⟨⟨R,s1,s2⟩,s0⟩:=hS;refine⟨⟨R,?_,?_⟩,s0⟩
 ·rw[BR];refine(h _ _ s1).imp (jI.append (aAA _ L) (.cons (λF hF=>⟨b,0,vs,ae,eY (λ_ _=>gD _) hc,hF⟩) .nil))
 ·intro q hq;rcases iO.1 hq with hq|hq
  ·grind[aTB]
  ·simp at hq;subst hq;trivial
theorem a5U(hT:FY P T)(hS:mM c w B L){i:TI}{E:Env}(ho:o.op=.alloc t)(h:AU T t=some i):∃v w' b,fE P o E w v w'/\v=.pointer (some ⟨b,0,none⟩)/\mM c w' (B++[(b,0)]) (L++[.box B.length i.z]):=by obtain⟨z,hz,hzc⟩:=hT.zero _ _ h;have hzc':aW (bU B) i.z=some z.cells.toList:=eY (λx v h=>by simpa using gD (B:=[]) B h) hzc;refine⟨_,_,w.heap.size,λ_ a hA=>?_,rfl,hS.box hzc' λM R hM=>hM.alloc z.cells.toList t⟩;simp_all[execOp,Instr.alloc,newVar,newRow]
theorem bDY(hA:gU n B e a)(hS:mM c w B L){v:SV}(ho:o.op=.box t x)(h:iL e x=some v)(hc:isCells v=true):∃u w' b,fE P o (vE B e) w u w'/\u=.pointer (some ⟨b,0,none⟩)/\mM c w' (B++[(b,0)]) (L++[.box B.length (oR v)]):=by obtain⟨u,h1,h2⟩:=eH hA h;obtain⟨vs,h3⟩:=aCL hc h1;have h4:=T7 h1 h3;subst h4;refine⟨_,_,w.heap.size,λ_ a hA=>?_,rfl,hS.box h3 λM R hM=>hM.alloc u.cells.toList t⟩;simp[execOp,ho,Instr.box,hA.eval h2,newVar,newRow]
end
structure Gx where
 P:Program
 T:TT
 hT:FY P T
 n:Nat
 c:Ctx
 B0:Bl
 N:Act->World->Prop
 X:Nat->Act->World->Prop
 Q:Act->World->Prop
abbrev Rel(g:Gx)(m:Nat)(e:SE)(L:List Ch)(a:Act)(w:World):Prop:=pQ g.n g.c g.B0 m e L a w
mutual
def NK(g:Gx):List Fr->Act->World->Prop
 |[]=>g.N
 |.s y::K=>λa w=>CW g.P y (NK g K) (XK g K) g.Q a w
 |.k _::K=>NK g K
def XK(g:Gx):List Fr->Nat->Act->World->Prop
 |[]=>g.X
 |.s _::K=>XK g K
 |.k id::K=>aR1 id (NK g K) (XK g K)
end
structure aF5 (g:Gx) (B1:Bl) (ops:Array Oper) (l:List Bool) (is:List Nat) (Lf L:List Ch):Prop where
 pre:∃B,B1=g.B0++B
 len:l.length=ops.size
 free:aVQ ops=true
 AR:kl L is=Lf
 rng:∀j∈is,j<L.length
 okf:okL B1.length Lf=true
 ap:dJ is=true
abbrev Sd(g:Gx)(B1:Bl)(Lf:List Ch):World->Prop:=λw=>mM g.c w B1 Lf
def bF9(g:Gx)(B1:Bl)(Lf Lv:List Ch)(m:Nat)(e:SE)(L:List Ch)(a:Act)(w:World):Prop:=∃B,(B1++B).length=m/\gU g.n (B1++B) e a/\mM g.c w (B1++B) L/\∀w',mM g.c w' B1 Lf->mM g.c w' (B1++B) Lv
def G(g:Gx)(K:List Fr)(m:Nat)(e:SE)(L:List Ch):uB->Prop
 |.n=>∀a w,Rel g m e L a w->NK g K a w
 |.c x=>∀a w,Rel g m e L a w->CW g.P x (NK g K) (XK g K) g.Q a w
 |.r ops l=>∀a w,Rel g m e L a w->wpList g.P ops (mkQ (NK g K) (XK g K) g.Q) l a w
 |.d B1 ops l is Lf Lv=>aF5 g B1 ops l is Lf L->∀a w,bF9 g B1 Lf Lv m e L a w->wpAnyH g.P .any ops (mkQ (NK g K) (XK g K) g.Q) (Sd g B1 Lf) (l.count false) l.toArray a w
 |.o B1 ops l is Lf Lv i=>aF5 g B1 ops l is Lf L->∀a w,bF9 g B1 Lf Lv m e L a w->wpOp g.P ops (mkQ (NK g K) (XK g K) g.Q) i (λa' w'=>Sd g B1 Lf w'/\wpAnyH g.P .any ops (mkQ (NK g K) (XK g K) g.Q) (Sd g B1 Lf) ((l.set i true).count false) (l.set i true).toArray a' w') a w
def B0S(g:Gx):uB->Bl
 |.d B1 _ _ _ _ _=>B1
 |.o B1 _ _ _ _ _ _=>B1
 |_=>g.B0
def Frz(g:Gx)(cf:uB)(L L':List Ch):Prop:=match cf with
 |.d B1 ops l is Lf _=>aF5 g B1 ops l is Lf L->kl L' is=Lf/\∀j∈is,j<L'.length
 |.o B1 ops l is Lf _ _=>aF5 g B1 ops l is Lf L->kl L' is=Lf/\∀j∈is,j<L'.length
 |_=>True
def aDX(g:Gx)(K:List Fr)(m:Nat)(e:SE)(L:List Ch)(o:Oper)(Lv:List Ch)(cf cf':uB):Prop:=
 ∀(d:Nat) (x:SV) (Ln:List Ch) (nb:World->Bl) (k:Nat),o.dst=some d->(∀w,(nb w).length=k) ->
  (∀B a w,gU g.n B e a->mM g.c w B Lv->B.length=m->∃v,fJ (B++nb g.c.w0) x=some v/\fE g.P o (vE B e) w v w) ->
  (∀B w L,B.length=m->mM g.c w B L->mM g.c w (B++nb g.c.w0) (L++Ln)) ->
  G g K (m+k) ((d,x)::e) (L++Ln) (cf'.ext Ln)->G g K m e L cf
def aHY(g:Gx)(K:List Fr)(m:Nat)(e:SE)(L:List Ch)(o:Oper)(cf cf':uB):Prop:=
 ∀(ι:Type) (m':ι->Nat) (e':ι->SE) (L':ι->List Ch),(∀i,Frz g cf L (L' i)) ->
  (∀B a w (next:Act->World->Prop) (Q:Exit->Act->World->Prop),(B0S g cf++B).length=m->gU g.n (B0S g cf++B) e a->mM g.c w (B0S g cf++B) L->(∀i a' w',pQ g.n g.c (B0S g cf++B) (m' i) (e' i) (L' i) a' w'->next a' w')->o.wp g.P a w next Q) ->
  (∀i,G g K (m' i) (e' i) (L' i) cf')->G g K m e L cf
def Gs(g:Gx):Stop->Prop
 |.ret m e L=>∀a w,Rel g m e L a w->g.Q a w
 |.fin m e L=>∀a w,Rel g m e L a w->g.N a w
 |.ex id m e L=>∀a w,Rel g m e L a w->g.X id a w
 |.cond o b x y K m e L=>iL e o=some (.b b)->G g K m e L (.c (.cond o x y))
 |.case _ cf K m e L=>G g K m e L cf
 |.loop id y K m e L=>G g K m e L (.c (.block id (.loop y)))
 |.idx o d t s n i Lv cf cf' K m e L=>(∀x y,o.op=.indexAddr t x y->o.dst=some d->iL e x=some (.h s n)->iL e y=some (.i .i64 i)->aDX g K m e L o Lv cf cf'->G g K m e L cf)
 |.call o d f xs cf cf' K m e L=>(∀fo args ats,o.op=.call {callee:=.value fo,args:=args,argTypes:=ats}->o.dst=d->iL e fo=some (.f f [])->(∃ys,aW (iL e) args.toList=some ys/\nbA ys=xs)->okA xs=true->rY g.n d=true->aHY g K m e L o cf cf'->G g K m e L cf)
 |.callp o d f xs cf cf' K m e L=>(∀fo args ats,o.op=.call {callee:=.value fo,args:=args,argTypes:=ats}->o.dst=d->iL e fo=some (.f f [])->(∃ys,aW (iL e) args.toList=some ys/\nbA ys=xs)->rY g.n d=true->aHY g K m e L o cf cf'->G g K m e L cf)
 |.op o Lv cf cf' K m e L=>rY g.n o.dst=true->aDX g K m e L o Lv cf cf'->aHY g K m e L o cf cf'->G g K m e L cf
 |.opp o Lv cf cf' K m e L=>rY g.n o.dst=true->aDX g K m e L o Lv cf cf'->G g K m e L cf
 |.rgn id ops K m e L=>G g K m e L (.c (.region id ops true))
 |.alt cf K m e L=>G g K m e L cf
 |.stuck=>False
section
variable {g:Gx} {K:List Fr} {m:Nat} {e:SE} {L:List Ch}
theorem bB7{a:Act}{w:World}:∀{K:List Fr},(match pop K with|some (y,K')=>CW g.P y (NK g K') (XK g K') g.Q a w|none=>g.N a w)->NK g K a w
 |[],h=>by simpa[pop,NK] using h
 |.s y::K,h=>by simpa[pop,NK] using h
 |.k _::K,h=>by have:NK g K a w:=bB7 (by grind[pop]);simp_all[NK]
theorem a5V{a:Act}{w:World}{id:Nat}:∀{K:List Fr},(match xit id K with|some K'=>NK g K' a w|none=>g.X id a w)->XK g K id a w
 |[],h=>by simpa[xit,XK] using h
 |.s y::K,h=>by have:XK g K id a w:=a5V (by grind[xit]);simp_all[XK]
 |.k j::K,h=>by
  simp only[xit] at h;simp only[XK,aR1];cases hb:Nat.beq id j with
  |true=>
   simp_all
  |false=>
   rw[hb] at h;rw[aO (λe=>by simp_all)];exact a5V h
theorem a0T{F:Nat}(ih:∀K c m e L,Gs g (stp g.T g.n F K c m e L)->G g K m e L c)(h:Gs g (match pop K with|some (y,K')=>stp g.T g.n F K' (.c y) m e L|none=>.fin m e L)):∀a w,Rel g m e L a w->NK g K a w:=λa w hr=>by
 refine bB7 ?_;split
 ·rename_i y K' hp;rw[hp] at h;exact ih _ _ _ _ _ h a w hr
 ·rename_i hp;rw[hp] at h;exact h a w hr
theorem gU.ext{n:Nat}{B nb:Bl}{a a':Act}{d:Nat}{x:SV}{v:Value}(hA:gU n B e a)(hx:fJ (B++nb) x=some v)(hA':NI n ((d,v)::vE B e) a'):gU n (B++nb) ((d,x)::e) a':=by
 refine(hA.app nb).of hx ⟨hA'.d,hA'.size,λk u hk=>?_⟩;simp only[lk] at hk;cases hb:Nat.beq k d with
 |true=>rw[hb] at hk;exact hA'.get k u (by grind[lk])
 |false=>
  rw[hb] at hk;obtain⟨y,h2,h3⟩:=a5L hk;obtain⟨u2,h4,h5⟩:=hA.get k y h2;rw[xN nb h4] at h3;refine hA'.get k u ?_;grind[lk,aL8]
theorem a99{ops:Array Oper}{l:List Oper}{o:Oper}(hg:EP ops e o.guard=.yes)(hd:rY g.n o.dst=true):aDX g K m e L o L (.r ops (o::l)) (.r ops l):=by
 intro d x Ln nb k hdst hk hv hs hG a w ⟨B,hm,hA,hS⟩;obtain⟨v,h1,h2⟩:=hv _ a w hA hS hm;rw[hdst] at hd;refine bBZ h2 (aCM hg) hdst hd (λa' hA'=>hG a' w ⟨B++nb g.c.w0,?_,?_,?_⟩) a hA.env
 ·grind
 ·rw[<-NG];exact hA.ext h1 hA'
 grind
theorem a0U{ops:Array Oper}{l:List Oper}{o:Oper}(hg:EP ops e o.guard=.yes):aHY g K m e L o (.r ops (o::l)) (.r ops l):=by intro ι m' e' L' _ hrun hG a w hr;have ⟨B,hm,hA,hS⟩:=hr;refine wpList_step λK' hK=>?_;rw[aCM hg _ a hA.env,aM rfl];exact hrun B a w K' _ hm hA hS (λi a' w' ⟨B',h1,h2,h3⟩=>hK a' w' (hG i a' w' ⟨B++B',by rw[<-NG];exact h1,by rw[<-NG];exact h2,by rw[<-NG];exact h3⟩))
theorem aF5.S{B1:Bl}{ops:Array Oper}{l:List Bool}{is:List Nat}{Lf:List Ch}(h:aF5 g B1 ops l is Lf L){w:World}{B:Bl}(hS:mM g.c w (B1++B) L):mM g.c w B1 Lf:=by have h1:=a5T hS is h.ap;rw[h.AR] at h1;have h2:=aDW h1 h.okf;grind
theorem aF6{d:Edge}:Region.binds .any d=a5H d.ground:=by
 cases d with
 |mk on g=>cases g<;>rfl
theorem aK2{l:List Bool}:∀{es:List Edge},SJ l es=true↔∀d∈es,Region.binds .any d=true->l[d.on]?=some true
 |[]=>by simp[SJ]
 |⟨on,gr⟩::r=>by
  have ih:=aK2 (l:=l) (es:=r);simp only[SJ,vJ,forall_eq_or_imp,aF6];cases hb:a5H gr with
  |true=>
   simp only;split
   ·rename_i h1;rw[ih];simp[h1,aF6]
   ·rename_i h1;constructor
    ·intro h;cases h
    ·intro h;exact absurd (h.1 trivial) (by simpa using h1)
  |false=>grind[aF6]
theorem aAC{ops:Array Oper}{l:List Bool}(hl:l.length=ops.size){j:Nat}:j∈Region.ready .any ops l.toArray↔l[j]?=some false/\∃o,ops.toList[j]?=some o/\SJ l o.after.toList=true:=by
 rw[mem_ready];have h1:(l.toArray.getD j true=false)↔l[j]?=some false:=by rw[Array.getD_eq_getD_getElem?,List.getElem?_toArray];grind
 rw[h1];refine and_congr_right λ_=>?_;constructor
 ·rintro⟨o,h2,h3⟩;refine⟨o,aj,aK2.2 λd hd hb=>?_⟩;have:=h3 d aj hb;rw[Array.getD_eq_getD_getElem?,List.getElem?_toArray] at this;grind
 simp_all[aK2]
theorem aF7{i:Nat}:∀{es:List Edge},aCK i es=true↔∃d∈es,Region.binds .any d=true/\d.on=i
 |[]=>by simp[aCK]
 |⟨on,gr⟩::r=>by
  have ih:=aF7 (i:=i) (es:=r);simp only[aCK,vJ,exists_eq_or_imp,aF6];cases hb:a5H gr with
  |true=>
   simp only;cases hi:Nat.beq on i with
   |true=>simp_all
   |false=>
    simp only;have hne:on≠i:=λh=>by simp_all
    grind[aF6]
  |false=>grind[aF6]
theorem bAA{ops:Array Oper}{l:List Bool}(hl:l.length=ops.size)(hf:aVQ ops=true){i:Nat}{o:Oper}(ho:ops.toList[i]?=some o)(hr:SJ l o.after.toList=true):Region.noSelect ops=true/\Region.free .any ops l.toArray i=true:=by
 unfold aVQ at hf;rw[FX,aP5] at hf;refine⟨hf.1,?_⟩;unfold Region.free;have hoi:ops[i]?=some o:=aj
 rw[hoi];simp only[aP5,List.mem_range];intro j hj;have hoj:ops[j]?=some ops[j]:=by simp[hj]
 rw[hoj];simp only[Bool.or_eq_true,beq_iff_eq];by_cases hji:j=i
 ·omega
 ·have h1:=hf.2 (o,i) (List.mk_mem_zipIdx_iff_getElem?.2 ho);rw[aP5] at h1;have h2:=h1 (ops[j],j) (List.mk_mem_zipIdx_iff_getElem?.2 (by simp[hj]));simp only[Bool.or_eq_true] at h2;rcases h2 with ((h2|h2)|h2)|h2
  ·simp_all
  ·obtain⟨d,hd,hb,he⟩:=aF7.1 h2;refine .inr (.inl ?_);rw[<-Array.any_toList,List.any_eq_true];grind
  ·obtain⟨d,hd,hb,he⟩:=aF7.1 h2;have:=aK2.1 hr d hd hb;simp_all
  grind
theorem count_set{l:List Bool}:∀{i:Nat},l[i]?=some false->l.count false=(l.set i true).count false+1:=aj
theorem aYD{B1:Bl}{ops:Array Oper}{l:List Bool}{is:List Nat}{Lf:List Ch}{i:Nat}{o:Oper}{d:Nat}{v:Value}{a:Act}{w:World}{B:Bl}(hD:aF5 g B1 ops l is Lf L)(ho:ops.toList[i]?=some o)(hl:l[i]?=some false)(hr:SJ l o.after.toList=true)(hdst:o.dst=some d)(hdn:Nat.blt d g.n=true)(hA:gU g.n (B1++B) e a)(hS:mM g.c w (B1++B) L)
  (hy:(Want ops o (vE (B1++B) e) true/\∀w',Sd g B1 Lf w'->fE g.P o (vE (B1++B) e) w' v w')\/(Want ops o (vE (B1++B) e) false/\v=undef))
  (k:∀a',NI g.n ((d,v)::vE (B1++B) e) a'->wpAnyH g.P .any ops (mkQ (NK g K) (XK g K) g.Q) (Sd g B1 Lf) ((l.set i true).count false) (l.set i true).toArray a' w):wpAnyH g.P .any ops (mkQ (NK g K) (XK g K) g.Q) (Sd g B1 Lf) (l.count false) l.toArray a w:=by
 obtain⟨f1,f2⟩:=bAA hD.len hD.free ho hr;rw[count_set hl];refine wpAnyH_take (v:=v) (by simpa using ho) f1 f2 (by simpa using (aAC hD.len).2 ⟨hl,o,ho,hr⟩) (λ_ _ _ h=>h.elim) ?_ (hD.S hS) ?_
 ·rcases hy with ⟨h1,h2⟩|⟨h1,h2⟩
  ·exact .inl ⟨h1 _ a hA.env,λw' hS'=>h2 w' hS' _ a hA.env⟩
  ·exact .inr ⟨h1 _ a hA.env,h2⟩
 ·rw[hdst];have:=k _ (hA.env.put (by simp_all) v);grind
theorem aF5.set{B1:Bl}{ops:Array Oper}{l:List Bool}{is:List Nat}{Lf L':List Ch}(h:aF5 g B1 ops l is Lf L)(i:Nat)(hz:kl L' is=Lf/\∀j∈is,j<L'.length):aF5 g B1 ops (l.set i true) is Lf L':=
 ⟨h.pre,by simpa using h.len,h.free,hz.1,hz.2,h.okf,h.ap⟩
theorem a5W{L Ln:List Ch}:∀{is:List Nat},(∀j∈is,j<L.length)->kl (L++Ln) is=kl L is
 |[],_=>rfl
 |i::is,h=>by simp only[kl,List.getElem?_append_left (h i ae),a5W (λj hj=>h j (BS _ hj))]
theorem aF5.aMD{B1:Bl}{ops:Array Oper}{l:List Bool}{is:List Nat}{Lf:List Ch}(h:aF5 g B1 ops l is Lf L)(Ln:List Ch):kl (L++Ln) is=Lf/\∀j∈is,j<(L++Ln).length:=
 ⟨by rw[a5W h.rng];exact h.AR,λj hj=>by have:=h.rng j hj;simp;omega⟩
theorem bAB{B1:Bl}{ops:Array Oper}{l:List Bool}{is:List Nat}{Lf Lv:List Ch}{i:Nat}{o:Oper}(ho:ops.toList[i]?=some o)(hl:l[i]?=some false)(hr:SJ l o.after.toList=true)(hg:EP ops e o.guard=.yes)(hd:rY g.n o.dst=true):aDX g K m e L o Lv (.d B1 ops l is Lf Lv) (.d B1 ops (l.set i true) is Lf Lv):=by
 intro d x Ln nb k hdst hk hv hs hG hD a w ⟨B,hm,hA,hS,hV⟩;rw[hdst] at hd;obtain⟨v,h1,h2⟩:=hv _ a w hA (hV w (hD.S hS)) hm;refine aYD (v:=v) hD ho hl hr hdst hd hA hS (.inl ⟨aCM hg,λw' hS'=>?_⟩) λa' hA'=>?_
 ·obtain⟨v',h3,h4⟩:=hv _ a w' hA (hV w' hS') hm;rw[h1] at h3;cases h3;exact h4
 ·refine hG (hD.set i (hD.aMD Ln)) a' w ⟨B++nb g.c.w0,?_,?_,?_,λw' hS'=>?_⟩
  ·rw[<-NG,K8,hm,hk]
  ·rw[<-NG];exact hA.ext h1 hA'
  ·rw[<-NG];exact hs _ w _ hm hS
  ·rw[<-NG];exact hs _ w' _ hm (hV w' hS')
theorem aVT{l:List Bool}{i:Nat}:∀{os:List Oper} {j0:Nat},aHX l i os j0=true->∀j o,os[j]?=some o->l[j0+j]?=some false->(SJ l o.after.toList=true↔j0+j=i)
 |[],_,_,j,o,h,_=>by simp at h
 |p::os,j0,h,j,o,hj,hl=>by
  simp only[aHX] at h;cases j with
  |zero=>
   simp at hj;subst hj;simp only[aBL] at hl ⊢;rw[hl] at h;simp only at h;cases hb:Nat.beq j0 i with
   |true=>
    grind[pM]
   |false=>
    rw[hb] at h;simp only at h;have hne:j0≠i:=λh=>by simp_all
    grind
  |succ j=>
   have h':aHX l i os (j0+1)=true:=aj
   have:=aVT h' j o aj aj;grind
theorem bAC{B1:Bl}{ops:Array Oper}{l:List Bool}{is:List Nat}{Lf Lv:List Ch}{i:Nat}{o:Oper}(ho:ops.toList[i]?=some o)(hg:EP ops e o.guard=.yes):aHY g K m e L o (.o B1 ops l is Lf Lv i) (.d B1 ops (l.set i true) is Lf Lv):=by
 intro ι m' e' L' hz hrun hG hD a w hr;have ⟨B,hm,hA,hS,hV⟩:=hr;unfold wpOp;have hoi:ops[i]?=some o:=aj
 simp only[hoi,aCM hg _ a hA.env,bV];refine .inl (hrun B a w _ _ hm hA hS λj a' w' h=>?_);have hD':=hD.set i (hz j hD);obtain⟨B',q1,q2,q3⟩:=h;refine⟨?_,?_⟩
 ·refine hD'.S (B:=B++B') ?_;rw[<-NG];exact q3
 ·have:=hG j hD' a' w' ⟨B++B',by rw[<-NG];exact q1,by rw[<-NG];exact q2,by rw[<-NG];exact q3,λw2 h2=>by rw[<-NG];exact(hV w2 h2).app B'⟩;omega
theorem bAD{B1:Bl}{ops:Array Oper}{l:List Bool}{is:List Nat}{Lf Lv:List Ch}{i:Nat}{o:Oper}(ho:ops.toList[i]?=some o)(hg:EP ops e o.guard=.yes)(hd:rY g.n o.dst=true):aDX g K m e L o Lv (.o B1 ops l is Lf Lv i) (.d B1 ops (l.set i true) is Lf Lv):=by
 intro d x Ln nb k hdst hk hv hs hG hD a w ⟨B,hm,hA,hS,hV⟩;rw[hdst] at hd;obtain⟨v,h1,h2⟩:=hv _ a w hA (hV w (hD.S hS)) hm;unfold wpOp;have hoi:ops[i]?=some o:=by simpa using ho
 simp only[hoi,aCM hg _ a hA.env,bV];refine .inl ?_;unfold Oper.wp;rw[h2 _ a hA.env,Oper.upon_value,hdst];have hA':=hA.env.put (show d<g.n by simpa[rY,yI] using hd) v;refine⟨hD.S hS,hG (hD.set i (hD.aMD Ln)) _ w ⟨B++nb g.c.w0,?_,?_,?_,λw' hS'=>?_⟩⟩
 ·rw[<-NG,K8,hm,hk]
 ·rw[<-NG];exact hA.ext h1 hA'
 ·rw[<-NG];exact hs _ w _ hm hS
 ·rw[<-NG];exact hs _ w' _ hm (hV w' hS')
theorem aR8{l:List Bool}{j:Nat}:∀{os:List Oper} {j0:Nat} {o:Oper},os[j]?=some o->l[j0+j]?=some false->SJ l o.after.toList=true->j0+j∈yJ l os j0:=by
 intro os;induction os generalizing j with
 |nil=>simp
 |cons p os ih=>
  intro j0 o h hl hr;cases j with
  |zero=>
   simp_all[yJ]
  |succ j=>
   have h2:=ih (j:=j) (j0:=j0+1) (o:=o) aj aj hr;grind[yJ]
theorem bGA{B1:Bl}{ops:Array Oper}{l:List Bool}{is:List Nat}{Lf Lv:List Ch}(hex:∃i,i∈yJ l ops.toList 0)(h:∀i∈yJ l ops.toList 0,G g K m e L (.o B1 ops l is Lf Lv i))(hok:∀i∈yJ l ops.toList 0,l[i]?=some false/\∃o,ops.toList[i]?=some o/\SJ l o.after.toList=true):G g K m e L (.d B1 ops l is Lf Lv):=by intro hD a w hr;obtain⟨i0,hi0⟩:=hex;obtain⟨q1,q2⟩:=hok i0 hi0;have hm:i0∈Region.ready .any ops l.toArray:=(aAC hD.len).2 ⟨q1,q2⟩;rw[count_set q1];refine⟨λh=>aj,λj hj=>?_⟩;obtain⟨h1,p,h2,h3⟩:=(aAC hD.len).1 hj;have h4:=aR8 (j0:=0) h2 aj h3;rw[aBM] at h4;have h5:=h j h4 hD a w hr;grind
theorem aME{l:List Bool}{i:Nat}:∀{os:List Oper} {j0:Nat},i∈yJ l os j0->l[i]?=some false/\∃j o,os[j]?=some o/\j0+j=i/\SJ l o.after.toList=true:=by
 intro os;induction os with
 |nil=>intro j0 h;cases h
 |cons p os ih=>
  intro j0 h;have tail:i∈yJ l os (j0+1)->l[i]?=some false/\∃j o,(p::os)[j]?=some o/\j0+j=i/\SJ l o.after.toList=true:=λh=>by obtain⟨h1,j,o,h2,h3,h4⟩:=ih h;exact⟨h1,j+1,o,aj,aa,h4⟩
  simp only[yJ] at h;split at h
  ·rename_i hl;split at h
   ·rename_i hr;rcases vJ.1 h with h|h
    ·subst h;grind
    grind
   grind
  grind
theorem a5X{B1:Bl}{ops:Array Oper}{l:List Bool}{is:List Nat}{Lf Lv:List Ch}{i0:Nat}{r:List Nat}(hr:yJ l ops.toList 0=i0::r)(h:∀i∈i0::r,G g K m e L (.o B1 ops l is Lf Lv i)):G g K m e L (.d B1 ops l is Lf Lv):=
 bGA ⟨i0,aj⟩ (λi hi=>h i aj) λi hi=>by obtain⟨h1,j,o,h2,h3,h4⟩:=aME hi;grind
theorem bAE{l:List Bool}{i:Nat}{ops:Array Oper}(h:aHX l i ops.toList 0=true):∀j∈yJ l ops.toList 0,j=i:=λj hj=>by obtain⟨h1,k,o,h2,h3,h4⟩:=aME hj;rw[aBM] at h3;grind[aVT]
def PsG(g:Gx)(K:List Fr)(m:Nat)(L:List Ch)(B1:Bl)(ops:Array Oper)(is:List Nat)(Lf Lv:List Ch):Ps->Prop
 |.bad=>False
 |.ask _ l e=>G g K m e L (.d B1 ops l is Lf Lv)
 |.pur j o l e=>ops.toList[j]?=some o->l[j]?=some false->SJ l o.after.toList=true->EP ops e o.guard=.yes->G g K m e L (.d B1 ops l is Lf Lv)
 |.fin l e _=>G g K m e L (.d B1 ops l is Lf Lv)
theorem aAD{B1:Bl}{ops:Array Oper}{is:List Nat}{Lf Lv:List Ch}:∀(r:List Oper) (i:Nat) (l:List Bool) (e:SE) (q:List (Nat×Oper)),(∀j,r[j]?=ops.toList[i+j]?) ->
  PsG g K m L B1 ops is Lf Lv (pass g.T g.n ops Lv r i l e q)->G g K m e L (.d B1 ops l is Lf Lv)
 |[],i,l,e,q,hr,h=>by unfold pass at h;exact h
 |o::r,i,l,e,q,hr,h=>by
  have ho:ops.toList[i]?=some o:=by have:=hr 0;grind
  have hr':∀j,r[j]?=ops.toList[i+1+j]?:=λj=>by have:=hr (j+1);grind
  unfold pass at h;cases hl:l[i]? with
  |none=>simp only[hl] at h;exact h.elim
  |some b=>
   cases b with
   |true=>simp only[hl] at h;exact aAD r (i+1) l e q hr' h
   |false=>
    cases hre:SJ l o.after.toList with
    |false=>simp only[hl,hre] at h;exact aAD r (i+1) l e q hr' h
    |true=>
     cases hgd:EP ops e o.guard with
     |bad=>simp only[hl,hre,hgd] at h;exact h.elim
     |ask c=>simp only[hl,hre,hgd] at h;exact h
     |no=>
      cases hd:o.dst with
      |none=>simp only[hl,hre,hgd,hd] at h;exact h.elim
      |some d=>
       cases hb:Nat.blt d g.n with
       |false=>simp only[hl,hre,hgd,hd,hb] at h;exact h.elim
       |true=>
        simp only[hl,hre,hgd,hd,hb] at h;have ih:=aAD r (i+1) _ _ q hr' h;intro hD a w ⟨B,hm,hA,hS,hV⟩;refine aYD (v:=undef) hD ho hl hre hd hb hA hS (.inr ⟨bB6 hgd,rfl⟩) λa' hA'=>?_;exact ih (hD.set i ⟨hD.AR,hD.rng⟩) a' w ⟨B,hm,hA.of (x:=.u) rfl hA',hS,hV⟩
     |yes=>
      cases hv:ev1 g.T e Lv o.op with
      |some v=>
       cases hd:o.dst with
       |none=>simp only[hl,hre,hgd,hv,hd] at h;exact h.elim
       |some d=>
        cases hb:Nat.blt d g.n with
        |false=>simp only[hl,hre,hgd,hv,hd,hb] at h;exact h.elim
        |true=>
         simp only[hl,hre,hgd,hv,hd,hb] at h;have ih:=aAD r (i+1) _ _ q hr' h;intro hD a w ⟨B,hm,hA,hS,hV⟩;obtain⟨u,h1,h2⟩:=aTD g.hT hA (hV w (hD.S hS)) hv;refine aYD (v:=u) hD ho hl hre hd hb hA hS (.inl ⟨aCM hgd,λw' hS'=>?_⟩) λa' hA'=>?_
         ·obtain⟨u',h3,h4⟩:=aTD (w:=w') g.hT hA (hV w' hS') hv;grind
         ·exact ih (hD.set i ⟨hD.AR,hD.rng⟩) a' w ⟨B,hm,hA.of h1 hA',hS,hV⟩
      |none=>
       cases hp:bB3 o.op with
       |true=>simp only[hl,hre,hgd,hv,hp] at h;exact h ho hl hre hgd
       |false=>
        simp only[hl,hre,hgd,hv,hp] at h;exact aAD r (i+1) l e ((i,o)::q) hr' h
theorem a0V:∀{l:List Bool} {i:Nat},a94 l=true->l[i]?≠some false
 |[],i,_=>ae
 |b::l,i,h=>by
  unfold a94 at h;cases b with
  |false=>cases h
  |true=>
   cases i with
   |zero=>simp
   |succ i=>simpa using a0V (l:=l) (i:=i) h
theorem aR9{k:Nat}:∀{L:List Ch},T2 k L=true->∃i,(∀cs',uK k cs' L=L.set i (.box k cs'))/\∀k0,aS8 k L k0=k0+i
 |[],h=>by cases h
 |x::L,h=>by
  have ih:T2 k L=true->(∀cs',uK k cs' (x::L)=x::uK k cs' L)->(∀k0,aS8 k (x::L) k0=aS8 k L (k0+1))->∃i,(∀cs',uK k cs' (x::L)=(x::L).set i (.box k cs'))/\∀k0,aS8 k (x::L) k0=k0+i:=λh h2 h3=>by obtain⟨i,g1,g2⟩:=aR9 h;exact⟨i+1,λcs'=>aj,λk0=>aj⟩
  cases x with
  |box j cs=>
   simp only[T2] at h;split at h
   ·rename_i hb;exact⟨0,λcs'=>by grind[uK,pM],λk0=>by grind[aS8]⟩
   simp_all[uK,aS8]
  |ro j cs=>
   simp only[T2] at h;split at h
   ·cases h
   ·exact ih h (λ_=>rfl) (λ_=>rfl)
  |o ch=>exact ih h (λ_=>rfl) (λ_=>rfl)
  |f g=>exact ih h (λ_=>rfl) (λ_=>rfl)
  |no=>exact ih h (λ_=>rfl) (λ_=>rfl)
  |w k b z=>exact ih h (λ_=>rfl) (λ_=>rfl)
theorem aMF{i:Nat}:∀{is:List Nat},fX i is=true->i∉is
 |[],_=>ae
 |j::r,h=>by
  unfold fX at h;cases hb:Nat.beq i j with
  |true=>grind
  |false=>
   rw[hb] at h;have hne:i≠j:=λe=>by simp_all
   simpa[hne] using aMF h
theorem a5Y{L:List Ch}{i:Nat}{x:Ch}:∀{is:List Nat},i∉is->kl (L.set i x) is=kl L is
 |[],_=>rfl
 |j::is,h=>by have hne:i≠j:=λe=>h (by simp[e]);simp only[kl,List.getElem?_set_ne hne,a5Y (λhj=>h (BS _ hj))]
theorem aYE{T:TT}{t:TypeId}{p v:SV}{L':List Ch}{x y:Operand}{is:List Nat}(h:VD T t p v L=some L')(hp:iL e x=some p)(hf:bDR e L is (.store t x y)=true)(hr:∀j∈is,j<L.length):kl L' is=kl L is/\∀j∈is,j<L'.length:=by
 unfold VD at h;split at h
 ·rename_i k o;split at h
  ·rename_i hb;split at h
   ·split at h
    ·split at h
     case h_2=>cases h
     split at h
     case h_2=>cases h
     rename_i L2 hL2;cases h;have:=VF hL2;subst this;obtain⟨i,h1,h2⟩:=aR9 hb;simp_all[bDR,aMF,a5Y]
    ·cases h
   ·cases h
  ·cases h
 ·cases h
theorem bAF{a a':Act}{w':World}{B0 B:Bl}{d b:Nat}{cs:List SV}(hm:(B0++B).length=m)(hA:gU g.n (B0++B) e a)(hA':NI g.n ((d,.pointer (some ⟨b,0,none⟩))::vE (B0++B) e) a')(hS':mM g.c w' ((B0++B)++[(b,0)]) (L++[.box (B0++B).length cs])):pQ g.n g.c (B0++B) (m+1) ((d,.p m 0)::e) (L++[.box m cs]) a' w':=by
 refine⟨[(b,0)],aj,?_,?_⟩
 ·exact hA.ext (nb:=[(b,0)]) (x:=.p m 0) (by grind[fJ,gV,bU]) hA'
 grind
theorem rL{cf:uB}(Ln:List Ch):Frz g cf L (L++Ln):=by
 cases cf with
 |d B1 ops l is Lf Lv=>exact λhD=>hD.aMD Ln
 |o B1 ops l is Lf Lv i=>exact λhD=>hD.aMD Ln
 |_=>trivial
theorem a0W{T:TT}{op:Op}{v:SV}(h:eff T e L op=.val v):ev1 T e L op=some v:=by unfold eff at h;grind
theorem bAG{T:TT}{op:Op}{cs:List SV}(h:eff T e L op=.box cs):(∃t i,op=.alloc t/\AU T t=some i/\cs=i.z)\/(∃t x v,op=.box t x/\iL e x=some v/\isCells v=true/\cs=oR v):=by unfold eff at h;grind
theorem bDZ{T:TT}{op:Op}{L':List Ch}(h:eff T e L op=.st L'):∃t x y p v,op=.store t x y/\iL e x=some p/\VD T t p v L=some L':=by unfold eff at h;grind
theorem bAH{T:TT}{op:Op}{L':List Ch}(h:eff T e L op=.st L'):∃t x y p v,op=.store t x y/\iL e x=some p/\iL e y=some v/\VD T t p v L=some L':=by unfold eff at h;grind
theorem a5Z{o:Oper}{cf cf':uB}(hE:aHY g K m e L o cf cf') :
  (∀d cs,eff g.T e L o.op=.box cs->o.dst=some d->Nat.blt d g.n=true->Frz g cf L (L++[.box m cs])->G g K (m+1) ((d,.p m 0)::e) (L++[.box m cs]) cf'->G g K m e L cf) /\
  (∀L',eff g.T e L o.op=.st L'->o.dst=none->Frz g cf L L'->G g K m e L' cf'->G g K m e L cf):=by
 refine⟨λd cs hf hd hdn hz hG=>hE Unit (λ_=>m+1) (λ_=>(d,.p m 0)::e) (λ_=>L++[.box m cs]) (λ_=>hz) (λB a w next Q hm hA hS hnext=>?_) (λ_=>hG),λL' hf hd hz hG=>hE Unit (λ_=>m) (λ_=>e) (λ_=>L') (λ_=>hz) (λB a w next Q hm hA hS hnext=>?_) (λ_=>hG)⟩
 ·have fin:∀{u:Value} {w':World} {b:Nat},fE g.P o (vE (B0S g cf++B) e) w u w'->u=.pointer (some ⟨b,0,none⟩)->mM g.c w' ((B0S g cf++B)++[(b,0)]) (L++[.box (B0S g cf++B).length cs])->o.wp g.P a w next Q:=by intro u w' b hR hu hS';subst hu;unfold Oper.wp;rw[hR _ a hA.env,Oper.upon_value,hd];exact hnext () _ _ (bAF hm hA (hA.env.put (by simp_all) _) hS')
  rcases bAG hf with ⟨t,i,ho,hl,rfl⟩|⟨t,x,v,ho,hv,hc,rfl⟩
  ·obtain⟨u,w',b,k1,k2,k3⟩:=a5U (E:=vE (B0S g cf++B) e) g.hT hS ho hl;grind
  ·obtain⟨u,w',b,k1,k2,k3⟩:=bDY (P:=g.P) hA hS ho hv hc;grind
 ·obtain⟨t,x,y,p,v,ho,hx,hy,hs⟩:=bAH hf;obtain⟨w',k1,k2⟩:=aR7 g.hT hA hS ho hx hy hs;unfold Oper.wp;rw[k1 _ a hA.env,Oper.upon_skip,hd];exact hnext () _ _ ⟨[],aj,by rw[uA];exact⟨hA.d,hA.size,hA.get⟩,aj⟩
theorem a50{o:Oper}{Lv:List Ch}{cf cf':uB}(h:Gs g (a93 e o Lv cf cf' K m L o.op))(hd:rY g.n o.dst=true)(hP:aDX g K m e L o Lv cf cf')(hE:aHY g K m e L o cf cf'):G g K m e L cf:=by
 generalize hop:o.op=op at h;unfold a93 at h;split at h
 ·split at h
  ·exact h
  ·exact h.elim
 ·split at h
  ·rename_i h1 h2 h3;exact h _ _ hop h3 h1 h2 hP
  ·exact h hd hP hE
 ·split at h
  ·rename_i h1 h2;split at h
   ·rename_i hx;exact h _ _ _ hop rfl h1 ⟨_,h2,rfl⟩ hx hd hE
   ·exact h _ _ _ hop rfl h1 ⟨_,h2,rfl⟩ hd hE
  ·exact h hd hP hE
 ·exact h hd hP hE
theorem bAI{o:Oper}{Lv:List Ch}{cf cf':uB}(h:Gs g (bDQ e o Lv cf cf' K m L o.op))(hd:rY g.n o.dst=true)(hP:aDX g K m e L o Lv cf cf'):G g K m e L cf:=by
 generalize hop:o.op=op at h;unfold bDQ at h;split at h
 ·split at h
  ·exact h
  ·exact h.elim
 ·split at h
  ·rename_i h1 h2 h3;exact h _ _ hop h3 h1 h2 hP
  ·exact h hd hP
 ·exact h hd hP
theorem aCN:∀(F:Nat) (K:List Fr) (c:uB) (m:Nat) (e:SE) (L:List Ch),Gs g (stp g.T g.n F K c m e L)->G g K m e L c
 |0,_,_,_,_,_,h=>h.elim
 |F + 1,K,.c x,m,e,L,h=>by
  have ih:=aCN F;unfold stp at h;cases x with
  |skip=>exact λa w hr=>a9A (a0T ih h a w hr)
  |seq x y=>exact λa w hr=>bCT (ih _ _ _ _ _ h a w hr)
  |block id b=>
   simp only at h;split at h
   ·exact h
   ·exact λa w hr=>aVI (ih _ _ _ _ _ h a w hr)
  |exit id=>
   simp only at h;refine λa w hr=>a9B (a5V ?_);cases hx:xit id K with
   |some K'=>rw[hx] at h;exact a0T ih h a w hr
   |none=>rw[hx] at h;exact h a w hr
  |ret=>exact λa w hr=>bCU (h a w hr)
  |cond o x y=>
   simp only at h;split at h
   ·rename_i c ho;intro a w hr;obtain⟨B,hm,hA,hS⟩:=hr;obtain⟨v,h1,h2⟩:=eH hA ho;cases h1;cases c with
    |true=>exact bCV hA.env h2 rfl (ih _ _ _ _ _ h a w ⟨B,hm,hA,hS⟩)
    |false=>exact bF1 hA.env h2 rfl (ih _ _ _ _ _ h a w ⟨B,hm,hA,hS⟩)
   ·rename_i c ho;exact h ho
   ·exact h.elim
  |region id ops d=>
   cases d with
   |false=>exact λa w hr=>a15 (ih _ _ _ _ _ h a w hr)
   |true=>exact h
  |_=>exact h.elim
 |F + 1,K,.n,m,e,L,h=>by have ih:=aCN F;unfold stp at h;exact λa w hr=>a0T ih h a w hr
 |F + 1,K,.r ops [],m,e,L,h=>by have ih:=aCN F;unfold stp at h;exact λa w hr=>a0T ih h a w hr
 |F + 1,K,.r ops (⟨dst,op,ty,ps,af,gd⟩::l),m,e,L,h=>by
  have ih:=aCN F;unfold stp at h;generalize hg:EP ops e gd=gv at h;cases gv with
  |bad=>exact h.elim
  |ask c=>exact h
  |no=>
   simp only at h;split at h
   ·rename_i d;split at h
    ·rename_i hd;intro a w ⟨B,hm,hA,hS⟩;exact a9D (bB6 hg) rfl hd (λa' hA'=>ih _ _ _ _ _ h a' w ⟨B,hm,hA.of (x:=.u) (v:=undef) rfl hA',hS⟩) a hA.env
    ·exact h.elim
   ·exact h.elim
  |yes=>
   simp only at h;have hE:=a5Z (g:=g) (K:=K) (m:=m) (e:=e) (L:=L) (o:=⟨dst,op,ty,ps,af,gd⟩) (cf:=.r ops (⟨dst,op,ty,ps,af,gd⟩::l)) (cf':=.r ops l) (a0U hg);split at h
   ·rename_i d v hf;split at h
    ·rename_i hd;intro a w ⟨B,hm,hA,hS⟩;obtain⟨u,h1,h2⟩:=aTD (o:=⟨_,op,ty,ps,af,gd⟩) g.hT hA hS (a0W hf);exact bBZ h2 (aCM hg) rfl hd (λa' hA'=>ih _ _ _ _ _ h a' w ⟨B,hm,hA.of h1 hA',hS⟩) a hA.env
    ·exact h.elim
   ·rename_i d cs hf;split at h
    ·rename_i hd;exact hE.1 _ _ hf rfl hd trivial (ih _ _ _ _ _ h)
    ·exact h.elim
   ·rename_i L' hf;exact hE.2 _ hf rfl trivial (ih _ _ _ _ _ h)
   ·split at h
    ·rename_i hd;exact a50 h hd (a99 hg hd) (a0U hg)
    ·exact h.elim
   ·exact h.elim
 |F + 1,K,.d B1 ops l is Lf Lv,m,e,L,h=>by
  have ih:=aCN F;unfold stp at h;refine aAD ops.toList 0 l e [] (λj=>ae) ?_;generalize pass g.T g.n ops Lv ops.toList 0 l e []=ps at h;cases ps with
  |bad=>exact h.elim
  |ask c l' e'=>exact h
  |pur i o l' e'=>
   intro h1 h2 h3 h4;simp only at h;split at h
   ·grind[bAI,bAB]
   ·exact h.elim
  |fin l' e' q=>
   cases q with
   |nil=>
    simp only at h;split at h
    ·rename_i hall;intro hD a w hr;have hn:=ih _ _ _ _ _ h;obtain⟨B2,hB2⟩:=hD.pre;have hr':Rel g m e' L a w:=by obtain⟨B,hm,hA,hS,_⟩:=hr;subst hB2;exact⟨B2++B,aj,aj,aj⟩
     have hempty:Region.ready .any ops l'.toArray=[]:=by refine List.eq_nil_iff_forall_not_mem.2 λj hj=>?_;exact a0V hall ((aAC hD.len).1 hj).1
     exact wpAnyH_done hempty (hn a w hr') _
    ·exact h.elim
   |cons p q=>
    cases q with
    |cons p' q=>exact h
    |nil=>
     obtain⟨i,o⟩:=p;simp only at h;split at h
     ·rename_i hon;have ho:=ih _ _ _ _ _ h;cases hra:yJ l' ops.toList 0 with
      |cons j r=>
       refine a5X hra λk hk=>?_;grind[bAE]
      |nil=>
       refine absurd h ?_;intro h;unfold stp at h;cases F with
       |zero=>exact h
       |succ F=>
        simp only at h;split at h
        ·rename_i hi;split at h
         ·rename_i h1 h2 h3;have:=aR8 (j0:=0) hi aj h1;grind
         ·exact h
        ·exact h
     ·exact h.elim
 |F + 1,K,.o B1 ops l is Lf Lv i,m,e,L,h=>by
  have ih:=aCN F;unfold stp at h;split at h
  ·rename_i dst op ty ps af gd ho;split at h
   ·rename_i hre hli hg;have hes:=bAC (g:=g) (K:=K) (m:=m) (e:=e) (L:=L) (B1:=B1) (ops:=ops) (l:=l) (is:=is) (Lf:=Lf) (Lv:=Lv) ho hg;have hE:=a5Z (g:=g) (K:=K) (m:=m) (e:=e) (L:=L) (o:=⟨dst,op,ty,ps,af,gd⟩) (cf:=.o B1 ops l is Lf Lv i) (cf':=.d B1 ops (l.set i true) is Lf Lv) hes;split at h
    ·rename_i v d hf;split at h
     ·rename_i hd;have hG:=ih _ _ _ _ _ h;have hv:=a0W hf;refine hes Unit (λ_=>m) (λ_=>(d,v)::e) (λ_=>L) (λ_ hD=>⟨hD.AR,hD.rng⟩) (λB a w next Q hm hA hS hnext=>?_) (λ_=>hG);obtain⟨u,h1,h2⟩:=aTD (o:=⟨some d,op,ty,ps,af,gd⟩) g.hT hA hS hv;unfold Oper.wp;rw[h2 _ a hA.env,Oper.upon_value];exact hnext () _ _ ⟨[],aj,by simpa using hA.of h1 (hA.env.put (by simp_all) u),aj⟩
     ·exact h.elim
    ·rename_i d cs hf;split at h
     ·rename_i hd;exact hE.1 _ _ hf rfl hd (λhD=>hD.aMD _) (ih _ _ _ _ _ h)
     ·exact h.elim
    ·rename_i L' hf;split at h
     ·rename_i hfz;refine hE.2 _ hf rfl (λhD=>?_) (ih _ _ _ _ _ h);obtain⟨t,x,y,p,v,hop,hx,hs⟩:=bDZ hf;subst hop;have:=aYE hs hx hfz hD.rng;exact⟨by rw[this.1];exact hD.AR,this.2⟩
     ·exact h.elim
    ·split at h
     ·rename_i hd;exact a50 h hd (bAD ho hg hd) hes
     ·exact h.elim
    ·exact h.elim
   ·exact h.elim
  ·exact h.elim
theorem aK3:∀{e r:SE},a2J e=some r->r=e
 |[],r,h=>by cases h;rfl
 |(k,v)::l,r,h=>by
  simp only[a2J] at h;split at h
  ·rename_i s hs;cases h;rw[aK3 hs]
  ·cases h
theorem aK4:∀{e r:List Ch},a2K e=some r->r=e
 |[],r,h=>by cases h;rfl
 |x::l,r,h=>by
  simp only[a2K] at h;split at h
  ·rename_i s hs;have:=aK4 hs;grind[VF]
  ·cases h
theorem gW{K:List Fr}{c:uB}{m:Nat}{e:SE}{L:List Ch}(h:Gs g (i4 g.T g.n K c m e L)):G g K m e L c:=by
 unfold i4 at h;split at h
 ·grind[aK3,aK4,aCN]
 ·exact h.elim
end
section
variable {P:Program} {N N':Act->World->Prop} {X X':Nat->Act->World->Prop} {T T':Act->World->Prop}
theorem YK(h:LetsOut (mkQ N X T)):LetsOut (mkQ N' X' T'):=let ⟨_,_,h⟩:=h;h.elim
theorem aVU{o:Oper}{a:Act}{next next':Act->World->Prop}{r:Result Next}(hn:∀a w,next a w->next' a w)(h:o.upon P a next (mkQ N X T) r):o.upon P a next' (mkQ N' X' T') r:=by
 unfold Oper.upon at h ⊢;split at h
 ·grind
 ·grind
 ·grind
 ·refine Calls.mono h λe w' he=>?_;cases e with
  |returned v=>grind
  |panicked c=>exact he.elim
  |outgrown=>exact YK he
 ·grind[Rows.mono]
 ·exact h.elim
 omega
theorem aCO{ops:Array Oper}(hN:∀a w,N a w->N' a w):∀(l:List Oper) {a:Act} {w:World},wpList P ops (mkQ N X T) l a w->wpList P ops (mkQ N' X' T') l a w
 |[],a,w,h=>hN a w h
 |o::l,a,w,h=>by
  unfold wpList at h ⊢;split
  ·rename_i hw;rw[aM hw] at h;rcases h with h|⟨h1,h2⟩
   ·exact .inl (aVU (λ_ _ h=>aCO hN l h) h)
   grind[YK]
  ·rename_i hw;rw[aO hw] at h;exact aCO hN l h
theorem aVV{ops:Array Oper}{i:Nat}{k k':Act->World->Prop}{a:Act}{w:World}(hk:∀a w,k a w->k' a w)(h:wpOp P ops (mkQ N X T) i k a w):wpOp P ops (mkQ N' X' T') i k' a w:=by
 unfold wpOp at h ⊢;split
 ·grind
 ·rename_i o h0;rw[h0] at h;simp only at h;split
  ·rename_i hw;rw[aM hw] at h;rcases h with h|⟨h1,h2⟩
   ·exact .inl (aVU hk h)
   grind[YK]
  grind
theorem aCP{ops:Array Oper}{S:World->Prop}(hN:∀a w,N a w->N' a w):∀(fuel:Nat) {ZW:Array Bool} {a:Act} {w:World},wpAnyH P .any ops (mkQ N X T) S fuel ZW a w->wpAnyH P .any ops (mkQ N' X' T') S fuel ZW a w
 |0,_,a,w,h=>⟨h.1,hN a w h.2⟩
 |f+1,_,a,w,h=>⟨λh0=>hN a w (h.1 h0),λi hi=>aVV (λ_ _ h=>⟨h.1,aCP hN f h.2⟩) (h.2 i hi)⟩
end
section
variable {P:Program} {T:TT} {hT:FY P T} {n:Nat} {c:Ctx} {B0:Bl} {N N1:Act->World->Prop} {X X1:Nat->Act->World->Prop} {Q:Act->World->Prop} {K K':List Fr} {m m':Nat} {e e':SE} {L L':List Ch} {cf cf':uB}
theorem aYF(Kb:List Fr)(hN:∀a w,N1 a w->NK (.mk P T hT n c B0 N X Q) Kb a w)(hX:∀i a w,X1 i a w->XK (.mk P T hT n c B0 N X Q) Kb i a w):∀(Ka:List Fr),(∀a w,NK (.mk P T hT n c B0 N1 X1 Q) Ka a w->NK (.mk P T hT n c B0 N X Q) (Ka++Kb) a w)/\(∀i a w,XK (.mk P T hT n c B0 N1 X1 Q) Ka i a w->XK (.mk P T hT n c B0 N X Q) (Ka++Kb) i a w)
 |[]=>⟨hN,hX⟩
 |.s y::Ka=>by obtain⟨h1,h2⟩:=aYF Kb hN hX Ka;exact⟨λa w h=>CW.mono (show CW P y (NK _ Ka) (XK _ Ka) Q a w from h) h1 h2 (λ_ _ h=>h),h2⟩
 |.k id::Ka=>by obtain⟨h1,h2⟩:=aYF Kb hN hX Ka;refine⟨h1,λi a w h=>?_⟩;simp only[XK,aR1,aBH] at h ⊢;grind
theorem bGB{Ka Kb:List Fr}(hN:∀a w,N1 a w->NK (.mk P T hT n c B0 N X Q) Kb a w)(hX:∀i a w,X1 i a w->XK (.mk P T hT n c B0 N X Q) Kb i a w)(h:G (.mk P T hT n c B0 N1 X1 Q) Ka m e L cf):G (.mk P T hT n c B0 N X Q) (Ka++Kb) m e L cf:=by
 obtain⟨h1,h2⟩:=aYF Kb hN hX Ka;cases cf with
 |n=>exact λa w hr=>h1 a w (h a w hr)
 |c x=>exact λa w hr=>CW.mono (h a w hr) h1 h2 (λ_ _ h=>h)
 |r ops l=>exact λa w hr=>aCO h1 l (h a w hr)
 |d B1 ops l is Lf Lv=>exact λhD a w hr=>aCP h1 _ (h ⟨hD.pre,hD.len,hD.free,hD.AR,hD.rng,hD.okf,hD.ap⟩ a w hr)
 |o B1 ops l is Lf Lv i=>exact λhD a w hr=>aVV (λ_ _ h=>⟨h.1,aCP h1 _ h.2⟩) (h ⟨hD.pre,hD.len,hD.free,hD.AR,hD.rng,hD.okf,hD.ap⟩ a w hr)
theorem aK5{g:Gx}{s:Stop}(hs:T3 s=some (K,cf,m,e,L))(h:G g K m e L cf):Gs g s:=by
 cases s<;>simp only[T3] at hs<;>cases hs
 ·exact λ_=>h
 ·exact h
 ·exact h
 ·exact λ_ _ _ _ _ _ _=>h
 ·exact λ_ _ _ _ _ _ _ _ _ _=>h
 ·exact λ_ _ _ _ _ _ _ _ _=>h
 ·exact λ_ _=>h
 ·exact λ_ _ _=>h
 ·exact h
 ·exact h
def JP(n:Nat)(c:Ctx)(B0:Bl){π υ:Type}(eq:π->Prop)(m:Nat)(ej:π->υ->SE)(Lj:π->υ->List Ch):Act->World->Prop:=λa w=>∃p u,eq p/\pQ n c B0 m (ej p u) (Lj p u) a w
theorem dC{B1:Bl}{ops:Array Oper}{l:List Bool}{is:List Nat}{Lf Lv:List Ch}{i j:Nat}(q0_:T3 (i4 T n K cf m e L)=some (K',.d B1 ops l is Lf Lv,m',e',L')/\yJ l ops.toList 0=[i,j])
  (k1:G (.mk P T hT n c B0 N X Q) K' m' e' L' (.o B1 ops l is Lf Lv i)) (k2:G (.mk P T hT n c B0 N X Q) K' m' e' L' (.o B1 ops l is Lf Lv j)):G (.mk P T hT n c B0 N X Q) K m e L cf:=
 let ⟨hs,hr⟩:=q0_;gW (g:=.mk P T hT n c B0 N X Q) (aK5 hs (a5X (g:=.mk P T hT n c B0 N X Q) hr λk hk=>by
  grind))
theorem aDY{B1:Bl}{ops:Array Oper}{l:List Bool}{is:List Nat}{Lf Lv:List Ch}{i j p:Nat}(hs:T3 (i4 T n K cf m e L)=some (K',.d B1 ops l is Lf Lv,m',e',L'))(hr:yJ l ops.toList 0=[i,j,p])
  (k1:G (.mk P T hT n c B0 N X Q) K' m' e' L' (.o B1 ops l is Lf Lv i)) (k2:G (.mk P T hT n c B0 N X Q) K' m' e' L' (.o B1 ops l is Lf Lv j)) (k3:G (.mk P T hT n c B0 N X Q) K' m' e' L' (.o B1 ops l is Lf Lv p)):G (.mk P T hT n c B0 N X Q) K m e L cf:=
 gW (g:=.mk P T hT n c B0 N X Q) (aK5 hs (a5X (g:=.mk P T hT n c B0 N X Q) hr λk hk=>by
  grind))
theorem bd{O J:Type}{A:Option O}{f:O->Option J}{q:J}{C:Prop}(hF:A.bind f=some q)(k:∀x,A=some x->f x=some q->C):C:=by
 cases h:A with
 |none=>grind
 |some x=>grind
theorem nd{J:Type}{p:Prop}[Decidable p]{A:Option J}{q:J}{C:Prop}(hF:need p A=some q)(k:p->A=some q->C):C:=k (lY hF).1 (lY hF).2
theorem rb{O:Type}{A:Option O}{x:O}(h:A=some x):A.bind some=some x:=by rw[h];rfl
theorem rn{p:Prop}[Decidable p](h:p):need p (some ())=some ():=by simp[need,h]
theorem go(hs:T3 (i4 T n K cf m e L)=some (K',cf',m',e',L'))(k:G (.mk P T hT n c B0 N X Q) K' m' e' L' cf'):G (.mk P T hT n c B0 N X Q) K m e L cf:=
 gW (g:=.mk P T hT n c B0 N X Q) (aK5 hs k)
theorem cut{π υ:Type}(j mj:Nat)(eq:π->Prop)(ks:List Nat)(ej:π->υ->SE)(is:List Nat)(Lj:π->υ->List Ch)(hs:T3 (i4 T n K cf m e L)=some (K',cf',m',e',L'))
  (k1:G (.mk P T hT n c B0 (JP n c B0 eq mj (λp u=>ej p u++kp e' ks) (λp u=>Lj p u++kl L' is)) (XK (.mk P T hT n c B0 N X Q) (K'.drop j)) Q) (K'.take j) m' e' L' cf')
  (k2:∀p u,eq p->G (.mk P T hT n c B0 N X Q) (K'.drop j) mj (ej p u++kp e' ks) (Lj p u++kl L' is) .n):G (.mk P T hT n c B0 N X Q) K m e L cf:=by
 refine go hs ?_;rw[<-aLX j K'];refine bGB (λa w ⟨p,u,h1,h2⟩=>?_) (λ_ _ _ h=>h) k1;exact k2 p u h1 a w h2
theorem jn{π υ:Type}{eq:π->Prop}{mj:Nat}{ej:π->υ->SE}{Lj:π->υ->List Ch}{p:π}(u:υ)(is:List Nat)(hF:eq p)(hs:i4 T n K cf m e L=.fin m' e' L')(h:Z9 B0.length m' e' L' is mj (ej p u) (Lj p u)=some (ej p u,Lj p u)):G (.mk P T hT n c B0 (JP n c B0 eq mj ej Lj) X Q) K m e L cf:=
 gW (g:=.mk P T hT n c B0 _ X Q) (by
  rw[hs];exact λa w hr=>⟨p,u,hF,pQ.Z9 hr is h⟩)
theorem aAE{b cb:Bool}{a:Act}{B:Bl}(hb:b=cb):∀(ss:List Nat),aW (EO e) ss=some (ss.map λ_=>SV.b b)->gU n B e a->gU n B (ovr cb e ss) a:=by
 intro ss hs hA;refine⟨hA.d,hA.size,?_⟩;subst hb;have key:∀k∈ss,EO e k=some (.b b):=by
  induction ss with
  |nil=>simp
  |cons s ss ih=>
   grind[aW]
 clear hs;induction ss with
 |nil=>exact hA.get
 |cons s ss ih=>
  intro k x hk;simp only[ovr,EO] at hk;cases hb:Nat.beq k s with
  |true=>
   rw[hb] at hk;cases hk;rw[pM hb];exact hA.get s (.b b) (key s ae)
  |false=>
   grind
theorem aK6{b cb:Bool}{a:Act}{w:World}(hb:b=cb)(ss:List Nat)(hs:aW (EO e) ss=some (ss.map λ_=>SV.b b))(h:pQ n c B0 m e L a w):pQ n c B0 m (ovr cb e ss) L a w:=by obtain⟨B,h1,hA,hS⟩:=h;exact⟨B,h1,aAE hb ss hs hA,hS⟩
theorem aMG{e1:SE}(h:∀a B,gU n B e a->gU n B e1 a)(k:G (.mk P T hT n c B0 N X Q) K m e1 L cf):G (.mk P T hT n c B0 N X Q) K m e L cf:=by
 cases cf with
 |d B1 ops l is Lf Lv=>exact λhD a w ⟨B,h1,h2,h3,h4⟩=>k hD a w ⟨B,h1,h a _ h2,h3,h4⟩
 |o B1 ops l is Lf Lv i=>exact λhD a w ⟨B,h1,h2,h3,h4⟩=>k hD a w ⟨B,h1,h a _ h2,h3,h4⟩
 |_=>exact λa w ⟨B,h1,h2,h3⟩=>k a w ⟨B,h1,h a _ h2,h3⟩
section
variable {b:Bool} {O:Type} {A B':Option O} {q:Option O}
theorem cs{o:Operand}{x y:Code}(ss:List Nat)(hs:i4 T n K cf m e L=.cond o b x y K' m' e' L')(ho:aW (EO e') ss=some (ss.map λ_=>SV.b b))(hF:(if b=true then A else B')=q)
  (k1:A=q->G (.mk P T hT n c B0 N X Q) K' m' (ovr true e' ss) L' (.c x)) (k2:B'=q->G (.mk P T hT n c B0 N X Q) K' m' (ovr false e' ss) L' (.c y)):G (.mk P T hT n c B0 N X Q) K m e L cf:=
 gW (g:=.mk P T hT n c B0 N X Q) (by
  rw[hs];intro he a w hr;have ⟨B,hm,hA,hS⟩:=hr;obtain⟨v,h1,h2⟩:=eH hA he;cases h1;refine aKZ hA.env h2 (λhc=>?_) (λhc=>?_)
  ·rw[aM hc] at hF;exact k1 hF a w (aK6 hc ss ho hr)
  ·rw[aO aj] at hF;exact k2 hF a w (aK6 hc ss ho hr))
theorem ca{cf':uB}(ss:List Nat)(hs:i4 T n K cf m e L=.case b cf' K' m' e' L')(ho:aW (EO e') ss=some (ss.map λ_=>SV.b b))(hF:(if b=true then A else B')=q)
  (k1:A=q->G (.mk P T hT n c B0 N X Q) K' m' (ovr true e' ss) L' cf') (k2:B'=q->G (.mk P T hT n c B0 N X Q) K' m' (ovr false e' ss) L' cf'):G (.mk P T hT n c B0 N X Q) K m e L cf:=
 gW (g:=.mk P T hT n c B0 N X Q) (by
  rw[hs];cases b with
  |true=>exact aMG (λa B hA=>aAE rfl ss ho hA) (k1 aj)
  |false=>exact aMG (λa B hA=>aAE rfl ss ho hA) (k2 aj))
end
def QS(P:Program)(fn:Func)(c:Ctx)(B0:Bl){ρ ex:Type}(sv:ρ->ex->SV)(Lf:ρ->ex->List Ch)(r:ρ):Act->World->Prop:=Fin P fn λv w'=>∃y,fJ B0 (sv r y)=some v/\mM c w' B0 (Lf r y)
theorem a0X{r:ResultVar}{x:SV}{B:Bl}{a:Act}{w:World}(hT:FY P T)(hA:gU n B e a)(hS:mM c w B L)(h:a5I T e L r=some x):∃v,fJ B x=some v/\(aF1 a.tmps r).run P w=.ok v w:=by
 cases r with
 |tmp t=>
  obtain⟨v,h1,h2⟩:=hA.get t x h;simp_all[aF1]
 |cell t ty=>
  simp only[a5I] at h;split at h
  ·rename_i p hp;obtain⟨v,h1,h2⟩:=hA.get t p hp;unfold aR4 at h;split at h
   ·rename_i n0 o0;split at h
    ·rename_i cs _ mm _ hb hl;split at h
     ·rename_i hle;split at h
      case h_2=>cases h
      rename_i ds hds;cases h;have:=VF hds;subst this;obtain⟨b,z,vs,g1,g2,g3⟩:=hS.cells hb;have hlen:=lI g2;have hle:=TX hle;simp only[fJ,gV,bU,g1] at h1;cases h1;have h4:=T6 mm (T5 o0 g2);have h5:=aDV g3 (o:=o0) (m:=mm) aa;have h6:=rW h5 P;have h7:((vs.drop o0).take mm).length=mm:=ah
      rw[h7] at h6;refine⟨.agg ((vs.drop o0).take mm).toArray,by grind[fJ,gV],?_⟩;simp[aF1,h2,asAddr,loadVar,hT.agg _ _ hl,hT.size _ _ hl,h6]
     ·cases h
    ·rename_i cs _ _ _ hb hl;obtain⟨b,z,vs,g1,g2,g3⟩:=hS.cells hb;simp only[fJ,gV,bU,g1] at h1;cases h1;obtain⟨u,h4,h5⟩:=T4 g2 h;refine⟨u,a0I h4,?_⟩;have h6:=g3 o0 u h5;simp[aF1,h2,asAddr,loadVar,hT.agg _ _ hl,load,Sem.run,h6]
    ·cases h
   ·cases h
  ·cases h
end
section
variable {P:Program} {T:TT} {hT:FY P T} {n:Nat} {c:Ctx} {B0:Bl} {N:Act->World->Prop} {X:Nat->Act->World->Prop} {Q:Act->World->Prop} {K K':List Fr} {m m':Nat} {e e':SE} {L L':List Ch} {cf:uB}
theorem bAJ{B:Bl}{x:SV}{v:Value}(h:fJ B x=some v)(hc:isCells x=true):gV B x=some v:=by cases x<;>first|exact h|cases hc
theorem aDZ{r:ResultVar}{x:SV}{B:Bl}{a:Act}{w:World}(hT:FY P T)(hA:gU n B e a)(hS:mM c w B L)(h:aYB T e L r=some x):∃v,gV B x=some v/\(aF1 a.tmps r).run P w=.ok v w:=by grind[aYB,a0X,bAJ]
theorem aK7{rs:List ResultVar}{x:SV}{B:Bl}{a:Act}{w:World}{fn:Func}(hf:fn.results=rs.toArray)(hT:FY P T)(hA:gU n B e a)(hS:mM c w B L)(h:aTA T e L rs=some x):∃v,fJ B x=some v/\(results fn a.tmps).run P w=.ok v w:=by
 rw[aX4 hf];unfold aTA at h;split at h
 ·cases h;exact⟨.tuple #[],rfl,ae⟩
 ·obtain⟨v,h1,h2⟩:=a0X hT hA hS h;simp_all
 ·split at h
  ·rename_i g1 g2;cases h;obtain⟨v1,h1,k1⟩:=aDZ hT hA hS g1;obtain⟨v2,h2,k2⟩:=aDZ hT hA hS g2;simp_all[fJ,aW]
  ·cases h
 ·split at h
  ·rename_i g1 g2 g3;cases h;obtain⟨v1,h1,k1⟩:=aDZ hT hA hS g1;obtain⟨v2,h2,k2⟩:=aDZ hT hA hS g2;obtain⟨v3,h3,k3⟩:=aDZ hT hA hS g3;simp_all[fJ,aW]
  ·cases h
 ·cases h
structure FnS (P:Program) (f:FuncId) (c:Ctx) (xs:List SV) (B0:Bl) (L0:List Ch) {ρ ex:Type} (sv:ρ->ex->SV) (Lf:ρ->ex->List Ch) (r:ρ):Prop where
 call:∀args w,(callFunc f args).run P w=.ok (.enter f args) w
 run:∀vs,aW (fJ B0) xs=some vs->mM c c.w0 B0 L0->Calls P f vs.toArray c.w0 (Ret λv w'=>∃y,fJ B0 (sv r y)=some v/\mM c w' B0 (Lf r y))
abbrev Fn0(P:Program)(f:FuncId)(c:Ctx)(xs:List SV){ρ:Type}(sv:ρ->SV)(r:ρ):Prop:=FnS P f c xs [] [] (λr (_:Unit)=>sv r) (λ_ _=>[]) r
def aSA:Nat->List SV->SE
 |_,[]=>[]
 |k,v::r=>(k,v)::aSA (k+1) r
theorem aSB{B:Bl}:∀{xs:List SV} {vs:List Value} (k:Nat) {j:Nat} {x:SV},aW (fJ B) xs=some vs->EO (aSA k xs) j=some x->∃v,fJ B x=some v/\lk (aVH k vs) j=some v
 |[],vs,k,j,x,h,hj=>by grind[aSA,EO]
 |y::xs,vs,k,j,x,h,hj=>by
  simp only[aW] at h;split at h
  ·cases h
  ·rename_i h1;split at h
   ·cases h
   ·rename_i h2;cases h;simp only[aSA,EO] at hj;simp only[aVH,lk];cases hb:Nat.beq j k with
    |true=>grind
    |false=>rw[hb] at hj;exact aSB (k+1) h2 hj
theorem en{f:FuncId}{fn:Func}{cd:Code}{xs:List SV}{L0:List Ch}{ρ ex:Type}{sv:ρ->ex->SV}{Lf:ρ->ex->List Ch}{r:ρ}(n:Nat)(hc:∀args w,(callFunc f args).run P w=.ok (.enter f args) w)(hf:P.funcs[f]?=some fn)(hT:FY P T)(hb:fn.body=some cd)(hm:fn.ntmps=n)(hl:Nat.ble xs.length n=true)
  (k:G (.mk P T hT n c B0 (QS P fn c B0 sv Lf r) (λ_ _ _=>False) (QS P fn c B0 sv Lf r)) [] B0.length (aSA 0 xs) L0 (.c cd)):FnS P f c xs B0 L0 sv Lf r:=by
 refine⟨hc,λvs hv hS=>a2A hf hb hm ?_ λa hA=>?_⟩
 ·grind[lI]
 ·refine CW.mono (k a c.w0 ⟨[],ae,⟨hA.d,hA.size,λj x hj=>?_⟩,aj⟩) (λ_ _ h=>h) (λ_ _ _ h=>h) (λ_ _ h=>h);obtain⟨v,h1,h2⟩:=aSB 0 hv hj;exact⟨v,aj,hA.get j v h2⟩
theorem a2N(w:World):mM (eQ w) w [] []:=⟨⟨[],St.enter ae,ae⟩,λ_ _ h=>h⟩
theorem rt{fn:Func}{ρ ex:Type}{sv:ρ->ex->SV}{Lf:ρ->ex->List Ch}{r r':ρ}{rs:List ResultVar}{zz:Option ρ}(y:ex)(is:List Nat)(hF:zz=some r)(hz:zz=some r')(hs:i4 T n K cf m e L=.ret m' e' L')(hr:fn.results=rs.toArray){x:SV}(hv:aTA T e' L' rs=some x)(hx:nbS x=sv r' y)(hk:AQ B0.length (sv r' y)=true)(hL:Z9 B0.length m' e' L' is B0.length [] (Lf r' y)=some ([],Lf r' y)):G (.mk P T hT n c B0 N X (QS P fn c B0 sv Lf r)) K m e L cf:=by subst hz;cases hF;refine gW (g:=.mk P T hT n c B0 N X _) ?_;rw[hs];intro a w hr';obtain⟨B,hm,hA,hS⟩:=id hr';obtain⟨v,h1,h2⟩:=aK7 hr hT hA hS hv;obtain⟨B',hm',_,hS'⟩:=hr'.Z9 is hL;have hB':B'=[]:=(by simp_all);subst hB';refine⟨hA.d,v,h2,y,?_,aj⟩;rw[<-hx] at hk ⊢;have:=VG hk (by rw[aK1];exact h1);grind
theorem rf{fn:Func}{ρ ex:Type}{sv:ρ->ex->SV}{Lf:ρ->ex->List Ch}{r r':ρ}{rs:List ResultVar}{zz:Option ρ}(y:ex)(is:List Nat)(hF:zz=some r)(hz:zz=some r')(hs:i4 T n K cf m e L=.fin m' e' L')(hr:fn.results=rs.toArray){x:SV}(hv:aTA T e' L' rs=some x)(hx:nbS x=sv r' y)(hk:AQ B0.length (sv r' y)=true)(hL:Z9 B0.length m' e' L' is B0.length [] (Lf r' y)=some ([],Lf r' y)):G (.mk P T hT n c B0 (QS P fn c B0 sv Lf r) X Q) K m e L cf:=by subst hz;cases hF;refine gW (g:=.mk P T hT n c B0 _ X Q) ?_;rw[hs];intro a w hr';obtain⟨B,hm,hA,hS⟩:=id hr';obtain⟨v,h1,h2⟩:=aK7 hr hT hA hS hv;obtain⟨B',hm',_,hS'⟩:=hr'.Z9 is hL;have hB':B'=[]:=(by simp_all);subst hB';refine⟨hA.d,v,h2,y,?_,aj⟩;rw[<-hx] at hk ⊢;have:=VG hk (by rw[aK1];exact h1);grind
def bB(c:Ctx){O:Type}[aL O](s:AC)(d:List O):Prop:=aL.rd c.S0 c.w0 [s.v d.length] d
structure HS (c:Ctx) (w:World) (L:List Ch):Prop where
 ex:∃B,mM c w B L
abbrev ow{O:Type}[aL O](s:AC)(d:List O):Ch:=.o (fK [s.v d.length] d)
abbrev fr{O:Type}[aL O](s:AC)(d:List O):Ch:=.f (fRd [s.v d.length] d)
theorem aTH{w:World}{B:Bl}(hS:mM c w B L){f:Fact}(h:f.P c.S0 c.w0):f.P c.S0 w:=by obtain⟨⟨R,s1,_⟩,s0⟩:=hS;exact f.agree h λb o hb=>s1.keep.cell b o (s0 b o hb) λhw=>s1.apart b o hw hb
theorem aYG{w:World}{B:Bl}(hS:mM c w B L):∀b o,c.S0 b o->All w b o:=λb o hb=>by obtain⟨⟨R,s1,_⟩,s0⟩:=hS;exact O1 (s0 b o hb) s1.keep.size
theorem HS.a{w:World}{O:Type}[aL O]{s:AC}{d:List O}(h:HS c w L)(hr:bB c s d):bB (eQ w) s d:=by obtain⟨B,hS⟩:=h.ex;have h1:(fRd [s.v d.length] d).P c.S0 w:=aTH hS (f:=fRd [s.v d.length] d) hr;exact aL.rd_mono h1 (aYG hS)
theorem HS.o{w:World}{O:Type}[aL O]{s:AC}{d:List O}(h:HS c w L)(i:Nat)(hi:L[i]?=some (ow s d)):bB (eQ w) s d:=by obtain⟨B,⟨⟨R,s1,_⟩,_⟩⟩:=h.ex;exact s1.aZ8 i (by rw[CH,hi];rfl)
theorem HS.f{w:World}{O:Type}[aL O]{s:AC}{d:List O}(h:HS c w L)(i:Nat)(hi:L[i]?=some (fr s d)):bB (eQ w) s d:=by obtain⟨B,⟨⟨R,s1,s2⟩,_⟩⟩:=h.ex;obtain⟨j,hj⟩:=aHR (s2 _ (K9 hi));exact s1.rd j hj
theorem aD0{B:Bl}:∀{xs:List SV} {vs:List Value},okA xs=true->aW (fJ B) xs=some vs->aW (fJ []) xs=some vs
 |[],vs,_,h=>h
 |x::xs,vs,ho,h=>by
  simp only[okA] at ho;split at ho
  ·rename_i h0;simp only[aW] at h;split at h
   ·cases h
   ·rename_i h1;split at h
    ·cases h
    ·rename_i h2;cases h;have h3:=VG h0 h1;rw[List.take_zero] at h3;simp[aW,h3,aD0 ho h2]
  ·cases ho
theorem aBN{B:Bl}{a:Act}(hA:gU n B e a):∀{os:List Operand} {xs:List SV},aW (iL e) os=some xs->∃vs,aW (fJ B) xs=some vs/\evs (vE B e) os=some vs
 |[],xs,h=>by cases h;exact⟨[],rfl,rfl⟩
 |o::os,xs,h=>by
  simp only[aW] at h;split at h
  ·cases h
  ·rename_i h1;split at h
   ·cases h
   ·rename_i h2;cases h;obtain⟨v,k1,k2⟩:=eH hA h1;obtain⟨vs,k3,k4⟩:=aBN hA h2;grind[aW,evs]
def noF:List Ch->Bool
 |[]=>true
 |.ro _ _::_=>false
 |.f _::_=>false
 |.w _ _ _::_=>false
 |_::L=>noF L
theorem aMH{B:Bl}{R:List Fact}:∀{L:List Ch},noF L=true->∀x∈L,roF B R x
 |[],_,x,hx=>by cases hx
 |y::L,h,x,hx=>by
  rcases vJ.1 hx with hx'|hx'
  ·subst hx';cases x<;>first|trivial|cases h
  ·cases y with
   |ro=>cases h
   |f=>cases h
   |w=>cases h
   |_=>exact aMH (L:=L) h x hx'
theorem mM.after{w w':World}{B:Bl}{L2:List Ch}(h:mM c w B L)(hn:noF L2=true)(k:mM (eQ w) w' [] L2):mM c w' B (L++L2):=by
 obtain⟨⟨R,s1,s2⟩,s0⟩:=h;obtain⟨⟨R',t1,t2⟩,t0⟩:=k;refine⟨⟨R,?_,λx hx=>?_⟩,s0⟩
 ·rw[BR];have h1:=s1.after t1;refine h1.imp (jI.append (jI.refl _) ?_);have:=aAA (B:=[]) B (w:=w') L2;grind
 grind[aMH]
theorem mM.bD0{w w':World}{B:Bl}(h:mM c w B L)(k:eJ F0 w w'):mM c w' B L:=by obtain⟨⟨R,s1,s2⟩,s0⟩:=h;exact⟨⟨R,s1.same k,s2⟩,s0⟩
theorem T8{o:Oper}{f:FuncId}{x:Operand}{args:Array Operand}{ts:Array TypeId}{vs:List Value}{E:Env}{w:World}(hcall:∀args w,(callFunc f args).run P w=.ok (.enter f args) w)(ho:o.op=.call {callee:=.value x,args:=args,argTypes:=ts})(hx:ev E x=some (.func (.func f) #[] #[]))(hv:evs E args.toList=some vs):bCW P o E w f vs.toArray:=by have:=aVL (w:=w) (cap:=[]) (xs:=args.toList) (vs:=vs) hcall aa hx hv;grind
theorem cl{O J ex:Type}{fo:Option O}{kf:O->Option J}{q:J}{o:Oper}{d:Nat}{f:FuncId}{xs:List SV}{cf1 cf2:uB}{sv:O->ex->SV}{Lf:O->ex->List Ch}(hs:i4 T n K cf m e L=.call o (some d) f xs cf1 cf2 K' m' e' L')(hn:∀x y,noF (Lf x y)=true)
  (hc:∀{w},HS c w L'->∀{x},fo=some x->FnS P f (eQ w) xs [] [] sv Lf x) (hF:fo.bind kf=some q)
  (k:∀x,fo=some x->kf x=some q->∀y:ex,G (.mk P T hT n c B0 N X Q) K' m' ((d,sv x y)::e') (L'++Lf x y) cf2):G (.mk P T hT n c B0 N X Q) K m e L cf:=by
 refine gW (g:=.mk P T hT n c B0 N X Q) ?_;rw[hs];intro fo' args ats ho hd hf ⟨ys,hys,hxs⟩ hA0 hdn hE;subst hxs;cases hfo:fo with
 |none=>grind
 |some x=>
  rw[hfo] at hF;refine hE ex (λ_=>m') (λy=>(d,sv x y)::e') (λy=>L'++Lf x y) (λy=>rL _) (λB a w next Q' hm hA hS hnext=>?_) (k x hfo hF);obtain⟨hcall,hrun⟩:=hc ⟨_,hS⟩ hfo;obtain⟨vs,h1,h2⟩:=aBN hA hys;obtain⟨v,h3,h4⟩:=eH hA hf;simp[fJ,aW] at h3;subst h3;have h5:=hrun vs (aD0 hA0 (by rw[QU];exact h1)) (a2N w);have h6:=T8 (w:=w) hcall ho h4 h2;unfold Oper.wp;rw[h6 _ a hA.env,Oper.upon_enter];refine Calls.mono h5 λen w' ⟨v,hv,y,g1,g2⟩=>?_;subst hv;rw[hd];have g3:=xN (B0S (.mk P T hT n c B0 N X Q) cf1++B) g1;exact hnext y _ _ ⟨[],aj,by simpa using hA.of aj (hA.env.put (by grind[rY,yI]) v),by simpa using hS.after (hn x y) g2⟩
end
section
variable {P:Program} {T:TT} {hT:FY P T} {n:Nat} {c:Ctx} {B0:Bl} {N:Act->World->Prop} {X:Nat->Act->World->Prop} {Q:Act->World->Prop} {K K':List Fr} {m m':Nat} {e e':SE} {L L':List Ch} {cf:uB}
def NxP(n:Nat)(c:Ctx)(B0:Bl){σ ρ υ:Type}(o:Step σ ρ)(m:Nat)(el:σ->υ->SE)(Ll:σ->υ->List Ch):Act->World->Prop:=λa w=>∃s u,o=.next s/\pQ n c B0 m (el s u) (Ll s u) a w
def BkP(n:Nat)(c:Ctx)(B0:Bl){J ρ υ:Type}(ro:ρ)(enc:J->ρ)(m:Nat)(ej:J->υ->SE)(Lj:J->υ->List Ch)(id:Nat)(X:Nat->Act->World->Prop):Nat->Act->World->Prop:=λi a w=>if i=id then ∃b u,ro=enc b/\pQ n c B0 m (ej b u) (Lj b u) a w else X i a w
theorem lp{σ ρ υ J ω O:Type}{id:Nat}{y:Code}{fb:σ->Option (Step σ ρ)}{s0:σ}{gk:ρ->Option O}{q:O}(u0:υ)(ks:List Nat)(el:σ->υ->SE)(is0 is:List Nat)(Ll:σ->υ->List Ch)(enc:J->ρ)(kb:List Nat)(ej:J->ω->SE)(ib:List Nat)(Lj:J->ω->List Ch)
  (hs:i4 T n K cf m e L=.loop id y K' m' e' L') (hF:(loop fb s0).bind gk=some q)
  (h0:Z9 B0.length m' e' L' is0 m' (el s0 u0++kp e' ks) (Ll s0 u0++kl L' is)=some (el s0 u0++kp e' ks,Ll s0 u0++kl L' is))
  (k1:∀ro,gk ro=some q->∀s u o,fb s=some o->(∀p,o=.stop p->p=ro)->G (.mk P T hT n c B0 (NxP n c B0 o m' (λs u=>el s u++kp e' ks) (λs u=>Ll s u++kl L' is)) (BkP n c B0 ro enc m' (λb u=>ej b u++kp e' kb) (λb u=>Lj b u++kl L' ib) id (XK (.mk P T hT n c B0 N X Q) K')) Q) [] m' (el s u++kp e' ks) (Ll s u++kl L' is) (.c y))
  (k2:∀b u,gk (enc b)=some q->G (.mk P T hT n c B0 N X Q) K' m' (ej b u++kp e' kb) (Lj b u++kl L' ib) .n):G (.mk P T hT n c B0 N X Q) K m e L cf:=by
 refine gW (g:=.mk P T hT n c B0 N X Q) ?_;rw[hs];intro a w hr;cases hl:loop fb s0 with
 |none=>grind
 |some ro=>
  rw[hl] at hF;have hF:gk ro=some q:=hF;refine aVI (a9C (body:=fb) (r:=ro) (λs a w=>∃u,pQ n c B0 m' (el s u++kp e' ks) (Ll s u++kl L' is) a w) ?_ hl ⟨u0,hr.Z9 is0 h0⟩);intro s a w o ⟨u,hI⟩ hb ho;refine CW.mono (k1 ro hF s u o hb ho a w hI) ?_ ?_ (λ_ _ h=>h)
  ·rintro a w ⟨s',u',h1,h2⟩;grind
  ·intro i a w h;simp only[XK,BkP,aR1] at h ⊢;split
   ·rename_i hi;rw[aM hi] at h;obtain⟨b,u,h1,h2⟩:=h;exact k2 b u (h1 ▸ hF) a w h2
   grind
theorem nx{σ ρ υ:Type}{o:Step σ ρ}{mj:Nat}{el:σ->υ->SE}{Ll:σ->υ->List Ch}{s:σ}(u:υ)(is:List Nat)(hG:some (Step.next s)=some o)(hs:i4 T n K cf m e L=.fin m' e' L')(h:Z9 B0.length m' e' L' is mj (el s u) (Ll s u)=some (el s u,Ll s u)):G (.mk P T hT n c B0 (NxP n c B0 o mj el Ll) X Q) K m e L cf:=
 gW (g:=.mk P T hT n c B0 _ X Q) (by
  rw[hs];cases hG;exact λa w hr=>⟨s,u,rfl,hr.Z9 is h⟩)
theorem bk{σ ρ J υ:Type}{o:Step σ ρ}{ro:ρ}{enc:J->ρ}{mj id:Nat}{ej:J->υ->SE}{Lj:J->υ->List Ch}{b:J}(u:υ)(is:List Nat)(hG:some (Step.stop (enc b))=some o)(hr:∀p,o=.stop p->p=ro)(hs:i4 T n K cf m e L=.ex id m' e' L')(h:Z9 B0.length m' e' L' is mj (ej b u) (Lj b u)=some (ej b u,Lj b u)):G (.mk P T hT n c B0 N (BkP n c B0 ro enc mj ej Lj id X) Q) K m e L cf:=
 gW (g:=.mk P T hT n c B0 N _ Q) (by
  rw[hs];cases hG;have:=hr _ rfl;subst this;intro a w hr;show BkP n c B0 (enc b) enc mj ej Lj id X id a w;unfold BkP;rw[aM rfl];exact⟨b,u,rfl,hr.Z9 is h⟩)
theorem re{σ ρ O:Type}{o:Step σ ρ}{p ro:ρ}{F:ρ->Option O}{q:Option O}{zz:Option (Step σ ρ)}(hG:zz=some o)(hz:zz=some (Step.stop p))(hr:∀p,o=.stop p->p=ro)(hF:F ro=q):F p=q:=aj
structure GA (O:Type) [aL O] where
 ex:Type
 cs:O->ex->List SV
 sub:cV->World->O->ex->Prop
 ok:∀{S w ec x},aL.rd S w ec x->∃y,aW (bU []) (cs x y)=some ec/\sub S w x y
 sv:O->ex->SV
 bIB:∀{S S' w w' x y},sub S w x y->(∀b o,S b o->w'.cell? ⟨b,o,none⟩=w.cell? ⟨b,o,none⟩)->(∀b o,S b o->S' b o)->sub S' w' x y
def cI:GA Int:=⟨Unit,λx _=>[.i .i64 x],λ_ _ _ _=>True,λh=>⟨(),by cases h;rfl,trivial⟩,λx _=>.i .i64 x,λ_ _ _=>trivial⟩
def cU:GA UInt8:=⟨Unit,λx _=>[.y x],λ_ _ _ _=>True,λh=>⟨(),by cases h;rfl,trivial⟩,λx _=>.y x,λ_ _ _=>trivial⟩
theorem O4{O:Type}[aL O]{S:cV}{w:World}{ec:List Value}{l:List O}(h:aL.rd S w ec l):∃s:AC,ec=[s.v l.length]:=by obtain⟨ad,m,h1,_⟩:=(show AS S w ec l from h);exact⟨⟨ad,m⟩,h1⟩
def cL{O:Type}[aL O]:GA (List O):=⟨AC,λx y=>[.h y x.length],λS w x y=>aL.rd S w [y.v x.length] x,λh=>by
 obtain⟨s,h1⟩:=O4 h;subst h1;exact⟨s,rfl,h⟩,λx y=>.h y x.length,λh h1 h2=>aL.rd_mono (aL.rd_agree h h1) h2⟩
theorem St.bGD{w:World}{M:List Chunk}{R:List Fact}{f:Fact}(h:St c w M R)(s0:∀b o,c.S0 b o->b<c.w0.heap.size)(hf:f.P c.S0 c.w0):St c w M (R++[f]):=by
 obtain⟨F,S,a1,a2,a3,a4,a5,a6⟩:=h.sep;refine⟨h.keep,⟨F,λb o=>S b o\/c.S0 b o,a1,?_,a3,?_,?_,?_⟩,h.apart⟩
 ·rintro b o hF (hs|hs)
  ·exact a2 b o hF hs
  ·rcases a3 b o hF with hw|hw
   ·exact h.apart b o hw hs
   grind
 ·grind
 ·rintro b o (hs|hs)
  ·grind
  ·exact O1 (s0 b o hs) h.keep.size
 ·intro g hg;rcases iO.1 hg with hg|hg
  ·exact g.mono (a6 g hg) λb o hs=>.inl hs
  ·simp at hg;subst hg;exact g.mono (g.agree hf λb o hb=>h.keep.cell b o (s0 b o hb) λhw=>h.apart b o hw hb) λb o hs=>.inr hs
theorem mM.bGE{w:World}{B:Bl}{k b z:Nat}{cs:List SV}{vs:List Value}(h:mM c w B L)(hk:B[k]?=some (b,z))(hc:aW (bU B) cs=some vs)(hf:(fAt b z vs).P c.S0 c.w0):mM c w B (L++[.ro k cs]):=by
 obtain⟨⟨R,s1,s2⟩,s0⟩:=h;refine⟨⟨R++[fAt b z vs],?_,λx hx=>?_⟩,s0⟩
 ·rw[BR];exact St.more (ch:=NH) (St.bGD s1 s0 hf) (eJ.refl _ _) ⟨F0,λ_ _ h=>h,λ_ _ h=>h.elim⟩
 ·rcases iO.1 hx with hx|hx
  ·grind[aDU]
  ·simp at hx;subst hx;exact⟨b,z,vs,hk,hc,ae⟩
theorem ix{O J:Type}{iR:aL O}(C:GA O){o:Oper}{d t:Nat}{s:AC}{i:Int}{Lv:List Ch}{cf1 cf2:uB}{ls:List O}{kf:O->Option J}{q:J}{el sz:Nat}{b1 b2:Bool}{z1 z2:List SV}{k2:TK}{n1:Nat}(hs:i4 T n K cf m e L=.idx o d t s ls.length i Lv cf1 cf2 K' m' e' L')(h1:bB c s ls)(hF:(idx ls i).bind kf=some q)(ht:AU T t=some ⟨.sl el,b1,n1,z1⟩)(he:AU T el=some ⟨k2,b2,sz,z2⟩)(hn:aL.n O=sz)
  (k:∀x,idx ls i=some x->kf x=some q->∀y:C.ex,C.sub c.S0 c.w0 x y->G (.mk P T hT n c B0 N X Q) K' (m'+1) ((d,.p m' 0)::e') (L'++[.ro m' (C.cs x y)]) (cf2.ext [.ro m' (C.cs x y)])):G (.mk P T hT n c B0 N X Q) K m e L cf:=by
 refine gW (g:=.mk P T hT n c B0 N X Q) ?_;rw[hs];intro x' y' ho hd hx hy hP;cases hi:idx ls i with
 |none=>grind
 |some x=>
  rw[hi] at hF;obtain⟨dd,hd1,hd2⟩:=hT.und _ _ ht;simp only at hd2;subst hd2;obtain⟨ec,p1,p2⟩:=bDN (S:=c.S0) (w:=c.w0) h1 (CI hi).2.2;obtain⟨y,p3,p4⟩:=C.ok p2;subst hn;refine hP d (.p m' 0) [.ro m' (C.cs x y)] (λ_=>[(X5 (s.v ls.length),WT (aL.n O) i.toNat (s.v ls.length))]) 1 hd (λ_=>rfl) (λB a w hA hS hm=>?_) (λB w L hm hS=>?_) (k x hi hF y p4)
  ·obtain⟨v,g1,g2⟩:=eH hA hx;obtain⟨u,g3,g4⟩:=eH hA hy;cases g1;cases g3;have hrd:aL.rd c.S0 w [s.v ls.length] ls:=aTH hS (f:=fRd [s.v ls.length] ls) h1;exact⟨_,by grind[fJ,gV,bU],bDD (P:=P) (o:=o) (w:=w) hrd rfl hi hd1 (hT.size _ _ he) ho g2 g4⟩
  ·exact(hS.app _).bGE (b:=X5 (s.v ls.length)) (z:=WT (aL.n O) i.toNat (s.v ls.length)) aj (eY (λx v h=>by simpa using gD (B:=[]) _ h) p3) p1
theorem dr{id:Nat}{ops:Array Oper}(is:List Nat)(hs:i4 T n K cf m e L=.rgn id ops K' m' e' L')(hm:P.follows .mixedOrders=true)(hf:(aVQ ops && (okL m' (kl L' is) && (dJ is && is.all λj=>Nat.blt j L'.length)))=true)
  (k:∀B1,G (.mk P T hT n c B0 N X Q) K' m' e' L' (.d B1 ops (List.replicate ops.size false) is (kl L' is) (kl L' is))):G (.mk P T hT n c B0 N X Q) K m e L cf:=by
 refine gW (g:=.mk P T hT n c B0 N X Q) ?_;rw[hs];intro a w ⟨B,hmm,hA,hS⟩;simp only[FX,aP5,yI] at hf;obtain⟨f1,f2,f3,f4⟩:=hf;refine wp_region_held (S:=Sd (.mk P T hT n c B0 N X Q) (B0++B) (kl L' is)) hm ?_;have:=k (B0++B) ⟨⟨B,rfl⟩,ae,f1,rfl,f4,aj,f3⟩ a w.drew ⟨[],aj,aj,by simpa using hS.bD0 (eJ.drew F0 w),λw' h=>aj⟩;simp_all
end
inductive StF (P:Program):List Field->List (Nat×Nat)->Prop where
 |n:StF P [] []
 |c {F:Field} {Fs:List Field} {fs:List (Nat×Nat)} {m:Nat} (h:∀w,(sizeOf F.type).run P w=.ok m w) (t:StF P Fs fs):StF P (F::Fs) ((F.offset,m)::fs)
section
variable {P:Program} {T:TT} {t n:Nat} {a:Bool} {zs:List SV} {z:Value}
theorem StF.off{Fs:List Field}{fs:List (Nat×Nat)}(h:StF P Fs fs):Fs.map (·.offset)=fs.map (·.1):=by
 induction h with
 |n=>rfl
 |c h t ih=>simp[ih]
theorem StF.get{Fs:List Field}{fs:List (Nat×Nat)}(h:StF P Fs fs):∀(j:Nat) F,Fs[j]?=some F->∃m,fs[j]?=some (F.offset,m)/\∀w,(sizeOf F.type).run P w=.ok m w:=by
 induction h with
 |n=>simp
 |c h t ih=>
  intro j F hj;cases j with
  |zero=>simp_all
  |succ j=>grind
theorem StF.run{Fs:List Field}{fs:List (Nat×Nat)}(h:StF P Fs fs)(w:World):(Fs.mapM λf=>(do pure (f.offset,<-sizeOf f.type):Sem (Nat×Nat))).run P w=.ok fs w:=by
 induction h with
 |n=>simp
 |c h t ih=>simp_all
theorem FY.nil:FY P []:=⟨λ_ _ h=>(by cases h),λ_ _ h=>(by cases h),λ_ _ h=>(by cases h),λ_ _ h=>(by cases h)⟩
theorem FY.add{k:TK}{d:TypeDesc}(hu:P.underlying t=some d)(hk:match k with
  |.i k=>d=.int k
  |.b=>d=.bool
  |.st fs=>∃Fs:Array Field,d=.struct Fs/\Fs.toList.map (·.offset)=fs.map (·.1)/\(∀(j:Nat) F,Fs[j]?=some F->∃m,fs[j]?=some (F.offset,m)/\∀w,(sizeOf F.type).run P w=.ok m w)/\∀w,(Fs.mapM λf=>(do pure (f.offset,<-sizeOf f.type):Sem (Nat×Nat))).run P w=.ok fs.toArray w
  |.s=>d=.string
  |.sl el=>d=.slice el
  |.x=>True) (ha:∀w,(isAgg t).run P w=.ok a w) (hs:∀w,(sizeOf t).run P w=.ok n w) (hz:∀w,(zeroValue t).run P w=.ok z w) (hc:aW (bU []) zs=some z.cells.toList) (h:FY P T):FY P ((t,⟨k,a,n,zs⟩)::T):=by
 refine⟨λt' i hi=>?_,λt' i hi=>?_,λt' i hi=>?_,λt' i hi=>?_⟩<;>simp only[AU] at hi<;>split at hi
 ·grind[pM]
 ·exact h.und t' i hi
 ·grind[pM]
 ·exact h.agg t' i hi
 ·grind[pM]
 ·exact h.size t' i hi
 ·grind[pM]
 ·exact h.zero t' i hi
theorem FY.st{fs:List (Nat×Nat)}{Fs:List Field}(hu:P.underlying t=some (.struct Fs.toArray))(hk:StF P Fs fs)(ha:∀w,(isAgg t).run P w=.ok a w)(hs:∀w,(sizeOf t).run P w=.ok n w)(hz:∀w,(zeroValue t).run P w=.ok z w)(hc:aW (bU []) zs=some z.cells.toList)(h:FY P T):FY P ((t,⟨.st fs,a,n,zs⟩)::T):=
 FY.add (k:=.st fs) hu ⟨Fs.toArray,rfl,by simpa using hk.off,λj F hj=>hk.get j F aj,λw=>by
  have:=hk.run w;simp_all⟩ ha hs hz hc h
end
abbrev I(x:Int):SV:=.i .i64 x
section
variable {P:Program} {T:TT} {hT:FY P T} {n:Nat} {c:Ctx} {B0:Bl} {N:Act->World->Prop} {X:Nat->Act->World->Prop} {Q:Act->World->Prop} {K K':List Fr} {m m':Nat} {e e':SE} {L L':List Ch} {cf cf1 cf2:uB} {o:Oper} {Lv:List Ch} {d:Nat}
theorem ext_nil:cf.ext []=cf:=by cases cf<;>simp[uB.ext]
theorem pu{x:SV}(hs:opS (i4 T n K cf m e L)=some (o,Lv,cf1,cf2,K',m',e',L'))(hd:o.dst=some d)(hv:∀B a w,gU n B e' a->mM c w B Lv->∃v,fJ B x=some v/\fE P o (vE B e') w v w)
  (k:G (.mk P T hT n c B0 N X Q) K' m' ((d,x)::e') L' cf2):G (.mk P T hT n c B0 N X Q) K m e L cf:=by
 refine gW (g:=.mk P T hT n c B0 N X Q) ?_;have key:aDX (.mk P T hT n c B0 N X Q) K' m' e' L' o Lv cf1 cf2->G (.mk P T hT n c B0 N X Q) K' m' e' L' cf1:=λhP=>by refine hP d x [] (λ_=>[]) 0 hd (λ_=>rfl) (λB a w hA hS _=>?_) (λB w L _ hS=>aj) (by grind[ext_nil]);grind
 generalize i4 T n K cf m e L=s at hs;cases s<;>simp only[opS] at hs<;>cases hs
 ·exact λ_ hP=>key hP
 ·exact λ_ hP _=>key hP
theorem yF{x:Operand}{k:IntKind}{i:Int}{B:Bl}{a:Act}(hA:gU n B e a)(h:(iL e x).bind rX=some (k,i)):ev (vE B e) x=some (.int k i):=by
 cases hx:iL e x with
 |none=>grind
 |some y=>
  grind[eH,aYC]
section
variable {x y:Operand} {t z:TypeId} {k:IntKind} {i j:Int} {O:Type} {A:Option O} {q:O}
theorem bGF(hs:opS (i4 T n K cf m e L)=some (o,Lv,cf1,cf2,K',m',e',L'))(ho:(o.op,o.dst)=(.binOp .quo t x y z,some d))(hx:(iL e' x).bind rX=some (k,i))(hy:(iL e' y).bind rX=some (k,j))(hF:need (j≠0) A=some q)
  (kk:A=some q->G (.mk P T hT n c B0 N X Q) K' m' ((d,.i k (k.wrap (i.tdiv j)))::e') L' cf2):G (.mk P T hT n c B0 N X Q) K m e L cf:=
 pu hs (dA Prod.snd ho) (λB a w hA _=>⟨_,rfl,aX1 (dA Prod.fst ho) (yF hA hx) (yF hA hy) (lY hF).1⟩) (kk (lY hF).2)
theorem bGG(hs:opS (i4 T n K cf m e L)=some (o,Lv,cf1,cf2,K',m',e',L'))(ho:(o.op,o.dst)=(.binOp .rem t x y z,some d))(hx:(iL e' x).bind rX=some (k,i))(hy:(iL e' y).bind rX=some (k,j))(hF:need (j≠0) A=some q)
  (kk:A=some q->G (.mk P T hT n c B0 N X Q) K' m' ((d,.i k (i.tmod j))::e') L' cf2):G (.mk P T hT n c B0 N X Q) K m e L cf:=
 pu hs (dA Prod.snd ho) (λB a w hA _=>⟨_,rfl,aX2 (dA Prod.fst ho) (yF hA hx) (yF hA hy) (lY hF).1⟩) (kk (lY hF).2)
theorem bD1{x:Operand}{l:List UInt8}{B:Bl}{a:Act}(hA:gU n B e a)(h:iL e x=some (.s l)):ev (vE B e) x=some (sv l):=by obtain⟨v,h1,h2⟩:=eH hA h;cases h1;exact h2
theorem cat{p r:List UInt8}(hs:opS (i4 T n K cf m e L)=some (o,Lv,cf1,cf2,K',m',e',L'))(ho:(o.op,o.dst)=(.binOp .add t x y z,some d))(hx:iL e' x=some (.s p))(hy:iL e' y=some (.s r))(hF:need (p.length+r.length<=9223372036854775807) A=some q)
  (kk:A=some q->G (.mk P T hT n c B0 N X Q) K' m' ((d,.s (p++r))::e') L' cf2):G (.mk P T hT n c B0 N X Q) K m e L cf:=
 pu hs (dA Prod.snd ho) (λB a w hA _=>⟨_,rfl,bDB (dA Prod.fst ho) (bD1 hA hx) (bD1 hA hy) (lY hF).1⟩) (kk (lY hF).2)
theorem bAM{x:Operand}{cs:List SV}{vs:List Value}{B:Bl}{a:Act}(hA:gU n B e a)(h:(iL e x).map nbS=some (.g cs))(hv:aW (bU []) cs=some vs):ev (vE B e) x=some (.agg vs.toArray):=by
 cases hx:iL e x with
 |none=>grind
 |some y=>
  rw[hx] at h;simp at h;obtain⟨v,h1,h2⟩:=eH hA hx;rw[h2,<-h1,<-aK1,h];simp only[fJ,gV];have:=eY (g:=bU B) (λx v h=>by simpa using gD (B:=[]) B h) hv;rw[this]
theorem eqS{xs ys:List SV}{vx vy:List Value}{fs:Array Field}{b:Bool}(hg:P.eqGuardType P.depth t=false)(hst:P.stoodInHeld t=false)(hu:P.underlying t=some (.struct fs))(hb:∀w,(Op.eqFields 9999 vx.toArray vy.toArray (match P.underlying t with|some (.struct fs)=>fs|_=>#[]).toList).run P w=.ok b w)(hs:opS (i4 T n K cf m e L)=some (o,Lv,cf1,cf2,K',m',e',L'))(ho:(o.op,o.dst)=(.binOp .eql t x y z,some d))(hx:(iL e' x).map nbS=some (.g xs))(hy:(iL e' y).map nbS=some (.g ys))(hvx:aW (bU []) xs=some vx)(hvy:aW (bU []) ys=some vy)
  (kk:G (.mk P T hT n c B0 N X Q) K' m' ((d,.b b)::e') L' cf2):G (.mk P T hT n c B0 N X Q) K m e L cf:=
 pu hs (dA Prod.snd ho) (λB a w hA _=>⟨_,rfl,bDG hg hst hu hb (dA Prod.fst ho) (bAM hA hx hvx) (bAM hA hy hvy)⟩) kk
theorem neS{xs ys:List SV}{vx vy:List Value}{fs:Array Field}{b:Bool}(hg:P.eqGuardType P.depth t=false)(hst:P.stoodInHeld t=false)(hu:P.underlying t=some (.struct fs))(hb:∀w,(Op.eqFields 9999 vx.toArray vy.toArray (match P.underlying t with|some (.struct fs)=>fs|_=>#[]).toList).run P w=.ok b w)(q0_:opS (i4 T n K cf m e L)=some (o,Lv,cf1,cf2,K',m',e',L')/\(o.op,o.dst)=(.binOp .neq t x y z,some d)/\(iL e' x).map nbS=some (.g xs)/\(iL e' y).map nbS=some (.g ys)/\aW (bU []) xs=some vx/\aW (bU []) ys=some vy)
  (kk:G (.mk P T hT n c B0 N X Q) K' m' ((d,.b (!b))::e') L' cf2):G (.mk P T hT n c B0 N X Q) K m e L cf:=
 let ⟨hs,ho,hx,hy,hvx,hvy⟩:=q0_;pu hs (dA Prod.snd ho) (λB a w hA _=>⟨_,rfl,a9O hg hst hu hb (dA Prod.fst ho) (bAM hA hx hvx) (bAM hA hy hvy)⟩) kk
theorem k9{O:Type}[aL O]{w:World}:bB (eQ w) ⟨none,0⟩ ([]:List O):=bDF
theorem cl0{O J:Type}{fo:Option O}{kf:O->Option J}{q:J}{f:FuncId}{xs:List SV}{sv:O->SV}(hs:i4 T n K cf m e L=.call o (some d) f xs cf1 cf2 K' m' e' L')
  (hc:∀{w},HS c w L'->∀{x},fo=some x->Fn0 P f (eQ w) xs sv x) (hF:fo.bind kf=some q)
  (k:∀x,fo=some x->kf x=some q->G (.mk P T hT n c B0 N X Q) K' m' ((d,sv x)::e') L' cf2):G (.mk P T hT n c B0 N X Q) K m e L cf:=
 cl (Lf:=λ_ _=>[]) hs (λ_ _=>rfl) (λh=>hc h) hF (λx hx hk _=>aj)
theorem lr{σ ρ υ O:Type}{id:Nat}{y:Code}{fb:σ->Option (Step σ ρ)}{s0:σ}{gk:ρ->Option O}{q:O}(u0:υ)(ks:List Nat)(el:σ->υ->SE)(is0 is:List Nat)(Ll:σ->υ->List Ch)
  (hs:i4 T n K cf m e L=.loop id y K' m' e' L') (hF:(loop fb s0).bind gk=some q)
  (h0:Z9 B0.length m' e' L' is0 m' (el s0 u0++kp e' ks) (Ll s0 u0++kl L' is)=some (el s0 u0++kp e' ks,Ll s0 u0++kl L' is))
  (k1:∀ro,gk ro=some q->∀s u o,fb s=some o->(∀p,o=.stop p->p=ro)->G (.mk P T hT n c B0 (NxP n c B0 o m' (λs u=>el s u++kp e' ks) (λs u=>Ll s u++kl L' is)) (BkP n c B0 ro (λb:Empty=>nomatch b) m' (λ(b:Empty) (_:Unit)=>nomatch b) (λb _=>nomatch b) id (XK (.mk P T hT n c B0 N X Q) K')) Q) [] m' (el s u++kp e' ks) (Ll s u++kl L' is) (.c y)):G (.mk P T hT n c B0 N X Q) K m e L cf:=
 lp (J:=Empty) (ω:=Unit) u0 ks el is0 is Ll (λb=>nomatch b) [] (λb=>nomatch b) [] (λb=>nomatch b) hs hF h0 (λro hro s u o hb ho=>by
  have:=k1 ro hro s u o hb ho;have h1:(λ(b:Empty) (u:Unit)=>((λb=>nomatch b:Empty->Unit->SE) b u++kp e' []))=(λ(b:Empty) (_:Unit)=>nomatch b):=funext λb=>nomatch b
  have h2:(λ(b:Empty) (u:Unit)=>((λb=>nomatch b:Empty->Unit->List Ch) b u++kl L' []))=(λ(b:Empty) (_:Unit)=>nomatch b):=funext λb=>nomatch b
  simp_all) (λb=>nomatch b)
end
end
section
variable {P:Program} {T:TT} {hT:FY P T} {n:Nat} {c:Ctx} {B0:Bl} {N:Act->World->Prop} {X:Nat->Act->World->Prop} {Q:Act->World->Prop} {K K':List Fr} {m m':Nat} {e e':SE} {L L':List Ch} {cf cf1 cf2:uB} {o:Oper} {Lv:List Ch} {d:Nat}
def Fu1(P:Program)(c:Ctx){O J:Type}{iR:aL O}(C:GA O)(sr:J->SV)(g:FuncId)(cap:List Value)(p:O->Option J):Prop:=
 (∀args w,(callFunc g args).run P w=.ok (.enter g args) w)/\∀w,eJ c.W c.w0 w->∀x y,C.sub (All w) w x y->∀q,p x=some q->∀v,fJ [] (C.sv x y)=some v->Calls P g (v::cap).toArray w (Ret λu w'=>fJ [] (sr q)=some u/\mM (eQ w) w' [] [])
def Fu2(P:Program)(c:Ctx){O α' J:Type}{iR:aL O}{iR':aL α'}(C:GA O)(C':GA α')(sr:J->SV)(g:FuncId)(cap:List Value)(p:O->α'->Option J):Prop:=
 (∀args w,(callFunc g args).run P w=.ok (.enter g args) w)/\∀w,eJ c.W c.w0 w->∀x y x' y',C.sub (All w) w x y->C'.sub (All w) w x' y'->∀q,p x x'=some q->∀v v',fJ [] (C.sv x y)=some v->fJ [] (C'.sv x' y')=some v'->Calls P g (v::v'::cap).toArray w (Ret λu w'=>fJ [] (sr q)=some u/\mM (eQ w) w' [] [])
theorem a53{O:Type}{iR:aL O}(C:GA O){w:World}{B:Bl}(hS:mM c w B L){x:O}{y:C.ex}(h:C.sub c.S0 c.w0 x y):C.sub (All w) w x y:=by refine C.bIB h (λb o hb=>?_) (aYG hS);obtain⟨⟨R,s1,_⟩,s0⟩:=hS;exact s1.keep.cell b o (s0 b o hb) λhw=>s1.apart b o hw hb
theorem mM.a54{w:World}{B:Bl}(hS:mM c w B L):eJ c.W c.w0 w:=by obtain⟨⟨R,s1,_⟩,s0⟩:=hS;exact s1.keep
section
variable {O α' J γ:Type} {iR:aL O} {iR':aL α'} {C:GA O} {C':GA α'} {sr:J->SV} {g:FuncId} {cap:List Value} {q:γ} {kf:J->Option γ} {fo:Operand} {args:Array Operand} {ats:Array TypeId}
theorem a55{f:FuncId}{x:Operand}{ts:Array TypeId}{vs:List Value}{E:Env}{w:World}(hcall:∀args w,(callFunc f args).run P w=.ok (.enter f args) w)(ho:o.op=.call {callee:=.value x,args:=args,argTypes:=ts})(hx:ev E x=some (.func (.func f) #[] cap.toArray))(hv:evs E args.toList=some vs):bCW P o E w f (vs++cap).toArray:=
 aVL (w:=w) (cap:=cap) (xs:=args.toList) (vs:=vs) hcall aa hx hv
theorem aSC{B:Bl}{x:SV}{v:Value}(h:AQ 0 x=true)(hv:fJ B x=some v):fJ [] x=some v:=by have:=VG h hv;grind
theorem fa1{p:O->Option J}(H:Fu1 P c C sr g cap p)(x:O)(y:C.ex)(hs:i4 T n K cf m e L=.op o Lv cf1 cf2 K' m' e' L')(ho:(o.op,o.dst)=(.call {callee:=.value fo,args:=args,argTypes:=ats},some d))(hf:iL e' fo=some (.k (.func (.func g) #[] cap.toArray)))(hx:(aW (iL e') args.toList).map nbT=some [C.sv x y])(hz:AQ 0 (C.sv x y)=true)(hy:C.sub c.S0 c.w0 x y)(hF:(p x).bind kf=some q)
  (k:∀z,p x=some z->kf z=some q->G (.mk P T hT n c B0 N X Q) K' m' ((d,sr z)::e') L' cf2):G (.mk P T hT n c B0 N X Q) K m e L cf:=by
 refine gW (g:=.mk P T hT n c B0 N X Q) ?_;rw[hs];intro hdn _ hE;obtain⟨hcall,hrun⟩:=H;cases hp:p x with
 |none=>grind
 |some z=>
  rw[hp] at hF;refine hE Unit (λ_=>m') (λ_=>(d,sr z)::e') (λ_=>L') (λ_=>by simpa using rL (L:=L') []) (λB a w next Q' hm hA hS hnext=>?_) (λ_=>k z hp hF);cases hys:aW (iL e') args.toList with
  |none=>grind
  |some ys=>
   rw[hys] at hx;simp at hx;obtain⟨vs,h1,h2⟩:=aBN hA hys;obtain⟨u,h3,h4⟩:=eH hA hf;simp only[fJ,gV,bU] at h3;split at h3
   ·cases h3;rw[<-a0R,hx] at h1;simp only[aW] at h1;cases hv:fJ (B0S (.mk P T hT n c B0 N X Q) cf1++B) (C.sv x y) with
    |none=>grind
    |some v=>
     rw[hv] at h1;cases h1;have h6:=a55 (w:=w) hcall (dA Prod.fst ho) h4 h2;have hd:o.dst=some d:=dA Prod.snd ho;unfold Oper.wp;rw[h6 _ a hA.env,Oper.upon_enter];refine Calls.mono (hrun w hS.a54 x y (a53 C hS hy) z hp v (aSC hz hv)) λen w' ⟨v',hv',g1,g2⟩=>?_;subst hv';rw[hd] at hdn ⊢;have g3:=xN (B0S (.mk P T hT n c B0 N X Q) cf1++B) g1;exact hnext () _ _ ⟨[],aj,by simpa using hA.of aj (hA.env.put (by grind[rY,yI]) v'),by simpa using hS.after (L2:=[]) rfl g2⟩
   ·cases h3
theorem fu1{w:World}{p:O->Option J}(hc:∀args w,(callFunc g args).run P w=.ok (.enter g args) w)(hn:∀{U:Ctx} {x y},C.sub U.S0 U.w0 x y->∀{q},p x=some q->Fn0 P g U [C.sv x y] sr q):Fu1 P (eQ w) C sr g [] p:=
 ⟨hc,λw1 _ x y hy q hq v hv=>by
  refine Calls.mono ((hn (U:=eQ w1) hy hq).run [v] (by simp[aW,hv]) (a2N w1)) λen w' ⟨v',h1,y,h2,h3⟩=>⟨v',h1,h2,h3⟩⟩
end
def roL:Nat->List (Nat×List SV)->List Ch
 |_,[]=>[]
 |k,(_,cs)::r=>.ro k cs::roL (k+1) r
def roS:List (Nat×List SV)->List Ch
 |[]=>[]
 |(n,cs)::r=>.ro n cs::roS r
def a56:Nat->List (Nat×List SV)->List SV
 |_,[]=>[]
 |k,_::r=>.p k 0::a56 (k+1) r
def T9(Bs:Bl):List Value:=Bs.map λb=>.pointer (some ⟨b.1,b.2,none⟩)
theorem rk{O:Type}[aL O]{w w1:World}{s:AC}{l:List O}(hk:eJ F0 w w1)(h:bB (eQ w) s l):bB (eQ w1) s l:=
 aL.rd_mono (aL.rd_agree h λb o hb=>hk.cell b o hb λh=>h) λb o hb=>O1 hb hk.size
theorem fk1{O J:Type}{iR:aL O}{C:GA O}{sr:J->SV}{g:FuncId}{w:World}{Bs:Bl}{cs:List (Nat×List SV)}{p:O->Option J}(hc:∀args w,(callFunc g args).run P w=.ok (.enter g args) w)(hB:∀w1,eJ F0 w w1->mM (eQ w1) w1 Bs (roL 0 cs))(hl:aW (fJ Bs) (a56 0 cs)=some (T9 Bs))(hz:∀q,AQ 0 (sr q)=true)(hn:∀{w1 x y},eJ F0 w w1->C.sub (All w1) w1 x y->∀{q},p x=some q->FnS P g (eQ w1) (C.sv x y::a56 0 cs) Bs (roL 0 cs) (λr (_:Unit)=>sr r) (λ_ _=>[]) q):Fu1 P (eQ w) C sr g (T9 Bs) p:=
 ⟨hc,λw1 hk x y hy q hq v hv=>by
  have hv':fJ Bs (C.sv x y)=some v:=by simpa using xN (B:=[]) Bs hv
  refine Calls.mono ((hn hk hy hq).run (v::T9 Bs) (by grind[aW]) (hB w1 hk)) λen w' ⟨v',h1,y',h2,h3⟩=>⟨v',h1,?_,?_⟩
  ·grind[aSC]
  ·simpa using aDW (m:=0) h3 rfl⟩
theorem a0Y:∀{cs:List (Nat×List SV)} {k:Nat} {x:Ch},x∈roL k cs->∃j n c,cs[j]?=some (n,c)/\x=.ro (k+j) c
 |(n,c)::r,k,x,h=>by
  rcases vJ.1 h with h|h
  ·simp_all
  ·obtain⟨j,n',c',h1,h2⟩:=a0Y h;exact⟨j+1,n',c',aj,aj⟩
theorem a0Z:∀{cs:List (Nat×List SV)} {n:Nat} {c:List SV},(n,c)∈cs->Ch.ro n c∈roS cs
 |(n',c')::r,n,c,h=>by
  rcases vJ.1 h with h|h
  ·cases h;exact List.mem_cons_self ..
  ·exact BS _ (a0Z h)
theorem a57{B:Bl}{cs:List (Nat×List SV)}{cap:List Value}:aW (X6 B) (cs.map (·.1))=some cap->∃Bs:Bl,cap=T9 Bs/\Bs.length=cs.length/\∀(j:Nat) n c,cs[j]?=some (n,c)->∃b,Bs[j]?=some b/\B[n]?=some b:=by
 induction cs generalizing cap with
 |nil=>intro h;cases h;exact⟨[],rfl,rfl,ae⟩
 |cons p r ih=>
  obtain⟨n,c⟩:=p;intro h;simp only[aBJ,aW] at h;split at h
  ·cases h
  ·rename_i v hv;split at h
   ·cases h
   ·rename_i vs hvs;cases h;obtain⟨Bs,h1,h2,h3⟩:=ih hvs;simp only[X6] at hv;split at hv
    ·rename_i b z hb;cases hv;refine⟨(b,z)::Bs,by simp[T9,h1],by simp[h2],λj n' c' hj=>?_⟩;grind
    ·cases hv
def aVW:List (Nat×List SV)->Bool
 |[]=>true
 |(_,c)::r=>AQ.okC 0 c && aVW r
theorem aVX:∀{cs:List (Nat×List SV)} {j n:Nat} {c:List SV},aVW cs=true->cs[j]?=some (n,c)->AQ.okC 0 c=true
 |(n',c')::r,0,n,c,h,hj=>by simp_all[aVW]
 |(n',c')::r,j + 1,n,c,h,hj=>by simp only[aVW,FX] at h;exact aVX h.2 (by simpa using hj)
theorem bD2{w:World}{B Bs:Bl}{cs:List (Nat×List SV)}(hS:mM c w B L)(hk:∀x∈roS cs,x∈L)(ho:aVW cs=true)(hB:∀(j:Nat) n c,cs[j]?=some (n,c)->∃b,Bs[j]?=some b/\B[n]?=some b):∀w1,eJ F0 w w1->mM (eQ w1) w1 Bs (roL 0 cs):=by
 intro w1 hkp;have facts:∀x∈roL 0 cs,∃(f:Fact),f.P (All w1) w1/\(∀R,f∈R->roF Bs R x)/\kL Bs x=NH:=by intro x hx;obtain⟨j,n,cc,h1,h2⟩:=a0Y hx;subst h2;obtain⟨⟨R,s1,s2⟩,s0⟩:=hS;obtain⟨b,z,vs,g1,g2,g3⟩:=s2 _ (hk _ (a0Z (K9 h1)));obtain⟨b',q1,q2⟩:=hB j n cc h1;rw[g1] at q2;cases q2;have hc0:=DL (aVX ho h1) g2;rw[List.take_zero] at hc0;obtain⟨i,hi⟩:=aHR g3;refine⟨fAt b z vs,bB0 (s1.fact i hi) hkp,λR hR=>⟨b,z,vs,by simpa using q1,eY (λx v h=>by simpa using gD (B:=[]) Bs h) hc0,hR⟩,rfl⟩
 have build:∀M:List Ch,(∀x∈M,x∈roL 0 cs)->∃R:List Fact,(∀f∈R,f.P (All w1) w1)/\(∀x∈M,roF Bs R x)/\M.map (kL Bs)=List.replicate M.length NH:=by
  intro M;induction M with
  |nil=>exact λ_=>⟨[],ae,ae,rfl⟩
  |cons x M ih=>
   intro hM;obtain⟨R,h1,h2,h3⟩:=ih λy hy=>hM y (BS _ hy);obtain⟨f,f1,f2,f3⟩:=facts x (hM x ae);refine⟨f::R,λg hg=>?_,λy hy=>?_,by simp[f3,h3,List.replicate_succ]⟩
   ·rcases vJ.1 hg with hg|hg
    ·subst hg;exact f1
    ·exact h1 g hg
   ·rcases vJ.1 hy with hy|hy
    ·subst hy;exact f2 _ ae
    ·exact aDU (λg hg=>BS _ hg) (h2 y hy)
 obtain⟨R,h1,h2,h3⟩:=build (roL 0 cs) λ_ h=>h;refine⟨⟨R,?_,h2⟩,λ_ _ h=>h⟩;rw[h3];have h4:St (eQ w1) w1 [] R:=St.enter h1;generalize (roL 0 cs).length=k;clear h3;induction k with
 |zero=>exact h4
 |succ k ih=>
  rw[List.replicate_succ'];exact St.more (ch:=NH) ih (eJ.refl _ _) ⟨F0,λ_ _ h=>h,λ_ _ h=>h.elim⟩
def shr(ns:List Nat):List Ch->List Ch
 |[]=>[]
 |.box n cs::L=>match fX n ns with
  |true=>.box n cs::shr ns L
  |false=>.ro n cs::shr ns L
 |x::L=>x::shr ns L
theorem St.bD3{w:World}{M:List Chunk}{R:List Fact}{b z i:Nat}{vs:List Value}(h:St c w M R)(hi:M[i]?=some (YG b z vs)):St c w (M.set i NH) (R++[fAt b z vs]):=by
 have h1:=h.take i hi;obtain⟨F,S,⟨F1,F2,h1,h2,hd,hF⟩,a2,a3,a4,a5,a6⟩:=h1.sep;have hlt:∀b' o,F1 b' o->b'<w.heap.size:=λ_ _ hf=>Chunk.lt (YG b z vs) h1 hf;obtain⟨g1,g2,g3⟩:=h1;refine⟨h.keep,⟨F2,λb o=>S b o\/F1 b o,h2,?_,λb o hf=>a3 b o ((hF b o).2 (.inr hf)),?_,?_,?_⟩,h.apart⟩
 ·rintro b o hf (hs|hs)
  ·exact a2 b o ((hF b o).2 (.inr hf)) hs
  ·exact hd b o hs hf
 ·grind
 ·grind
 ·intro f hf;rcases iO.1 hf with hf|hf
  ·exact f.mono (a6 f hf) λb o hs=>.inl hs
  ·simp at hf;subst hf;exact⟨g1,λo ho=>.inr ((g3 b o).2 ho)⟩
theorem aTI{w:World}{B:Bl}(ns:List Nat):∀(M L:List Ch),mM c w B (M++L)->mM c w B (M++shr ns L)
 |M,[],h=>h
 |M,x::L,h=>by
  have gen:mM c w B (M++x::shr ns L):=by have:=aTI ns (M++[x]) L (by simpa using h);grind
  cases x with
  |box n cs=>
   simp only[shr];split
   ·exact gen
   ·obtain⟨⟨R,s1,s2⟩,s0⟩:=gen;have hi:((M++Ch.box n cs::shr ns L).map (kL B))[M.length]?=some (VE B n cs):=by simp[kL]
    obtain⟨F,b,z,vs,h3,h4,h5⟩:=s1.chunk (ch:=VE B n cs) M.length hi;have s3:=s1.imp (jI.put M.length hi λF ⟨b',z',vs',q1,q2,q3⟩=>by
     rw[h3] at q1;cases q1;rw[h4] at q2;cases q2;exact q3)
    have s4:=s3.bD3 (b:=b) (z:=z) (vs:=vs) (i:=M.length) (by rw[List.getElem?_set_self];simp);refine⟨⟨R++[fAt b z vs],?_,λx hx=>?_⟩,s0⟩
    ·have:((M++Ch.ro n cs::shr ns L).map (kL B))=(((M++Ch.box n cs::shr ns L).map (kL B)).set M.length (YG b z vs)).set M.length NH:=by simp[kL]
     grind
    ·rcases iO.1 hx with hx|hx
     ·exact aDU (λf hf=>List.mem_append_left _ hf) (s2 x (List.mem_append_left _ hx))
     ·rcases vJ.1 hx with hx|hx
      ·subst hx;exact⟨b,z,vs,h3,h4,ae⟩
      ·exact aDU (λf hf=>List.mem_append_left _ hf) (s2 x (List.mem_append_right _ (BS _ hx)))
  |_=>exact gen
theorem mf{f:FuncId}{caps:Array Operand}{ops:Array Oper}{l:List Oper}(ns:List Nat)(hs:i4 T n K cf m e L=.op o Lv (.r ops l) cf2 K' m' e' L')(ho:(o.op,o.dst)=(.makeFunc (.func f) #[] caps,some d))(hx:aW (iL e') caps.toList=some (ns.map λn=>.p n 0))
  (k:G (.mk P T hT n c B0 N X Q) K' m' ((d,.f f ns)::e') (shr ns L') cf2):G (.mk P T hT n c B0 N X Q) K m e L cf:=by
 refine gW (g:=.mk P T hT n c B0 N X Q) ?_;rw[hs];intro hdn _ hE;refine hE Unit (λ_=>m') (λ_=>(d,.f f ns)::e') (λ_=>shr ns L') (λ_=>trivial) (λB a w next Q' hm hA hS hnext=>?_) (λ_=>k);obtain⟨vs,h1,h2⟩:=aBN hA hx;have hd:o.dst=some d:=dA Prod.snd ho;have h3:∀{ns:List Nat} {vs:List Value},aW (fJ (B0S (.mk P T hT n c B0 N X Q) (.r ops l)++B)) (ns.map λn=>SV.p n 0)=some vs->aW (X6 (B0S (.mk P T hT n c B0 N X Q) (.r ops l)++B)) ns=some vs:=by
  intro ns;induction ns with
  |nil=>intro vs h;exact h
  |cons jj ns ih=>
   grind[aW,X6,fJ,gV,bU]
 have h5:∀{os:List Operand} {vs:List Value},evs (vE (B0S (.mk P T hT n c B0 N X Q) (.r ops l)++B) e') os=some vs->os.map (ev (vE (B0S (.mk P T hT n c B0 N X Q) (.r ops l)++B) e'))=vs.map some:=by
  intro os;induction os with
  |nil=>intro vs h;cases h;rfl
  |cons o os ih=>
   grind[evs]
 have h6:=a9K (P:=P) (w:=w) (vf:=[]) (vc:=vs) (dA Prod.fst ho) rfl (h5 h2);unfold Oper.wp;rw[h6 _ a hA.env,Oper.upon_value,hd];rw[hd] at hdn;have h7:fJ (B0S (.mk P T hT n c B0 N X Q) (.r ops l)++B) (.f f ns)=some (.func (.func f) #[] vs.toArray):=by grind[fJ]
 exact hnext () _ _ ⟨[],aj,by simpa using hA.of h7 (hA.env.put (by grind[rY,yI]) _),by simpa using aTI ns [] L' hS⟩
theorem clc{O J:Type}{fo:Option O}{kf:O->Option J}{q:J}{f g:FuncId}{xs xs0:List SV}{sv:O->SV}(is:List Nat)(cs:List (Nat×List SV))(hs:i4 T n K cf m e L=.callp o (some d) f xs cf1 cf2 K' m' e' L')(hk:kl L' is=roS cs)(ho:(aVW cs && okA xs.dropLast)=true)(hx:xs=xs.dropLast++[.f g (cs.map (·.1))])
  (hc:∀{w},HS c w L'->∀{Bs:Bl},Bs.length=cs.length->(∀w1,eJ F0 w w1->mM (eQ w1) w1 Bs (roL 0 cs))->∀{x},fo=some x->Fn0 P f (eQ w) (xs.dropLast++[.k (.func (.func g) #[] (T9 Bs).toArray)]) sv x) (hF:fo.bind kf=some q)
  (k:∀x,fo=some x->kf x=some q->G (.mk P T hT n c B0 N X Q) K' m' ((d,sv x)::e') L' cf2):G (.mk P T hT n c B0 N X Q) K m e L cf:=by
 refine gW (g:=.mk P T hT n c B0 N X Q) ?_;rw[hs];intro fo' args ats ho' hd hf ⟨ys,hys,hxs⟩ hdn hE;rw[FX] at ho;cases hfo:fo with
 |none=>grind
 |some x=>
  rw[hfo] at hF;refine hE Unit (λ_=>m') (λ_=>(d,sv x)::e') (λ_=>L') (λ_=>by simpa using rL (L:=L') []) (λB a w next Q' hm hA hS hnext=>?_) (λ_=>k x hfo hF);obtain⟨vs,h1,h2⟩:=aBN hA hys;obtain⟨v,h3,h4⟩:=eH hA hf;simp[fJ,aW] at h3;subst h3;rw[<-QU,hxs] at h1;rw[hx] at h1;have split:∀{az:List SV} {b:SV} {vs:List Value} {B:Bl},aW (fJ B) (az++[b])=some vs->∃us v,aW (fJ B) az=some us/\fJ B b=some v/\vs=us++[v]:=by
   intro az;induction az with
   |nil=>
    grind[aW]
   |cons a az ih=>
    intro b vs B h;simp only[aBH,aW] at h;grind[aW]
  obtain⟨us,fv,g1,g2,rfl⟩:=split h1;simp only[fJ] at g2;split at g2
  ·rename_i cap hcap;cases g2;obtain⟨Bs,b1,b2,b3⟩:=a57 hcap;subst b1;have hmem:∀x∈roS cs,x∈L':=λx hx=>aMB (is:=is) aj;obtain⟨hcall,hrun⟩:=hc ⟨_,hS⟩ b2 (bD2 hS hmem ho.1 b3) hfo;have join:∀{az:List SV} {us:List Value} {b:SV} {v:Value},aW (fJ []) az=some us->fJ [] b=some v->aW (fJ []) (az++[b])=some (us++[v]):=by
    intro az;induction az with
    |nil=>grind[aW]
    |cons a az ih=>
     intro us b v h hb;simp only[aW] at h;split at h
     ·cases h
     ·rename_i u hu;split at h
      ·cases h
      ·rename_i us' hus;cases h;simp[aW,hu,ih hus hb]
   have h5:=hrun (us++[.func (.func g) #[] (T9 Bs).toArray]) (join (aD0 ho.2 g1) (by simp[fJ,gV,bU,Value.oneCell'])) (a2N w);have h6:=T8 (w:=w) hcall ho' h4 h2;unfold Oper.wp;rw[h6 _ a hA.env,Oper.upon_enter];refine Calls.mono h5 λen w' ⟨v,hv,y,e1,e2⟩=>?_;subst hv;rw[hd];have g3:=xN (B0S (.mk P T hT n c B0 N X Q) cf1++B) e1;exact hnext () _ _ ⟨[],aj,by simpa using hA.of aj (hA.env.put (by grind[rY,yI]) v),by simpa using hS.after (L2:=[]) rfl e2⟩
  ·cases g2
theorem HS.u1{O J:Type}{iR:aL O}{C:GA O}{sr:J->SV}{g:FuncId}{cap:List Value}{w:World}{p:O->Option J}(h:HS c w L)(H:Fu1 P c C sr g cap p):Fu1 P (eQ w) C sr g cap p:=by obtain⟨B,hS⟩:=h.ex;exact⟨H.1,λw1 hk=>H.2 w1 (hS.a54.trans hk λ_ _ _ h=>h.elim)⟩
theorem HS.u2{O α' J:Type}{iR:aL O}{iR':aL α'}{C:GA O}{C':GA α'}{sr:J->SV}{g:FuncId}{cap:List Value}{w:World}{p:O->α'->Option J}(h:HS c w L)(H:Fu2 P c C C' sr g cap p):Fu2 P (eQ w) C C' sr g cap p:=by obtain⟨B,hS⟩:=h.ex;exact⟨H.1,λw1 hk=>H.2 w1 (hS.a54.trans hk λ_ _ _ h=>h.elim)⟩
theorem bH5{O J:Type}{fo:Option O}{kf:O->Option J}{q:J}{f g:FuncId}{xs:List SV}{sv:O->SV}{n1:Nat}{c1:List SV}(is:List Nat)(hs:i4 T n K cf m e L=.callp o (some d) f xs cf1 cf2 K' m' e' L')(hk:kl L' is=[.ro n1 c1])(ho:(aVW [(n1,c1)] && okA xs.dropLast)=true)(hx:xs=xs.dropLast++[.f g [n1]])
  (hc:∀{w},HS c w L'->∀{b1:Nat×Nat},(∀w1,eJ F0 w w1->mM (eQ w1) w1 [b1] [.ro 0 c1])->∀{x},fo=some x->Fn0 P f (eQ w) (xs.dropLast++[.k (.func (.func g) #[] (T9 [b1]).toArray)]) sv x) (hF:fo.bind kf=some q)
  (k:∀x,fo=some x->kf x=some q->G (.mk P T hT n c B0 N X Q) K' m' ((d,sv x)::e') L' cf2):G (.mk P T hT n c B0 N X Q) K m e L cf:=
 clc (xs0:=[]) is [(n1,c1)] hs hk ho hx (λh Bs hl hB=>match Bs,hl,hB with|[_],_,hB=>hc h hB) hF k
end
section
variable {P:Program} {T:TT} {hT:FY P T} {n:Nat} {c:Ctx} {B0:Bl} {N:Act->World->Prop} {X:Nat->Act->World->Prop} {Q:Act->World->Prop} {K K':List Fr} {m m':Nat} {e e':SE} {L L':List Ch} {cf cf1 cf2:uB} {o:Oper} {Lv:List Ch} {d:Nat}
variable {x y z:Operand} {t t2:TypeId} {k k2:IntKind} {i j:Int} {O J:Type} {A:Option J} {q:J}
theorem bD4(hs:opS (i4 T n K cf m e L)=some (o,Lv,cf1,cf2,K',m',e',L'))(ho:(o.op,o.dst)=(.call {callee:=.builtin .min,args:=#[x,y],argTypes:=#[t,t2]},some d))(hx:(iL e' x).bind rX=some (.i64,i))(hy:(iL e' y).bind rX=some (k,j))
  (kk:G (.mk P T hT n c B0 N X Q) K' m' ((d,.i .i64 (if j<i then j else i))::e') L' cf2):G (.mk P T hT n c B0 N X Q) K m e L cf:=
 pu hs (dA Prod.snd ho) (λB a w hA _=>⟨_,rfl,bDH (dA Prod.fst ho) (yF hA hx) (yF hA hy)⟩) kk
theorem bD5(hs:opS (i4 T n K cf m e L)=some (o,Lv,cf1,cf2,K',m',e',L'))(ho:(o.op,o.dst)=(.call {callee:=.builtin .max,args:=#[x,y],argTypes:=#[t,t2]},some d))(hx:(iL e' x).bind rX=some (.i64,i))(hy:(iL e' y).bind rX=some (k,j))
  (kk:G (.mk P T hT n c B0 N X Q) K' m' ((d,.i .i64 (if i<j then j else i))::e') L' cf2):G (.mk P T hT n c B0 N X Q) K m e L cf:=
 pu hs (dA Prod.snd ho) (λB a w hA _=>⟨_,rfl,bDI (dA Prod.fst ho) (yF hA hx) (yF hA hy)⟩) kk
section
variable {l:List UInt8} {b1:Bool} {n1:Nat} {z1:List SV}
theorem bGI(ht:AU T t=some ⟨.s,b1,n1,z1⟩)(hT:FY P T):P.underlying t=some .string:=by obtain⟨dd,hd1,hd2⟩:=hT.und _ _ ht;grind
theorem qsi{kf:UInt8->Option J}(hs:opS (i4 T n K cf m e L)=some (o,Lv,cf1,cf2,K',m',e',L'))(ho:(o.op,o.dst)=(.index t x y,some d))(ht:AU T t=some ⟨.s,b1,n1,z1⟩)(hx:iL e' x=some (.s l))(hy:(iL e' y).bind rX=some (k,i))(hF:(idx l i).bind kf=some q)
  (kk:∀u,idx l i=some u->kf u=some q->G (.mk P T hT n c B0 N X Q) K' m' ((d,.y u)::e') L' cf2):G (.mk P T hT n c B0 N X Q) K m e L cf:=by
 cases hi:idx l i with
 |none=>grind
 |some u=>
  rw[hi] at hF;exact pu hs (dA Prod.snd ho) (λB a w hA _=>⟨_,rfl,a9U (bGI ht hT) hi (dA Prod.fst ho) (bD1 hA hx) (yF hA hy)⟩) (kk u hi hF)
end
section
variable [aL O] {s:AC} {l:List O} {el:TypeId} {b1 b2:Bool} {n1 sz:Nat} {z1 z2:List SV} {kt:TK}
theorem hdB{B:Bl}{a:Act}(hA:gU n B e a){ln:Nat}(h:iL e x=some (.h s ln)):ev (vE B e) x=some (s.v ln):=by obtain⟨v,h1,h2⟩:=eH hA h;cases h1;exact h2
theorem I1(ht:AU T t=some ⟨.sl el,b1,n1,z1⟩)(hT:FY P T):P.underlying t=some (.slice el):=by obtain⟨dd,hd1,hd2⟩:=hT.und _ _ ht;grind
theorem qsb{a b:Nat}(h1:bB c s l)(hb:a<=b/\b<=l.length)(hs:opS (i4 T n K cf m e L)=some (o,Lv,cf1,cf2,K',m',e',L'))(hd:o.dst=some d)(hr:∀B act w,gU n B e' act->aL.rd c.S0 w [s.v l.length] l->fE P o (vE B e') w (iU (aL.n O) a b (s.v l.length)) w)
  (kk:∀s',bB c s' ((l.take b).drop a)->G (.mk P T hT n c B0 N X Q) K' m' ((d,.h s' ((l.take b).drop a).length)::e') L' cf2):G (.mk P T hT n c B0 N X Q) K m e L cf:=by
 have h2:=aX5 (n:=aL.n O) (a:=a) (b:=b) rfl h1 hb.1 hb.2;obtain⟨ad,cp,e1,_⟩:=aL3 h2;rw[e1] at h2;exact pu hs hd (λB act w hA hS=>⟨_,by grind[fJ,gV,bU],hr B act w hA (aTH hS (f:=fRd [s.v l.length] l) h1)⟩) (kk ⟨ad,cp⟩ h2)
theorem aYH(hs:opS (i4 T n K cf m e L)=some (o,Lv,cf1,cf2,K',m',e',L'))(ho:(o.op,o.dst)=(.slice t x (some y) (some z) none,some d))(ht:AU T t=some ⟨.sl el,b1,n1,z1⟩)(he:AU T el=some ⟨kt,b2,sz,z2⟩)(hn:aL.n O=sz)(h1:bB c s l)(hx:iL e' x=some (.h s l.length))(hy:(iL e' y).bind rX=some (k,i))(hz:(iL e' z).bind rX=some (k2,j))(hF:need (0<=i/\i<=j/\j<=(l.length:Int)) A=some q)
  (kk:A=some q->∀s',bB c s' ((l.take j.toNat).drop i.toNat)->G (.mk P T hT n c B0 N X Q) K' m' ((d,.h s' ((l.take j.toNat).drop i.toNat).length)::e') L' cf2):G (.mk P T hT n c B0 N X Q) K m e L cf:=by
 have hb:=(lY hF).1;subst hn;exact qsb h1 aa hs (dA Prod.snd ho) (λB act w hA h=>a2F h rfl (I1 ht hT) (hT.size _ _ he) hb (dA Prod.fst ho) (hdB hA hx) (yF hA hy) (yF hA hz)) (kk (lY hF).2)
theorem a58(hs:opS (i4 T n K cf m e L)=some (o,Lv,cf1,cf2,K',m',e',L'))(ho:(o.op,o.dst)=(.slice t x none (some z) none,some d))(ht:AU T t=some ⟨.sl el,b1,n1,z1⟩)(he:AU T el=some ⟨kt,b2,sz,z2⟩)(hn:aL.n O=sz)(h1:bB c s l)(hx:iL e' x=some (.h s l.length))(hz:(iL e' z).bind rX=some (k2,j))(hF:need (0<=j/\j<=(l.length:Int)) A=some q)
  (kk:A=some q->∀s',bB c s' ((l.take j.toNat).drop 0)->G (.mk P T hT n c B0 N X Q) K' m' ((d,.h s' ((l.take j.toNat).drop 0).length)::e') L' cf2):G (.mk P T hT n c B0 N X Q) K m e L cf:=by
 have hb:=(lY hF).1;subst hn;exact qsb h1 aa hs (dA Prod.snd ho) (λB act w hA h=>a43 h rfl (I1 ht hT) (hT.size _ _ he) hb (dA Prod.fst ho) (hdB hA hx) (yF hA hz)) (kk (lY hF).2)
end
section
variable {zv:Value} {n1 m1:Nat} {el:TypeId}
theorem a59{B:Bl}{xs:List SV}{vs:List Value}(h:aW (fJ []) xs=some vs):aW (fJ B) xs=some vs:=eY (λx v h=>by simpa using xN (B:=[]) B h) h
theorem qba{ps:Array (Nat×Operand)}{xs:List SV}{vs cells:List Value}(cs:List SV)(hz:∀w,(zeroValue t).run P w=.ok zv w)(hu:P.underlying t=some (.array n1 el))(hp:∀w,(sizeOf el).run P w=.ok m1 w)(hs:opS (i4 T n K cf m e L)=some (o,Lv,cf1,cf2,K',m',e',L'))(ho:(o.op,o.dst)=(.build t ps,some d))(hv:aW (iL e') (ps.toList.map (·.2))=some xs)(hvs:aW (fJ []) xs=some vs)(hcs:aW (bU []) cs=some cells)(hc:Instr.fill (λi=>some (i*m1,m1)) zv.cells ((ps.toList.map (·.1)).zip vs)=some cells.toArray)
  (kk:G (.mk P T hT n c B0 N X Q) K' m' ((d,.g cs)::e') L' cf2):G (.mk P T hT n c B0 N X Q) K m e L cf:=
 pu hs (dA Prod.snd ho) (λB a w hA _=>⟨.agg cells.toArray,by
  simp only[fJ,gV];rw[eY (g:=bU B) (λx v h=>by simpa using gD (B:=[]) B h) hcs],by
  obtain⟨us,h1,h2⟩:=aBN hA hv;rw[a59 hvs] at h1;cases h1;exact a2G (ps:=ps.toList) (by simp_all) hz hu hp h2 hc⟩) kk
theorem qai{γ:Type}(f:γ->Value)(g:γ->SV){l:List γ}{cs:List SV}{kf:γ->Option J}(hu:P.underlying t=some (.array n1 el))(hz:∀w,(sizeOf el).run P w=.ok 1 w)(hg:∀w,(isAgg el).run P w=.ok false w)(hgf:∀u,fJ [] (g u)=some (f u))(hs:opS (i4 T n K cf m e L)=some (o,Lv,cf1,cf2,K',m',e',L'))(ho:(o.op,o.dst)=(.index t x y,some d))(hx:iL e' x=some (.g cs))(hcs:aW (bU []) cs=some (l.map f))(hn:l.length=n1)(hy:(iL e' y).bind rX=some (k,i))(hF:(idx l i).bind kf=some q)
  (kk:∀u,idx l i=some u->kf u=some q->G (.mk P T hT n c B0 N X Q) K' m' ((d,g u)::e') L' cf2):G (.mk P T hT n c B0 N X Q) K m e L cf:=by
 cases hi:idx l i with
 |none=>grind
 |some u=>
  rw[hi] at hF;refine pu hs (dA Prod.snd ho) (λB a w hA _=>⟨f u,by simpa using xN (B:=[]) B (hgf u),?_⟩) (kk u hi hF);obtain⟨v,h1,h2⟩:=eH hA hx;simp only[fJ,gV] at h1;rw[eY (g:=bU B) (λx v h=>by simpa using gD (B:=[]) B h) hcs] at h1;cases h1;exact bDK f hu hz hg hi hn rfl (dA Prod.fst ho) h2 (yF hA hy)
end
end
section
variable {P:Program} {T:TT} {hT:FY P T} {n:Nat} {c:Ctx} {B0:Bl} {N:Act->World->Prop} {X:Nat->Act->World->Prop} {Q:Act->World->Prop} {K K':List Fr} {m m':Nat} {e e':SE} {L L':List Ch} {cf cf1 cf2:uB} {o:Oper} {Lv:List Ch} {d:Nat}
theorem chg{g:Gx}{ι:Type}(m2:ι->Nat)(e2:ι->SE)(L2:ι->List Ch)(h:∀B a w,B.length=m->gU g.n B e a->mM g.c w B L->∃i B',(B++B').length=m2 i/\gU g.n (B++B') (e2 i) a/\mM g.c w (B++B') (L2 i))
  (hz:∀i,Frz g cf L (L2 i)) (k:∀i,G g K (m2 i) (e2 i) (L2 i) cf):G g K m e L cf:=by
 have key:∀a w,Rel g m e L a w->∃i,Rel g (m2 i) (e2 i) (L2 i) a w:=λa w ⟨B,h1,h2,h3⟩=>by obtain⟨i,B',k1,k2,k3⟩:=h _ a w h1 h2 h3;exact⟨i,B++B',aj,aj,aj⟩
 cases cf with
 |n=>exact λa w hr=>let ⟨i,hi⟩:=key a w hr;k i a w hi
 |c x=>exact λa w hr=>let ⟨i,hi⟩:=key a w hr;k i a w hi
 |r ops l=>exact λa w hr=>let ⟨i,hi⟩:=key a w hr;k i a w hi
 |d B1 ops l is Lf Lv=>
  refine λhD a w ⟨B,h1,h2,h3,h4⟩=>?_;obtain⟨i,B',k1,k2,k3⟩:=h _ a w h1 h2 h3;obtain⟨z1,z2⟩:=hz i hD;exact k i ⟨hD.pre,hD.len,hD.free,z1,z2,hD.okf,hD.ap⟩ a w ⟨B++B',aj,aj,aj,λw' hw=>by
   have:=(h4 w' hw).app B';grind⟩
 |o B1 ops l is Lf Lv ii=>
  refine λhD a w ⟨B,h1,h2,h3,h4⟩=>?_;obtain⟨i,B',k1,k2,k3⟩:=h _ a w h1 h2 h3;obtain⟨z1,z2⟩:=hz i hD;exact k i ⟨hD.pre,hD.len,hD.free,z1,z2,hD.okf,hD.ap⟩ a w ⟨B++B',aj,aj,aj,λw' hw=>by
   have:=(h4 w' hw).app B';grind⟩
theorem mks{O J:Type}[aL O]{x y:Operand}{t el sz:Nat}{i:Int}{zv:Value}{b1:Bool}{n1:Nat}{z1:List SV}{A:Option J}{q:J}(zd:O)(hinf:YH P el sz zv)(hzd:∀w,aL.own w zv.cells.toList zd F0)(q0_:i4 T n K cf m e L=.op o Lv cf1 cf2 K' m' e' L'/\(o.op,o.dst)=(.makeSlice t x y,some d)/\AU T t=some ⟨.sl el,b1,n1,z1⟩/\aL.n O=sz/\zv.cells.size=sz/\(iL e' x).bind rX=some (.i64,i)/\(iL e' y).bind rX=some (.i64,i))(hF:need (0<=i/\i<=4294967296) A=some q)
  (k:A=some q->∀s':AC,G (.mk P T hT n c B0 N X Q) K' m' ((d,.h s' (List.replicate i.toNat zd).length)::e') (L'++[ow s' (List.replicate i.toNat zd)]) cf2):G (.mk P T hT n c B0 N X Q) K m e L cf:=by
 obtain⟨hs,ho,ht,hn,hzs,hx,hy⟩:=q0_;refine gW (g:=.mk P T hT n c B0 N X Q) ?_;rw[hs];intro hdn _ hE;refine hE AC (λ_=>m') (λs'=>(d,.h s' (List.replicate i.toNat zd).length)::e') (λs'=>L'++[ow s' (List.replicate i.toNat zd)]) (λ_=>rL _) (λB a w next Q' hm hA hS hnext=>?_) (k (lY hF).2);obtain⟨⟨R,s1,s2⟩,s0⟩:=hS;have hd:o.dst=some d:=dA Prod.snd ho;obtain⟨v,w',k1,k2⟩:=a4Z zd s1 hn (I1 ht hT) hinf hzs hzd (lY hF).1 (dA Prod.fst ho) (yF hA hx) (yF hA hy);have hrd:∃s':AC,v=s'.v (List.replicate i.toNat zd).length:=by have h1:=k2.aZ8 (cs:=[v]) (d:=List.replicate i.toNat zd) (L'.map (kL (B0S (.mk P T hT n c B0 N X Q) cf1++B))).length ae;obtain⟨ad,cp,h2,_⟩:=aL3 h1;exact⟨⟨ad,cp⟩,h2⟩
 obtain⟨s',rfl⟩:=hrd;unfold Oper.wp;rw[k1 _ a hA.env,Oper.upon_value,hd];refine hnext s' _ _ ⟨[],aj,by simpa using hA.of (by simp[fJ,gV,bU]) (hA.env.put (by grind[rY,yI]) _),⟨⟨R,by grind[kL],λx hx=>?_⟩,λb o hb=>O1 (s0 b o hb) (kY _)⟩⟩;rcases iO.1 hx with hx|hx
 ·grind
 ·simp at hx;subst hx;exact trivial
end
def uB.AR:uB->List Nat
 |.d _ _ _ is _ _=>is
 |.o _ _ _ is _ _ _=>is
 |_=>[]
theorem aAF{L M:List Ch}{j:Nat}{z:Ch}:∀{is:List Nat},(∀i∈is,i<L.length)->fX j is=true->kl (L.set j z++M) is=kl L is
 |[],_,_=>rfl
 |i::is,h,hn=>by
  have hi:=h i ae;have h1:=aMF hn;have hne:j≠i:=λhe=>h1 (by simp[he]);have h2:(L.set j z++M)[i]?=L[i]?:=aj
  have h3:fX j is=true:=by grind[fX]
  simp only[kl,h2,aAF (λi hi=>h i (BS _ hi)) h3]
theorem a00{L M:List Ch}:∀{is:List Nat},(∀i∈is,i<L.length)->kl (L++M) is=kl L is
 |[],_=>rfl
 |i::is,h=>by simp only[kl,List.getElem?_append_left (h i ae),a00 (M:=M) (λi hi=>h i (BS _ hi))]
theorem aTJ{g:Gx}{cf:uB}{L M:List Ch}{j:Nat}{z:Ch}(hn:fX j cf.AR=true):Frz g cf L (L.set j z++M):=by
 cases cf with
 |d B1 ops l is Lf Lv=>
  exact λhD=>⟨(aAF hD.rng hn).trans hD.AR,λi hi=>by have:=hD.rng i hi;simp;omega⟩
 |o B1 ops l is Lf Lv i=>
  exact λhD=>⟨(aAF hD.rng hn).trans hD.AR,λi hi=>by have:=hD.rng i hi;simp;omega⟩
 |_=>trivial
theorem aVY{c:Ctx}{w:World}{A:List Chunk}{R:List Fact}(h:St c w A R):St c w (A++[NH]) R:=by obtain⟨F,S,h1,rest⟩:=h.sep;exact⟨h.keep,⟨F,S,Sep.append.2 ⟨F,F0,h1,Sep.one.2 (λ_ _ h=>h),λ_ _ _ h=>h,λb o=>by simp[F0]⟩,rest⟩,h.apart⟩
structure CO (O:Type) [aL O] where
 ex:Type
 cs:O->ex->List SV
 Lx:O->ex->List Ch
 op:∀{w F ec q},aL.own w ec q F->∃y,aW (bU []) (cs q y)=some ec
 pk:∀{q y ec},aW (bU []) (cs q y)=some ec->OP ec q ((Lx q y).map (kL []))
 no:∀q y,noF (Lx q y)=true
 nb:∀q y B,(Lx q y).map (kL B)=(Lx q y).map (kL [])
section
variable {P:Program} {T:TT} {hT:FY P T} {n:Nat} {c:Ctx} {B0:Bl} {N:Act->World->Prop} {X:Nat->Act->World->Prop} {Q:Act->World->Prop} {K K':List Fr} {m m':Nat} {e e':SE} {L L':List Ch} {cf cf1 cf2:uB} {o:Oper} {Lv:List Ch} {d:Nat}
theorem bH7{g:Gx}{ι:Type}(m2:ι->Nat)(e2:ι->SE)(L2:ι->List Ch)(Ln:ι->List Ch)(h:∀B a w,B.length=m->gU g.n B e a->mM g.c w B L->∃i B',(B++B').length=m2 i/\gU g.n (B++B') (e2 i) a/\mM g.c w (B++B') (L2 i)/\∀w' M,mM g.c w' B M->mM g.c w' (B++B') (M++Ln i))
  (hz:∀i,Frz g cf L (L2 i)) (k:∀i,G g K (m2 i) (e2 i) (L2 i) (cf.ext (Ln i))):G g K m e L cf:=by
 have key:∀a w,Rel g m e L a w->∃i,Rel g (m2 i) (e2 i) (L2 i) a w:=λa w ⟨B,h1,h2,h3⟩=>by obtain⟨i,B',k1,k2,k3,_⟩:=h _ a w h1 h2 h3;exact⟨i,B++B',aj,aj,aj⟩
 cases cf with
 |n=>exact λa w hr=>let ⟨i,hi⟩:=key a w hr;k i a w hi
 |c x=>exact λa w hr=>let ⟨i,hi⟩:=key a w hr;k i a w hi
 |r ops l=>exact λa w hr=>let ⟨i,hi⟩:=key a w hr;k i a w hi
 |d B1 ops l is Lf Lv=>
  refine λhD a w ⟨B,h1,h2,h3,h4⟩=>?_;obtain⟨i,B',k1,k2,k3,k4⟩:=h _ a w h1 h2 h3;obtain⟨z1,z2⟩:=hz i hD;exact k i ⟨hD.pre,hD.len,hD.free,z1,z2,hD.okf,hD.ap⟩ a w ⟨B++B',aj,aj,aj,λw' hw=>by
   grind⟩
 |o B1 ops l is Lf Lv ii=>
  refine λhD a w ⟨B,h1,h2,h3,h4⟩=>?_;obtain⟨i,B',k1,k2,k3,k4⟩:=h _ a w h1 h2 h3;obtain⟨z1,z2⟩:=hz i hD;exact k i ⟨hD.pre,hD.len,hD.free,z1,z2,hD.okf,hD.ap⟩ a w ⟨B++B',aj,aj,aj,λw' hw=>by
   grind⟩
abbrev Shp(s:AC)(len:Nat):Prop:=∃b off m,s.v len=.slice (some ⟨b,off,none⟩) len m/\len<=maxLen
abbrev wOf(O:Type)[aL O](nb:Nat)(s:AC)(len i:Nat):Ch:=.w nb (X5 (s.v len)) (WT (aL.n O) i (s.v len))
theorem oe{O J:Type}[aL O](E:CO O)(j:Nat){t:TypeId}{s:AC}{i:Int}{ls:List O}{kf:O->Option J}{q:J}(hs:i4 T n K cf m e L=.idx o d t s ls.length i Lv cf1 cf2 K' m' e' L')(hj:L'[j]?=some (ow s ls))(hz:fX j cf1.AR=true)(hF:(idx ls i).bind kf=some q)
  (k:∀x,idx ls i=some x->kf x=some q->∀y:E.ex,Shp s ls.length->G (.mk P T hT n c B0 N X Q) K' (m'+1) e' (L'.set j .no++([.o (pP (s.v ls.length) ls i.toNat),.box m' (E.cs x y),wOf O m' s ls.length i.toNat]++E.Lx x y)) (cf1.ext [wOf O m' s ls.length i.toNat])):G (.mk P T hT n c B0 N X Q) K m e L cf:=by
 refine gW (g:=.mk P T hT n c B0 N X Q) ?_;rw[hs];intro x' y' ho hd hx hy hP;cases hi:idx ls i with
 |none=>grind
 |some x=>
  rw[hi] at hF;refine bH7 (λ_=>m'+1) (λ_=>e') (λy:{y:E.ex // Shp s ls.length}=>L'.set j .no++([.o (pP (s.v ls.length) ls i.toNat),.box m' (E.cs x y.1),wOf O m' s ls.length i.toNat]++E.Lx x y.1)) (λ_=>[wOf O m' s ls.length i.toNat]) (λB a w hm hA hS=>?_) (λy=>aTJ hz) (λy=>k x hi hF y.1 y.2);obtain⟨⟨R,s1,s2⟩,s0⟩:=hS;have hj2:(L'.map (kL B))[j]?=some (fK [s.v ls.length] ls):=by simp[hj,kL]
  obtain⟨ec,h1⟩:=s1.open j hj2 (CI hi).2.2;have hlen:((L'.map (kL B)).set j NH).length=L'.length:=ae
  have hsh:Shp s ls.length:=a9R (k:=i.toNat) h1 L'.length ae;obtain⟨F,hF'⟩:=h1.chunk (L'.length+2) (by rw[aRX aa];simp;rfl);obtain⟨y,hy2⟩:=E.op (show aL.own w ec x F from hF');have h2:=h1.unpack (L'.length+2) ae (E.pk hy2);have hset:((L'.map (kL B)).set j NH++[pP (s.v ls.length) ls i.toNat,YG (X5 (s.v ls.length)) (WT (aL.n O) i.toNat (s.v ls.length)) ec,fK ec x]).set (L'.length+2) NH=(L'.map (kL B)).set j NH++[pP (s.v ls.length) ls i.toNat,YG (X5 (s.v ls.length)) (WT (aL.n O) i.toNat (s.v ls.length)) ec,NH]:=ae
  rw[hset] at h2;refine⟨⟨y,hsh⟩,[(X5 (s.v ls.length),WT (aL.n O) i.toNat (s.v ls.length))],by simp[hm],hA.app _,⟨⟨R,?_,λz hz=>?_⟩,s0⟩,λw' M hM=>?_⟩
  ·have e1:(L'.set j Ch.no).map (kL B)=(L'.map (kL B)).set j NH:=by rw[MX];rfl
   refine h2.imp ?_;rw[BR,BR,<-e1,NG];refine jI.append (aAA _ _) (jI.append (.cons (λ_ h=>h) (.cons (λF h=>⟨_,_,ec,aj,eY (λx v h=>by simpa using gD (B:=[]) _ h) hy2,h⟩) (.cons (λ_ h=>h) .nil))) ?_);have:=aAA (B:=[]) (B++[(X5 (s.v ls.length),WT (aL.n O) i.toNat (s.v ls.length))]) (w:=w) (E.Lx x y);grind
  ·rcases iO.1 hz with hz|hz
   ·rcases rV hz with hz|hz
    ·grind[aTB]
    ·subst hz;trivial
   ·rcases iO.1 hz with hz|hz
    ·simp at hz;rcases hz with rfl|rfl|rfl
     ·trivial
     ·trivial
     ·show(B++_)[m']?=_;grind
    ·exact aMH (E.no x y) z hz
  ·obtain⟨⟨R',t1,t2⟩,t0⟩:=hM.app [(X5 (s.v ls.length),WT (aL.n O) i.toNat (s.v ls.length))];refine⟨⟨R',by grind[kL,aVY],λz hz=>?_⟩,t0⟩;rcases iO.1 hz with hz|hz
   ·grind
   ·simp at hz;subst hz;show(B++_)[m']?=_;grind
theorem ie{O:Type}[aL O](p:Nat){t el sz:Nat}{s:AC}{i:Int}{ls:List O}{x:O}{nb:Nat}{b1 b2:Bool}{n1:Nat}{z1 z2:List SV}{k2:TK}(hsh:Shp s ls.length)(hs:i4 T n K cf m e L=.idx o d t s ls.length i Lv cf1 cf2 K' m' e' L')(hi:idx ls i=some x)(hw:Lv[p]?=some (wOf O nb s ls.length i.toNat))(ht:AU T t=some ⟨.sl el,b1,n1,z1⟩)(he:AU T el=some ⟨k2,b2,sz,z2⟩)(hn:aL.n O=sz)
  (k:G (.mk P T hT n c B0 N X Q) K' m' ((d,.p nb 0)::e') L' cf2):G (.mk P T hT n c B0 N X Q) K m e L cf:=by
 refine gW (g:=.mk P T hT n c B0 N X Q) ?_;rw[hs];intro x' y' ho hd hx hy hP;subst hn;refine hP d (.p nb 0) [] (λ_=>[]) 0 hd (λ_=>rfl) (λB a w hA hS hm=>?_) (λB w L _ hS=>aj) (by grind[ext_nil]);obtain⟨v,g1,g2⟩:=eH hA hx;obtain⟨u,g3,g4⟩:=eH hA hy;cases g1;cases g3;obtain⟨⟨R,s1,s2⟩,s0⟩:=hS;have hB:B[nb]?=some (X5 (s.v ls.length),WT (aL.n O) i.toNat (s.v ls.length)):=s2 _ (K9 hw);exact⟨_,by simp[fJ,gV,bU,hB],a9S (P:=P) (o:=o) (w:=w) hsh rfl hi (I1 ht hT) (hT.size _ _ he) ho g2 g4⟩
def L4:List Ch->List Nat->List Ch
 |L,[]=>L
 |L,i::r=>L4 (L.set i .no) r
theorem J3{B:Bl}:∀(js:List Nat) (L:List Ch),(L4 L js).map (kL B)=blank (L.map (kL B)) js
 |[],L=>rfl
 |j::js,L=>by simp only[L4,blank];rw[J3 js,MX];rfl
theorem QV{x:Ch}:∀(js:List Nat) (L:List Ch),x∈L4 L js->x∈L\/x=.no
 |[],L,h=>.inl h
 |j::js,L,h=>by
  rcases QV js _ h with h|h
  ·exact rV h
  ·exact .inr h
theorem VH{g:Gx}{cf:uB}{M:List Ch}:∀(js:List Nat) {L:List Ch},(js.all λj=>fX j cf.AR)=true->Frz g cf L (L4 L js++M):=by
 intro js L hj;have main:∀{B1:Bl} {ops:Array Oper} {l:List Bool} {is:List Nat} {Lf:List Ch},(js.all λj=>fX j is)=true->aF5 g B1 ops l is Lf L->kl (L4 L js++M) is=Lf/\∀j∈is,j<(L4 L js++M).length:=by
  intro B1 ops l is Lf hj hD;have key:∀(js:List Nat) (L:List Ch),(js.all λj=>fX j is)=true->(∀i∈is,i<L.length)->kl (L4 L js++M) is=kl L is/\(L4 L js).length=L.length:=by
   intro js;induction js with
   |nil=>
    intro L _ hr;exact⟨a00 hr,rfl⟩
   |cons j js ih=>
    intro L hj hr;simp only[aP4,FX] at hj;obtain⟨h1,h2⟩:=ih (L.set j .no) hj.2 (λi hi=>aj);refine⟨h1.trans ?_,by grind[L4]⟩;have:=aAF (M:=[]) (z:=.no) hr hj.1;grind
  obtain⟨k1,k2⟩:=key js L hj hD.rng;exact⟨k1.trans hD.AR,λi hi=>by have:=hD.rng i hi;grind⟩
 cases cf with
 |d B1 ops l is Lf Lv=>exact λhD=>main hj hD
 |o B1 ops l is Lf Lv i=>exact λhD=>main hj hD
 |_=>trivial
def ovh(v:SV)(e:SE):List Nat->SE
 |[]=>e
 |k::ks=>(k,v)::ovh v e ks
theorem aTK{v:SV}{B:Bl}{a:Act}:∀(ks:List Nat),aW (EO e) ks=some (ks.map λ_=>v)->gU n B e a->gU n B (ovh v e ks) a:=by
 intro ks;have key:∀(ks:List Nat),aW (EO e) ks=some (ks.map λ_=>v)->∀k∈ks,EO e k=some v:=by
  intro ks;induction ks with
  |nil=>simp
  |cons s ks ih=>
   grind[aW]
 intro hs hA;have hk:=key ks hs;clear hs key;have lk2:∀k x,EO (ovh v e ks) k=some x->EO e k=some x:=by
  induction ks with
  |nil=>exact λk x h=>h
  |cons j ks ih=>
   grind[ovh,EO,pM]
 exact⟨hA.d,hA.size,λk x h=>hA.get k x (lk2 k x h)⟩
theorem QW{B:Bl}:∀{is:List Nat} {M:List Ch},aW (λi=>L[i]?) is=some M->pick (L.map (kL B)) is=M.map (kL B)
 |[],M,h=>by cases h;rfl
 |i::is,M,h=>by
  simp only[aW] at h;split at h
  ·cases h
  ·rename_i h1;split at h
   ·cases h
   ·rename_i h2;cases h;simp only[pick,CH,h1,Option.map_some,Option.getD_some,QW h2,aBJ]
theorem a6B{O:Type}[aL O](E:CO O)(h b v:Nat)(is ks:List Nat){s:AC}{l:List O}{k nb:Nat}(x:O)(y:E.ex){cs0:List SV}{ec:List Value}(hs:L[h]?=some (.o (pP (s.v l.length) l k)))(hb:L[b]?=some (.box nb cs0))(hv:L[v]?=some (wOf O nb s l.length k))(hi:aW (λi=>L[i]?) is=some (E.Lx x y))(hc:nbL cs0=E.cs x y)(hec:aW (bU []) (E.cs x y)=some ec)(ha:dJ (h::b::is)=true)(hk:aW (EO e) ks=some (ks.map λ_=>.h s l.length)){B:Bl}{a:Act}{w:World}(hA:gU n B e a)(hS:mM c w B L) :
  gU n B (ovh (.h s (l.set k x).length) e ks) a/\mM c w B (L4 L (h::b::is)++[ow s (l.set k x)]):=by
 have hlen:(l.set k x).length=l.length:=cB;unfold ow;rw[hlen];refine⟨aTK ks hk hA,?_⟩;obtain⟨⟨R,s1,s2⟩,s0⟩:=hS;have hB:B[nb]?=some (X5 (s.v l.length),WT (aL.n O) k (s.v l.length)):=s2 _ (K9 hv);refine⟨⟨R,?_,λz hz=>?_⟩,s0⟩
 ·rw[BR,J3];refine s1.shift (h::b::is) ha λF hF=>?_;simp only[pick,CH,hs,hb,Option.map_some,Option.getD_some,QW hi,E.nb] at hF;have hE:aW (bU B) cs0=some ec:=by rw[<-QT,hc];exact eY (λx v h=>by simpa using gD (B:=[]) B h) hec
  have h2:Sep w ([pP (s.v l.length) l k,YG (X5 (s.v l.length)) (WT (aL.n O) k (s.v l.length)) ec]++(E.Lx x y).map (kL [])) F:=by refine Sep.imp (.cons (λ_ h=>h) (.cons (λF h=>?_) (jI.refl _))) hF;obtain⟨bb,z,vs,k1,k2,k3⟩:=h;grind
  obtain⟨F1,F2,g1,g2,gd,gF⟩:=Sep.append.1 h2;have h3:Sep w ([pP (s.v l.length) l k,YG (X5 (s.v l.length)) (WT (aL.n O) k (s.v l.length)) ec]++[fK ec x]) F:=Sep.append.2 ⟨F1,F2,g1,Sep.one.2 ((E.pk hec w F2).2 g2),gd,gF⟩;exact Sep.one.2 (a2C h3)
 ·rcases iO.1 hz with hz|hz
  ·rcases QV _ _ hz with hz|hz
   ·grind
   ·subst hz;trivial
  ·simp at hz;subst hz;trivial
theorem ce{O:Type}[aL O](E:CO O)(h b v:Nat)(is ks:List Nat){s:AC}{l:List O}{k nb:Nat}(x:O)(y:E.ex){cs0:List SV}{ec:List Value}(hs:L[h]?=some (.o (pP (s.v l.length) l k)))(hb:L[b]?=some (.box nb cs0))(hv:L[v]?=some (wOf O nb s l.length k))(hi:aW (λi=>L[i]?) is=some (E.Lx x y))(hc:nbL cs0=E.cs x y)(hec:aW (bU []) (E.cs x y)=some ec)(ha:dJ (h::b::is)=true)(hz:((h::b::is).all λj=>fX j cf.AR)=true)(hk:aW (EO e) ks=some (ks.map λ_=>.h s l.length))
  (kk:G (.mk P T hT n c B0 N X Q) K m (ovh (.h s (l.set k x).length) e ks) (L4 L (h::b::is)++[ow s (l.set k x)]) cf):G (.mk P T hT n c B0 N X Q) K m e L cf:=by
 refine chg (λ_:Unit=>m) (λ_=>ovh (.h s (l.set k x).length) e ks) (λ_=>L4 L (h::b::is)++[ow s (l.set k x)]) (λB a w hm hA hS=>?_) (λ_=>VH _ hz) (λ_=>kk);obtain⟨h1,h2⟩:=a6B E h b v is ks x y hs hb hv hi hc hec ha hk hA hS;simp_all
end
section
variable {P:Program} {T:TT} {hT:FY P T} {n:Nat} {c:Ctx} {B0:Bl} {N:Act->World->Prop} {X:Nat->Act->World->Prop} {Q:Act->World->Prop} {K K':List Fr} {m m':Nat} {e e':SE} {L L':List Ch} {cf cf':uB}
theorem ceS{O:Type}[aL O](E:CO O)(h:Nat)(is ks:List Nat){s:AC}{l:List O}{k nb:Nat}(x:O)(y:E.ex){cs0:List SV}{ec:List Value}(q0_:T3 (i4 T n K cf m e L)=some (K',cf',m',e',L')/\L'[h]?=some (.o (pP (s.v l.length) l k))/\L'[h+1]?=some (.box nb cs0)/\L'[h+2]?=some (wOf O nb s l.length k)/\aW (λi=>L'[i]?) is=some (E.Lx x y)/\nbL cs0=E.cs x y/\aW (bU []) (E.cs x y)=some ec/\dJ (h::(h+1)::is)=true/\((h::(h+1)::is).all λj=>fX j cf'.AR)=true/\aW (EO e') ks=some (ks.map λ_=>.h s l.length))
  (kk:G (.mk P T hT n c B0 N X Q) K' m' (ovh (.h s (l.set k x).length) e' ks) (L4 L' (h::(h+1)::is)++[ow s (l.set k x)]) cf'):G (.mk P T hT n c B0 N X Q) K m e L cf:=
 let ⟨h0,hs,hb,hv,hi,hc,hec,ha,hz,hk⟩:=q0_;gW (g:=.mk P T hT n c B0 N X Q) (aK5 h0 (ce E h (h+1) (h+2) is ks x y hs hb hv hi hc hec ha hz hk kk))
theorem sF(hs:i4 T n K cf m e L=.fin m' e' L')(h:∀a w,pQ n c B0 m' e' L' a w->N a w):G (.mk P T hT n c B0 N X Q) K m e L cf:=
 gW (g:=.mk P T hT n c B0 N X Q) (by rw[hs];exact h)
theorem sX{id:Nat}(hs:i4 T n K cf m e L=.ex id m' e' L')(h:∀a w,pQ n c B0 m' e' L' a w->X id a w):G (.mk P T hT n c B0 N X Q) K m e L cf:=
 gW (g:=.mk P T hT n c B0 N X Q) (by rw[hs];exact h)
theorem sR(hs:i4 T n K cf m e L=.ret m' e' L')(h:∀a w,pQ n c B0 m' e' L' a w->Q a w):G (.mk P T hT n c B0 N X Q) K m e L cf:=
 gW (g:=.mk P T hT n c B0 N X Q) (by rw[hs];exact h)
theorem nxR{σ ρ υ:Type}{o:Step σ ρ}{mj:Nat}{el:σ->υ->SE}{Ll:σ->υ->List Ch}{s:σ}(u:υ)(is:List Nat)(hG:some (Step.next s)=some o)(h:Z9 B0.length m' e' L' is mj (el s u) (Ll s u)=some (el s u,Ll s u)):∀a w,pQ n c B0 m' e' L' a w->NxP n c B0 o mj el Ll a w:=by cases hG;exact λa w hr=>⟨s,u,rfl,hr.Z9 is h⟩
theorem gL{π υ:Type}{eq:π->Prop}{mj:Nat}{ej:π->υ->SE}{Lj:π->υ->List Ch}{p:π}(u:υ)(is:List Nat)(hF:eq p)(h:Z9 B0.length m' e' L' is mj (ej p u) (Lj p u)=some (ej p u,Lj p u)):∀a w,pQ n c B0 m' e' L' a w->JP n c B0 eq mj ej Lj a w:=
 λa w hr=>⟨p,u,hF,pQ.Z9 hr is h⟩
theorem bkR{σ ρ J υ:Type}{o:Step σ ρ}{ro:ρ}{enc:J->ρ}{mj id:Nat}{ej:J->υ->SE}{Lj:J->υ->List Ch}{b:J}(u:υ)(is:List Nat)(hG:some (Step.stop (enc b))=some o)(hr:∀p,o=.stop p->p=ro)(h:Z9 B0.length m' e' L' is mj (ej b u) (Lj b u)=some (ej b u,Lj b u)):∀a w,pQ n c B0 m' e' L' a w->BkP n c B0 ro enc mj ej Lj id X id a w:=by cases hG;have:=hr _ rfl;subst this;intro a w hr;unfold BkP;rw[aM rfl];exact⟨b,u,rfl,hr.Z9 is h⟩
include hT in
theorem rtR{fn:Func}{ρ ex:Type}{sv:ρ->ex->SV}{Lf:ρ->ex->List Ch}{r r':ρ}{rs:List ResultVar}{zz:Option ρ}(y:ex)(is:List Nat)(hF:zz=some r)(q0_:zz=some r'/\fn.results=rs.toArray){x:SV}(q1_:aTA T e' L' rs=some x/\nbS x=sv r' y/\AQ B0.length (sv r' y)=true/\Z9 B0.length m' e' L' is B0.length [] (Lf r' y)=some ([],Lf r' y)):∀a w,pQ n c B0 m' e' L' a w->QS P fn c B0 sv Lf r a w:=by obtain⟨hz,hr⟩:=q0_;obtain⟨hv,hx,hk,hL⟩:=q1_;subst hz;cases hF;intro a w hr';obtain⟨B,hm,hA,hS⟩:=id hr';obtain⟨v,h1,h2⟩:=aK7 hr hT hA hS hv;obtain⟨B',hm',_,hS'⟩:=hr'.Z9 is hL;have hB':B'=[]:=(by simp_all);subst hB';refine⟨hA.d,v,h2,y,?_,aj⟩;rw[<-hx] at hk ⊢;have:=VG hk (by rw[aK1];exact h1);grind
theorem jU{Z:Act->World->Prop}{O:Type}[aL O](E:CO O)(h:Nat)(is ks:List Nat){s:AC}{l:List O}{k nb:Nat}(x:O)(y:E.ex){cs0:List SV}{ec:List Value}(q0_:L[h]?=some (.o (pP (s.v l.length) l k))/\L[h+1]?=some (.box nb cs0)/\L[h+2]?=some (wOf O nb s l.length k)/\aW (λi=>L[i]?) is=some (E.Lx x y)/\nbL cs0=E.cs x y/\aW (bU []) (E.cs x y)=some ec/\dJ (h::(h+1)::is)=true/\aW (EO e) ks=some (ks.map λ_=>.h s l.length))
  (kk:∀a w,pQ n c B0 m (ovh (.h s (l.set k x).length) e ks) (L4 L (h::(h+1)::is)++[ow s (l.set k x)]) a w->Z a w):∀a w,pQ n c B0 m e L a w->Z a w:=by
 obtain⟨hs,hb,hv,hi,hc,hec,ha,hk⟩:=q0_;intro a w ⟨B,hm,hA,hS⟩;obtain⟨h1,h2⟩:=a6B E h (h+1) (h+2) is ks x y hs hb hv hi hc hec ha hk hA hS;exact kk a w ⟨B,hm,h1,h2⟩
end
def wAt(n:Nat):List Ch->Option (Nat×Nat)
 |[]=>none
 |.w k b z::L=>match Nat.beq n k with
  |true=>some (b,z)
  |false=>wAt n L
 |_::L=>wAt n L
theorem VJ{n b z:Nat}:∀{L:List Ch},wAt n L=some (b,z)->Ch.w n b z∈L
 |[],h=>by cases h
 |x::L,h=>by
  cases x with
  |w k b' z'=>
   simp only[wAt] at h;split at h
   ·simp_all
   ·exact BS _ (VJ h)
  |box k cs=>exact BS _ (VJ (L:=L) h)
  |ro k cs=>exact BS _ (VJ (L:=L) h)
  |o ch=>exact BS _ (VJ (L:=L) h)
  |f g=>exact BS _ (VJ (L:=L) h)
  |no=>exact BS _ (VJ (L:=L) h)
section
variable {P:Program} {T:TT} {hT:FY P T} {n:Nat} {c:Ctx} {B0:Bl} {N:Act->World->Prop} {X:Nat->Act->World->Prop} {Q:Act->World->Prop} {K K':List Fr} {m m':Nat} {e e':SE} {L L' Lv:List Ch} {cf cf1 cf2:uB} {o:Oper} {d:Nat}
theorem eR{O:Type}[aL O](nb:Nat){t el sz:Nat}{s:AC}{i:Int}{ls:List O}{x:O}{b1 b2:Bool}{n1:Nat}{z1 z2:List SV}{k2:TK}(hsh:Shp s ls.length)(hi:idx ls i=some x)(q0_:i4 T n K cf m e L=.idx o d t s ls.length i Lv cf1 cf2 K' m' e' L'/\wAt nb Lv=some (X5 (s.v ls.length),WT (aL.n O) i.toNat (s.v ls.length))/\AU T t=some ⟨.sl el,b1,n1,z1⟩/\AU T el=some ⟨k2,b2,sz,z2⟩/\aL.n O=sz)
  (k:G (.mk P T hT n c B0 N X Q) K' m' ((d,.p nb 0)::e') L' cf2):G (.mk P T hT n c B0 N X Q) K m e L cf:=by
 obtain⟨hs,hw,ht,he,hn⟩:=q0_;obtain⟨p,hp⟩:=List.mem_iff_getElem?.1 (VJ hw);grind[ie]
end
def GA.o{O:Type}[aL O](C:GA O)(Lx:O->C.ex->List Ch)(pk:∀{q y ec},aW (bU []) (C.cs q y)=some ec->OP ec q ((Lx q y).map (kL [])))(no:∀q y,noF (Lx q y)=true)(nb:∀q y B,(Lx q y).map (kL B)=(Lx q y).map (kL [])):CO O:=
 ⟨C.ex,C.cs,Lx,λh=>let ⟨y,h1,_⟩:=C.ok (aL.own_rd h);⟨y,h1⟩,pk,no,nb⟩
def oI:CO Int:=cI.o (λ_ _=>[]) (λh=>by cases h;exact eG rfl) (λ_ _=>rfl) (λ_ _ _=>rfl)
def oU:CO UInt8:=cU.o (λ_ _=>[]) (λh=>by cases h;exact eG rfl) (λ_ _=>rfl) (λ_ _ _=>rfl)
theorem a6C{O:Type}[aL O][Flat O]{cs:List Value}{d:O}(h:aL.rd F0 default cs d)(w:World):aL.own w cs d F0:=Flat.own_of h
section
variable {P:Program} {T:TT} {hT:FY P T} {n:Nat} {c:Ctx} {B0:Bl} {N:Act->World->Prop} {X:Nat->Act->World->Prop} {Q:Act->World->Prop} {K K':List Fr} {m m':Nat} {e e':SE} {L L':List Ch} {cf:uB}
variable {b:Bool} {O:Type} {A B':Option O} {q:Option O}
theorem csK{o:Operand}{x y:Code}(ss:List Nat)(hs:i4 T n K cf m e L=.cond o b x y K' m' e' L')(ho:aW (EO e') ss=some (ss.map λ_=>SV.b b))(hF:(if b=true then A else B')=q)
  (k1:b=true->A=q->G (.mk P T hT n c B0 N X Q) K' m' (ovr true e' ss) L' (.c x)) (k2:b=false->B'=q->G (.mk P T hT n c B0 N X Q) K' m' (ovr false e' ss) L' (.c y)):G (.mk P T hT n c B0 N X Q) K m e L cf:=
 gW (g:=.mk P T hT n c B0 N X Q) (by
  rw[hs];intro he a w hr;have ⟨B,hm,hA,hS⟩:=hr;obtain⟨v,h1,h2⟩:=eH hA he;cases h1;refine aKZ hA.env h2 (λhc=>?_) (λhc=>?_)
  ·rw[aM hc] at hF;exact k1 hc hF a w (aK6 hc ss ho hr)
  ·rw[aO aj] at hF;exact k2 hc hF a w (aK6 hc ss ho hr))
theorem caK{cf':uB}(ss:List Nat)(hs:i4 T n K cf m e L=.case b cf' K' m' e' L')(ho:aW (EO e') ss=some (ss.map λ_=>SV.b b))(hF:(if b=true then A else B')=q)
  (k1:b=true->A=q->G (.mk P T hT n c B0 N X Q) K' m' (ovr true e' ss) L' cf') (k2:b=false->B'=q->G (.mk P T hT n c B0 N X Q) K' m' (ovr false e' ss) L' cf'):G (.mk P T hT n c B0 N X Q) K m e L cf:=
 gW (g:=.mk P T hT n c B0 N X Q) (by
  rw[hs];cases b with
  |true=>exact aMG (λa B hA=>aAE rfl ss ho hA) (k1 rfl aj)
  |false=>exact aMG (λa B hA=>aAE rfl ss ho hA) (k2 rfl aj))
end
section
variable {P:Program} {T:TT} {hT:FY P T} {n:Nat} {c:Ctx} {B0:Bl} {N:Act->World->Prop} {X:Nat->Act->World->Prop} {Q:Act->World->Prop} {K K':List Fr} {m m':Nat} {e e':SE} {L L' Lv:List Ch} {cf cf1 cf2:uB} {o:Oper} {d:Nat}
theorem aTL{O:Type}[aL O]{l:List O}(L2:AC->List Ch)(hs:i4 T n K cf m e L=.op o Lv cf1 cf2 K' m' e' L')(hd:o.dst=some d)(hz:∀s',Frz (.mk P T hT n c B0 N X Q) cf1 L' (L2 s'))(h:∀B a w,gU n B e' a->mM c w B L'->∃s' w',fE P o (vE B e') w (AC.v s' l.length) w'/\mM c w' B (L2 s'))
  (k:∀s':AC,G (.mk P T hT n c B0 N X Q) K' m' ((d,.h s' l.length)::e') (L2 s') cf2):G (.mk P T hT n c B0 N X Q) K m e L cf:=by
 refine gW (g:=.mk P T hT n c B0 N X Q) ?_;rw[hs];intro hdn _ hE;refine hE AC (λ_=>m') (λs'=>(d,.h s' l.length)::e') L2 hz (λB a w next Q' hm hA hS hnext=>?_) k;obtain⟨s',w',k1,k2⟩:=h _ a w hA hS;unfold Oper.wp;rw[k1 _ a hA.env,Oper.upon_value,hd];exact hnext s' _ _ ⟨[],aj,by simpa using hA.of (by simp[fJ,gV,bU]) (hA.env.put (by grind[rY,yI]) _),aj⟩
theorem aF8{O:Type}[aL O]{w:World}{A:List Chunk}{R:List Fact}{v:Value}{l:List O}(h:St c w A R)(i:Nat)(hi:A[i]?=some (fK [v] l)):∃s':AC,v=s'.v l.length:=by obtain⟨ad,cp,h2,_⟩:=aL3 (h.aZ8 i hi);exact⟨⟨ad,cp⟩,h2⟩
section
variable {x y:Operand} {t el sz:Nat} {zv:Value} {b1:Bool} {n1:Nat} {z1:List SV}
theorem X7{O:Type}[aL O](hinf:YH P el sz zv)(q0_:i4 T n K cf m e L=.op o Lv cf1 cf2 K' m' e' L'/\(o.op,o.dst)=(.buildSlice t 0 #[],some d)/\AU T t=some ⟨.sl el,b1,n1,z1⟩/\aL.n O=sz)
  (k:∀s':AC,G (.mk P T hT n c B0 N X Q) K' m' ((d,.h s' ([]:List O).length)::e') (L'++[ow s' ([]:List O)]) cf2):G (.mk P T hT n c B0 N X Q) K m e L cf:=by
 obtain⟨hs,ho,ht,hn⟩:=q0_;refine aTL (l:=([]:List O)) (λs'=>L'++[ow s' ([]:List O)]) hs (dA Prod.snd ho) (λ_=>rL _) (λB a w hA hS=>?_) k;obtain⟨⟨R,s1,s2⟩,s0⟩:=hS;obtain⟨v,w',k1,k2⟩:=a9V (O:=O) (e:=vE B e') (o:=o) s1 hn (I1 ht hT) hinf (dA Prod.fst ho);obtain⟨s',rfl⟩:=aF8 (v:=v) (l:=([]:List O)) k2 (L'.map (kL B)).length ae;refine⟨s',w',k1,⟨⟨R,by grind[kL],λz hz=>?_⟩,s0⟩⟩;rcases iO.1 hz with hz|hz
 ·grind
 ·simp at hz;subst hz;trivial
theorem LB{g:Gx}{cf:uB}{L:List Ch}{j:Nat}{z:Ch}(hn:fX j cf.AR=true):Frz g cf L (L.set j z):=by have:=aTJ (g:=g) (M:=[]) (z:=z) (L:=L) hn;grind
theorem ap{O J:Type}[aL O][Flat O]{A:Option J}{q:J}{s s2:AC}{l xs:List O}(i:Nat)(hinf:YH P el sz zv)(hs:i4 T n K cf m e L=.op o Lv cf1 cf2 K' m' e' L')(ho:(o.op,o.dst)=(.call {callee:=.builtin .append,args:=#[x,y],argTypes:=#[t,t]},some d))(ht:AU T t=some ⟨.sl el,b1,n1,z1⟩)(hn:aL.n O=sz)(hzs:zv.cells.size=sz)(hi:L'[i]?=some (ow s l))(hz:fX i cf1.AR=true)(hsrc:∀{w},HS c w L'->bB (eQ w) s2 xs)(hx:iL e' x=some (.h s l.length))(hy:iL e' y=some (.h s2 xs.length))(hF:need (l.length+xs.length<=1073741824) A=some q)
  (k:A=some q->∀s':AC,G (.mk P T hT n c B0 N X Q) K' m' ((d,.h s' (l++xs).length)::e') (L'.set i (ow s' (l++xs))) cf2):G (.mk P T hT n c B0 N X Q) K m e L cf:=by
 refine aTL (l:=l++xs) (λs'=>L'.set i (ow s' (l++xs))) hs (dA Prod.snd ho) (λ_=>LB hz) (λB a w hA hS=>?_) (k (lY hF).2);have hr:bB (eQ w) s2 xs:=hsrc ⟨_,hS⟩;obtain⟨⟨R,s1,s2'⟩,s0⟩:=hS;have hj2:(L'.map (kL B))[i]?=some (fK [s.v l.length] l):=by simp[hi,kL]
 obtain⟨v,w',k1,k2⟩:=a2B i s1 hj2 hr hn (I1 ht hT) hinf hzs (lY hF).1 (dA Prod.fst ho) (hdB hA hx) (hdB hA hy);have hlt:i<L'.length:=(I6.1 hi).1;obtain⟨s',rfl⟩:=aF8 k2 i (by rw[List.getElem?_set_self aj]);refine⟨s',w',k1,⟨⟨R,?_,λz hz=>?_⟩,s0⟩⟩
 ·rw[MX];exact k2
 ·rcases rV hz with hz|hz
  ·grind
  ·subst hz;trivial
end
end
theorem aV0{O:Type}{l:List O}{i:Int}{x:O}(h:idx l i=some x):l.set i.toNat x=l:=by obtain⟨hk,h2⟩:=I6.1 (CI h).2.2;rw[<-h2];simp
section
variable {P:Program} {T:TT} {hT:FY P T} {n:Nat} {c:Ctx} {B0:Bl} {N:Act->World->Prop} {X:Nat->Act->World->Prop} {Q:Act->World->Prop} {K K':List Fr} {m m':Nat} {e e':SE} {L L' Lv:List Ch} {cf cf' cf1 cf2:uB} {o:Oper} {d:Nat}
theorem cqS{O:Type}[aL O](E:CO O)(h:Nat)(is:List Nat){s:AC}{l:List O}{i:Int}{nb:Nat}{x:O}(hx:idx l i=some x)(y:E.ex){cs0:List SV}{ec:List Value}(q0_:T3 (i4 T n K cf m e L)=some (K',cf',m',e',L')/\L'[h]?=some (.o (pP (s.v l.length) l i.toNat))/\L'[h+1]?=some (.box nb cs0)/\L'[h+2]?=some (wOf O nb s l.length i.toNat)/\aW (λi=>L'[i]?) is=some (E.Lx x y)/\nbL cs0=E.cs x y/\aW (bU []) (E.cs x y)=some ec/\dJ (h::(h+1)::is)=true/\((h::(h+1)::is).all λj=>fX j cf'.AR)=true)
  (kk:G (.mk P T hT n c B0 N X Q) K' m' e' (L4 L' (h::(h+1)::is)++[ow s l]) cf'):G (.mk P T hT n c B0 N X Q) K m e L cf:=
 let ⟨h0,hs,hb,hv,hi,hc,hec,ha,hz⟩:=q0_;ceS E h is [] x y ⟨h0,hs,hb,hv,hi,hc,hec,ha,hz,rfl⟩ (by rw[aV0 hx];exact kk)
theorem eM{Z:Act->World->Prop}{O:Type}[aL O](E:CO O)(h:Nat)(is:List Nat){s:AC}{l:List O}{i:Int}{nb:Nat}{x:O}(hx:idx l i=some x)(y:E.ex){cs0:List SV}{ec:List Value}(q0_:L[h]?=some (.o (pP (s.v l.length) l i.toNat))/\L[h+1]?=some (.box nb cs0)/\L[h+2]?=some (wOf O nb s l.length i.toNat)/\aW (λi=>L[i]?) is=some (E.Lx x y)/\nbL cs0=E.cs x y/\aW (bU []) (E.cs x y)=some ec/\dJ (h::(h+1)::is)=true)
  (kk:∀a w,pQ n c B0 m e (L4 L (h::(h+1)::is)++[ow s l]) a w->Z a w):∀a w,pQ n c B0 m e L a w->Z a w:=
 let ⟨hs,hb,hv,hi,hc,hec,ha⟩:=q0_;jU E h is [] x y ⟨hs,hb,hv,hi,hc,hec,ha,rfl⟩ (by rw[aV0 hx];exact kk)
section
variable {x:Operand} {t el:Nat} {zv:Value} {b1:Bool} {n1:Nat} {z1:List SV}
theorem lt1{k:IntKind}{i:Int}(hk:k=.i64)(hinf:YH P el 1 zv)(q0_:i4 T n K cf m e L=.op o Lv cf1 cf2 K' m' e' L'/\(o.op,o.dst)=(.buildSlice t 1 #[(0,x)],some d)/\AU T t=some ⟨.sl el,b1,n1,z1⟩/\(iL e' x).bind rX=some (k,i))
  (kk:∀s':AC,G (.mk P T hT n c B0 N X Q) K' m' ((d,.h s' [i].length)::e') (L'++[ow s' [i]]) cf2):G (.mk P T hT n c B0 N X Q) K m e L cf:=by
 obtain⟨hs,ho,ht,hx⟩:=q0_;subst hk;refine aTL (l:=[i]) (λs'=>L'++[ow s' [i]]) hs (dA Prod.snd ho) (λ_=>rL _) (λB a w hA hS=>?_) kk;obtain⟨⟨R,s1,s2⟩,s0⟩:=hS;obtain⟨v,w',k1,k2⟩:=a9W (O:=Int) (e:=vE B e') (o:=o) i s1 rfl (I1 ht hT) hinf (c0:=.int .i64 i) rfl (dA Prod.fst ho) (yF hA hx) rfl;obtain⟨s',rfl⟩:=aF8 (v:=v) (l:=[i]) k2 (L'.map (kL B)).length ae;refine⟨s',w',k1,⟨⟨R,by grind[kL],λz hz=>?_⟩,s0⟩⟩;rcases iO.1 hz with hz|hz
 ·grind
 ·simp at hz;subst hz;trivial
end
end
theorem bB.sub{c:Ctx}{O:Type}[aL O]{s s':AC}{l:List O}{a b:Nat}(h:bB c s l)(hp:iU (aL.n O) a b (s.v l.length)=s'.v ((l.take b).drop a).length)(hb:a<=b/\b<=l.length):bB c s' ((l.take b).drop a):=by have:=aX5 (n:=aL.n O) rfl h hb.1 hb.2;rw[hp] at this;exact this
theorem Sep.perm{w:World}{A B:List Chunk}(h:A.Perm B):∀{F:cV},Sep w A F->Sep w B F:=by
 induction h with
 |nil=>simp
 |cons a _ ih=>exact λ⟨F1,F2,h1,h2,hd,hF⟩=>⟨F1,F2,h1,ih h2,hd,hF⟩
 |swap a b L=>
  intro F h;have h:Sep w (([b]++[a])++L) F:=h;obtain⟨F1,F2,h1,h2,hd,hF⟩:=Sep.append.1 h;exact(Sep.append (A:=[a]++[b])).2 ⟨F1,F2,h1.swap,h2,hd,hF⟩
 |trans _ _ i1 i2=>grind
theorem St.via{c:Ctx}{w:World}{A B:List Chunk}{R:List Fact}(h:St c w A R)(hs:∀F,Sep w A F->Sep w B F):St c w B R:=by obtain⟨F,S,hsep,rest⟩:=h.sep;exact⟨h.keep,⟨F,S,hs F hsep,rest⟩,h.apart⟩
structure PV where
 b:Nat
 z:Nat
 A:List Value
 V:List Value
 C:List Value
def PV.whole(p:PV):Chunk:=YG p.b p.z (p.A++(p.V++p.C))
def PV.mid(p:PV):Chunk:=YG p.b (p.z+p.A.length) p.V
def PV.rest(p:PV):List Chunk:=[YG p.b p.z p.A,YG p.b (p.z+p.A.length+p.V.length) p.C]
theorem bB8{O:Type}{a v c:O}{M R:List O}:(a::v::c::(M++R)).Perm (v::(M++(a::c::R))):=by refine(List.Perm.swap v a _).trans (List.Perm.cons v ?_);exact((List.perm_middle (a:=c)).symm.cons a).trans (List.perm_middle (a:=a)).symm
theorem bGK{w:World}:∀{ps:List PV} {F:cV},Sep w (ps.map PV.whole) F->Sep w (ps.map PV.mid++ps.flatMap PV.rest) F
 |[],F,h=>h
 |p::ps,F,h=>by obtain⟨F1,F2,h1,h2,hd,hF⟩:=h;exact Sep.perm bB8 (Sep.append.2 ⟨F1,F2,a2E h1,bGK h2,hd,hF⟩)
theorem bGL{w:World}:∀{ps:List PV} {F:cV},Sep w (ps.map PV.mid++ps.flatMap PV.rest) F->Sep w (ps.map PV.whole) F
 |[],F,h=>h
 |p::ps,F,h=>by have h2:Sep w ([YG p.b p.z p.A,p.mid,YG p.b (p.z+p.A.length+p.V.length) p.C]++(ps.map PV.mid++ps.flatMap PV.rest)) F:=Sep.perm (bB8 (M:=ps.map PV.mid) (R:=ps.flatMap PV.rest)).symm h;obtain⟨F1,F2,h1,h3,hd,hF⟩:=Sep.append.1 h2;exact⟨F1,F2,a42 h1,bGL h3,hd,hF⟩
theorem St.bB9{c:Ctx}{w:World}{A M:List Chunk}{R:List Fact}(h:St c w (A++M) R)(s0:∀b o,c.S0 b o->b<c.w0.heap.size) :
  ∃U:Ctx,U.w0=w/\(∀b o,U.S0 b o->b<w.heap.size)/\St U w A []/\(∀f:Fact,f.P c.S0 c.w0->f.P U.S0 w)/\(∀f∈R,f.P U.S0 w) /\
   (∀ch∈M,∀f:Fact,(∀w F,ch.P w F->f.P F w)->f.P U.S0 w)/\∀w' A' R',St U w' A' R'->St c w' (A'++M) R:=by
 obtain⟨F,S,hsep,hFS,hFW,hSS,hSlt,hR⟩:=h.sep;obtain⟨F1,F2,h1,h2,hd,hF⟩:=Sep.append.1 hsep;have hk0:c.w0.heap.size<=w.heap.size:=h.keep.size;have h1S0:∀b o,F1 b o->c.S0 b o->False:=λb o p q=>by
  rcases hFW b o ((hF b o).2 (.inl p)) with hw|hw
  ·exact h.apart b o hw q
  grind
 have hlt:∀b o,(S b o\/F2 b o)\/c.S0 b o->b<w.heap.size:=by
  rintro b o ((q|q)|q)
  ·grind
  ·exact Sep.lt h2 q
  grind
 have hap:∀b o,F1 b o->((S b o\/F2 b o)\/c.S0 b o)->False:=by
  rintro b o p ((q|q)|q)
  ·exact hFS b o ((hF b o).2 (.inl p)) q
  ·exact hd b o p q
  grind
 refine⟨⟨w,F1,λb o=>(S b o\/F2 b o)\/c.S0 b o⟩,rfl,hlt,⟨eJ.refl _ _,⟨F1,λb o=>(S b o\/F2 b o)\/c.S0 b o,h1,hap,λ_ _ h=>.inl h,λ_ _ h=>.inl h,hlt,ae⟩,hap⟩,λf hf=>?_,λf hf=>f.mono (hR f hf) λb o q=>.inl (.inl q),λch hch f hf=>?_,?_⟩
 ·exact f.mono (f.agree hf λb o q=>h.keep.cell b o (s0 b o q) λhw=>h.apart b o hw q) λb o q=>.inr q
 ·obtain⟨j,hj⟩:=aHR hch;obtain⟨G1,G2,g1,_,_,gF⟩:=(Sep.take hj).1 h2;exact f.mono (hf w G1 g1) λb o q=>.inl (.inr ((gF b o).2 (.inl q)))
 ·intro w' A' R' k;obtain⟨F',S',b1,b2,b3,b4,b5,b6⟩:=k.sep;have hk:eJ F1 w w':=k.keep;have hGW:∀b o,b<c.w0.heap.size->F1 b o->c.W b o:=λb o hb g=>aj
  refine⟨h.keep.trans hk hGW,⟨λb o=>F' b o\/F2 b o,S,Sep.append.2 ⟨F',F2,b1,Sep.keep hk h2 λb o hf g=>hd b o g hf,?_,λ_ _=>Iff.rfl⟩,?_,?_,hSS,λb o hS=>O1 (hSlt b o hS) hk.size,?_⟩,h.apart⟩
  ·intro b o hg hf;grind
  ·rintro b o (hf|hf) hS
   ·grind
   ·exact hFS b o ((hF b o).2 (.inr hf)) hS
  ·grind
  ·intro f hf;exact f.agree (hR f hf) λb o hS=>hk.cell b o (hSlt b o hS) λg=>hFS b o ((hF b o).2 (.inl g)) hS
abbrev PS:=List (Nat×Nat×Nat×Nat)
def aTM:Nat->List (List SV)->List Ch
 |_,[]=>[]
 |k,c::r=>.box k c::aTM (k+1) r
def QX(L:List Ch)(i n:Nat):List SV:=match L[i]? with
 |some (.box k cs)=>match Nat.beq n k with
  |true=>cs
  |false=>[]
 |_=>[]
def aMI(L:List Ch):PS->Option (List (List SV))
 |[]=>some []
 |(i,n,o,k)::r=>match Nat.ble (o + k) (QX L i n).length,Nat.ble 1 k,frc (((QX L i n).drop o).take k),aMI L r with
  |true,true,some d,some ds=>some (d::ds)
  |_,_,_,_=>none
def QD(L M:List Ch):PS->List (List SV)->List Ch
 |(i,n,o,_)::r,c::cs=>QD L (M.set i (.box n (ovw (QX L i n) o c))) r cs
 |_,_=>M
def I2:PS->List Nat
 |[]=>[]
 |p::r=>p.1::I2 r
def rnP:PS->Nat->SV->Option SV
 |[],_,x=>match AQ 0 x with
  |true=>some x
  |false=>none
 |(_,n,o,_)::r,j,x=>match x with
  |.p n' o'=>match Nat.beq n n',Nat.beq o o' with
   |true,true=>some (.p j 0)
   |_,_=>rnP r (j+1) (.p n' o')
  |x=>rnP r (j+1) x
structure HG (c U:Ctx) (L:List Ch) (js:List Nat):Prop where
 a:∀{O:Type} [aL O] {s:AC} {d:List O},bB c s d->bB U s d
 o:∀{O:Type} [aL O] {s:AC} {d:List O} (i:Nat),L[i]?=some (ow s d)->fX i js=true->bB U s d
 f:∀{O:Type} [aL O] {s:AC} {d:List O} (i:Nat),L[i]?=some (fr s d)->bB U s d
def PvR(B:Bl)(L:List Ch):PS->List (List SV)->List PV->Prop
 |[],[],[]=>True
 |(i,n,o,k)::r,d::ds,p::ps=>(∃cs vs,L[i]?=some (.box n cs)/\B[n]?=some (p.b,p.z)/\aW (bU B) cs=some vs/\o+k<=cs.length/\p.A=vs.take o/\p.V=(vs.drop o).take k/\p.C=vs.drop (o+k)/\d=(cs.drop o).take k)/\PvR B L r ds ps
 |_,_,_=>False
def blP(pv:List PV):Bl:=pv.map λp=>(p.b,p.z+p.A.length)
section
variable {c:Ctx} {w:World} {B:Bl} {L:List Ch} {R:List Fact}
theorem aV1{i n:Nat}{x:SV}{r:List SV}(h:QX L i n=x::r):L[i]?=some (.box n (x::r)):=by
 unfold QX at h;split at h
 ·rename_i k cs hk;grind[pM]
 ·cases h
theorem bCA(hS:St c w (L.map (kL B)) R):∀{ps:PS} {ds:List (List SV)},aMI L ps=some ds->∃pv,PvR B L ps ds pv
 |[],ds,h=>by cases h;exact⟨[],trivial⟩
 |(i,n,o,k)::r,ds,h=>by
  simp only[aMI] at h;split at h
  ·rename_i d ds' h1 h2 h3 h4;cases h;have h1:=TX h1;have h2:=TX h2;obtain⟨pv,hpv⟩:=bCA hS h4;have h3:=VF h3;subst h3;cases hc:QX L i n with
   |nil=>grind
   |cons x cs=>
    have hL:=aV1 hc;obtain⟨F,b,z,vs,g1,g2,g3⟩:=hS.chunk (ch:=VE B n (x::cs)) i (by simp[hL,kL]);exact⟨⟨b,z,vs.take o,(vs.drop o).take k,vs.drop (o+k)⟩::pv,⟨x::cs,vs,hL,g1,g2,aj,rfl,rfl,rfl,ae⟩,hpv⟩
  ·cases h
theorem parts{vs:List Value}{o k:Nat}:vs.take o++((vs.drop o).take k++vs.drop (o+k))=vs:=by grind[List.drop_drop,aLX]
theorem a01{F:cV}:∀{ps:PS} {ds:List (List SV)} {pv:List PV} {F:cV},PvR B L ps ds pv->Sep w (pick (L.map (kL B)) (I2 ps)) F->Sep w (pv.map PV.whole) F
 |[],[],[],F,_,h=>h
 |(i,n,o,k)::r,d::ds,p::ps,F,⟨⟨cs,vs,h1,h2,h3,h4,h5,h6,h7,h8⟩,hr⟩,h=>by simp only[I2,pick,CH,h1,Option.map_some,Option.getD_some] at h;obtain⟨F1,F2,g1,g2,gd,gF⟩:=h;refine⟨F1,F2,?_,a01 (F:=F) hr g2,gd,gF⟩;obtain⟨b,z,vs',k1,k2,k3⟩:=g1;grind[PV.whole,parts]
theorem aYJ{Bs:Bl}{p:PV}{ps:List PV}{j:Nat}(h:∀i,Bs[j+i]?=(blP (p::ps))[i]?):Bs[j]?=some (p.b,p.z+p.A.length)/\∀i,Bs[j+1+i]?=(blP ps)[i]?:=by
 refine⟨?_,λi=>?_⟩
 ·have:=h 0;grind[blP]
 ·have:=h (i+1);grind[blP]
theorem a6E{Bs:Bl}:∀{ps:PS} {ds:List (List SV)} {pv:List PV} {j:Nat} {F:cV},PvR B L ps ds pv->ds.all (AQ.okC 0)=true->(∀i,Bs[j+i]?=(blP pv)[i]?)->Sep w (pv.map PV.mid) F->Sep w ((aTM j ds).map (kL Bs)) F
 |[],[],[],_,F,_,_,_,h=>h
 |(i,n,o,k)::r,d::ds,p::ps,j,F,⟨⟨cs,vs,h1,h2,h3,h4,h5,h6,h7,h8⟩,hr⟩,ho,hB,h=>by
  simp only[aP4,FX] at ho;obtain⟨F1,F2,g1,g2,gd,gF⟩:=h;obtain⟨b1,b2⟩:=aYJ hB;refine⟨F1,F2,⟨p.b,p.z+p.A.length,p.V,b1,?_,g1⟩,a6E hr ho.2 b2 g2,gd,gF⟩;have e1:aW (bU B) d=some p.V:=by grind[T6,T5]
  have e2:=DL ho.1 e1;rw[List.take_zero] at e2;exact eY (λx v h=>by simpa using gD (B:=[]) Bs h) e2
theorem aYK{Bs:Bl}:∀{ps:PS} {ds:List (List SV)} {pv:List PV} {j:Nat} {x x':SV} {v:Value},PvR B L ps ds pv->(∀i,Bs[j+i]?=(blP pv)[i]?)->rnP ps j x=some x'->fJ B x=some v->fJ Bs x'=some v
 |[],[],[],j,x,x',v,_,_,hx,hv=>by
  simp only[rnP] at hx;split at hx
  ·rename_i h0;cases hx;have:=VG h0 hv;rw[List.take_zero] at this;simpa using xN (B:=[]) Bs this
  ·cases hx
 |(i,n,o,k)::r,d::ds,p::ps,j,x,x',v,⟨⟨cs,vs,h1,h2,h3,h4,h5,h6,h7,h8⟩,hr⟩,hB,hx,hv=>by
  obtain⟨b1,b2⟩:=aYJ hB;simp only[rnP] at hx;split at hx
  ·rename_i n' o';split at hx
   ·rename_i e1 e2;cases hx;have e1:=pM e1;have e2:=pM e2;subst e1;subst e2;simp only[fJ,gV,bU,h2] at hv;have hA:p.A.length=o:=by grind[lI]
    simp_all[fJ,gV,bU]
   ·exact aYK hr b2 hx hv
  ·exact aYK hr b2 hx hv
theorem aTN{Bs:Bl}{ps:PS}{ds:List (List SV)}{pv:List PV}(hr:PvR B L ps ds pv)(hB:∀i,Bs[0+i]?=(blP pv)[i]?):∀{xs xs':List SV} {vs:List Value},aW (rnP ps 0) xs=some xs'->aW (fJ B) xs=some vs->aW (fJ Bs) xs'=some vs
 |[],_,_,h,hv=>by cases h;exact hv
 |x::xs,xs',vs,h,hv=>by
  simp only[aW] at h hv;split at h
  ·cases h
  ·rename_i h1;split at h
   ·cases h
   ·rename_i h2;cases h;split at hv
    ·cases hv
    ·rename_i v1;split at hv
     ·cases hv
     ·rename_i v2;cases hv;simp only[aW,aYK hr hB h1 v1,aTN hr hB h2 v2]
def PvN(B:Bl):List PV->List (List SV)->List PV->Prop
 |[],[],[]=>True
 |p::ps,d::ds,q::qs=>(q.b=p.b/\q.z=p.z/\q.A=p.A/\q.C=p.C/\q.V.length=p.V.length/\aW (bU B) d=some q.V)/\PvN B ps ds qs
 |_,_,_=>False
theorem aV2:∀{ps:List PV} {ds:List (List SV)} {qs:List PV},PvN B ps ds qs->qs.flatMap PV.rest=ps.flatMap PV.rest/\blP qs=blP ps
 |[],[],[],_=>⟨rfl,rfl⟩
 |p::ps,d::ds,q::qs,⟨⟨h1,h2,h3,h4,h5,h6⟩,hr⟩=>by obtain⟨e1,e2⟩:=aV2 hr;simp_all[PV.rest,blP]
def aD1:PS->List (List SV)->Bool
 |[],[]=>true
 |(_,_,_,k)::r,d::ds=>match Nat.beq d.length k with
  |true=>aD1 r ds
  |false=>false
 |_,_=>false
theorem a6F:∀{ps:PS} {ds:List (List SV)} {pv:List PV},PvR B L ps ds pv->pv.length=ps.length
 |[],[],[],_=>rfl
 |(i,n,o,k)::r,d::ds,p::ps,⟨_,hr⟩=>by simp[a6F hr]
theorem a02{Bs:Bl}:∀{ps:PS} {ds:List (List SV)} {pv:List PV} {es:List (List SV)} {j:Nat},PvR B L ps ds pv->aD1 ps es=true->es.all (AQ.okC 0)=true->(∀i,Bs[j+i]?=(blP pv)[i]?)->(∀i cs,es[i]?=some cs->∃F,(VE Bs (j+i) cs).P w F)->∃qs,PvN B pv es qs/\jI w ((aTM j es).map (kL Bs)) (qs.map PV.mid)
 |[],[],[],[],j,_,_,_,_,_=>⟨[],trivial,.nil⟩
 |[],[],[],e::es,j,_,hl,_,_,_=>by grind[aD1]
 |(i,n,o,k)::r,d::ds,p::ps,[],j,_,hl,_,_,_=>by grind[aD1]
 |(i,n,o,k)::r,d::ds,p::ps,e::es,j,⟨⟨cs,vs,h1,h2,h3,h4,h5,h6,h7,h8⟩,hr⟩,hl,ho,hB,hc=>by
  simp only[aD1] at hl;split at hl
  ·rename_i he;have he:=pM he;simp only[aP4,FX] at ho;obtain⟨b1,b2⟩:=aYJ hB;obtain⟨qs,q1,q2⟩:=a02 hr hl ho.2 b2 λi cs hi=>by have:=hc (i+1) cs aj;grind
   obtain⟨F,b,z,us,g1,g2,g3⟩:=hc 0 e rfl;have hlen:=lI h3;have g4:=DL ho.1 g2;rw[List.take_zero] at g4;refine⟨⟨p.b,p.z,p.A,us,p.C⟩::qs,⟨⟨rfl,rfl,rfl,rfl,?_,eY (λx v h=>by simpa using gD (B:=[]) B h) g4⟩,q1⟩,.cons (λF hF=>?_) q2⟩
   ·grind[lI]
   ·obtain⟨b',z',us',k1,k2,k3⟩:=hF;rw[show j=j+0 by omega] at b1;simp only[aBL] at g2 k2 k1 b1;rw[b1] at k1;cases k1;rw[g2] at k2;cases k2;exact k3
  ·cases hl
theorem aMJ:∀{ws vs:List Value} {o:Nat},o+ws.length<=vs.length->aDP vs o ws=vs.take o++(ws++vs.drop (o+ws.length))
 |[],vs,o,h=>by simp[aDP]
 |x::ws,vs,o,h=>by
  simp only[aDM] at h;simp only[aDP];rw[aMJ ah];have t1:(vs.set o x).take (o+1)=vs.take o++[x]:=by rw[List.take_add_one,List.getElem?_set_self aa];grind[List.take_set,List.set_eq_of_length_le]
  grind[List.drop_set_of_lt]
theorem a6G:∀{ps:PS} {ds es:List (List SV)} {pv qs:List PV} {M:List Ch} {F:cV},PvR B L ps ds pv->PvN B pv es qs->(∀i∈I2 ps,M[i]?=some .no)->dJ (I2 ps)=true->Sep w (qs.map PV.whole++M.map (kL B)) F->Sep w ((QD L M ps es).map (kL B)) F
 |[],[],[],[],[],M,F,_,_,_,_,h=>h
 |(i,n,o,k)::r,d::ds,e::es,p::ps,q::qs,M,F,⟨⟨cs,vs,h1,h2,h3,h4,h5,h6,h7,h8⟩,hr⟩,⟨⟨n1,n2,n3,n4,n5,n6⟩,hn⟩,hM,ha,h=>by
  simp only[I2,dJ,FX] at ha;have hi:M[i]?=some .no:=hM i (by simp[I2]);have hlt:i<M.length:=(I6.1 hi).1;simp only[QD];refine a6G (ps:=r) (ds:=ds) (es:=es) (pv:=ps) (qs:=qs) hr hn (λj hj=>?_) ha.2 ?_
  ·have hne:i≠j:=λe=>by subst e;have:=aP5.1 ha.1 _ hj;simp at this
   grind[I2]
  ·have h9:Sep w (qs.map PV.whole++(q.whole::M.map (kL B))) F:=Sep.perm List.perm_middle.symm h;obtain⟨F1,F2,g1,g2,gd,gF⟩:=Sep.append.1 h9;refine Sep.append.2 ⟨F1,F2,g1,?_,gd,gF⟩;have hc:QX L i n=cs:=by simp_all[QX]
   have e0:(M.map (kL B)).set i NH=M.map (kL B):=by
    have:(M.map (kL B))[i]?=some NH:=by simp[hi,kL]
    grind[aRZ]
   have e1:Sep w ((M.map (kL B)).set i q.whole) F2:=Sep.put aj aj;rw[MX,hc];refine Sep.imp ?_ e1;refine jI.set i (jI.refl _) λF hF=>⟨p.b,p.z,q.A++(q.V++q.C),h2,?_,by rw[<-n1,<-n2];exact hF⟩;have hlen:=lI h3;have hV:p.V.length=k:=aj
   have hVe:e.length=k:=by grind[lI]
   simp_all[aL9,aDT,aMJ]
 |[],[],e::es,[],_,M,F,_,hn,_,_,_=>by grind[PvN]
 |[],[],[],[],q::qs,M,F,_,hn,_,_,_=>by grind[PvN]
 |(i,n,o,k)::r,d::ds,[],p::ps,qs,M,F,_,hn,_,_,_=>by grind[PvN]
 |(i,n,o,k)::r,d::ds,e::es,p::ps,[],M,F,_,hn,_,_,_=>by grind[PvN]
theorem aV3{x:Ch}:∀{ps:PS} {es:List (List SV)} {M:List Ch},x∈QD L M ps es->x∈M\/∃n cs,x=.box n cs
 |[],_,M,h=>.inl (by simpa[QD] using h)
 |(i,n,o,k)::r,[],M,h=>.inl (by simpa[QD] using h)
 |(i,n,o,k)::r,e::es,M,h=>by
  rcases aV3 (ps:=r) (es:=es) (by simpa[QD] using h) with h|h
  ·rcases rV h with h|h
   ·exact .inl h
   ·exact .inr ⟨_,_,h⟩
  ·exact .inr h
end
def cpS:Stop->Option (Oper×Option Nat×FuncId×List SV×uB×uB×List Fr×Nat×SE×List Ch)
 |.call o d f xs cf cf' K m e L=>some (o,d,f,xs,cf,cf',K,m,e,L)
 |.callp o d f xs cf cf' K m e L=>some (o,d,f,xs,cf,cf',K,m,e,L)
 |_=>none
def dse(d:Option Nat)(v:SV)(e:SE):SE:=match d with
 |some d=>(d,v)::e
 |none=>e
def I3:List Ch->Bool
 |[]=>true
 |.o _::L=>I3 L
 |_::_=>false
theorem YL{B B':Bl}:∀{L:List Ch},I3 L=true->L.map (kL B)=L.map (kL B')
 |[],_=>rfl
 |.o c::L,h=>by simp only[aBJ,kL];rw[YL (L:=L) h]
theorem YM{B:Bl}{R:List Fact}:∀{L:List Ch},I3 L=true->∀x∈L,roF B R x
 |[],_,x,hx=>by cases hx
 |.o c::L,h,x,hx=>by
  rcases vJ.1 hx with hx|hx
  ·subst hx;trivial
  ·exact YM (L:=L) h x hx
theorem aV4{B:Bl}{R:List Fact}:∀{cs:List (List SV)} {k:Nat},∀x∈aTM k cs,roF B R x
 |[],k,x,hx=>by cases hx
 |c::cs,k,x,hx=>by
  rcases vJ.1 hx with hx|hx
  ·subst hx;trivial
  ·exact aV4 x hx
theorem aMK:∀{cs:List (List SV)} {k i:Nat} {c:List SV},cs[i]?=some c->(aTM k cs)[i]?=some (.box (k+i) c)
 |c'::cs,k,0,c,h=>by simp at h;subst h;rfl
 |c'::cs,k,i + 1,c,h=>by have:=aMK (k:=k+1) (show cs[i]?=some c by grind);grind[aTM]
theorem aD2{L:List Chunk}:∀{a b:List Nat},pick L (a++b)=pick L a++pick L b
 |[],b=>rfl
 |i::a,b=>by simp only[aBH,pick,aD2 (a:=a)]
theorem aK8:∀{js:List Nat} {L:List Ch},(L4 L js).length=L.length
 |[],L=>rfl
 |j::js,L=>by simp only[L4];rw[aK8];simp
theorem a6H:∀{js:List Nat} {L:List Ch} {i:Nat},i<L.length->L[i]?=some .no\/i∈js->(L4 L js)[i]?=some .no
 |[],L,i,_,h=>by rcases h with h|h;exact h;cases h
 |j::js,L,i,hl,h=>by simp only[L4];refine a6H aj ?_;grind
theorem a6I{B:Bl}{L:List Ch}:∀{ps:PS} {ds:List (List SV)} {pv:List PV},PvR B L ps ds pv->∀i∈I2 ps,i<L.length
 |[],[],[],_,i,h=>by cases h
 |(i,n,o,k)::r,d::ds,p::ps,⟨⟨cs,vs,h1,_⟩,hr⟩,j,h=>by
  rcases vJ.1 h with h|h
  ·grind
  ·exact a6I hr j h
theorem a03:∀{a b:List Nat},dJ (a++b)=true->dJ a=true
 |[],b,_=>rfl
 |i::a,b,h=>by simp only[aBH,dJ,FX,List.all_append] at h ⊢;exact⟨h.1.1,a03 h.2⟩
theorem aV5{g:Gx}{cf:uB}{L M:List Ch}{j:Nat}{z:Ch}(h:Frz g cf L M)(hn:fX j cf.AR=true):Frz g cf L (M.set j z):=by
 cases cf with
 |d B1 ops l is Lf Lv=>
  intro hD;obtain⟨h1,h2⟩:=h hD;have:=aAF (L:=M) (M:=[]) (j:=j) (z:=z) h2 hn;grind
 |o B1 ops l is Lf Lv ii=>
  intro hD;obtain⟨h1,h2⟩:=h hD;have:=aAF (L:=M) (M:=[]) (j:=j) (z:=z) h2 hn;grind
 |_=>trivial
theorem aV6{g:Gx}{cf:uB}{L L0:List Ch}:∀{ps:PS} {es:List (List SV)} {M:List Ch},Frz g cf L M->((I2 ps).all λj=>fX j cf.AR)=true->Frz g cf L (QD L0 M ps es)
 |[],_,M,h,_=>by grind[QD]
 |(i,n,o,k)::r,[],M,h,_=>by grind[QD]
 |(i,n,o,k)::r,e::es,M,h,hz=>by simp only[I2,aP4,FX] at hz;exact aV6 (ps:=r) (es:=es) (aV5 h hz.1) hz.2
theorem aF9{i:Nat}:∀{js:List Nat},fX i js=true->(js.all λj=>!Nat.beq j i)=true
 |[],_=>rfl
 |j::js,h=>by
  simp only[fX] at h;split at h
  ·cases h
  ·rename_i hb;simp only[aP4,FX,Bool.not_eq_true'];refine⟨?_,aF9 h⟩;grind[pM]
theorem a6J{g:Gx}{s:Stop}{o:Oper}{d:Option Nat}{f:FuncId}{xs:List SV}{cf cf':uB}{K:List Fr}{m:Nat}{e:SE}{L:List Ch}(hs:cpS s=some (o,d,f,xs,cf,cf',K,m,e,L))
  (h:∀fo args ats,o.op=.call {callee:=.value fo,args:=args,argTypes:=ats}->o.dst=d->iL e fo=some (.f f [])->(∃ys,aW (iL e) args.toList=some ys/\nbA ys=xs)->rY g.n d=true->aHY g K m e L o cf cf'->G g K m e L cf):Gs g s:=by
 cases s<;>simp only[cpS] at hs<;>cases hs
 ·exact λfo args ats a1 a2 a3 a4 _ a6 a7=>h fo args ats a1 a2 a3 a4 a6 a7
 ·exact h
section
variable {P:Program} {T:TT} {hT:FY P T} {n:Nat} {c:Ctx} {B0:Bl} {N:Act->World->Prop} {X:Nat->Act->World->Prop} {Q:Act->World->Prop} {K K':List Fr} {m m':Nat} {e e':SE} {L L':List Ch} {cf cf1 cf2:uB} {o:Oper}
theorem cwk{O J ex:Type}{fo:Option O}{kf:O->Option J}{q:J}{d:Option Nat}{f:FuncId}{xs xs0:List SV}{cs0:List (List SV)}{M:List Ch}{sv:O->ex->SV}{cb:O->ex->List (List SV)}{Lr:O->ex->List Ch}(ps:PS)(is:List Nat)
  (hs:cpS (i4 T n K cf m e L)=some (o,d,f,xs,cf1,cf2,K',m',e',L')) (hb:aMI L' ps=some cs0) (hi:aW (λi=>L'[i]?) is=some M) (hx:aW (rnP ps 0) xs=some xs0)
  (hk:(I3 M && (cs0.all (AQ.okC 0) && (dJ (I2 ps++is) && (I2 ps++is).all λj=>fX j cf1.AR)))=true)
  (hn:∀x y,(aD1 ps (cb x y) && ((cb x y).all (AQ.okC 0) && (I3 (Lr x y) && AQ 0 (sv x y))))=true)
  (hc:∀{U:Ctx},HG c U L' (I2 ps++is)->∀{Bs:Bl},Bs.length=ps.length->∀{x},fo=some x->FnS P f U xs0 Bs (aTM 0 cs0++M) sv (λx y=>aTM 0 (cb x y)++Lr x y) x)
  (hF:fo.bind kf=some q)
  (k:∀x,fo=some x->kf x=some q->∀y:ex,G (.mk P T hT n c B0 N X Q) K' m' (dse d (sv x y) e') (QD L' (L4 L' (I2 ps++is)++Lr x y) ps (cb x y)) cf2):G (.mk P T hT n c B0 N X Q) K m e L cf:=by
 refine gW (g:=.mk P T hT n c B0 N X Q) (a6J hs ?_);intro fo' args ats ho hd hf ⟨ys,hys,hxs⟩ hdn hE;simp only[FX] at hk hn;obtain⟨hkM,hkc,hka,hkz⟩:=hk;cases hfo:fo with
 |none=>grind
 |some x=>
  rw[hfo] at hF;have hz2:((I2 ps).all λj=>fX j cf1.AR)=true:=aj
  refine hE ex (λ_=>m') (λy=>dse d (sv x y) e') (λy=>QD L' (L4 L' (I2 ps++is)++Lr x y) ps (cb x y)) (λy=>aV6 (VH _ hkz) hz2) (λB a w next Q' hm hA hS hnext=>?_) (k x hfo hF);generalize hBB:B0S (.mk P T hT n c B0 N X Q) cf1++B=BB at hm hA hS hnext;obtain⟨⟨R,s1,s2⟩,s0⟩:=hS;obtain⟨pv,hpv⟩:=bCA s1 hb;have hBs:(blP pv).length=ps.length:=by grind[blP,a6F]
  have hB0:∀i,(blP pv)[0+i]?=(blP pv)[i]?:=λi=>ae
  have f1:=s1.front (I2 ps++is) hka;have f2:St c w ((pv.map PV.mid++M.map (kL BB))++(pv.flatMap PV.rest++blank (L'.map (kL BB)) (I2 ps++is))) R:=by refine f1.via λF h=>?_;rw[aD2,QW hi] at h;obtain⟨F1,F2,g1,g2,gd,gF⟩:=Sep.append.1 h;obtain⟨F3,F4,g3,g4,gd2,gF2⟩:=Sep.append.1 g1;have g5:=bGK (a01 (F:=F) hpv g3);have g6:Sep w (((pv.map PV.mid++pv.flatMap PV.rest)++M.map (kL BB))++blank (L'.map (kL BB)) (I2 ps++is)) F:=Sep.append.2 ⟨F1,F2,Sep.append.2 ⟨F3,F4,g5,g4,gd2,gF2⟩,g2,gd,gF⟩;refine Sep.perm ?_ g6;grind[List.Perm.append_left,List.Perm.append_right,List.perm_append_comm]
  obtain⟨U,k1,k2,k3,k4,k5,k6,k7⟩:=f2.bB9 s0;subst k1;have hHG:HG c U L' (I2 ps++is):=by
   refine⟨λ{O} _ {s d} h=>k4 (fRd [s.v d.length] d) h,λ{O} _ {s d} i hi hj=>?_,λ{O} _ {s d} i hi=>k5 _ (s2 _ (K9 hi))⟩;have:(blank (L'.map (kL BB)) (I2 ps++is))[i]?=some (fK [s.v d.length] d):=by rw[aF2 (aF9 hj),CH,hi];rfl
   exact k6 _ (List.mem_append_right _ (K9 this)) (fRd [s.v d.length] d) λw F h=>aL.own_rd h
  obtain⟨hcall,hrun⟩:=hc hHG hBs hfo;obtain⟨vs,h1,h2⟩:=aBN hA hys;obtain⟨v,h3,h4⟩:=eH hA hf;simp[fJ,aW] at h3;subst h3;have h1':aW (fJ BB) xs=some vs:=by grind[QU]
  have hst:mM U U.w0 (blP pv) (aTM 0 cs0++M):=by
   refine⟨⟨[],?_,λx hx=>?_⟩,k2⟩
   ·rw[BR,YL (B':=BB) hkM];refine k3.via λF h=>?_;grind[Sep.append,a6E]
   grind[aV4,YM]
  have h5:=hrun vs (aTN hpv hB0 hx h1') hst;have h6:=T8 (w:=U.w0) hcall ho h4 h2;unfold Oper.wp;rw[h6 _ a hA.env,Oper.upon_enter];refine Calls.mono h5 λen w' ⟨v,hv,y,g1,g2⟩=>?_;subst hv;obtain⟨n1,n2,n3,n4⟩:=hn x y;have g3:=xN BB (aSC n4 g1);rw[aRY] at g3;obtain⟨⟨R',t1,t2⟩,t0⟩:=g2;obtain⟨qs,q1,q2⟩:=a02 (w:=w') hpv n1 n2 hB0 λi cs hi=>t1.chunk (ch:=VE (blP pv) (0+i) cs) i (by
   rw[CH,List.getElem?_append_left (by
    have:=(I6.1 (aMK (k:=0) hi)).1;exact this),aMK hi];rfl)
  obtain⟨e1,e2⟩:=aV2 q1;have t3:St U w' (qs.map PV.mid++(Lr x y).map (kL BB)) R':=by refine t1.imp ?_;grind[YL,jI.append,jI.refl]
  have t4:=k7 w' _ R' t3;have t5:St c w' ((QD L' (L4 L' (I2 ps++is)++Lr x y) ps (cb x y)).map (kL BB)) R:=by
   refine t4.via λF h=>?_;refine a6G hpv q1 (λi hi=>?_) (a03 hka) ?_
   ·grind[a6I,aK8,a6H]
   ·rw[BR,J3];have h7:Sep w' ((qs.map PV.mid++qs.flatMap PV.rest)++(blank (L'.map (kL BB)) (I2 ps++is)++(Lr x y).map (kL BB))) F:=by rw[e1];refine Sep.perm ?_ h;grind[List.Perm.append_left,List.perm_append_comm]
    grind[Sep.append,bGL]
  have t6:mM c w' BB (QD L' (L4 L' (I2 ps++is)++Lr x y) ps (cb x y)):=by
   refine⟨⟨R,t5,λz hz=>?_⟩,s0⟩;rcases aV3 hz with hz|⟨_,_,hz⟩
   ·rcases iO.1 hz with hz|hz
    ·rcases QV _ _ hz with hz|hz
     ·grind
     ·subst hz;trivial
    grind[YM]
   ·subst hz;trivial
  rw[hd];cases d with
  |none=>exact hnext y _ _ ⟨[],aj,by grind[dse,Act.put],aj⟩
  |some d=>exact hnext y _ _ ⟨[],aj,by simpa[dse] using hA.of g3 (hA.env.put (by grind[rY,yI]) v),aj⟩
end
section
variable {P:Program} {T:TT} {hT:FY P T} {n:Nat} {c:Ctx} {B0:Bl} {N:Act->World->Prop} {X:Nat->Act->World->Prop} {Q:Act->World->Prop} {K K':List Fr} {m m':Nat} {e e':SE} {L L' Lv:List Ch} {cf cf' cf1 cf2:uB} {o:Oper}
section
variable {O J ex:Type} {fo:Option O} {kf:O->Option J} {q:J} {d:Option Nat} {f:FuncId} {xs xs0:List SV} {M:List Ch} {sv:O->ex->SV} {Lr:O->ex->List Ch}
theorem cw0(is:List Nat)
  (hs:cpS (i4 T n K cf m e L)=some (o,d,f,xs,cf1,cf2,K',m',e',L')) (hi:aW (λi=>L'[i]?) is=some M) (hx:aW (rnP [] 0) xs=some xs0)
  (hk:(I3 M && (dJ is && is.all λj=>fX j cf1.AR))=true) (hn:∀x y,(I3 (Lr x y) && AQ 0 (sv x y))=true)
  (hc:∀{U:Ctx},HG c U L' is->∀{x},fo=some x->FnS P f U xs0 [] M sv Lr x) (hF:fo.bind kf=some q)
  (k:∀x,fo=some x->kf x=some q->∀y:ex,G (.mk P T hT n c B0 N X Q) K' m' (dse d (sv x y) e') (L4 L' is++Lr x y) cf2):G (.mk P T hT n c B0 N X Q) K m e L cf:=
 cwk (cb:=λ_ _=>[]) (Lr:=Lr) [] is hs rfl hi hx (by grind[I2]) (λx y=>by grind[aD1]) (λ{U} h Bs hl x hx=>match Bs,hl with|[],_=>hc (by grind[I2]) hx) hF (λx h1 h2 y=>by grind[QD,I2])
theorem cw1{c1:List SV}{a1:O->ex->List SV}(i1 n1 o1 k1:Nat)(is:List Nat)
  (hs:cpS (i4 T n K cf m e L)=some (o,d,f,xs,cf1,cf2,K',m',e',L')) (hb:aMI L' [(i1,n1,o1,k1)]=some [c1]) (hi:aW (λi=>L'[i]?) is=some M) (hx:aW (rnP [(i1,n1,o1,k1)] 0) xs=some xs0)
  (hk:(I3 M && ([c1].all (AQ.okC 0) && (dJ (i1::is) && (i1::is).all λj=>fX j cf1.AR)))=true) (hn:∀x y,(aD1 [(i1,n1,o1,k1)] [a1 x y] && ([a1 x y].all (AQ.okC 0) && (I3 (Lr x y) && AQ 0 (sv x y))))=true)
  (hc:∀{U:Ctx},HG c U L' (i1::is)->∀{b1:Nat×Nat} {x},fo=some x->FnS P f U xs0 [b1] (.box 0 c1::M) sv (λx y=>.box 0 (a1 x y)::Lr x y) x) (hF:fo.bind kf=some q)
  (k:∀x,fo=some x->kf x=some q->∀y:ex,G (.mk P T hT n c B0 N X Q) K' m' (dse d (sv x y) e') (QD L' (L4 L' (i1::is)++Lr x y) [(i1,n1,o1,k1)] [a1 x y]) cf2):G (.mk P T hT n c B0 N X Q) K m e L cf:=
 cwk (cb:=λx y=>[a1 x y]) (Lr:=Lr) [(i1,n1,o1,k1)] is hs hb hi hx hk hn (λ{U} h Bs hl x hx=>match Bs,hl with|[b1],_=>hc h hx) hF k
theorem cw2{c1 c2:List SV}{a1 a2:O->ex->List SV}(i1 n1 o1 k1:Nat)(i2 n2 o2 k2:Nat)(is:List Nat)
  (hs:cpS (i4 T n K cf m e L)=some (o,d,f,xs,cf1,cf2,K',m',e',L')) (hb:aMI L' [(i1,n1,o1,k1),(i2,n2,o2,k2)]=some [c1,c2]) (hi:aW (λi=>L'[i]?) is=some M) (hx:aW (rnP [(i1,n1,o1,k1),(i2,n2,o2,k2)] 0) xs=some xs0)
  (hk:(I3 M && ([c1,c2].all (AQ.okC 0) && (dJ (i1::i2::is) && (i1::i2::is).all λj=>fX j cf1.AR)))=true) (hn:∀x y,(aD1 [(i1,n1,o1,k1),(i2,n2,o2,k2)] [a1 x y,a2 x y] && ([a1 x y,a2 x y].all (AQ.okC 0) && (I3 (Lr x y) && AQ 0 (sv x y))))=true)
  (hc:∀{U:Ctx},HG c U L' (i1::i2::is)->∀{b1 b2:Nat×Nat} {x},fo=some x->FnS P f U xs0 [b1,b2] (.box 0 c1::.box 1 c2::M) sv (λx y=>.box 0 (a1 x y)::.box 1 (a2 x y)::Lr x y) x) (hF:fo.bind kf=some q)
  (k:∀x,fo=some x->kf x=some q->∀y:ex,G (.mk P T hT n c B0 N X Q) K' m' (dse d (sv x y) e') (QD L' (L4 L' (i1::i2::is)++Lr x y) [(i1,n1,o1,k1),(i2,n2,o2,k2)] [a1 x y,a2 x y]) cf2):G (.mk P T hT n c B0 N X Q) K m e L cf:=
 cwk (cb:=λx y=>[a1 x y,a2 x y]) (Lr:=Lr) [(i1,n1,o1,k1),(i2,n2,o2,k2)] is hs hb hi hx hk hn (λ{U} h Bs hl x hx=>match Bs,hl with|[b1,b2],_=>hc h hx) hF k
theorem cw3{c1 c2 c3:List SV}{a1 a2 a3:O->ex->List SV}(i1 n1 o1 k1:Nat)(i2 n2 o2 k2:Nat)(i3 n3 o3 k3:Nat)(is:List Nat)
  (hs:cpS (i4 T n K cf m e L)=some (o,d,f,xs,cf1,cf2,K',m',e',L')) (hb:aMI L' [(i1,n1,o1,k1),(i2,n2,o2,k2),(i3,n3,o3,k3)]=some [c1,c2,c3]) (hi:aW (λi=>L'[i]?) is=some M) (hx:aW (rnP [(i1,n1,o1,k1),(i2,n2,o2,k2),(i3,n3,o3,k3)] 0) xs=some xs0)
  (hk:(I3 M && ([c1,c2,c3].all (AQ.okC 0) && (dJ (i1::i2::i3::is) && (i1::i2::i3::is).all λj=>fX j cf1.AR)))=true) (hn:∀x y,(aD1 [(i1,n1,o1,k1),(i2,n2,o2,k2),(i3,n3,o3,k3)] [a1 x y,a2 x y,a3 x y] && ([a1 x y,a2 x y,a3 x y].all (AQ.okC 0) && (I3 (Lr x y) && AQ 0 (sv x y))))=true)
  (hc:∀{U:Ctx},HG c U L' (i1::i2::i3::is)->∀{b1 b2 b3:Nat×Nat} {x},fo=some x->FnS P f U xs0 [b1,b2,b3] (.box 0 c1::.box 1 c2::.box 2 c3::M) sv (λx y=>.box 0 (a1 x y)::.box 1 (a2 x y)::.box 2 (a3 x y)::Lr x y) x) (hF:fo.bind kf=some q)
  (k:∀x,fo=some x->kf x=some q->∀y:ex,G (.mk P T hT n c B0 N X Q) K' m' (dse d (sv x y) e') (QD L' (L4 L' (i1::i2::i3::is)++Lr x y) [(i1,n1,o1,k1),(i2,n2,o2,k2),(i3,n3,o3,k3)] [a1 x y,a2 x y,a3 x y]) cf2):G (.mk P T hT n c B0 N X Q) K m e L cf:=
 cwk (cb:=λx y=>[a1 x y,a2 x y,a3 x y]) (Lr:=Lr) [(i1,n1,o1,k1),(i2,n2,o2,k2),(i3,n3,o3,k3)] is hs hb hi hx hk hn (λ{U} h Bs hl x hx=>match Bs,hl with|[b1,b2,b3],_=>hc h hx) hF k
end
theorem bCC(s:AC)(n1 n2:Nat):X5 (s.v n1)=X5 (s.v n2):=by obtain⟨a,c⟩:=s;cases a<;>rfl
theorem bCD(s:AC)(q k n1 n2:Nat):WT q k (s.v n1)=WT q k (s.v n2):=by obtain⟨a,c⟩:=s;cases a<;>rfl
theorem ro{O J:Type}[aL O](E:CO O)(j v nb:Nat){s:AC}{i:Int}{n0:Nat}{ls:List O}{kf:O->Option J}{q:J}(hs:T3 (i4 T n K cf m e L)=some (K',cf',m',e',L'))(hj:L'[j]?=some (ow s ls))(hv:L'[v]?=some (wOf O nb s n0 i.toNat))(hz:fX j cf'.AR=true)(hF:(idx ls i).bind kf=some q)
  (k:∀x,idx ls i=some x->kf x=some q->∀y:E.ex,G (.mk P T hT n c B0 N X Q) K' m' e' (L'.set j .no++([.o (pP (s.v ls.length) ls i.toNat),.box nb (E.cs x y),wOf O nb s ls.length i.toNat]++E.Lx x y)) cf'):G (.mk P T hT n c B0 N X Q) K m e L cf:=by
 refine go hs ?_;cases hi:idx ls i with
 |none=>grind
 |some x=>
  rw[hi] at hF;refine chg (λ_=>m') (λ_=>e') (λy:E.ex=>L'.set j .no++([.o (pP (s.v ls.length) ls i.toNat),.box nb (E.cs x y),wOf O nb s ls.length i.toNat]++E.Lx x y)) (λB a w hm hA hS=>?_) (λy=>aTJ hz) (λy=>k x hi hF y);obtain⟨⟨R,s1,s2⟩,s0⟩:=hS;have hB:B[nb]?=some (X5 (s.v ls.length),WT (aL.n O) i.toNat (s.v ls.length)):=by rw[bCC s ls.length n0,bCD s _ _ ls.length n0];exact s2 _ (K9 hv)
  have hj2:(L'.map (kL B))[j]?=some (fK [s.v ls.length] ls):=by simp[hj,kL]
  obtain⟨ec,h1⟩:=s1.open j hj2 (CI hi).2.2;have hlen:((L'.map (kL B)).set j NH).length=L'.length:=ae
  obtain⟨F,hF'⟩:=h1.chunk (L'.length+2) (by rw[aRX aa];simp;rfl);obtain⟨y,hy2⟩:=E.op (show aL.own w ec x F from hF');have h2:=h1.unpack (L'.length+2) ae (E.pk hy2);have hset:((L'.map (kL B)).set j NH++[pP (s.v ls.length) ls i.toNat,YG (X5 (s.v ls.length)) (WT (aL.n O) i.toNat (s.v ls.length)) ec,fK ec x]).set (L'.length+2) NH=(L'.map (kL B)).set j NH++[pP (s.v ls.length) ls i.toNat,YG (X5 (s.v ls.length)) (WT (aL.n O) i.toNat (s.v ls.length)) ec,NH]:=ae
  rw[hset] at h2;refine⟨y,[],aj,aj,⟨⟨R,?_,λz hz=>?_⟩,s0⟩⟩
  ·have e1:(L'.set j Ch.no).map (kL B)=(L'.map (kL B)).set j NH:=by rw[MX];rfl
   refine h2.imp ?_;rw[uA,BR,BR,<-e1,NG];refine jI.append (jI.refl _) (jI.append (.cons (λ_ h=>h) (.cons (λF h=>⟨_,_,ec,hB,eY (λx v h=>by simpa using gD (B:=[]) B h) hy2,h⟩) (.cons (λ_ h=>h) .nil))) ?_);rw[E.nb x y B];exact jI.refl _
  ·rw[uA];rcases iO.1 hz with hz|hz
   ·rcases rV hz with hz|hz
    ·grind
    ·subst hz;trivial
   ·rcases iO.1 hz with hz|hz
    ·simp at hz;rcases hz with rfl|rfl|rfl
     ·trivial
     ·trivial
     ·exact hB
    ·exact aMH (E.no x y) z hz
theorem nw(O:Type)[aL O](hs:T3 (i4 T n K cf m e L)=some (K',cf',m',e',L'))
  (k:G (.mk P T hT n c B0 N X Q) K' m' e' (L'++[ow ⟨none,0⟩ ([]:List O)]) cf'):G (.mk P T hT n c B0 N X Q) K m e L cf:=by
 refine go hs ?_;refine chg (λ_:Unit=>m') (λ_=>e') (λ_=>L'++[ow ⟨none,0⟩ ([]:List O)]) (λB a w hm hA hS=>?_) (λ_=>rL _) (λ_=>k);obtain⟨⟨R,s1,s2⟩,s0⟩:=hS;refine⟨(),[],aj,aj,⟨⟨R,?_,λz hz=>?_⟩,s0⟩⟩
 ·rw[uA,BR];exact St.more s1 (eJ.refl _ _) ⟨F0,⟨none,0,rfl,kY _,lX _,.inl ⟨rfl,rfl,λ_ _ h=>h⟩⟩,λ_ _ h=>h.elim⟩
 ·rw[uA];rcases iO.1 hz with hz|hz
  ·grind
  ·simp at hz;subst hz;trivial
theorem uC{Z:Act->World->Prop}(O:Type)[aL O](kk:∀a w,pQ n c B0 m e (L++[ow ⟨none,0⟩ ([]:List O)]) a w->Z a w):∀a w,pQ n c B0 m e L a w->Z a w:=by
 intro a w ⟨B,hm,hA,hS⟩;refine kk a w ⟨B,hm,hA,?_⟩;obtain⟨⟨R,s1,s2⟩,s0⟩:=hS;refine⟨⟨R,?_,λz hz=>?_⟩,s0⟩
 ·rw[BR];exact St.more s1 (eJ.refl _ _) ⟨F0,⟨none,0,rfl,kY _,lX _,.inl ⟨rfl,rfl,λ_ _ h=>h⟩⟩,λ_ _ h=>h.elim⟩
 ·rcases iO.1 hz with hz|hz
  ·grind
  ·simp at hz;subst hz;trivial
end
def AC.sub(s:AC)(n a:Nat):AC:=⟨if s.c=a then s.a else s.a.map (·.add (a*n)),s.c-a⟩
theorem UA{O:Type}{l:List O}{s:AC}{n a b k:Nat}(h1:a<=b)(h2:b<=l.length):iU n a b (s.v k)=(s.sub n a).v ((l.take b).drop a).length:=by rw[AT h1 h2];rfl
section
variable {P:Program} {T:TT} {hT:FY P T} {n:Nat} {c:Ctx} {B0:Bl} {N:Act->World->Prop} {X:Nat->Act->World->Prop} {Q:Act->World->Prop} {K K':List Fr} {m m':Nat} {e e':SE} {L L' Lv:List Ch} {cf cf' cf1 cf2:uB} {o:Oper} {d:Nat}
theorem cpc{O:Type}[aL O](j:Nat){s:AC}{l:List O}(hs:T3 (i4 T n K cf m e L)=some (K',cf',m',e',L'))(hj:L'[j]?=some (ow s l))(k:l.length<=s.c->G (.mk P T hT n c B0 N X Q) K' m' e' L' cf'):G (.mk P T hT n c B0 N X Q) K m e L cf:=by refine go hs ?_;refine chg (λ_:PLift (l.length<=s.c)=>m') (λ_=>e') (λ_=>L') (λB a w hm hA hS=>?_) (λ_=>by simpa using rL (L:=L') []) (λh=>k h.down);obtain⟨⟨R,s1,s2⟩,s0⟩:=hS;obtain⟨F,hF⟩:=s1.chunk (ch:=fK [s.v l.length] l) j (by simp[hj,kL]);obtain⟨ad,cp,h1,h2⟩:=TZ (show aL.own w [s.v l.length] l F from hF);simp only[AC.v,Value.slice.injEq] at h1;exact⟨⟨aa⟩,[],aj,aj,⟨⟨R,aj,aj⟩,s0⟩⟩
section
variable {x y z u:Operand} {t el sz:Nat} {k1 k2 k3:IntKind} {i j p:Int} {O J:Type} [aL O] {A:Option J} {q:J} {s:AC} {l:List O} {b1 b2:Bool} {n1:Nat} {z1 z2:List SV} {kt:TK}
theorem aGA(hc:l.length<=s.c)(q0_:opS (i4 T n K cf m e L)=some (o,Lv,cf1,cf2,K',m',e',L')/\(o.op,o.dst)=(.slice t x (some y) none none,some d)/\AU T t=some ⟨.sl el,b1,n1,z1⟩/\AU T el=some ⟨kt,b2,sz,z2⟩/\iL e' x=some (.h s l.length)/\(iL e' y).bind rX=some (k1,i))(hF:need (0<=i/\i<=(l.length:Int)) A=some q)
  (kk:A=some q->(i.toNat<=l.length/\l.length<=l.length)->G (.mk P T hT n c B0 N X Q) K' m' ((d,.h (s.sub sz i.toNat) ((l.take l.length).drop i.toNat).length)::e') L' cf2):G (.mk P T hT n c B0 N X Q) K m e L cf:=by
 obtain⟨hs,ho,ht,he,hx,hy⟩:=q0_;have hop:o.op=.slice t x (some y) none none:=dA Prod.fst ho;have hb:=(lY hF).1;have hb2:i.toNat<=l.length/\l.length<=l.length:=aa
 refine pu hs (dA Prod.snd ho) (λB a w hA hS=>⟨iU sz i.toNat l.length (s.v l.length),by grind[UA,fJ,gV,bU],λ_ a hA'=>?_⟩) (kk (lY hF).2 hb2);obtain⟨h0,h1⟩:=hb;have h5:max i 0=i:=aa
 simp[execOp,hop,Instr.sliceAt,Instr.slice,run_underlying (I1 ht hT),Instr.sliceBounds,hA'.eval (hdB hA hx),hA'.eval (yF hA hy),Instr.sliceBound,asIntOf,hT.size _ _ he,h0,h1,hc,h5,iU]
theorem aV7(hc:l.length<=s.c)(hs:opS (i4 T n K cf m e L)=some (o,Lv,cf1,cf2,K',m',e',L'))(ho:(o.op,o.dst)=(.slice t x none (some z) none,some d))(ht:AU T t=some ⟨.sl el,b1,n1,z1⟩)(he:AU T el=some ⟨kt,b2,sz,z2⟩)(hx:iL e' x=some (.h s l.length))(hz:(iL e' z).bind rX=some (k2,j))(hF:need (0<=j/\j<=(l.length:Int)) A=some q)
  (kk:A=some q->(0<=j.toNat/\j.toNat<=l.length)->G (.mk P T hT n c B0 N X Q) K' m' ((d,.h (s.sub sz 0) ((l.take j.toNat).drop 0).length)::e') L' cf2):G (.mk P T hT n c B0 N X Q) K m e L cf:=by
 have hop:o.op=.slice t x none (some z) none:=dA Prod.fst ho;have hb:=(lY hF).1;have hb2:0<=j.toNat/\j.toNat<=l.length:=aa
 refine pu hs (dA Prod.snd ho) (λB a w hA hS=>⟨iU sz 0 j.toNat (s.v l.length),by grind[UA,fJ,gV,bU],λ_ a hA'=>?_⟩) (kk (lY hF).2 hb2);obtain⟨h0,h1⟩:=hb;have h3:j<=(s.c:Int):=aa
 have h5:max j 0=j:=aa
 simp[execOp,hop,Instr.sliceAt,Instr.slice,run_underlying (I1 ht hT),Instr.sliceBounds,hA'.eval (hdB hA hx),hA'.eval (yF hA hz),Instr.sliceBound,asIntOf,hT.size _ _ he,h0,h3,h5,iU]
theorem bGM(hc:l.length<=s.c)(hs:opS (i4 T n K cf m e L)=some (o,Lv,cf1,cf2,K',m',e',L'))(ho:(o.op,o.dst)=(.slice t x none (some z) (some u),some d))(ht:AU T t=some ⟨.sl el,b1,n1,z1⟩)(he:AU T el=some ⟨kt,b2,sz,z2⟩)(hx:iL e' x=some (.h s l.length))(hz:(iL e' z).bind rX=some (k2,j))(hu:(iL e' u).bind rX=some (k3,p))(hF:need (0<=j/\j<=p/\p<=(l.length:Int)) A=some q)
  (kk:A=some q->(0<=j.toNat/\j.toNat<=p.toNat/\p.toNat<=l.length)->G (.mk P T hT n c B0 N X Q) K' m' ((d,.h ⟨(s.sub sz 0).a,p.toNat⟩ ((l.take j.toNat).drop 0).length)::e') L' cf2):G (.mk P T hT n c B0 N X Q) K m e L cf:=by
 have hop:o.op=.slice t x none (some z) (some u):=dA Prod.fst ho;have hb:=(lY hF).1;have hb2:0<=j.toNat/\j.toNat<=p.toNat/\p.toNat<=l.length:=aa
 have hl:=AT (l:=l) (a:=0) (b:=j.toNat) aa aa;refine pu hs (dA Prod.snd ho) (λB a w hA hS=>⟨AC.v ⟨(s.sub sz 0).a,p.toNat⟩ ((l.take j.toNat).drop 0).length,by simp[fJ,gV,bU],λ_ a hA'=>?_⟩) (kk (lY hF).2 hb2);obtain⟨h0,h1,h2⟩:=hb;have h3:p<=(s.c:Int):=aa
 have h4:0<=p:=aa
 have h5:max j 0=j:=aa
 have h6:max p 0=p:=aa
 rw[hl];have hadd:s.a.map (λx=>x.add 0)=s.a:=by simp[Addr.add]
 by_cases hp:p=0
 ·subst hp;simp[execOp,hop,Instr.sliceAt,Instr.slice,run_underlying (I1 ht hT),Instr.sliceBounds,hA'.eval (hdB hA hx),hA'.eval (yF hA hz),hA'.eval (yF hA hu),Instr.sliceBound,asIntOf,hT.size _ _ he,h0,h1,h3,h4,h5,h6,AC.sub,hadd]
 ·simp[execOp,hop,Instr.sliceAt,Instr.slice,run_underlying (I1 ht hT),Instr.sliceBounds,hA'.eval (hdB hA hx),hA'.eval (yF hA hz),hA'.eval (yF hA hu),Instr.sliceBound,asIntOf,hT.size _ _ he,h0,h1,h3,h4,h5,h6,AC.sub,hadd]
end
end
section
variable {P:Program} {T:TT} {hT:FY P T} {n:Nat} {c:Ctx} {B0:Bl} {N:Act->World->Prop} {X:Nat->Act->World->Prop} {Q:Act->World->Prop} {K K':List Fr} {m m':Nat} {e e':SE} {L L' Lv:List Ch} {cf cf' cf1 cf2:uB} {o:Oper} {d:Nat}
theorem bCE{O:Type}[aL O]{B:Bl}{w:World}{R:List Fact}{j a b sz:Nat}{s s':AC}{l l':List O}(hn:aL.n O=sz)(hj:L[j]?=some (ow s l))(hb:a<=b/\b<=l.length)(hl:(l.take b).drop a=l')(hs:∀w F,aL.own w [s.v l.length] l F->∃F',aL.own w [s'.v l'.length] l' F'/\∀b o,F' b o->F b o)(hS:mM c w B L):mM c w B (L.set j (ow s' l')):=by
 obtain⟨⟨R,s1,s2⟩,s0⟩:=hS;refine⟨⟨R,?_,λz hz=>?_⟩,s0⟩
 ·rw[MX];refine s1.aDO j (by rw[CH,hj];rfl) λF hF=>?_;obtain⟨F',h1,h2⟩:=hs w F hF;exact⟨F',F0,eJ.refl _ _,λ_ _ h=>h.elim,h1,λb o h=>.inl (h2 b o h)⟩
 ·rcases rV hz with hz|hz
  ·grind
  ·subst hz;trivial
theorem a6K{O:Type}[aL O]{s:AC}{l l':List O}{sz a b:Nat}(hn:aL.n O=sz)(hb:a<=b/\b<=l.length)(hl:(l.take b).drop a=l'):∀w F,aL.own w [s.v l.length] l F->∃F',aL.own w [(s.sub sz a).v l'.length] l' F'/\∀b o,F' b o->F b o:=by intro w F h;obtain⟨F',h1,h2⟩:=a0E hn h hb.1 hb.2;grind[UA]
theorem a6L{O:Type}[aL O]{s:AC}{l l':List O}{sz b p:Nat}(hn:aL.n O=sz)(hb:0<=b/\b<=p/\p<=l.length)(hl:(l.take b).drop 0=l'):∀w F,aL.own w [s.v l.length] l F->∃F',aL.own w [AC.v ⟨(s.sub sz 0).a,p⟩ l'.length] l' F'/\∀b o,F' b o->F b o:=by
 intro w F h;obtain⟨F',h1,h2⟩:=a5A hn h hb.1 hb.2.1 hb.2.2;have hadd:s.a.map (λx=>x.add 0)=s.a:=by simp[Addr.add]
 have hln:=AT (l:=l) (a:=0) (b:=b) aa aa;rw[hl] at hln h1;refine⟨F',?_,h2⟩;simp_all[a9Y,AC.sub]
theorem poR{Z:Act->World->Prop}{O:Type}[aL O](j a b:Nat){sz:Nat}{s:AC}{l l':List O}(hn:aL.n O=sz)(hj:L[j]?=some (ow s l))(hb:a<=b/\b<=l.length)(hl:(l.take b).drop a=l')
  (kk:∀a' w,pQ n c B0 m e (L.set j (ow (s.sub sz a) l')) a' w->Z a' w):∀a' w,pQ n c B0 m e L a' w->Z a' w:=by
 intro a' w ⟨B,hm,hA,hS⟩;exact kk a' w ⟨B,hm,hA,bCE (R:=[]) hn hj hb hl (a6K hn hb hl) hS⟩
theorem pmR{Z:Act->World->Prop}{O:Type}[aL O](j b p:Nat){sz:Nat}{s:AC}{l l':List O}(hn:aL.n O=sz)(hj:L[j]?=some (ow s l))(hb:0<=b/\b<=p/\p<=l.length)(hl:(l.take b).drop 0=l')
  (kk:∀a' w,pQ n c B0 m e (L.set j (ow ⟨(s.sub sz 0).a,p⟩ l')) a' w->Z a' w):∀a' w,pQ n c B0 m e L a' w->Z a' w:=by
 intro a' w ⟨B,hm,hA,hS⟩;exact kk a' w ⟨B,hm,hA,bCE (R:=[]) hn hj ⟨aa,aa⟩ hl (a6L hn hb hl) hS⟩
theorem aYM{O:Type}{l xs:List O}{k a n:Nat}(h:k<=n/\n<=l.length)(ha:a<=l.length):k<=n/\n<=(dL l a xs).length:=⟨h.1,by grind[gZ]⟩
theorem aTO{O:Type}{l xs:List O}{k a:Nat}(h:k<=a)(ha:a<=l.length):((dL l a xs).take k).drop 0=(l.take k).drop 0:=by grind[dL]
def AC.bAO(s:AC)(n a p:Nat):AC:=⟨if p=a then s.a else s.a.map (·.add (a*n)),p-a⟩
section
variable {x y z:Operand} {t el sz:Nat} {zv:Value} {k1 k2:IntKind} {i j:Int} {O J:Type} [aL O] {A:Option J} {q:J} {s:AC} {l:List O} {b1 b2:Bool} {n1:Nat} {z1 z2:List SV} {kt:TK}
theorem ap2[Flat O](p a b:Nat)(hb:a<=b/\b<=l.length)(hs:i4 T n K cf m e L=.op o Lv cf1 cf2 K' m' e' L')(ho:(o.op,o.dst)=(.call {callee:=.builtin .append,args:=#[x,y],argTypes:=#[t,t]},some d))(ht:AU T t=some ⟨.sl el,b1,n1,z1⟩)(he:AU T el=some ⟨kt,b2,sz,z2⟩)(hn:aL.n O=sz)(hp:L'[p]?=some (ow s l))(hz:fX p cf1.AR=true)(hx:iL e' x=some (.h (s.sub sz 0) ((l.take a).drop 0).length))(hy:iL e' y=some (.h (s.sub sz b) ((l.take l.length).drop b).length))
  (k:(0<=a+(l.length-b)/\a+(l.length-b)<=(dL l a (l.drop b)).length)->G (.mk P T hT n c B0 N X Q) K' m' ((d,.h (s.sub sz 0) (((dL l a (l.drop b)).take (a+(l.length-b))).drop 0).length)::e') (L'.set p (ow s (dL l a (l.drop b)))) cf2):G (.mk P T hT n c B0 N X Q) K m e L cf:=by
 have hlen:(dL l a (l.drop b)).length=l.length:=gZ aa;have hk:0<=a+(l.length-b)/\a+(l.length-b)<=(dL l a (l.drop b)).length:=aa
 refine gW (g:=.mk P T hT n c B0 N X Q) ?_;rw[hs];intro hdn _ hE;refine hE Unit (λ_=>m') (λ_=>(d,.h (s.sub sz 0) (((dL l a (l.drop b)).take (a+(l.length-b))).drop 0).length)::e') (λ_=>L'.set p (ow s (dL l a (l.drop b)))) (λ_=>LB hz) (λB act w next Q' hm hA hS hnext=>?_) (λ_=>k hk);obtain⟨⟨R,s1,s2⟩,s0⟩:=hS;have hx2:ev (vE (B0S (.mk P T hT n c B0 N X Q) cf1++B) e') x=some (iU sz 0 a (s.v l.length)):=by rw[hdB hA hx,UA (lX a) (xM hb.1 hb.2)]
 have hy2:ev (vE (B0S (.mk P T hT n c B0 N X Q) cf1++B) e') y=some (iU sz b l.length (s.v l.length)):=by rw[hdB hA hy,UA hb.2 (kY _)]
 have hop:o.op=.call {callee:=.builtin .append,args:=#[x,y],argTypes:=#[t,t]}:=dA Prod.fst ho;have hd:o.dst=some d:=dA Prod.snd ho;obtain⟨v,w',k1,rfl,k2⟩:=aX8 p s1 (by rw[CH,hp];rfl) hn hb.1 hb.2 (I1 ht hT) (hT.size _ _ he) hop hx2 hy2;unfold Oper.wp;rw[k1 _ act hA.env,Oper.upon_value,hd];have hv:fJ (B0S (.mk P T hT n c B0 N X Q) cf1++B) (.h (s.sub sz 0) (((dL l a (l.drop b)).take (a+(l.length-b))).drop 0).length)=some (iU sz 0 (a+(l.length-b)) (s.v l.length)):=by grind[UA,fJ,gV,bU]
 refine hnext () _ _ ⟨[],aj,by simpa using hA.of hv (hA.env.put (by grind[rY,yI]) _),?_⟩;rw[uA];refine⟨⟨R,?_,λz hz=>?_⟩,s0⟩
 ·rw[MX];show St c w' ((L'.map _).set p (fK [s.v (dL l a (l.drop b)).length] _)) R;grind
 ·rcases rV hz with hz|hz
  ·grind
  ·subst hz;trivial
theorem a6M(p k':Nat)(hk:k'<=l.length){l0:List O}(h0:l0.length=k')(hs:opS (i4 T n K cf m e L)=some (o,Lv,cf1,cf2,K',m',e',L'))(ho:(o.op,o.dst)=(.slice t x (some y) (some z) none,some d))(ht:AU T t=some ⟨.sl el,b1,n1,z1⟩)(he:AU T el=some ⟨kt,b2,sz,z2⟩)(hn:aL.n O=sz)(hp:Lv[p]?=some (ow s l))(hx:iL e' x=some (.h (s.sub sz 0) l0.length))(hy:(iL e' y).bind rX=some (k1,i))(hz:(iL e' z).bind rX=some (k2,j))(hF:need (0<=i/\i<=j/\j<=(l.length:Int)) A=some q)
  (kk:A=some q->(i.toNat<=j.toNat/\j.toNat<=l.length)->G (.mk P T hT n c B0 N X Q) K' m' ((d,.h (s.sub sz i.toNat) ((l.take j.toNat).drop i.toNat).length)::e') L' cf2):G (.mk P T hT n c B0 N X Q) K m e L cf:=by
 have hop:o.op=.slice t x (some y) (some z) none:=dA Prod.fst ho;have hb:=(lY hF).1;have hb2:i.toNat<=j.toNat/\j.toNat<=l.length:=aa
 refine pu hs (dA Prod.snd ho) (λB a w hA hS=>⟨iU sz i.toNat j.toNat (s.v l.length),by grind[UA,fJ,gV,bU],?_⟩) (kk (lY hF).2 hb2);obtain⟨⟨R,s1,s2⟩,s0⟩:=hS;have hx2:ev (vE B e') x=some (iU sz 0 k' (s.v l.length)):=by rw[hdB hA hx,h0];rfl
 exact aX9 p s1 (by rw[CH,hp];rfl) hn (I1 ht hT) (hT.size _ _ he) hb hop hx2 (yF hA hy) (yF hA hz)
theorem clr[Flat O](p a b:Nat)(zd:O)(hb:a<=b/\b<=l.length)(hinf:YH P el sz zv)(hzs:zv.cells.size=sz)(hzd:∀w,aL.rd F0 w zv.cells.toList zd)(hone:(zv.cells.toList.all λv=>v.oneCell')=true)(hs:i4 T n K cf m e L=.op o Lv cf1 cf2 K' m' e' L')(ho:(o.op,o.dst)=(.call {callee:=.builtin .clear,args:=#[x],argTypes:=#[t]},none))(ht:AU T t=some ⟨.sl el,b1,n1,z1⟩)(hn:aL.n O=sz)(hp:L'[p]?=some (ow s l))(hz:fX p cf1.AR=true)(hx:iL e' x=some (.h (s.sub sz a) ((l.take b).drop a).length))
  (k:G (.mk P T hT n c B0 N X Q) K' m' e' (L'.set p (ow s (dL l a (List.replicate (b-a) zd)))) cf2):G (.mk P T hT n c B0 N X Q) K m e L cf:=by
 have hlen:(dL l a (List.replicate (b-a) zd)).length=l.length:=gZ aa;refine gW (g:=.mk P T hT n c B0 N X Q) ?_;rw[hs];intro hdn _ hE;refine hE Unit (λ_=>m') (λ_=>e') (λ_=>L'.set p (ow s (dL l a (List.replicate (b-a) zd)))) (λ_=>LB hz) (λB act w next Q' hm hA hS hnext=>?_) (λ_=>k);obtain⟨⟨R,s1,s2⟩,s0⟩:=hS;have hx2:ev (vE (B0S (.mk P T hT n c B0 N X Q) cf1++B) e') x=some (iU sz a b (s.v l.length)):=by grind[hdB,UA]
 have hop:o.op=.call {callee:=.builtin .clear,args:=#[x],argTypes:=#[t]}:=dA Prod.fst ho;have hd:o.dst=none:=dA Prod.snd ho;obtain⟨v,w',k1,rfl,k2⟩:=a5D zd p s1 (by rw[CH,hp];rfl) hn hb.1 hb.2 (I1 ht hT) hinf hzs hzd (λv hv=>aP5.1 hone v hv) hop hx2;unfold Oper.wp;rw[k1 _ act hA.env,Oper.upon_value,hd];refine hnext () _ _ ⟨[],aj,by grind[Act.put],?_⟩;rw[uA];refine⟨⟨R,?_,λz hz=>?_⟩,s0⟩
 ·rw[MX];show St c w' ((L'.map _).set p (fK [s.v (dL l a (List.replicate (b-a) zd)).length] _)) R;grind
 ·rcases rV hz with hz|hz
  ·grind
  ·subst hz;trivial
theorem aYN{u:Operand}{k3:IntKind}{pz:Int}(hc:l.length<=s.c)(hs:opS (i4 T n K cf m e L)=some (o,Lv,cf1,cf2,K',m',e',L'))(ho:(o.op,o.dst)=(.slice t x (some y) (some z) (some u),some d))(ht:AU T t=some ⟨.sl el,b1,n1,z1⟩)(he:AU T el=some ⟨kt,b2,sz,z2⟩)(hx:iL e' x=some (.h s l.length))(hy:(iL e' y).bind rX=some (k1,i))(hz:(iL e' z).bind rX=some (k2,j))(hu:(iL e' u).bind rX=some (k3,pz))(hF:need (0<=i/\i<=j/\j<=pz/\pz<=(l.length:Int)) A=some q)
  (kk:A=some q->(i.toNat<=j.toNat/\j.toNat<=pz.toNat/\pz.toNat<=l.length)->G (.mk P T hT n c B0 N X Q) K' m' ((d,.h (s.bAO sz i.toNat pz.toNat) ((l.take j.toNat).drop i.toNat).length)::e') L' cf2):G (.mk P T hT n c B0 N X Q) K m e L cf:=by
 have hop:o.op=.slice t x (some y) (some z) (some u):=dA Prod.fst ho;have hb:=(lY hF).1;have hb2:i.toNat<=j.toNat/\j.toNat<=pz.toNat/\pz.toNat<=l.length:=aa
 have hl:=AT (l:=l) (a:=i.toNat) (b:=j.toNat) aa aa;refine pu hs (dA Prod.snd ho) (λB a w hA hS=>⟨AC.v (s.bAO sz i.toNat pz.toNat) ((l.take j.toNat).drop i.toNat).length,by simp[fJ,gV,bU],λ_ a hA'=>?_⟩) (kk (lY hF).2 hb2);obtain⟨h0,h1,h2,h2'⟩:=hb;have h3:pz<=(s.c:Int):=aa
 have h4:0<=pz:=aa
 have h4':0<=j:=aa
 have h5:max j 0=j:=aa
 have h6:max pz 0=pz:=aa
 have h7:max i 0=i:=aa
 rw[hl];by_cases hp:pz.toNat=i.toNat
 ·have:pz=i:=aa
  subst this;simp[execOp,hop,Instr.sliceAt,Instr.slice,run_underlying (I1 ht hT),Instr.sliceBounds,hA'.eval (hdB hA hx),hA'.eval (yF hA hy),hA'.eval (yF hA hz),hA'.eval (yF hA hu),Instr.sliceBound,asIntOf,hT.size _ _ he,h0,h1,h2,h3,h4,h4',h5,h6,h7,AC.bAO]
 ·have hp2:¬pz=i:=λh=>hp (by rw[h]);simp[execOp,hop,Instr.sliceAt,Instr.slice,run_underlying (I1 ht hT),Instr.sliceBounds,hA'.eval (hdB hA hx),hA'.eval (yF hA hy),hA'.eval (yF hA hz),hA'.eval (yF hA hu),Instr.sliceBound,asIntOf,hT.size _ _ he,h0,h1,h2,h3,h4,h4',h5,h6,h7,hp,hp2,AC.bAO]
theorem bH8{t2:Nat}(hs:opS (i4 T n K cf m e L)=some (o,Lv,cf1,cf2,K',m',e',L'))(ho:(o.op,o.dst)=(.binOp .shl t x y t2,some d))(hx:(iL e' x).bind rX=some (k1,i))(hy:(iL e' y).bind rX=some (k2,j))(hF:need (0<=j) A=some q)
  (kk:A=some q->G (.mk P T hT n c B0 N X Q) K' m' ((d,.i k1 (aLZ k1 i j))::e') L' cf2):G (.mk P T hT n c B0 N X Q) K m e L cf:=
 pu hs (dA Prod.snd ho) (λB a w hA _=>⟨_,rfl,a4K (dA Prod.fst ho) (yF hA hx) (yF hA hy) (by grind[lY])⟩) (kk (lY hF).2)
theorem eqn{t2:Nat}{ln:Nat}(hs:opS (i4 T n K cf m e L)=some (o,Lv,cf1,cf2,K',m',e',L'))(ho:(o.op,o.dst)=(.binOp .eql t x (.const (.slice none 0 0)) t2,some d))(ht:AU T t=some ⟨.sl el,b1,n1,z1⟩)(hx:iL e' x=some (.h s ln))
  (kt:s.a=none->G (.mk P T hT n c B0 N X Q) K' m' ((d,.l true)::e') L' cf2) (kf:G (.mk P T hT n c B0 N X Q) K' m' ((d,.l false)::e') L' cf2):G (.mk P T hT n c B0 N X Q) K m e L cf:=by
 cases hs':s.a with
 |none=>exact pu hs (dA Prod.snd ho) (λB a w hA _=>⟨_,rfl,aX6 (I1 ht hT) ⟨ln,s.c,aj⟩ (dA Prod.fst ho) (hdB hA hx) rfl⟩) (kt hs')
 |some ad=>exact pu hs (dA Prod.snd ho) (λB a w hA _=>⟨_,rfl,aX7 (I1 ht hT) ⟨ad,ln,s.c,aj⟩ (dA Prod.fst ho) (hdB hA hx) rfl⟩) kf
theorem cln{w:Ctx}{r:List O}(h:bB w s l)(hn:s.a=none)(hF:need (([]:List O).length+l.length<=1073741824) (some (([]:List O)++l))=some r):some ([]:List O)=some r:=by obtain⟨ad,cp,h1,h2,h3,h4⟩:=(show AS w.S0 w.w0 [s.v l.length] l from h);grind[need]
end
section
variable {x y:Operand} {t el sz:Nat} {zv:Value} {b1:Bool} {n1:Nat} {z1:List SV}
theorem MY{O:Type}[aL O](E:CO O)(is:List Nat)(q:O)(ye:E.ex)(hinf:YH P el sz zv)(q0_:i4 T n K cf m e L=.op o Lv cf1 cf2 K' m' e' L'/\(o.op,o.dst)=(.buildSlice t 1 #[(0,x)],some d)/\AU T t=some ⟨.sl el,b1,n1,z1⟩/\aL.n O=sz/\Nat.ble 1 sz=true/\Nat.ble sz 16777216=true/\(iL e' x).map (λv=>nbL (oR v))=some (E.cs q ye)/\(iL e' x).map isCells=some true/\(E.cs q ye).length=sz/\(aW (bU []) (E.cs q ye)).isSome=true/\aW (λi=>L'[i]?) is=some (E.Lx q ye)/\dJ is=true/\(is.all λj=>fX j cf1.AR)=true)
  (k:∀s':AC,G (.mk P T hT n c B0 N X Q) K' m' ((d,.h s' [q].length)::e') (L4 L' is++[ow s' [q]]) cf2):G (.mk P T hT n c B0 N X Q) K m e L cf:=by
 obtain⟨hs,ho,ht,hn,hm,hm2,hx,hxc,hle,hec,hi,ha,hz⟩:=q0_;obtain⟨ec,hec⟩:=aLY.1 hec;refine aTL (l:=[q]) (λs'=>L4 L' is++[ow s' [q]]) hs (dA Prod.snd ho) (λ_=>VH _ hz) (λB a w hA hS=>?_) k;obtain⟨⟨R,s1,s2⟩,s0⟩:=hS;have hecl:ec.length=sz:=by grind[lI]
 cases hxv:iL e' x with
 |none=>grind
 |some xv=>
  rw[hxv] at hx hxc;simp at hx hxc;obtain⟨v,v1,v2⟩:=eH hA hxv;have hcell:aW (bU B) (oR xv)=some ec:=by rw[<-QT,hx];exact eY (λx v h=>by simpa using gD (B:=[]) B h) hec
  have hvc:v.cells.toList=ec:=T7 v1 hcell;have p1:=s1.shift is ha (A':=[fK ec q]) λF hF=>by rw[QW hi,E.nb] at hF;exact Sep.one.2 ((E.pk hec w F).2 hF)
  have hlen:(blank (L'.map (kL B)) is).length=L'.length:=by rw[<-J3];simp[aK8]
  obtain⟨v',w',k1,k2⟩:=a9P (e:=vE B e') (o:=o) (ps:=[(0,x)]) (vs:=[v]) (cells:=ec) [q] p1 [L'.length] rfl ⟨[],by
    simp only[pick,aRX (WS hlen),hlen,Nat.sub_self];grind,aj,⟨aj,rfl⟩⟩ hn (I1 ht hT) hinf rfl hm aj (dA Prod.fst ho) (by simp[evs,v2]) (aL5 (vs:=[v]) (ps:=[(0,x)]) rfl rfl aj (by simp[hvc]))
  have hb2:blank (blank (L'.map (kL B)) is++[fK ec q]) [L'.length]=blank (L'.map (kL B)) is++[NH]:=by simp_all[blank]
  rw[hb2] at k2;obtain⟨s',rfl⟩:=aF8 (v:=v') (l:=[q]) k2 (L'.length+1) aj;refine⟨s',w',k1,⟨⟨R,?_,λz hz=>?_⟩,s0⟩⟩
  ·have k3:=k2.sel ((List.range L'.length)++[L'.length+1]) ?_
   ·refine k3.imp ?_;rw[BR,J3,aD2];refine jI.append ?_ ?_
    ·have:pick (blank (L'.map (kL B)) is++[NH]++[fK [s'.v [q].length] [q]]) (List.range L'.length)=blank (L'.map (kL B)) is:=by
      have gen:∀(M M':List Chunk) (j:Nat),pick (M++M') ((List.range j))=(M++M').take j\/¬j<=(M++M').length:=by
       intro M M' j;by_cases hj:j<=(M++M').length
       ·left;induction j with
        |zero=>rfl
        |succ j ih=>
         grind[List.range_succ,aD2,pick,List.take_add_one]
       omega
      grind
     grind[jI.refl]
    simp_all[pick,kL,jI.refl]
   ·have gen:∀(j:Nat),dJ (List.range' j (L'.length-j)++[L'.length+1])=true:=by
     intro j;generalize hk:L'.length-j=k;induction k generalizing j with
     |zero=>rfl
     |succ k ih=>
      rw[List.range'_succ,aBH];simp only[dJ,FX,aP5,Bool.not_eq_true'];grind[pM]
    have:=gen 0;simp_all[List.range_eq_range']
  ·rcases iO.1 hz with hz|hz
   ·rcases QV _ _ hz with hz|hz
    ·grind
    ·subst hz;trivial
   ·simp at hz;subst hz;trivial
theorem apN{O J:Type}[aL O]{A:Option J}{q:J}{s s2:AC}{l xs:List O}(i j:Nat)(hinf:YH P el sz zv)(hs:i4 T n K cf m e L=.op o Lv cf1 cf2 K' m' e' L')(ho:(o.op,o.dst)=(.call {callee:=.builtin .append,args:=#[x,y],argTypes:=#[t,t]},some d))(q0_:AU T t=some ⟨.sl el,b1,n1,z1⟩/\aL.n O=sz/\zv.cells.size=sz/\L'[i]?=some (ow s l)/\L'[j]?=some (ow s2 xs)/\dJ [i,j]=true/\([i,j].all λj=>fX j cf1.AR)=true/\iL e' x=some (.h s l.length)/\iL e' y=some (.h s2 xs.length))(hF:need (l.length+xs.length<=1073741824) A=some q)
  (k:A=some q->∀s':AC,G (.mk P T hT n c B0 N X Q) K' m' ((d,.h s' (l++xs).length)::e') (L4 L' [i,j]++[ow s' (l++xs)]) cf2):G (.mk P T hT n c B0 N X Q) K m e L cf:=by
 obtain⟨ht,hn,hzs,hi,hj,ha,hz,hx,hy⟩:=q0_;refine aTL (l:=l++xs) (λs'=>L4 L' [i,j]++[ow s' (l++xs)]) hs (dA Prod.snd ho) (λ_=>VH _ hz) (λB a w hA hS=>?_) (k (lY hF).2);obtain⟨⟨R,s1,s2'⟩,s0⟩:=hS;have hp:pick (L'.map (kL B)) [i,j]=[fK [s.v l.length] l,fK [s2.v xs.length] xs]:=by grind[pick,kL]
 obtain⟨v,w',k1,k2⟩:=a9Q [i,j] s1 ha hp hn (I1 ht hT) hinf hzs (lY hF).1 (dA Prod.fst ho) (hdB hA hx) (hdB hA hy);have hlen:(blank (L'.map (kL B)) [i,j]).length=L'.length:=by rw[<-J3];simp[aK8]
 obtain⟨s',rfl⟩:=aF8 k2 L'.length (by rw[aRX (WS hlen),hlen,Nat.sub_self];rfl);refine⟨s',w',k1,⟨⟨R,?_,λz hz=>?_⟩,s0⟩⟩
 ·rw[BR,J3];exact k2
 ·rcases iO.1 hz with hz|hz
  ·rcases QV _ _ hz with hz|hz
   ·grind
   ·subst hz;trivial
  ·simp at hz;subst hz;trivial
end
theorem kb{b cb:Bool}(ss:List Nat)(hb:b=cb)(hs:T3 (i4 T n K cf m e L)=some (K',cf',m',e',L'))(ho:aW (EO e') ss=some (ss.map λ_=>SV.b b))(k:G (.mk P T hT n c B0 N X Q) K' m' (ovr cb e' ss) L' cf'):G (.mk P T hT n c B0 N X Q) K m e L cf:=
 go hs (aMG (λa B hA=>aAE hb ss ho hA) k)
def rhE(v:SV)(e:SE):List (Nat×Nat)->SE
 |[]=>e
 |(k,j)::r=>match EO e k with
  |some (.g cs)=>(k,.g (ovw cs j [v]))::rhE v e r
  |some (.t cs)=>(k,.t (ovw cs j [v]))::rhE v e r
  |_=>rhE v e r
def rhL(v:SV)(L:List Ch):List (Nat×Nat)->List Ch
 |[]=>L
 |(k,j)::r=>match L[k]? with
  |some (.box n cs)=>rhL v (L.set k (.box n (ovw cs j [v]))) r
  |_=>rhL v L r
theorem aK9{B:Bl}{f:Bl->SV->Option Value}{u v:SV}(huv:∀B,f B u=f B v):∀{cs:List SV} {j:Nat},cs[j]?=some u->aW (f B) (ovw cs j [v])=aW (f B) cs
 |[],j,h=>by simp at h
 |x::cs,0,h=>by grind[aW,ovw,aTC]
 |x::cs,j + 1,h=>by show aW (f B) (x::ovw cs j [v])=_;simp only[aW,aK9 (B:=B) huv (show cs[j]?=some u by grind)]
theorem a6N{s:AC}{n0 n1:Nat}(hn:n0=n1){B:Bl}:∀{ps:List (Nat×Nat)} {k:Nat} {x:SV},(∀p∈ps,∃cs,(EO e p.1=some (.g cs)\/EO e p.1=some (.t cs))/\cs[p.2]?=some (.h s n0))->EO (rhE (.h s n1) e ps) k=some x->∃y,EO e k=some y/\fJ B x=fJ B y
 |[],k,x,_,h=>⟨x,h,rfl⟩
 |(k',j)::r,k,x,hp,h=>by
  have ih:=λh=>a6N hn (B:=B) (ps:=r) (k:=k) (x:=x) (λp hp'=>hp p (BS _ hp')) h;obtain⟨cs,h1,h2⟩:=hp (k',j) ae;have hc:∀B,bU B (.h s n0)=bU B (.h s n1):=λB=>by rw[hn]
  have hg:∀B,gV B (.h s n0)=gV B (.h s n1):=λB=>by rw[hn]
  rcases h1 with h1|h1
  ·simp only[rhE,h1,EO] at h;split at h
   ·rename_i hb;cases h;have:=pM hb;subst this;exact⟨_,h1,by simp only[fJ,gV,aK9 (f:=bU) hc h2]⟩
   grind
  ·simp only[rhE,h1,EO] at h;split at h
   ·rename_i hb;cases h;have:=pM hb;subst this;exact⟨_,h1,by simp only[fJ,aK9 (f:=gV) hg h2]⟩
   grind
theorem a05{s:AC}{n0 n1:Nat}(hn:n0=n1){B:Bl}{w:World}{R:List Fact}:∀{ps:List (Nat×Nat)} {L:List Ch},(∀p∈ps,∃k cs,L[p.1]?=some (.box k cs)/\cs[p.2]?=some (.h s n0))->dJ (ps.map (·.1))=true->jI w (L.map (kL B)) ((rhL (.h s n1) L ps).map (kL B))/\((∀x∈L,roF B R x)->∀x∈rhL (.h s n1) L ps,roF B R x)
 |[],L,_,_=>⟨jI.refl _,λh=>h⟩
 |(i,j)::r,L,hp,ha=>by
  obtain⟨k,cs,h1,h2⟩:=hp (i,j) ae;have hc:∀B,bU B (.h s n0)=bU B (.h s n1):=λB=>by rw[hn]
  simp only[aBJ,dJ,FX] at ha;have ih:=a05 hn (B:=B) (w:=w) (R:=R) (ps:=r) (L:=L.set i (.box k (ovw cs j [.h s n1]))) (λp hp'=>by
   obtain⟨k',cs',h3,h4⟩:=hp p (BS _ hp');have hne:i≠p.1:=λhe=>by have:=aP5.1 ha.1 p.1 (List.mem_map_of_mem hp');simp_all
   exact⟨k',cs',aj,h4⟩) ha.2
  simp only[rhL,h1];refine⟨?_,λh=>ih.2 λx hx=>?_⟩
  ·have h5:jI w (L.map (kL B)) ((L.set i (.box k (ovw cs j [.h s n1]))).map (kL B)):=by rw[MX];exact jI.put (a:=VE B k cs) (b:=VE B k (ovw cs j [.h s n1])) i (by rw[CH,h1];rfl) λF ⟨b,z,vs,q1,q2,q3⟩=>⟨b,z,vs,q1,by rw[aK9 (f:=bU) hc h2];exact q2,q3⟩
   have tr:∀{A B C:List Chunk},jI w A B->jI w B C->jI w A C:=by
    intro A B C h1;induction h1 generalizing C with
    |nil=>simp
    |cons h t ih=>intro h2;cases h2 with|cons h' t'=>exact .cons (λF hF=>h' F (h F hF)) (ih t')
   grind
  ·rcases rV hx with hx|hx
   ·exact h x hx
   ·subst hx;trivial
def atE(e:SE)(p:Nat×Nat):Option SV:=match EO e p.1 with
 |some (.g cs)=>cs[p.2]?
 |some (.t cs)=>cs[p.2]?
 |_=>none
def atL(L:List Ch)(p:Nat×Nat):Option SV:=match L[p.1]? with
 |some (.box _ cs)=>cs[p.2]?
 |_=>none
theorem a06{B:Bl}{a:Act}{w:World}(s:AC){n0 n1:Nat}(hn:n0=n1){ps qs:List (Nat×Nat)}(hp:aW (atE e) ps=some (ps.map λ_=>.h s n0))(hq:aW (atL L) qs=some (qs.map λ_=>.h s n0))(ha:dJ (qs.map (·.1))=true)(hA:gU n B e a)(hS:mM c w B L):gU n B (rhE (.h s n1) e ps) a/\mM c w B (rhL (.h s n1) L qs):=by
 have key:∀{γ:Type} {f:γ->Option SV} {ps:List γ},aW f ps=some (ps.map λ_=>.h s n0)->∀p∈ps,f p=some (.h s n0):=by
  intro γ f ps;induction ps with
  |nil=>simp
  |cons q ps ih=>
   grind[aW]
 refine⟨⟨hA.d,hA.size,λk x hk=>?_⟩,?_⟩
 ·obtain⟨y,h1,h2⟩:=a6N hn (B:=B) (λp hp'=>by
   have:=key hp p hp';unfold atE at this;grind) hk
  obtain⟨v,h3,h4⟩:=hA.get k y h1;grind
 ·obtain⟨⟨R,s1,s2⟩,s0⟩:=hS;obtain⟨h1,h2⟩:=a05 hn (B:=B) (w:=w) (R:=R) (L:=L) (λp hp'=>by
   have:=key hq p hp';unfold atL at this;split at this
   ·rename_i k cs hc;exact⟨k,cs,hc,this⟩
   grind) ha
  exact⟨⟨R,s1.imp h1,h2 s2⟩,s0⟩
theorem aD3{g:Gx}{cf:uB}{v:SV}:∀{qs:List (Nat×Nat)} {L M:List Ch},Frz g cf L M->((qs.map (·.1)).all λj=>fX j cf.AR)=true->Frz g cf L (rhL v M qs)
 |[],L,M,h,_=>h
 |(i,j)::r,L,M,h,hz=>by
  simp only[aBJ,aP4,FX] at hz;simp only[rhL];split
  ·exact aD3 (qs:=r) (aV5 h hz.1) hz.2
  ·exact aD3 (qs:=r) h hz.2
theorem rh(s:AC){n0 n1:Nat}(hn:n0=n1)(ps qs:List (Nat×Nat))(hp:aW (atE e) ps=some (ps.map λ_=>.h s n0))(hq:aW (atL L) qs=some (qs.map λ_=>.h s n0))(ha:(dJ (qs.map (·.1)) && (qs.map (·.1)).all λj=>fX j cf.AR)=true)
  (k:G (.mk P T hT n c B0 N X Q) K m (rhE (.h s n1) e ps) (rhL (.h s n1) L qs) cf):G (.mk P T hT n c B0 N X Q) K m e L cf:=by
 rw[FX] at ha;refine chg (λ_:Unit=>m) (λ_=>rhE (.h s n1) e ps) (λ_=>rhL (.h s n1) L qs) (λB a w hm hA hS=>?_) (λ_=>aD3 (by simpa using rL (L:=L) []) ha.2) (λ_=>k);obtain⟨h1,h2⟩:=a06 s hn hp hq ha.1 hA hS;simp_all
theorem lW{Z:Act->World->Prop}(s:AC){n0 n1:Nat}(hn:n0=n1)(ps qs:List (Nat×Nat))(q0_:aW (atE e) ps=some (ps.map λ_=>.h s n0)/\aW (atL L) qs=some (qs.map λ_=>.h s n0)/\dJ (qs.map (·.1))=true)
  (kk:∀a w,pQ n c B0 m (rhE (.h s n1) e ps) (rhL (.h s n1) L qs) a w->Z a w):∀a w,pQ n c B0 m e L a w->Z a w:=by
 obtain⟨hp,hq,ha⟩:=q0_;intro a w ⟨B,hm,hA,hS⟩;obtain⟨h1,h2⟩:=a06 s hn hp hq ha hA hS;exact kk a w ⟨B,hm,h1,h2⟩
end
section
variable {P:Program} {T:TT} {hT:FY P T} {n:Nat} {c:Ctx} {B0:Bl} {N:Act->World->Prop} {X:Nat->Act->World->Prop} {Q:Act->World->Prop} {K K':List Fr} {m m':Nat} {e e':SE} {L L' Lv:List Ch} {cf cf' cf1 cf2:uB} {o:Oper} {d:Nat}
section
variable {x:Operand} {t t2 el sz:Nat} {b1 b2 b3:Bool} {n1 n2 n3:Nat} {z1 z2 z3:List SV}
theorem qbo(p:Nat){s:AC}{l:List UInt8}(hs:opS (i4 T n K cf m e L)=some (o,Lv,cf1,cf2,K',m',e',L'))(ho:(o.op,o.dst)=(.convert t t2 x,some d))(ht:AU T t=some ⟨.sl el,b1,n1,z1⟩)(he:AU T el=some ⟨.i .u8,b2,n2,z2⟩)(h2:AU T t2=some ⟨.s,b3,n3,z3⟩)(hp:Lv[p]?=some (ow s l))(hx:iL e' x=some (.h s l.length))
  (kk:G (.mk P T hT n c B0 N X Q) K' m' ((d,.s l)::e') L' cf2):G (.mk P T hT n c B0 N X Q) K m e L cf:=by
 refine pu hs (dA Prod.snd ho) (λB a w hA hS=>⟨_,rfl,?_⟩) kk;obtain⟨⟨R,s1,s2⟩,s0⟩:=hS;have hr:=s1.aZ8 (cs:=[s.v l.length]) (d:=l) p (by simp[hp,kL]);obtain⟨de,q1,q2⟩:=hT.und _ _ he;exact bDJ hr (I1 ht hT) aj (bGI h2 hT) (dA Prod.fst ho) (hdB hA hx)
theorem bAP{O:Type}[aL O](E:CO O){q:O}{y:E.ex}{ec:List Value}(h:aW (bU []) (E.cs q y)=some ec)(hL:E.Lx q y=[])(w:World):aL.rd F0 w ec q:=by have:=(E.pk h w F0).2 (by rw[hL];exact λ_ _ h=>h);grind[aL.own_rd]
theorem lits{O:Type}[aL O](E:CO O)(y:E.ex){sz:Nat}{B:Bl}{a:Act}(hA:gU n B e a)(hL:∀q,E.Lx q y=[]):∀{ps:List (Nat×Operand)} {qs:List O},aW (λp=>(iL e p.2).map λv=>nbL (oR v)) ps=some (qs.map λq=>E.cs q y)->(qs.all λq=>Nat.beq (E.cs q y).length sz && (aW (bU []) (E.cs q y)).isSome)=true ->
  ∃vs cells,evs (vE B e) (ps.map (·.2))=some vs/\vs.length=ps.length/\(vs.all λv=>v.cells.size == sz)=true/\(vs.flatMap λv=>v.cells.toList)=cells/\aR2 sz cells qs
 |[],[],_,_=>⟨[],[],rfl,rfl,rfl,rfl,rfl⟩
 |[],q::qs,h,_=>by cases h
 |p::ps,[],h,_=>by grind[aW]
 |p::ps,q::qs,h,hc=>by
  simp only[aW,aBJ] at h;split at h
  ·cases h
  ·rename_i c0 h1;split at h
   ·cases h
   ·rename_i cs h2;simp only[Option.some.injEq,List.cons.injEq] at h;obtain⟨rfl,rfl⟩:=h;simp only[aP4,FX] at hc;obtain⟨⟨hl,hsome⟩,hc⟩:=hc;obtain⟨vs,cells,g1,g2,g3,g4,g5⟩:=lits E y hA hL h2 (by simpa using hc);obtain⟨ec,hec⟩:=aLY.1 hsome;cases hxv:iL e p.2 with
    |none=>rw[hxv] at h1;cases h1
    |some xv=>
     rw[hxv] at h1;simp at h1;obtain⟨v,v1,v2⟩:=eH hA hxv;have hcell:aW (bU B) (oR xv)=some ec:=by rw[<-QT,h1];exact eY (λx v h=>by simpa using gD (B:=[]) B h) hec
     have hvc:v.cells.toList=ec:=T7 v1 hcell;have hecl:ec.length=sz:=by rw[lI hec];exact pM hl
     refine⟨v::vs,ec++cells,by simp[evs,v2,g1],by simp[g2],?_,by simp[hvc,g4],?_,?_⟩
     ·rw[aP4,g3,<-Array.length_toList,hvc,hecl];simp
     ·rw[List.take_append_of_le_length (WS hecl.symm),<-hecl,List.take_length];exact bAP E hec (hL q) _
     ·rw[List.drop_append_of_le_length (WS hecl.symm),<-hecl,List.drop_length,aRY,hecl];exact g5
theorem ltK{O:Type}[aL O][Flat O](E:CO O)(y:E.ex)(qs:List O){len:Nat}{ps:List (Nat×Operand)}{zv:Value}(hinf:YH P el sz zv)(q0_:i4 T n K cf m e L=.op o Lv cf1 cf2 K' m' e' L'/\(o.op,o.dst)=(.buildSlice t len ⟨ps⟩,some d)/\AU T t=some ⟨.sl el,b1,n1,z1⟩/\aL.n O=sz/\qs.length=len/\Nat.ble 1 sz=true/\Nat.ble (len*sz) 16777216=true/\ps.map (·.1)=List.range' 0 len/\aW (λp=>(iL e' p.2).map λv=>nbL (oR v)) ps=some (qs.map λq=>E.cs q y)/\(qs.all λq=>Nat.beq (E.cs q y).length sz && (aW (bU []) (E.cs q y)).isSome)=true)(hL:∀q,E.Lx q y=[])
  (k:∀s':AC,G (.mk P T hT n c B0 N X Q) K' m' ((d,.h s' qs.length)::e') (L'++[ow s' qs]) cf2):G (.mk P T hT n c B0 N X Q) K m e L cf:=by
 obtain⟨hs,ho,ht,hn,hl,hm,hsm,hix,hev,hec⟩:=q0_;refine aTL (l:=qs) (λs'=>L'++[ow s' qs]) hs (dA Prod.snd ho) (λ_=>rL _) (λB a w hA hS=>?_) k;obtain⟨⟨R,s1,s2⟩,s0⟩:=hS;obtain⟨vs,cells,g1,g2,g3,g4,g5⟩:=lits E y (sz:=sz) hA hL hev hec;have hpl:ps.length=len:=by have:=dA List.length hix;grind
 obtain⟨v,w',k1,k2⟩:=a4U (e:=vE B e') (o:=o) (ps:=ps) (vs:=vs) (cells:=cells) qs s1 hn (I1 ht hT) hinf hl hm hsm g5 (dA Prod.fst ho) g1 (aL5 hix (by rw[g2,hpl]) g3 g4);obtain⟨s',rfl⟩:=aF8 (v:=v) (l:=qs) k2 (L'.map (kL B)).length ae;refine⟨s',w',k1,⟨⟨R,by grind[kL],λz hz=>?_⟩,s0⟩⟩;rcases iO.1 hz with hz|hz
 ·grind
 ·simp at hz;subst hz;trivial
end
end
section
variable {P:Program} {T:TT} {hT:FY P T} {n:Nat} {c:Ctx} {B0:Bl} {N:Act->World->Prop} {X:Nat->Act->World->Prop} {Q:Act->World->Prop} {K K':List Fr} {m m':Nat} {e e':SE} {L L' Lv:List Ch} {cf cf' cf1 cf2:uB} {o:Oper} {d:Nat}
theorem un{O:Type}[aL O](j:Nat)(ks:List Nat)(ps qs:List (Nat×Nat)){s:AC}{n0:Nat}{l:List O}(q0_:L[j]?=some (.o (fK [s.v n0] l))/\fX j cf.AR=true/\aW (EO e) ks=some (ks.map λ_=>.h s n0)/\aW (atE (ovh (.h s l.length) e ks)) ps=some (ps.map λ_=>.h s n0)/\aW (atL (L.set j (ow s l))) qs=some (qs.map λ_=>.h s n0)/\(dJ (qs.map (·.1)) && (qs.map (·.1)).all λj=>fX j cf.AR)=true)
  (k:l.length=n0->G (.mk P T hT n c B0 N X Q) K m (rhE (.h s l.length) (ovh (.h s l.length) e ks) ps) (rhL (.h s l.length) (L.set j (ow s l)) qs) cf):G (.mk P T hT n c B0 N X Q) K m e L cf:=by
 obtain⟨hj,hz,hk,hp,hq,ha⟩:=q0_;rw[FX] at ha;refine chg (λ_:PLift (l.length=n0)=>m) (λ_=>rhE (.h s l.length) (ovh (.h s l.length) e ks) ps) (λ_=>rhL (.h s l.length) (L.set j (ow s l)) qs) (λB a w hm hA hS=>?_) (λ_=>aD3 (LB hz) ha.2) (λh=>k h.down);have hn:l.length=n0:=by obtain⟨⟨R,s1,s2⟩,s0⟩:=hS;obtain⟨F,hF⟩:=s1.chunk (ch:=fK [s.v n0] l) j (by simp[hj,kL]);obtain⟨ad,cp,h1,h2⟩:=TZ (show aL.own w [s.v n0] l F from hF);grind
 subst hn;have hS':mM c w B (L.set j (ow s l)):=by grind[aRZ]
 obtain⟨h1,h2⟩:=a06 s rfl hp hq ha.1 (aTK ks hk hA) hS';exact⟨⟨rfl⟩,[],aj,aj,aj⟩
theorem rr(s:AC){n0 n1:Nat}(hn:n0=n1)(ks:List Nat)(ps qs:List (Nat×Nat))(hk:aW (EO e) ks=some (ks.map λ_=>.h s n0))(hp:aW (atE (ovh (.h s n1) e ks)) ps=some (ps.map λ_=>.h s n0))(hq:aW (atL L) qs=some (qs.map λ_=>.h s n0))(ha:(dJ (qs.map (·.1)) && (qs.map (·.1)).all λj=>fX j cf.AR)=true)
  (k:G (.mk P T hT n c B0 N X Q) K m (rhE (.h s n1) (ovh (.h s n1) e ks) ps) (rhL (.h s n1) L qs) cf):G (.mk P T hT n c B0 N X Q) K m e L cf:=by
 rw[FX] at ha;subst hn;refine chg (λ_:Unit=>m) (λ_=>rhE (.h s n0) (ovh (.h s n0) e ks) ps) (λ_=>rhL (.h s n0) L qs) (λB a w hm hA hS=>?_) (λ_=>aD3 (by simpa using rL (L:=L) []) ha.2) (λ_=>k);obtain⟨h1,h2⟩:=a06 s rfl hp hq ha.1 (aTK ks hk hA) hS;simp_all
theorem cpy{d:Option Nat}{x y:Operand}{t t2 el sz:Nat}{O:Type}[aL O][Flat O]{s s2:AC}{l xs:List O}{b1 b2:Bool}{n1:Nat}{z1 z2:List SV}{kt:TK}(p a:Nat)(hb:a<=l.length/\l.length<=l.length)(hsrc:∀{w},HS c w L'->bB (eQ w) s2 xs)(hs:i4 T n K cf m e L=.op o Lv cf1 cf2 K' m' e' L')(ho:(o.op,o.dst)=(.call {callee:=.builtin .copy,args:=#[x,y],argTypes:=#[t,t2]},d))(ht:AU T t=some ⟨.sl el,b1,n1,z1⟩)(he:AU T el=some ⟨kt,b2,sz,z2⟩)(hn:aL.n O=sz)(hp:(L'[p]?,fX p cf1.AR)=(some (ow s l),true))(hx:iL e' x=some (.h (s.sub sz a) ((l.take l.length).drop a).length))(hy:iL e' y=some (.h s2 xs.length))
  (k:G (.mk P T hT n c B0 N X Q) K' m' (dse d (.i .i64 ((min xs.length (l.length-a):Nat):Int)) e') (L'.set p (ow s (dL l a xs))) cf2):G (.mk P T hT n c B0 N X Q) K m e L cf:=by
 have hp1:L'[p]?=some (ow s l):=dA Prod.fst hp;have hz:fX p cf1.AR=true:=dA Prod.snd hp;have hlen:(dL l a xs).length=l.length:=gZ hb.1;refine gW (g:=.mk P T hT n c B0 N X Q) ?_;rw[hs];intro hdn _ hE;refine hE Unit (λ_=>m') (λ_=>dse d (.i .i64 ((min xs.length (l.length-a):Nat):Int)) e') (λ_=>L'.set p (ow s (dL l a xs))) (λ_=>LB hz) (λB act w next Q' hm hA hS hnext=>?_) (λ_=>k);have hr:bB (eQ w) s2 xs:=hsrc ⟨_,hS⟩;obtain⟨⟨R,s1,s2'⟩,s0⟩:=hS;have hx2:ev (vE (B0S (.mk P T hT n c B0 N X Q) cf1++B) e') x=some (iU sz a l.length (s.v l.length)):=by grind[hdB,UA]
 have hop:o.op=.call {callee:=.builtin .copy,args:=#[x,y],argTypes:=#[t,t2]}:=dA Prod.fst ho;have hd:o.dst=d:=dA Prod.snd ho;obtain⟨v,w',k1,rfl,k2⟩:=a90 p s1 (by rw[CH,hp1];rfl) hr hn hb.1 (I1 ht hT) (hT.size _ _ he) hop hx2 (hdB hA hy);unfold Oper.wp;rw[k1 _ act hA.env,Oper.upon_value,hd];have hS2:mM c w' (B0S (.mk P T hT n c B0 N X Q) cf1++B) (L'.set p (ow s (dL l a xs))):=by
  refine⟨⟨R,?_,λz hz=>?_⟩,s0⟩
  ·rw[MX];show St c w' ((L'.map _).set p (fK [s.v (dL l a xs).length] _)) R;grind
  ·rcases rV hz with hz|hz
   ·grind
   ·subst hz;trivial
 cases d with
 |none=>exact hnext () _ _ ⟨[],aj,by grind[Act.put,dse],aj⟩
 |some d=>exact hnext () _ _ ⟨[],aj,by simpa[dse] using hA.of (by simp[fJ,gV,bU]) (hA.env.put (by grind[rY,yI]) _),aj⟩
theorem fR{Z:Act->World->Prop}{e1:SE}{L1:List Ch}(q0_:a2J e=some e1/\a2K L=some L1)(kk:∀a w,pQ n c B0 m e1 L1 a w->Z a w):∀a w,pQ n c B0 m e L a w->Z a w:=by obtain⟨h1,h2⟩:=q0_;grind[aK3,aK4]
end
def swN(i j n:Nat):Nat:=match Nat.beq n i with
 |true=>j
 |false=>match Nat.beq n j with
  |true=>i
  |false=>n
def swC(i j:Nat):SV->SV
 |.p n o=>.p (swN i j n) o
 |x=>x
def a2P(i j:Nat):List SV->List SV
 |[]=>[]
 |x::r=>swC i j x::a2P i j r
def swG(i j:Nat):SV->SV
 |.g cs=>.g (a2P i j cs)
 |x=>swC i j x
def bAQ(i j:Nat):List SV->List SV
 |[]=>[]
 |x::r=>swG i j x::bAQ i j r
def swF(i j:Nat):List Nat->List Nat
 |[]=>[]
 |n::r=>swN i j n::swF i j r
def swT(i j:Nat):SV->SV
 |.t cs=>.t (bAQ i j cs)
 |.f f ns=>.f f (swF i j ns)
 |x=>swG i j x
def swE(i j:Nat):SE->SE
 |[]=>[]
 |(k,x)::r=>(k,swT i j x)::swE i j r
def swL(i j:Nat):List Ch->List Ch
 |[]=>[]
 |x::r=>(match x with
  |.box n cs=>.box (swN i j n) (a2P i j cs)
  |.ro n cs=>.ro (swN i j n) (a2P i j cs)
  |.w n b z=>.w (swN i j n) b z
  |y=>y)::swL i j r
section
variable {B B':Bl} {i j:Nat}
theorem a6O(h:∀n,B'[swN i j n]?=B[n]?)(x:SV):bU B' (swC i j x)=bU B x:=by cases x<;>first|rfl|grind[swC,bU]
theorem aLA(h:∀n,B'[swN i j n]?=B[n]?):∀cs:List SV,aW (bU B') (a2P i j cs)=aW (bU B) cs
 |[]=>rfl
 |x::r=>by simp only[a2P,aW,a6O h,aLA h r]
theorem aYP(h:∀n,B'[swN i j n]?=B[n]?)(x:SV):gV B' (swG i j x)=gV B x:=by
 cases x with
 |g cs=>grind[swG,gV,aLA]
 |p n o=>exact a6O h (.p n o)
 |_=>rfl
theorem a07(h:∀n,B'[swN i j n]?=B[n]?):∀cs:List SV,aW (gV B') (bAQ i j cs)=aW (gV B) cs
 |[]=>rfl
 |x::r=>by simp only[bAQ,aW,aYP h,a07 h r]
theorem a6P(h:∀n,B'[swN i j n]?=B[n]?):∀cs:List Nat,aW (X6 B') (swF i j cs)=aW (X6 B) cs
 |[]=>rfl
 |x::r=>by simp only[swF,aW,X6,h];rw[show aW (X6 B') (swF i j r)=aW (X6 B) r from a6P h r]
theorem bD7(h:∀n,B'[swN i j n]?=B[n]?)(x:SV):fJ B' (swT i j x)=fJ B x:=by
 cases x with
 |t cs=>grind[swT,fJ,a07]
 |f f ns=>grind[swT,fJ,a6P]
 |g cs=>exact aYP h (.g cs)
 |p n o=>exact aYP h (.p n o)
 |_=>rfl
theorem a6Q{k:Nat}{x:SV}:∀{e:SE},EO (swE i j e) k=some x->∃y,EO e k=some y/\x=swT i j y
 |[],h=>by cases h
 |(k',y)::r,h=>by
  simp only[swE,EO] at h ⊢;split at h
  ·grind
  ·rename_i hb;exact a6Q h
theorem a08(h:∀n,B'[swN i j n]?=B[n]?){w:World}{R:List Fact}:∀(L:List Ch),jI w (L.map (kL B)) ((swL i j L).map (kL B'))/\((∀x∈L,roF B R x)->∀x∈swL i j L,roF B' R x)
 |[]=>⟨.nil,λ_ x hx=>by cases hx⟩
 |x::L=>by
  obtain⟨h1,h2⟩:=a08 h (w:=w) (R:=R) L;refine⟨.cons (λF hF=>?_) h1,λhr y hy=>?_⟩
  ·cases x with
   |box n cs=>
    obtain⟨b,z,vs,k1,k2,k3⟩:=hF;exact⟨b,z,vs,aj,by grind[aLA],k3⟩
   |_=>exact hF
  ·rcases vJ.1 hy with hy|hy
   ·have hx:=hr x ae;cases x with
    |box n cs=>subst hy;trivial
    |ro n cs=>
     obtain⟨b,z,vs,k1,k2,k3⟩:=hx;subst hy;exact⟨b,z,vs,aj,by grind[aLA],k3⟩
    |w n b z=>subst hy;show B'[swN i j n]?=_;rw[h];exact hx
    |o c=>subst hy;trivial
    |no=>subst hy;trivial
    |f f=>subst hy;exact hx
   grind
end
theorem bGP{B:Bl}{i j:Nat}(hi:i<B.length)(hj:j<B.length):∃B':Bl,B'.length=B.length/\(∀n,B'[swN i j n]?=B[n]?):=by
 refine⟨(B.set i B[j]).set j B[i],ae,λn=>?_⟩;unfold swN;cases h1:Nat.beq n i with
 |true=>
  simp_all
 |false=>
  have h1:n≠i:=λh=>by simp_all
  cases h2:Nat.beq n j with
  |true=>
   simp_all
  |false=>
   have h2:n≠j:=λh=>by simp_all
   grind
section
variable {n:Nat} {c:Ctx} {B0:Bl} {m:Nat} {e:SE} {L:List Ch}
theorem swR{Z:Act->World->Prop}(i j:Nat)(h:(Nat.ble B0.length i && (Nat.ble B0.length j && (Nat.blt i m && Nat.blt j m)))=true)
  (kk:∀a w,pQ n c B0 m (swE i j e) (swL i j L) a w->Z a w):∀a w,pQ n c B0 m e L a w->Z a w:=by
 simp only[FX,Nat.ble_eq,yI] at h;obtain⟨h1,h2,h3,h4⟩:=h;intro a w ⟨B,hm,hA,hS⟩;refine kk a w ?_;rw[K8] at hm;obtain⟨B',hl,hB⟩:=bGP (B:=B) (i:=i-B0.length) (j:=j-B0.length) aa aa;have key:∀n,(B0++B')[swN i j n]?=(B0++B)[n]?:=by
  intro n;have hsw:∀n,n<B0.length->swN i j n=n:=λn hn=>by grind[swN,pM]
  have hge:∀n,B0.length<=n->swN i j n=B0.length+swN (i-B0.length) (j-B0.length) (n-B0.length):=λn hn=>by
   have q1:Nat.beq (n-B0.length) (i-B0.length)=Nat.beq n i:=by rw[K7];(simp_all;omega)
   have q2:Nat.beq (n-B0.length) (j-B0.length)=Nat.beq n j:=by rw[K7];(simp_all;omega)
   grind[swN]
  grind[Nat.add_sub_cancel_left]
 refine⟨B',aj,⟨hA.d,hA.size,λk x hk=>?_⟩,?_⟩
 ·obtain⟨y,g1,rfl⟩:=a6Q hk;obtain⟨v,g2,g3⟩:=hA.get k y g1;grind[bD7]
 ·obtain⟨⟨R,s1,s2⟩,s0⟩:=hS;obtain⟨g1,g2⟩:=a08 key (w:=w) (R:=R) L;exact⟨⟨R,s1.imp g1,g2 s2⟩,s0⟩
theorem pnR{Z:Act->World->Prop}{O:Type}[aL O](j:Nat){s:AC}{l:List O}{n0:Nat}(hl:l.length=n0)(hj:L[j]?=some (ow s l))
  (kk:∀a w,pQ n c B0 m e (L.set j (.o (fK [s.v n0] l))) a w->Z a w):∀a w,pQ n c B0 m e L a w->Z a w:=by
 grind[aRZ]
end
theorem fG{P:Program}{T:TT}{hT:FY P T}{n:Nat}{c:Ctx}{B0:Bl}{N:Act->World->Prop}{X:Nat->Act->World->Prop}{Q:Act->World->Prop}{K:List Fr}{m:Nat}{e e1:SE}{L L1:List Ch}{cf:uB}(h1:a2J e=some e1)(h2:a2K L=some L1)(k:G (.mk P T hT n c B0 N X Q) K m e1 L1 cf):G (.mk P T hT n c B0 N X Q) K m e L cf:=by grind[aK3,aK4]
def fc1:SV->Option SV
 |.i k x=>some (.i k x)
 |.y b=>some (.y b)
 |.b c=>some (.b c)
 |.l c=>some (.l c)
 |.s l=>some (.s l)
 |.p n o=>some (.p n o)
 |.h s n=>some (.h s n)
 |.e s n i o=>some (.e s n i o)
 |.k x=>some (.k x)
 |.g cs=>some (.g cs)
 |.t cs=>some (.t cs)
 |.f f cs=>some (.f f cs)
 |.u=>some .u
def fcs:List SV->Option (List SV)
 |[]=>some []
 |x::r=>match fc1 x with
  |some y=>match fcs r with
   |some s=>some (y::s)
   |none=>none
  |none=>none
def fc2:SV->Option SV
 |.g cs=>match fcs cs with
  |some ds=>some (.g ds)
  |none=>none
 |x=>fc1 x
def fgs:List SV->Option (List SV)
 |[]=>some []
 |x::r=>match fc2 x with
  |some y=>match fgs r with
   |some s=>some (y::s)
   |none=>none
  |none=>none
def fc3:SV->Option SV
 |.t cs=>match fgs cs with
  |some ds=>some (.t ds)
  |none=>none
 |x=>fc2 x
def fdE:SE->Option SE
 |[]=>some []
 |(k,v)::r=>match fc3 v with
  |some y=>match fdE r with
   |some s=>some ((k,y)::s)
   |none=>none
  |none=>none
def fdL:List Ch->Option (List Ch)
 |[]=>some []
 |x::r=>match fdL r with
  |some s=>match x with
   |.box n cs=>match fcs cs with
    |some ds=>some (.box n ds::s)
    |none=>none
   |.ro n cs=>match fcs cs with
    |some ds=>some (.ro n ds::s)
    |none=>none
   |y=>some (y::s)
  |none=>none
theorem a6R{x y:SV}(h:fc1 x=some y):y=x:=by cases x<;>simp only[fc1] at h<;>cases h<;>rfl
theorem aYQ:∀{l r:List SV},fcs l=some r->r=l
 |[],r,h=>by cases h;rfl
 |x::l,r,h=>by
  simp only[fcs] at h;split at h
  ·rename_i y hy;split at h
   ·rename_i s hs;cases h;rw[a6R hy,aYQ hs]
   ·cases h
  ·cases h
theorem a6S{x y:SV}(h:fc2 x=some y):y=x:=by
 cases x with
 |g cs=>
  grind[fc2,aYQ]
 |_=>exact a6R h
theorem a6T:∀{l r:List SV},fgs l=some r->r=l
 |[],r,h=>by cases h;rfl
 |x::l,r,h=>by
  simp only[fgs] at h;split at h
  ·rename_i y hy;split at h
   ·rename_i s hs;cases h;rw[a6S hy,a6T hs]
   ·cases h
  ·cases h
theorem bD9{x y:SV}(h:fc3 x=some y):y=x:=by
 cases x with
 |t cs=>
  grind[fc3,a6T]
 |_=>exact a6S h
theorem a6U:∀{e r:SE},fdE e=some r->r=e
 |[],r,h=>by cases h;rfl
 |(k,v)::l,r,h=>by
  simp only[fdE] at h;split at h
  ·rename_i y hy;split at h
   ·rename_i s hs;cases h;rw[bD9 hy,a6U hs]
   ·cases h
  ·cases h
theorem a6V:∀{e r:List Ch},fdL e=some r->r=e
 |[],r,h=>by cases h;rfl
 |x::l,r,h=>by
  simp only[fdL] at h;split at h
  ·rename_i s hs;have:=a6V hs;grind[aYQ]
  ·cases h
theorem fD{n:Nat}{c:Ctx}{B0:Bl}{m:Nat}{e e1:SE}{L L1:List Ch}{Z:Act->World->Prop}(h1:fdE e=some e1)(h2:fdL L=some L1)(kk:∀a w,pQ n c B0 m e1 L1 a w->Z a w):∀a w,pQ n c B0 m e L a w->Z a w:=by grind[a6U,a6V]
end Go.Gv
end
