import Derived.Test.YtonkeoekmfkaoaaGreatXUA
set_option linter.unusedVariables false
set_option linter.unusedSimpArgs false
set_option linter.unusedSectionVars false
set_option linter.constructorNameAsVariable false
set_option linter.unnecessarySimpa false
noncomputable section
namespace Go.Gv
variable{t:TypeId}
section
variable {P:Program} {T:TT} {n:Nat} {B:Bl} {e:SE} {a:Act} {o:Oper} {w w':World} {x y:Operand} {c:Ctx} {L:List Ch}
theorem aE0{ops:Array Oper}(h:EZ ops e o.guard=.yes):Want ops o (vE B e) true:=by
 unfold EZ at h;split at h
 ·exact a8Y (by assumption)
 ·rename_i j w hg;split at h
  ·rename_i q hq;split at h
   ·rename_i s hs;have hj:(ops[j]?).bind (·.dst)=some s:=by rw[<-Array.getElem?_toList,hq];exact hs
    split at h
    ·rename_i c hl;have hv:lk (vE B e) s=some (.bool c):=by rw[aOX hl];rfl
     refine a4J hg hj hv ?_;split at h<;>first|rfl|cases h
    all_goals cases h
   ·cases h
  ·cases h
theorem bG1{ops:Array Oper}(h:EZ ops e o.guard=.no):Want ops o (vE B e) false:=by
 unfold EZ at h;split at h
 ·cases h
 ·rename_i j w hg;split at h
  ·rename_i q hq;split at h
   ·rename_i s hs;have hj:(ops[j]?).bind (·.dst)=some s:=by rw[<-Array.getElem?_toList,hq];exact hs
    split at h
    ·rename_i c hl;have hv:lk (vE B e) s=some (.bool c):=by rw[aOX hl];rfl
     refine a4J hg hj hv ?_;cases c<;>cases w<;>first|rfl|cases h
    ·rename_i hl;exact bEB hg hj (by rw[aOX hl];rfl)
    all_goals cases h
   ·cases h
  ·cases h
theorem aO1{m:Nat}:∀{L:List Ch},VL m L=true->∃i cs,L[i]?=some (.box m cs)/\JJ m L=some cs/\∀cs',uJ m cs' L=L.set i (.box m cs')
 |[],h=>by cases h
 |x::L,h=>by
  have ih:VL m L=true->JJ m (x::L)=JJ m L->(∀cs',uJ m cs' (x::L)=x::uJ m cs' L)->∃i cs,(x::L)[i]?=some (.box m cs)/\JJ m (x::L)=some cs/\∀cs',uJ m cs' (x::L)=(x::L).set i (.box m cs'):=λh h2 h3=>by obtain⟨i,cs,g1,g2,g3⟩:=aO1 h;exact⟨i+1,cs,aj,by rw[h2,g2],λcs'=>aj⟩
  cases x with
  |box k cs=>
   simp only[VL] at h;split at h
   ·rename_i hb;have:=pV hb;subst this;exact⟨0,cs,rfl,by grind[JJ],λcs'=>by grind[uJ]⟩
   grind[JJ,uJ]
  |ro k cs=>
   grind[VL,JJ,uJ]
  |o ch=>exact ih h rfl (λ_=>rfl)
  |f g=>exact ih h rfl (λ_=>rfl)
  |no=>exact ih h rfl (λ_=>rfl)
  |w k b z=>exact ih h rfl (λ_=>rfl)
theorem aVJ(hT:GJ P T)(hA:gR n B e a)(hS:mK c w B L){p v:SV}{L':List Ch}(ho:o.op=.store t x y)(hx:iM e x=some p)(hy:iM e y=some v)(h:XI T t p v L=some L'):∃w',bKP P o (vE B e) w w'/\mK c w' B L':=by
 unfold XI at h;split at h
 ·rename_i m j;split at h
  ·rename_i hb;split at h
   ·rename_i cs _ _ sz _ h1 h2;split at h
    ·rename_i h3 h4 h5;split at h
     case h_2=>cases h
     rename_i ds hds;have h4:=pV h4;have h5:=YY h5;have:=XJ hds;rw[aOY _ _ _ aa] at this;subst this;split at h
     case h_2=>cases h
     rename_i L2 hL2;cases h;have:=XJ hL2;subst this;obtain⟨i,cs',g1,g2,g3⟩:=aO1 hb;rw[h1] at g2;cases g2;obtain⟨pv,hp1,hp2⟩:=eH hA hx;obtain⟨u,hu1,hu2⟩:=eH hA hy;obtain⟨vs,hv⟩:=aEZ h3 hu1;obtain⟨b,z,rs,k1,k2,_⟩:=hS.cells h1;simp only[fP,gV,bZ,k1] at hp1;cases hp1;have hl:=mL hv;have hl2:=mL k2;obtain⟨⟨R,s1,s2⟩,s0⟩:=hS;have hlt:=(JI.1 g1).1;have gi:(L.map (kP B))[i]?=some (aF5 B m cs):=by rw[B7,g1];rfl
     have s3:St c w ((L.map (kP B)).set i (cAt b z rs)) R:=s1.imp (jO.put i gi λF ⟨b',z',vs',q1,q2,q3⟩=>by
      grind)
     obtain⟨w2,r1,r2⟩:=bKR (P:=P) (o:=o) (e:=vE B e) (b:=b) (q:=z) (cs:=rs) (vs:=vs) (j:=j) (m:=sz) s3 (i:=i) aj ho hp2 hu2 (VN hu1 hv) (hT.size _ _ h2) aa (Nat.ble_eq_true_of_le aa) (aS4.2 λq hq=>by
      obtain⟨k,hk⟩:=aKL hq;have hk2:k<(o4 v).length:=aj
      obtain⟨q',hq1,hq2⟩:=aA2 hv (lO hk2);grind[aOW])
     refine⟨w2,r1,⟨⟨R,?_,?_⟩,s0⟩⟩
     ·rw[aVC] at r2;rw[g3,LR];exact r2.imp (jO.set i (jO.refl _) λF hF=>⟨b,z,_,k1,aF4 j k2 hv,hF⟩)
     ·rw[g3];intro q hq;rcases tY hq with hq|hq
      ·grind
      ·subst hq;trivial
    ·cases h
   ·cases h
  ·cases h
 ·cases h
theorem mK.box(hS:mK c w B L){w':World}{b:Nat}{cs:List SV}{vs:List Value}(hc:bA (bZ B) cs=some vs)(h:∀M R,St c w M R->St c w' (M++[bEA b vs]) R):mK c w' (B++[(b,0)]) (L++[.box B.length cs]):=by
 obtain⟨⟨R,s1,s2⟩,s0⟩:=hS;refine⟨⟨R,?_,?_⟩,s0⟩
 ·rw[xR];refine(h _ _ s1).imp (jO.append (aC3 _ L) (.cons (λF hF=>⟨b,0,vs,ae,fB (λ_ _=>gK _) hc,hF⟩) .nil))
 ·intro q hq;rcases jG.1 hq with hq|hq
  ·grind[aWQ]
  ·simp at hq;subst hq;trivial
theorem bAD(hT:GJ P T)(hS:mK c w B L){i:TI}{E:Env}(ho:o.op=.alloc t)(h:AQ T t=some i):∃v w' b,eW P o E w v w'/\v=.pointer (some ⟨b,0,none⟩)/\mK c w' (B++[(b,0)]) (L++[.box B.length i.z]):=by obtain⟨z,hz,hzc⟩:=hT.zero _ _ h;have hzc':bA (bZ B) i.z=some z.cells.toList:=fB (λx v h=>by simpa using gK (B:=[]) B h) hzc;refine⟨_,_,w.heap.size,λ_ a hA=>?_,rfl,hS.box hzc' λM R hM=>hM.alloc z.cells.toList t⟩;simp_all[execOp,Instr.alloc,newVar,newRow]
theorem bIO(hA:gR n B e a)(hS:mK c w B L){v:SV}(ho:o.op=.box t x)(h:iM e x=some v)(hc:isCells v=true):∃u w' b,eW P o (vE B e) w u w'/\u=.pointer (some ⟨b,0,none⟩)/\mK c w' (B++[(b,0)]) (L++[.box B.length (o4 v)]):=by obtain⟨u,h1,h2⟩:=eH hA h;obtain⟨vs,h3⟩:=aEZ hc h1;have h4:=VN h1 h3;subst h4;refine⟨_,_,w.heap.size,λ_ a hA=>?_,rfl,hS.box h3 λM R hM=>hM.alloc u.cells.toList t⟩;simp[execOp,ho,Instr.box,hA.eval h2,newVar,newRow]
end
structure Gx where
 P:Program
 T:TT
 hT:GJ P T
 n:Nat
 c:Ctx
 B0:Bl
 N:Act->World->Prop
 X:Nat->Act->World->Prop
 Q:Act->World->Prop
abbrev Rel(g:Gx)(m:Nat)(e:SE)(L:List Ch)(a:Act)(w:World):Prop:=qY g.n g.c g.B0 m e L a w
mutual
def NK(g:Gx):List Fr->Act->World->Prop
 |[]=>g.N
 |.s y::K=>λa w=>CW g.P y (NK g K) (XK g K) g.Q a w
 |.k _::K=>NK g K
def XK(g:Gx):List Fr->Nat->Act->World->Prop
 |[]=>g.X
 |.s _::K=>XK g K
 |.k id::K=>aVD id (NK g K) (XK g K)
end
structure aIK (g:Gx) (B1:Bl) (ops:Array Oper) (l:List Bool) (is:List Nat) (Lf L:List Ch):Prop where
 pre:∃B,B1=g.B0++B
 len:l.length=ops.size
 free:aZB ops=true
 yR:kl L is=Lf
 rng:∀j∈is,j<L.length
 okf:okL B1.length Lf=true
 ap:dE is=true
abbrev Sd(g:Gx)(B1:Bl)(Lf:List Ch):World->Prop:=λw=>mK g.c w B1 Lf
def bKW(g:Gx)(B1:Bl)(Lf Lv:List Ch)(m:Nat)(e:SE)(L:List Ch)(a:Act)(w:World):Prop:=∃B,(B1++B).length=m/\gR g.n (B1++B) e a/\mK g.c w (B1++B) L/\∀w',mK g.c w' B1 Lf->mK g.c w' (B1++B) Lv
def G(g:Gx)(K:List Fr)(m:Nat)(e:SE)(L:List Ch):uI->Prop
 |.n=>∀a w,Rel g m e L a w->NK g K a w
 |.c x=>∀a w,Rel g m e L a w->CW g.P x (NK g K) (XK g K) g.Q a w
 |.r ops l=>∀a w,Rel g m e L a w->wpList g.P ops (mkQ (NK g K) (XK g K) g.Q) l a w
 |.d B1 ops l is Lf Lv=>aIK g B1 ops l is Lf L->∀a w,bKW g B1 Lf Lv m e L a w->wpAnyH g.P .any ops (mkQ (NK g K) (XK g K) g.Q) (Sd g B1 Lf) (l.count false) l.toArray a w
 |.o B1 ops l is Lf Lv i=>aIK g B1 ops l is Lf L->∀a w,bKW g B1 Lf Lv m e L a w->wpOp g.P ops (mkQ (NK g K) (XK g K) g.Q) i (λa' w'=>Sd g B1 Lf w'/\wpAnyH g.P .any ops (mkQ (NK g K) (XK g K) g.Q) (Sd g B1 Lf) ((l.set i true).count false) (l.set i true).toArray a' w') a w
def B0S(g:Gx):uI->Bl
 |.d B1 _ _ _ _ _=>B1
 |.o B1 _ _ _ _ _ _=>B1
 |_=>g.B0
def Frz(g:Gx)(cf:uI)(L L':List Ch):Prop:=match cf with
 |.d B1 ops l is Lf _=>aIK g B1 ops l is Lf L->kl L' is=Lf/\∀j∈is,j<L'.length
 |.o B1 ops l is Lf _ _=>aIK g B1 ops l is Lf L->kl L' is=Lf/\∀j∈is,j<L'.length
 |_=>True
def aF9(g:Gx)(K:List Fr)(m:Nat)(e:SE)(L:List Ch)(o:Oper)(Lv:List Ch)(cf cf':uI):Prop:=
 ∀(d:Nat) (x:SV) (Ln:List Ch) (nb:World->Bl) (k:Nat),o.dst=some d->(∀w,(nb w).length=k) ->
  (∀B a w,gR g.n B e a->mK g.c w B Lv->B.length=m->∃v,fP (B++nb g.c.w0) x=some v/\eW g.P o (vE B e) w v w) ->
  (∀B w L,B.length=m->mK g.c w B L->mK g.c w (B++nb g.c.w0) (L++Ln)) ->
  G g K (m+k) ((d,x)::e) (L++Ln) (cf'.ext Ln)->G g K m e L cf
def aKS(g:Gx)(K:List Fr)(m:Nat)(e:SE)(L:List Ch)(o:Oper)(cf cf':uI):Prop:=
 ∀(ι:Type) (m':ι->Nat) (e':ι->SE) (L':ι->List Ch),(∀i,Frz g cf L (L' i)) ->
  (∀B a w (next:Act->World->Prop) (Q:Exit->Act->World->Prop),(B0S g cf++B).length=m->gR g.n (B0S g cf++B) e a->mK g.c w (B0S g cf++B) L->(∀i a' w',qY g.n g.c (B0S g cf++B) (m' i) (e' i) (L' i) a' w'->next a' w')->o.wp g.P a w next Q) ->
  (∀i,G g K (m' i) (e' i) (L' i) cf')->G g K m e L cf
def Gs(g:Gx):Stop->Prop
 |.ret m e L=>∀a w,Rel g m e L a w->g.Q a w
 |.fin m e L=>∀a w,Rel g m e L a w->g.N a w
 |.ex id m e L=>∀a w,Rel g m e L a w->g.X id a w
 |.cond o b x y K m e L=>iM e o=some (.b b)->G g K m e L (.c (.cond o x y))
 |.case _ cf K m e L=>G g K m e L cf
 |.loop id y K m e L=>G g K m e L (.c (.block id (.loop y)))
 |.idx o d t s n i Lv cf cf' K m e L=>(∀x y,o.op=.indexAddr t x y->o.dst=some d->iM e x=some (.h s n)->iM e y=some (.i .i64 i)->aF9 g K m e L o Lv cf cf'->G g K m e L cf)
 |.call o d f xs cf cf' K m e L=>(∀fo args ats,o.op=.call {callee:=.value fo,args:=args,argTypes:=ats}->o.dst=d->iM e fo=some (.f f [])->(∃ys,bA (iM e) args.toList=some ys/\nbA ys=xs)->okA xs=true->sD g.n d=true->aKS g K m e L o cf cf'->G g K m e L cf)
 |.callp o d f xs cf cf' K m e L=>(∀fo args ats,o.op=.call {callee:=.value fo,args:=args,argTypes:=ats}->o.dst=d->iM e fo=some (.f f [])->(∃ys,bA (iM e) args.toList=some ys/\nbA ys=xs)->sD g.n d=true->aKS g K m e L o cf cf'->G g K m e L cf)
 |.op o Lv cf cf' K m e L=>sD g.n o.dst=true->aF9 g K m e L o Lv cf cf'->aKS g K m e L o cf cf'->G g K m e L cf
 |.opp o Lv cf cf' K m e L=>sD g.n o.dst=true->aF9 g K m e L o Lv cf cf'->G g K m e L cf
 |.rgn id ops K m e L=>G g K m e L (.c (.region id ops true))
 |.alt cf K m e L=>G g K m e L cf
 |.stuck=>False
section
variable {g:Gx} {K:List Fr} {m:Nat} {e:SE} {L:List Ch}
theorem bG2{a:Act}{w:World}:∀{K:List Fr},(match pop K with|some (y,K')=>CW g.P y (NK g K') (XK g K') g.Q a w|none=>g.N a w)->NK g K a w
 |[],h=>by simpa[pop,NK] using h
 |.s y::K,h=>by simpa[pop,NK] using h
 |.k _::K,h=>by have:NK g K a w:=bG2 (by grind[pop]);simp_all[NK]
theorem bAE{a:Act}{w:World}{id:Nat}:∀{K:List Fr},(match xit id K with|some K'=>NK g K' a w|none=>g.X id a w)->XK g K id a w
 |[],h=>by simpa[xit,XK] using h
 |.s y::K,h=>by have:XK g K id a w:=bAE (by grind[xit]);simp_all[XK]
 |.k j::K,h=>by
  simp only[xit] at h;simp only[XK,aVD];cases hb:Nat.beq id j with
  |true=>
   simp_all
  |false=>
   rw[hb] at h;rw[aS (λe=>by simp_all)];exact bAE h
theorem a45{F:Nat}(ih:∀K c m e L,Gs g (stp g.T g.n F K c m e L)->G g K m e L c)(h:Gs g (match pop K with|some (y,K')=>stp g.T g.n F K' (.c y) m e L|none=>.fin m e L)):∀a w,Rel g m e L a w->NK g K a w:=λa w hr=>by
 refine bG2 ?_;split
 ·rename_i y K' hp;rw[hp] at h;exact ih _ _ _ _ _ h a w hr
 ·rename_i hp;rw[hp] at h;exact h a w hr
theorem gR.ext{n:Nat}{B nb:Bl}{a a':Act}{d:Nat}{x:SV}{v:Value}(hA:gR n B e a)(hx:fP (B++nb) x=some v)(hA':NZ n ((d,v)::vE B e) a'):gR n (B++nb) ((d,x)::e) a':=by
 refine(hA.app nb).of hx ⟨hA'.d,hA'.size,λk u hk=>?_⟩;simp only[lk] at hk;cases hb:Nat.beq k d with
 |true=>rw[hb] at hk;exact hA'.get k u (by grind[lk])
 |false=>
  rw[hb] at hk;obtain⟨y,h2,h3⟩:=a94 hk;obtain⟨u2,h4,h5⟩:=hA.get k y h2;rw[xU nb h4] at h3;refine hA'.get k u ?_;grind[lk,aOX]
theorem bEZ{ops:Array Oper}{l:List Oper}{o:Oper}(hg:EZ ops e o.guard=.yes)(hd:sD g.n o.dst=true):aF9 g K m e L o L (.r ops (o::l)) (.r ops l):=by
 intro d x Ln nb k hdst hk hv hs hG a w ⟨B,hm,hA,hS⟩;obtain⟨v,h1,h2⟩:=hv _ a w hA hS hm;rw[hdst] at hd;refine bGU h2 (aE0 hg) hdst hd (λa' hA'=>hG a' w ⟨B++nb g.c.w0,?_,?_,?_⟩) a hA.env
 ·grind
 ·rw[<-NX];exact hA.ext h1 hA'
 grind
theorem a46{ops:Array Oper}{l:List Oper}{o:Oper}(hg:EZ ops e o.guard=.yes):aKS g K m e L o (.r ops (o::l)) (.r ops l):=by intro ι m' e' L' _ hrun hG a w hr;have ⟨B,hm,hA,hS⟩:=hr;refine wpList_step λK' hK=>?_;rw[aE0 hg _ a hA.env,aN rfl];exact hrun B a w K' _ hm hA hS (λi a' w' ⟨B',h1,h2,h3⟩=>hK a' w' (hG i a' w' ⟨B++B',by rw[<-NX];exact h1,by rw[<-NX];exact h2,by rw[<-NX];exact h3⟩))
theorem aIK.S{B1:Bl}{ops:Array Oper}{l:List Bool}{is:List Nat}{Lf:List Ch}(h:aIK g B1 ops l is Lf L){w:World}{B:Bl}(hS:mK g.c w (B1++B) L):mK g.c w B1 Lf:=by have h1:=bAC hS is h.ap;rw[h.yR] at h1;have h2:=aF8 h1 h.okf;grind
theorem aIL{d:Edge}:Region.binds .any d=a90 d.ground:=by
 cases d with
 |mk on g=>cases g<;>rfl
theorem aNZ{l:List Bool}:∀{es:List Edge},UB l es=true↔∀d∈es,Region.binds .any d=true->l[d.on]?=some true
 |[]=>by simp[UB]
 |⟨on,gr⟩::r=>by
  have ih:=aNZ (l:=l) (es:=r);simp only[UB,xS,forall_eq_or_imp,aIL];cases hb:a90 gr with
  |true=>
   simp only;split
   ·rename_i h1;rw[ih];simp[h1,aIL]
   ·rename_i h1;constructor
    ·intro h;cases h
    ·intro h;exact absurd (h.1 trivial) (by simpa using h1)
  |false=>grind[aIL]
theorem aC4{ops:Array Oper}{l:List Bool}(hl:l.length=ops.size){j:Nat}:j∈Region.ready .any ops l.toArray↔l[j]?=some false/\∃o,ops.toList[j]?=some o/\UB l o.after.toList=true:=by
 rw[mem_ready];have h1:(l.toArray.getD j true=false)↔l[j]?=some false:=by rw[Array.getD_eq_getD_getElem?,List.getElem?_toArray];grind
 rw[h1];refine and_congr_right λ_=>?_;constructor
 ·rintro⟨o,h2,h3⟩;refine⟨o,aj,aNZ.2 λd hd hb=>?_⟩;have:=h3 d aj hb;rw[Array.getD_eq_getD_getElem?,List.getElem?_toArray] at this;grind
 simp_all[aNZ]
theorem aIM{i:Nat}:∀{es:List Edge},aEY i es=true↔∃d∈es,Region.binds .any d=true/\d.on=i
 |[]=>by simp[aEY]
 |⟨on,gr⟩::r=>by
  have ih:=aIM (i:=i) (es:=r);simp only[aEY,xS,exists_eq_or_imp,aIL];cases hb:a90 gr with
  |true=>
   simp only;cases hi:Nat.beq on i with
   |true=>simp_all
   |false=>
    simp only;have hne:on≠i:=λh=>by simp_all
    grind[aIL]
  |false=>grind[aIL]
theorem bE0{ops:Array Oper}{l:List Bool}(hl:l.length=ops.size)(hf:aZB ops=true){i:Nat}{o:Oper}(ho:ops.toList[i]?=some o)(hr:UB l o.after.toList=true):Region.noSelect ops=true/\Region.free .any ops l.toArray i=true:=by
 unfold aZB at hf;rw[GF,aS4] at hf;refine⟨hf.1,?_⟩;unfold Region.free;have hoi:ops[i]?=some o:=aj
 rw[hoi];simp only[aS4,List.mem_range];intro j hj;have hoj:ops[j]?=some ops[j]:=by simp[hj]
 rw[hoj];simp only[Bool.or_eq_true,beq_iff_eq];by_cases hji:j=i
 ·omega
 ·have h1:=hf.2 (o,i) (List.mk_mem_zipIdx_iff_getElem?.2 ho);rw[aS4] at h1;have h2:=h1 (ops[j],j) (List.mk_mem_zipIdx_iff_getElem?.2 (by simp[hj]));simp only[Bool.or_eq_true] at h2;rcases h2 with ((h2|h2)|h2)|h2
  ·simp_all
  ·obtain⟨d,hd,hb,he⟩:=aIM.1 h2;refine .inr (.inl ?_);rw[<-Array.any_toList,List.any_eq_true];grind
  ·obtain⟨d,hd,hb,he⟩:=aIM.1 h2;have:=aNZ.1 hr d hd hb;simp_all
  grind
theorem count_set{l:List Bool}:∀{i:Nat},l[i]?=some false->l.count false=(l.set i true).count false+1:=aj
theorem a13{B1:Bl}{ops:Array Oper}{l:List Bool}{is:List Nat}{Lf:List Ch}{i:Nat}{o:Oper}{d:Nat}{v:Value}{a:Act}{w:World}{B:Bl}(hD:aIK g B1 ops l is Lf L)(ho:ops.toList[i]?=some o)(hl:l[i]?=some false)(hr:UB l o.after.toList=true)(hdst:o.dst=some d)(hdn:Nat.blt d g.n=true)(hA:gR g.n (B1++B) e a)(hS:mK g.c w (B1++B) L)
  (hy:(Want ops o (vE (B1++B) e) true/\∀w',Sd g B1 Lf w'->eW g.P o (vE (B1++B) e) w' v w')\/(Want ops o (vE (B1++B) e) false/\v=undef))
  (k:∀a',NZ g.n ((d,v)::vE (B1++B) e) a'->wpAnyH g.P .any ops (mkQ (NK g K) (XK g K) g.Q) (Sd g B1 Lf) ((l.set i true).count false) (l.set i true).toArray a' w):wpAnyH g.P .any ops (mkQ (NK g K) (XK g K) g.Q) (Sd g B1 Lf) (l.count false) l.toArray a w:=by
 obtain⟨f1,f2⟩:=bE0 hD.len hD.free ho hr;rw[count_set hl];refine wpAnyH_take (v:=v) (by simpa using ho) f1 f2 (by simpa using (aC4 hD.len).2 ⟨hl,o,ho,hr⟩) (λ_ _ _ h=>h.elim) ?_ (hD.S hS) ?_
 ·rcases hy with ⟨h1,h2⟩|⟨h1,h2⟩
  ·exact .inl ⟨h1 _ a hA.env,λw' hS'=>h2 w' hS' _ a hA.env⟩
  ·exact .inr ⟨h1 _ a hA.env,h2⟩
 ·rw[hdst];have:=k _ (hA.env.put (by simp_all) v);grind
theorem aIK.set{B1:Bl}{ops:Array Oper}{l:List Bool}{is:List Nat}{Lf L':List Ch}(h:aIK g B1 ops l is Lf L)(i:Nat)(hz:kl L' is=Lf/\∀j∈is,j<L'.length):aIK g B1 ops (l.set i true) is Lf L':=
 ⟨h.pre,by simpa using h.len,h.free,hz.1,hz.2,h.okf,h.ap⟩
theorem bAF{L Ln:List Ch}:∀{is:List Nat},(∀j∈is,j<L.length)->kl (L++Ln) is=kl L is
 |[],_=>rfl
 |i::is,h=>by simp only[kl,List.getElem?_append_left (h i ae),bAF (λj hj=>h j (B8 _ hj))]
theorem aIK.aO2{B1:Bl}{ops:Array Oper}{l:List Bool}{is:List Nat}{Lf:List Ch}(h:aIK g B1 ops l is Lf L)(Ln:List Ch):kl (L++Ln) is=Lf/\∀j∈is,j<(L++Ln).length:=
 ⟨by rw[bAF h.rng];exact h.yR,λj hj=>by have:=h.rng j hj;simp;omega⟩
theorem bE1{B1:Bl}{ops:Array Oper}{l:List Bool}{is:List Nat}{Lf Lv:List Ch}{i:Nat}{o:Oper}(ho:ops.toList[i]?=some o)(hl:l[i]?=some false)(hr:UB l o.after.toList=true)(hg:EZ ops e o.guard=.yes)(hd:sD g.n o.dst=true):aF9 g K m e L o Lv (.d B1 ops l is Lf Lv) (.d B1 ops (l.set i true) is Lf Lv):=by
 intro d x Ln nb k hdst hk hv hs hG hD a w ⟨B,hm,hA,hS,hV⟩;rw[hdst] at hd;obtain⟨v,h1,h2⟩:=hv _ a w hA (hV w (hD.S hS)) hm;refine a13 (v:=v) hD ho hl hr hdst hd hA hS (.inl ⟨aE0 hg,λw' hS'=>?_⟩) λa' hA'=>?_
 ·obtain⟨v',h3,h4⟩:=hv _ a w' hA (hV w' hS') hm;rw[h1] at h3;cases h3;exact h4
 ·refine hG (hD.set i (hD.aO2 Ln)) a' w ⟨B++nb g.c.w0,?_,?_,?_,λw' hS'=>?_⟩
  ·rw[<-NX,LQ,hm,hk]
  ·rw[<-NX];exact hA.ext h1 hA'
  ·rw[<-NX];exact hs _ w _ hm hS
  ·rw[<-NX];exact hs _ w' _ hm (hV w' hS')
theorem aZE{l:List Bool}{i:Nat}:∀{os:List Oper} {j0:Nat},aKR l i os j0=true->∀j o,os[j]?=some o->l[j0+j]?=some false->(UB l o.after.toList=true↔j0+j=i)
 |[],_,_,j,o,h,_=>by simp at h
 |p::os,j0,h,j,o,hj,hl=>by
  simp only[aKR] at h;cases j with
  |zero=>
   simp at hj;subst hj;simp only[aDZ] at hl ⊢;rw[hl] at h;simp only at h;cases hb:Nat.beq j0 i with
   |true=>
    grind[pV]
   |false=>
    rw[hb] at h;simp only at h;have hne:j0≠i:=λh=>by simp_all
    grind
  |succ j=>
   have h':aKR l i os (j0+1)=true:=aj
   have:=aZE h' j o aj aj;grind
theorem bE2{B1:Bl}{ops:Array Oper}{l:List Bool}{is:List Nat}{Lf Lv:List Ch}{i:Nat}{o:Oper}(ho:ops.toList[i]?=some o)(hg:EZ ops e o.guard=.yes):aKS g K m e L o (.o B1 ops l is Lf Lv i) (.d B1 ops (l.set i true) is Lf Lv):=by
 intro ι m' e' L' hz hrun hG hD a w hr;have ⟨B,hm,hA,hS,hV⟩:=hr;unfold wpOp;have hoi:ops[i]?=some o:=aj
 simp only[hoi,aE0 hg _ a hA.env,bY];refine .inl (hrun B a w _ _ hm hA hS λj a' w' h=>?_);have hD':=hD.set i (hz j hD);obtain⟨B',q1,q2,q3⟩:=h;refine⟨?_,?_⟩
 ·refine hD'.S (B:=B++B') ?_;rw[<-NX];exact q3
 ·have:=hG j hD' a' w' ⟨B++B',by rw[<-NX];exact q1,by rw[<-NX];exact q2,by rw[<-NX];exact q3,λw2 h2=>by rw[<-NX];exact(hV w2 h2).app B'⟩;omega
theorem bE3{B1:Bl}{ops:Array Oper}{l:List Bool}{is:List Nat}{Lf Lv:List Ch}{i:Nat}{o:Oper}(ho:ops.toList[i]?=some o)(hg:EZ ops e o.guard=.yes)(hd:sD g.n o.dst=true):aF9 g K m e L o Lv (.o B1 ops l is Lf Lv i) (.d B1 ops (l.set i true) is Lf Lv):=by
 intro d x Ln nb k hdst hk hv hs hG hD a w ⟨B,hm,hA,hS,hV⟩;rw[hdst] at hd;obtain⟨v,h1,h2⟩:=hv _ a w hA (hV w (hD.S hS)) hm;unfold wpOp;have hoi:ops[i]?=some o:=by simpa using ho
 simp only[hoi,aE0 hg _ a hA.env,bY];refine .inl ?_;unfold Oper.wp;rw[h2 _ a hA.env,Oper.upon_value,hdst];have hA':=hA.env.put (show d<g.n by simpa[sD,yT] using hd) v;refine⟨hD.S hS,hG (hD.set i (hD.aO2 Ln)) _ w ⟨B++nb g.c.w0,?_,?_,?_,λw' hS'=>?_⟩⟩
 ·rw[<-NX,LQ,hm,hk]
 ·rw[<-NX];exact hA.ext h1 hA'
 ·rw[<-NX];exact hs _ w _ hm hS
 ·rw[<-NX];exact hs _ w' _ hm (hV w' hS')
theorem aVK{l:List Bool}{j:Nat}:∀{os:List Oper} {j0:Nat} {o:Oper},os[j]?=some o->l[j0+j]?=some false->UB l o.after.toList=true->j0+j∈yU l os j0:=by
 intro os;induction os generalizing j with
 |nil=>simp
 |cons p os ih=>
  intro j0 o h hl hr;cases j with
  |zero=>
   simp_all[yU]
  |succ j=>
   have h2:=ih (j:=j) (j0:=j0+1) (o:=o) aj aj hr;grind[yU]
theorem bKX{B1:Bl}{ops:Array Oper}{l:List Bool}{is:List Nat}{Lf Lv:List Ch}(hex:∃i,i∈yU l ops.toList 0)(h:∀i∈yU l ops.toList 0,G g K m e L (.o B1 ops l is Lf Lv i))(hok:∀i∈yU l ops.toList 0,l[i]?=some false/\∃o,ops.toList[i]?=some o/\UB l o.after.toList=true):G g K m e L (.d B1 ops l is Lf Lv):=by intro hD a w hr;obtain⟨i0,hi0⟩:=hex;obtain⟨q1,q2⟩:=hok i0 hi0;have hm:i0∈Region.ready .any ops l.toArray:=(aC4 hD.len).2 ⟨q1,q2⟩;rw[count_set q1];refine⟨λh=>aj,λj hj=>?_⟩;obtain⟨h1,p,h2,h3⟩:=(aC4 hD.len).1 hj;have h4:=aVK (j0:=0) h2 aj h3;rw[aD0] at h4;have h5:=h j h4 hD a w hr;grind
theorem aO3{l:List Bool}{i:Nat}:∀{os:List Oper} {j0:Nat},i∈yU l os j0->l[i]?=some false/\∃j o,os[j]?=some o/\j0+j=i/\UB l o.after.toList=true:=by
 intro os;induction os with
 |nil=>intro j0 h;cases h
 |cons p os ih=>
  intro j0 h;have tail:i∈yU l os (j0+1)->l[i]?=some false/\∃j o,(p::os)[j]?=some o/\j0+j=i/\UB l o.after.toList=true:=λh=>by obtain⟨h1,j,o,h2,h3,h4⟩:=ih h;exact⟨h1,j+1,o,aj,aa,h4⟩
  simp only[yU] at h;split at h
  ·rename_i hl;split at h
   ·rename_i hr;rcases xS.1 h with h|h
    ·subst h;grind
    grind
   grind
  grind
theorem bAG{B1:Bl}{ops:Array Oper}{l:List Bool}{is:List Nat}{Lf Lv:List Ch}{i0:Nat}{r:List Nat}(hr:yU l ops.toList 0=i0::r)(h:∀i∈i0::r,G g K m e L (.o B1 ops l is Lf Lv i)):G g K m e L (.d B1 ops l is Lf Lv):=
 bKX ⟨i0,aj⟩ (λi hi=>h i aj) λi hi=>by obtain⟨h1,j,o,h2,h3,h4⟩:=aO3 hi;grind
theorem bE4{l:List Bool}{i:Nat}{ops:Array Oper}(h:aKR l i ops.toList 0=true):∀j∈yU l ops.toList 0,j=i:=λj hj=>by obtain⟨h1,k,o,h2,h3,h4⟩:=aO3 hj;rw[aD0] at h3;grind[aZE]
def PsG(g:Gx)(K:List Fr)(m:Nat)(L:List Ch)(B1:Bl)(ops:Array Oper)(is:List Nat)(Lf Lv:List Ch):Ps->Prop
 |.bad=>False
 |.ask _ l e=>G g K m e L (.d B1 ops l is Lf Lv)
 |.pur j o l e=>ops.toList[j]?=some o->l[j]?=some false->UB l o.after.toList=true->EZ ops e o.guard=.yes->G g K m e L (.d B1 ops l is Lf Lv)
 |.fin l e _=>G g K m e L (.d B1 ops l is Lf Lv)
theorem aC5{B1:Bl}{ops:Array Oper}{is:List Nat}{Lf Lv:List Ch}:∀(r:List Oper) (i:Nat) (l:List Bool) (e:SE) (q:List (Nat×Oper)),(∀j,r[j]?=ops.toList[i+j]?) ->
  PsG g K m L B1 ops is Lf Lv (pass g.T g.n ops Lv r i l e q)->G g K m e L (.d B1 ops l is Lf Lv)
 |[],i,l,e,q,hr,h=>by unfold pass at h;exact h
 |o::r,i,l,e,q,hr,h=>by
  have ho:ops.toList[i]?=some o:=by have:=hr 0;grind
  have hr':∀j,r[j]?=ops.toList[i+1+j]?:=λj=>by have:=hr (j+1);grind
  unfold pass at h;cases hl:l[i]? with
  |none=>simp only[hl] at h;exact h.elim
  |some b=>
   cases b with
   |true=>simp only[hl] at h;exact aC5 r (i+1) l e q hr' h
   |false=>
    cases hre:UB l o.after.toList with
    |false=>simp only[hl,hre] at h;exact aC5 r (i+1) l e q hr' h
    |true=>
     cases hgd:EZ ops e o.guard with
     |bad=>simp only[hl,hre,hgd] at h;exact h.elim
     |ask c=>simp only[hl,hre,hgd] at h;exact h
     |no=>
      cases hd:o.dst with
      |none=>simp only[hl,hre,hgd,hd] at h;exact h.elim
      |some d=>
       cases hb:Nat.blt d g.n with
       |false=>simp only[hl,hre,hgd,hd,hb] at h;exact h.elim
       |true=>
        simp only[hl,hre,hgd,hd,hb] at h;have ih:=aC5 r (i+1) _ _ q hr' h;intro hD a w ⟨B,hm,hA,hS,hV⟩;refine a13 (v:=undef) hD ho hl hre hd hb hA hS (.inr ⟨bG1 hgd,rfl⟩) λa' hA'=>?_;exact ih (hD.set i ⟨hD.yR,hD.rng⟩) a' w ⟨B,hm,hA.of (x:=.u) rfl hA',hS,hV⟩
     |yes=>
      cases hv:ev1 g.T e Lv o.op with
      |some v=>
       cases hd:o.dst with
       |none=>simp only[hl,hre,hgd,hv,hd] at h;exact h.elim
       |some d=>
        cases hb:Nat.blt d g.n with
        |false=>simp only[hl,hre,hgd,hv,hd,hb] at h;exact h.elim
        |true=>
         simp only[hl,hre,hgd,hv,hd,hb] at h;have ih:=aC5 r (i+1) _ _ q hr' h;intro hD a w ⟨B,hm,hA,hS,hV⟩;obtain⟨u,h1,h2⟩:=aWS g.hT hA (hV w (hD.S hS)) hv;refine a13 (v:=u) hD ho hl hre hd hb hA hS (.inl ⟨aE0 hgd,λw' hS'=>?_⟩) λa' hA'=>?_
         ·obtain⟨u',h3,h4⟩:=aWS (w:=w') g.hT hA (hV w' hS') hv;grind
         ·exact ih (hD.set i ⟨hD.yR,hD.rng⟩) a' w ⟨B,hm,hA.of h1 hA',hS,hV⟩
      |none=>
       cases hp:bGY o.op with
       |true=>simp only[hl,hre,hgd,hv,hp] at h;exact h ho hl hre hgd
       |false=>
        simp only[hl,hre,hgd,hv,hp] at h;exact aC5 r (i+1) l e ((i,o)::q) hr' h
theorem a47:∀{l:List Bool} {i:Nat},bET l=true->l[i]?≠some false
 |[],i,_=>ae
 |b::l,i,h=>by
  unfold bET at h;cases b with
  |false=>cases h
  |true=>
   cases i with
   |zero=>simp
   |succ i=>simpa using a47 (l:=l) (i:=i) h
theorem aVL{k:Nat}:∀{L:List Ch},VL k L=true->∃i,(∀cs',uJ k cs' L=L.set i (.box k cs'))/\∀k0,aWO k L k0=k0+i
 |[],h=>by cases h
 |x::L,h=>by
  have ih:VL k L=true->(∀cs',uJ k cs' (x::L)=x::uJ k cs' L)->(∀k0,aWO k (x::L) k0=aWO k L (k0+1))->∃i,(∀cs',uJ k cs' (x::L)=(x::L).set i (.box k cs'))/\∀k0,aWO k (x::L) k0=k0+i:=λh h2 h3=>by obtain⟨i,g1,g2⟩:=aVL h;exact⟨i+1,λcs'=>aj,λk0=>aj⟩
  cases x with
  |box j cs=>
   simp only[VL] at h;split at h
   ·rename_i hb;exact⟨0,λcs'=>by grind[uJ,pV],λk0=>by grind[aWO]⟩
   simp_all[uJ,aWO]
  |ro j cs=>
   simp only[VL] at h;split at h
   ·cases h
   ·exact ih h (λ_=>rfl) (λ_=>rfl)
  |o ch=>exact ih h (λ_=>rfl) (λ_=>rfl)
  |f g=>exact ih h (λ_=>rfl) (λ_=>rfl)
  |no=>exact ih h (λ_=>rfl) (λ_=>rfl)
  |w k b z=>exact ih h (λ_=>rfl) (λ_=>rfl)
theorem aO4{i:Nat}:∀{is:List Nat},eZ i is=true->i∉is
 |[],_=>ae
 |j::r,h=>by
  unfold eZ at h;cases hb:Nat.beq i j with
  |true=>grind
  |false=>
   rw[hb] at h;have hne:i≠j:=λe=>by simp_all
   simpa[hne] using aO4 h
theorem bAH{L:List Ch}{i:Nat}{x:Ch}:∀{is:List Nat},i∉is->kl (L.set i x) is=kl L is
 |[],_=>rfl
 |j::is,h=>by have hne:i≠j:=λe=>h (by simp[e]);simp only[kl,List.getElem?_set_ne hne,bAH (λhj=>h (B8 _ hj))]
theorem a14{T:TT}{t:TypeId}{p v:SV}{L':List Ch}{x y:Operand}{is:List Nat}(h:XI T t p v L=some L')(hp:iM e x=some p)(hf:bIH e L is (.store t x y)=true)(hr:∀j∈is,j<L.length):kl L' is=kl L is/\∀j∈is,j<L'.length:=by
 unfold XI at h;split at h
 ·rename_i k o;split at h
  ·rename_i hb;split at h
   ·split at h
    ·split at h
     case h_2=>cases h
     split at h
     case h_2=>cases h
     rename_i L2 hL2;cases h;have:=XJ hL2;subst this;obtain⟨i,h1,h2⟩:=aVL hb;simp_all[bIH,aO4,bAH]
    ·cases h
   ·cases h
  ·cases h
 ·cases h
theorem bE5{a a':Act}{w':World}{B0 B:Bl}{d b:Nat}{cs:List SV}(hm:(B0++B).length=m)(hA:gR g.n (B0++B) e a)(hA':NZ g.n ((d,.pointer (some ⟨b,0,none⟩))::vE (B0++B) e) a')(hS':mK g.c w' ((B0++B)++[(b,0)]) (L++[.box (B0++B).length cs])):qY g.n g.c (B0++B) (m+1) ((d,.p m 0)::e) (L++[.box m cs]) a' w':=by
 refine⟨[(b,0)],aj,?_,?_⟩
 ·exact hA.ext (nb:=[(b,0)]) (x:=.p m 0) (by grind[fP,gV,bZ]) hA'
 grind
theorem uK{cf:uI}(Ln:List Ch):Frz g cf L (L++Ln):=by
 cases cf with
 |d B1 ops l is Lf Lv=>exact λhD=>hD.aO2 Ln
 |o B1 ops l is Lf Lv i=>exact λhD=>hD.aO2 Ln
 |_=>trivial
theorem a48{T:TT}{op:Op}{v:SV}(h:eff T e L op=.val v):ev1 T e L op=some v:=by unfold eff at h;grind
theorem bE6{T:TT}{op:Op}{cs:List SV}(h:eff T e L op=.box cs):(∃t i,op=.alloc t/\AQ T t=some i/\cs=i.z)\/(∃t x v,op=.box t x/\iM e x=some v/\isCells v=true/\cs=o4 v):=by unfold eff at h;grind
theorem bIP{T:TT}{op:Op}{L':List Ch}(h:eff T e L op=.st L'):∃t x y p v,op=.store t x y/\iM e x=some p/\XI T t p v L=some L':=by unfold eff at h;grind
theorem bE7{T:TT}{op:Op}{L':List Ch}(h:eff T e L op=.st L'):∃t x y p v,op=.store t x y/\iM e x=some p/\iM e y=some v/\XI T t p v L=some L':=by unfold eff at h;grind
theorem bAI{o:Oper}{cf cf':uI}(hE:aKS g K m e L o cf cf') :
  (∀d cs,eff g.T e L o.op=.box cs->o.dst=some d->Nat.blt d g.n=true->Frz g cf L (L++[.box m cs])->G g K (m+1) ((d,.p m 0)::e) (L++[.box m cs]) cf'->G g K m e L cf) /\
  (∀L',eff g.T e L o.op=.st L'->o.dst=none->Frz g cf L L'->G g K m e L' cf'->G g K m e L cf):=by
 refine⟨λd cs hf hd hdn hz hG=>hE Unit (λ_=>m+1) (λ_=>(d,.p m 0)::e) (λ_=>L++[.box m cs]) (λ_=>hz) (λB a w next Q hm hA hS hnext=>?_) (λ_=>hG),λL' hf hd hz hG=>hE Unit (λ_=>m) (λ_=>e) (λ_=>L') (λ_=>hz) (λB a w next Q hm hA hS hnext=>?_) (λ_=>hG)⟩
 ·have fin:∀{u:Value} {w':World} {b:Nat},eW g.P o (vE (B0S g cf++B) e) w u w'->u=.pointer (some ⟨b,0,none⟩)->mK g.c w' ((B0S g cf++B)++[(b,0)]) (L++[.box (B0S g cf++B).length cs])->o.wp g.P a w next Q:=by intro u w' b hR hu hS';subst hu;unfold Oper.wp;rw[hR _ a hA.env,Oper.upon_value,hd];exact hnext () _ _ (bE5 hm hA (hA.env.put (by simp_all) _) hS')
  rcases bE6 hf with ⟨t,i,ho,hl,rfl⟩|⟨t,x,v,ho,hv,hc,rfl⟩
  ·obtain⟨u,w',b,k1,k2,k3⟩:=bAD (E:=vE (B0S g cf++B) e) g.hT hS ho hl;grind
  ·obtain⟨u,w',b,k1,k2,k3⟩:=bIO (P:=g.P) hA hS ho hv hc;grind
 ·obtain⟨t,x,y,p,v,ho,hx,hy,hs⟩:=bE7 hf;obtain⟨w',k1,k2⟩:=aVJ g.hT hA hS ho hx hy hs;unfold Oper.wp;rw[k1 _ a hA.env,Oper.upon_skip,hd];exact hnext () _ _ ⟨[],aj,by rw[tX];exact⟨hA.d,hA.size,hA.get⟩,aj⟩
theorem bAJ{o:Oper}{Lv:List Ch}{cf cf':uI}(h:Gs g (bES e o Lv cf cf' K m L o.op))(hd:sD g.n o.dst=true)(hP:aF9 g K m e L o Lv cf cf')(hE:aKS g K m e L o cf cf'):G g K m e L cf:=by
 generalize hop:o.op=op at h;unfold bES at h;split at h
 ·split at h
  ·exact h
  ·exact h.elim
 ·split at h
  ·rename_i h1 h2 h3;exact h _ _ hop h3 h1 h2 hP
  ·exact h hd hP hE
 ·split at h
  ·rename_i h1 h2;split at h
   ·rename_i hx;exact h _ _ _ hop rfl h1 ⟨_,h2,rfl⟩ hx hd hE
   ·exact h _ _ _ hop rfl h1 ⟨_,h2,rfl⟩ hd hE
  ·exact h hd hP hE
 ·exact h hd hP hE
theorem bE8{o:Oper}{Lv:List Ch}{cf cf':uI}(h:Gs g (bIG e o Lv cf cf' K m L o.op))(hd:sD g.n o.dst=true)(hP:aF9 g K m e L o Lv cf cf'):G g K m e L cf:=by
 generalize hop:o.op=op at h;unfold bIG at h;split at h
 ·split at h
  ·exact h
  ·exact h.elim
 ·split at h
  ·rename_i h1 h2 h3;exact h _ _ hop h3 h1 h2 hP
  ·exact h hd hP
 ·exact h hd hP
theorem aE1:∀(F:Nat) (K:List Fr) (c:uI) (m:Nat) (e:SE) (L:List Ch),Gs g (stp g.T g.n F K c m e L)->G g K m e L c
 |0,_,_,_,_,_,h=>h.elim
 |F + 1,K,.c x,m,e,L,h=>by
  have ih:=aE1 F;unfold stp at h;cases x with
  |skip=>exact λa w hr=>bDZ (a45 ih h a w hr)
  |seq x y=>exact λa w hr=>bHL (ih _ _ _ _ _ h a w hr)
  |block id b=>
   simp only at h;split at h
   ·exact h
   ·exact λa w hr=>aY4 (ih _ _ _ _ _ h a w hr)
  |exit id=>
   simp only at h;refine λa w hr=>bD0 (bAE ?_);cases hx:xit id K with
   |some K'=>rw[hx] at h;exact a45 ih h a w hr
   |none=>rw[hx] at h;exact h a w hr
  |ret=>exact λa w hr=>bHM (h a w hr)
  |cond o x y=>
   simp only at h;split at h
   ·rename_i c ho;intro a w hr;obtain⟨B,hm,hA,hS⟩:=hr;obtain⟨v,h1,h2⟩:=eH hA ho;cases h1;cases c with
    |true=>exact bHN hA.env h2 rfl (ih _ _ _ _ _ h a w ⟨B,hm,hA,hS⟩)
    |false=>exact bKO hA.env h2 rfl (ih _ _ _ _ _ h a w ⟨B,hm,hA,hS⟩)
   ·rename_i c ho;exact h ho
   ·exact h.elim
  |region id ops d=>
   cases d with
   |false=>exact λa w hr=>a6K (ih _ _ _ _ _ h a w hr)
   |true=>exact h
  |_=>exact h.elim
 |F + 1,K,.n,m,e,L,h=>by have ih:=aE1 F;unfold stp at h;exact λa w hr=>a45 ih h a w hr
 |F + 1,K,.r ops [],m,e,L,h=>by have ih:=aE1 F;unfold stp at h;exact λa w hr=>a45 ih h a w hr
 |F + 1,K,.r ops (⟨dst,op,ty,ps,af,gd⟩::l),m,e,L,h=>by
  have ih:=aE1 F;unfold stp at h;generalize hg:EZ ops e gd=gv at h;cases gv with
  |bad=>exact h.elim
  |ask c=>exact h
  |no=>
   simp only at h;split at h
   ·rename_i d;split at h
    ·rename_i hd;intro a w ⟨B,hm,hA,hS⟩;exact bD2 (bG1 hg) rfl hd (λa' hA'=>ih _ _ _ _ _ h a' w ⟨B,hm,hA.of (x:=.u) (v:=undef) rfl hA',hS⟩) a hA.env
    ·exact h.elim
   ·exact h.elim
  |yes=>
   simp only at h;have hE:=bAI (g:=g) (K:=K) (m:=m) (e:=e) (L:=L) (o:=⟨dst,op,ty,ps,af,gd⟩) (cf:=.r ops (⟨dst,op,ty,ps,af,gd⟩::l)) (cf':=.r ops l) (a46 hg);split at h
   ·rename_i d v hf;split at h
    ·rename_i hd;intro a w ⟨B,hm,hA,hS⟩;obtain⟨u,h1,h2⟩:=aWS (o:=⟨_,op,ty,ps,af,gd⟩) g.hT hA hS (a48 hf);exact bGU h2 (aE0 hg) rfl hd (λa' hA'=>ih _ _ _ _ _ h a' w ⟨B,hm,hA.of h1 hA',hS⟩) a hA.env
    ·exact h.elim
   ·rename_i d cs hf;split at h
    ·rename_i hd;exact hE.1 _ _ hf rfl hd trivial (ih _ _ _ _ _ h)
    ·exact h.elim
   ·rename_i L' hf;exact hE.2 _ hf rfl trivial (ih _ _ _ _ _ h)
   ·split at h
    ·rename_i hd;exact bAJ h hd (bEZ hg hd) (a46 hg)
    ·exact h.elim
   ·exact h.elim
 |F + 1,K,.d B1 ops l is Lf Lv,m,e,L,h=>by
  have ih:=aE1 F;unfold stp at h;refine aC5 ops.toList 0 l e [] (λj=>ae) ?_;generalize pass g.T g.n ops Lv ops.toList 0 l e []=ps at h;cases ps with
  |bad=>exact h.elim
  |ask c l' e'=>exact h
  |pur i o l' e'=>
   intro h1 h2 h3 h4;simp only at h;split at h
   ·grind[bE8,bE1]
   ·exact h.elim
  |fin l' e' q=>
   cases q with
   |nil=>
    simp only at h;split at h
    ·rename_i hall;intro hD a w hr;have hn:=ih _ _ _ _ _ h;obtain⟨B2,hB2⟩:=hD.pre;have hr':Rel g m e' L a w:=by obtain⟨B,hm,hA,hS,_⟩:=hr;subst hB2;exact⟨B2++B,aj,aj,aj⟩
     have hempty:Region.ready .any ops l'.toArray=[]:=by refine List.eq_nil_iff_forall_not_mem.2 λj hj=>?_;exact a47 hall ((aC4 hD.len).1 hj).1
     exact wpAnyH_done hempty (hn a w hr') _
    ·exact h.elim
   |cons p q=>
    cases q with
    |cons p' q=>exact h
    |nil=>
     obtain⟨i,o⟩:=p;simp only at h;split at h
     ·rename_i hon;have ho:=ih _ _ _ _ _ h;cases hra:yU l' ops.toList 0 with
      |cons j r=>
       refine bAG hra λk hk=>?_;grind[bE4]
      |nil=>
       refine absurd h ?_;intro h;unfold stp at h;cases F with
       |zero=>exact h
       |succ F=>
        simp only at h;split at h
        ·rename_i hi;split at h
         ·rename_i h1 h2 h3;have:=aVK (j0:=0) hi aj h1;grind
         ·exact h
        ·exact h
     ·exact h.elim
 |F + 1,K,.o B1 ops l is Lf Lv i,m,e,L,h=>by
  have ih:=aE1 F;unfold stp at h;split at h
  ·rename_i dst op ty ps af gd ho;split at h
   ·rename_i hre hli hg;have hes:=bE2 (g:=g) (K:=K) (m:=m) (e:=e) (L:=L) (B1:=B1) (ops:=ops) (l:=l) (is:=is) (Lf:=Lf) (Lv:=Lv) ho hg;have hE:=bAI (g:=g) (K:=K) (m:=m) (e:=e) (L:=L) (o:=⟨dst,op,ty,ps,af,gd⟩) (cf:=.o B1 ops l is Lf Lv i) (cf':=.d B1 ops (l.set i true) is Lf Lv) hes;split at h
    ·rename_i v d hf;split at h
     ·rename_i hd;have hG:=ih _ _ _ _ _ h;have hv:=a48 hf;refine hes Unit (λ_=>m) (λ_=>(d,v)::e) (λ_=>L) (λ_ hD=>⟨hD.yR,hD.rng⟩) (λB a w next Q hm hA hS hnext=>?_) (λ_=>hG);obtain⟨u,h1,h2⟩:=aWS (o:=⟨some d,op,ty,ps,af,gd⟩) g.hT hA hS hv;unfold Oper.wp;rw[h2 _ a hA.env,Oper.upon_value];exact hnext () _ _ ⟨[],aj,by simpa using hA.of h1 (hA.env.put (by simp_all) u),aj⟩
     ·exact h.elim
    ·rename_i d cs hf;split at h
     ·rename_i hd;exact hE.1 _ _ hf rfl hd (λhD=>hD.aO2 _) (ih _ _ _ _ _ h)
     ·exact h.elim
    ·rename_i L' hf;split at h
     ·rename_i hfz;refine hE.2 _ hf rfl (λhD=>?_) (ih _ _ _ _ _ h);obtain⟨t,x,y,p,v,hop,hx,hs⟩:=bIP hf;subst hop;have:=a14 hs hx hfz hD.rng;exact⟨by rw[this.1];exact hD.yR,this.2⟩
     ·exact h.elim
    ·split at h
     ·rename_i hd;exact bAJ h hd (bE3 ho hg hd) hes
     ·exact h.elim
    ·exact h.elim
   ·exact h.elim
  ·exact h.elim
theorem aN0:∀{e r:SE},a6X e=some r->r=e
 |[],r,h=>by cases h;rfl
 |(k,v)::l,r,h=>by
  simp only[a6X] at h;split at h
  ·rename_i s hs;cases h;rw[aN0 hs]
  ·cases h
theorem aN1:∀{e r:List Ch},a6Y e=some r->r=e
 |[],r,h=>by cases h;rfl
 |x::l,r,h=>by
  simp only[a6Y] at h;split at h
  ·rename_i s hs;have:=aN1 hs;grind[XJ]
  ·cases h
theorem gY{K:List Fr}{c:uI}{m:Nat}{e:SE}{L:List Ch}(h:Gs g (jE g.T g.n K c m e L)):G g K m e L c:=by
 unfold jE at h;split at h
 ·grind[aN0,aN1,aE1]
 ·exact h.elim
end
section
variable {P:Program} {N N':Act->World->Prop} {X X':Nat->Act->World->Prop} {T T':Act->World->Prop}
theorem aA3(h:LetsOut (mkQ N X T)):LetsOut (mkQ N' X' T'):=let ⟨_,_,h⟩:=h;h.elim
theorem aZF{o:Oper}{a:Act}{next next':Act->World->Prop}{r:Result Next}(hn:∀a w,next a w->next' a w)(h:o.upon P a next (mkQ N X T) r):o.upon P a next' (mkQ N' X' T') r:=by
 unfold Oper.upon at h ⊢;split at h
 ·grind
 ·grind
 ·grind
 ·refine Calls.mono h λe w' he=>?_;cases e with
  |returned v=>grind
  |panicked c=>exact he.elim
  |outgrown=>exact aA3 he
 ·grind[Rows.mono]
 ·exact h.elim
 omega
theorem aE2{ops:Array Oper}(hN:∀a w,N a w->N' a w):∀(l:List Oper) {a:Act} {w:World},wpList P ops (mkQ N X T) l a w->wpList P ops (mkQ N' X' T') l a w
 |[],a,w,h=>hN a w h
 |o::l,a,w,h=>by
  unfold wpList at h ⊢;split
  ·rename_i hw;rw[aN hw] at h;rcases h with h|⟨h1,h2⟩
   ·exact .inl (aZF (λ_ _ h=>aE2 hN l h) h)
   grind[aA3]
  ·rename_i hw;rw[aS hw] at h;exact aE2 hN l h
theorem aZG{ops:Array Oper}{i:Nat}{k k':Act->World->Prop}{a:Act}{w:World}(hk:∀a w,k a w->k' a w)(h:wpOp P ops (mkQ N X T) i k a w):wpOp P ops (mkQ N' X' T') i k' a w:=by
 unfold wpOp at h ⊢;split
 ·grind
 ·rename_i o h0;rw[h0] at h;simp only at h;split
  ·rename_i hw;rw[aN hw] at h;rcases h with h|⟨h1,h2⟩
   ·exact .inl (aZF hk h)
   grind[aA3]
  grind
theorem aE3{ops:Array Oper}{S:World->Prop}(hN:∀a w,N a w->N' a w):∀(fuel:Nat) {aCS:Array Bool} {a:Act} {w:World},wpAnyH P .any ops (mkQ N X T) S fuel aCS a w->wpAnyH P .any ops (mkQ N' X' T') S fuel aCS a w
 |0,_,a,w,h=>⟨h.1,hN a w h.2⟩
 |f+1,_,a,w,h=>⟨λh0=>hN a w (h.1 h0),λi hi=>aZG (λ_ _ h=>⟨h.1,aE3 hN f h.2⟩) (h.2 i hi)⟩
end
section
variable {P:Program} {T:TT} {hT:GJ P T} {n:Nat} {c:Ctx} {B0:Bl} {N N1:Act->World->Prop} {X X1:Nat->Act->World->Prop} {Q:Act->World->Prop} {K K':List Fr} {m m':Nat} {e e':SE} {L L':List Ch} {cf cf':uI}
theorem a15(Kb:List Fr)(hN:∀a w,N1 a w->NK (.mk P T hT n c B0 N X Q) Kb a w)(hX:∀i a w,X1 i a w->XK (.mk P T hT n c B0 N X Q) Kb i a w):∀(Ka:List Fr),(∀a w,NK (.mk P T hT n c B0 N1 X1 Q) Ka a w->NK (.mk P T hT n c B0 N X Q) (Ka++Kb) a w)/\(∀i a w,XK (.mk P T hT n c B0 N1 X1 Q) Ka i a w->XK (.mk P T hT n c B0 N X Q) (Ka++Kb) i a w)
 |[]=>⟨hN,hX⟩
 |.s y::Ka=>by obtain⟨h1,h2⟩:=a15 Kb hN hX Ka;exact⟨λa w h=>CW.mono (show CW P y (NK _ Ka) (XK _ Ka) Q a w from h) h1 h2 (λ_ _ h=>h),h2⟩
 |.k id::Ka=>by obtain⟨h1,h2⟩:=a15 Kb hN hX Ka;refine⟨h1,λi a w h=>?_⟩;simp only[XK,aVD,aDW] at h ⊢;grind
theorem bKY{Ka Kb:List Fr}(hN:∀a w,N1 a w->NK (.mk P T hT n c B0 N X Q) Kb a w)(hX:∀i a w,X1 i a w->XK (.mk P T hT n c B0 N X Q) Kb i a w)(h:G (.mk P T hT n c B0 N1 X1 Q) Ka m e L cf):G (.mk P T hT n c B0 N X Q) (Ka++Kb) m e L cf:=by
 obtain⟨h1,h2⟩:=a15 Kb hN hX Ka;cases cf with
 |n=>exact λa w hr=>h1 a w (h a w hr)
 |c x=>exact λa w hr=>CW.mono (h a w hr) h1 h2 (λ_ _ h=>h)
 |r ops l=>exact λa w hr=>aE2 h1 l (h a w hr)
 |d B1 ops l is Lf Lv=>exact λhD a w hr=>aE3 h1 _ (h ⟨hD.pre,hD.len,hD.free,hD.yR,hD.rng,hD.okf,hD.ap⟩ a w hr)
 |o B1 ops l is Lf Lv i=>exact λhD a w hr=>aZG (λ_ _ h=>⟨h.1,aE3 h1 _ h.2⟩) (h ⟨hD.pre,hD.len,hD.free,hD.yR,hD.rng,hD.okf,hD.ap⟩ a w hr)
theorem aN2{g:Gx}{s:Stop}(hs:VM s=some (K,cf,m,e,L))(h:G g K m e L cf):Gs g s:=by
 cases s<;>simp only[VM] at hs<;>cases hs
 ·exact λ_=>h
 ·exact h
 ·exact h
 ·exact λ_ _ _ _ _ _ _=>h
 ·exact λ_ _ _ _ _ _ _ _ _ _=>h
 ·exact λ_ _ _ _ _ _ _ _ _=>h
 ·exact λ_ _=>h
 ·exact λ_ _ _=>h
 ·exact h
 ·exact h
def JP(n:Nat)(c:Ctx)(B0:Bl){π υ:Type}(eq:π->Prop)(m:Nat)(ej:π->υ->SE)(Lj:π->υ->List Ch):Act->World->Prop:=λa w=>∃p u,eq p/\qY n c B0 m (ej p u) (Lj p u) a w
theorem dU{B1:Bl}{ops:Array Oper}{l:List Bool}{is:List Nat}{Lf Lv:List Ch}{i j:Nat}(q0_:VM (jE T n K cf m e L)=some (K',.d B1 ops l is Lf Lv,m',e',L')/\yU l ops.toList 0=[i,j])
  (k1:G (.mk P T hT n c B0 N X Q) K' m' e' L' (.o B1 ops l is Lf Lv i)) (k2:G (.mk P T hT n c B0 N X Q) K' m' e' L' (.o B1 ops l is Lf Lv j)):G (.mk P T hT n c B0 N X Q) K m e L cf:=
 let ⟨hs,hr⟩:=q0_;gY (g:=.mk P T hT n c B0 N X Q) (aN2 hs (bAG (g:=.mk P T hT n c B0 N X Q) hr λk hk=>by
  grind))
theorem aIN{B1:Bl}{ops:Array Oper}{l:List Bool}{is:List Nat}{Lf Lv:List Ch}{i j p:Nat}(hs:VM (jE T n K cf m e L)=some (K',.d B1 ops l is Lf Lv,m',e',L'))(hr:yU l ops.toList 0=[i,j,p])
  (k1:G (.mk P T hT n c B0 N X Q) K' m' e' L' (.o B1 ops l is Lf Lv i)) (k2:G (.mk P T hT n c B0 N X Q) K' m' e' L' (.o B1 ops l is Lf Lv j)) (k3:G (.mk P T hT n c B0 N X Q) K' m' e' L' (.o B1 ops l is Lf Lv p)):G (.mk P T hT n c B0 N X Q) K m e L cf:=
 gY (g:=.mk P T hT n c B0 N X Q) (aN2 hs (bAG (g:=.mk P T hT n c B0 N X Q) hr λk hk=>by
  grind))
theorem bd{O J:Type}{A:Option O}{f:O->Option J}{q:J}{C:Prop}(hF:A.bind f=some q)(k:∀x,A=some x->f x=some q->C):C:=by
 cases h:A with
 |none=>grind
 |some x=>grind
theorem nd{J:Type}{p:Prop}[Decidable p]{A:Option J}{q:J}{C:Prop}(hF:need p A=some q)(k:p->A=some q->C):C:=k (m0 hF).1 (m0 hF).2
theorem rb{O:Type}{A:Option O}{x:O}(h:A=some x):A.bind some=some x:=by rw[h];rfl
theorem rn{p:Prop}[Decidable p](h:p):need p (some ())=some ():=by simp[need,h]
theorem go(hs:VM (jE T n K cf m e L)=some (K',cf',m',e',L'))(k:G (.mk P T hT n c B0 N X Q) K' m' e' L' cf'):G (.mk P T hT n c B0 N X Q) K m e L cf:=
 gY (g:=.mk P T hT n c B0 N X Q) (aN2 hs k)
theorem cut{π υ:Type}(j mj:Nat)(eq:π->Prop)(ks:List Nat)(ej:π->υ->SE)(is:List Nat)(Lj:π->υ->List Ch)(hs:VM (jE T n K cf m e L)=some (K',cf',m',e',L'))
  (k1:G (.mk P T hT n c B0 (JP n c B0 eq mj (λp u=>ej p u++kp e' ks) (λp u=>Lj p u++kl L' is)) (XK (.mk P T hT n c B0 N X Q) (K'.drop j)) Q) (K'.take j) m' e' L' cf')
  (k2:∀p u,eq p->G (.mk P T hT n c B0 N X Q) (K'.drop j) mj (ej p u++kp e' ks) (Lj p u++kl L' is) .n):G (.mk P T hT n c B0 N X Q) K m e L cf:=by
 refine go hs ?_;rw[<-aDY j K'];refine bKY (λa w ⟨p,u,h1,h2⟩=>?_) (λ_ _ _ h=>h) k1;exact k2 p u h1 a w h2
theorem jn{π υ:Type}{eq:π->Prop}{mj:Nat}{ej:π->υ->SE}{Lj:π->υ->List Ch}{p:π}(u:υ)(is:List Nat)(hF:eq p)(hs:jE T n K cf m e L=.fin m' e' L')(h:asT B0.length m' e' L' is mj (ej p u) (Lj p u)=some (ej p u,Lj p u)):G (.mk P T hT n c B0 (JP n c B0 eq mj ej Lj) X Q) K m e L cf:=
 gY (g:=.mk P T hT n c B0 _ X Q) (by
  rw[hs];exact λa w hr=>⟨p,u,hF,qY.asT hr is h⟩)
theorem aC6{b cb:Bool}{a:Act}{B:Bl}(hb:b=cb):∀(ss:List Nat),bA (FL e) ss=some (ss.map λ_=>SV.b b)->gR n B e a->gR n B (ovr cb e ss) a:=by
 intro ss hs hA;refine⟨hA.d,hA.size,?_⟩;subst hb;have key:∀k∈ss,FL e k=some (.b b):=by
  induction ss with
  |nil=>simp
  |cons s ss ih=>
   grind[bA]
 clear hs;induction ss with
 |nil=>exact hA.get
 |cons s ss ih=>
  intro k x hk;simp only[ovr,FL] at hk;cases hb:Nat.beq k s with
  |true=>
   rw[hb] at hk;cases hk;rw[pV hb];exact hA.get s (.b b) (key s ae)
  |false=>
   grind
theorem aN3{b cb:Bool}{a:Act}{w:World}(hb:b=cb)(ss:List Nat)(hs:bA (FL e) ss=some (ss.map λ_=>SV.b b))(h:qY n c B0 m e L a w):qY n c B0 m (ovr cb e ss) L a w:=by obtain⟨B,h1,hA,hS⟩:=h;exact⟨B,h1,aC6 hb ss hs hA,hS⟩
theorem aO5{e1:SE}(h:∀a B,gR n B e a->gR n B e1 a)(k:G (.mk P T hT n c B0 N X Q) K m e1 L cf):G (.mk P T hT n c B0 N X Q) K m e L cf:=by
 cases cf with
 |d B1 ops l is Lf Lv=>exact λhD a w ⟨B,h1,h2,h3,h4⟩=>k hD a w ⟨B,h1,h a _ h2,h3,h4⟩
 |o B1 ops l is Lf Lv i=>exact λhD a w ⟨B,h1,h2,h3,h4⟩=>k hD a w ⟨B,h1,h a _ h2,h3,h4⟩
 |_=>exact λa w ⟨B,h1,h2,h3⟩=>k a w ⟨B,h1,h a _ h2,h3⟩
section
variable {b:Bool} {O:Type} {A B':Option O} {q:Option O}
theorem cs{o:Operand}{x y:Code}(ss:List Nat)(hs:jE T n K cf m e L=.cond o b x y K' m' e' L')(ho:bA (FL e') ss=some (ss.map λ_=>SV.b b))(hF:(if b=true then A else B')=q)
  (k1:A=q->G (.mk P T hT n c B0 N X Q) K' m' (ovr true e' ss) L' (.c x)) (k2:B'=q->G (.mk P T hT n c B0 N X Q) K' m' (ovr false e' ss) L' (.c y)):G (.mk P T hT n c B0 N X Q) K m e L cf:=
 gY (g:=.mk P T hT n c B0 N X Q) (by
  rw[hs];intro he a w hr;have ⟨B,hm,hA,hS⟩:=hr;obtain⟨v,h1,h2⟩:=eH hA he;cases h1;refine aNV hA.env h2 (λhc=>?_) (λhc=>?_)
  ·rw[aN hc] at hF;exact k1 hF a w (aN3 hc ss ho hr)
  ·rw[aS aj] at hF;exact k2 hF a w (aN3 hc ss ho hr))
theorem ca{cf':uI}(ss:List Nat)(hs:jE T n K cf m e L=.case b cf' K' m' e' L')(ho:bA (FL e') ss=some (ss.map λ_=>SV.b b))(hF:(if b=true then A else B')=q)
  (k1:A=q->G (.mk P T hT n c B0 N X Q) K' m' (ovr true e' ss) L' cf') (k2:B'=q->G (.mk P T hT n c B0 N X Q) K' m' (ovr false e' ss) L' cf'):G (.mk P T hT n c B0 N X Q) K m e L cf:=
 gY (g:=.mk P T hT n c B0 N X Q) (by
  rw[hs];cases b with
  |true=>exact aO5 (λa B hA=>aC6 rfl ss ho hA) (k1 aj)
  |false=>exact aO5 (λa B hA=>aC6 rfl ss ho hA) (k2 aj))
end
def QS(P:Program)(fn:Func)(c:Ctx)(B0:Bl){ρ ex:Type}(sv:ρ->ex->SV)(Lf:ρ->ex->List Ch)(r:ρ):Act->World->Prop:=Fin P fn λv w'=>∃y,fP B0 (sv r y)=some v/\mK c w' B0 (Lf r y)
theorem a49{r:ResultVar}{x:SV}{B:Bl}{a:Act}{w:World}(hT:GJ P T)(hA:gR n B e a)(hS:mK c w B L)(h:bEU T e L r=some x):∃v,fP B x=some v/\(aIH a.tmps r).run P w=.ok v w:=by
 cases r with
 |tmp t=>
  obtain⟨v,h1,h2⟩:=hA.get t x h;simp_all[aIH]
 |cell t ty=>
  simp only[bEU] at h;split at h
  ·rename_i p hp;obtain⟨v,h1,h2⟩:=hA.get t p hp;unfold aVG at h;split at h
   ·rename_i n0 o0;split at h
    ·rename_i cs _ mm _ hb hl;split at h
     ·rename_i hle;split at h
      case h_2=>cases h
      rename_i ds hds;cases h;have:=XJ hds;subst this;obtain⟨b,z,vs,g1,g2,g3⟩:=hS.cells hb;have hlen:=mL g2;have hle:=YY hle;simp only[fP,gV,bZ,g1] at h1;cases h1;have h4:=aC2 mm (aC1 o0 g2);have h5:=aF7 g3 (o:=o0) (m:=mm) aa;have h6:=sC h5 P;have h7:((vs.drop o0).take mm).length=mm:=ah
      rw[h7] at h6;refine⟨.agg ((vs.drop o0).take mm).toArray,by grind[fP,gV],?_⟩;simp[aIH,h2,asAddr,loadVar,hT.agg _ _ hl,hT.size _ _ hl,h6]
     ·cases h
    ·rename_i cs _ _ _ hb hl;obtain⟨b,z,vs,g1,g2,g3⟩:=hS.cells hb;simp only[fP,gV,bZ,g1] at h1;cases h1;obtain⟨u,h4,h5⟩:=aA2 g2 h;refine⟨u,a93 h4,?_⟩;have h6:=g3 o0 u h5;simp[aIH,h2,asAddr,loadVar,hT.agg _ _ hl,load,Sem.run,h6]
    ·cases h
   ·cases h
  ·cases h
end
section
variable {P:Program} {T:TT} {hT:GJ P T} {n:Nat} {c:Ctx} {B0:Bl} {N:Act->World->Prop} {X:Nat->Act->World->Prop} {Q:Act->World->Prop} {K K':List Fr} {m m':Nat} {e e':SE} {L L':List Ch} {cf:uI}
theorem bE9{B:Bl}{x:SV}{v:Value}(h:fP B x=some v)(hc:isCells x=true):gV B x=some v:=by cases x<;>first|exact h|cases hc
theorem aGA{r:ResultVar}{x:SV}{B:Bl}{a:Act}{w:World}(hT:GJ P T)(hA:gR n B e a)(hS:mK c w B L)(h:a10 T e L r=some x):∃v,gV B x=some v/\(aIH a.tmps r).run P w=.ok v w:=by grind[a10,a49,bE9]
theorem aWW{rs:List ResultVar}{x:SV}{B:Bl}{a:Act}{w:World}{fn:Func}(hf:fn.results=rs.toArray)(hT:GJ P T)(hA:gR n B e a)(hS:mK c w B L)(h:a11 T e L rs=some x):∃v,fP B x=some v/\(results fn a.tmps).run P w=.ok v w:=by
 rw[a1S hf];unfold a11 at h;split at h
 ·cases h;exact⟨.tuple #[],rfl,ae⟩
 ·obtain⟨v,h1,h2⟩:=a49 hT hA hS h;simp_all
 ·split at h
  ·rename_i g1 g2;cases h;obtain⟨v1,h1,k1⟩:=aGA hT hA hS g1;obtain⟨v2,h2,k2⟩:=aGA hT hA hS g2;simp_all[fP,bA]
  ·cases h
 ·split at h
  ·rename_i g1 g2 g3;cases h;obtain⟨v1,h1,k1⟩:=aGA hT hA hS g1;obtain⟨v2,h2,k2⟩:=aGA hT hA hS g2;obtain⟨v3,h3,k3⟩:=aGA hT hA hS g3;simp_all[fP,bA]
  ·cases h
 ·cases h
structure FnS (P:Program) (f:FuncId) (c:Ctx) (xs:List SV) (B0:Bl) (L0:List Ch) {ρ ex:Type} (sv:ρ->ex->SV) (Lf:ρ->ex->List Ch) (r:ρ):Prop where
 call:∀args w,(callFunc f args).run P w=.ok (.enter f args) w
 run:∀vs,bA (fP B0) xs=some vs->mK c c.w0 B0 L0->Calls P f vs.toArray c.w0 (Ret λv w'=>∃y,fP B0 (sv r y)=some v/\mK c w' B0 (Lf r y))
abbrev Fn0(P:Program)(f:FuncId)(c:Ctx)(xs:List SV){ρ:Type}(sv:ρ->SV)(r:ρ):Prop:=FnS P f c xs [] [] (λr (_:Unit)=>sv r) (λ_ _=>[]) r
def aVM:Nat->List SV->SE
 |_,[]=>[]
 |k,v::r=>(k,v)::aVM (k+1) r
theorem aVN{B:Bl}:∀{xs:List SV} {vs:List Value} (k:Nat) {j:Nat} {x:SV},bA (fP B) xs=some vs->FL (aVM k xs) j=some x->∃v,fP B x=some v/\lk (aY3 k vs) j=some v
 |[],vs,k,j,x,h,hj=>by grind[aVM,FL]
 |y::xs,vs,k,j,x,h,hj=>by
  simp only[bA] at h;split at h
  ·cases h
  ·rename_i h1;split at h
   ·cases h
   ·rename_i h2;cases h;simp only[aVM,FL] at hj;simp only[aY3,lk];cases hb:Nat.beq j k with
    |true=>grind
    |false=>rw[hb] at hj;exact aVN (k+1) h2 hj
theorem en{f:FuncId}{fn:Func}{cd:Code}{xs:List SV}{L0:List Ch}{ρ ex:Type}{sv:ρ->ex->SV}{Lf:ρ->ex->List Ch}{r:ρ}(n:Nat)(hc:∀args w,(callFunc f args).run P w=.ok (.enter f args) w)(hf:P.funcs[f]?=some fn)(hT:GJ P T)(hb:fn.body=some cd)(hm:fn.ntmps=n)(hl:Nat.ble xs.length n=true)
  (k:G (.mk P T hT n c B0 (QS P fn c B0 sv Lf r) (λ_ _ _=>False) (QS P fn c B0 sv Lf r)) [] B0.length (aVM 0 xs) L0 (.c cd)):FnS P f c xs B0 L0 sv Lf r:=by
 refine⟨hc,λvs hv hS=>a6P hf hb hm ?_ λa hA=>?_⟩
 ·grind[mL]
 ·refine CW.mono (k a c.w0 ⟨[],ae,⟨hA.d,hA.size,λj x hj=>?_⟩,aj⟩) (λ_ _ h=>h) (λ_ _ _ h=>h) (λ_ _ h=>h);obtain⟨v,h1,h2⟩:=aVN 0 hv hj;exact⟨v,aj,hA.get j v h2⟩
theorem bAL(w:World):mK (eJ w) w [] []:=⟨⟨[],St.enter ae,ae⟩,λ_ _ h=>h⟩
theorem rt{fn:Func}{ρ ex:Type}{sv:ρ->ex->SV}{Lf:ρ->ex->List Ch}{r r':ρ}{rs:List ResultVar}{zz:Option ρ}(y:ex)(is:List Nat)(hF:zz=some r)(hz:zz=some r')(hs:jE T n K cf m e L=.ret m' e' L')(hr:fn.results=rs.toArray){x:SV}(hv:a11 T e' L' rs=some x)(hx:nbS x=sv r' y)(hk:B9 B0.length (sv r' y)=true)(hL:asT B0.length m' e' L' is B0.length [] (Lf r' y)=some ([],Lf r' y)):G (.mk P T hT n c B0 N X (QS P fn c B0 sv Lf r)) K m e L cf:=by subst hz;cases hF;refine gY (g:=.mk P T hT n c B0 N X _) ?_;rw[hs];intro a w hr';obtain⟨B,hm,hA,hS⟩:=id hr';obtain⟨v,h1,h2⟩:=aWW hr hT hA hS hv;obtain⟨B',hm',_,hS'⟩:=hr'.asT is hL;have hB':B'=[]:=(by simp_all);subst hB';refine⟨hA.d,v,h2,y,?_,aj⟩;rw[<-hx] at hk ⊢;have:=XL hk (by rw[aNY];exact h1);grind
theorem rf{fn:Func}{ρ ex:Type}{sv:ρ->ex->SV}{Lf:ρ->ex->List Ch}{r r':ρ}{rs:List ResultVar}{zz:Option ρ}(y:ex)(is:List Nat)(hF:zz=some r)(hz:zz=some r')(hs:jE T n K cf m e L=.fin m' e' L')(hr:fn.results=rs.toArray){x:SV}(hv:a11 T e' L' rs=some x)(hx:nbS x=sv r' y)(hk:B9 B0.length (sv r' y)=true)(hL:asT B0.length m' e' L' is B0.length [] (Lf r' y)=some ([],Lf r' y)):G (.mk P T hT n c B0 (QS P fn c B0 sv Lf r) X Q) K m e L cf:=by subst hz;cases hF;refine gY (g:=.mk P T hT n c B0 _ X Q) ?_;rw[hs];intro a w hr';obtain⟨B,hm,hA,hS⟩:=id hr';obtain⟨v,h1,h2⟩:=aWW hr hT hA hS hv;obtain⟨B',hm',_,hS'⟩:=hr'.asT is hL;have hB':B'=[]:=(by simp_all);subst hB';refine⟨hA.d,v,h2,y,?_,aj⟩;rw[<-hx] at hk ⊢;have:=XL hk (by rw[aNY];exact h1);grind
def bI(c:Ctx){O:Type}[aL O](s:AC)(d:List O):Prop:=aL.rd c.S0 c.w0 [s.v d.length] d
structure HS (c:Ctx) (w:World) (L:List Ch):Prop where
 ex:∃B,mK c w B L
abbrev ow{O:Type}[aL O](s:AC)(d:List O):Ch:=.o (cS [s.v d.length] d)
abbrev fr{O:Type}[aL O](s:AC)(d:List O):Ch:=.f (fRd [s.v d.length] d)
theorem aWX{w:World}{B:Bl}(hS:mK c w B L){f:Fact}(h:f.P c.S0 c.w0):f.P c.S0 w:=by obtain⟨⟨R,s1,_⟩,s0⟩:=hS;exact f.agree h λb o hb=>s1.keep.cell b o (s0 b o hb) λhw=>s1.apart b o hw hb
theorem a16{w:World}{B:Bl}(hS:mK c w B L):∀b o,c.S0 b o->All w b o:=λb o hb=>by obtain⟨⟨R,s1,_⟩,s0⟩:=hS;exact PZ (s0 b o hb) s1.keep.size
theorem HS.a{w:World}{O:Type}[aL O]{s:AC}{d:List O}(h:HS c w L)(hr:bI c s d):bI (eJ w) s d:=by obtain⟨B,hS⟩:=h.ex;have h1:(fRd [s.v d.length] d).P c.S0 w:=aWX hS (f:=fRd [s.v d.length] d) hr;exact aL.rd_mono h1 (a16 hS)
theorem HS.o{w:World}{O:Type}[aL O]{s:AC}{d:List O}(h:HS c w L)(i:Nat)(hi:L[i]?=some (ow s d)):bI (eJ w) s d:=by obtain⟨B,⟨⟨R,s1,_⟩,_⟩⟩:=h.ex;exact s1.a4I i (by rw[B7,hi];rfl)
theorem HS.f{w:World}{O:Type}[aL O]{s:AC}{d:List O}(h:HS c w L)(i:Nat)(hi:L[i]?=some (fr s d)):bI (eJ w) s d:=by obtain⟨B,⟨⟨R,s1,s2⟩,_⟩⟩:=h.ex;obtain⟨j,hj⟩:=aKL (s2 _ (LS hi));exact s1.rd j hj
theorem aN4{B:Bl}:∀{xs:List SV} {vs:List Value},okA xs=true->bA (fP B) xs=some vs->bA (fP []) xs=some vs
 |[],vs,_,h=>h
 |x::xs,vs,ho,h=>by
  simp only[okA] at ho;split at ho
  ·rename_i h0;simp only[bA] at h;split at h
   ·cases h
   ·rename_i h1;split at h
    ·cases h
    ·rename_i h2;cases h;have h3:=XL h0 h1;rw[List.take_zero] at h3;simp[bA,h3,aN4 ho h2]
  ·cases ho
theorem aGB{B:Bl}{a:Act}(hA:gR n B e a):∀{os:List Operand} {xs:List SV},bA (iM e) os=some xs->∃vs,bA (fP B) xs=some vs/\evs (vE B e) os=some vs
 |[],xs,h=>by cases h;exact⟨[],rfl,rfl⟩
 |o::os,xs,h=>by
  simp only[bA] at h;split at h
  ·cases h
  ·rename_i h1;split at h
   ·cases h
   ·rename_i h2;cases h;obtain⟨v,k1,k2⟩:=eH hA h1;obtain⟨vs,k3,k4⟩:=aGB hA h2;grind[bA,evs]
def noF:List Ch->Bool
 |[]=>true
 |.ro _ _::_=>false
 |.f _::_=>false
 |.w _ _ _::_=>false
 |_::L=>noF L
theorem aO6{B:Bl}{R:List Fact}:∀{L:List Ch},noF L=true->∀x∈L,roF B R x
 |[],_,x,hx=>by cases hx
 |y::L,h,x,hx=>by
  rcases xS.1 hx with hx'|hx'
  ·subst hx';cases x<;>first|trivial|cases h
  ·cases y with
   |ro=>cases h
   |f=>cases h
   |w=>cases h
   |_=>exact aO6 (L:=L) h x hx'
theorem mK.after{w w':World}{B:Bl}{L2:List Ch}(h:mK c w B L)(hn:noF L2=true)(k:mK (eJ w) w' [] L2):mK c w' B (L++L2):=by
 obtain⟨⟨R,s1,s2⟩,s0⟩:=h;obtain⟨⟨R',t1,t2⟩,t0⟩:=k;refine⟨⟨R,?_,λx hx=>?_⟩,s0⟩
 ·rw[xR];have h1:=s1.after t1;refine h1.imp (jO.append (jO.refl _) ?_);have:=aC3 (B:=[]) B (w:=w') L2;grind
 grind[aO6]
theorem mK.bIQ{w w':World}{B:Bl}(h:mK c w B L)(k:eC F0 w w'):mK c w' B L:=by obtain⟨⟨R,s1,s2⟩,s0⟩:=h;exact⟨⟨R,s1.same k,s2⟩,s0⟩
theorem aA4{o:Oper}{f:FuncId}{x:Operand}{args:Array Operand}{ts:Array TypeId}{vs:List Value}{E:Env}{w:World}(hcall:∀args w,(callFunc f args).run P w=.ok (.enter f args) w)(ho:o.op=.call {callee:=.value x,args:=args,argTypes:=ts})(hx:ev E x=some (.func (.func f) #[] #[]))(hv:evs E args.toList=some vs):bHO P o E w f vs.toArray:=by have:=aY7 (w:=w) (cap:=[]) (xs:=args.toList) (vs:=vs) hcall aa hx hv;grind
theorem cl{O J ex:Type}{fo:Option O}{kf:O->Option J}{q:J}{o:Oper}{d:Nat}{f:FuncId}{xs:List SV}{cf1 cf2:uI}{sv:O->ex->SV}{Lf:O->ex->List Ch}(hs:jE T n K cf m e L=.call o (some d) f xs cf1 cf2 K' m' e' L')(hn:∀x y,noF (Lf x y)=true)
  (hc:∀{w},HS c w L'->∀{x},fo=some x->FnS P f (eJ w) xs [] [] sv Lf x) (hF:fo.bind kf=some q)
  (k:∀x,fo=some x->kf x=some q->∀y:ex,G (.mk P T hT n c B0 N X Q) K' m' ((d,sv x y)::e') (L'++Lf x y) cf2):G (.mk P T hT n c B0 N X Q) K m e L cf:=by
 refine gY (g:=.mk P T hT n c B0 N X Q) ?_;rw[hs];intro fo' args ats ho hd hf ⟨ys,hys,hxs⟩ hA0 hdn hE;subst hxs;cases hfo:fo with
 |none=>grind
 |some x=>
  rw[hfo] at hF;refine hE ex (λ_=>m') (λy=>(d,sv x y)::e') (λy=>L'++Lf x y) (λy=>uK _) (λB a w next Q' hm hA hS hnext=>?_) (k x hfo hF);obtain⟨hcall,hrun⟩:=hc ⟨_,hS⟩ hfo;obtain⟨vs,h1,h2⟩:=aGB hA hys;obtain⟨v,h3,h4⟩:=eH hA hf;simp[fP,bA] at h3;subst h3;have h5:=hrun vs (aN4 hA0 (by rw[XM];exact h1)) (bAL w);have h6:=aA4 (w:=w) hcall ho h4 h2;unfold Oper.wp;rw[h6 _ a hA.env,Oper.upon_enter];refine Calls.mono h5 λen w' ⟨v,hv,y,g1,g2⟩=>?_;subst hv;rw[hd];have g3:=xU (B0S (.mk P T hT n c B0 N X Q) cf1++B) g1;exact hnext y _ _ ⟨[],aj,by simpa using hA.of aj (hA.env.put (by grind[sD,yT]) v),by simpa using hS.after (hn x y) g2⟩
end
section
variable {P:Program} {T:TT} {hT:GJ P T} {n:Nat} {c:Ctx} {B0:Bl} {N:Act->World->Prop} {X:Nat->Act->World->Prop} {Q:Act->World->Prop} {K K':List Fr} {m m':Nat} {e e':SE} {L L':List Ch} {cf:uI}
def NxP(n:Nat)(c:Ctx)(B0:Bl){σ ρ υ:Type}(o:Step σ ρ)(m:Nat)(el:σ->υ->SE)(Ll:σ->υ->List Ch):Act->World->Prop:=λa w=>∃s u,o=.next s/\qY n c B0 m (el s u) (Ll s u) a w
def BkP(n:Nat)(c:Ctx)(B0:Bl){J ρ υ:Type}(ro:ρ)(enc:J->ρ)(m:Nat)(ej:J->υ->SE)(Lj:J->υ->List Ch)(id:Nat)(X:Nat->Act->World->Prop):Nat->Act->World->Prop:=λi a w=>if i=id then ∃b u,ro=enc b/\qY n c B0 m (ej b u) (Lj b u) a w else X i a w
theorem lp{σ ρ υ J ω O:Type}{id:Nat}{y:Code}{fb:σ->Option (Step σ ρ)}{s0:σ}{gk:ρ->Option O}{q:O}(u0:υ)(ks:List Nat)(el:σ->υ->SE)(is0 is:List Nat)(Ll:σ->υ->List Ch)(enc:J->ρ)(kb:List Nat)(ej:J->ω->SE)(ib:List Nat)(Lj:J->ω->List Ch)
  (hs:jE T n K cf m e L=.loop id y K' m' e' L') (hF:(loop fb s0).bind gk=some q)
  (h0:asT B0.length m' e' L' is0 m' (el s0 u0++kp e' ks) (Ll s0 u0++kl L' is)=some (el s0 u0++kp e' ks,Ll s0 u0++kl L' is))
  (k1:∀ro,gk ro=some q->∀s u o,fb s=some o->(∀p,o=.stop p->p=ro)->G (.mk P T hT n c B0 (NxP n c B0 o m' (λs u=>el s u++kp e' ks) (λs u=>Ll s u++kl L' is)) (BkP n c B0 ro enc m' (λb u=>ej b u++kp e' kb) (λb u=>Lj b u++kl L' ib) id (XK (.mk P T hT n c B0 N X Q) K')) Q) [] m' (el s u++kp e' ks) (Ll s u++kl L' is) (.c y))
  (k2:∀b u,gk (enc b)=some q->G (.mk P T hT n c B0 N X Q) K' m' (ej b u++kp e' kb) (Lj b u++kl L' ib) .n):G (.mk P T hT n c B0 N X Q) K m e L cf:=by
 refine gY (g:=.mk P T hT n c B0 N X Q) ?_;rw[hs];intro a w hr;cases hl:loop fb s0 with
 |none=>grind
 |some ro=>
  rw[hl] at hF;have hF:gk ro=some q:=hF;refine aY4 (bD1 (body:=fb) (r:=ro) (λs a w=>∃u,qY n c B0 m' (el s u++kp e' ks) (Ll s u++kl L' is) a w) ?_ hl ⟨u0,hr.asT is0 h0⟩);intro s a w o ⟨u,hI⟩ hb ho;refine CW.mono (k1 ro hF s u o hb ho a w hI) ?_ ?_ (λ_ _ h=>h)
  ·rintro a w ⟨s',u',h1,h2⟩;grind
  ·intro i a w h;simp only[XK,BkP,aVD] at h ⊢;split
   ·rename_i hi;rw[aN hi] at h;obtain⟨b,u,h1,h2⟩:=h;exact k2 b u (h1 ▸ hF) a w h2
   grind
theorem nx{σ ρ υ:Type}{o:Step σ ρ}{mj:Nat}{el:σ->υ->SE}{Ll:σ->υ->List Ch}{s:σ}(u:υ)(is:List Nat)(hG:some (Step.next s)=some o)(hs:jE T n K cf m e L=.fin m' e' L')(h:asT B0.length m' e' L' is mj (el s u) (Ll s u)=some (el s u,Ll s u)):G (.mk P T hT n c B0 (NxP n c B0 o mj el Ll) X Q) K m e L cf:=
 gY (g:=.mk P T hT n c B0 _ X Q) (by
  rw[hs];cases hG;exact λa w hr=>⟨s,u,rfl,hr.asT is h⟩)
theorem bk{σ ρ J υ:Type}{o:Step σ ρ}{ro:ρ}{enc:J->ρ}{mj id:Nat}{ej:J->υ->SE}{Lj:J->υ->List Ch}{b:J}(u:υ)(is:List Nat)(hG:some (Step.stop (enc b))=some o)(hr:∀p,o=.stop p->p=ro)(hs:jE T n K cf m e L=.ex id m' e' L')(h:asT B0.length m' e' L' is mj (ej b u) (Lj b u)=some (ej b u,Lj b u)):G (.mk P T hT n c B0 N (BkP n c B0 ro enc mj ej Lj id X) Q) K m e L cf:=
 gY (g:=.mk P T hT n c B0 N _ Q) (by
  rw[hs];cases hG;have:=hr _ rfl;subst this;intro a w hr;show BkP n c B0 (enc b) enc mj ej Lj id X id a w;unfold BkP;rw[aN rfl];exact⟨b,u,rfl,hr.asT is h⟩)
theorem re{σ ρ O:Type}{o:Step σ ρ}{p ro:ρ}{F:ρ->Option O}{q:Option O}{zz:Option (Step σ ρ)}(hG:zz=some o)(hz:zz=some (Step.stop p))(hr:∀p,o=.stop p->p=ro)(hF:F ro=q):F p=q:=aj
structure JR (O:Type) [aL O] where
 ex:Type
 cs:O->ex->List SV
 sub:cO->World->O->ex->Prop
 ok:∀{S w ec x},aL.rd S w ec x->∃y,bA (bZ []) (cs x y)=some ec/\sub S w x y
 sv:O->ex->SV
 bMX:∀{S S' w w' x y},sub S w x y->(∀b o,S b o->w'.cell? ⟨b,o,none⟩=w.cell? ⟨b,o,none⟩)->(∀b o,S b o->S' b o)->sub S' w' x y
def cI:JR Int:=⟨Unit,λx _=>[.i .i64 x],λ_ _ _ _=>True,λh=>⟨(),by cases h;rfl,trivial⟩,λx _=>.i .i64 x,λ_ _ _=>trivial⟩
def cU:JR UInt8:=⟨Unit,λx _=>[.y x],λ_ _ _ _=>True,λh=>⟨(),by cases h;rfl,trivial⟩,λx _=>.y x,λ_ _ _=>trivial⟩
theorem NN{O:Type}[aL O]{S:cO}{w:World}{ec:List Value}{l:List O}(h:aL.rd S w ec l):∃s:AC,ec=[s.v l.length]:=by obtain⟨ad,m,h1,_⟩:=(show AR S w ec l from h);exact⟨⟨ad,m⟩,h1⟩
def cL{O:Type}[aL O]:JR (List O):=⟨AC,λx y=>[.h y x.length],λS w x y=>aL.rd S w [y.v x.length] x,λh=>by
 obtain⟨s,h1⟩:=NN h;subst h1;exact⟨s,rfl,h⟩,λx y=>.h y x.length,λh h1 h2=>aL.rd_mono (aL.rd_agree h h1) h2⟩
theorem St.bK0{w:World}{M:List Chunk}{R:List Fact}{f:Fact}(h:St c w M R)(s0:∀b o,c.S0 b o->b<c.w0.heap.size)(hf:f.P c.S0 c.w0):St c w M (R++[f]):=by
 obtain⟨F,S,a1,a2,a3,a4,a5,a6⟩:=h.sep;refine⟨h.keep,⟨F,λb o=>S b o\/c.S0 b o,a1,?_,a3,?_,?_,?_⟩,h.apart⟩
 ·rintro b o hF (hs|hs)
  ·exact a2 b o hF hs
  ·rcases a3 b o hF with hw|hw
   ·exact h.apart b o hw hs
   grind
 ·grind
 ·rintro b o (hs|hs)
  ·grind
  ·exact PZ (s0 b o hs) h.keep.size
 ·intro g hg;rcases jG.1 hg with hg|hg
  ·exact g.mono (a6 g hg) λb o hs=>.inl hs
  ·simp at hg;subst hg;exact g.mono (g.agree hf λb o hb=>h.keep.cell b o (s0 b o hb) λhw=>h.apart b o hw hb) λb o hs=>.inr hs
theorem mK.bK1{w:World}{B:Bl}{k b z:Nat}{cs:List SV}{vs:List Value}(h:mK c w B L)(hk:B[k]?=some (b,z))(hc:bA (bZ B) cs=some vs)(hf:(fAt b z vs).P c.S0 c.w0):mK c w B (L++[.ro k cs]):=by
 obtain⟨⟨R,s1,s2⟩,s0⟩:=h;refine⟨⟨R++[fAt b z vs],?_,λx hx=>?_⟩,s0⟩
 ·rw[xR];exact St.more (ch:=NY) (St.bK0 s1 s0 hf) (eC.refl _ _) ⟨F0,λ_ _ h=>h,λ_ _ h=>h.elim⟩
 ·rcases jG.1 hx with hx|hx
  ·grind[aF6]
  ·simp at hx;subst hx;exact⟨b,z,vs,hk,hc,ae⟩
theorem ix{O J:Type}{iR:aL O}(C:JR O){o:Oper}{d t:Nat}{s:AC}{i:Int}{Lv:List Ch}{cf1 cf2:uI}{ls:List O}{kf:O->Option J}{q:J}{el sz:Nat}{b1 b2:Bool}{z1 z2:List SV}{k2:TK}{n1:Nat}(hs:jE T n K cf m e L=.idx o d t s ls.length i Lv cf1 cf2 K' m' e' L')(h1:bI c s ls)(hF:(idx ls i).bind kf=some q)(ht:AQ T t=some ⟨.sl el,b1,n1,z1⟩)(he:AQ T el=some ⟨k2,b2,sz,z2⟩)(hn:aL.n O=sz)
  (k:∀x,idx ls i=some x->kf x=some q->∀y:C.ex,C.sub c.S0 c.w0 x y->G (.mk P T hT n c B0 N X Q) K' (m'+1) ((d,.p m' 0)::e') (L'++[.ro m' (C.cs x y)]) (cf2.ext [.ro m' (C.cs x y)])):G (.mk P T hT n c B0 N X Q) K m e L cf:=by
 refine gY (g:=.mk P T hT n c B0 N X Q) ?_;rw[hs];intro x' y' ho hd hx hy hP;cases hi:idx ls i with
 |none=>grind
 |some x=>
  rw[hi] at hF;obtain⟨dd,hd1,hd2⟩:=hT.und _ _ ht;simp only at hd2;subst hd2;obtain⟨ec,p1,p2⟩:=bID (S:=c.S0) (w:=c.w0) h1 (CZ hi).2.2;obtain⟨y,p3,p4⟩:=C.ok p2;subst hn;refine hP d (.p m' 0) [.ro m' (C.cs x y)] (λ_=>[(elB (s.v ls.length),Y0 (aL.n O) i.toNat (s.v ls.length))]) 1 hd (λ_=>rfl) (λB a w hA hS hm=>?_) (λB w L hm hS=>?_) (k x hi hF y p4)
  ·obtain⟨v,g1,g2⟩:=eH hA hx;obtain⟨u,g3,g4⟩:=eH hA hy;cases g1;cases g3;have hrd:aL.rd c.S0 w [s.v ls.length] ls:=aWX hS (f:=fRd [s.v ls.length] ls) h1;exact⟨_,by grind[fP,gV,bZ],bH5 (P:=P) (o:=o) (w:=w) hrd rfl hi hd1 (hT.size _ _ he) ho g2 g4⟩
  ·exact(hS.app _).bK1 (b:=elB (s.v ls.length)) (z:=Y0 (aL.n O) i.toNat (s.v ls.length)) aj (fB (λx v h=>by simpa using gK (B:=[]) _ h) p3) p1
theorem dr{id:Nat}{ops:Array Oper}(is:List Nat)(hs:jE T n K cf m e L=.rgn id ops K' m' e' L')(hm:P.follows .mixedOrders=true)(hf:(aZB ops && (okL m' (kl L' is) && (dE is && is.all λj=>Nat.blt j L'.length)))=true)
  (k:∀B1,G (.mk P T hT n c B0 N X Q) K' m' e' L' (.d B1 ops (List.replicate ops.size false) is (kl L' is) (kl L' is))):G (.mk P T hT n c B0 N X Q) K m e L cf:=by
 refine gY (g:=.mk P T hT n c B0 N X Q) ?_;rw[hs];intro a w ⟨B,hmm,hA,hS⟩;simp only[GF,aS4,yT] at hf;obtain⟨f1,f2,f3,f4⟩:=hf;refine wp_region_held (S:=Sd (.mk P T hT n c B0 N X Q) (B0++B) (kl L' is)) hm ?_;have:=k (B0++B) ⟨⟨B,rfl⟩,ae,f1,rfl,f4,aj,f3⟩ a w.drew ⟨[],aj,aj,by simpa using hS.bIQ (eC.drew F0 w),λw' h=>aj⟩;simp_all
end
inductive StF (P:Program):List Field->List (Nat×Nat)->Prop where
 |n:StF P [] []
 |c {F:Field} {Fs:List Field} {fs:List (Nat×Nat)} {m:Nat} (h:∀w,(sizeOf F.type).run P w=.ok m w) (t:StF P Fs fs):StF P (F::Fs) ((F.offset,m)::fs)
section
variable {P:Program} {T:TT} {t n:Nat} {a:Bool} {zs:List SV} {z:Value}
theorem StF.off{Fs:List Field}{fs:List (Nat×Nat)}(h:StF P Fs fs):Fs.map (·.offset)=fs.map (·.1):=by
 induction h with
 |n=>rfl
 |c h t ih=>simp[ih]
theorem StF.get{Fs:List Field}{fs:List (Nat×Nat)}(h:StF P Fs fs):∀(j:Nat) F,Fs[j]?=some F->∃m,fs[j]?=some (F.offset,m)/\∀w,(sizeOf F.type).run P w=.ok m w:=by
 induction h with
 |n=>simp
 |c h t ih=>
  intro j F hj;cases j with
  |zero=>simp_all
  |succ j=>grind
theorem StF.run{Fs:List Field}{fs:List (Nat×Nat)}(h:StF P Fs fs)(w:World):(Fs.mapM λf=>(do pure (f.offset,<-sizeOf f.type):Sem (Nat×Nat))).run P w=.ok fs w:=by
 induction h with
 |n=>simp
 |c h t ih=>simp_all
theorem GJ.nil:GJ P []:=⟨λ_ _ h=>(by cases h),λ_ _ h=>(by cases h),λ_ _ h=>(by cases h),λ_ _ h=>(by cases h)⟩
theorem GJ.add{k:TK}{d:TypeDesc}(hu:P.underlying t=some d)(hk:match k with
  |.i k=>d=.int k
  |.b=>d=.bool
  |.st fs=>∃Fs:Array Field,d=.struct Fs/\Fs.toList.map (·.offset)=fs.map (·.1)/\(∀(j:Nat) F,Fs[j]?=some F->∃m,fs[j]?=some (F.offset,m)/\∀w,(sizeOf F.type).run P w=.ok m w)/\∀w,(Fs.mapM λf=>(do pure (f.offset,<-sizeOf f.type):Sem (Nat×Nat))).run P w=.ok fs.toArray w
  |.s=>d=.string
  |.sl el=>d=.slice el
  |.x=>True) (ha:∀w,(isAgg t).run P w=.ok a w) (hs:∀w,(sizeOf t).run P w=.ok n w) (hz:∀w,(zeroValue t).run P w=.ok z w) (hc:bA (bZ []) zs=some z.cells.toList) (h:GJ P T):GJ P ((t,⟨k,a,n,zs⟩)::T):=by
 refine⟨λt' i hi=>?_,λt' i hi=>?_,λt' i hi=>?_,λt' i hi=>?_⟩<;>simp only[AQ] at hi<;>split at hi
 ·grind[pV]
 ·exact h.und t' i hi
 ·grind[pV]
 ·exact h.agg t' i hi
 ·grind[pV]
 ·exact h.size t' i hi
 ·grind[pV]
 ·exact h.zero t' i hi
theorem GJ.st{fs:List (Nat×Nat)}{Fs:List Field}(hu:P.underlying t=some (.struct Fs.toArray))(hk:StF P Fs fs)(ha:∀w,(isAgg t).run P w=.ok a w)(hs:∀w,(sizeOf t).run P w=.ok n w)(hz:∀w,(zeroValue t).run P w=.ok z w)(hc:bA (bZ []) zs=some z.cells.toList)(h:GJ P T):GJ P ((t,⟨.st fs,a,n,zs⟩)::T):=
 GJ.add (k:=.st fs) hu ⟨Fs.toArray,rfl,by simpa using hk.off,λj F hj=>hk.get j F aj,λw=>by
  have:=hk.run w;simp_all⟩ ha hs hz hc h
end
abbrev I(x:Int):SV:=.i .i64 x
section
variable {P:Program} {T:TT} {hT:GJ P T} {n:Nat} {c:Ctx} {B0:Bl} {N:Act->World->Prop} {X:Nat->Act->World->Prop} {Q:Act->World->Prop} {K K':List Fr} {m m':Nat} {e e':SE} {L L':List Ch} {cf cf1 cf2:uI} {o:Oper} {Lv:List Ch} {d:Nat}
theorem ext_nil:cf.ext []=cf:=by cases cf<;>simp[uI.ext]
theorem pu{x:SV}(hs:opS (jE T n K cf m e L)=some (o,Lv,cf1,cf2,K',m',e',L'))(hd:o.dst=some d)(hv:∀B a w,gR n B e' a->mK c w B Lv->∃v,fP B x=some v/\eW P o (vE B e') w v w)
  (k:G (.mk P T hT n c B0 N X Q) K' m' ((d,x)::e') L' cf2):G (.mk P T hT n c B0 N X Q) K m e L cf:=by
 refine gY (g:=.mk P T hT n c B0 N X Q) ?_;have key:aF9 (.mk P T hT n c B0 N X Q) K' m' e' L' o Lv cf1 cf2->G (.mk P T hT n c B0 N X Q) K' m' e' L' cf1:=λhP=>by refine hP d x [] (λ_=>[]) 0 hd (λ_=>rfl) (λB a w hA hS _=>?_) (λB w L _ hS=>aj) (by grind[ext_nil]);grind
 generalize jE T n K cf m e L=s at hs;cases s<;>simp only[opS] at hs<;>cases hs
 ·exact λ_ hP=>key hP
 ·exact λ_ hP _=>key hP
theorem AT{x:Operand}{k:IntKind}{i:Int}{B:Bl}{a:Act}(hA:gR n B e a)(h:(iM e x).bind uH=some (k,i)):ev (vE B e) x=some (.int k i):=by
 cases hx:iM e x with
 |none=>grind
 |some y=>
  grind[eH,a12]
section
variable {x y:Operand} {t z:TypeId} {k:IntKind} {i j:Int} {O:Type} {A:Option O} {q:O}
theorem bK2(hs:opS (jE T n K cf m e L)=some (o,Lv,cf1,cf2,K',m',e',L'))(ho:(o.op,o.dst)=(.binOp .quo t x y z,some d))(hx:(iM e' x).bind uH=some (k,i))(hy:(iM e' y).bind uH=some (k,j))(hF:need (j≠0) A=some q)
  (kk:A=some q->G (.mk P T hT n c B0 N X Q) K' m' ((d,.i k (k.wrap (i.tdiv j)))::e') L' cf2):G (.mk P T hT n c B0 N X Q) K m e L cf:=
 pu hs (cY Prod.snd ho) (λB a w hA _=>⟨_,rfl,a1Q (cY Prod.fst ho) (AT hA hx) (AT hA hy) (m0 hF).1⟩) (kk (m0 hF).2)
theorem bIR{x:Operand}{l:List UInt8}{B:Bl}{a:Act}(hA:gR n B e a)(h:iM e x=some (.s l)):ev (vE B e) x=some (sv l):=by obtain⟨v,h1,h2⟩:=eH hA h;cases h1;exact h2
theorem cat{p r:List UInt8}(hs:opS (jE T n K cf m e L)=some (o,Lv,cf1,cf2,K',m',e',L'))(ho:(o.op,o.dst)=(.binOp .add t x y z,some d))(hx:iM e' x=some (.s p))(hy:iM e' y=some (.s r))(hF:need (p.length+r.length<=9223372036854775807) A=some q)
  (kk:A=some q->G (.mk P T hT n c B0 N X Q) K' m' ((d,.s (p++r))::e') L' cf2):G (.mk P T hT n c B0 N X Q) K m e L cf:=
 pu hs (cY Prod.snd ho) (λB a w hA _=>⟨_,rfl,bH3 (cY Prod.fst ho) (bIR hA hx) (bIR hA hy) (m0 hF).1⟩) (kk (m0 hF).2)
theorem bK3{x:Operand}{cs:List SV}{vs:List Value}{B:Bl}{a:Act}(hA:gR n B e a)(h:(iM e x).map nbS=some (.g cs))(hv:bA (bZ []) cs=some vs):ev (vE B e) x=some (.agg vs.toArray):=by
 cases hx:iM e x with
 |none=>grind
 |some y=>
  rw[hx] at h;simp at h;obtain⟨v,h1,h2⟩:=eH hA hx;rw[h2,<-h1,<-aNY,h];simp only[fP,gV];have:=fB (g:=bZ B) (λx v h=>by simpa using gK (B:=[]) B h) hv;rw[this]
theorem neS{xs ys:List SV}{vx vy:List Value}{fs:Array Field}{b:Bool}(hg:P.eqGuardType P.depth t=false)(hst:P.stoodInHeld t=false)(hu:P.underlying t=some (.struct fs))(hb:∀w,(Op.eqFields 9999 vx.toArray vy.toArray (match P.underlying t with|some (.struct fs)=>fs|_=>#[]).toList).run P w=.ok b w)(hs:opS (jE T n K cf m e L)=some (o,Lv,cf1,cf2,K',m',e',L'))(ho:(o.op,o.dst)=(.binOp .neq t x y z,some d))(hx:(iM e' x).map nbS=some (.g xs))(hy:(iM e' y).map nbS=some (.g ys))(hvx:bA (bZ []) xs=some vx)(hvy:bA (bZ []) ys=some vy)
  (kk:G (.mk P T hT n c B0 N X Q) K' m' ((d,.b (!b))::e') L' cf2):G (.mk P T hT n c B0 N X Q) K m e L cf:=
 pu hs (cY Prod.snd ho) (λB a w hA _=>⟨_,rfl,bEE hg hst hu hb (cY Prod.fst ho) (bK3 hA hx hvx) (bK3 hA hy hvy)⟩) kk
theorem cl0{O J:Type}{fo:Option O}{kf:O->Option J}{q:J}{f:FuncId}{xs:List SV}{sv:O->SV}(hs:jE T n K cf m e L=.call o (some d) f xs cf1 cf2 K' m' e' L')
  (hc:∀{w},HS c w L'->∀{x},fo=some x->Fn0 P f (eJ w) xs sv x) (hF:fo.bind kf=some q)
  (k:∀x,fo=some x->kf x=some q->G (.mk P T hT n c B0 N X Q) K' m' ((d,sv x)::e') L' cf2):G (.mk P T hT n c B0 N X Q) K m e L cf:=
 cl (Lf:=λ_ _=>[]) hs (λ_ _=>rfl) (λh=>hc h) hF (λx hx hk _=>aj)
theorem lr{σ ρ υ O:Type}{id:Nat}{y:Code}{fb:σ->Option (Step σ ρ)}{s0:σ}{gk:ρ->Option O}{q:O}(u0:υ)(ks:List Nat)(el:σ->υ->SE)(is0 is:List Nat)(Ll:σ->υ->List Ch)
  (hs:jE T n K cf m e L=.loop id y K' m' e' L') (hF:(loop fb s0).bind gk=some q)
  (h0:asT B0.length m' e' L' is0 m' (el s0 u0++kp e' ks) (Ll s0 u0++kl L' is)=some (el s0 u0++kp e' ks,Ll s0 u0++kl L' is))
  (k1:∀ro,gk ro=some q->∀s u o,fb s=some o->(∀p,o=.stop p->p=ro)->G (.mk P T hT n c B0 (NxP n c B0 o m' (λs u=>el s u++kp e' ks) (λs u=>Ll s u++kl L' is)) (BkP n c B0 ro (λb:Empty=>nomatch b) m' (λ(b:Empty) (_:Unit)=>nomatch b) (λb _=>nomatch b) id (XK (.mk P T hT n c B0 N X Q) K')) Q) [] m' (el s u++kp e' ks) (Ll s u++kl L' is) (.c y)):G (.mk P T hT n c B0 N X Q) K m e L cf:=
 lp (J:=Empty) (ω:=Unit) u0 ks el is0 is Ll (λb=>nomatch b) [] (λb=>nomatch b) [] (λb=>nomatch b) hs hF h0 (λro hro s u o hb ho=>by
  have:=k1 ro hro s u o hb ho;have h1:(λ(b:Empty) (u:Unit)=>((λb=>nomatch b:Empty->Unit->SE) b u++kp e' []))=(λ(b:Empty) (_:Unit)=>nomatch b):=funext λb=>nomatch b
  have h2:(λ(b:Empty) (u:Unit)=>((λb=>nomatch b:Empty->Unit->List Ch) b u++kl L' []))=(λ(b:Empty) (_:Unit)=>nomatch b):=funext λb=>nomatch b
  simp_all) (λb=>nomatch b)
end
end
section
variable {P:Program} {T:TT} {hT:GJ P T} {n:Nat} {c:Ctx} {B0:Bl} {N:Act->World->Prop} {X:Nat->Act->World->Prop} {Q:Act->World->Prop} {K K':List Fr} {m m':Nat} {e e':SE} {L L':List Ch} {cf cf1 cf2:uI} {o:Oper} {Lv:List Ch} {d:Nat}
def Fu1(P:Program)(c:Ctx){O J:Type}{iR:aL O}(C:JR O)(sr:J->SV)(g:FuncId)(cap:List Value)(p:O->Option J):Prop:=
 (∀args w,(callFunc g args).run P w=.ok (.enter g args) w)/\∀w,eC c.W c.w0 w->∀x y,C.sub (All w) w x y->∀q,p x=some q->∀v,fP [] (C.sv x y)=some v->Calls P g (v::cap).toArray w (Ret λu w'=>fP [] (sr q)=some u/\mK (eJ w) w' [] [])
def Fu2(P:Program)(c:Ctx){O α' J:Type}{iR:aL O}{iR':aL α'}(C:JR O)(C':JR α')(sr:J->SV)(g:FuncId)(cap:List Value)(p:O->α'->Option J):Prop:=
 (∀args w,(callFunc g args).run P w=.ok (.enter g args) w)/\∀w,eC c.W c.w0 w->∀x y x' y',C.sub (All w) w x y->C'.sub (All w) w x' y'->∀q,p x x'=some q->∀v v',fP [] (C.sv x y)=some v->fP [] (C'.sv x' y')=some v'->Calls P g (v::v'::cap).toArray w (Ret λu w'=>fP [] (sr q)=some u/\mK (eJ w) w' [] [])
theorem bAM{O:Type}{iR:aL O}(C:JR O){w:World}{B:Bl}(hS:mK c w B L){x:O}{y:C.ex}(h:C.sub c.S0 c.w0 x y):C.sub (All w) w x y:=by refine C.bMX h (λb o hb=>?_) (a16 hS);obtain⟨⟨R,s1,_⟩,s0⟩:=hS;exact s1.keep.cell b o (s0 b o hb) λhw=>s1.apart b o hw hb
theorem mK.bAN{w:World}{B:Bl}(hS:mK c w B L):eC c.W c.w0 w:=by obtain⟨⟨R,s1,_⟩,s0⟩:=hS;exact s1.keep
section
variable {O α' J γ:Type} {iR:aL O} {iR':aL α'} {C:JR O} {C':JR α'} {sr:J->SV} {g:FuncId} {cap:List Value} {q:γ} {kf:J->Option γ} {fo:Operand} {args:Array Operand} {ats:Array TypeId}
theorem bAO{f:FuncId}{x:Operand}{ts:Array TypeId}{vs:List Value}{E:Env}{w:World}(hcall:∀args w,(callFunc f args).run P w=.ok (.enter f args) w)(ho:o.op=.call {callee:=.value x,args:=args,argTypes:=ts})(hx:ev E x=some (.func (.func f) #[] cap.toArray))(hv:evs E args.toList=some vs):bHO P o E w f (vs++cap).toArray:=
 aY7 (w:=w) (cap:=cap) (xs:=args.toList) (vs:=vs) hcall aa hx hv
theorem aVO{B:Bl}{x:SV}{v:Value}(h:B9 0 x=true)(hv:fP B x=some v):fP [] x=some v:=by have:=XL h hv;grind
theorem fa1{p:O->Option J}(H:Fu1 P c C sr g cap p)(x:O)(y:C.ex)(hs:jE T n K cf m e L=.op o Lv cf1 cf2 K' m' e' L')(ho:(o.op,o.dst)=(.call {callee:=.value fo,args:=args,argTypes:=ats},some d))(hf:iM e' fo=some (.k (.func (.func g) #[] cap.toArray)))(hx:(bA (iM e') args.toList).map nbT=some [C.sv x y])(hz:B9 0 (C.sv x y)=true)(hy:C.sub c.S0 c.w0 x y)(hF:(p x).bind kf=some q)
  (k:∀z,p x=some z->kf z=some q->G (.mk P T hT n c B0 N X Q) K' m' ((d,sr z)::e') L' cf2):G (.mk P T hT n c B0 N X Q) K m e L cf:=by
 refine gY (g:=.mk P T hT n c B0 N X Q) ?_;rw[hs];intro hdn _ hE;obtain⟨hcall,hrun⟩:=H;cases hp:p x with
 |none=>grind
 |some z=>
  rw[hp] at hF;refine hE Unit (λ_=>m') (λ_=>(d,sr z)::e') (λ_=>L') (λ_=>by simpa using uK (L:=L') []) (λB a w next Q' hm hA hS hnext=>?_) (λ_=>k z hp hF);cases hys:bA (iM e') args.toList with
  |none=>grind
  |some ys=>
   rw[hys] at hx;simp at hx;obtain⟨vs,h1,h2⟩:=aGB hA hys;obtain⟨u,h3,h4⟩:=eH hA hf;simp only[fP,gV,bZ] at h3;split at h3
   ·cases h3;rw[<-a43,hx] at h1;simp only[bA] at h1;cases hv:fP (B0S (.mk P T hT n c B0 N X Q) cf1++B) (C.sv x y) with
    |none=>grind
    |some v=>
     rw[hv] at h1;cases h1;have h6:=bAO (w:=w) hcall (cY Prod.fst ho) h4 h2;have hd:o.dst=some d:=cY Prod.snd ho;unfold Oper.wp;rw[h6 _ a hA.env,Oper.upon_enter];refine Calls.mono (hrun w hS.bAN x y (bAM C hS hy) z hp v (aVO hz hv)) λen w' ⟨v',hv',g1,g2⟩=>?_;subst hv';rw[hd] at hdn ⊢;have g3:=xU (B0S (.mk P T hT n c B0 N X Q) cf1++B) g1;exact hnext () _ _ ⟨[],aj,by simpa using hA.of aj (hA.env.put (by grind[sD,yT]) v'),by simpa using hS.after (L2:=[]) rfl g2⟩
   ·cases h3
theorem fu1{w:World}{p:O->Option J}(hc:∀args w,(callFunc g args).run P w=.ok (.enter g args) w)(hn:∀{U:Ctx} {x y},C.sub U.S0 U.w0 x y->∀{q},p x=some q->Fn0 P g U [C.sv x y] sr q):Fu1 P (eJ w) C sr g [] p:=
 ⟨hc,λw1 _ x y hy q hq v hv=>by
  refine Calls.mono ((hn (U:=eJ w1) hy hq).run [v] (by simp[bA,hv]) (bAL w1)) λen w' ⟨v',h1,y,h2,h3⟩=>⟨v',h1,h2,h3⟩⟩
end
def roL:Nat->List (Nat×List SV)->List Ch
 |_,[]=>[]
 |k,(_,cs)::r=>.ro k cs::roL (k+1) r
def roS:List (Nat×List SV)->List Ch
 |[]=>[]
 |(n,cs)::r=>.ro n cs::roS r
def bAQ:Nat->List (Nat×List SV)->List SV
 |_,[]=>[]
 |k,_::r=>.p k 0::bAQ (k+1) r
def VO(Bs:Bl):List Value:=Bs.map λb=>.pointer (some ⟨b.1,b.2,none⟩)
theorem rk{O:Type}[aL O]{w w1:World}{s:AC}{l:List O}(hk:eC F0 w w1)(h:bI (eJ w) s l):bI (eJ w1) s l:=
 aL.rd_mono (aL.rd_agree h λb o hb=>hk.cell b o hb λh=>h) λb o hb=>PZ hb hk.size
theorem fk1{O J:Type}{iR:aL O}{C:JR O}{sr:J->SV}{g:FuncId}{w:World}{Bs:Bl}{cs:List (Nat×List SV)}{p:O->Option J}(hc:∀args w,(callFunc g args).run P w=.ok (.enter g args) w)(hB:∀w1,eC F0 w w1->mK (eJ w1) w1 Bs (roL 0 cs))(hl:bA (fP Bs) (bAQ 0 cs)=some (VO Bs))(hz:∀q,B9 0 (sr q)=true)(hn:∀{w1 x y},eC F0 w w1->C.sub (All w1) w1 x y->∀{q},p x=some q->FnS P g (eJ w1) (C.sv x y::bAQ 0 cs) Bs (roL 0 cs) (λr (_:Unit)=>sr r) (λ_ _=>[]) q):Fu1 P (eJ w) C sr g (VO Bs) p:=
 ⟨hc,λw1 hk x y hy q hq v hv=>by
  have hv':fP Bs (C.sv x y)=some v:=by simpa using xU (B:=[]) Bs hv
  refine Calls.mono ((hn hk hy hq).run (v::VO Bs) (by grind[bA]) (hB w1 hk)) λen w' ⟨v',h1,y',h2,h3⟩=>⟨v',h1,?_,?_⟩
  ·grind[aVO]
  ·simpa using aF8 (m:=0) h3 rfl⟩
theorem a5A:∀{cs:List (Nat×List SV)} {k:Nat} {x:Ch},x∈roL k cs->∃j n c,cs[j]?=some (n,c)/\x=.ro (k+j) c
 |(n,c)::r,k,x,h=>by
  rcases xS.1 h with h|h
  ·simp_all
  ·obtain⟨j,n',c',h1,h2⟩:=a5A h;exact⟨j+1,n',c',aj,aj⟩
theorem a5B:∀{cs:List (Nat×List SV)} {n:Nat} {c:List SV},(n,c)∈cs->Ch.ro n c∈roS cs
 |(n',c')::r,n,c,h=>by
  rcases xS.1 h with h|h
  ·cases h;exact List.mem_cons_self ..
  ·exact B8 _ (a5B h)
theorem bAR{B:Bl}{cs:List (Nat×List SV)}{cap:List Value}:bA (aAF B) (cs.map (·.1))=some cap->∃Bs:Bl,cap=VO Bs/\Bs.length=cs.length/\∀(j:Nat) n c,cs[j]?=some (n,c)->∃b,Bs[j]?=some b/\B[n]?=some b:=by
 induction cs generalizing cap with
 |nil=>intro h;cases h;exact⟨[],rfl,rfl,ae⟩
 |cons p r ih=>
  obtain⟨n,c⟩:=p;intro h;simp only[PY,bA] at h;split at h
  ·cases h
  ·rename_i v hv;split at h
   ·cases h
   ·rename_i vs hvs;cases h;obtain⟨Bs,h1,h2,h3⟩:=ih hvs;simp only[aAF] at hv;split at hv
    ·rename_i b z hb;cases hv;refine⟨(b,z)::Bs,by simp[VO,h1],by simp[h2],λj n' c' hj=>?_⟩;grind
    ·cases hv
def aZH:List (Nat×List SV)->Bool
 |[]=>true
 |(_,c)::r=>B9.okC 0 c && aZH r
theorem aZI:∀{cs:List (Nat×List SV)} {j n:Nat} {c:List SV},aZH cs=true->cs[j]?=some (n,c)->B9.okC 0 c=true
 |(n',c')::r,0,n,c,h,hj=>by simp_all[aZH]
 |(n',c')::r,j + 1,n,c,h,hj=>by simp only[aZH,GF] at h;exact aZI h.2 (by simpa using hj)
theorem bIS{w:World}{B Bs:Bl}{cs:List (Nat×List SV)}(hS:mK c w B L)(hk:∀x∈roS cs,x∈L)(ho:aZH cs=true)(hB:∀(j:Nat) n c,cs[j]?=some (n,c)->∃b,Bs[j]?=some b/\B[n]?=some b):∀w1,eC F0 w w1->mK (eJ w1) w1 Bs (roL 0 cs):=by
 intro w1 hkp;have facts:∀x∈roL 0 cs,∃(f:Fact),f.P (All w1) w1/\(∀R,f∈R->roF Bs R x)/\kP Bs x=NY:=by intro x hx;obtain⟨j,n,cc,h1,h2⟩:=a5A hx;subst h2;obtain⟨⟨R,s1,s2⟩,s0⟩:=hS;obtain⟨b,z,vs,g1,g2,g3⟩:=s2 _ (hk _ (a5B (LS h1)));obtain⟨b',q1,q2⟩:=hB j n cc h1;rw[g1] at q2;cases q2;have hc0:=GL (aZI ho h1) g2;rw[List.take_zero] at hc0;obtain⟨i,hi⟩:=aKL g3;refine⟨fAt b z vs,bGV (s1.fact i hi) hkp,λR hR=>⟨b,z,vs,by simpa using q1,fB (λx v h=>by simpa using gK (B:=[]) Bs h) hc0,hR⟩,rfl⟩
 have build:∀M:List Ch,(∀x∈M,x∈roL 0 cs)->∃R:List Fact,(∀f∈R,f.P (All w1) w1)/\(∀x∈M,roF Bs R x)/\M.map (kP Bs)=List.replicate M.length NY:=by
  intro M;induction M with
  |nil=>exact λ_=>⟨[],ae,ae,rfl⟩
  |cons x M ih=>
   intro hM;obtain⟨R,h1,h2,h3⟩:=ih λy hy=>hM y (B8 _ hy);obtain⟨f,f1,f2,f3⟩:=facts x (hM x ae);refine⟨f::R,λg hg=>?_,λy hy=>?_,by simp[f3,h3,List.replicate_succ]⟩
   ·rcases xS.1 hg with hg|hg
    ·subst hg;exact f1
    ·exact h1 g hg
   ·rcases xS.1 hy with hy|hy
    ·subst hy;exact f2 _ ae
    ·exact aF6 (λg hg=>B8 _ hg) (h2 y hy)
 obtain⟨R,h1,h2,h3⟩:=build (roL 0 cs) λ_ h=>h;refine⟨⟨R,?_,h2⟩,λ_ _ h=>h⟩;rw[h3];have h4:St (eJ w1) w1 [] R:=St.enter h1;generalize (roL 0 cs).length=k;clear h3;induction k with
 |zero=>exact h4
 |succ k ih=>
  rw[List.replicate_succ'];exact St.more (ch:=NY) ih (eC.refl _ _) ⟨F0,λ_ _ h=>h,λ_ _ h=>h.elim⟩
def shr(ns:List Nat):List Ch->List Ch
 |[]=>[]
 |.box n cs::L=>match eZ n ns with
  |true=>.box n cs::shr ns L
  |false=>.ro n cs::shr ns L
 |x::L=>x::shr ns L
theorem St.bIT{w:World}{M:List Chunk}{R:List Fact}{b z i:Nat}{vs:List Value}(h:St c w M R)(hi:M[i]?=some (cAt b z vs)):St c w (M.set i NY) (R++[fAt b z vs]):=by
 have h1:=h.take i hi;obtain⟨F,S,⟨F1,F2,h1,h2,hd,hF⟩,a2,a3,a4,a5,a6⟩:=h1.sep;have hlt:∀b' o,F1 b' o->b'<w.heap.size:=λ_ _ hf=>Chunk.lt (cAt b z vs) h1 hf;obtain⟨g1,g2,g3⟩:=h1;refine⟨h.keep,⟨F2,λb o=>S b o\/F1 b o,h2,?_,λb o hf=>a3 b o ((hF b o).2 (.inr hf)),?_,?_,?_⟩,h.apart⟩
 ·rintro b o hf (hs|hs)
  ·exact a2 b o ((hF b o).2 (.inr hf)) hs
  ·exact hd b o hs hf
 ·grind
 ·grind
 ·intro f hf;rcases jG.1 hf with hf|hf
  ·exact f.mono (a6 f hf) λb o hs=>.inl hs
  ·simp at hf;subst hf;exact⟨g1,λo ho=>.inr ((g3 b o).2 ho)⟩
theorem aWY{w:World}{B:Bl}(ns:List Nat):∀(M L:List Ch),mK c w B (M++L)->mK c w B (M++shr ns L)
 |M,[],h=>h
 |M,x::L,h=>by
  have gen:mK c w B (M++x::shr ns L):=by have:=aWY ns (M++[x]) L (by simpa using h);grind
  cases x with
  |box n cs=>
   simp only[shr];split
   ·exact gen
   ·obtain⟨⟨R,s1,s2⟩,s0⟩:=gen;have hi:((M++Ch.box n cs::shr ns L).map (kP B))[M.length]?=some (aF5 B n cs):=by simp[kP]
    obtain⟨F,b,z,vs,h3,h4,h5⟩:=s1.chunk (ch:=aF5 B n cs) M.length hi;have s3:=s1.imp (jO.put M.length hi λF ⟨b',z',vs',q1,q2,q3⟩=>by
     rw[h3] at q1;cases q1;rw[h4] at q2;cases q2;exact q3)
    have s4:=s3.bIT (b:=b) (z:=z) (vs:=vs) (i:=M.length) (by rw[List.getElem?_set_self];simp);refine⟨⟨R++[fAt b z vs],?_,λx hx=>?_⟩,s0⟩
    ·have:((M++Ch.ro n cs::shr ns L).map (kP B))=(((M++Ch.box n cs::shr ns L).map (kP B)).set M.length (cAt b z vs)).set M.length NY:=by simp[kP]
     grind
    ·rcases jG.1 hx with hx|hx
     ·exact aF6 (λf hf=>List.mem_append_left _ hf) (s2 x (List.mem_append_left _ hx))
     ·rcases xS.1 hx with hx|hx
      ·subst hx;exact⟨b,z,vs,h3,h4,ae⟩
      ·exact aF6 (λf hf=>List.mem_append_left _ hf) (s2 x (List.mem_append_right _ (B8 _ hx)))
  |_=>exact gen
theorem mf{f:FuncId}{caps:Array Operand}{ops:Array Oper}{l:List Oper}(ns:List Nat)(hs:jE T n K cf m e L=.op o Lv (.r ops l) cf2 K' m' e' L')(ho:(o.op,o.dst)=(.makeFunc (.func f) #[] caps,some d))(hx:bA (iM e') caps.toList=some (ns.map λn=>.p n 0))
  (k:G (.mk P T hT n c B0 N X Q) K' m' ((d,.f f ns)::e') (shr ns L') cf2):G (.mk P T hT n c B0 N X Q) K m e L cf:=by
 refine gY (g:=.mk P T hT n c B0 N X Q) ?_;rw[hs];intro hdn _ hE;refine hE Unit (λ_=>m') (λ_=>(d,.f f ns)::e') (λ_=>shr ns L') (λ_=>trivial) (λB a w next Q' hm hA hS hnext=>?_) (λ_=>k);obtain⟨vs,h1,h2⟩:=aGB hA hx;have hd:o.dst=some d:=cY Prod.snd ho;have h3:∀{ns:List Nat} {vs:List Value},bA (fP (B0S (.mk P T hT n c B0 N X Q) (.r ops l)++B)) (ns.map λn=>SV.p n 0)=some vs->bA (aAF (B0S (.mk P T hT n c B0 N X Q) (.r ops l)++B)) ns=some vs:=by
  intro ns;induction ns with
  |nil=>intro vs h;exact h
  |cons jj ns ih=>
   grind[bA,aAF,fP,gV,bZ]
 have h5:∀{os:List Operand} {vs:List Value},evs (vE (B0S (.mk P T hT n c B0 N X Q) (.r ops l)++B) e') os=some vs->os.map (ev (vE (B0S (.mk P T hT n c B0 N X Q) (.r ops l)++B) e'))=vs.map some:=by
  intro os;induction os with
  |nil=>intro vs h;cases h;rfl
  |cons o os ih=>
   grind[evs]
 have h6:=bD9 (P:=P) (w:=w) (vf:=[]) (vc:=vs) (cY Prod.fst ho) rfl (h5 h2);unfold Oper.wp;rw[h6 _ a hA.env,Oper.upon_value,hd];rw[hd] at hdn;have h7:fP (B0S (.mk P T hT n c B0 N X Q) (.r ops l)++B) (.f f ns)=some (.func (.func f) #[] vs.toArray):=by grind[fP]
 exact hnext () _ _ ⟨[],aj,by simpa using hA.of h7 (hA.env.put (by grind[sD,yT]) _),by simpa using aWY ns [] L' hS⟩
theorem clc{O J:Type}{fo:Option O}{kf:O->Option J}{q:J}{f g:FuncId}{xs xs0:List SV}{sv:O->SV}(is:List Nat)(cs:List (Nat×List SV))(hs:jE T n K cf m e L=.callp o (some d) f xs cf1 cf2 K' m' e' L')(hk:kl L' is=roS cs)(ho:(aZH cs && okA xs.dropLast)=true)(hx:xs=xs.dropLast++[.f g (cs.map (·.1))])
  (hc:∀{w},HS c w L'->∀{Bs:Bl},Bs.length=cs.length->(∀w1,eC F0 w w1->mK (eJ w1) w1 Bs (roL 0 cs))->∀{x},fo=some x->Fn0 P f (eJ w) (xs.dropLast++[.k (.func (.func g) #[] (VO Bs).toArray)]) sv x) (hF:fo.bind kf=some q)
  (k:∀x,fo=some x->kf x=some q->G (.mk P T hT n c B0 N X Q) K' m' ((d,sv x)::e') L' cf2):G (.mk P T hT n c B0 N X Q) K m e L cf:=by
 refine gY (g:=.mk P T hT n c B0 N X Q) ?_;rw[hs];intro fo' args ats ho' hd hf ⟨ys,hys,hxs⟩ hdn hE;rw[GF] at ho;cases hfo:fo with
 |none=>grind
 |some x=>
  rw[hfo] at hF;refine hE Unit (λ_=>m') (λ_=>(d,sv x)::e') (λ_=>L') (λ_=>by simpa using uK (L:=L') []) (λB a w next Q' hm hA hS hnext=>?_) (λ_=>k x hfo hF);obtain⟨vs,h1,h2⟩:=aGB hA hys;obtain⟨v,h3,h4⟩:=eH hA hf;simp[fP,bA] at h3;subst h3;rw[<-XM,hxs] at h1;rw[hx] at h1;have split:∀{az:List SV} {b:SV} {vs:List Value} {B:Bl},bA (fP B) (az++[b])=some vs->∃us v,bA (fP B) az=some us/\fP B b=some v/\vs=us++[v]:=by
   intro az;induction az with
   |nil=>
    grind[bA]
   |cons a az ih=>
    intro b vs B h;simp only[aDW,bA] at h;grind[bA]
  obtain⟨us,fv,g1,g2,rfl⟩:=split h1;simp only[fP] at g2;split at g2
  ·rename_i cap hcap;cases g2;obtain⟨Bs,b1,b2,b3⟩:=bAR hcap;subst b1;have hmem:∀x∈roS cs,x∈L':=λx hx=>aO0 (is:=is) aj;obtain⟨hcall,hrun⟩:=hc ⟨_,hS⟩ b2 (bIS hS hmem ho.1 b3) hfo;have join:∀{az:List SV} {us:List Value} {b:SV} {v:Value},bA (fP []) az=some us->fP [] b=some v->bA (fP []) (az++[b])=some (us++[v]):=by
    intro az;induction az with
    |nil=>grind[bA]
    |cons a az ih=>
     intro us b v h hb;simp only[bA] at h;split at h
     ·cases h
     ·rename_i u hu;split at h
      ·cases h
      ·rename_i us' hus;cases h;simp[bA,hu,ih hus hb]
   have h5:=hrun (us++[.func (.func g) #[] (VO Bs).toArray]) (join (aN4 ho.2 g1) (by simp[fP,gV,bZ,Value.oneCell'])) (bAL w);have h6:=aA4 (w:=w) hcall ho' h4 h2;unfold Oper.wp;rw[h6 _ a hA.env,Oper.upon_enter];refine Calls.mono h5 λen w' ⟨v,hv,y,e1,e2⟩=>?_;subst hv;rw[hd];have g3:=xU (B0S (.mk P T hT n c B0 N X Q) cf1++B) e1;exact hnext () _ _ ⟨[],aj,by simpa using hA.of aj (hA.env.put (by grind[sD,yT]) v),by simpa using hS.after (L2:=[]) rfl e2⟩
  ·cases g2
theorem HS.u1{O J:Type}{iR:aL O}{C:JR O}{sr:J->SV}{g:FuncId}{cap:List Value}{w:World}{p:O->Option J}(h:HS c w L)(H:Fu1 P c C sr g cap p):Fu1 P (eJ w) C sr g cap p:=by obtain⟨B,hS⟩:=h.ex;exact⟨H.1,λw1 hk=>H.2 w1 (hS.bAN.trans hk λ_ _ _ h=>h.elim)⟩
theorem HS.u2{O α' J:Type}{iR:aL O}{iR':aL α'}{C:JR O}{C':JR α'}{sr:J->SV}{g:FuncId}{cap:List Value}{w:World}{p:O->α'->Option J}(h:HS c w L)(H:Fu2 P c C C' sr g cap p):Fu2 P (eJ w) C C' sr g cap p:=by obtain⟨B,hS⟩:=h.ex;exact⟨H.1,λw1 hk=>H.2 w1 (hS.bAN.trans hk λ_ _ _ h=>h.elim)⟩
theorem bMS{O J:Type}{fo:Option O}{kf:O->Option J}{q:J}{f g:FuncId}{xs:List SV}{sv:O->SV}{n1:Nat}{c1:List SV}(is:List Nat)(hs:jE T n K cf m e L=.callp o (some d) f xs cf1 cf2 K' m' e' L')(hk:kl L' is=[.ro n1 c1])(ho:(aZH [(n1,c1)] && okA xs.dropLast)=true)(hx:xs=xs.dropLast++[.f g [n1]])
  (hc:∀{w},HS c w L'->∀{b1:Nat×Nat},(∀w1,eC F0 w w1->mK (eJ w1) w1 [b1] [.ro 0 c1])->∀{x},fo=some x->Fn0 P f (eJ w) (xs.dropLast++[.k (.func (.func g) #[] (VO [b1]).toArray)]) sv x) (hF:fo.bind kf=some q)
  (k:∀x,fo=some x->kf x=some q->G (.mk P T hT n c B0 N X Q) K' m' ((d,sv x)::e') L' cf2):G (.mk P T hT n c B0 N X Q) K m e L cf:=
 clc (xs0:=[]) is [(n1,c1)] hs hk ho hx (λh Bs hl hB=>match Bs,hl,hB with|[_],_,hB=>hc h hB) hF k
end
section
variable {P:Program} {T:TT} {hT:GJ P T} {n:Nat} {c:Ctx} {B0:Bl} {N:Act->World->Prop} {X:Nat->Act->World->Prop} {Q:Act->World->Prop} {K K':List Fr} {m m':Nat} {e e':SE} {L L':List Ch} {cf cf1 cf2:uI} {o:Oper} {Lv:List Ch} {d:Nat}
variable {x y z:Operand} {t t2:TypeId} {k k2:IntKind} {i j:Int} {O J:Type} {A:Option J} {q:J}
theorem bFC(hs:opS (jE T n K cf m e L)=some (o,Lv,cf1,cf2,K',m',e',L'))(ho:(o.op,o.dst)=(.call {callee:=.builtin .min,args:=#[x,y],argTypes:=#[t,t2]},some d))(hx:(iM e' x).bind uH=some (.i64,i))(hy:(iM e' y).bind uH=some (k,j))
  (kk:G (.mk P T hT n c B0 N X Q) K' m' ((d,.i .i64 (if j<i then j else i))::e') L' cf2):G (.mk P T hT n c B0 N X Q) K m e L cf:=
 pu hs (cY Prod.snd ho) (λB a w hA _=>⟨_,rfl,bH7 (cY Prod.fst ho) (AT hA hx) (AT hA hy)⟩) kk
theorem bIU(hs:opS (jE T n K cf m e L)=some (o,Lv,cf1,cf2,K',m',e',L'))(ho:(o.op,o.dst)=(.call {callee:=.builtin .max,args:=#[x,y],argTypes:=#[t,t2]},some d))(hx:(iM e' x).bind uH=some (.i64,i))(hy:(iM e' y).bind uH=some (k,j))
  (kk:G (.mk P T hT n c B0 N X Q) K' m' ((d,.i .i64 (if i<j then j else i))::e') L' cf2):G (.mk P T hT n c B0 N X Q) K m e L cf:=
 pu hs (cY Prod.snd ho) (λB a w hA _=>⟨_,rfl,bH8 (cY Prod.fst ho) (AT hA hx) (AT hA hy)⟩) kk
section
variable {l:List UInt8} {b1:Bool} {n1:Nat} {z1:List SV}
theorem bK5(ht:AQ T t=some ⟨.s,b1,n1,z1⟩)(hT:GJ P T):P.underlying t=some .string:=by obtain⟨dd,hd1,hd2⟩:=hT.und _ _ ht;grind
theorem qsi{kf:UInt8->Option J}(hs:opS (jE T n K cf m e L)=some (o,Lv,cf1,cf2,K',m',e',L'))(ho:(o.op,o.dst)=(.index t x y,some d))(ht:AQ T t=some ⟨.s,b1,n1,z1⟩)(hx:iM e' x=some (.s l))(hy:(iM e' y).bind uH=some (k,i))(hF:(idx l i).bind kf=some q)
  (kk:∀u,idx l i=some u->kf u=some q->G (.mk P T hT n c B0 N X Q) K' m' ((d,.y u)::e') L' cf2):G (.mk P T hT n c B0 N X Q) K m e L cf:=by
 cases hi:idx l i with
 |none=>grind
 |some u=>
  rw[hi] at hF;exact pu hs (cY Prod.snd ho) (λB a w hA _=>⟨_,rfl,bEK (bK5 ht hT) hi (cY Prod.fst ho) (bIR hA hx) (AT hA hy)⟩) (kk u hi hF)
end
section
variable [aL O] {s:AC} {l:List O} {el:TypeId} {b1 b2:Bool} {n1 sz:Nat} {z1 z2:List SV} {kt:TK}
theorem hdB{B:Bl}{a:Act}(hA:gR n B e a){ln:Nat}(h:iM e x=some (.h s ln)):ev (vE B e) x=some (s.v ln):=by obtain⟨v,h1,h2⟩:=eH hA h;cases h1;exact h2
theorem GM(ht:AQ T t=some ⟨.sl el,b1,n1,z1⟩)(hT:GJ P T):P.underlying t=some (.slice el):=by obtain⟨dd,hd1,hd2⟩:=hT.und _ _ ht;grind
theorem qsb{a b:Nat}(h1:bI c s l)(hb:a<=b/\b<=l.length)(hs:opS (jE T n K cf m e L)=some (o,Lv,cf1,cf2,K',m',e',L'))(hd:o.dst=some d)(hr:∀B act w,gR n B e' act->aL.rd c.S0 w [s.v l.length] l->eW P o (vE B e') w (iJ (aL.n O) a b (s.v l.length)) w)
  (kk:∀s',bI c s' ((l.take b).drop a)->G (.mk P T hT n c B0 N X Q) K' m' ((d,.h s' ((l.take b).drop a).length)::e') L' cf2):G (.mk P T hT n c B0 N X Q) K m e L cf:=by
 have h2:=a1T (n:=aL.n O) (a:=a) (b:=b) rfl h1 hb.1 hb.2;obtain⟨ad,cp,e1,_⟩:=aOS h2;rw[e1] at h2;exact pu hs hd (λB act w hA hS=>⟨_,by grind[fP,gV,bZ],hr B act w hA (aWX hS (f:=fRd [s.v l.length] l) h1)⟩) (kk ⟨ad,cp⟩ h2)
theorem a17(hs:opS (jE T n K cf m e L)=some (o,Lv,cf1,cf2,K',m',e',L'))(ho:(o.op,o.dst)=(.slice t x (some y) (some z) none,some d))(ht:AQ T t=some ⟨.sl el,b1,n1,z1⟩)(he:AQ T el=some ⟨kt,b2,sz,z2⟩)(hn:aL.n O=sz)(h1:bI c s l)(hx:iM e' x=some (.h s l.length))(hy:(iM e' y).bind uH=some (k,i))(hz:(iM e' z).bind uH=some (k2,j))(hF:need (0<=i/\i<=j/\j<=(l.length:Int)) A=some q)
  (kk:A=some q->∀s',bI c s' ((l.take j.toNat).drop i.toNat)->G (.mk P T hT n c B0 N X Q) K' m' ((d,.h s' ((l.take j.toNat).drop i.toNat).length)::e') L' cf2):G (.mk P T hT n c B0 N X Q) K m e L cf:=by
 have hb:=(m0 hF).1;subst hn;exact qsb h1 aa hs (cY Prod.snd ho) (λB act w hA h=>a6T h rfl (GM ht hT) (hT.size _ _ he) hb (cY Prod.fst ho) (hdB hA hx) (AT hA hy) (AT hA hz)) (kk (m0 hF).2)
theorem bG3(hs:opS (jE T n K cf m e L)=some (o,Lv,cf1,cf2,K',m',e',L'))(ho:(o.op,o.dst)=(.slice t x none (some z) none,some d))(ht:AQ T t=some ⟨.sl el,b1,n1,z1⟩)(he:AQ T el=some ⟨kt,b2,sz,z2⟩)(hn:aL.n O=sz)(h1:bI c s l)(hx:iM e' x=some (.h s l.length))(hz:(iM e' z).bind uH=some (k2,j))(hF:need (0<=j/\j<=(l.length:Int)) A=some q)
  (kk:A=some q->∀s',bI c s' ((l.take j.toNat).drop 0)->G (.mk P T hT n c B0 N X Q) K' m' ((d,.h s' ((l.take j.toNat).drop 0).length)::e') L' cf2):G (.mk P T hT n c B0 N X Q) K m e L cf:=by
 have hb:=(m0 hF).1;subst hn;exact qsb h1 aa hs (cY Prod.snd ho) (λB act w hA h=>a9K h rfl (GM ht hT) (hT.size _ _ he) hb (cY Prod.fst ho) (hdB hA hx) (AT hA hz)) (kk (m0 hF).2)
end
section
variable {zv:Value} {n1 m1:Nat} {el:TypeId}
theorem bAS{B:Bl}{xs:List SV}{vs:List Value}(h:bA (fP []) xs=some vs):bA (fP B) xs=some vs:=fB (λx v h=>by simpa using xU (B:=[]) B h) h
theorem qba{ps:Array (Nat×Operand)}{xs:List SV}{vs cells:List Value}(cs:List SV)(hz:∀w,(zeroValue t).run P w=.ok zv w)(hu:P.underlying t=some (.array n1 el))(hp:∀w,(sizeOf el).run P w=.ok m1 w)(hs:opS (jE T n K cf m e L)=some (o,Lv,cf1,cf2,K',m',e',L'))(ho:(o.op,o.dst)=(.build t ps,some d))(hv:bA (iM e') (ps.toList.map (·.2))=some xs)(hvs:bA (fP []) xs=some vs)(hcs:bA (bZ []) cs=some cells)(hc:Instr.fill (λi=>some (i*m1,m1)) zv.cells ((ps.toList.map (·.1)).zip vs)=some cells.toArray)
  (kk:G (.mk P T hT n c B0 N X Q) K' m' ((d,.g cs)::e') L' cf2):G (.mk P T hT n c B0 N X Q) K m e L cf:=
 pu hs (cY Prod.snd ho) (λB a w hA _=>⟨.agg cells.toArray,by
  simp only[fP,gV];rw[fB (g:=bZ B) (λx v h=>by simpa using gK (B:=[]) B h) hcs],by
  obtain⟨us,h1,h2⟩:=aGB hA hv;rw[bAS hvs] at h1;cases h1;exact a6U (ps:=ps.toList) (by simp_all) hz hu hp h2 hc⟩) kk
theorem qai{γ:Type}(f:γ->Value)(g:γ->SV){l:List γ}{cs:List SV}{kf:γ->Option J}(hu:P.underlying t=some (.array n1 el))(hz:∀w,(sizeOf el).run P w=.ok 1 w)(hg:∀w,(isAgg el).run P w=.ok false w)(hgf:∀u,fP [] (g u)=some (f u))(hs:opS (jE T n K cf m e L)=some (o,Lv,cf1,cf2,K',m',e',L'))(ho:(o.op,o.dst)=(.index t x y,some d))(hx:iM e' x=some (.g cs))(hcs:bA (bZ []) cs=some (l.map f))(hn:l.length=n1)(hy:(iM e' y).bind uH=some (k,i))(hF:(idx l i).bind kf=some q)
  (kk:∀u,idx l i=some u->kf u=some q->G (.mk P T hT n c B0 N X Q) K' m' ((d,g u)::e') L' cf2):G (.mk P T hT n c B0 N X Q) K m e L cf:=by
 cases hi:idx l i with
 |none=>grind
 |some u=>
  rw[hi] at hF;refine pu hs (cY Prod.snd ho) (λB a w hA _=>⟨f u,by simpa using xU (B:=[]) B (hgf u),?_⟩) (kk u hi hF);obtain⟨v,h1,h2⟩:=eH hA hx;simp only[fP,gV] at h1;rw[fB (g:=bZ B) (λx v h=>by simpa using gK (B:=[]) B h) hcs] at h1;cases h1;exact bIA f hu hz hg hi hn rfl (cY Prod.fst ho) h2 (AT hA hy)
end
end
section
variable {P:Program} {T:TT} {hT:GJ P T} {n:Nat} {c:Ctx} {B0:Bl} {N:Act->World->Prop} {X:Nat->Act->World->Prop} {Q:Act->World->Prop} {K K':List Fr} {m m':Nat} {e e':SE} {L L':List Ch} {cf cf1 cf2:uI} {o:Oper} {Lv:List Ch} {d:Nat}
theorem chg{g:Gx}{ι:Type}(m2:ι->Nat)(e2:ι->SE)(L2:ι->List Ch)(h:∀B a w,B.length=m->gR g.n B e a->mK g.c w B L->∃i B',(B++B').length=m2 i/\gR g.n (B++B') (e2 i) a/\mK g.c w (B++B') (L2 i))
  (hz:∀i,Frz g cf L (L2 i)) (k:∀i,G g K (m2 i) (e2 i) (L2 i) cf):G g K m e L cf:=by
 have key:∀a w,Rel g m e L a w->∃i,Rel g (m2 i) (e2 i) (L2 i) a w:=λa w ⟨B,h1,h2,h3⟩=>by obtain⟨i,B',k1,k2,k3⟩:=h _ a w h1 h2 h3;exact⟨i,B++B',aj,aj,aj⟩
 cases cf with
 |n=>exact λa w hr=>let ⟨i,hi⟩:=key a w hr;k i a w hi
 |c x=>exact λa w hr=>let ⟨i,hi⟩:=key a w hr;k i a w hi
 |r ops l=>exact λa w hr=>let ⟨i,hi⟩:=key a w hr;k i a w hi
 |d B1 ops l is Lf Lv=>
  refine λhD a w ⟨B,h1,h2,h3,h4⟩=>?_;obtain⟨i,B',k1,k2,k3⟩:=h _ a w h1 h2 h3;obtain⟨z1,z2⟩:=hz i hD;exact k i ⟨hD.pre,hD.len,hD.free,z1,z2,hD.okf,hD.ap⟩ a w ⟨B++B',aj,aj,aj,λw' hw=>by
   have:=(h4 w' hw).app B';grind⟩
 |o B1 ops l is Lf Lv ii=>
  refine λhD a w ⟨B,h1,h2,h3,h4⟩=>?_;obtain⟨i,B',k1,k2,k3⟩:=h _ a w h1 h2 h3;obtain⟨z1,z2⟩:=hz i hD;exact k i ⟨hD.pre,hD.len,hD.free,z1,z2,hD.okf,hD.ap⟩ a w ⟨B++B',aj,aj,aj,λw' hw=>by
   have:=(h4 w' hw).app B';grind⟩
theorem mks{O J:Type}[aL O]{x y:Operand}{t el sz:Nat}{i:Int}{zv:Value}{b1:Bool}{n1:Nat}{z1:List SV}{A:Option J}{q:J}(zd:O)(hinf:Inf P el sz zv)(hzd:∀w,aL.own w zv.cells.toList zd F0)(q0_:jE T n K cf m e L=.op o Lv cf1 cf2 K' m' e' L'/\(o.op,o.dst)=(.makeSlice t x y,some d)/\AQ T t=some ⟨.sl el,b1,n1,z1⟩/\aL.n O=sz/\zv.cells.size=sz/\(iM e' x).bind uH=some (.i64,i)/\(iM e' y).bind uH=some (.i64,i))(hF:need (0<=i/\i<=4294967296) A=some q)
  (k:A=some q->∀s':AC,G (.mk P T hT n c B0 N X Q) K' m' ((d,.h s' (List.replicate i.toNat zd).length)::e') (L'++[ow s' (List.replicate i.toNat zd)]) cf2):G (.mk P T hT n c B0 N X Q) K m e L cf:=by
 obtain⟨hs,ho,ht,hn,hzs,hx,hy⟩:=q0_;refine gY (g:=.mk P T hT n c B0 N X Q) ?_;rw[hs];intro hdn _ hE;refine hE AC (λ_=>m') (λs'=>(d,.h s' (List.replicate i.toNat zd).length)::e') (λs'=>L'++[ow s' (List.replicate i.toNat zd)]) (λ_=>uK _) (λB a w next Q' hm hA hS hnext=>?_) (k (m0 hF).2);obtain⟨⟨R,s1,s2⟩,s0⟩:=hS;have hd:o.dst=some d:=cY Prod.snd ho;obtain⟨v,w',k1,k2⟩:=a9H zd s1 hn (GM ht hT) hinf hzs hzd (m0 hF).1 (cY Prod.fst ho) (AT hA hx) (AT hA hy);have hrd:∃s':AC,v=s'.v (List.replicate i.toNat zd).length:=by have h1:=k2.a4I (cs:=[v]) (d:=List.replicate i.toNat zd) (L'.map (kP (B0S (.mk P T hT n c B0 N X Q) cf1++B))).length ae;obtain⟨ad,cp,h2,_⟩:=aOS h1;exact⟨⟨ad,cp⟩,h2⟩
 obtain⟨s',rfl⟩:=hrd;unfold Oper.wp;rw[k1 _ a hA.env,Oper.upon_value,hd];refine hnext s' _ _ ⟨[],aj,by simpa using hA.of (by simp[fP,gV,bZ]) (hA.env.put (by grind[sD,yT]) _),⟨⟨R,by grind[kP],λx hx=>?_⟩,λb o hb=>PZ (s0 b o hb) (jZ _)⟩⟩;rcases jG.1 hx with hx|hx
 ·grind
 ·simp at hx;subst hx;exact trivial
end
def uI.yR:uI->List Nat
 |.d _ _ _ is _ _=>is
 |.o _ _ _ is _ _ _=>is
 |_=>[]
theorem aC7{L M:List Ch}{j:Nat}{z:Ch}:∀{is:List Nat},(∀i∈is,i<L.length)->eZ j is=true->kl (L.set j z++M) is=kl L is
 |[],_,_=>rfl
 |i::is,h,hn=>by
  have hi:=h i ae;have h1:=aO4 hn;have hne:j≠i:=λhe=>h1 (by simp[he]);have h2:(L.set j z++M)[i]?=L[i]?:=aj
  have h3:eZ j is=true:=by grind[eZ]
  simp only[kl,h2,aC7 (λi hi=>h i (B8 _ hi)) h3]
theorem a5C{L M:List Ch}:∀{is:List Nat},(∀i∈is,i<L.length)->kl (L++M) is=kl L is
 |[],_=>rfl
 |i::is,h=>by simp only[kl,List.getElem?_append_left (h i ae),a5C (M:=M) (λi hi=>h i (B8 _ hi))]
theorem aWZ{g:Gx}{cf:uI}{L M:List Ch}{j:Nat}{z:Ch}(hn:eZ j cf.yR=true):Frz g cf L (L.set j z++M):=by
 cases cf with
 |d B1 ops l is Lf Lv=>
  exact λhD=>⟨(aC7 hD.rng hn).trans hD.yR,λi hi=>by have:=hD.rng i hi;simp;omega⟩
 |o B1 ops l is Lf Lv i=>
  exact λhD=>⟨(aC7 hD.rng hn).trans hD.yR,λi hi=>by have:=hD.rng i hi;simp;omega⟩
 |_=>trivial
theorem aZJ{c:Ctx}{w:World}{A:List Chunk}{R:List Fact}(h:St c w A R):St c w (A++[NY]) R:=by obtain⟨F,S,h1,rest⟩:=h.sep;exact⟨h.keep,⟨F,S,Sep.append.2 ⟨F,F0,h1,Sep.one.2 (λ_ _ h=>h),λ_ _ _ h=>h,λb o=>by simp[F0]⟩,rest⟩,h.apart⟩
structure CO (O:Type) [aL O] where
 ex:Type
 cs:O->ex->List SV
 Lx:O->ex->List Ch
 op:∀{w F ec q},aL.own w ec q F->∃y,bA (bZ []) (cs q y)=some ec
 pk:∀{q y ec},bA (bZ []) (cs q y)=some ec->OP ec q ((Lx q y).map (kP []))
 no:∀q y,noF (Lx q y)=true
 nb:∀q y B,(Lx q y).map (kP B)=(Lx q y).map (kP [])
section
variable {P:Program} {T:TT} {hT:GJ P T} {n:Nat} {c:Ctx} {B0:Bl} {N:Act->World->Prop} {X:Nat->Act->World->Prop} {Q:Act->World->Prop} {K K':List Fr} {m m':Nat} {e e':SE} {L L':List Ch} {cf cf1 cf2:uI} {o:Oper} {Lv:List Ch} {d:Nat}
theorem bMU{g:Gx}{ι:Type}(m2:ι->Nat)(e2:ι->SE)(L2:ι->List Ch)(Ln:ι->List Ch)(h:∀B a w,B.length=m->gR g.n B e a->mK g.c w B L->∃i B',(B++B').length=m2 i/\gR g.n (B++B') (e2 i) a/\mK g.c w (B++B') (L2 i)/\∀w' M,mK g.c w' B M->mK g.c w' (B++B') (M++Ln i))
  (hz:∀i,Frz g cf L (L2 i)) (k:∀i,G g K (m2 i) (e2 i) (L2 i) (cf.ext (Ln i))):G g K m e L cf:=by
 have key:∀a w,Rel g m e L a w->∃i,Rel g (m2 i) (e2 i) (L2 i) a w:=λa w ⟨B,h1,h2,h3⟩=>by obtain⟨i,B',k1,k2,k3,_⟩:=h _ a w h1 h2 h3;exact⟨i,B++B',aj,aj,aj⟩
 cases cf with
 |n=>exact λa w hr=>let ⟨i,hi⟩:=key a w hr;k i a w hi
 |c x=>exact λa w hr=>let ⟨i,hi⟩:=key a w hr;k i a w hi
 |r ops l=>exact λa w hr=>let ⟨i,hi⟩:=key a w hr;k i a w hi
 |d B1 ops l is Lf Lv=>
  refine λhD a w ⟨B,h1,h2,h3,h4⟩=>?_;obtain⟨i,B',k1,k2,k3,k4⟩:=h _ a w h1 h2 h3;obtain⟨z1,z2⟩:=hz i hD;exact k i ⟨hD.pre,hD.len,hD.free,z1,z2,hD.okf,hD.ap⟩ a w ⟨B++B',aj,aj,aj,λw' hw=>by
   grind⟩
 |o B1 ops l is Lf Lv ii=>
  refine λhD a w ⟨B,h1,h2,h3,h4⟩=>?_;obtain⟨i,B',k1,k2,k3,k4⟩:=h _ a w h1 h2 h3;obtain⟨z1,z2⟩:=hz i hD;exact k i ⟨hD.pre,hD.len,hD.free,z1,z2,hD.okf,hD.ap⟩ a w ⟨B++B',aj,aj,aj,λw' hw=>by
   grind⟩
abbrev Shp(s:AC)(len:Nat):Prop:=∃b off m,s.v len=.slice (some ⟨b,off,none⟩) len m/\len<=maxLen
abbrev wOf(O:Type)[aL O](nb:Nat)(s:AC)(len i:Nat):Ch:=.w nb (elB (s.v len)) (Y0 (aL.n O) i (s.v len))
theorem oe{O J:Type}[aL O](E:CO O)(j:Nat){t:TypeId}{s:AC}{i:Int}{ls:List O}{kf:O->Option J}{q:J}(hs:jE T n K cf m e L=.idx o d t s ls.length i Lv cf1 cf2 K' m' e' L')(hj:L'[j]?=some (ow s ls))(hz:eZ j cf1.yR=true)(hF:(idx ls i).bind kf=some q)
  (k:∀x,idx ls i=some x->kf x=some q->∀y:E.ex,Shp s ls.length->G (.mk P T hT n c B0 N X Q) K' (m'+1) e' (L'.set j .no++([.o (pX (s.v ls.length) ls i.toNat),.box m' (E.cs x y),wOf O m' s ls.length i.toNat]++E.Lx x y)) (cf1.ext [wOf O m' s ls.length i.toNat])):G (.mk P T hT n c B0 N X Q) K m e L cf:=by
 refine gY (g:=.mk P T hT n c B0 N X Q) ?_;rw[hs];intro x' y' ho hd hx hy hP;cases hi:idx ls i with
 |none=>grind
 |some x=>
  rw[hi] at hF;refine bMU (λ_=>m'+1) (λ_=>e') (λy:{y:E.ex // Shp s ls.length}=>L'.set j .no++([.o (pX (s.v ls.length) ls i.toNat),.box m' (E.cs x y.1),wOf O m' s ls.length i.toNat]++E.Lx x y.1)) (λ_=>[wOf O m' s ls.length i.toNat]) (λB a w hm hA hS=>?_) (λy=>aWZ hz) (λy=>k x hi hF y.1 y.2);obtain⟨⟨R,s1,s2⟩,s0⟩:=hS;have hj2:(L'.map (kP B))[j]?=some (cS [s.v ls.length] ls):=by simp[hj,kP]
  obtain⟨ec,h1⟩:=s1.open j hj2 (CZ hi).2.2;have hlen:((L'.map (kP B)).set j NY).length=L'.length:=ae
  have hsh:Shp s ls.length:=bEH (k:=i.toNat) h1 L'.length ae;obtain⟨F,hF'⟩:=h1.chunk (L'.length+2) (by rw[aU8 aa];simp;rfl);obtain⟨y,hy2⟩:=E.op (show aL.own w ec x F from hF');have h2:=h1.unpack (L'.length+2) ae (E.pk hy2);have hset:((L'.map (kP B)).set j NY++[pX (s.v ls.length) ls i.toNat,cAt (elB (s.v ls.length)) (Y0 (aL.n O) i.toNat (s.v ls.length)) ec,cS ec x]).set (L'.length+2) NY=(L'.map (kP B)).set j NY++[pX (s.v ls.length) ls i.toNat,cAt (elB (s.v ls.length)) (Y0 (aL.n O) i.toNat (s.v ls.length)) ec,NY]:=ae
  rw[hset] at h2;refine⟨⟨y,hsh⟩,[(elB (s.v ls.length),Y0 (aL.n O) i.toNat (s.v ls.length))],by simp[hm],hA.app _,⟨⟨R,?_,λz hz=>?_⟩,s0⟩,λw' M hM=>?_⟩
  ·have e1:(L'.set j Ch.no).map (kP B)=(L'.map (kP B)).set j NY:=by rw[LR];rfl
   refine h2.imp ?_;rw[xR,xR,<-e1,NX];refine jO.append (aC3 _ _) (jO.append (.cons (λ_ h=>h) (.cons (λF h=>⟨_,_,ec,aj,fB (λx v h=>by simpa using gK (B:=[]) _ h) hy2,h⟩) (.cons (λ_ h=>h) .nil))) ?_);have:=aC3 (B:=[]) (B++[(elB (s.v ls.length),Y0 (aL.n O) i.toNat (s.v ls.length))]) (w:=w) (E.Lx x y);grind
  ·rcases jG.1 hz with hz|hz
   ·rcases tY hz with hz|hz
    ·grind[aWQ]
    ·subst hz;trivial
   ·rcases jG.1 hz with hz|hz
    ·simp at hz;rcases hz with rfl|rfl|rfl
     ·trivial
     ·trivial
     ·show(B++_)[m']?=_;grind
    ·exact aO6 (E.no x y) z hz
  ·obtain⟨⟨R',t1,t2⟩,t0⟩:=hM.app [(elB (s.v ls.length),Y0 (aL.n O) i.toNat (s.v ls.length))];refine⟨⟨R',by grind[kP,aZJ],λz hz=>?_⟩,t0⟩;rcases jG.1 hz with hz|hz
   ·grind
   ·simp at hz;subst hz;show(B++_)[m']?=_;grind
theorem ie{O:Type}[aL O](p:Nat){t el sz:Nat}{s:AC}{i:Int}{ls:List O}{x:O}{nb:Nat}{b1 b2:Bool}{n1:Nat}{z1 z2:List SV}{k2:TK}(hsh:Shp s ls.length)(hs:jE T n K cf m e L=.idx o d t s ls.length i Lv cf1 cf2 K' m' e' L')(hi:idx ls i=some x)(hw:Lv[p]?=some (wOf O nb s ls.length i.toNat))(ht:AQ T t=some ⟨.sl el,b1,n1,z1⟩)(he:AQ T el=some ⟨k2,b2,sz,z2⟩)(hn:aL.n O=sz)
  (k:G (.mk P T hT n c B0 N X Q) K' m' ((d,.p nb 0)::e') L' cf2):G (.mk P T hT n c B0 N X Q) K m e L cf:=by
 refine gY (g:=.mk P T hT n c B0 N X Q) ?_;rw[hs];intro x' y' ho hd hx hy hP;subst hn;refine hP d (.p nb 0) [] (λ_=>[]) 0 hd (λ_=>rfl) (λB a w hA hS hm=>?_) (λB w L _ hS=>aj) (by grind[ext_nil]);obtain⟨v,g1,g2⟩:=eH hA hx;obtain⟨u,g3,g4⟩:=eH hA hy;cases g1;cases g3;obtain⟨⟨R,s1,s2⟩,s0⟩:=hS;have hB:B[nb]?=some (elB (s.v ls.length),Y0 (aL.n O) i.toNat (s.v ls.length)):=s2 _ (LS hw);exact⟨_,by simp[fP,gV,bZ,hB],bEI (P:=P) (o:=o) (w:=w) hsh rfl hi (GM ht hT) (hT.size _ _ he) ho g2 g4⟩
def MP:List Ch->List Nat->List Ch
 |L,[]=>L
 |L,i::r=>MP (L.set i .no) r
theorem KF{B:Bl}:∀(js:List Nat) (L:List Ch),(MP L js).map (kP B)=blank (L.map (kP B)) js
 |[],L=>rfl
 |j::js,L=>by simp only[MP,blank];rw[KF js,LR];rfl
theorem R5{x:Ch}:∀(js:List Nat) (L:List Ch),x∈MP L js->x∈L\/x=.no
 |[],L,h=>.inl h
 |j::js,L,h=>by
  rcases R5 js _ h with h|h
  ·exact tY h
  ·exact .inr h
theorem XN{g:Gx}{cf:uI}{M:List Ch}:∀(js:List Nat) {L:List Ch},(js.all λj=>eZ j cf.yR)=true->Frz g cf L (MP L js++M):=by
 intro js L hj;have main:∀{B1:Bl} {ops:Array Oper} {l:List Bool} {is:List Nat} {Lf:List Ch},(js.all λj=>eZ j is)=true->aIK g B1 ops l is Lf L->kl (MP L js++M) is=Lf/\∀j∈is,j<(MP L js++M).length:=by
  intro B1 ops l is Lf hj hD;have key:∀(js:List Nat) (L:List Ch),(js.all λj=>eZ j is)=true->(∀i∈is,i<L.length)->kl (MP L js++M) is=kl L is/\(MP L js).length=L.length:=by
   intro js;induction js with
   |nil=>
    intro L _ hr;exact⟨a5C hr,rfl⟩
   |cons j js ih=>
    intro L hj hr;simp only[aS3,GF] at hj;obtain⟨h1,h2⟩:=ih (L.set j .no) hj.2 (λi hi=>aj);refine⟨h1.trans ?_,by grind[MP]⟩;have:=aC7 (M:=[]) (z:=.no) hr hj.1;grind
  obtain⟨k1,k2⟩:=key js L hj hD.rng;exact⟨k1.trans hD.yR,λi hi=>by have:=hD.rng i hi;grind⟩
 cases cf with
 |d B1 ops l is Lf Lv=>exact λhD=>main hj hD
 |o B1 ops l is Lf Lv i=>exact λhD=>main hj hD
 |_=>trivial
def ovh(v:SV)(e:SE):List Nat->SE
 |[]=>e
 |k::ks=>(k,v)::ovh v e ks
theorem aW0{v:SV}{B:Bl}{a:Act}:∀(ks:List Nat),bA (FL e) ks=some (ks.map λ_=>v)->gR n B e a->gR n B (ovh v e ks) a:=by
 intro ks;have key:∀(ks:List Nat),bA (FL e) ks=some (ks.map λ_=>v)->∀k∈ks,FL e k=some v:=by
  intro ks;induction ks with
  |nil=>simp
  |cons s ks ih=>
   grind[bA]
 intro hs hA;have hk:=key ks hs;clear hs key;have lk2:∀k x,FL (ovh v e ks) k=some x->FL e k=some x:=by
  induction ks with
  |nil=>exact λk x h=>h
  |cons j ks ih=>
   grind[ovh,FL,pV]
 exact⟨hA.d,hA.size,λk x h=>hA.get k x (lk2 k x h)⟩
theorem R6{B:Bl}:∀{is:List Nat} {M:List Ch},bA (λi=>L[i]?) is=some M->pick (L.map (kP B)) is=M.map (kP B)
 |[],M,h=>by cases h;rfl
 |i::is,M,h=>by
  simp only[bA] at h;split at h
  ·cases h
  ·rename_i h1;split at h
   ·cases h
   ·rename_i h2;cases h;simp only[pick,B7,h1,Option.map_some,Option.getD_some,R6 h2,PY]
theorem bAT{O:Type}[aL O](E:CO O)(h b v:Nat)(is ks:List Nat){s:AC}{l:List O}{k nb:Nat}(x:O)(y:E.ex){cs0:List SV}{ec:List Value}(hs:L[h]?=some (.o (pX (s.v l.length) l k)))(hb:L[b]?=some (.box nb cs0))(hv:L[v]?=some (wOf O nb s l.length k))(hi:bA (λi=>L[i]?) is=some (E.Lx x y))(hc:nbL cs0=E.cs x y)(hec:bA (bZ []) (E.cs x y)=some ec)(ha:dE (h::b::is)=true)(hk:bA (FL e) ks=some (ks.map λ_=>.h s l.length)){B:Bl}{a:Act}{w:World}(hA:gR n B e a)(hS:mK c w B L) :
  gR n B (ovh (.h s (l.set k x).length) e ks) a/\mK c w B (MP L (h::b::is)++[ow s (l.set k x)]):=by
 have hlen:(l.set k x).length=l.length:=b9;unfold ow;rw[hlen];refine⟨aW0 ks hk hA,?_⟩;obtain⟨⟨R,s1,s2⟩,s0⟩:=hS;have hB:B[nb]?=some (elB (s.v l.length),Y0 (aL.n O) k (s.v l.length)):=s2 _ (LS hv);refine⟨⟨R,?_,λz hz=>?_⟩,s0⟩
 ·rw[xR,KF];refine s1.shift (h::b::is) ha λF hF=>?_;simp only[pick,B7,hs,hb,Option.map_some,Option.getD_some,R6 hi,E.nb] at hF;have hE:bA (bZ B) cs0=some ec:=by rw[<-R4,hc];exact fB (λx v h=>by simpa using gK (B:=[]) B h) hec
  have h2:Sep w ([pX (s.v l.length) l k,cAt (elB (s.v l.length)) (Y0 (aL.n O) k (s.v l.length)) ec]++(E.Lx x y).map (kP [])) F:=by refine Sep.imp (.cons (λ_ h=>h) (.cons (λF h=>?_) (jO.refl _))) hF;obtain⟨bb,z,vs,k1,k2,k3⟩:=h;grind
  obtain⟨F1,F2,g1,g2,gd,gF⟩:=Sep.append.1 h2;have h3:Sep w ([pX (s.v l.length) l k,cAt (elB (s.v l.length)) (Y0 (aL.n O) k (s.v l.length)) ec]++[cS ec x]) F:=Sep.append.2 ⟨F1,F2,g1,Sep.one.2 ((E.pk hec w F2).2 g2),gd,gF⟩;exact Sep.one.2 (a6R h3)
 ·rcases jG.1 hz with hz|hz
  ·rcases R5 _ _ hz with hz|hz
   ·grind
   ·subst hz;trivial
  ·simp at hz;subst hz;trivial
theorem ce{O:Type}[aL O](E:CO O)(h b v:Nat)(is ks:List Nat){s:AC}{l:List O}{k nb:Nat}(x:O)(y:E.ex){cs0:List SV}{ec:List Value}(hs:L[h]?=some (.o (pX (s.v l.length) l k)))(hb:L[b]?=some (.box nb cs0))(hv:L[v]?=some (wOf O nb s l.length k))(hi:bA (λi=>L[i]?) is=some (E.Lx x y))(hc:nbL cs0=E.cs x y)(hec:bA (bZ []) (E.cs x y)=some ec)(ha:dE (h::b::is)=true)(hz:((h::b::is).all λj=>eZ j cf.yR)=true)(hk:bA (FL e) ks=some (ks.map λ_=>.h s l.length))
  (kk:G (.mk P T hT n c B0 N X Q) K m (ovh (.h s (l.set k x).length) e ks) (MP L (h::b::is)++[ow s (l.set k x)]) cf):G (.mk P T hT n c B0 N X Q) K m e L cf:=by
 refine chg (λ_:Unit=>m) (λ_=>ovh (.h s (l.set k x).length) e ks) (λ_=>MP L (h::b::is)++[ow s (l.set k x)]) (λB a w hm hA hS=>?_) (λ_=>XN _ hz) (λ_=>kk);obtain⟨h1,h2⟩:=bAT E h b v is ks x y hs hb hv hi hc hec ha hk hA hS;simp_all
end
section
variable {P:Program} {T:TT} {hT:GJ P T} {n:Nat} {c:Ctx} {B0:Bl} {N:Act->World->Prop} {X:Nat->Act->World->Prop} {Q:Act->World->Prop} {K K':List Fr} {m m':Nat} {e e':SE} {L L':List Ch} {cf cf':uI}
theorem ceS{O:Type}[aL O](E:CO O)(h:Nat)(is ks:List Nat){s:AC}{l:List O}{k nb:Nat}(x:O)(y:E.ex){cs0:List SV}{ec:List Value}(q0_:VM (jE T n K cf m e L)=some (K',cf',m',e',L')/\L'[h]?=some (.o (pX (s.v l.length) l k))/\L'[h+1]?=some (.box nb cs0)/\L'[h+2]?=some (wOf O nb s l.length k)/\bA (λi=>L'[i]?) is=some (E.Lx x y)/\nbL cs0=E.cs x y/\bA (bZ []) (E.cs x y)=some ec/\dE (h::(h+1)::is)=true/\((h::(h+1)::is).all λj=>eZ j cf'.yR)=true/\bA (FL e') ks=some (ks.map λ_=>.h s l.length))
  (kk:G (.mk P T hT n c B0 N X Q) K' m' (ovh (.h s (l.set k x).length) e' ks) (MP L' (h::(h+1)::is)++[ow s (l.set k x)]) cf'):G (.mk P T hT n c B0 N X Q) K m e L cf:=
 let ⟨h0,hs,hb,hv,hi,hc,hec,ha,hz,hk⟩:=q0_;gY (g:=.mk P T hT n c B0 N X Q) (aN2 h0 (ce E h (h+1) (h+2) is ks x y hs hb hv hi hc hec ha hz hk kk))
theorem sF(hs:jE T n K cf m e L=.fin m' e' L')(h:∀a w,qY n c B0 m' e' L' a w->N a w):G (.mk P T hT n c B0 N X Q) K m e L cf:=
 gY (g:=.mk P T hT n c B0 N X Q) (by rw[hs];exact h)
theorem sX{id:Nat}(hs:jE T n K cf m e L=.ex id m' e' L')(h:∀a w,qY n c B0 m' e' L' a w->X id a w):G (.mk P T hT n c B0 N X Q) K m e L cf:=
 gY (g:=.mk P T hT n c B0 N X Q) (by rw[hs];exact h)
theorem sR(hs:jE T n K cf m e L=.ret m' e' L')(h:∀a w,qY n c B0 m' e' L' a w->Q a w):G (.mk P T hT n c B0 N X Q) K m e L cf:=
 gY (g:=.mk P T hT n c B0 N X Q) (by rw[hs];exact h)
theorem nxR{σ ρ υ:Type}{o:Step σ ρ}{mj:Nat}{el:σ->υ->SE}{Ll:σ->υ->List Ch}{s:σ}(u:υ)(is:List Nat)(hG:some (Step.next s)=some o)(h:asT B0.length m' e' L' is mj (el s u) (Ll s u)=some (el s u,Ll s u)):∀a w,qY n c B0 m' e' L' a w->NxP n c B0 o mj el Ll a w:=by cases hG;exact λa w hr=>⟨s,u,rfl,hr.asT is h⟩
theorem g9{π υ:Type}{eq:π->Prop}{mj:Nat}{ej:π->υ->SE}{Lj:π->υ->List Ch}{p:π}(u:υ)(is:List Nat)(hF:eq p)(h:asT B0.length m' e' L' is mj (ej p u) (Lj p u)=some (ej p u,Lj p u)):∀a w,qY n c B0 m' e' L' a w->JP n c B0 eq mj ej Lj a w:=
 λa w hr=>⟨p,u,hF,qY.asT hr is h⟩
theorem bkR{σ ρ J υ:Type}{o:Step σ ρ}{ro:ρ}{enc:J->ρ}{mj id:Nat}{ej:J->υ->SE}{Lj:J->υ->List Ch}{b:J}(u:υ)(is:List Nat)(hG:some (Step.stop (enc b))=some o)(hr:∀p,o=.stop p->p=ro)(h:asT B0.length m' e' L' is mj (ej b u) (Lj b u)=some (ej b u,Lj b u)):∀a w,qY n c B0 m' e' L' a w->BkP n c B0 ro enc mj ej Lj id X id a w:=by cases hG;have:=hr _ rfl;subst this;intro a w hr;unfold BkP;rw[aN rfl];exact⟨b,u,rfl,hr.asT is h⟩
include hT in
theorem rtR{fn:Func}{ρ ex:Type}{sv:ρ->ex->SV}{Lf:ρ->ex->List Ch}{r r':ρ}{rs:List ResultVar}{zz:Option ρ}(y:ex)(is:List Nat)(hF:zz=some r)(q0_:zz=some r'/\fn.results=rs.toArray){x:SV}(q1_:a11 T e' L' rs=some x/\nbS x=sv r' y/\B9 B0.length (sv r' y)=true/\asT B0.length m' e' L' is B0.length [] (Lf r' y)=some ([],Lf r' y)):∀a w,qY n c B0 m' e' L' a w->QS P fn c B0 sv Lf r a w:=by obtain⟨hz,hr⟩:=q0_;obtain⟨hv,hx,hk,hL⟩:=q1_;subst hz;cases hF;intro a w hr';obtain⟨B,hm,hA,hS⟩:=id hr';obtain⟨v,h1,h2⟩:=aWW hr hT hA hS hv;obtain⟨B',hm',_,hS'⟩:=hr'.asT is hL;have hB':B'=[]:=(by simp_all);subst hB';refine⟨hA.d,v,h2,y,?_,aj⟩;rw[<-hx] at hk ⊢;have:=XL hk (by rw[aNY];exact h1);grind
theorem iS{Z:Act->World->Prop}{O:Type}[aL O](E:CO O)(h:Nat)(is ks:List Nat){s:AC}{l:List O}{k nb:Nat}(x:O)(y:E.ex){cs0:List SV}{ec:List Value}(q0_:L[h]?=some (.o (pX (s.v l.length) l k))/\L[h+1]?=some (.box nb cs0)/\L[h+2]?=some (wOf O nb s l.length k)/\bA (λi=>L[i]?) is=some (E.Lx x y)/\nbL cs0=E.cs x y/\bA (bZ []) (E.cs x y)=some ec/\dE (h::(h+1)::is)=true/\bA (FL e) ks=some (ks.map λ_=>.h s l.length))
  (kk:∀a w,qY n c B0 m (ovh (.h s (l.set k x).length) e ks) (MP L (h::(h+1)::is)++[ow s (l.set k x)]) a w->Z a w):∀a w,qY n c B0 m e L a w->Z a w:=by
 obtain⟨hs,hb,hv,hi,hc,hec,ha,hk⟩:=q0_;intro a w ⟨B,hm,hA,hS⟩;obtain⟨h1,h2⟩:=bAT E h (h+1) (h+2) is ks x y hs hb hv hi hc hec ha hk hA hS;exact kk a w ⟨B,hm,h1,h2⟩
end
def wAt(n:Nat):List Ch->Option (Nat×Nat)
 |[]=>none
 |.w k b z::L=>match Nat.beq n k with
  |true=>some (b,z)
  |false=>wAt n L
 |_::L=>wAt n L
theorem XO{n b z:Nat}:∀{L:List Ch},wAt n L=some (b,z)->Ch.w n b z∈L
 |[],h=>by cases h
 |x::L,h=>by
  cases x with
  |w k b' z'=>
   simp only[wAt] at h;split at h
   ·simp_all
   ·exact B8 _ (XO h)
  |box k cs=>exact B8 _ (XO (L:=L) h)
  |ro k cs=>exact B8 _ (XO (L:=L) h)
  |o ch=>exact B8 _ (XO (L:=L) h)
  |f g=>exact B8 _ (XO (L:=L) h)
  |no=>exact B8 _ (XO (L:=L) h)
section
variable {P:Program} {T:TT} {hT:GJ P T} {n:Nat} {c:Ctx} {B0:Bl} {N:Act->World->Prop} {X:Nat->Act->World->Prop} {Q:Act->World->Prop} {K K':List Fr} {m m':Nat} {e e':SE} {L L' Lv:List Ch} {cf cf1 cf2:uI} {o:Oper} {d:Nat}
theorem dO{O:Type}[aL O](nb:Nat){t el sz:Nat}{s:AC}{i:Int}{ls:List O}{x:O}{b1 b2:Bool}{n1:Nat}{z1 z2:List SV}{k2:TK}(hsh:Shp s ls.length)(hi:idx ls i=some x)(q0_:jE T n K cf m e L=.idx o d t s ls.length i Lv cf1 cf2 K' m' e' L'/\wAt nb Lv=some (elB (s.v ls.length),Y0 (aL.n O) i.toNat (s.v ls.length))/\AQ T t=some ⟨.sl el,b1,n1,z1⟩/\AQ T el=some ⟨k2,b2,sz,z2⟩/\aL.n O=sz)
  (k:G (.mk P T hT n c B0 N X Q) K' m' ((d,.p nb 0)::e') L' cf2):G (.mk P T hT n c B0 N X Q) K m e L cf:=by
 obtain⟨hs,hw,ht,he,hn⟩:=q0_;obtain⟨p,hp⟩:=List.mem_iff_getElem?.1 (XO hw);grind[ie]
end
def JR.o{O:Type}[aL O](C:JR O)(Lx:O->C.ex->List Ch)(pk:∀{q y ec},bA (bZ []) (C.cs q y)=some ec->OP ec q ((Lx q y).map (kP [])))(no:∀q y,noF (Lx q y)=true)(nb:∀q y B,(Lx q y).map (kP B)=(Lx q y).map (kP [])):CO O:=
 ⟨C.ex,C.cs,Lx,λh=>let ⟨y,h1,_⟩:=C.ok (aL.own_rd h);⟨y,h1⟩,pk,no,nb⟩
def oI:CO Int:=cI.o (λ_ _=>[]) (λh=>by cases h;exact eB rfl) (λ_ _=>rfl) (λ_ _ _=>rfl)
def oU:CO UInt8:=cU.o (λ_ _=>[]) (λh=>by cases h;exact eB rfl) (λ_ _=>rfl) (λ_ _ _=>rfl)
theorem aGE{O:Type}[aL O][Flat O]{cs:List Value}{d:O}(h:aL.rd F0 default cs d)(w:World):aL.own w cs d F0:=Flat.own_of h
section
variable {P:Program} {T:TT} {hT:GJ P T} {n:Nat} {c:Ctx} {B0:Bl} {N:Act->World->Prop} {X:Nat->Act->World->Prop} {Q:Act->World->Prop} {K K':List Fr} {m m':Nat} {e e':SE} {L L':List Ch} {cf:uI}
variable {b:Bool} {O:Type} {A B':Option O} {q:Option O}
theorem csK{o:Operand}{x y:Code}(ss:List Nat)(hs:jE T n K cf m e L=.cond o b x y K' m' e' L')(ho:bA (FL e') ss=some (ss.map λ_=>SV.b b))(hF:(if b=true then A else B')=q)
  (k1:b=true->A=q->G (.mk P T hT n c B0 N X Q) K' m' (ovr true e' ss) L' (.c x)) (k2:b=false->B'=q->G (.mk P T hT n c B0 N X Q) K' m' (ovr false e' ss) L' (.c y)):G (.mk P T hT n c B0 N X Q) K m e L cf:=
 gY (g:=.mk P T hT n c B0 N X Q) (by
  rw[hs];intro he a w hr;have ⟨B,hm,hA,hS⟩:=hr;obtain⟨v,h1,h2⟩:=eH hA he;cases h1;refine aNV hA.env h2 (λhc=>?_) (λhc=>?_)
  ·rw[aN hc] at hF;exact k1 hc hF a w (aN3 hc ss ho hr)
  ·rw[aS aj] at hF;exact k2 hc hF a w (aN3 hc ss ho hr))
theorem caK{cf':uI}(ss:List Nat)(hs:jE T n K cf m e L=.case b cf' K' m' e' L')(ho:bA (FL e') ss=some (ss.map λ_=>SV.b b))(hF:(if b=true then A else B')=q)
  (k1:b=true->A=q->G (.mk P T hT n c B0 N X Q) K' m' (ovr true e' ss) L' cf') (k2:b=false->B'=q->G (.mk P T hT n c B0 N X Q) K' m' (ovr false e' ss) L' cf'):G (.mk P T hT n c B0 N X Q) K m e L cf:=
 gY (g:=.mk P T hT n c B0 N X Q) (by
  rw[hs];cases b with
  |true=>exact aO5 (λa B hA=>aC6 rfl ss ho hA) (k1 rfl aj)
  |false=>exact aO5 (λa B hA=>aC6 rfl ss ho hA) (k2 rfl aj))
end
section
variable {P:Program} {T:TT} {hT:GJ P T} {n:Nat} {c:Ctx} {B0:Bl} {N:Act->World->Prop} {X:Nat->Act->World->Prop} {Q:Act->World->Prop} {K K':List Fr} {m m':Nat} {e e':SE} {L L' Lv:List Ch} {cf cf1 cf2:uI} {o:Oper} {d:Nat}
theorem aW1{O:Type}[aL O]{l:List O}(L2:AC->List Ch)(hs:jE T n K cf m e L=.op o Lv cf1 cf2 K' m' e' L')(hd:o.dst=some d)(hz:∀s',Frz (.mk P T hT n c B0 N X Q) cf1 L' (L2 s'))(h:∀B a w,gR n B e' a->mK c w B L'->∃s' w',eW P o (vE B e') w (AC.v s' l.length) w'/\mK c w' B (L2 s'))
  (k:∀s':AC,G (.mk P T hT n c B0 N X Q) K' m' ((d,.h s' l.length)::e') (L2 s') cf2):G (.mk P T hT n c B0 N X Q) K m e L cf:=by
 refine gY (g:=.mk P T hT n c B0 N X Q) ?_;rw[hs];intro hdn _ hE;refine hE AC (λ_=>m') (λs'=>(d,.h s' l.length)::e') L2 hz (λB a w next Q' hm hA hS hnext=>?_) k;obtain⟨s',w',k1,k2⟩:=h _ a w hA hS;unfold Oper.wp;rw[k1 _ a hA.env,Oper.upon_value,hd];exact hnext s' _ _ ⟨[],aj,by simpa using hA.of (by simp[fP,gV,bZ]) (hA.env.put (by grind[sD,yT]) _),aj⟩
theorem aIO{O:Type}[aL O]{w:World}{A:List Chunk}{R:List Fact}{v:Value}{l:List O}(h:St c w A R)(i:Nat)(hi:A[i]?=some (cS [v] l)):∃s':AC,v=s'.v l.length:=by obtain⟨ad,cp,h2,_⟩:=aOS (h.a4I i hi);exact⟨⟨ad,cp⟩,h2⟩
section
variable {x y:Operand} {t el sz:Nat} {zv:Value} {b1:Bool} {n1:Nat} {z1:List SV}
theorem lt0{O:Type}[aL O](hinf:Inf P el sz zv)(q0_:jE T n K cf m e L=.op o Lv cf1 cf2 K' m' e' L'/\(o.op,o.dst)=(.buildSlice t 0 #[],some d)/\AQ T t=some ⟨.sl el,b1,n1,z1⟩/\aL.n O=sz)
  (k:∀s':AC,G (.mk P T hT n c B0 N X Q) K' m' ((d,.h s' ([]:List O).length)::e') (L'++[ow s' ([]:List O)]) cf2):G (.mk P T hT n c B0 N X Q) K m e L cf:=by
 obtain⟨hs,ho,ht,hn⟩:=q0_;refine aW1 (l:=([]:List O)) (λs'=>L'++[ow s' ([]:List O)]) hs (cY Prod.snd ho) (λ_=>uK _) (λB a w hA hS=>?_) k;obtain⟨⟨R,s1,s2⟩,s0⟩:=hS;obtain⟨v,w',k1,k2⟩:=bEL (O:=O) (e:=vE B e') (o:=o) s1 hn (GM ht hT) hinf (cY Prod.fst ho);obtain⟨s',rfl⟩:=aIO (v:=v) (l:=([]:List O)) k2 (L'.map (kP B)).length ae;refine⟨s',w',k1,⟨⟨R,by grind[kP],λz hz=>?_⟩,s0⟩⟩;rcases jG.1 hz with hz|hz
 ·grind
 ·simp at hz;subst hz;trivial
theorem GN{g:Gx}{cf:uI}{L:List Ch}{j:Nat}{z:Ch}(hn:eZ j cf.yR=true):Frz g cf L (L.set j z):=by have:=aWZ (g:=g) (M:=[]) (z:=z) (L:=L) hn;grind
theorem ap{O J:Type}[aL O][Flat O]{A:Option J}{q:J}{s s2:AC}{l xs:List O}(i:Nat)(hinf:Inf P el sz zv)(hs:jE T n K cf m e L=.op o Lv cf1 cf2 K' m' e' L')(ho:(o.op,o.dst)=(.call {callee:=.builtin .append,args:=#[x,y],argTypes:=#[t,t]},some d))(ht:AQ T t=some ⟨.sl el,b1,n1,z1⟩)(hn:aL.n O=sz)(hzs:zv.cells.size=sz)(hi:L'[i]?=some (ow s l))(hz:eZ i cf1.yR=true)(hsrc:∀{w},HS c w L'->bI (eJ w) s2 xs)(hx:iM e' x=some (.h s l.length))(hy:iM e' y=some (.h s2 xs.length))(hF:need (l.length+xs.length<=1073741824) A=some q)
  (k:A=some q->∀s':AC,G (.mk P T hT n c B0 N X Q) K' m' ((d,.h s' (l++xs).length)::e') (L'.set i (ow s' (l++xs))) cf2):G (.mk P T hT n c B0 N X Q) K m e L cf:=by
 refine aW1 (l:=l++xs) (λs'=>L'.set i (ow s' (l++xs))) hs (cY Prod.snd ho) (λ_=>GN hz) (λB a w hA hS=>?_) (k (m0 hF).2);have hr:bI (eJ w) s2 xs:=hsrc ⟨_,hS⟩;obtain⟨⟨R,s1,s2'⟩,s0⟩:=hS;have hj2:(L'.map (kP B))[i]?=some (cS [s.v l.length] l):=by simp[hi,kP]
 obtain⟨v,w',k1,k2⟩:=a6Q i s1 hj2 hr hn (GM ht hT) hinf hzs (m0 hF).1 (cY Prod.fst ho) (hdB hA hx) (hdB hA hy);have hlt:i<L'.length:=(JI.1 hi).1;obtain⟨s',rfl⟩:=aIO k2 i (by rw[List.getElem?_set_self aj]);refine⟨s',w',k1,⟨⟨R,?_,λz hz=>?_⟩,s0⟩⟩
 ·rw[LR];exact k2
 ·rcases tY hz with hz|hz
  ·grind
  ·subst hz;trivial
end
end
theorem aZL{O:Type}{l:List O}{i:Int}{x:O}(h:idx l i=some x):l.set i.toNat x=l:=by obtain⟨hk,h2⟩:=JI.1 (CZ h).2.2;rw[<-h2];simp
section
variable {P:Program} {T:TT} {hT:GJ P T} {n:Nat} {c:Ctx} {B0:Bl} {N:Act->World->Prop} {X:Nat->Act->World->Prop} {Q:Act->World->Prop} {K K':List Fr} {m m':Nat} {e e':SE} {L L' Lv:List Ch} {cf cf' cf1 cf2:uI} {o:Oper} {d:Nat}
theorem cqS{O:Type}[aL O](E:CO O)(h:Nat)(is:List Nat){s:AC}{l:List O}{i:Int}{nb:Nat}{x:O}(hx:idx l i=some x)(y:E.ex){cs0:List SV}{ec:List Value}(q0_:VM (jE T n K cf m e L)=some (K',cf',m',e',L')/\L'[h]?=some (.o (pX (s.v l.length) l i.toNat))/\L'[h+1]?=some (.box nb cs0)/\L'[h+2]?=some (wOf O nb s l.length i.toNat)/\bA (λi=>L'[i]?) is=some (E.Lx x y)/\nbL cs0=E.cs x y/\bA (bZ []) (E.cs x y)=some ec/\dE (h::(h+1)::is)=true/\((h::(h+1)::is).all λj=>eZ j cf'.yR)=true)
  (kk:G (.mk P T hT n c B0 N X Q) K' m' e' (MP L' (h::(h+1)::is)++[ow s l]) cf'):G (.mk P T hT n c B0 N X Q) K m e L cf:=
 let ⟨h0,hs,hb,hv,hi,hc,hec,ha,hz⟩:=q0_;ceS E h is [] x y ⟨h0,hs,hb,hv,hi,hc,hec,ha,hz,rfl⟩ (by rw[aZL hx];exact kk)
theorem fS{Z:Act->World->Prop}{O:Type}[aL O](E:CO O)(h:Nat)(is:List Nat){s:AC}{l:List O}{i:Int}{nb:Nat}{x:O}(hx:idx l i=some x)(y:E.ex){cs0:List SV}{ec:List Value}(q0_:L[h]?=some (.o (pX (s.v l.length) l i.toNat))/\L[h+1]?=some (.box nb cs0)/\L[h+2]?=some (wOf O nb s l.length i.toNat)/\bA (λi=>L[i]?) is=some (E.Lx x y)/\nbL cs0=E.cs x y/\bA (bZ []) (E.cs x y)=some ec/\dE (h::(h+1)::is)=true)
  (kk:∀a w,qY n c B0 m e (MP L (h::(h+1)::is)++[ow s l]) a w->Z a w):∀a w,qY n c B0 m e L a w->Z a w:=
 let ⟨hs,hb,hv,hi,hc,hec,ha⟩:=q0_;iS E h is [] x y ⟨hs,hb,hv,hi,hc,hec,ha,rfl⟩ (by rw[aZL hx];exact kk)
section
variable {x:Operand} {t el:Nat} {zv:Value} {b1:Bool} {n1:Nat} {z1:List SV}
theorem lt1{k:IntKind}{i:Int}(hk:k=.i64)(hinf:Inf P el 1 zv)(q0_:jE T n K cf m e L=.op o Lv cf1 cf2 K' m' e' L'/\(o.op,o.dst)=(.buildSlice t 1 #[(0,x)],some d)/\AQ T t=some ⟨.sl el,b1,n1,z1⟩/\(iM e' x).bind uH=some (k,i))
  (kk:∀s':AC,G (.mk P T hT n c B0 N X Q) K' m' ((d,.h s' [i].length)::e') (L'++[ow s' [i]]) cf2):G (.mk P T hT n c B0 N X Q) K m e L cf:=by
 obtain⟨hs,ho,ht,hx⟩:=q0_;subst hk;refine aW1 (l:=[i]) (λs'=>L'++[ow s' [i]]) hs (cY Prod.snd ho) (λ_=>uK _) (λB a w hA hS=>?_) kk;obtain⟨⟨R,s1,s2⟩,s0⟩:=hS;obtain⟨v,w',k1,k2⟩:=bEM (O:=Int) (e:=vE B e') (o:=o) i s1 rfl (GM ht hT) hinf (c0:=.int .i64 i) rfl (cY Prod.fst ho) (AT hA hx) rfl;obtain⟨s',rfl⟩:=aIO (v:=v) (l:=[i]) k2 (L'.map (kP B)).length ae;refine⟨s',w',k1,⟨⟨R,by grind[kP],λz hz=>?_⟩,s0⟩⟩;rcases jG.1 hz with hz|hz
 ·grind
 ·simp at hz;subst hz;trivial
end
end
theorem bI.sub{c:Ctx}{O:Type}[aL O]{s s':AC}{l:List O}{a b:Nat}(h:bI c s l)(hp:iJ (aL.n O) a b (s.v l.length)=s'.v ((l.take b).drop a).length)(hb:a<=b/\b<=l.length):bI c s' ((l.take b).drop a):=by have:=a1T (n:=aL.n O) rfl h hb.1 hb.2;rw[hp] at this;exact this
theorem Sep.perm{w:World}{A B:List Chunk}(h:A.Perm B):∀{F:cO},Sep w A F->Sep w B F:=by
 induction h with
 |nil=>simp
 |cons a _ ih=>exact λ⟨F1,F2,h1,h2,hd,hF⟩=>⟨F1,F2,h1,ih h2,hd,hF⟩
 |swap a b L=>
  intro F h;have h:Sep w (([b]++[a])++L) F:=h;obtain⟨F1,F2,h1,h2,hd,hF⟩:=Sep.append.1 h;exact(Sep.append (A:=[a]++[b])).2 ⟨F1,F2,h1.swap,h2,hd,hF⟩
 |trans _ _ i1 i2=>grind
theorem St.via{c:Ctx}{w:World}{A B:List Chunk}{R:List Fact}(h:St c w A R)(hs:∀F,Sep w A F->Sep w B F):St c w B R:=by obtain⟨F,S,hsep,rest⟩:=h.sep;exact⟨h.keep,⟨F,S,hs F hsep,rest⟩,h.apart⟩
structure PV where
 b:Nat
 z:Nat
 A:List Value
 V:List Value
 C:List Value
def PV.whole(p:PV):Chunk:=cAt p.b p.z (p.A++(p.V++p.C))
def PV.mid(p:PV):Chunk:=cAt p.b (p.z+p.A.length) p.V
def PV.rest(p:PV):List Chunk:=[cAt p.b p.z p.A,cAt p.b (p.z+p.A.length+p.V.length) p.C]
theorem bG4{O:Type}{a v c:O}{M R:List O}:(a::v::c::(M++R)).Perm (v::(M++(a::c::R))):=by refine(List.Perm.swap v a _).trans (List.Perm.cons v ?_);exact((List.perm_middle (a:=c)).symm.cons a).trans (List.perm_middle (a:=a)).symm
theorem bK7{w:World}:∀{ps:List PV} {F:cO},Sep w (ps.map PV.whole) F->Sep w (ps.map PV.mid++ps.flatMap PV.rest) F
 |[],F,h=>h
 |p::ps,F,h=>by obtain⟨F1,F2,h1,h2,hd,hF⟩:=h;exact Sep.perm bG4 (Sep.append.2 ⟨F1,F2,a6S h1,bK7 h2,hd,hF⟩)
theorem bK8{w:World}:∀{ps:List PV} {F:cO},Sep w (ps.map PV.mid++ps.flatMap PV.rest) F->Sep w (ps.map PV.whole) F
 |[],F,h=>h
 |p::ps,F,h=>by have h2:Sep w ([cAt p.b p.z p.A,p.mid,cAt p.b (p.z+p.A.length+p.V.length) p.C]++(ps.map PV.mid++ps.flatMap PV.rest)) F:=Sep.perm (bG4 (M:=ps.map PV.mid) (R:=ps.flatMap PV.rest)).symm h;obtain⟨F1,F2,h1,h3,hd,hF⟩:=Sep.append.1 h2;exact⟨F1,F2,a9J h1,bK8 h3,hd,hF⟩
theorem St.bG5{c:Ctx}{w:World}{A M:List Chunk}{R:List Fact}(h:St c w (A++M) R)(s0:∀b o,c.S0 b o->b<c.w0.heap.size) :
  ∃U:Ctx,U.w0=w/\(∀b o,U.S0 b o->b<w.heap.size)/\St U w A []/\(∀f:Fact,f.P c.S0 c.w0->f.P U.S0 w)/\(∀f∈R,f.P U.S0 w) /\
   (∀ch∈M,∀f:Fact,(∀w F,ch.P w F->f.P F w)->f.P U.S0 w)/\∀w' A' R',St U w' A' R'->St c w' (A'++M) R:=by
 obtain⟨F,S,hsep,hFS,hFW,hSS,hSlt,hR⟩:=h.sep;obtain⟨F1,F2,h1,h2,hd,hF⟩:=Sep.append.1 hsep;have hk0:c.w0.heap.size<=w.heap.size:=h.keep.size;have h1S0:∀b o,F1 b o->c.S0 b o->False:=λb o p q=>by
  rcases hFW b o ((hF b o).2 (.inl p)) with hw|hw
  ·exact h.apart b o hw q
  grind
 have hlt:∀b o,(S b o\/F2 b o)\/c.S0 b o->b<w.heap.size:=by
  rintro b o ((q|q)|q)
  ·grind
  ·exact Sep.lt h2 q
  grind
 have hap:∀b o,F1 b o->((S b o\/F2 b o)\/c.S0 b o)->False:=by
  rintro b o p ((q|q)|q)
  ·exact hFS b o ((hF b o).2 (.inl p)) q
  ·exact hd b o p q
  grind
 refine⟨⟨w,F1,λb o=>(S b o\/F2 b o)\/c.S0 b o⟩,rfl,hlt,⟨eC.refl _ _,⟨F1,λb o=>(S b o\/F2 b o)\/c.S0 b o,h1,hap,λ_ _ h=>.inl h,λ_ _ h=>.inl h,hlt,ae⟩,hap⟩,λf hf=>?_,λf hf=>f.mono (hR f hf) λb o q=>.inl (.inl q),λch hch f hf=>?_,?_⟩
 ·exact f.mono (f.agree hf λb o q=>h.keep.cell b o (s0 b o q) λhw=>h.apart b o hw q) λb o q=>.inr q
 ·obtain⟨j,hj⟩:=aKL hch;obtain⟨G1,G2,g1,_,_,gF⟩:=(Sep.take hj).1 h2;exact f.mono (hf w G1 g1) λb o q=>.inl (.inr ((gF b o).2 (.inl q)))
 ·intro w' A' R' k;obtain⟨F',S',b1,b2,b3,b4,b5,b6⟩:=k.sep;have hk:eC F1 w w':=k.keep;have hGW:∀b o,b<c.w0.heap.size->F1 b o->c.W b o:=λb o hb g=>aj
  refine⟨h.keep.trans hk hGW,⟨λb o=>F' b o\/F2 b o,S,Sep.append.2 ⟨F',F2,b1,Sep.keep hk h2 λb o hf g=>hd b o g hf,?_,λ_ _=>Iff.rfl⟩,?_,?_,hSS,λb o hS=>PZ (hSlt b o hS) hk.size,?_⟩,h.apart⟩
  ·intro b o hg hf;grind
  ·rintro b o (hf|hf) hS
   ·grind
   ·exact hFS b o ((hF b o).2 (.inr hf)) hS
  ·grind
  ·intro f hf;exact f.agree (hR f hf) λb o hS=>hk.cell b o (hSlt b o hS) λg=>hFS b o ((hF b o).2 (.inl g)) hS
abbrev PS:=List (Nat×Nat×Nat×Nat)
def aW2:Nat->List (List SV)->List Ch
 |_,[]=>[]
 |k,c::r=>.box k c::aW2 (k+1) r
def R7(L:List Ch)(i n:Nat):List SV:=match L[i]? with
 |some (.box k cs)=>match Nat.beq n k with
  |true=>cs
  |false=>[]
 |_=>[]
def aO9(L:List Ch):PS->Option (List (List SV))
 |[]=>some []
 |(i,n,o,k)::r=>match Nat.ble (o + k) (R7 L i n).length,Nat.ble 1 k,frc (((R7 L i n).drop o).take k),aO9 L r with
  |true,true,some d,some ds=>some (d::ds)
  |_,_,_,_=>none
def RQ(L M:List Ch):PS->List (List SV)->List Ch
 |(i,n,o,_)::r,c::cs=>RQ L (M.set i (.box n (ovw (R7 L i n) o c))) r cs
 |_,_=>M
def JE:PS->List Nat
 |[]=>[]
 |p::r=>p.1::JE r
def rnP:PS->Nat->SV->Option SV
 |[],_,x=>match B9 0 x with
  |true=>some x
  |false=>none
 |(_,n,o,_)::r,j,x=>match x with
  |.p n' o'=>match Nat.beq n n',Nat.beq o o' with
   |true,true=>some (.p j 0)
   |_,_=>rnP r (j+1) (.p n' o')
  |x=>rnP r (j+1) x
structure HG (c U:Ctx) (L:List Ch) (js:List Nat):Prop where
 a:∀{O:Type} [aL O] {s:AC} {d:List O},bI c s d->bI U s d
 o:∀{O:Type} [aL O] {s:AC} {d:List O} (i:Nat),L[i]?=some (ow s d)->eZ i js=true->bI U s d
 f:∀{O:Type} [aL O] {s:AC} {d:List O} (i:Nat),L[i]?=some (fr s d)->bI U s d
def PvR(B:Bl)(L:List Ch):PS->List (List SV)->List PV->Prop
 |[],[],[]=>True
 |(i,n,o,k)::r,d::ds,p::ps=>(∃cs vs,L[i]?=some (.box n cs)/\B[n]?=some (p.b,p.z)/\bA (bZ B) cs=some vs/\o+k<=cs.length/\p.A=vs.take o/\p.V=(vs.drop o).take k/\p.C=vs.drop (o+k)/\d=(cs.drop o).take k)/\PvR B L r ds ps
 |_,_,_=>False
def blP(pv:List PV):Bl:=pv.map λp=>(p.b,p.z+p.A.length)
section
variable {c:Ctx} {w:World} {B:Bl} {L:List Ch} {R:List Fact}
theorem aZM{i n:Nat}{x:SV}{r:List SV}(h:R7 L i n=x::r):L[i]?=some (.box n (x::r)):=by
 unfold R7 at h;split at h
 ·rename_i k cs hk;grind[pV]
 ·cases h
theorem bG6(hS:St c w (L.map (kP B)) R):∀{ps:PS} {ds:List (List SV)},aO9 L ps=some ds->∃pv,PvR B L ps ds pv
 |[],ds,h=>by cases h;exact⟨[],trivial⟩
 |(i,n,o,k)::r,ds,h=>by
  simp only[aO9] at h;split at h
  ·rename_i d ds' h1 h2 h3 h4;cases h;have h1:=YY h1;have h2:=YY h2;obtain⟨pv,hpv⟩:=bG6 hS h4;have h3:=XJ h3;subst h3;cases hc:R7 L i n with
   |nil=>grind
   |cons x cs=>
    have hL:=aZM hc;obtain⟨F,b,z,vs,g1,g2,g3⟩:=hS.chunk (ch:=aF5 B n (x::cs)) i (by simp[hL,kP]);exact⟨⟨b,z,vs.take o,(vs.drop o).take k,vs.drop (o+k)⟩::pv,⟨x::cs,vs,hL,g1,g2,aj,rfl,rfl,rfl,ae⟩,hpv⟩
  ·cases h
theorem parts{vs:List Value}{o k:Nat}:vs.take o++((vs.drop o).take k++vs.drop (o+k))=vs:=by grind[List.drop_drop,aDY]
theorem a5D{F:cO}:∀{ps:PS} {ds:List (List SV)} {pv:List PV} {F:cO},PvR B L ps ds pv->Sep w (pick (L.map (kP B)) (JE ps)) F->Sep w (pv.map PV.whole) F
 |[],[],[],F,_,h=>h
 |(i,n,o,k)::r,d::ds,p::ps,F,⟨⟨cs,vs,h1,h2,h3,h4,h5,h6,h7,h8⟩,hr⟩,h=>by simp only[JE,pick,B7,h1,Option.map_some,Option.getD_some] at h;obtain⟨F1,F2,g1,g2,gd,gF⟩:=h;refine⟨F1,F2,?_,a5D (F:=F) hr g2,gd,gF⟩;obtain⟨b,z,vs',k1,k2,k3⟩:=g1;grind[PV.whole,parts]
theorem a19{Bs:Bl}{p:PV}{ps:List PV}{j:Nat}(h:∀i,Bs[j+i]?=(blP (p::ps))[i]?):Bs[j]?=some (p.b,p.z+p.A.length)/\∀i,Bs[j+1+i]?=(blP ps)[i]?:=by
 refine⟨?_,λi=>?_⟩
 ·have:=h 0;grind[blP]
 ·have:=h (i+1);grind[blP]
theorem bAV{Bs:Bl}:∀{ps:PS} {ds:List (List SV)} {pv:List PV} {j:Nat} {F:cO},PvR B L ps ds pv->ds.all (B9.okC 0)=true->(∀i,Bs[j+i]?=(blP pv)[i]?)->Sep w (pv.map PV.mid) F->Sep w ((aW2 j ds).map (kP Bs)) F
 |[],[],[],_,F,_,_,_,h=>h
 |(i,n,o,k)::r,d::ds,p::ps,j,F,⟨⟨cs,vs,h1,h2,h3,h4,h5,h6,h7,h8⟩,hr⟩,ho,hB,h=>by
  simp only[aS3,GF] at ho;obtain⟨F1,F2,g1,g2,gd,gF⟩:=h;obtain⟨b1,b2⟩:=a19 hB;refine⟨F1,F2,⟨p.b,p.z+p.A.length,p.V,b1,?_,g1⟩,bAV hr ho.2 b2 g2,gd,gF⟩;have e1:bA (bZ B) d=some p.V:=by grind[aC2,aC1]
  have e2:=GL ho.1 e1;rw[List.take_zero] at e2;exact fB (λx v h=>by simpa using gK (B:=[]) Bs h) e2
theorem a2A{Bs:Bl}:∀{ps:PS} {ds:List (List SV)} {pv:List PV} {j:Nat} {x x':SV} {v:Value},PvR B L ps ds pv->(∀i,Bs[j+i]?=(blP pv)[i]?)->rnP ps j x=some x'->fP B x=some v->fP Bs x'=some v
 |[],[],[],j,x,x',v,_,_,hx,hv=>by
  simp only[rnP] at hx;split at hx
  ·rename_i h0;cases hx;have:=XL h0 hv;rw[List.take_zero] at this;simpa using xU (B:=[]) Bs this
  ·cases hx
 |(i,n,o,k)::r,d::ds,p::ps,j,x,x',v,⟨⟨cs,vs,h1,h2,h3,h4,h5,h6,h7,h8⟩,hr⟩,hB,hx,hv=>by
  obtain⟨b1,b2⟩:=a19 hB;simp only[rnP] at hx;split at hx
  ·rename_i n' o';split at hx
   ·rename_i e1 e2;cases hx;have e1:=pV e1;have e2:=pV e2;subst e1;subst e2;simp only[fP,gV,bZ,h2] at hv;have hA:p.A.length=o:=by grind[mL]
    simp_all[fP,gV,bZ]
   ·exact a2A hr b2 hx hv
  ·exact a2A hr b2 hx hv
theorem aW3{Bs:Bl}{ps:PS}{ds:List (List SV)}{pv:List PV}(hr:PvR B L ps ds pv)(hB:∀i,Bs[0+i]?=(blP pv)[i]?):∀{xs xs':List SV} {vs:List Value},bA (rnP ps 0) xs=some xs'->bA (fP B) xs=some vs->bA (fP Bs) xs'=some vs
 |[],_,_,h,hv=>by cases h;exact hv
 |x::xs,xs',vs,h,hv=>by
  simp only[bA] at h hv;split at h
  ·cases h
  ·rename_i h1;split at h
   ·cases h
   ·rename_i h2;cases h;split at hv
    ·cases hv
    ·rename_i v1;split at hv
     ·cases hv
     ·rename_i v2;cases hv;simp only[bA,a2A hr hB h1 v1,aW3 hr hB h2 v2]
def PvN(B:Bl):List PV->List (List SV)->List PV->Prop
 |[],[],[]=>True
 |p::ps,d::ds,q::qs=>(q.b=p.b/\q.z=p.z/\q.A=p.A/\q.C=p.C/\q.V.length=p.V.length/\bA (bZ B) d=some q.V)/\PvN B ps ds qs
 |_,_,_=>False
theorem aZN:∀{ps:List PV} {ds:List (List SV)} {qs:List PV},PvN B ps ds qs->qs.flatMap PV.rest=ps.flatMap PV.rest/\blP qs=blP ps
 |[],[],[],_=>⟨rfl,rfl⟩
 |p::ps,d::ds,q::qs,⟨⟨h1,h2,h3,h4,h5,h6⟩,hr⟩=>by obtain⟨e1,e2⟩:=aZN hr;simp_all[PV.rest,blP]
def aGF:PS->List (List SV)->Bool
 |[],[]=>true
 |(_,_,_,k)::r,d::ds=>match Nat.beq d.length k with
  |true=>aGF r ds
  |false=>false
 |_,_=>false
theorem bAW:∀{ps:PS} {ds:List (List SV)} {pv:List PV},PvR B L ps ds pv->pv.length=ps.length
 |[],[],[],_=>rfl
 |(i,n,o,k)::r,d::ds,p::ps,⟨_,hr⟩=>by simp[bAW hr]
theorem a5E{Bs:Bl}:∀{ps:PS} {ds:List (List SV)} {pv:List PV} {es:List (List SV)} {j:Nat},PvR B L ps ds pv->aGF ps es=true->es.all (B9.okC 0)=true->(∀i,Bs[j+i]?=(blP pv)[i]?)->(∀i cs,es[i]?=some cs->∃F,(aF5 Bs (j+i) cs).P w F)->∃qs,PvN B pv es qs/\jO w ((aW2 j es).map (kP Bs)) (qs.map PV.mid)
 |[],[],[],[],j,_,_,_,_,_=>⟨[],trivial,.nil⟩
 |[],[],[],e::es,j,_,hl,_,_,_=>by grind[aGF]
 |(i,n,o,k)::r,d::ds,p::ps,[],j,_,hl,_,_,_=>by grind[aGF]
 |(i,n,o,k)::r,d::ds,p::ps,e::es,j,⟨⟨cs,vs,h1,h2,h3,h4,h5,h6,h7,h8⟩,hr⟩,hl,ho,hB,hc=>by
  simp only[aGF] at hl;split at hl
  ·rename_i he;have he:=pV he;simp only[aS3,GF] at ho;obtain⟨b1,b2⟩:=a19 hB;obtain⟨qs,q1,q2⟩:=a5E hr hl ho.2 b2 λi cs hi=>by have:=hc (i+1) cs aj;grind
   obtain⟨F,b,z,us,g1,g2,g3⟩:=hc 0 e rfl;have hlen:=mL h3;have g4:=GL ho.1 g2;rw[List.take_zero] at g4;refine⟨⟨p.b,p.z,p.A,us,p.C⟩::qs,⟨⟨rfl,rfl,rfl,rfl,?_,fB (λx v h=>by simpa using gK (B:=[]) B h) g4⟩,q1⟩,.cons (λF hF=>?_) q2⟩
   ·grind[mL]
   ·obtain⟨b',z',us',k1,k2,k3⟩:=hF;rw[show j=j+0 by omega] at b1;simp only[aDZ] at g2 k2 k1 b1;rw[b1] at k1;cases k1;rw[g2] at k2;cases k2;exact k3
  ·cases hl
theorem aPA:∀{ws vs:List Value} {o:Nat},o+ws.length<=vs.length->aFZ vs o ws=vs.take o++(ws++vs.drop (o+ws.length))
 |[],vs,o,h=>by simp[aFZ]
 |x::ws,vs,o,h=>by
  simp only[aDX] at h;simp only[aFZ];rw[aPA ah];have t1:(vs.set o x).take (o+1)=vs.take o++[x]:=by rw[List.take_add_one,List.getElem?_set_self aa];grind[List.take_set,List.set_eq_of_length_le]
  grind[List.drop_set_of_lt]
theorem bAX:∀{ps:PS} {ds es:List (List SV)} {pv qs:List PV} {M:List Ch} {F:cO},PvR B L ps ds pv->PvN B pv es qs->(∀i∈JE ps,M[i]?=some .no)->dE (JE ps)=true->Sep w (qs.map PV.whole++M.map (kP B)) F->Sep w ((RQ L M ps es).map (kP B)) F
 |[],[],[],[],[],M,F,_,_,_,_,h=>h
 |(i,n,o,k)::r,d::ds,e::es,p::ps,q::qs,M,F,⟨⟨cs,vs,h1,h2,h3,h4,h5,h6,h7,h8⟩,hr⟩,⟨⟨n1,n2,n3,n4,n5,n6⟩,hn⟩,hM,ha,h=>by
  simp only[JE,dE,GF] at ha;have hi:M[i]?=some .no:=hM i (by simp[JE]);have hlt:i<M.length:=(JI.1 hi).1;simp only[RQ];refine bAX (ps:=r) (ds:=ds) (es:=es) (pv:=ps) (qs:=qs) hr hn (λj hj=>?_) ha.2 ?_
  ·have hne:i≠j:=λe=>by subst e;have:=aS4.1 ha.1 _ hj;simp at this
   grind[JE]
  ·have h9:Sep w (qs.map PV.whole++(q.whole::M.map (kP B))) F:=Sep.perm List.perm_middle.symm h;obtain⟨F1,F2,g1,g2,gd,gF⟩:=Sep.append.1 h9;refine Sep.append.2 ⟨F1,F2,g1,?_,gd,gF⟩;have hc:R7 L i n=cs:=by simp_all[R7]
   have e0:(M.map (kP B)).set i NY=M.map (kP B):=by
    have:(M.map (kP B))[i]?=some NY:=by simp[hi,kP]
    grind[aVB]
   have e1:Sep w ((M.map (kP B)).set i q.whole) F2:=Sep.put aj aj;rw[LR,hc];refine Sep.imp ?_ e1;refine jO.set i (jO.refl _) λF hF=>⟨p.b,p.z,q.A++(q.V++q.C),h2,?_,by rw[<-n1,<-n2];exact hF⟩;have hlen:=mL h3;have hV:p.V.length=k:=aj
   have hVe:e.length=k:=by grind[mL]
   simp_all[aOY,aF4,aPA]
 |[],[],e::es,[],_,M,F,_,hn,_,_,_=>by grind[PvN]
 |[],[],[],[],q::qs,M,F,_,hn,_,_,_=>by grind[PvN]
 |(i,n,o,k)::r,d::ds,[],p::ps,qs,M,F,_,hn,_,_,_=>by grind[PvN]
 |(i,n,o,k)::r,d::ds,e::es,p::ps,[],M,F,_,hn,_,_,_=>by grind[PvN]
theorem aZO{x:Ch}:∀{ps:PS} {es:List (List SV)} {M:List Ch},x∈RQ L M ps es->x∈M\/∃n cs,x=.box n cs
 |[],_,M,h=>.inl (by simpa[RQ] using h)
 |(i,n,o,k)::r,[],M,h=>.inl (by simpa[RQ] using h)
 |(i,n,o,k)::r,e::es,M,h=>by
  rcases aZO (ps:=r) (es:=es) (by simpa[RQ] using h) with h|h
  ·rcases tY h with h|h
   ·exact .inl h
   ·exact .inr ⟨_,_,h⟩
  ·exact .inr h
end
def cpS:Stop->Option (Oper×Option Nat×FuncId×List SV×uI×uI×List Fr×Nat×SE×List Ch)
 |.call o d f xs cf cf' K m e L=>some (o,d,f,xs,cf,cf',K,m,e,L)
 |.callp o d f xs cf cf' K m e L=>some (o,d,f,xs,cf,cf',K,m,e,L)
 |_=>none
def dse(d:Option Nat)(v:SV)(e:SE):SE:=match d with
 |some d=>(d,v)::e
 |none=>e
def JF:List Ch->Bool
 |[]=>true
 |.o _::L=>JF L
 |_::_=>false
theorem aA5{B B':Bl}:∀{L:List Ch},JF L=true->L.map (kP B)=L.map (kP B')
 |[],_=>rfl
 |.o c::L,h=>by simp only[PY,kP];rw[aA5 (L:=L) h]
theorem aA6{B:Bl}{R:List Fact}:∀{L:List Ch},JF L=true->∀x∈L,roF B R x
 |[],_,x,hx=>by cases hx
 |.o c::L,h,x,hx=>by
  rcases xS.1 hx with hx|hx
  ·subst hx;trivial
  ·exact aA6 (L:=L) h x hx
theorem aZP{B:Bl}{R:List Fact}:∀{cs:List (List SV)} {k:Nat},∀x∈aW2 k cs,roF B R x
 |[],k,x,hx=>by cases hx
 |c::cs,k,x,hx=>by
  rcases xS.1 hx with hx|hx
  ·subst hx;trivial
  ·exact aZP x hx
theorem aPB:∀{cs:List (List SV)} {k i:Nat} {c:List SV},cs[i]?=some c->(aW2 k cs)[i]?=some (.box (k+i) c)
 |c'::cs,k,0,c,h=>by simp at h;subst h;rfl
 |c'::cs,k,i + 1,c,h=>by have:=aPB (k:=k+1) (show cs[i]?=some c by grind);grind[aW2]
theorem aGG{L:List Chunk}:∀{a b:List Nat},pick L (a++b)=pick L a++pick L b
 |[],b=>rfl
 |i::a,b=>by simp only[aDW,pick,aGG (a:=a)]
theorem aN5:∀{js:List Nat} {L:List Ch},(MP L js).length=L.length
 |[],L=>rfl
 |j::js,L=>by simp only[MP];rw[aN5];simp
theorem bAY:∀{js:List Nat} {L:List Ch} {i:Nat},i<L.length->L[i]?=some .no\/i∈js->(MP L js)[i]?=some .no
 |[],L,i,_,h=>by rcases h with h|h;exact h;cases h
 |j::js,L,i,hl,h=>by simp only[MP];refine bAY aj ?_;grind
theorem bAZ{B:Bl}{L:List Ch}:∀{ps:PS} {ds:List (List SV)} {pv:List PV},PvR B L ps ds pv->∀i∈JE ps,i<L.length
 |[],[],[],_,i,h=>by cases h
 |(i,n,o,k)::r,d::ds,p::ps,⟨⟨cs,vs,h1,_⟩,hr⟩,j,h=>by
  rcases xS.1 h with h|h
  ·grind
  ·exact bAZ hr j h
theorem a5F:∀{a b:List Nat},dE (a++b)=true->dE a=true
 |[],b,_=>rfl
 |i::a,b,h=>by simp only[aDW,dE,GF,List.all_append] at h ⊢;exact⟨h.1.1,a5F h.2⟩
theorem aZQ{g:Gx}{cf:uI}{L M:List Ch}{j:Nat}{z:Ch}(h:Frz g cf L M)(hn:eZ j cf.yR=true):Frz g cf L (M.set j z):=by
 cases cf with
 |d B1 ops l is Lf Lv=>
  intro hD;obtain⟨h1,h2⟩:=h hD;have:=aC7 (L:=M) (M:=[]) (j:=j) (z:=z) h2 hn;grind
 |o B1 ops l is Lf Lv ii=>
  intro hD;obtain⟨h1,h2⟩:=h hD;have:=aC7 (L:=M) (M:=[]) (j:=j) (z:=z) h2 hn;grind
 |_=>trivial
theorem aZR{g:Gx}{cf:uI}{L L0:List Ch}:∀{ps:PS} {es:List (List SV)} {M:List Ch},Frz g cf L M->((JE ps).all λj=>eZ j cf.yR)=true->Frz g cf L (RQ L0 M ps es)
 |[],_,M,h,_=>by grind[RQ]
 |(i,n,o,k)::r,[],M,h,_=>by grind[RQ]
 |(i,n,o,k)::r,e::es,M,h,hz=>by simp only[JE,aS3,GF] at hz;exact aZR (ps:=r) (es:=es) (aZQ h hz.1) hz.2
theorem aIP{i:Nat}:∀{js:List Nat},eZ i js=true->(js.all λj=>!Nat.beq j i)=true
 |[],_=>rfl
 |j::js,h=>by
  simp only[eZ] at h;split at h
  ·cases h
  ·rename_i hb;simp only[aS3,GF,Bool.not_eq_true'];refine⟨?_,aIP h⟩;grind[pV]
theorem bA0{g:Gx}{s:Stop}{o:Oper}{d:Option Nat}{f:FuncId}{xs:List SV}{cf cf':uI}{K:List Fr}{m:Nat}{e:SE}{L:List Ch}(hs:cpS s=some (o,d,f,xs,cf,cf',K,m,e,L))
  (h:∀fo args ats,o.op=.call {callee:=.value fo,args:=args,argTypes:=ats}->o.dst=d->iM e fo=some (.f f [])->(∃ys,bA (iM e) args.toList=some ys/\nbA ys=xs)->sD g.n d=true->aKS g K m e L o cf cf'->G g K m e L cf):Gs g s:=by
 cases s<;>simp only[cpS] at hs<;>cases hs
 ·exact λfo args ats a1 a2 a3 a4 _ a6 a7=>h fo args ats a1 a2 a3 a4 a6 a7
 ·exact h
section
variable {P:Program} {T:TT} {hT:GJ P T} {n:Nat} {c:Ctx} {B0:Bl} {N:Act->World->Prop} {X:Nat->Act->World->Prop} {Q:Act->World->Prop} {K K':List Fr} {m m':Nat} {e e':SE} {L L':List Ch} {cf cf1 cf2:uI} {o:Oper}
theorem cwk{O J ex:Type}{fo:Option O}{kf:O->Option J}{q:J}{d:Option Nat}{f:FuncId}{xs xs0:List SV}{cs0:List (List SV)}{M:List Ch}{sv:O->ex->SV}{cb:O->ex->List (List SV)}{Lr:O->ex->List Ch}(ps:PS)(is:List Nat)
  (hs:cpS (jE T n K cf m e L)=some (o,d,f,xs,cf1,cf2,K',m',e',L')) (hb:aO9 L' ps=some cs0) (hi:bA (λi=>L'[i]?) is=some M) (hx:bA (rnP ps 0) xs=some xs0)
  (hk:(JF M && (cs0.all (B9.okC 0) && (dE (JE ps++is) && (JE ps++is).all λj=>eZ j cf1.yR)))=true)
  (hn:∀x y,(aGF ps (cb x y) && ((cb x y).all (B9.okC 0) && (JF (Lr x y) && B9 0 (sv x y))))=true)
  (hc:∀{U:Ctx},HG c U L' (JE ps++is)->∀{Bs:Bl},Bs.length=ps.length->∀{x},fo=some x->FnS P f U xs0 Bs (aW2 0 cs0++M) sv (λx y=>aW2 0 (cb x y)++Lr x y) x)
  (hF:fo.bind kf=some q)
  (k:∀x,fo=some x->kf x=some q->∀y:ex,G (.mk P T hT n c B0 N X Q) K' m' (dse d (sv x y) e') (RQ L' (MP L' (JE ps++is)++Lr x y) ps (cb x y)) cf2):G (.mk P T hT n c B0 N X Q) K m e L cf:=by
 refine gY (g:=.mk P T hT n c B0 N X Q) (bA0 hs ?_);intro fo' args ats ho hd hf ⟨ys,hys,hxs⟩ hdn hE;simp only[GF] at hk hn;obtain⟨hkM,hkc,hka,hkz⟩:=hk;cases hfo:fo with
 |none=>grind
 |some x=>
  rw[hfo] at hF;have hz2:((JE ps).all λj=>eZ j cf1.yR)=true:=aj
  refine hE ex (λ_=>m') (λy=>dse d (sv x y) e') (λy=>RQ L' (MP L' (JE ps++is)++Lr x y) ps (cb x y)) (λy=>aZR (XN _ hkz) hz2) (λB a w next Q' hm hA hS hnext=>?_) (k x hfo hF);generalize hBB:B0S (.mk P T hT n c B0 N X Q) cf1++B=BB at hm hA hS hnext;obtain⟨⟨R,s1,s2⟩,s0⟩:=hS;obtain⟨pv,hpv⟩:=bG6 s1 hb;have hBs:(blP pv).length=ps.length:=by grind[blP,bAW]
  have hB0:∀i,(blP pv)[0+i]?=(blP pv)[i]?:=λi=>ae
  have f1:=s1.front (JE ps++is) hka;have f2:St c w ((pv.map PV.mid++M.map (kP BB))++(pv.flatMap PV.rest++blank (L'.map (kP BB)) (JE ps++is))) R:=by refine f1.via λF h=>?_;rw[aGG,R6 hi] at h;obtain⟨F1,F2,g1,g2,gd,gF⟩:=Sep.append.1 h;obtain⟨F3,F4,g3,g4,gd2,gF2⟩:=Sep.append.1 g1;have g5:=bK7 (a5D (F:=F) hpv g3);have g6:Sep w (((pv.map PV.mid++pv.flatMap PV.rest)++M.map (kP BB))++blank (L'.map (kP BB)) (JE ps++is)) F:=Sep.append.2 ⟨F1,F2,Sep.append.2 ⟨F3,F4,g5,g4,gd2,gF2⟩,g2,gd,gF⟩;refine Sep.perm ?_ g6;grind[List.Perm.append_left,List.Perm.append_right,List.perm_append_comm]
  obtain⟨U,k1,k2,k3,k4,k5,k6,k7⟩:=f2.bG5 s0;subst k1;have hHG:HG c U L' (JE ps++is):=by
   refine⟨λ{O} _ {s d} h=>k4 (fRd [s.v d.length] d) h,λ{O} _ {s d} i hi hj=>?_,λ{O} _ {s d} i hi=>k5 _ (s2 _ (LS hi))⟩;have:(blank (L'.map (kP BB)) (JE ps++is))[i]?=some (cS [s.v d.length] d):=by rw[aII (aIP hj),B7,hi];rfl
   exact k6 _ (List.mem_append_right _ (LS this)) (fRd [s.v d.length] d) λw F h=>aL.own_rd h
  obtain⟨hcall,hrun⟩:=hc hHG hBs hfo;obtain⟨vs,h1,h2⟩:=aGB hA hys;obtain⟨v,h3,h4⟩:=eH hA hf;simp[fP,bA] at h3;subst h3;have h1':bA (fP BB) xs=some vs:=by grind[XM]
  have hst:mK U U.w0 (blP pv) (aW2 0 cs0++M):=by
   refine⟨⟨[],?_,λx hx=>?_⟩,k2⟩
   ·rw[xR,aA5 (B':=BB) hkM];refine k3.via λF h=>?_;grind[Sep.append,bAV]
   grind[aZP,aA6]
  have h5:=hrun vs (aW3 hpv hB0 hx h1') hst;have h6:=aA4 (w:=U.w0) hcall ho h4 h2;unfold Oper.wp;rw[h6 _ a hA.env,Oper.upon_enter];refine Calls.mono h5 λen w' ⟨v,hv,y,g1,g2⟩=>?_;subst hv;obtain⟨n1,n2,n3,n4⟩:=hn x y;have g3:=xU BB (aVO n4 g1);rw[aVA] at g3;obtain⟨⟨R',t1,t2⟩,t0⟩:=g2;obtain⟨qs,q1,q2⟩:=a5E (w:=w') hpv n1 n2 hB0 λi cs hi=>t1.chunk (ch:=aF5 (blP pv) (0+i) cs) i (by
   rw[B7,List.getElem?_append_left (by
    have:=(JI.1 (aPB (k:=0) hi)).1;exact this),aPB hi];rfl)
  obtain⟨e1,e2⟩:=aZN q1;have t3:St U w' (qs.map PV.mid++(Lr x y).map (kP BB)) R':=by refine t1.imp ?_;grind[aA5,jO.append,jO.refl]
  have t4:=k7 w' _ R' t3;have t5:St c w' ((RQ L' (MP L' (JE ps++is)++Lr x y) ps (cb x y)).map (kP BB)) R:=by
   refine t4.via λF h=>?_;refine bAX hpv q1 (λi hi=>?_) (a5F hka) ?_
   ·grind[bAZ,aN5,bAY]
   ·rw[xR,KF];have h7:Sep w' ((qs.map PV.mid++qs.flatMap PV.rest)++(blank (L'.map (kP BB)) (JE ps++is)++(Lr x y).map (kP BB))) F:=by rw[e1];refine Sep.perm ?_ h;grind[List.Perm.append_left,List.perm_append_comm]
    grind[Sep.append,bK8]
  have t6:mK c w' BB (RQ L' (MP L' (JE ps++is)++Lr x y) ps (cb x y)):=by
   refine⟨⟨R,t5,λz hz=>?_⟩,s0⟩;rcases aZO hz with hz|⟨_,_,hz⟩
   ·rcases jG.1 hz with hz|hz
    ·rcases R5 _ _ hz with hz|hz
     ·grind
     ·subst hz;trivial
    grind[aA6]
   ·subst hz;trivial
  rw[hd];cases d with
  |none=>exact hnext y _ _ ⟨[],aj,by grind[dse,Act.put],aj⟩
  |some d=>exact hnext y _ _ ⟨[],aj,by simpa[dse] using hA.of g3 (hA.env.put (by grind[sD,yT]) v),aj⟩
end
section
variable {P:Program} {T:TT} {hT:GJ P T} {n:Nat} {c:Ctx} {B0:Bl} {N:Act->World->Prop} {X:Nat->Act->World->Prop} {Q:Act->World->Prop} {K K':List Fr} {m m':Nat} {e e':SE} {L L' Lv:List Ch} {cf cf' cf1 cf2:uI} {o:Oper}
section
variable {O J ex:Type} {fo:Option O} {kf:O->Option J} {q:J} {d:Option Nat} {f:FuncId} {xs xs0:List SV} {M:List Ch} {sv:O->ex->SV} {Lr:O->ex->List Ch}
theorem cw0(is:List Nat)
  (hs:cpS (jE T n K cf m e L)=some (o,d,f,xs,cf1,cf2,K',m',e',L')) (hi:bA (λi=>L'[i]?) is=some M) (hx:bA (rnP [] 0) xs=some xs0)
  (hk:(JF M && (dE is && is.all λj=>eZ j cf1.yR))=true) (hn:∀x y,(JF (Lr x y) && B9 0 (sv x y))=true)
  (hc:∀{U:Ctx},HG c U L' is->∀{x},fo=some x->FnS P f U xs0 [] M sv Lr x) (hF:fo.bind kf=some q)
  (k:∀x,fo=some x->kf x=some q->∀y:ex,G (.mk P T hT n c B0 N X Q) K' m' (dse d (sv x y) e') (MP L' is++Lr x y) cf2):G (.mk P T hT n c B0 N X Q) K m e L cf:=
 cwk (cb:=λ_ _=>[]) (Lr:=Lr) [] is hs rfl hi hx (by grind[JE]) (λx y=>by grind[aGF]) (λ{U} h Bs hl x hx=>match Bs,hl with|[],_=>hc (by grind[JE]) hx) hF (λx h1 h2 y=>by grind[RQ,JE])
theorem cw1{c1:List SV}{a1:O->ex->List SV}(i1 n1 o1 k1:Nat)(is:List Nat)
  (hs:cpS (jE T n K cf m e L)=some (o,d,f,xs,cf1,cf2,K',m',e',L')) (hb:aO9 L' [(i1,n1,o1,k1)]=some [c1]) (hi:bA (λi=>L'[i]?) is=some M) (hx:bA (rnP [(i1,n1,o1,k1)] 0) xs=some xs0)
  (hk:(JF M && ([c1].all (B9.okC 0) && (dE (i1::is) && (i1::is).all λj=>eZ j cf1.yR)))=true) (hn:∀x y,(aGF [(i1,n1,o1,k1)] [a1 x y] && ([a1 x y].all (B9.okC 0) && (JF (Lr x y) && B9 0 (sv x y))))=true)
  (hc:∀{U:Ctx},HG c U L' (i1::is)->∀{b1:Nat×Nat} {x},fo=some x->FnS P f U xs0 [b1] (.box 0 c1::M) sv (λx y=>.box 0 (a1 x y)::Lr x y) x) (hF:fo.bind kf=some q)
  (k:∀x,fo=some x->kf x=some q->∀y:ex,G (.mk P T hT n c B0 N X Q) K' m' (dse d (sv x y) e') (RQ L' (MP L' (i1::is)++Lr x y) [(i1,n1,o1,k1)] [a1 x y]) cf2):G (.mk P T hT n c B0 N X Q) K m e L cf:=
 cwk (cb:=λx y=>[a1 x y]) (Lr:=Lr) [(i1,n1,o1,k1)] is hs hb hi hx hk hn (λ{U} h Bs hl x hx=>match Bs,hl with|[b1],_=>hc h hx) hF k
theorem cw2{c1 c2:List SV}{a1 a2:O->ex->List SV}(i1 n1 o1 k1:Nat)(i2 n2 o2 k2:Nat)(is:List Nat)
  (hs:cpS (jE T n K cf m e L)=some (o,d,f,xs,cf1,cf2,K',m',e',L')) (hb:aO9 L' [(i1,n1,o1,k1),(i2,n2,o2,k2)]=some [c1,c2]) (hi:bA (λi=>L'[i]?) is=some M) (hx:bA (rnP [(i1,n1,o1,k1),(i2,n2,o2,k2)] 0) xs=some xs0)
  (hk:(JF M && ([c1,c2].all (B9.okC 0) && (dE (i1::i2::is) && (i1::i2::is).all λj=>eZ j cf1.yR)))=true) (hn:∀x y,(aGF [(i1,n1,o1,k1),(i2,n2,o2,k2)] [a1 x y,a2 x y] && ([a1 x y,a2 x y].all (B9.okC 0) && (JF (Lr x y) && B9 0 (sv x y))))=true)
  (hc:∀{U:Ctx},HG c U L' (i1::i2::is)->∀{b1 b2:Nat×Nat} {x},fo=some x->FnS P f U xs0 [b1,b2] (.box 0 c1::.box 1 c2::M) sv (λx y=>.box 0 (a1 x y)::.box 1 (a2 x y)::Lr x y) x) (hF:fo.bind kf=some q)
  (k:∀x,fo=some x->kf x=some q->∀y:ex,G (.mk P T hT n c B0 N X Q) K' m' (dse d (sv x y) e') (RQ L' (MP L' (i1::i2::is)++Lr x y) [(i1,n1,o1,k1),(i2,n2,o2,k2)] [a1 x y,a2 x y]) cf2):G (.mk P T hT n c B0 N X Q) K m e L cf:=
 cwk (cb:=λx y=>[a1 x y,a2 x y]) (Lr:=Lr) [(i1,n1,o1,k1),(i2,n2,o2,k2)] is hs hb hi hx hk hn (λ{U} h Bs hl x hx=>match Bs,hl with|[b1,b2],_=>hc h hx) hF k
theorem cw3{c1 c2 c3:List SV}{a1 a2 a3:O->ex->List SV}(i1 n1 o1 k1:Nat)(i2 n2 o2 k2:Nat)(i3 n3 o3 k3:Nat)(is:List Nat)
  (hs:cpS (jE T n K cf m e L)=some (o,d,f,xs,cf1,cf2,K',m',e',L')) (hb:aO9 L' [(i1,n1,o1,k1),(i2,n2,o2,k2),(i3,n3,o3,k3)]=some [c1,c2,c3]) (hi:bA (λi=>L'[i]?) is=some M) (hx:bA (rnP [(i1,n1,o1,k1),(i2,n2,o2,k2),(i3,n3,o3,k3)] 0) xs=some xs0)
  (hk:(JF M && ([c1,c2,c3].all (B9.okC 0) && (dE (i1::i2::i3::is) && (i1::i2::i3::is).all λj=>eZ j cf1.yR)))=true) (hn:∀x y,(aGF [(i1,n1,o1,k1),(i2,n2,o2,k2),(i3,n3,o3,k3)] [a1 x y,a2 x y,a3 x y] && ([a1 x y,a2 x y,a3 x y].all (B9.okC 0) && (JF (Lr x y) && B9 0 (sv x y))))=true)
  (hc:∀{U:Ctx},HG c U L' (i1::i2::i3::is)->∀{b1 b2 b3:Nat×Nat} {x},fo=some x->FnS P f U xs0 [b1,b2,b3] (.box 0 c1::.box 1 c2::.box 2 c3::M) sv (λx y=>.box 0 (a1 x y)::.box 1 (a2 x y)::.box 2 (a3 x y)::Lr x y) x) (hF:fo.bind kf=some q)
  (k:∀x,fo=some x->kf x=some q->∀y:ex,G (.mk P T hT n c B0 N X Q) K' m' (dse d (sv x y) e') (RQ L' (MP L' (i1::i2::i3::is)++Lr x y) [(i1,n1,o1,k1),(i2,n2,o2,k2),(i3,n3,o3,k3)] [a1 x y,a2 x y,a3 x y]) cf2):G (.mk P T hT n c B0 N X Q) K m e L cf:=
 cwk (cb:=λx y=>[a1 x y,a2 x y,a3 x y]) (Lr:=Lr) [(i1,n1,o1,k1),(i2,n2,o2,k2),(i3,n3,o3,k3)] is hs hb hi hx hk hn (λ{U} h Bs hl x hx=>match Bs,hl with|[b1,b2,b3],_=>hc h hx) hF k
end
theorem bG8(s:AC)(n1 n2:Nat):elB (s.v n1)=elB (s.v n2):=by obtain⟨a,c⟩:=s;cases a<;>rfl
theorem bG9(s:AC)(q k n1 n2:Nat):Y0 q k (s.v n1)=Y0 q k (s.v n2):=by obtain⟨a,c⟩:=s;cases a<;>rfl
theorem ro{O J:Type}[aL O](E:CO O)(j v nb:Nat){s:AC}{i:Int}{n0:Nat}{ls:List O}{kf:O->Option J}{q:J}(hs:VM (jE T n K cf m e L)=some (K',cf',m',e',L'))(hj:L'[j]?=some (ow s ls))(hv:L'[v]?=some (wOf O nb s n0 i.toNat))(hz:eZ j cf'.yR=true)(hF:(idx ls i).bind kf=some q)
  (k:∀x,idx ls i=some x->kf x=some q->∀y:E.ex,G (.mk P T hT n c B0 N X Q) K' m' e' (L'.set j .no++([.o (pX (s.v ls.length) ls i.toNat),.box nb (E.cs x y),wOf O nb s ls.length i.toNat]++E.Lx x y)) cf'):G (.mk P T hT n c B0 N X Q) K m e L cf:=by
 refine go hs ?_;cases hi:idx ls i with
 |none=>grind
 |some x=>
  rw[hi] at hF;refine chg (λ_=>m') (λ_=>e') (λy:E.ex=>L'.set j .no++([.o (pX (s.v ls.length) ls i.toNat),.box nb (E.cs x y),wOf O nb s ls.length i.toNat]++E.Lx x y)) (λB a w hm hA hS=>?_) (λy=>aWZ hz) (λy=>k x hi hF y);obtain⟨⟨R,s1,s2⟩,s0⟩:=hS;have hB:B[nb]?=some (elB (s.v ls.length),Y0 (aL.n O) i.toNat (s.v ls.length)):=by rw[bG8 s ls.length n0,bG9 s _ _ ls.length n0];exact s2 _ (LS hv)
  have hj2:(L'.map (kP B))[j]?=some (cS [s.v ls.length] ls):=by simp[hj,kP]
  obtain⟨ec,h1⟩:=s1.open j hj2 (CZ hi).2.2;have hlen:((L'.map (kP B)).set j NY).length=L'.length:=ae
  obtain⟨F,hF'⟩:=h1.chunk (L'.length+2) (by rw[aU8 aa];simp;rfl);obtain⟨y,hy2⟩:=E.op (show aL.own w ec x F from hF');have h2:=h1.unpack (L'.length+2) ae (E.pk hy2);have hset:((L'.map (kP B)).set j NY++[pX (s.v ls.length) ls i.toNat,cAt (elB (s.v ls.length)) (Y0 (aL.n O) i.toNat (s.v ls.length)) ec,cS ec x]).set (L'.length+2) NY=(L'.map (kP B)).set j NY++[pX (s.v ls.length) ls i.toNat,cAt (elB (s.v ls.length)) (Y0 (aL.n O) i.toNat (s.v ls.length)) ec,NY]:=ae
  rw[hset] at h2;refine⟨y,[],aj,aj,⟨⟨R,?_,λz hz=>?_⟩,s0⟩⟩
  ·have e1:(L'.set j Ch.no).map (kP B)=(L'.map (kP B)).set j NY:=by rw[LR];rfl
   refine h2.imp ?_;rw[tX,xR,xR,<-e1,NX];refine jO.append (jO.refl _) (jO.append (.cons (λ_ h=>h) (.cons (λF h=>⟨_,_,ec,hB,fB (λx v h=>by simpa using gK (B:=[]) B h) hy2,h⟩) (.cons (λ_ h=>h) .nil))) ?_);rw[E.nb x y B];exact jO.refl _
  ·rw[tX];rcases jG.1 hz with hz|hz
   ·rcases tY hz with hz|hz
    ·grind
    ·subst hz;trivial
   ·rcases jG.1 hz with hz|hz
    ·simp at hz;rcases hz with rfl|rfl|rfl
     ·trivial
     ·trivial
     ·exact hB
    ·exact aO6 (E.no x y) z hz
theorem nw(O:Type)[aL O](hs:VM (jE T n K cf m e L)=some (K',cf',m',e',L'))
  (k:G (.mk P T hT n c B0 N X Q) K' m' e' (L'++[ow ⟨none,0⟩ ([]:List O)]) cf'):G (.mk P T hT n c B0 N X Q) K m e L cf:=by
 refine go hs ?_;refine chg (λ_:Unit=>m') (λ_=>e') (λ_=>L'++[ow ⟨none,0⟩ ([]:List O)]) (λB a w hm hA hS=>?_) (λ_=>uK _) (λ_=>k);obtain⟨⟨R,s1,s2⟩,s0⟩:=hS;refine⟨(),[],aj,aj,⟨⟨R,?_,λz hz=>?_⟩,s0⟩⟩
 ·rw[tX,xR];exact St.more s1 (eC.refl _ _) ⟨F0,⟨none,0,rfl,jZ _,lB _,.inl ⟨rfl,rfl,λ_ _ h=>h⟩⟩,λ_ _ h=>h.elim⟩
 ·rw[tX];rcases jG.1 hz with hz|hz
  ·grind
  ·simp at hz;subst hz;trivial
theorem pY{Z:Act->World->Prop}(O:Type)[aL O](kk:∀a w,qY n c B0 m e (L++[ow ⟨none,0⟩ ([]:List O)]) a w->Z a w):∀a w,qY n c B0 m e L a w->Z a w:=by
 intro a w ⟨B,hm,hA,hS⟩;refine kk a w ⟨B,hm,hA,?_⟩;obtain⟨⟨R,s1,s2⟩,s0⟩:=hS;refine⟨⟨R,?_,λz hz=>?_⟩,s0⟩
 ·rw[xR];exact St.more s1 (eC.refl _ _) ⟨F0,⟨none,0,rfl,jZ _,lB _,.inl ⟨rfl,rfl,λ_ _ h=>h⟩⟩,λ_ _ h=>h.elim⟩
 ·rcases jG.1 hz with hz|hz
  ·grind
  ·simp at hz;subst hz;trivial
end
def AC.sub(s:AC)(n a:Nat):AC:=⟨if s.c=a then s.a else s.a.map (·.add (a*n)),s.c-a⟩
theorem R8{O:Type}{l:List O}{s:AC}{n a b k:Nat}(h1:a<=b)(h2:b<=l.length):iJ n a b (s.v k)=(s.sub n a).v ((l.take b).drop a).length:=by rw[AS h1 h2];rfl
section
variable {P:Program} {T:TT} {hT:GJ P T} {n:Nat} {c:Ctx} {B0:Bl} {N:Act->World->Prop} {X:Nat->Act->World->Prop} {Q:Act->World->Prop} {K K':List Fr} {m m':Nat} {e e':SE} {L L' Lv:List Ch} {cf cf' cf1 cf2:uI} {o:Oper} {d:Nat}
theorem cpc{O:Type}[aL O](j:Nat){s:AC}{l:List O}(hs:VM (jE T n K cf m e L)=some (K',cf',m',e',L'))(hj:L'[j]?=some (ow s l))(k:l.length<=s.c->G (.mk P T hT n c B0 N X Q) K' m' e' L' cf'):G (.mk P T hT n c B0 N X Q) K m e L cf:=by refine go hs ?_;refine chg (λ_:PLift (l.length<=s.c)=>m') (λ_=>e') (λ_=>L') (λB a w hm hA hS=>?_) (λ_=>by simpa using uK (L:=L') []) (λh=>k h.down);obtain⟨⟨R,s1,s2⟩,s0⟩:=hS;obtain⟨F,hF⟩:=s1.chunk (ch:=cS [s.v l.length] l) j (by simp[hj,kP]);obtain⟨ad,cp,h1,h2⟩:=PO (show aL.own w [s.v l.length] l F from hF);simp only[AC.v,Value.slice.injEq] at h1;exact⟨⟨aa⟩,[],aj,aj,⟨⟨R,aj,aj⟩,s0⟩⟩
section
variable {x y z u:Operand} {t el sz:Nat} {k1 k2 k3:IntKind} {i j p:Int} {O J:Type} [aL O] {A:Option J} {q:J} {s:AC} {l:List O} {b1 b2:Bool} {n1:Nat} {z1 z2:List SV} {kt:TK}
theorem aGH(hc:l.length<=s.c)(q0_:opS (jE T n K cf m e L)=some (o,Lv,cf1,cf2,K',m',e',L')/\(o.op,o.dst)=(.slice t x (some y) none none,some d)/\AQ T t=some ⟨.sl el,b1,n1,z1⟩/\AQ T el=some ⟨kt,b2,sz,z2⟩/\iM e' x=some (.h s l.length)/\(iM e' y).bind uH=some (k1,i))(hF:need (0<=i/\i<=(l.length:Int)) A=some q)
  (kk:A=some q->(i.toNat<=l.length/\l.length<=l.length)->G (.mk P T hT n c B0 N X Q) K' m' ((d,.h (s.sub sz i.toNat) ((l.take l.length).drop i.toNat).length)::e') L' cf2):G (.mk P T hT n c B0 N X Q) K m e L cf:=by
 obtain⟨hs,ho,ht,he,hx,hy⟩:=q0_;have hop:o.op=.slice t x (some y) none none:=cY Prod.fst ho;have hb:=(m0 hF).1;have hb2:i.toNat<=l.length/\l.length<=l.length:=aa
 refine pu hs (cY Prod.snd ho) (λB a w hA hS=>⟨iJ sz i.toNat l.length (s.v l.length),by grind[R8,fP,gV,bZ],λ_ a hA'=>?_⟩) (kk (m0 hF).2 hb2);obtain⟨h0,h1⟩:=hb;have h5:max i 0=i:=aa
 simp[execOp,hop,Instr.sliceAt,Instr.slice,run_underlying (GM ht hT),Instr.sliceBounds,hA'.eval (hdB hA hx),hA'.eval (AT hA hy),Instr.sliceBound,asIntOf,hT.size _ _ he,h0,h1,hc,h5,iJ]
theorem aZS(hc:l.length<=s.c)(hs:opS (jE T n K cf m e L)=some (o,Lv,cf1,cf2,K',m',e',L'))(ho:(o.op,o.dst)=(.slice t x none (some z) none,some d))(ht:AQ T t=some ⟨.sl el,b1,n1,z1⟩)(he:AQ T el=some ⟨kt,b2,sz,z2⟩)(hx:iM e' x=some (.h s l.length))(hz:(iM e' z).bind uH=some (k2,j))(hF:need (0<=j/\j<=(l.length:Int)) A=some q)
  (kk:A=some q->(0<=j.toNat/\j.toNat<=l.length)->G (.mk P T hT n c B0 N X Q) K' m' ((d,.h (s.sub sz 0) ((l.take j.toNat).drop 0).length)::e') L' cf2):G (.mk P T hT n c B0 N X Q) K m e L cf:=by
 have hop:o.op=.slice t x none (some z) none:=cY Prod.fst ho;have hb:=(m0 hF).1;have hb2:0<=j.toNat/\j.toNat<=l.length:=aa
 refine pu hs (cY Prod.snd ho) (λB a w hA hS=>⟨iJ sz 0 j.toNat (s.v l.length),by grind[R8,fP,gV,bZ],λ_ a hA'=>?_⟩) (kk (m0 hF).2 hb2);obtain⟨h0,h1⟩:=hb;have h3:j<=(s.c:Int):=aa
 have h5:max j 0=j:=aa
 simp[execOp,hop,Instr.sliceAt,Instr.slice,run_underlying (GM ht hT),Instr.sliceBounds,hA'.eval (hdB hA hx),hA'.eval (AT hA hz),Instr.sliceBound,asIntOf,hT.size _ _ he,h0,h3,h5,iJ]
theorem bK9(hc:l.length<=s.c)(hs:opS (jE T n K cf m e L)=some (o,Lv,cf1,cf2,K',m',e',L'))(ho:(o.op,o.dst)=(.slice t x none (some z) (some u),some d))(ht:AQ T t=some ⟨.sl el,b1,n1,z1⟩)(he:AQ T el=some ⟨kt,b2,sz,z2⟩)(hx:iM e' x=some (.h s l.length))(hz:(iM e' z).bind uH=some (k2,j))(hu:(iM e' u).bind uH=some (k3,p))(hF:need (0<=j/\j<=p/\p<=(l.length:Int)) A=some q)
  (kk:A=some q->(0<=j.toNat/\j.toNat<=p.toNat/\p.toNat<=l.length)->G (.mk P T hT n c B0 N X Q) K' m' ((d,.h ⟨(s.sub sz 0).a,p.toNat⟩ ((l.take j.toNat).drop 0).length)::e') L' cf2):G (.mk P T hT n c B0 N X Q) K m e L cf:=by
 have hop:o.op=.slice t x none (some z) (some u):=cY Prod.fst ho;have hb:=(m0 hF).1;have hb2:0<=j.toNat/\j.toNat<=p.toNat/\p.toNat<=l.length:=aa
 have hl:=AS (l:=l) (a:=0) (b:=j.toNat) aa aa;refine pu hs (cY Prod.snd ho) (λB a w hA hS=>⟨AC.v ⟨(s.sub sz 0).a,p.toNat⟩ ((l.take j.toNat).drop 0).length,by simp[fP,gV,bZ],λ_ a hA'=>?_⟩) (kk (m0 hF).2 hb2);obtain⟨h0,h1,h2⟩:=hb;have h3:p<=(s.c:Int):=aa
 have h4:0<=p:=aa
 have h5:max j 0=j:=aa
 have h6:max p 0=p:=aa
 rw[hl];have hadd:s.a.map (λx=>x.add 0)=s.a:=by simp[Addr.add]
 by_cases hp:p=0
 ·subst hp;simp[execOp,hop,Instr.sliceAt,Instr.slice,run_underlying (GM ht hT),Instr.sliceBounds,hA'.eval (hdB hA hx),hA'.eval (AT hA hz),hA'.eval (AT hA hu),Instr.sliceBound,asIntOf,hT.size _ _ he,h0,h1,h3,h4,h5,h6,AC.sub,hadd]
 ·simp[execOp,hop,Instr.sliceAt,Instr.slice,run_underlying (GM ht hT),Instr.sliceBounds,hA'.eval (hdB hA hx),hA'.eval (AT hA hz),hA'.eval (AT hA hu),Instr.sliceBound,asIntOf,hT.size _ _ he,h0,h1,h3,h4,h5,h6,AC.sub,hadd]
end
end
section
variable {P:Program} {T:TT} {hT:GJ P T} {n:Nat} {c:Ctx} {B0:Bl} {N:Act->World->Prop} {X:Nat->Act->World->Prop} {Q:Act->World->Prop} {K K':List Fr} {m m':Nat} {e e':SE} {L L' Lv:List Ch} {cf cf' cf1 cf2:uI} {o:Oper} {d:Nat}
theorem bHA{O:Type}[aL O]{B:Bl}{w:World}{R:List Fact}{j a b sz:Nat}{s s':AC}{l l':List O}(hn:aL.n O=sz)(hj:L[j]?=some (ow s l))(hb:a<=b/\b<=l.length)(hl:(l.take b).drop a=l')(hs:∀w F,aL.own w [s.v l.length] l F->∃F',aL.own w [s'.v l'.length] l' F'/\∀b o,F' b o->F b o)(hS:mK c w B L):mK c w B (L.set j (ow s' l')):=by
 obtain⟨⟨R,s1,s2⟩,s0⟩:=hS;refine⟨⟨R,?_,λz hz=>?_⟩,s0⟩
 ·rw[LR];refine s1.aFY j (by rw[B7,hj];rfl) λF hF=>?_;obtain⟨F',h1,h2⟩:=hs w F hF;exact⟨F',F0,eC.refl _ _,λ_ _ h=>h.elim,h1,λb o h=>.inl (h2 b o h)⟩
 ·rcases tY hz with hz|hz
  ·grind
  ·subst hz;trivial
theorem bA1{O:Type}[aL O]{s:AC}{l l':List O}{sz a b:Nat}(hn:aL.n O=sz)(hb:a<=b/\b<=l.length)(hl:(l.take b).drop a=l'):∀w F,aL.own w [s.v l.length] l F->∃F',aL.own w [(s.sub sz a).v l'.length] l' F'/\∀b o,F' b o->F b o:=by intro w F h;obtain⟨F',h1,h2⟩:=a4P hn h hb.1 hb.2;grind[R8]
theorem bA2{O:Type}[aL O]{s:AC}{l l':List O}{sz b p:Nat}(hn:aL.n O=sz)(hb:0<=b/\b<=p/\p<=l.length)(hl:(l.take b).drop 0=l'):∀w F,aL.own w [s.v l.length] l F->∃F',aL.own w [AC.v ⟨(s.sub sz 0).a,p⟩ l'.length] l' F'/\∀b o,F' b o->F b o:=by
 intro w F h;obtain⟨F',h1,h2⟩:=a9Q hn h hb.1 hb.2.1 hb.2.2;have hadd:s.a.map (λx=>x.add 0)=s.a:=by simp[Addr.add]
 have hln:=AS (l:=l) (a:=0) (b:=b) aa aa;rw[hl] at hln h1;refine⟨F',?_,h2⟩;simp_all[bEO,AC.sub]
theorem poR{Z:Act->World->Prop}{O:Type}[aL O](j a b:Nat){sz:Nat}{s:AC}{l l':List O}(hn:aL.n O=sz)(hj:L[j]?=some (ow s l))(hb:a<=b/\b<=l.length)(hl:(l.take b).drop a=l')
  (kk:∀a' w,qY n c B0 m e (L.set j (ow (s.sub sz a) l')) a' w->Z a' w):∀a' w,qY n c B0 m e L a' w->Z a' w:=by
 intro a' w ⟨B,hm,hA,hS⟩;exact kk a' w ⟨B,hm,hA,bHA (R:=[]) hn hj hb hl (bA1 hn hb hl) hS⟩
theorem pmR{Z:Act->World->Prop}{O:Type}[aL O](j b p:Nat){sz:Nat}{s:AC}{l l':List O}(hn:aL.n O=sz)(hj:L[j]?=some (ow s l))(hb:0<=b/\b<=p/\p<=l.length)(hl:(l.take b).drop 0=l')
  (kk:∀a' w,qY n c B0 m e (L.set j (ow ⟨(s.sub sz 0).a,p⟩ l')) a' w->Z a' w):∀a' w,qY n c B0 m e L a' w->Z a' w:=by
 intro a' w ⟨B,hm,hA,hS⟩;exact kk a' w ⟨B,hm,hA,bHA (R:=[]) hn hj ⟨aa,aa⟩ hl (bA2 hn hb hl) hS⟩
theorem a2C{O:Type}{l xs:List O}{k a n:Nat}(h:k<=n/\n<=l.length)(ha:a<=l.length):k<=n/\n<=(cW l a xs).length:=⟨h.1,by grind[fQ]⟩
theorem aW4{O:Type}{l xs:List O}{k a:Nat}(h:k<=a)(ha:a<=l.length):((cW l a xs).take k).drop 0=(l.take k).drop 0:=by grind[cW]
def AC.bFE(s:AC)(n a p:Nat):AC:=⟨if p=a then s.a else s.a.map (·.add (a*n)),p-a⟩
section
variable {x y z:Operand} {t el sz:Nat} {zv:Value} {k1 k2:IntKind} {i j:Int} {O J:Type} [aL O] {A:Option J} {q:J} {s:AC} {l:List O} {b1 b2:Bool} {n1:Nat} {z1 z2:List SV} {kt:TK}
theorem ap2[Flat O](p a b:Nat)(hb:a<=b/\b<=l.length)(hs:jE T n K cf m e L=.op o Lv cf1 cf2 K' m' e' L')(ho:(o.op,o.dst)=(.call {callee:=.builtin .append,args:=#[x,y],argTypes:=#[t,t]},some d))(ht:AQ T t=some ⟨.sl el,b1,n1,z1⟩)(he:AQ T el=some ⟨kt,b2,sz,z2⟩)(hn:aL.n O=sz)(hp:L'[p]?=some (ow s l))(hz:eZ p cf1.yR=true)(hx:iM e' x=some (.h (s.sub sz 0) ((l.take a).drop 0).length))(hy:iM e' y=some (.h (s.sub sz b) ((l.take l.length).drop b).length))
  (k:(0<=a+(l.length-b)/\a+(l.length-b)<=(cW l a (l.drop b)).length)->G (.mk P T hT n c B0 N X Q) K' m' ((d,.h (s.sub sz 0) (((cW l a (l.drop b)).take (a+(l.length-b))).drop 0).length)::e') (L'.set p (ow s (cW l a (l.drop b)))) cf2):G (.mk P T hT n c B0 N X Q) K m e L cf:=by
 have hlen:(cW l a (l.drop b)).length=l.length:=fQ aa;have hk:0<=a+(l.length-b)/\a+(l.length-b)<=(cW l a (l.drop b)).length:=aa
 refine gY (g:=.mk P T hT n c B0 N X Q) ?_;rw[hs];intro hdn _ hE;refine hE Unit (λ_=>m') (λ_=>(d,.h (s.sub sz 0) (((cW l a (l.drop b)).take (a+(l.length-b))).drop 0).length)::e') (λ_=>L'.set p (ow s (cW l a (l.drop b)))) (λ_=>GN hz) (λB act w next Q' hm hA hS hnext=>?_) (λ_=>k hk);obtain⟨⟨R,s1,s2⟩,s0⟩:=hS;have hx2:ev (vE (B0S (.mk P T hT n c B0 N X Q) cf1++B) e') x=some (iJ sz 0 a (s.v l.length)):=by rw[hdB hA hx,R8 (lB a) (iI hb.1 hb.2)]
 have hy2:ev (vE (B0S (.mk P T hT n c B0 N X Q) cf1++B) e') y=some (iJ sz b l.length (s.v l.length)):=by rw[hdB hA hy,R8 hb.2 (jZ _)]
 have hop:o.op=.call {callee:=.builtin .append,args:=#[x,y],argTypes:=#[t,t]}:=cY Prod.fst ho;have hd:o.dst=some d:=cY Prod.snd ho;obtain⟨v,w',k1,rfl,k2⟩:=a1X p s1 (by rw[B7,hp];rfl) hn hb.1 hb.2 (GM ht hT) (hT.size _ _ he) hop hx2 hy2;unfold Oper.wp;rw[k1 _ act hA.env,Oper.upon_value,hd];have hv:fP (B0S (.mk P T hT n c B0 N X Q) cf1++B) (.h (s.sub sz 0) (((cW l a (l.drop b)).take (a+(l.length-b))).drop 0).length)=some (iJ sz 0 (a+(l.length-b)) (s.v l.length)):=by grind[R8,fP,gV,bZ]
 refine hnext () _ _ ⟨[],aj,by simpa using hA.of hv (hA.env.put (by grind[sD,yT]) _),?_⟩;rw[tX];refine⟨⟨R,?_,λz hz=>?_⟩,s0⟩
 ·rw[LR];show St c w' ((L'.map _).set p (cS [s.v (cW l a (l.drop b)).length] _)) R;grind
 ·rcases tY hz with hz|hz
  ·grind
  ·subst hz;trivial
theorem bA3(p k':Nat)(hk:k'<=l.length){l0:List O}(h0:l0.length=k')(hs:opS (jE T n K cf m e L)=some (o,Lv,cf1,cf2,K',m',e',L'))(ho:(o.op,o.dst)=(.slice t x (some y) (some z) none,some d))(ht:AQ T t=some ⟨.sl el,b1,n1,z1⟩)(he:AQ T el=some ⟨kt,b2,sz,z2⟩)(hn:aL.n O=sz)(hp:Lv[p]?=some (ow s l))(hx:iM e' x=some (.h (s.sub sz 0) l0.length))(hy:(iM e' y).bind uH=some (k1,i))(hz:(iM e' z).bind uH=some (k2,j))(hF:need (0<=i/\i<=j/\j<=(l.length:Int)) A=some q)
  (kk:A=some q->(i.toNat<=j.toNat/\j.toNat<=l.length)->G (.mk P T hT n c B0 N X Q) K' m' ((d,.h (s.sub sz i.toNat) ((l.take j.toNat).drop i.toNat).length)::e') L' cf2):G (.mk P T hT n c B0 N X Q) K m e L cf:=by
 have hop:o.op=.slice t x (some y) (some z) none:=cY Prod.fst ho;have hb:=(m0 hF).1;have hb2:i.toNat<=j.toNat/\j.toNat<=l.length:=aa
 refine pu hs (cY Prod.snd ho) (λB a w hA hS=>⟨iJ sz i.toNat j.toNat (s.v l.length),by grind[R8,fP,gV,bZ],?_⟩) (kk (m0 hF).2 hb2);obtain⟨⟨R,s1,s2⟩,s0⟩:=hS;have hx2:ev (vE B e') x=some (iJ sz 0 k' (s.v l.length)):=by rw[hdB hA hx,h0];rfl
 exact a1Y p s1 (by rw[B7,hp];rfl) hn (GM ht hT) (hT.size _ _ he) hb hop hx2 (AT hA hy) (AT hA hz)
theorem clr[Flat O](p a b:Nat)(zd:O)(hb:a<=b/\b<=l.length)(hinf:Inf P el sz zv)(hzs:zv.cells.size=sz)(hzd:∀w,aL.rd F0 w zv.cells.toList zd)(hone:(zv.cells.toList.all λv=>v.oneCell')=true)(hs:jE T n K cf m e L=.op o Lv cf1 cf2 K' m' e' L')(ho:(o.op,o.dst)=(.call {callee:=.builtin .clear,args:=#[x],argTypes:=#[t]},none))(ht:AQ T t=some ⟨.sl el,b1,n1,z1⟩)(hn:aL.n O=sz)(hp:L'[p]?=some (ow s l))(hz:eZ p cf1.yR=true)(hx:iM e' x=some (.h (s.sub sz a) ((l.take b).drop a).length))
  (k:G (.mk P T hT n c B0 N X Q) K' m' e' (L'.set p (ow s (cW l a (List.replicate (b-a) zd)))) cf2):G (.mk P T hT n c B0 N X Q) K m e L cf:=by
 have hlen:(cW l a (List.replicate (b-a) zd)).length=l.length:=fQ aa;refine gY (g:=.mk P T hT n c B0 N X Q) ?_;rw[hs];intro hdn _ hE;refine hE Unit (λ_=>m') (λ_=>e') (λ_=>L'.set p (ow s (cW l a (List.replicate (b-a) zd)))) (λ_=>GN hz) (λB act w next Q' hm hA hS hnext=>?_) (λ_=>k);obtain⟨⟨R,s1,s2⟩,s0⟩:=hS;have hx2:ev (vE (B0S (.mk P T hT n c B0 N X Q) cf1++B) e') x=some (iJ sz a b (s.v l.length)):=by grind[hdB,R8]
 have hop:o.op=.call {callee:=.builtin .clear,args:=#[x],argTypes:=#[t]}:=cY Prod.fst ho;have hd:o.dst=none:=cY Prod.snd ho;obtain⟨v,w',k1,rfl,k2⟩:=a9V zd p s1 (by rw[B7,hp];rfl) hn hb.1 hb.2 (GM ht hT) hinf hzs hzd (λv hv=>aS4.1 hone v hv) hop hx2;unfold Oper.wp;rw[k1 _ act hA.env,Oper.upon_value,hd];refine hnext () _ _ ⟨[],aj,by grind[Act.put],?_⟩;rw[tX];refine⟨⟨R,?_,λz hz=>?_⟩,s0⟩
 ·rw[LR];show St c w' ((L'.map _).set p (cS [s.v (cW l a (List.replicate (b-a) zd)).length] _)) R;grind
 ·rcases tY hz with hz|hz
  ·grind
  ·subst hz;trivial
theorem a2D{u:Operand}{k3:IntKind}{pz:Int}(hc:l.length<=s.c)(hs:opS (jE T n K cf m e L)=some (o,Lv,cf1,cf2,K',m',e',L'))(ho:(o.op,o.dst)=(.slice t x (some y) (some z) (some u),some d))(ht:AQ T t=some ⟨.sl el,b1,n1,z1⟩)(he:AQ T el=some ⟨kt,b2,sz,z2⟩)(hx:iM e' x=some (.h s l.length))(hy:(iM e' y).bind uH=some (k1,i))(hz:(iM e' z).bind uH=some (k2,j))(hu:(iM e' u).bind uH=some (k3,pz))(hF:need (0<=i/\i<=j/\j<=pz/\pz<=(l.length:Int)) A=some q)
  (kk:A=some q->(i.toNat<=j.toNat/\j.toNat<=pz.toNat/\pz.toNat<=l.length)->G (.mk P T hT n c B0 N X Q) K' m' ((d,.h (s.bFE sz i.toNat pz.toNat) ((l.take j.toNat).drop i.toNat).length)::e') L' cf2):G (.mk P T hT n c B0 N X Q) K m e L cf:=by
 have hop:o.op=.slice t x (some y) (some z) (some u):=cY Prod.fst ho;have hb:=(m0 hF).1;have hb2:i.toNat<=j.toNat/\j.toNat<=pz.toNat/\pz.toNat<=l.length:=aa
 have hl:=AS (l:=l) (a:=i.toNat) (b:=j.toNat) aa aa;refine pu hs (cY Prod.snd ho) (λB a w hA hS=>⟨AC.v (s.bFE sz i.toNat pz.toNat) ((l.take j.toNat).drop i.toNat).length,by simp[fP,gV,bZ],λ_ a hA'=>?_⟩) (kk (m0 hF).2 hb2);obtain⟨h0,h1,h2,h2'⟩:=hb;have h3:pz<=(s.c:Int):=aa
 have h4:0<=pz:=aa
 have h4':0<=j:=aa
 have h5:max j 0=j:=aa
 have h6:max pz 0=pz:=aa
 have h7:max i 0=i:=aa
 rw[hl];by_cases hp:pz.toNat=i.toNat
 ·have:pz=i:=aa
  subst this;simp[execOp,hop,Instr.sliceAt,Instr.slice,run_underlying (GM ht hT),Instr.sliceBounds,hA'.eval (hdB hA hx),hA'.eval (AT hA hy),hA'.eval (AT hA hz),hA'.eval (AT hA hu),Instr.sliceBound,asIntOf,hT.size _ _ he,h0,h1,h2,h3,h4,h4',h5,h6,h7,AC.bFE]
 ·have hp2:¬pz=i:=λh=>hp (by rw[h]);simp[execOp,hop,Instr.sliceAt,Instr.slice,run_underlying (GM ht hT),Instr.sliceBounds,hA'.eval (hdB hA hx),hA'.eval (AT hA hy),hA'.eval (AT hA hz),hA'.eval (AT hA hu),Instr.sliceBound,asIntOf,hT.size _ _ he,h0,h1,h2,h3,h4,h4',h5,h6,h7,hp,hp2,AC.bFE]
theorem bMV{t2:Nat}(hs:opS (jE T n K cf m e L)=some (o,Lv,cf1,cf2,K',m',e',L'))(ho:(o.op,o.dst)=(.binOp .shl t x y t2,some d))(hx:(iM e' x).bind uH=some (k1,i))(hy:(iM e' y).bind uH=some (k2,j))(hF:need (0<=j) A=some q)
  (kk:A=some q->G (.mk P T hT n c B0 N X Q) K' m' ((d,.i k1 (aOO k1 i j))::e') L' cf2):G (.mk P T hT n c B0 N X Q) K m e L cf:=
 pu hs (cY Prod.snd ho) (λB a w hA _=>⟨_,rfl,a81 (cY Prod.fst ho) (AT hA hx) (AT hA hy) (by grind[m0])⟩) (kk (m0 hF).2)
theorem eqn{t2:Nat}{ln:Nat}(hs:opS (jE T n K cf m e L)=some (o,Lv,cf1,cf2,K',m',e',L'))(ho:(o.op,o.dst)=(.binOp .eql t x (.const (.slice none 0 0)) t2,some d))(ht:AQ T t=some ⟨.sl el,b1,n1,z1⟩)(hx:iM e' x=some (.h s ln))
  (kt:s.a=none->G (.mk P T hT n c B0 N X Q) K' m' ((d,.l true)::e') L' cf2) (kf:G (.mk P T hT n c B0 N X Q) K' m' ((d,.l false)::e') L' cf2):G (.mk P T hT n c B0 N X Q) K m e L cf:=by
 cases hs':s.a with
 |none=>exact pu hs (cY Prod.snd ho) (λB a w hA _=>⟨_,rfl,a1U (GM ht hT) ⟨ln,s.c,aj⟩ (cY Prod.fst ho) (hdB hA hx) rfl⟩) (kt hs')
 |some ad=>exact pu hs (cY Prod.snd ho) (λB a w hA _=>⟨_,rfl,a1V (GM ht hT) ⟨ad,ln,s.c,aj⟩ (cY Prod.fst ho) (hdB hA hx) rfl⟩) kf
theorem cln{w:Ctx}{r:List O}(h:bI w s l)(hn:s.a=none)(hF:need (([]:List O).length+l.length<=1073741824) (some (([]:List O)++l))=some r):some ([]:List O)=some r:=by obtain⟨ad,cp,h1,h2,h3,h4⟩:=(show AR w.S0 w.w0 [s.v l.length] l from h);grind[need]
end
section
variable {x y:Operand} {t el sz:Nat} {zv:Value} {b1:Bool} {n1:Nat} {z1:List SV}
theorem ltN{O:Type}[aL O](E:CO O)(is:List Nat)(q:O)(ye:E.ex)(hinf:Inf P el sz zv)(q0_:jE T n K cf m e L=.op o Lv cf1 cf2 K' m' e' L'/\(o.op,o.dst)=(.buildSlice t 1 #[(0,x)],some d)/\AQ T t=some ⟨.sl el,b1,n1,z1⟩/\aL.n O=sz/\Nat.ble 1 sz=true/\Nat.ble sz 16777216=true/\(iM e' x).map (λv=>nbL (o4 v))=some (E.cs q ye)/\(iM e' x).map isCells=some true/\(E.cs q ye).length=sz/\(bA (bZ []) (E.cs q ye)).isSome=true/\bA (λi=>L'[i]?) is=some (E.Lx q ye)/\dE is=true/\(is.all λj=>eZ j cf1.yR)=true)
  (k:∀s':AC,G (.mk P T hT n c B0 N X Q) K' m' ((d,.h s' [q].length)::e') (MP L' is++[ow s' [q]]) cf2):G (.mk P T hT n c B0 N X Q) K m e L cf:=by
 obtain⟨hs,ho,ht,hn,hm,hm2,hx,hxc,hle,hec,hi,ha,hz⟩:=q0_;obtain⟨ec,hec⟩:=aON.1 hec;refine aW1 (l:=[q]) (λs'=>MP L' is++[ow s' [q]]) hs (cY Prod.snd ho) (λ_=>XN _ hz) (λB a w hA hS=>?_) k;obtain⟨⟨R,s1,s2⟩,s0⟩:=hS;have hecl:ec.length=sz:=by grind[mL]
 cases hxv:iM e' x with
 |none=>grind
 |some xv=>
  rw[hxv] at hx hxc;simp at hx hxc;obtain⟨v,v1,v2⟩:=eH hA hxv;have hcell:bA (bZ B) (o4 xv)=some ec:=by rw[<-R4,hx];exact fB (λx v h=>by simpa using gK (B:=[]) B h) hec
  have hvc:v.cells.toList=ec:=VN v1 hcell;have p1:=s1.shift is ha (A':=[cS ec q]) λF hF=>by rw[R6 hi,E.nb] at hF;exact Sep.one.2 ((E.pk hec w F).2 hF)
  have hlen:(blank (L'.map (kP B)) is).length=L'.length:=by rw[<-KF];simp[aN5]
  obtain⟨v',w',k1,k2⟩:=bEF (e:=vE B e') (o:=o) (ps:=[(0,x)]) (vs:=[v]) (cells:=ec) [q] p1 [L'.length] rfl ⟨[],by
    simp only[pick,aU8 (YZ hlen),hlen,Nat.sub_self];grind,aj,⟨aj,rfl⟩⟩ hn (GM ht hT) hinf rfl hm aj (cY Prod.fst ho) (by simp[evs,v2]) (aOU (vs:=[v]) (ps:=[(0,x)]) rfl rfl aj (by simp[hvc]))
  have hb2:blank (blank (L'.map (kP B)) is++[cS ec q]) [L'.length]=blank (L'.map (kP B)) is++[NY]:=by simp_all[blank]
  rw[hb2] at k2;obtain⟨s',rfl⟩:=aIO (v:=v') (l:=[q]) k2 (L'.length+1) aj;refine⟨s',w',k1,⟨⟨R,?_,λz hz=>?_⟩,s0⟩⟩
  ·have k3:=k2.sel ((List.range L'.length)++[L'.length+1]) ?_
   ·refine k3.imp ?_;rw[xR,KF,aGG];refine jO.append ?_ ?_
    ·have:pick (blank (L'.map (kP B)) is++[NY]++[cS [s'.v [q].length] [q]]) (List.range L'.length)=blank (L'.map (kP B)) is:=by
      have gen:∀(M M':List Chunk) (j:Nat),pick (M++M') ((List.range j))=(M++M').take j\/¬j<=(M++M').length:=by
       intro M M' j;by_cases hj:j<=(M++M').length
       ·left;induction j with
        |zero=>rfl
        |succ j ih=>
         grind[List.range_succ,aGG,pick,List.take_add_one]
       omega
      grind
     grind[jO.refl]
    simp_all[pick,kP,jO.refl]
   ·have gen:∀(j:Nat),dE (List.range' j (L'.length-j)++[L'.length+1])=true:=by
     intro j;generalize hk:L'.length-j=k;induction k generalizing j with
     |zero=>rfl
     |succ k ih=>
      rw[List.range'_succ,aDW];simp only[dE,GF,aS4,Bool.not_eq_true'];grind[pV]
    have:=gen 0;simp_all[List.range_eq_range']
  ·rcases jG.1 hz with hz|hz
   ·rcases R5 _ _ hz with hz|hz
    ·grind
    ·subst hz;trivial
   ·simp at hz;subst hz;trivial
theorem apN{O J:Type}[aL O]{A:Option J}{q:J}{s s2:AC}{l xs:List O}(i j:Nat)(hinf:Inf P el sz zv)(hs:jE T n K cf m e L=.op o Lv cf1 cf2 K' m' e' L')(ho:(o.op,o.dst)=(.call {callee:=.builtin .append,args:=#[x,y],argTypes:=#[t,t]},some d))(q0_:AQ T t=some ⟨.sl el,b1,n1,z1⟩/\aL.n O=sz/\zv.cells.size=sz/\L'[i]?=some (ow s l)/\L'[j]?=some (ow s2 xs)/\dE [i,j]=true/\([i,j].all λj=>eZ j cf1.yR)=true/\iM e' x=some (.h s l.length)/\iM e' y=some (.h s2 xs.length))(hF:need (l.length+xs.length<=1073741824) A=some q)
  (k:A=some q->∀s':AC,G (.mk P T hT n c B0 N X Q) K' m' ((d,.h s' (l++xs).length)::e') (MP L' [i,j]++[ow s' (l++xs)]) cf2):G (.mk P T hT n c B0 N X Q) K m e L cf:=by
 obtain⟨ht,hn,hzs,hi,hj,ha,hz,hx,hy⟩:=q0_;refine aW1 (l:=l++xs) (λs'=>MP L' [i,j]++[ow s' (l++xs)]) hs (cY Prod.snd ho) (λ_=>XN _ hz) (λB a w hA hS=>?_) (k (m0 hF).2);obtain⟨⟨R,s1,s2'⟩,s0⟩:=hS;have hp:pick (L'.map (kP B)) [i,j]=[cS [s.v l.length] l,cS [s2.v xs.length] xs]:=by grind[pick,kP]
 obtain⟨v,w',k1,k2⟩:=bEG [i,j] s1 ha hp hn (GM ht hT) hinf hzs (m0 hF).1 (cY Prod.fst ho) (hdB hA hx) (hdB hA hy);have hlen:(blank (L'.map (kP B)) [i,j]).length=L'.length:=by rw[<-KF];simp[aN5]
 obtain⟨s',rfl⟩:=aIO k2 L'.length (by rw[aU8 (YZ hlen),hlen,Nat.sub_self];rfl);refine⟨s',w',k1,⟨⟨R,?_,λz hz=>?_⟩,s0⟩⟩
 ·rw[xR,KF];exact k2
 ·rcases jG.1 hz with hz|hz
  ·rcases R5 _ _ hz with hz|hz
   ·grind
   ·subst hz;trivial
  ·simp at hz;subst hz;trivial
end
theorem kb{b cb:Bool}(ss:List Nat)(hb:b=cb)(hs:VM (jE T n K cf m e L)=some (K',cf',m',e',L'))(ho:bA (FL e') ss=some (ss.map λ_=>SV.b b))(k:G (.mk P T hT n c B0 N X Q) K' m' (ovr cb e' ss) L' cf'):G (.mk P T hT n c B0 N X Q) K m e L cf:=
 go hs (aO5 (λa B hA=>aC6 hb ss ho hA) k)
def rhE(v:SV)(e:SE):List (Nat×Nat)->SE
 |[]=>e
 |(k,j)::r=>match FL e k with
  |some (.g cs)=>(k,.g (ovw cs j [v]))::rhE v e r
  |some (.t cs)=>(k,.t (ovw cs j [v]))::rhE v e r
  |_=>rhE v e r
def rhL(v:SV)(L:List Ch):List (Nat×Nat)->List Ch
 |[]=>L
 |(k,j)::r=>match L[k]? with
  |some (.box n cs)=>rhL v (L.set k (.box n (ovw cs j [v]))) r
  |_=>rhL v L r
theorem aN7{B:Bl}{f:Bl->SV->Option Value}{u v:SV}(huv:∀B,f B u=f B v):∀{cs:List SV} {j:Nat},cs[j]?=some u->bA (f B) (ovw cs j [v])=bA (f B) cs
 |[],j,h=>by simp at h
 |x::cs,0,h=>by grind[bA,ovw,aWR]
 |x::cs,j + 1,h=>by show bA (f B) (x::ovw cs j [v])=_;simp only[bA,aN7 (B:=B) huv (show cs[j]?=some u by grind)]
theorem bA4{s:AC}{n0 n1:Nat}(hn:n0=n1){B:Bl}:∀{ps:List (Nat×Nat)} {k:Nat} {x:SV},(∀p∈ps,∃cs,(FL e p.1=some (.g cs)\/FL e p.1=some (.t cs))/\cs[p.2]?=some (.h s n0))->FL (rhE (.h s n1) e ps) k=some x->∃y,FL e k=some y/\fP B x=fP B y
 |[],k,x,_,h=>⟨x,h,rfl⟩
 |(k',j)::r,k,x,hp,h=>by
  have ih:=λh=>bA4 hn (B:=B) (ps:=r) (k:=k) (x:=x) (λp hp'=>hp p (B8 _ hp')) h;obtain⟨cs,h1,h2⟩:=hp (k',j) ae;have hc:∀B,bZ B (.h s n0)=bZ B (.h s n1):=λB=>by rw[hn]
  have hg:∀B,gV B (.h s n0)=gV B (.h s n1):=λB=>by rw[hn]
  rcases h1 with h1|h1
  ·simp only[rhE,h1,FL] at h;split at h
   ·rename_i hb;cases h;have:=pV hb;subst this;exact⟨_,h1,by simp only[fP,gV,aN7 (f:=bZ) hc h2]⟩
   grind
  ·simp only[rhE,h1,FL] at h;split at h
   ·rename_i hb;cases h;have:=pV hb;subst this;exact⟨_,h1,by simp only[fP,aN7 (f:=gV) hg h2]⟩
   grind
theorem a5H{s:AC}{n0 n1:Nat}(hn:n0=n1){B:Bl}{w:World}{R:List Fact}:∀{ps:List (Nat×Nat)} {L:List Ch},(∀p∈ps,∃k cs,L[p.1]?=some (.box k cs)/\cs[p.2]?=some (.h s n0))->dE (ps.map (·.1))=true->jO w (L.map (kP B)) ((rhL (.h s n1) L ps).map (kP B))/\((∀x∈L,roF B R x)->∀x∈rhL (.h s n1) L ps,roF B R x)
 |[],L,_,_=>⟨jO.refl _,λh=>h⟩
 |(i,j)::r,L,hp,ha=>by
  obtain⟨k,cs,h1,h2⟩:=hp (i,j) ae;have hc:∀B,bZ B (.h s n0)=bZ B (.h s n1):=λB=>by rw[hn]
  simp only[PY,dE,GF] at ha;have ih:=a5H hn (B:=B) (w:=w) (R:=R) (ps:=r) (L:=L.set i (.box k (ovw cs j [.h s n1]))) (λp hp'=>by
   obtain⟨k',cs',h3,h4⟩:=hp p (B8 _ hp');have hne:i≠p.1:=λhe=>by have:=aS4.1 ha.1 p.1 (List.mem_map_of_mem hp');simp_all
   exact⟨k',cs',aj,h4⟩) ha.2
  simp only[rhL,h1];refine⟨?_,λh=>ih.2 λx hx=>?_⟩
  ·have h5:jO w (L.map (kP B)) ((L.set i (.box k (ovw cs j [.h s n1]))).map (kP B)):=by rw[LR];exact jO.put (a:=aF5 B k cs) (b:=aF5 B k (ovw cs j [.h s n1])) i (by rw[B7,h1];rfl) λF ⟨b,z,vs,q1,q2,q3⟩=>⟨b,z,vs,q1,by rw[aN7 (f:=bZ) hc h2];exact q2,q3⟩
   have tr:∀{A B C:List Chunk},jO w A B->jO w B C->jO w A C:=by
    intro A B C h1;induction h1 generalizing C with
    |nil=>simp
    |cons h t ih=>intro h2;cases h2 with|cons h' t'=>exact .cons (λF hF=>h' F (h F hF)) (ih t')
   grind
  ·rcases tY hx with hx|hx
   ·exact h x hx
   ·subst hx;trivial
def atE(e:SE)(p:Nat×Nat):Option SV:=match FL e p.1 with
 |some (.g cs)=>cs[p.2]?
 |some (.t cs)=>cs[p.2]?
 |_=>none
def atL(L:List Ch)(p:Nat×Nat):Option SV:=match L[p.1]? with
 |some (.box _ cs)=>cs[p.2]?
 |_=>none
theorem a5I{B:Bl}{a:Act}{w:World}(s:AC){n0 n1:Nat}(hn:n0=n1){ps qs:List (Nat×Nat)}(hp:bA (atE e) ps=some (ps.map λ_=>.h s n0))(hq:bA (atL L) qs=some (qs.map λ_=>.h s n0))(ha:dE (qs.map (·.1))=true)(hA:gR n B e a)(hS:mK c w B L):gR n B (rhE (.h s n1) e ps) a/\mK c w B (rhL (.h s n1) L qs):=by
 have key:∀{γ:Type} {f:γ->Option SV} {ps:List γ},bA f ps=some (ps.map λ_=>.h s n0)->∀p∈ps,f p=some (.h s n0):=by
  intro γ f ps;induction ps with
  |nil=>simp
  |cons q ps ih=>
   grind[bA]
 refine⟨⟨hA.d,hA.size,λk x hk=>?_⟩,?_⟩
 ·obtain⟨y,h1,h2⟩:=bA4 hn (B:=B) (λp hp'=>by
   have:=key hp p hp';unfold atE at this;grind) hk
  obtain⟨v,h3,h4⟩:=hA.get k y h1;grind
 ·obtain⟨⟨R,s1,s2⟩,s0⟩:=hS;obtain⟨h1,h2⟩:=a5H hn (B:=B) (w:=w) (R:=R) (L:=L) (λp hp'=>by
   have:=key hq p hp';unfold atL at this;split at this
   ·rename_i k cs hc;exact⟨k,cs,hc,this⟩
   grind) ha
  exact⟨⟨R,s1.imp h1,h2 s2⟩,s0⟩
theorem aGI{g:Gx}{cf:uI}{v:SV}:∀{qs:List (Nat×Nat)} {L M:List Ch},Frz g cf L M->((qs.map (·.1)).all λj=>eZ j cf.yR)=true->Frz g cf L (rhL v M qs)
 |[],L,M,h,_=>h
 |(i,j)::r,L,M,h,hz=>by
  simp only[PY,aS3,GF] at hz;simp only[rhL];split
  ·exact aGI (qs:=r) (aZQ h hz.1) hz.2
  ·exact aGI (qs:=r) h hz.2
theorem rh(s:AC){n0 n1:Nat}(hn:n0=n1)(ps qs:List (Nat×Nat))(hp:bA (atE e) ps=some (ps.map λ_=>.h s n0))(hq:bA (atL L) qs=some (qs.map λ_=>.h s n0))(ha:(dE (qs.map (·.1)) && (qs.map (·.1)).all λj=>eZ j cf.yR)=true)
  (k:G (.mk P T hT n c B0 N X Q) K m (rhE (.h s n1) e ps) (rhL (.h s n1) L qs) cf):G (.mk P T hT n c B0 N X Q) K m e L cf:=by
 rw[GF] at ha;refine chg (λ_:Unit=>m) (λ_=>rhE (.h s n1) e ps) (λ_=>rhL (.h s n1) L qs) (λB a w hm hA hS=>?_) (λ_=>aGI (by simpa using uK (L:=L) []) ha.2) (λ_=>k);obtain⟨h1,h2⟩:=a5I s hn hp hq ha.1 hA hS;simp_all
theorem lY{Z:Act->World->Prop}(s:AC){n0 n1:Nat}(hn:n0=n1)(ps qs:List (Nat×Nat))(q0_:bA (atE e) ps=some (ps.map λ_=>.h s n0)/\bA (atL L) qs=some (qs.map λ_=>.h s n0)/\dE (qs.map (·.1))=true)
  (kk:∀a w,qY n c B0 m (rhE (.h s n1) e ps) (rhL (.h s n1) L qs) a w->Z a w):∀a w,qY n c B0 m e L a w->Z a w:=by
 obtain⟨hp,hq,ha⟩:=q0_;intro a w ⟨B,hm,hA,hS⟩;obtain⟨h1,h2⟩:=a5I s hn hp hq ha hA hS;exact kk a w ⟨B,hm,h1,h2⟩
end
section
variable {P:Program} {T:TT} {hT:GJ P T} {n:Nat} {c:Ctx} {B0:Bl} {N:Act->World->Prop} {X:Nat->Act->World->Prop} {Q:Act->World->Prop} {K K':List Fr} {m m':Nat} {e e':SE} {L L' Lv:List Ch} {cf cf' cf1 cf2:uI} {o:Oper} {d:Nat}
section
variable {x:Operand} {t t2 el sz:Nat} {b1 b2 b3:Bool} {n1 n2 n3:Nat} {z1 z2 z3:List SV}
theorem qbo(p:Nat){s:AC}{l:List UInt8}(hs:opS (jE T n K cf m e L)=some (o,Lv,cf1,cf2,K',m',e',L'))(ho:(o.op,o.dst)=(.convert t t2 x,some d))(ht:AQ T t=some ⟨.sl el,b1,n1,z1⟩)(he:AQ T el=some ⟨.i .u8,b2,n2,z2⟩)(h2:AQ T t2=some ⟨.s,b3,n3,z3⟩)(hp:Lv[p]?=some (ow s l))(hx:iM e' x=some (.h s l.length))
  (kk:G (.mk P T hT n c B0 N X Q) K' m' ((d,.s l)::e') L' cf2):G (.mk P T hT n c B0 N X Q) K m e L cf:=by
 refine pu hs (cY Prod.snd ho) (λB a w hA hS=>⟨_,rfl,?_⟩) kk;obtain⟨⟨R,s1,s2⟩,s0⟩:=hS;have hr:=s1.a4I (cs:=[s.v l.length]) (d:=l) p (by simp[hp,kP]);obtain⟨de,q1,q2⟩:=hT.und _ _ he;exact bH9 hr (GM ht hT) aj (bK5 h2 hT) (cY Prod.fst ho) (hdB hA hx)
theorem bFF{O:Type}[aL O](E:CO O){q:O}{y:E.ex}{ec:List Value}(h:bA (bZ []) (E.cs q y)=some ec)(hL:E.Lx q y=[])(w:World):aL.rd F0 w ec q:=by have:=(E.pk h w F0).2 (by rw[hL];exact λ_ _ h=>h);grind[aL.own_rd]
theorem lits{O:Type}[aL O](E:CO O)(y:E.ex){sz:Nat}{B:Bl}{a:Act}(hA:gR n B e a)(hL:∀q,E.Lx q y=[]):∀{ps:List (Nat×Operand)} {qs:List O},bA (λp=>(iM e p.2).map λv=>nbL (o4 v)) ps=some (qs.map λq=>E.cs q y)->(qs.all λq=>Nat.beq (E.cs q y).length sz && (bA (bZ []) (E.cs q y)).isSome)=true ->
  ∃vs cells,evs (vE B e) (ps.map (·.2))=some vs/\vs.length=ps.length/\(vs.all λv=>v.cells.size == sz)=true/\(vs.flatMap λv=>v.cells.toList)=cells/\aVE sz cells qs
 |[],[],_,_=>⟨[],[],rfl,rfl,rfl,rfl,rfl⟩
 |[],q::qs,h,_=>by cases h
 |p::ps,[],h,_=>by grind[bA]
 |p::ps,q::qs,h,hc=>by
  simp only[bA,PY] at h;split at h
  ·cases h
  ·rename_i c0 h1;split at h
   ·cases h
   ·rename_i cs h2;simp only[Option.some.injEq,List.cons.injEq] at h;obtain⟨rfl,rfl⟩:=h;simp only[aS3,GF] at hc;obtain⟨⟨hl,hsome⟩,hc⟩:=hc;obtain⟨vs,cells,g1,g2,g3,g4,g5⟩:=lits E y hA hL h2 (by simpa using hc);obtain⟨ec,hec⟩:=aON.1 hsome;cases hxv:iM e p.2 with
    |none=>rw[hxv] at h1;cases h1
    |some xv=>
     rw[hxv] at h1;simp at h1;obtain⟨v,v1,v2⟩:=eH hA hxv;have hcell:bA (bZ B) (o4 xv)=some ec:=by rw[<-R4,h1];exact fB (λx v h=>by simpa using gK (B:=[]) B h) hec
     have hvc:v.cells.toList=ec:=VN v1 hcell;have hecl:ec.length=sz:=by rw[mL hec];exact pV hl
     refine⟨v::vs,ec++cells,by simp[evs,v2,g1],by simp[g2],?_,by simp[hvc,g4],?_,?_⟩
     ·rw[aS3,g3,<-Array.length_toList,hvc,hecl];simp
     ·rw[List.take_append_of_le_length (YZ hecl.symm),<-hecl,List.take_length];exact bFF E hec (hL q) _
     ·rw[List.drop_append_of_le_length (YZ hecl.symm),<-hecl,List.drop_length,aVA,hecl];exact g5
theorem ltK{O:Type}[aL O][Flat O](E:CO O)(y:E.ex)(qs:List O){len:Nat}{ps:List (Nat×Operand)}{zv:Value}(hinf:Inf P el sz zv)(hs:jE T n K cf m e L=.op o Lv cf1 cf2 K' m' e' L')(ho:(o.op,o.dst)=(.buildSlice t len ⟨ps⟩,some d))(ht:AQ T t=some ⟨.sl el,b1,n1,z1⟩)(hn:aL.n O=sz)(hl:qs.length=len)(hm:Nat.ble 1 sz=true)(hsm:Nat.ble (len*sz) 16777216=true)(hix:ps.map (·.1)=List.range' 0 len)(hev:bA (λp=>(iM e' p.2).map λv=>nbL (o4 v)) ps=some (qs.map λq=>E.cs q y))(hec:(qs.all λq=>Nat.beq (E.cs q y).length sz && (bA (bZ []) (E.cs q y)).isSome)=true)(hL:∀q,E.Lx q y=[])
  (k:∀s':AC,G (.mk P T hT n c B0 N X Q) K' m' ((d,.h s' qs.length)::e') (L'++[ow s' qs]) cf2):G (.mk P T hT n c B0 N X Q) K m e L cf:=by
 refine aW1 (l:=qs) (λs'=>L'++[ow s' qs]) hs (cY Prod.snd ho) (λ_=>uK _) (λB a w hA hS=>?_) k;obtain⟨⟨R,s1,s2⟩,s0⟩:=hS;obtain⟨vs,cells,g1,g2,g3,g4,g5⟩:=lits E y (sz:=sz) hA hL hev hec;have hpl:ps.length=len:=by have:=cY List.length hix;grind
 obtain⟨v,w',k1,k2⟩:=a9C (e:=vE B e') (o:=o) (ps:=ps) (vs:=vs) (cells:=cells) qs s1 hn (GM ht hT) hinf hl hm hsm g5 (cY Prod.fst ho) g1 (aOU hix (by rw[g2,hpl]) g3 g4);obtain⟨s',rfl⟩:=aIO (v:=v) (l:=qs) k2 (L'.map (kP B)).length ae;refine⟨s',w',k1,⟨⟨R,by grind[kP],λz hz=>?_⟩,s0⟩⟩;rcases jG.1 hz with hz|hz
 ·grind
 ·simp at hz;subst hz;trivial
end
end
section
variable {P:Program} {T:TT} {hT:GJ P T} {n:Nat} {c:Ctx} {B0:Bl} {N:Act->World->Prop} {X:Nat->Act->World->Prop} {Q:Act->World->Prop} {K K':List Fr} {m m':Nat} {e e':SE} {L L' Lv:List Ch} {cf cf' cf1 cf2:uI} {o:Oper} {d:Nat}
theorem un{O:Type}[aL O](j:Nat)(ks:List Nat)(ps qs:List (Nat×Nat)){s:AC}{n0:Nat}{l:List O}(q0_:L[j]?=some (.o (cS [s.v n0] l))/\eZ j cf.yR=true/\bA (FL e) ks=some (ks.map λ_=>.h s n0)/\bA (atE (ovh (.h s l.length) e ks)) ps=some (ps.map λ_=>.h s n0)/\bA (atL (L.set j (ow s l))) qs=some (qs.map λ_=>.h s n0)/\(dE (qs.map (·.1)) && (qs.map (·.1)).all λj=>eZ j cf.yR)=true)
  (k:l.length=n0->G (.mk P T hT n c B0 N X Q) K m (rhE (.h s l.length) (ovh (.h s l.length) e ks) ps) (rhL (.h s l.length) (L.set j (ow s l)) qs) cf):G (.mk P T hT n c B0 N X Q) K m e L cf:=by
 obtain⟨hj,hz,hk,hp,hq,ha⟩:=q0_;rw[GF] at ha;refine chg (λ_:PLift (l.length=n0)=>m) (λ_=>rhE (.h s l.length) (ovh (.h s l.length) e ks) ps) (λ_=>rhL (.h s l.length) (L.set j (ow s l)) qs) (λB a w hm hA hS=>?_) (λ_=>aGI (GN hz) ha.2) (λh=>k h.down);have hn:l.length=n0:=by obtain⟨⟨R,s1,s2⟩,s0⟩:=hS;obtain⟨F,hF⟩:=s1.chunk (ch:=cS [s.v n0] l) j (by simp[hj,kP]);obtain⟨ad,cp,h1,h2⟩:=PO (show aL.own w [s.v n0] l F from hF);grind
 subst hn;have hS':mK c w B (L.set j (ow s l)):=by grind[aVB]
 obtain⟨h1,h2⟩:=a5I s rfl hp hq ha.1 (aW0 ks hk hA) hS';exact⟨⟨rfl⟩,[],aj,aj,aj⟩
theorem rr(s:AC){n0 n1:Nat}(hn:n0=n1)(ks:List Nat)(ps qs:List (Nat×Nat))(hk:bA (FL e) ks=some (ks.map λ_=>.h s n0))(hp:bA (atE (ovh (.h s n1) e ks)) ps=some (ps.map λ_=>.h s n0))(hq:bA (atL L) qs=some (qs.map λ_=>.h s n0))(ha:(dE (qs.map (·.1)) && (qs.map (·.1)).all λj=>eZ j cf.yR)=true)
  (k:G (.mk P T hT n c B0 N X Q) K m (rhE (.h s n1) (ovh (.h s n1) e ks) ps) (rhL (.h s n1) L qs) cf):G (.mk P T hT n c B0 N X Q) K m e L cf:=by
 rw[GF] at ha;subst hn;refine chg (λ_:Unit=>m) (λ_=>rhE (.h s n0) (ovh (.h s n0) e ks) ps) (λ_=>rhL (.h s n0) L qs) (λB a w hm hA hS=>?_) (λ_=>aGI (by simpa using uK (L:=L) []) ha.2) (λ_=>k);obtain⟨h1,h2⟩:=a5I s rfl hp hq ha.1 (aW0 ks hk hA) hS;simp_all
theorem cpy{d:Option Nat}{x y:Operand}{t t2 el sz:Nat}{O:Type}[aL O][Flat O]{s s2:AC}{l xs:List O}{b1 b2:Bool}{n1:Nat}{z1 z2:List SV}{kt:TK}(p a:Nat)(hb:a<=l.length/\l.length<=l.length)(hsrc:∀{w},HS c w L'->bI (eJ w) s2 xs)(hs:jE T n K cf m e L=.op o Lv cf1 cf2 K' m' e' L')(ho:(o.op,o.dst)=(.call {callee:=.builtin .copy,args:=#[x,y],argTypes:=#[t,t2]},d))(ht:AQ T t=some ⟨.sl el,b1,n1,z1⟩)(he:AQ T el=some ⟨kt,b2,sz,z2⟩)(hn:aL.n O=sz)(hp:(L'[p]?,eZ p cf1.yR)=(some (ow s l),true))(hx:iM e' x=some (.h (s.sub sz a) ((l.take l.length).drop a).length))(hy:iM e' y=some (.h s2 xs.length))
  (k:G (.mk P T hT n c B0 N X Q) K' m' (dse d (.i .i64 ((min xs.length (l.length-a):Nat):Int)) e') (L'.set p (ow s (cW l a xs))) cf2):G (.mk P T hT n c B0 N X Q) K m e L cf:=by
 have hp1:L'[p]?=some (ow s l):=cY Prod.fst hp;have hz:eZ p cf1.yR=true:=cY Prod.snd hp;have hlen:(cW l a xs).length=l.length:=fQ hb.1;refine gY (g:=.mk P T hT n c B0 N X Q) ?_;rw[hs];intro hdn _ hE;refine hE Unit (λ_=>m') (λ_=>dse d (.i .i64 ((min xs.length (l.length-a):Nat):Int)) e') (λ_=>L'.set p (ow s (cW l a xs))) (λ_=>GN hz) (λB act w next Q' hm hA hS hnext=>?_) (λ_=>k);have hr:bI (eJ w) s2 xs:=hsrc ⟨_,hS⟩;obtain⟨⟨R,s1,s2'⟩,s0⟩:=hS;have hx2:ev (vE (B0S (.mk P T hT n c B0 N X Q) cf1++B) e') x=some (iJ sz a l.length (s.v l.length)):=by grind[hdB,R8]
 have hop:o.op=.call {callee:=.builtin .copy,args:=#[x,y],argTypes:=#[t,t2]}:=cY Prod.fst ho;have hd:o.dst=d:=cY Prod.snd ho;obtain⟨v,w',k1,rfl,k2⟩:=a4R p s1 (by rw[B7,hp1];rfl) hr hn hb.1 (GM ht hT) (hT.size _ _ he) hop hx2 (hdB hA hy);unfold Oper.wp;rw[k1 _ act hA.env,Oper.upon_value,hd];have hS2:mK c w' (B0S (.mk P T hT n c B0 N X Q) cf1++B) (L'.set p (ow s (cW l a xs))):=by
  refine⟨⟨R,?_,λz hz=>?_⟩,s0⟩
  ·rw[LR];show St c w' ((L'.map _).set p (cS [s.v (cW l a xs).length] _)) R;grind
  ·rcases tY hz with hz|hz
   ·grind
   ·subst hz;trivial
 cases d with
 |none=>exact hnext () _ _ ⟨[],aj,by grind[Act.put,dse],aj⟩
 |some d=>exact hnext () _ _ ⟨[],aj,by simpa[dse] using hA.of (by simp[fP,gV,bZ]) (hA.env.put (by grind[sD,yT]) _),aj⟩
theorem cp0{d:Option Nat}{x y:Operand}{t t2 el sz:Nat}{O:Type}[aL O][Flat O]{s s2:AC}{l xs:List O}{b1 b2:Bool}{n1:Nat}{z1 z2:List SV}{kt:TK}(p:Nat)(hsrc:∀{w},HS c w L'->bI (eJ w) s2 xs)(hs:jE T n K cf m e L=.op o Lv cf1 cf2 K' m' e' L')(ho:(o.op,o.dst)=(.call {callee:=.builtin .copy,args:=#[x,y],argTypes:=#[t,t2]},d))(ht:AQ T t=some ⟨.sl el,b1,n1,z1⟩)(he:AQ T el=some ⟨kt,b2,sz,z2⟩)(hn:aL.n O=sz)(hp:(L'[p]?,eZ p cf1.yR)=(some (ow s l),true))(hx:iM e' x=some (.h s l.length))(hy:iM e' y=some (.h s2 xs.length))
  (k:G (.mk P T hT n c B0 N X Q) K' m' (dse d (.i .i64 ((min xs.length (l.length-0):Nat):Int)) e') (L'.set p (ow s (cW l 0 xs))) cf2):G (.mk P T hT n c B0 N X Q) K m e L cf:=by
 have hp1:L'[p]?=some (ow s l):=cY Prod.fst hp;have hz:eZ p cf1.yR=true:=cY Prod.snd hp;have hlen:(cW l 0 xs).length=l.length:=fQ (lB _);refine gY (g:=.mk P T hT n c B0 N X Q) ?_;rw[hs];intro hdn _ hE;refine hE Unit (λ_=>m') (λ_=>dse d (.i .i64 ((min xs.length (l.length-0):Nat):Int)) e') (λ_=>L'.set p (ow s (cW l 0 xs))) (λ_=>GN hz) (λB act w next Q' hm hA hS hnext=>?_) (λ_=>k);have hr:bI (eJ w) s2 xs:=hsrc ⟨_,hS⟩;obtain⟨⟨R,s1,s2'⟩,s0⟩:=hS;have hop:o.op=.call {callee:=.builtin .copy,args:=#[x,y],argTypes:=#[t,t2]}:=cY Prod.fst ho;have hd:o.dst=d:=cY Prod.snd ho;obtain⟨v,w',k1,rfl,k2⟩:=a9S p s1 (by rw[B7,hp1];rfl) hr hn (GM ht hT) (hT.size _ _ he) hop (hdB hA hx) (hdB hA hy);unfold Oper.wp;rw[k1 _ act hA.env,Oper.upon_value,hd];have hS2:mK c w' (B0S (.mk P T hT n c B0 N X Q) cf1++B) (L'.set p (ow s (cW l 0 xs))):=by
  refine⟨⟨R,?_,λz hz=>?_⟩,s0⟩
  ·rw[LR];show St c w' ((L'.map _).set p (cS [s.v (cW l 0 xs).length] _)) R;grind
  ·rcases tY hz with hz|hz
   ·grind
   ·subst hz;trivial
 cases d with
 |none=>exact hnext () _ _ ⟨[],aj,by grind[Act.put,dse],aj⟩
 |some d=>exact hnext () _ _ ⟨[],aj,by simpa[dse] using hA.of (by simp[fP,gV,bZ]) (hA.env.put (by grind[sD,yT]) _),aj⟩
theorem fR{Z:Act->World->Prop}{e1:SE}{L1:List Ch}(q0_:a6X e=some e1/\a6Y L=some L1)(kk:∀a w,qY n c B0 m e1 L1 a w->Z a w):∀a w,qY n c B0 m e L a w->Z a w:=by obtain⟨h1,h2⟩:=q0_;grind[aN0,aN1]
end
def swN(i j n:Nat):Nat:=match Nat.beq n i with
 |true=>j
 |false=>match Nat.beq n j with
  |true=>i
  |false=>n
def swC(i j:Nat):SV->SV
 |.p n o=>.p (swN i j n) o
 |x=>x
def a61(i j:Nat):List SV->List SV
 |[]=>[]
 |x::r=>swC i j x::a61 i j r
def swG(i j:Nat):SV->SV
 |.g cs=>.g (a61 i j cs)
 |x=>swC i j x
def bFG(i j:Nat):List SV->List SV
 |[]=>[]
 |x::r=>swG i j x::bFG i j r
def swF(i j:Nat):List Nat->List Nat
 |[]=>[]
 |n::r=>swN i j n::swF i j r
def swT(i j:Nat):SV->SV
 |.t cs=>.t (bFG i j cs)
 |.f f ns=>.f f (swF i j ns)
 |x=>swG i j x
def swE(i j:Nat):SE->SE
 |[]=>[]
 |(k,x)::r=>(k,swT i j x)::swE i j r
def swL(i j:Nat):List Ch->List Ch
 |[]=>[]
 |x::r=>(match x with
  |.box n cs=>.box (swN i j n) (a61 i j cs)
  |.ro n cs=>.ro (swN i j n) (a61 i j cs)
  |.w n b z=>.w (swN i j n) b z
  |y=>y)::swL i j r
section
variable {B B':Bl} {i j:Nat}
theorem bA5(h:∀n,B'[swN i j n]?=B[n]?)(x:SV):bZ B' (swC i j x)=bZ B x:=by cases x<;>first|rfl|grind[swC,bZ]
theorem aN8(h:∀n,B'[swN i j n]?=B[n]?):∀cs:List SV,bA (bZ B') (a61 i j cs)=bA (bZ B) cs
 |[]=>rfl
 |x::r=>by simp only[a61,bA,bA5 h,aN8 h r]
theorem a2F(h:∀n,B'[swN i j n]?=B[n]?)(x:SV):gV B' (swG i j x)=gV B x:=by
 cases x with
 |g cs=>grind[swG,gV,aN8]
 |p n o=>exact bA5 h (.p n o)
 |_=>rfl
theorem a5J(h:∀n,B'[swN i j n]?=B[n]?):∀cs:List SV,bA (gV B') (bFG i j cs)=bA (gV B) cs
 |[]=>rfl
 |x::r=>by simp only[bFG,bA,a2F h,a5J h r]
theorem bA6(h:∀n,B'[swN i j n]?=B[n]?):∀cs:List Nat,bA (aAF B') (swF i j cs)=bA (aAF B) cs
 |[]=>rfl
 |x::r=>by simp only[swF,bA,aAF,h];rw[show bA (aAF B') (swF i j r)=bA (aAF B) r from bA6 h r]
theorem bIV(h:∀n,B'[swN i j n]?=B[n]?)(x:SV):fP B' (swT i j x)=fP B x:=by
 cases x with
 |t cs=>grind[swT,fP,a5J]
 |f f ns=>grind[swT,fP,bA6]
 |g cs=>exact a2F h (.g cs)
 |p n o=>exact a2F h (.p n o)
 |_=>rfl
theorem bA7{k:Nat}{x:SV}:∀{e:SE},FL (swE i j e) k=some x->∃y,FL e k=some y/\x=swT i j y
 |[],h=>by cases h
 |(k',y)::r,h=>by
  simp only[swE,FL] at h ⊢;split at h
  ·grind
  ·rename_i hb;exact bA7 h
theorem a5K(h:∀n,B'[swN i j n]?=B[n]?){w:World}{R:List Fact}:∀(L:List Ch),jO w (L.map (kP B)) ((swL i j L).map (kP B'))/\((∀x∈L,roF B R x)->∀x∈swL i j L,roF B' R x)
 |[]=>⟨.nil,λ_ x hx=>by cases hx⟩
 |x::L=>by
  obtain⟨h1,h2⟩:=a5K h (w:=w) (R:=R) L;refine⟨.cons (λF hF=>?_) h1,λhr y hy=>?_⟩
  ·cases x with
   |box n cs=>
    obtain⟨b,z,vs,k1,k2,k3⟩:=hF;exact⟨b,z,vs,aj,by grind[aN8],k3⟩
   |_=>exact hF
  ·rcases xS.1 hy with hy|hy
   ·have hx:=hr x ae;cases x with
    |box n cs=>subst hy;trivial
    |ro n cs=>
     obtain⟨b,z,vs,k1,k2,k3⟩:=hx;subst hy;exact⟨b,z,vs,aj,by grind[aN8],k3⟩
    |w n b z=>subst hy;show B'[swN i j n]?=_;rw[h];exact hx
    |o c=>subst hy;trivial
    |no=>subst hy;trivial
    |f f=>subst hy;exact hx
   grind
end
theorem bLC{B:Bl}{i j:Nat}(hi:i<B.length)(hj:j<B.length):∃B':Bl,B'.length=B.length/\(∀n,B'[swN i j n]?=B[n]?):=by
 refine⟨(B.set i B[j]).set j B[i],ae,λn=>?_⟩;unfold swN;cases h1:Nat.beq n i with
 |true=>
  simp_all
 |false=>
  have h1:n≠i:=λh=>by simp_all
  cases h2:Nat.beq n j with
  |true=>
   simp_all
  |false=>
   have h2:n≠j:=λh=>by simp_all
   grind
section
variable {n:Nat} {c:Ctx} {B0:Bl} {m:Nat} {e:SE} {L:List Ch}
theorem swR{Z:Act->World->Prop}(i j:Nat)(h:(Nat.ble B0.length i && (Nat.ble B0.length j && (Nat.blt i m && Nat.blt j m)))=true)
  (kk:∀a w,qY n c B0 m (swE i j e) (swL i j L) a w->Z a w):∀a w,qY n c B0 m e L a w->Z a w:=by
 simp only[GF,Nat.ble_eq,yT] at h;obtain⟨h1,h2,h3,h4⟩:=h;intro a w ⟨B,hm,hA,hS⟩;refine kk a w ?_;rw[LQ] at hm;obtain⟨B',hl,hB⟩:=bLC (B:=B) (i:=i-B0.length) (j:=j-B0.length) aa aa;have key:∀n,(B0++B')[swN i j n]?=(B0++B)[n]?:=by
  intro n;have hsw:∀n,n<B0.length->swN i j n=n:=λn hn=>by grind[swN,pV]
  have hge:∀n,B0.length<=n->swN i j n=B0.length+swN (i-B0.length) (j-B0.length) (n-B0.length):=λn hn=>by
   have q1:Nat.beq (n-B0.length) (i-B0.length)=Nat.beq n i:=by rw[XF];(simp_all;omega)
   have q2:Nat.beq (n-B0.length) (j-B0.length)=Nat.beq n j:=by rw[XF];(simp_all;omega)
   grind[swN]
  grind[Nat.add_sub_cancel_left]
 refine⟨B',aj,⟨hA.d,hA.size,λk x hk=>?_⟩,?_⟩
 ·obtain⟨y,g1,rfl⟩:=bA7 hk;obtain⟨v,g2,g3⟩:=hA.get k y g1;grind[bIV]
 ·obtain⟨⟨R,s1,s2⟩,s0⟩:=hS;obtain⟨g1,g2⟩:=a5K key (w:=w) (R:=R) L;exact⟨⟨R,s1.imp g1,g2 s2⟩,s0⟩
theorem P1{Z:Act->World->Prop}{O:Type}[aL O](j:Nat){s:AC}{l:List O}{n0:Nat}(hl:l.length=n0)(hj:L[j]?=some (ow s l))
  (kk:∀a w,qY n c B0 m e (L.set j (.o (cS [s.v n0] l))) a w->Z a w):∀a w,qY n c B0 m e L a w->Z a w:=by
 grind[aVB]
end
theorem fG{P:Program}{T:TT}{hT:GJ P T}{n:Nat}{c:Ctx}{B0:Bl}{N:Act->World->Prop}{X:Nat->Act->World->Prop}{Q:Act->World->Prop}{K:List Fr}{m:Nat}{e e1:SE}{L L1:List Ch}{cf:uI}(h1:a6X e=some e1)(h2:a6Y L=some L1)(k:G (.mk P T hT n c B0 N X Q) K m e1 L1 cf):G (.mk P T hT n c B0 N X Q) K m e L cf:=by grind[aN0,aN1]
def fc1:SV->Option SV
 |.i k x=>some (.i k x)
 |.y b=>some (.y b)
 |.b c=>some (.b c)
 |.l c=>some (.l c)
 |.s l=>some (.s l)
 |.p n o=>some (.p n o)
 |.h s n=>some (.h s n)
 |.e s n i o=>some (.e s n i o)
 |.k x=>some (.k x)
 |.g cs=>some (.g cs)
 |.t cs=>some (.t cs)
 |.f f cs=>some (.f f cs)
 |.u=>some .u
def fcs:List SV->Option (List SV)
 |[]=>some []
 |x::r=>match fc1 x with
  |some y=>match fcs r with
   |some s=>some (y::s)
   |none=>none
  |none=>none
def fc2:SV->Option SV
 |.g cs=>match fcs cs with
  |some ds=>some (.g ds)
  |none=>none
 |x=>fc1 x
def fgs:List SV->Option (List SV)
 |[]=>some []
 |x::r=>match fc2 x with
  |some y=>match fgs r with
   |some s=>some (y::s)
   |none=>none
  |none=>none
def fc3:SV->Option SV
 |.t cs=>match fgs cs with
  |some ds=>some (.t ds)
  |none=>none
 |x=>fc2 x
def fdE:SE->Option SE
 |[]=>some []
 |(k,v)::r=>match fc3 v with
  |some y=>match fdE r with
   |some s=>some ((k,y)::s)
   |none=>none
  |none=>none
def fdL:List Ch->Option (List Ch)
 |[]=>some []
 |x::r=>match fdL r with
  |some s=>match x with
   |.box n cs=>match fcs cs with
    |some ds=>some (.box n ds::s)
    |none=>none
   |.ro n cs=>match fcs cs with
    |some ds=>some (.ro n ds::s)
    |none=>none
   |y=>some (y::s)
  |none=>none
theorem bA8{x y:SV}(h:fc1 x=some y):y=x:=by cases x<;>simp only[fc1] at h<;>cases h<;>rfl
theorem a2G:∀{l r:List SV},fcs l=some r->r=l
 |[],r,h=>by cases h;rfl
 |x::l,r,h=>by
  simp only[fcs] at h;split at h
  ·rename_i y hy;split at h
   ·rename_i s hs;cases h;rw[bA8 hy,a2G hs]
   ·cases h
  ·cases h
theorem bA9{x y:SV}(h:fc2 x=some y):y=x:=by
 cases x with
 |g cs=>
  grind[fc2,a2G]
 |_=>exact bA8 h
theorem bBA:∀{l r:List SV},fgs l=some r->r=l
 |[],r,h=>by cases h;rfl
 |x::l,r,h=>by
  simp only[fgs] at h;split at h
  ·rename_i y hy;split at h
   ·rename_i s hs;cases h;rw[bA9 hy,bBA hs]
   ·cases h
  ·cases h
theorem bIX{x y:SV}(h:fc3 x=some y):y=x:=by
 cases x with
 |t cs=>
  grind[fc3,bBA]
 |_=>exact bA9 h
theorem bBB:∀{e r:SE},fdE e=some r->r=e
 |[],r,h=>by cases h;rfl
 |(k,v)::l,r,h=>by
  simp only[fdE] at h;split at h
  ·rename_i y hy;split at h
   ·rename_i s hs;cases h;rw[bIX hy,bBB hs]
   ·cases h
  ·cases h
theorem bBC:∀{e r:List Ch},fdL e=some r->r=e
 |[],r,h=>by cases h;rfl
 |x::l,r,h=>by
  simp only[fdL] at h;split at h
  ·rename_i s hs;have:=bBC hs;grind[a2G]
  ·cases h
theorem fD{n:Nat}{c:Ctx}{B0:Bl}{m:Nat}{e e1:SE}{L L1:List Ch}{Z:Act->World->Prop}(h1:fdE e=some e1)(h2:fdL L=some L1)(kk:∀a w,qY n c B0 m e1 L1 a w->Z a w):∀a w,qY n c B0 m e L a w->Z a w:=by grind[bBB,bBC]
end Go.Gv
end
