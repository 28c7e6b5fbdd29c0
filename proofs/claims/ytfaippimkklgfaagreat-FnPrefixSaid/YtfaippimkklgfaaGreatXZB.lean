import Derived.Test.YtfaippimkklgfaaGreatXZA
set_option linter.unusedVariables false
set_option linter.unusedSimpArgs false
set_option linter.unusedSectionVars false
set_option linter.constructorNameAsVariable false
set_option linter.unnecessarySimpa false
noncomputable section
namespace Go.Gv
noncomputable section
variable {P:Program} {T:TT} {n:Nat} {B:Bl} {e:SE} {a:Act} {o:Oper} {w w':World} {x y:Operand} {c:Ctx} {L:List Ch}
theorem aA3{ops:Array Oper}(h:DC ops e o.guard=.yes):Want ops o (vE B e) true:=by
 unfold DC at h;split at h
 ·exact cA (by assumption)
 ·rename_i j w hg;split at h
  ·rename_i q hq;split at h
   ·rename_i s hs;have hj:(ops[j]?).bind (·.dst)=some s:=by rw[<-Array.getElem?_toList,hq];exact hs
    split at h
    ·rename_i c hl;have hv:lk (vE B e) s=some (.bool c):=by rw[aJT hl];rfl
     refine cO hg hj hv ?_;split at h<;>first | rfl | cases h
    all_goals cases h
   ·cases h
  ·cases h
theorem a9J{ops:Array Oper}(h:DC ops e o.guard=.no):Want ops o (vE B e) false:=by
 unfold DC at h;split at h
 ·cases h
 ·rename_i j w hg;split at h
  ·rename_i q hq;split at h
   ·rename_i s hs;have hj:(ops[j]?).bind (·.dst)=some s:=by rw[<-Array.getElem?_toList,hq];exact hs
    split at h
    ·rename_i c hl;have hv:lk (vE B e) s=some (.bool c):=by rw[aJT hl];rfl
     refine cO hg hj hv ?_;cases c<;>cases w<;>first | rfl | cases h
    ·rename_i hl;exact a6S hg hj (by rw[aJT hl];rfl)
    all_goals cases h
   ·cases h
  ·cases h
theorem aSR{m:Nat}:∀{L:List Ch},VK m L=true->∃i cs,L[i]?=some (.box m cs)/\LA m L=some cs/\∀cs',AN m cs' L=L.set i (.box m cs')
 | [],h=>by cases h
 | x :: L, h => by
  have ih:VK m L=true->LA m (x :: L)=LA m L->(∀cs',AN m cs' (x :: L)=x :: AN m cs' L)->∃i cs,(x :: L)[i]?=some (.box m cs)/\LA m (x :: L)=some cs/\∀cs',AN m cs' (x :: L)=(x :: L).set i (.box m cs'):=fun h h2 h3=>by obtain⟨i,cs,g1,g2,g3⟩:=aSR h;exact⟨i+1,cs,by grind,by rw[h2,g2],fun cs'=>by grind⟩
  cases x with
  | box k cs =>
   simp only[VK] at h;split at h
   ·rename_i hb;have:=qY hb;subst this;exact⟨0,cs,rfl,by grind[LA],fun cs'=>by grind[AN]⟩
   grind[LA,AN]
  | ro k cs =>
   grind[VK,LA,AN]
  | o ch=>exact ih h rfl (fun _=>rfl)
  | f g=>exact ih h rfl (fun _=>rfl)
  | no=>exact ih h rfl (fun _=>rfl)
  | w k b z=>exact ih h rfl (fun _=>rfl)
theorem aZL(hT:H3 P T)(hA:hY n B e a)(hS:nC c w B L){t:TypeId}{p v:SV}{L':List Ch}(ho:o.op=.store t x y)(hx:j4 e x=some p)(hy:j4 e y=some v)(h:aA0 T t p v L=some L'):∃w',a1A P o (vE B e) w w'/\nC c w' B L':=by
 unfold aA0 at h;split at h
 ·rename_i m j;split at h
  ·rename_i hb;split at h
   ·rename_i cs _ _ sz _ h1 h2;split at h
    ·rename_i h3 h4 h5;split at h
     case h_2=>cases h
     rename_i ds hds;have h4:=qY h4;have h5:=M7 h5;have:=T6 hds;rw[aQD _ _ _ (by omega)] at this;subst this;split at h
     case h_2=>cases h
     rename_i L2 hL2;cases h;have:=T6 hL2;subst this;obtain⟨i,cs',g1,g2,g3⟩:=aSR hb;rw[h1] at g2;cases g2;obtain⟨pv,hp1,hp2⟩:=fT hA hx;obtain⟨u,hu1,hu2⟩:=fT hA hy;obtain⟨vs,hv⟩:=aA2 h3 hu1;obtain⟨b,z,rs,k1,k2,_⟩:=hS.cells h1;simp only[fS,gV,bT,k1] at hp1;cases hp1;have hl:=mD hv;have hl2:=mD k2;obtain⟨⟨R,s1,s2⟩,s0⟩:=hS;have hlt:=(A4.1 g1).1;have gi:(L.map (lD B))[i]?=some (SD B m cs):=by rw[JN,g1];rfl
     have s3:St c w ((L.map (lD B)).set i (WU b z rs)) R:=s1.imp (kM.put i gi fun F ⟨b',z',vs',q1,q2,q3⟩=>by
      grind)
     obtain⟨w2,r1,r2⟩:=bCR (P:=P) (o:=o) (e:=vE B e) (b:=b) (q:=z) (cs:=rs) (vs:=vs) (j:=j) (m:=sz) s3 (i:=i) (by grind) ho hp2 hu2 (SF hu1 hv) (hT.size _ _ h2) (by omega) (Nat.ble_eq_true_of_le (by omega)) (aM6.2 fun q hq=>by
      obtain⟨k,hk⟩:=aI9 hq;have hk2:k<(qP v).length:=by grind
      obtain⟨q',hq1,hq2⟩:=SA hv (l9 hk2);grind[aJS])
     refine⟨w2,r1,⟨⟨R,?_,?_⟩,s0⟩⟩
     ·rw[K8] at r2;rw[g3,RY];exact r2.imp (kM.set i (kM.refl _) fun F hF=>⟨b,z,_,k1,aB4 j k2 hv,hF⟩)
     ·rw[g3];intro q hq;rcases oC hq with hq | hq
      ·grind
      ·subst hq;trivial
    ·cases h
   ·cases h
  ·cases h
 ·cases h
theorem nC.box(hS:nC c w B L){w':World}{b:Nat}{cs:List SV}{vs:List Value}(hc:aZ (bT B) cs=some vs)(h:∀M R,St c w M R->St c w' (M ++ [HK b vs]) R):nC c w' (B ++ [(b,0)]) (L ++ [.box B.length cs]):=by
 obtain⟨⟨R,s1,s2⟩,s0⟩:=hS;refine⟨⟨R,?_,?_⟩,s0⟩
 ·rw[A5];refine(h _ _ s1).imp (kM.append (ZA _ L) (.cons (fun F hF=>⟨b,0,vs,by simp,eZ (fun _ _=>gL _) hc,hF⟩) .nil))
 ·intro q hq;rcases jB.1 hq with hq | hq
  ·grind[aQB]
  ·simp at hq;subst hq;trivial
theorem a2Y(hT:H3 P T)(hS:nC c w B L){t:TypeId}{i:TI}{E:Env}(ho:o.op=.alloc t)(h:D3 T t=some i):∃v w' b,eR P o E w v w'/\v=.pointer (some ⟨b,0,none⟩)/\nC c w' (B ++ [(b,0)]) (L ++ [.box B.length i.z]):=by obtain⟨z,hz,hzc⟩:=hT.zero _ _ h;have hzc':aZ (bT B) i.z=some z.cells.toList:=eZ (fun x v h=>by simpa using gL (B:=[]) B h) hzc;refine⟨_,_,w.heap.size,fun _ a hA=>?_,rfl,hS.box hzc' fun M R hM=>hM.alloc z.cells.toList t⟩;simp_all[execOp,Instr.alloc,newVar,newRow]
theorem bA0(hA:hY n B e a)(hS:nC c w B L){t:TypeId}{v:SV}(ho:o.op=.box t x)(h:j4 e x=some v)(hc:isCells v=true):∃u w' b,eR P o (vE B e) w u w'/\u=.pointer (some ⟨b,0,none⟩)/\nC c w' (B ++ [(b,0)]) (L ++ [.box B.length (qP v)]):=by obtain⟨u,h1,h2⟩:=fT hA h;obtain⟨vs,h3⟩:=aA2 hc h1;have h4:=SF h1 h3;subst h4;refine⟨_,_,w.heap.size,fun _ a hA=>?_,rfl,hS.box h3 fun M R hM=>hM.alloc u.cells.toList t⟩;simp[execOp,ho,Instr.box,hA.eval h2,newVar,newRow]
end
structure Gx where
 P:Program
 T:TT
 hT:H3 P T
 n:Nat
 c:Ctx
 B0:Bl
 N:Act->World->Prop
 X:Nat->Act->World->Prop
 Q:Act->World->Prop
abbrev Rel(g:Gx)(m:Nat)(e:SE)(L:List Ch)(a:Act)(w:World):Prop:=pX g.n g.c g.B0 m e L a w
mutual
def NK(g:Gx):List Fr->Act->World->Prop
 | []=>g.N
 | .s y :: K=>fun a w=>CW g.P y (NK g K) (XK g K) g.Q a w
 | .k _ :: K=>NK g K
def XK(g:Gx):List Fr->Nat->Act->World->Prop
 | []=>g.X
 | .s _ :: K=>XK g K
 | .k id :: K=>aJD id (NK g K) (XK g K)
end
structure aEN (g:Gx) (B1:Bl) (ops:Array Oper) (l:List Bool) (is:List Nat) (Lf L:List Ch):Prop where
 pre:∃B,B1=g.B0++B
 len:l.length=ops.size
 free:aSP ops=true
 yZ:kl L is=Lf
 rng:∀j∈is,j<L.length
 okf:okL B1.length Lf=true
 ap:dQ is=true
abbrev Sd(g:Gx)(B1:Bl)(Lf:List Ch):World->Prop:=fun w=>nC g.c w B1 Lf
def bCY(g:Gx)(B1:Bl)(Lf Lv:List Ch)(m:Nat)(e:SE)(L:List Ch)(a:Act)(w:World):Prop:=∃B,(B1++B).length=m/\hY g.n (B1++B) e a/\nC g.c w (B1++B) L/\∀w',nC g.c w' B1 Lf->nC g.c w' (B1++B) Lv
def G(g:Gx)(K:List Fr)(m:Nat)(e:SE)(L:List Ch):wG->Prop
 | .n=>∀a w,Rel g m e L a w->NK g K a w
 | .c x=>∀a w,Rel g m e L a w->CW g.P x (NK g K) (XK g K) g.Q a w
 | .r ops l=>∀a w,Rel g m e L a w->wpList g.P ops (mkQ (NK g K) (XK g K) g.Q) l a w
 | .d B1 ops l is Lf Lv=>aEN g B1 ops l is Lf L->∀a w,bCY g B1 Lf Lv m e L a w->wpAnyH g.P .any ops (mkQ (NK g K) (XK g K) g.Q) (Sd g B1 Lf) (l.count false) l.toArray a w
 | .o B1 ops l is Lf Lv i=>aEN g B1 ops l is Lf L->∀a w,bCY g B1 Lf Lv m e L a w->wpOp g.P ops (mkQ (NK g K) (XK g K) g.Q) i (fun a' w'=>Sd g B1 Lf w'/\wpAnyH g.P .any ops (mkQ (NK g K) (XK g K) g.Q) (Sd g B1 Lf) ((l.set i true).count false) (l.set i true).toArray a' w') a w
def B0S(g:Gx):wG->Bl
 | .d B1 _ _ _ _ _=>B1
 | .o B1 _ _ _ _ _ _=>B1
 | _=>g.B0
def Frz(g:Gx)(cf:wG)(L L':List Ch):Prop:=match cf with
 | .d B1 ops l is Lf _=>aEN g B1 ops l is Lf L->kl L' is=Lf/\∀j∈is,j<L'.length
 | .o B1 ops l is Lf _ _=>aEN g B1 ops l is Lf L->kl L' is=Lf/\∀j∈is,j<L'.length
 | _=>True
def aB8(g:Gx)(K:List Fr)(m:Nat)(e:SE)(L:List Ch)(o:Oper)(Lv:List Ch)(cf cf':wG):Prop:=
 ∀(d:Nat) (x:SV) (Ln:List Ch) (nb:World->Bl) (k:Nat),o.dst=some d->(∀w,(nb w).length=k) ->
  (∀B a w,hY g.n B e a->nC g.c w B Lv->B.length=m->∃v,fS (B++nb g.c.w0) x=some v/\eR g.P o (vE B e) w v w) ->
  (∀B w L,B.length=m->nC g.c w B L->nC g.c w (B++nb g.c.w0) (L++Ln)) ->
  G g K (m+k) ((d,x) :: e) (L++Ln) (cf'.ext Ln)->G g K m e L cf
def aF4(g:Gx)(K:List Fr)(m:Nat)(e:SE)(L:List Ch)(o:Oper)(cf cf':wG):Prop:=
 ∀(ι:Type) (m':ι->Nat) (e':ι->SE) (L':ι->List Ch),(∀i,Frz g cf L (L' i)) ->
  (∀B a w (next:Act->World->Prop) (Q:Exit->Act->World->Prop),(B0S g cf++B).length=m->hY g.n (B0S g cf++B) e a->nC g.c w (B0S g cf++B) L->(∀i a' w',pX g.n g.c (B0S g cf++B) (m' i) (e' i) (L' i) a' w'->next a' w')->o.wp g.P a w next Q) ->
  (∀i,G g K (m' i) (e' i) (L' i) cf')->G g K m e L cf
def Gs(g:Gx):Stop->Prop
 | .ret m e L=>∀a w,Rel g m e L a w->g.Q a w
 | .fin m e L=>∀a w,Rel g m e L a w->g.N a w
 | .ex id m e L=>∀a w,Rel g m e L a w->g.X id a w
 | .cond o b x y K m e L=>j4 e o=some (.b b)->G g K m e L (.c (.cond o x y))
 | .case _ cf K m e L=>G g K m e L cf
 | .loop id y K m e L=>G g K m e L (.c (.block id (.loop y)))
 | .idx o d t s n i Lv cf cf' K m e L=>(∀x y,o.op=.indexAddr t x y->o.dst=some d->j4 e x=some (.h s n)->j4 e y=some (.i .i64 i)->aB8 g K m e L o Lv cf cf'->G g K m e L cf)
 | .call o d f xs cf cf' K m e L=>(∀fo args ats,o.op=.call {callee:=.value fo,args:=args,argTypes:=ats}->o.dst=d->j4 e fo=some (.f f [])->(∃ys,aZ (j4 e) args.toList=some ys/\nbA ys=xs)->okA xs=true->rS g.n d=true->aF4 g K m e L o cf cf'->G g K m e L cf)
 | .callp o d f xs cf cf' K m e L=>(∀fo args ats,o.op=.call {callee:=.value fo,args:=args,argTypes:=ats}->o.dst=d->j4 e fo=some (.f f [])->(∃ys,aZ (j4 e) args.toList=some ys/\nbA ys=xs)->rS g.n d=true->aF4 g K m e L o cf cf'->G g K m e L cf)
 | .op o Lv cf cf' K m e L=>rS g.n o.dst=true->aB8 g K m e L o Lv cf cf'->aF4 g K m e L o cf cf'->G g K m e L cf
 | .opp o Lv cf cf' K m e L=>rS g.n o.dst=true->aB8 g K m e L o Lv cf cf'->G g K m e L cf
 | .rgn id ops K m e L=>G g K m e L (.c (.region id ops true))
 | .alt cf K m e L=>G g K m e L cf
 | .stuck=>False
noncomputable section
variable {g:Gx} {K:List Fr} {m:Nat} {e:SE} {L:List Ch}
theorem a9K{a:Act}{w:World}:∀{K:List Fr},(match pop K with | some (y,K')=>CW g.P y (NK g K') (XK g K') g.Q a w | none=>g.N a w)->NK g K a w
 | [],h=>by simpa[pop,NK] using h
 | .s y :: K,h=>by simpa[pop,NK] using h
 | .k _ :: K, h => by have:NK g K a w:=a9K (by grind[pop]);simp_all[NK]
theorem a2Z{a:Act}{w:World}{id:Nat}:∀{K:List Fr},(match xit id K with | some K'=>NK g K' a w | none=>g.X id a w)->XK g K id a w
 | [],h=>by simpa[xit,XK] using h
 | .s y :: K, h => by have:XK g K id a w:=a2Z (by grind[xit]);simp_all[XK]
 | .k j :: K, h => by
  simp only[xit] at h;simp only[XK,aJD];cases hb:Nat.beq id j with
  | true =>
   simp_all
  | false =>
   rw[hb] at h;rw[aO (fun e=>by simp_all)];exact a2Z h
theorem aX0{F:Nat}(ih:∀K c m e L,Gs g (stp g.T g.n F K c m e L)->G g K m e L c)(h:Gs g (match pop K with | some (y,K')=>stp g.T g.n F K' (.c y) m e L | none=>.fin m e L)):∀a w,Rel g m e L a w->NK g K a w:=fun a w hr=>by
 refine a9K ?_;split
 ·rename_i y K' hp;rw[hp] at h;exact ih _ _ _ _ _ h a w hr
 ·rename_i hp;rw[hp] at h;exact h a w hr
theorem hY.ext{n:Nat}{B nb:Bl}{a a':Act}{d:Nat}{x:SV}{v:Value}(hA:hY n B e a)(hx:fS (B++nb) x=some v)(hA':mX n ((d,v) :: vE B e) a'):hY n (B++nb) ((d,x) :: e) a':=by
 refine(hA.app nb).of hx ⟨hA'.d,hA'.size,fun k u hk=>?_⟩;simp only[lk] at hk;cases hb:Nat.beq k d with
 | true=>rw[hb] at hk;exact hA'.get k u (by grind[lk])
 | false =>
  rw[hb] at hk;obtain⟨y,h2,h3⟩:=a2N hk;obtain⟨u2,h4,h5⟩:=hA.get k y h2;rw[wH nb h4] at h3;refine hA'.get k u ?_;grind[lk,aJT]
theorem a7H{ops:Array Oper}{l:List Oper}{o:Oper}(hg:DC ops e o.guard=.yes)(hd:rS g.n o.dst=true):aB8 g K m e L o L (.r ops (o :: l)) (.r ops l):=by
 intro d x Ln nb k hdst hk hv hs hG a w ⟨B,hm,hA,hS⟩;obtain⟨v,h1,h2⟩:=hv _ a w hA hS hm;rw[hdst] at hd;refine gK h2 (aA3 hg) hdst hd (fun a' hA'=>hG a' w ⟨B++nb g.c.w0,?_,?_,?_⟩) a hA.env
 ·grind
 ·rw[<-M4];exact hA.ext h1 hA'
 grind
theorem aX1{ops:Array Oper}{l:List Oper}{o:Oper}(hg:DC ops e o.guard=.yes):aF4 g K m e L o (.r ops (o :: l)) (.r ops l):=by intro ι m' e' L' _ hrun hG a w hr;have ⟨B,hm,hA,hS⟩:=hr;refine wpList_step fun K' hK=>?_;rw[aA3 hg _ a hA.env,aL rfl];exact hrun B a w K' _ hm hA hS (fun i a' w' ⟨B',h1,h2,h3⟩=>hK a' w' (hG i a' w' ⟨B++B',by rw[<-M4];exact h1,by rw[<-M4];exact h2,by rw[<-M4];exact h3⟩))
theorem aEN.S{B1:Bl}{ops:Array Oper}{l:List Bool}{is:List Nat}{Lf:List Ch}(h:aEN g B1 ops l is Lf L){w:World}{B:Bl}(hS:nC g.c w (B1++B) L):nC g.c w B1 Lf:=by have h1:=a2W hS is h.ap;rw[h.yZ] at h1;have h2:=aB7 h1 h.okf;grind
theorem aEO{d:Edge}:Region.binds .any d=a2J d.ground:=by
 cases d with
 | mk on g=>cases g<;>rfl
theorem aIM{l:List Bool}:∀{es:List Edge},QN l es=true↔∀d∈es,Region.binds .any d=true->l[d.on]?=some true
 | []=>by simp[QN]
 | ⟨on, gr⟩ :: r => by
  have ih:=aIM (l:=l) (es:=r);simp only[QN,mA,forall_eq_or_imp,aEO];cases hb:a2J gr with
  | true =>
   simp only;split
   ·rename_i h1;rw[ih];simp[h1,aEO]
   ·rename_i h1;constructor
    ·intro h;cases h
    ·intro h;exact absurd (h.1 trivial) (by simpa using h1)
  | false=>grind[aEO]
theorem ZB{ops:Array Oper}{l:List Bool}(hl:l.length=ops.size){j:Nat}:j∈Region.ready .any ops l.toArray↔l[j]?=some false/\∃o,ops.toList[j]?=some o/\QN l o.after.toList=true:=by
 rw[mem_ready];have h1:(l.toArray.getD j true=false)↔l[j]?=some false:=by rw[Array.getD_eq_getD_getElem?,List.getElem?_toArray];grind
 rw[h1];refine and_congr_right fun _=>?_;constructor
 ·rintro⟨o,h2,h3⟩;refine⟨o,by grind,aIM.2 fun d hd hb=>?_⟩;have:=h3 d (by grind) hb;rw[Array.getD_eq_getD_getElem?,List.getElem?_toArray] at this;grind
 simp_all[aIM]
theorem aEP{i:Nat}:∀{es:List Edge},aA1 i es=true↔∃d∈es,Region.binds .any d=true/\d.on=i
 | []=>by simp[aA1]
 | ⟨on, gr⟩ :: r => by
  have ih:=aEP (i:=i) (es:=r);simp only[aA1,mA,exists_eq_or_imp,aEO];cases hb:a2J gr with
  | true =>
   simp only;cases hi:Nat.beq on i with
   | true=>simp_all
   | false =>
    simp only;have hne:on≠i:=fun h=>by simp_all
    grind[aEO]
  | false=>grind[aEO]
theorem a7I{ops:Array Oper}{l:List Bool}(hl:l.length=ops.size)(hf:aSP ops=true){i:Nat}{o:Oper}(ho:ops.toList[i]?=some o)(hr:QN l o.after.toList=true):Region.noSelect ops=true/\Region.free .any ops l.toArray i=true:=by
 unfold aSP at hf;rw[C8,aM6] at hf;refine⟨hf.1,?_⟩;unfold Region.free;have hoi:ops[i]?=some o:=by grind
 rw[hoi];simp only[aM6,List.mem_range];intro j hj;have hoj:ops[j]?=some ops[j]:=by simp[hj]
 rw[hoj];simp only[Bool.or_eq_true,beq_iff_eq];by_cases hji:j=i
 ·omega
 ·have h1:=hf.2 (o,i) (List.mk_mem_zipIdx_iff_getElem?.2 ho);rw[aM6] at h1;have h2:=h1 (ops[j],j) (List.mk_mem_zipIdx_iff_getElem?.2 (by simp[hj]));simp only[Bool.or_eq_true] at h2;rcases h2 with ((h2 | h2) | h2) | h2
  ·simp_all
  ·obtain⟨d,hd,hb,he⟩:=aEP.1 h2;refine .inr (.inl ?_);rw[<-Array.any_toList,List.any_eq_true];grind
  ·obtain⟨d,hd,hb,he⟩:=aEP.1 h2;have:=aIM.1 hr d hd hb;simp_all
  grind
theorem count_set{l:List Bool}:∀{i:Nat},l[i]?=some false->l.count false=(l.set i true).count false+1:=by grind
theorem aVK{B1:Bl}{ops:Array Oper}{l:List Bool}{is:List Nat}{Lf:List Ch}{i:Nat}{o:Oper}{d:Nat}{v:Value}{a:Act}{w:World}{B:Bl}(hD:aEN g B1 ops l is Lf L)(ho:ops.toList[i]?=some o)(hl:l[i]?=some false)(hr:QN l o.after.toList=true)(hdst:o.dst=some d)(hdn:Nat.blt d g.n=true)(hA:hY g.n (B1++B) e a)(hS:nC g.c w (B1++B) L)
  (hy:(Want ops o (vE (B1++B) e) true/\∀w',Sd g B1 Lf w'->eR g.P o (vE (B1++B) e) w' v w')\/(Want ops o (vE (B1++B) e) false/\v=undef))
  (k:∀a',mX g.n ((d,v) :: vE (B1++B) e) a'->wpAnyH g.P .any ops (mkQ (NK g K) (XK g K) g.Q) (Sd g B1 Lf) ((l.set i true).count false) (l.set i true).toArray a' w):wpAnyH g.P .any ops (mkQ (NK g K) (XK g K) g.Q) (Sd g B1 Lf) (l.count false) l.toArray a w:=by
 obtain⟨f1,f2⟩:=a7I hD.len hD.free ho hr;rw[count_set hl];refine wpAnyH_take (v:=v) (by simpa using ho) f1 f2 (by simpa using (ZB hD.len).2 ⟨hl,o,ho,hr⟩) (fun _ _ _ h=>h.elim) ?_ (hD.S hS) ?_
 ·rcases hy with ⟨h1,h2⟩ | ⟨h1,h2⟩
  ·exact .inl ⟨h1 _ a hA.env,fun w' hS'=>h2 w' hS' _ a hA.env⟩
  ·exact .inr ⟨h1 _ a hA.env,h2⟩
 ·rw[hdst];have:=k _ (hA.env.put (by simp_all) v);grind
theorem aEN.set{B1:Bl}{ops:Array Oper}{l:List Bool}{is:List Nat}{Lf L':List Ch}(h:aEN g B1 ops l is Lf L)(i:Nat)(hz:kl L' is=Lf/\∀j∈is,j<L'.length):aEN g B1 ops (l.set i true) is Lf L':=
 ⟨h.pre,by simpa using h.len,h.free,hz.1,hz.2,h.okf,h.ap⟩
theorem a21{L Ln:List Ch}:∀{is:List Nat},(∀j∈is,j<L.length)->kl (L++Ln) is=kl L is
 | [],_=>rfl
 | i :: is, h => by simp only[kl,aSC (h i (by simp)),a21 (fun j hj=>h j (AE _ hj))]
theorem aEN.aJW{B1:Bl}{ops:Array Oper}{l:List Bool}{is:List Nat}{Lf:List Ch}(h:aEN g B1 ops l is Lf L)(Ln:List Ch):kl (L++Ln) is=Lf/\∀j∈is,j<(L++Ln).length:=
 ⟨by rw[a21 h.rng];exact h.yZ,fun j hj=>by have:=h.rng j hj;simp;omega⟩
theorem a7J{B1:Bl}{ops:Array Oper}{l:List Bool}{is:List Nat}{Lf Lv:List Ch}{i:Nat}{o:Oper}(ho:ops.toList[i]?=some o)(hl:l[i]?=some false)(hr:QN l o.after.toList=true)(hg:DC ops e o.guard=.yes)(hd:rS g.n o.dst=true):aB8 g K m e L o Lv (.d B1 ops l is Lf Lv) (.d B1 ops (l.set i true) is Lf Lv):=by
 intro d x Ln nb k hdst hk hv hs hG hD a w ⟨B,hm,hA,hS,hV⟩;rw[hdst] at hd;obtain⟨v,h1,h2⟩:=hv _ a w hA (hV w (hD.S hS)) hm;refine aVK (v:=v) hD ho hl hr hdst hd hA hS (.inl ⟨aA3 hg,fun w' hS'=>?_⟩) fun a' hA'=>?_
 ·obtain⟨v',h3,h4⟩:=hv _ a w' hA (hV w' hS') hm;rw[h1] at h3;cases h3;exact h4
 ·refine hG (hD.set i (hD.aJW Ln)) a' w ⟨B++nb g.c.w0,?_,?_,?_,fun w' hS'=>?_⟩
  ·rw[<-M4,JO,hm,hk]
  ·rw[<-M4];exact hA.ext h1 hA'
  ·rw[<-M4];exact hs _ w _ hm hS
  ·rw[<-M4];exact hs _ w' _ hm (hV w' hS')
theorem aSS{l:List Bool}{i:Nat}:∀{os:List Oper} {j0:Nat},aF3 l i os j0=true->∀j o,os[j]?=some o->l[j0+j]?=some false->(QN l o.after.toList=true↔j0+j=i)
 | [],_,_,j,o,h,_=>by simp at h
 | p :: os, j0, h, j, o, hj, hl => by
  simp only[aF3] at h;cases j with
  | zero =>
   simp at hj;subst hj;simp only[Z2] at hl ⊢;rw[hl] at h;simp only at h;cases hb:Nat.beq j0 i with
   | true =>
    grind[qY]
   | false =>
    rw[hb] at h;simp only at h;have hne:j0≠i:=fun h=>by simp_all
    grind
  | succ j =>
   have h':aF3 l i os (j0+1)=true:=by grind
   have:=aSS h' j o (by grind) (by grind);grind
theorem a7K{B1:Bl}{ops:Array Oper}{l:List Bool}{is:List Nat}{Lf Lv:List Ch}{i:Nat}{o:Oper}(ho:ops.toList[i]?=some o)(hg:DC ops e o.guard=.yes):aF4 g K m e L o (.o B1 ops l is Lf Lv i) (.d B1 ops (l.set i true) is Lf Lv):=by
 intro ι m' e' L' hz hrun hG hD a w hr;have ⟨B,hm,hA,hS,hV⟩:=hr;unfold wpOp;have hoi:ops[i]?=some o:=by grind
 simp only[hoi,aA3 hg _ a hA.env,aP];refine .inl (hrun B a w _ _ hm hA hS fun j a' w' h=>?_);have hD':=hD.set i (hz j hD);obtain⟨B',q1,q2,q3⟩:=h;refine⟨?_,?_⟩
 ·refine hD'.S (B:=B++B') ?_;rw[<-M4];exact q3
 ·have:=hG j hD' a' w' ⟨B++B',by rw[<-M4];exact q1,by rw[<-M4];exact q2,by rw[<-M4];exact q3,fun w2 h2=>by rw[<-M4];exact(hV w2 h2).app B'⟩;omega
theorem a7L{B1:Bl}{ops:Array Oper}{l:List Bool}{is:List Nat}{Lf Lv:List Ch}{i:Nat}{o:Oper}(ho:ops.toList[i]?=some o)(hg:DC ops e o.guard=.yes)(hd:rS g.n o.dst=true):aB8 g K m e L o Lv (.o B1 ops l is Lf Lv i) (.d B1 ops (l.set i true) is Lf Lv):=by
 intro d x Ln nb k hdst hk hv hs hG hD a w ⟨B,hm,hA,hS,hV⟩;rw[hdst] at hd;obtain⟨v,h1,h2⟩:=hv _ a w hA (hV w (hD.S hS)) hm;unfold wpOp;have hoi:ops[i]?=some o:=by simpa using ho
 simp only[hoi,aA3 hg _ a hA.env,aP];refine .inl ?_;unfold Oper.wp;rw[h2 _ a hA.env,Oper.upon_value,hdst];have hA':=hA.env.put (show d<g.n by simpa[rS,wY] using hd) v;refine⟨hD.S hS,hG (hD.set i (hD.aJW Ln)) _ w ⟨B++nb g.c.w0,?_,?_,?_,fun w' hS'=>?_⟩⟩
 ·rw[<-M4,JO,hm,hk]
 ·rw[<-M4];exact hA.ext h1 hA'
 ·rw[<-M4];exact hs _ w _ hm hS
 ·rw[<-M4];exact hs _ w' _ hm (hV w' hS')
theorem aOW{l:List Bool}{j:Nat}:∀{os:List Oper} {j0:Nat} {o:Oper},os[j]?=some o->l[j0+j]?=some false->QN l o.after.toList=true->j0+j∈xA l os j0:=by
 intro os;induction os generalizing j with
 | nil=>simp
 | cons p os ih =>
  intro j0 o h hl hr;cases j with
  | zero =>
   simp_all[xA]
  | succ j =>
   have h2:=ih (j:=j) (j0:=j0+1) (o:=o) (by grind) (by grind) hr;grind[xA]
theorem bCZ{B1:Bl}{ops:Array Oper}{l:List Bool}{is:List Nat}{Lf Lv:List Ch}(hex:∃i,i∈xA l ops.toList 0)(h:∀i∈xA l ops.toList 0,G g K m e L (.o B1 ops l is Lf Lv i))(hok:∀i∈xA l ops.toList 0,l[i]?=some false/\∃o,ops.toList[i]?=some o/\QN l o.after.toList=true):G g K m e L (.d B1 ops l is Lf Lv):=by intro hD a w hr;obtain⟨i0,hi0⟩:=hex;obtain⟨q1,q2⟩:=hok i0 hi0;have hm:i0∈Region.ready .any ops l.toArray:=(ZB hD.len).2 ⟨q1,q2⟩;rw[count_set q1];refine⟨fun h=>(by grind),fun j hj=>?_⟩;obtain⟨h1,p,h2,h3⟩:=(ZB hD.len).1 hj;have h4:=aOW (j0:=0) h2 (by grind) h3;rw[VJ] at h4;have h5:=h j h4 hD a w hr;grind
theorem aJX{l:List Bool}{i:Nat}:∀{os:List Oper} {j0:Nat},i∈xA l os j0->l[i]?=some false/\∃j o,os[j]?=some o/\j0+j=i/\QN l o.after.toList=true:=by
 intro os;induction os with
 | nil=>intro j0 h;cases h
 | cons p os ih =>
  intro j0 h;have tail:i∈xA l os (j0+1)->l[i]?=some false/\∃j o,(p :: os)[j]?=some o/\j0+j=i/\QN l o.after.toList=true:=fun h=>by obtain⟨h1,j,o,h2,h3,h4⟩:=ih h;exact⟨h1,j+1,o,by grind,by omega,h4⟩
  simp only[xA] at h;split at h
  ·rename_i hl;split at h
   ·rename_i hr;rcases mA.1 h with h | h
    ·subst h;grind
    grind
   grind
  grind
theorem a23{B1:Bl}{ops:Array Oper}{l:List Bool}{is:List Nat}{Lf Lv:List Ch}{i0:Nat}{r:List Nat}(hr:xA l ops.toList 0=i0 :: r)(h:∀i∈i0 :: r,G g K m e L (.o B1 ops l is Lf Lv i)):G g K m e L (.d B1 ops l is Lf Lv):=
 bCZ ⟨i0,by grind⟩ (fun i hi=>h i (by grind)) fun i hi=>by obtain⟨h1,j,o,h2,h3,h4⟩:=aJX hi;grind
theorem a7M{l:List Bool}{i:Nat}{ops:Array Oper}(h:aF3 l i ops.toList 0=true):∀j∈xA l ops.toList 0,j=i:=fun j hj=>by obtain⟨h1,k,o,h2,h3,h4⟩:=aJX hj;rw[VJ] at h3;grind[aSS]
def PsG(g:Gx)(K:List Fr)(m:Nat)(L:List Ch)(B1:Bl)(ops:Array Oper)(is:List Nat)(Lf Lv:List Ch):Ps->Prop
 | .bad=>False
 | .ask _ l e=>G g K m e L (.d B1 ops l is Lf Lv)
 | .pur j o l e=>ops.toList[j]?=some o->l[j]?=some false->QN l o.after.toList=true->DC ops e o.guard=.yes->G g K m e L (.d B1 ops l is Lf Lv)
 | .fin l e _=>G g K m e L (.d B1 ops l is Lf Lv)
theorem ZC{B1:Bl}{ops:Array Oper}{is:List Nat}{Lf Lv:List Ch}:∀(r:List Oper) (i:Nat) (l:List Bool) (e:SE) (q:List (Nat×Oper)),(∀j,r[j]?=ops.toList[i+j]?) ->
  PsG g K m L B1 ops is Lf Lv (pass g.T g.n ops Lv r i l e q)->G g K m e L (.d B1 ops l is Lf Lv)
 | [], i, l, e, q, hr, h => by unfold pass at h;exact h
 | o :: r, i, l, e, q, hr, h => by
  have ho:ops.toList[i]?=some o:=by have:=hr 0;grind
  have hr':∀j,r[j]?=ops.toList[i+1+j]?:=fun j=>by have:=hr (j+1);grind
  unfold pass at h;cases hl:l[i]? with
  | none=>simp only[hl] at h;exact h.elim
  | some b =>
   cases b with
   | true=>simp only[hl] at h;exact ZC r (i+1) l e q hr' h
   | false =>
    cases hre:QN l o.after.toList with
    | false=>simp only[hl,hre] at h;exact ZC r (i+1) l e q hr' h
    | true =>
     cases hgd:DC ops e o.guard with
     | bad=>simp only[hl,hre,hgd] at h;exact h.elim
     | ask c=>simp only[hl,hre,hgd] at h;exact h
     | no =>
      cases hd:o.dst with
      | none=>simp only[hl,hre,hgd,hd] at h;exact h.elim
      | some d =>
       cases hb:Nat.blt d g.n with
       | false=>simp only[hl,hre,hgd,hd,hb] at h;exact h.elim
       | true =>
        simp only[hl,hre,hgd,hd,hb] at h;have ih:=ZC r (i+1) _ _ q hr' h;intro hD a w ⟨B,hm,hA,hS,hV⟩;refine aVK (v:=undef) hD ho hl hre hd hb hA hS (.inr ⟨a9J hgd,rfl⟩) fun a' hA'=>?_;exact ih (hD.set i ⟨hD.yZ,hD.rng⟩) a' w ⟨B,hm,hA.of (x:=.u) rfl hA',hS,hV⟩
     | yes =>
      cases hv:ev1 g.T e Lv o.op with
      | some v =>
       cases hd:o.dst with
       | none=>simp only[hl,hre,hgd,hv,hd] at h;exact h.elim
       | some d =>
        cases hb:Nat.blt d g.n with
        | false=>simp only[hl,hre,hgd,hv,hd,hb] at h;exact h.elim
        | true =>
         simp only[hl,hre,hgd,hv,hd,hb] at h;have ih:=ZC r (i+1) _ _ q hr' h;intro hD a w ⟨B,hm,hA,hS,hV⟩;obtain⟨u,h1,h2⟩:=aQE g.hT hA (hV w (hD.S hS)) hv;refine aVK (v:=u) hD ho hl hre hd hb hA hS (.inl ⟨aA3 hgd,fun w' hS'=>?_⟩) fun a' hA'=>?_
         ·obtain⟨u',h3,h4⟩:=aQE (w:=w') g.hT hA (hV w' hS') hv;grind
         ·exact ih (hD.set i ⟨hD.yZ,hD.rng⟩) a' w ⟨B,hm,hA.of h1 hA',hS,hV⟩
      | none =>
       cases hp:a9G o.op with
       | true=>simp only[hl,hre,hgd,hv,hp] at h;exact h ho hl hre hgd
       | false =>
        simp only[hl,hre,hgd,hv,hp] at h;exact ZC r (i+1) l e ((i,o) :: q) hr' h
theorem aX2:∀{l:List Bool} {i:Nat},a7C l=true->l[i]?≠some false
 | [],i,_=>by simp
 | b :: l, i, h => by
  unfold a7C at h;cases b with
  | false=>cases h
  | true =>
   cases i with
   | zero=>simp
   | succ i=>simpa using aX2 (l:=l) (i:=i) h
theorem aOX{k:Nat}:∀{L:List Ch},VK k L=true->∃i,(∀cs',AN k cs' L=L.set i (.box k cs'))/\∀k0,aP8 k L k0=k0+i
 | [],h=>by cases h
 | x :: L, h => by
  have ih:VK k L=true->(∀cs',AN k cs' (x :: L)=x :: AN k cs' L)->(∀k0,aP8 k (x :: L) k0=aP8 k L (k0+1))->∃i,(∀cs',AN k cs' (x :: L)=(x :: L).set i (.box k cs'))/\∀k0,aP8 k (x :: L) k0=k0+i:=fun h h2 h3=>by obtain⟨i,g1,g2⟩:=aOX h;exact⟨i+1,fun cs'=>by grind,fun k0=>by grind⟩
  cases x with
  | box j cs =>
   simp only[VK] at h;split at h
   ·rename_i hb;exact⟨0,fun cs'=>by grind[AN,qY],fun k0=>by grind[aP8]⟩
   simp_all[AN,aP8]
  | ro j cs =>
   simp only[VK] at h;split at h
   ·cases h
   ·exact ih h (fun _=>rfl) (fun _=>rfl)
  | o ch=>exact ih h (fun _=>rfl) (fun _=>rfl)
  | f g=>exact ih h (fun _=>rfl) (fun _=>rfl)
  | no=>exact ih h (fun _=>rfl) (fun _=>rfl)
  | w k b z=>exact ih h (fun _=>rfl) (fun _=>rfl)
theorem aJY{i:Nat}:∀{is:List Nat},gC i is=true->i∉is
 | [],_=>by simp
 | j :: r, h => by
  unfold gC at h;cases hb:Nat.beq i j with
  | true=>grind
  | false =>
   rw[hb] at h;have hne:i≠j:=fun e=>by simp_all
   simpa[hne] using aJY h
theorem a25{L:List Ch}{i:Nat}{x:Ch}:∀{is:List Nat},i∉is->kl (L.set i x) is=kl L is
 | [],_=>rfl
 | j :: is, h => by have hne:i≠j:=fun e=>h (by simp[e]);simp only[kl,List.getElem?_set_ne hne,a25 (fun hj=>h (AE _ hj))]
theorem aVL{T:TT}{t:TypeId}{p v:SV}{L':List Ch}{x y:Operand}{is:List Nat}(h:aA0 T t p v L=some L')(hp:j4 e x=some p)(hf:bAT e L is (.store t x y)=true)(hr:∀j∈is,j<L.length):kl L' is=kl L is/\∀j∈is,j<L'.length:=by
 unfold aA0 at h;split at h
 ·rename_i k o;split at h
  ·rename_i hb;split at h
   ·split at h
    ·split at h
     case h_2=>cases h
     split at h
     case h_2=>cases h
     rename_i L2 hL2;cases h;have:=T6 hL2;subst this;obtain⟨i,h1,h2⟩:=aOX hb;simp_all[bAT,aJY,a25]
    ·cases h
   ·cases h
  ·cases h
 ·cases h
theorem a7N{a a':Act}{w':World}{B0 B:Bl}{d b:Nat}{cs:List SV}(hm:(B0++B).length=m)(hA:hY g.n (B0++B) e a)(hA':mX g.n ((d,.pointer (some ⟨b,0,none⟩)) :: vE (B0++B) e) a')(hS':nC g.c w' ((B0++B) ++ [(b,0)]) (L ++ [.box (B0++B).length cs])):pX g.n g.c (B0++B) (m+1) ((d,.p m 0) :: e) (L ++ [.box m cs]) a' w':=by
 refine⟨[(b,0)],by grind,?_,?_⟩
 ·exact hA.ext (nb:=[(b,0)]) (x:=.p m 0) (by grind[fS,gV,bT]) hA'
 grind
theorem wI{cf:wG}(Ln:List Ch):Frz g cf L (L++Ln):=by
 cases cf with
 | d B1 ops l is Lf Lv=>exact fun hD=>hD.aJW Ln
 | o B1 ops l is Lf Lv i=>exact fun hD=>hD.aJW Ln
 | _=>trivial
theorem aX3{T:TT}{op:Op}{v:SV}(h:eff T e L op=.val v):ev1 T e L op=some v:=by unfold eff at h;grind
theorem a7O{T:TT}{op:Op}{cs:List SV}(h:eff T e L op=.box cs):(∃t i,op=.alloc t/\D3 T t=some i/\cs=i.z)\/(∃t x v,op=.box t x/\j4 e x=some v/\isCells v=true/\cs=qP v):=by unfold eff at h;grind
theorem bA1{T:TT}{op:Op}{L':List Ch}(h:eff T e L op=.st L'):∃t x y p v,op=.store t x y/\j4 e x=some p/\aA0 T t p v L=some L':=by unfold eff at h;grind
theorem a7P{T:TT}{op:Op}{L':List Ch}(h:eff T e L op=.st L'):∃t x y p v,op=.store t x y/\j4 e x=some p/\j4 e y=some v/\aA0 T t p v L=some L':=by unfold eff at h;grind
theorem a26{o:Oper}{cf cf':wG}(hE:aF4 g K m e L o cf cf') :
  (∀d cs,eff g.T e L o.op=.box cs->o.dst=some d->Nat.blt d g.n=true->Frz g cf L (L ++ [.box m cs])->G g K (m+1) ((d,.p m 0) :: e) (L ++ [.box m cs]) cf'->G g K m e L cf) /\
  (∀L',eff g.T e L o.op=.st L'->o.dst=none->Frz g cf L L'->G g K m e L' cf'->G g K m e L cf):=by
 refine⟨fun d cs hf hd hdn hz hG=>hE Unit (fun _=>m+1) (fun _=>(d,.p m 0) :: e) (fun _=>L ++ [.box m cs]) (fun _=>hz) (fun B a w next Q hm hA hS hnext=>?_) (fun _=>hG),fun L' hf hd hz hG=>hE Unit (fun _=>m) (fun _=>e) (fun _=>L') (fun _=>hz) (fun B a w next Q hm hA hS hnext=>?_) (fun _=>hG)⟩
 ·have fin:∀{u:Value} {w':World} {b:Nat},eR g.P o (vE (B0S g cf++B) e) w u w'->u=.pointer (some ⟨b,0,none⟩)->nC g.c w' ((B0S g cf++B) ++ [(b,0)]) (L ++ [.box (B0S g cf++B).length cs])->o.wp g.P a w next Q:=by intro u w' b hR hu hS';subst hu;unfold Oper.wp;rw[hR _ a hA.env,Oper.upon_value,hd];exact hnext () _ _ (a7N hm hA (hA.env.put (by simp_all) _) hS')
  rcases a7O hf with ⟨t,i,ho,hl,rfl⟩ | ⟨t,x,v,ho,hv,hc,rfl⟩
  ·obtain⟨u,w',b,k1,k2,k3⟩:=a2Y (E:=vE (B0S g cf++B) e) g.hT hS ho hl;grind
  ·obtain⟨u,w',b,k1,k2,k3⟩:=bA0 (P:=g.P) hA hS ho hv hc;grind
 ·obtain⟨t,x,y,p,v,ho,hx,hy,hs⟩:=a7P hf;obtain⟨w',k1,k2⟩:=aZL g.hT hA hS ho hx hy hs;unfold Oper.wp;rw[k1 _ a hA.env,Oper.upon_skip,hd];exact hnext () _ _ ⟨[],by grind,by rw[EJ];exact⟨hA.d,hA.size,hA.get⟩,by grind⟩
theorem a27{o:Oper}{Lv:List Ch}{cf cf':wG}(h:Gs g (a7B e o Lv cf cf' K m L o.op))(hd:rS g.n o.dst=true)(hP:aB8 g K m e L o Lv cf cf')(hE:aF4 g K m e L o cf cf'):G g K m e L cf:=by
 generalize hop:o.op=op at h;unfold a7B at h;split at h
 ·split at h
  ·exact h
  ·exact h.elim
 ·split at h
  ·rename_i h1 h2 h3;exact h _ _ hop h3 h1 h2 hP
  ·exact h hd hP hE
 ·split at h
  ·rename_i h1 h2;split at h
   ·rename_i hx;exact h _ _ _ hop rfl h1 ⟨_,h2,rfl⟩ hx hd hE
   ·exact h _ _ _ hop rfl h1 ⟨_,h2,rfl⟩ hd hE
  ·exact h hd hP hE
 ·exact h hd hP hE
theorem a7Q{o:Oper}{Lv:List Ch}{cf cf':wG}(h:Gs g (bAS e o Lv cf cf' K m L o.op))(hd:rS g.n o.dst=true)(hP:aB8 g K m e L o Lv cf cf'):G g K m e L cf:=by
 generalize hop:o.op=op at h;unfold bAS at h;split at h
 ·split at h
  ·exact h
  ·exact h.elim
 ·split at h
  ·rename_i h1 h2 h3;exact h _ _ hop h3 h1 h2 hP
  ·exact h hd hP
 ·exact h hd hP
theorem aA5:∀(F:Nat) (K:List Fr) (c:wG) (m:Nat) (e:SE) (L:List Ch),Gs g (stp g.T g.n F K c m e L)->G g K m e L c
 | 0,_,_,_,_,_,h=>h.elim
 | F + 1, K, .c x, m, e, L, h => by
  have ih:=aA5 F;unfold stp at h;cases x with
  | skip=>exact fun a w hr=>rA (aX0 ih h a w hr)
  | seq x y=>exact fun a w hr=>b7 (ih _ _ _ _ _ h a w hr)
  | block id b =>
   simp only at h;split at h
   ·exact h
   ·exact fun a w hr=>nD (ih _ _ _ _ _ h a w hr)
  | exit id =>
   simp only at h;refine fun a w hr=>O3 (a2Z ?_);cases hx:xit id K with
   | some K'=>rw[hx] at h;exact aX0 ih h a w hr
   | none=>rw[hx] at h;exact h a w hr
  | ret=>exact fun a w hr=>DA (h a w hr)
  | cond o x y =>
   simp only at h;split at h
   ·rename_i c ho;intro a w hr;obtain⟨B,hm,hA,hS⟩:=hr;obtain⟨v,h1,h2⟩:=fT hA ho;cases h1;cases c with
    | true=>exact a95 hA.env h2 rfl (ih _ _ _ _ _ h a w ⟨B,hm,hA,hS⟩)
    | false=>exact bCO hA.env h2 rfl (ih _ _ _ _ _ h a w ⟨B,hm,hA,hS⟩)
   ·rename_i c ho;exact h ho
   ·exact h.elim
  | region id ops d =>
   cases d with
   | false=>exact fun a w hr=>aOO (ih _ _ _ _ _ h a w hr)
   | true=>exact h
  | _=>exact h.elim
 | F + 1, K, .n, m, e, L, h => by have ih:=aA5 F;unfold stp at h;exact fun a w hr=>aX0 ih h a w hr
 | F + 1, K, .r ops [], m, e, L, h => by have ih:=aA5 F;unfold stp at h;exact fun a w hr=>aX0 ih h a w hr
 | F + 1, K, .r ops (⟨dst, op, ty, ps, af, gd⟩ :: l), m, e, L, h => by
  have ih:=aA5 F;unfold stp at h;generalize hg:DC ops e gd=gv at h;cases gv with
  | bad=>exact h.elim
  | ask c=>exact h
  | no =>
   simp only at h;split at h
   ·rename_i d;split at h
    ·rename_i hd;intro a w ⟨B,hm,hA,hS⟩;exact gX (a9J hg) rfl hd (fun a' hA'=>ih _ _ _ _ _ h a' w ⟨B,hm,hA.of (x:=.u) (v:=undef) rfl hA',hS⟩) a hA.env
    ·exact h.elim
   ·exact h.elim
  | yes =>
   simp only at h;have hE:=a26 (g:=g) (K:=K) (m:=m) (e:=e) (L:=L) (o:=⟨dst,op,ty,ps,af,gd⟩) (cf:=.r ops (⟨dst,op,ty,ps,af,gd⟩ :: l)) (cf':=.r ops l) (aX1 hg);split at h
   ·rename_i d v hf;split at h
    ·rename_i hd;intro a w ⟨B,hm,hA,hS⟩;obtain⟨u,h1,h2⟩:=aQE (o:=⟨_,op,ty,ps,af,gd⟩) g.hT hA hS (aX3 hf);exact gK h2 (aA3 hg) rfl hd (fun a' hA'=>ih _ _ _ _ _ h a' w ⟨B,hm,hA.of h1 hA',hS⟩) a hA.env
    ·exact h.elim
   ·rename_i d cs hf;split at h
    ·rename_i hd;exact hE.1 _ _ hf rfl hd trivial (ih _ _ _ _ _ h)
    ·exact h.elim
   ·rename_i L' hf;exact hE.2 _ hf rfl trivial (ih _ _ _ _ _ h)
   ·split at h
    ·rename_i hd;exact a27 h hd (a7H hg hd) (aX1 hg)
    ·exact h.elim
   ·exact h.elim
 | F + 1, K, .d B1 ops l is Lf Lv, m, e, L, h => by
  have ih:=aA5 F;unfold stp at h;refine ZC ops.toList 0 l e [] (fun j=>by simp) ?_;generalize pass g.T g.n ops Lv ops.toList 0 l e []=ps at h;cases ps with
  | bad=>exact h.elim
  | ask c l' e'=>exact h
  | pur i o l' e' =>
   intro h1 h2 h3 h4;simp only at h;split at h
   ·grind[a7Q,a7J]
   ·exact h.elim
  | fin l' e' q =>
   cases q with
   | nil =>
    simp only at h;split at h
    ·rename_i hall;intro hD a w hr;have hn:=ih _ _ _ _ _ h;obtain⟨B2,hB2⟩:=hD.pre;have hr':Rel g m e' L a w:=by obtain⟨B,hm,hA,hS,_⟩:=hr;subst hB2;exact⟨B2++B,by grind,by grind,by grind⟩
     have hempty:Region.ready .any ops l'.toArray=[]:=by refine List.eq_nil_iff_forall_not_mem.2 fun j hj=>?_;exact aX2 hall ((ZB hD.len).1 hj).1
     exact wpAnyH_done hempty (hn a w hr') _
    ·exact h.elim
   | cons p q =>
    cases q with
    | cons p' q=>exact h
    | nil =>
     obtain⟨i,o⟩:=p;simp only at h;split at h
     ·rename_i hon;have ho:=ih _ _ _ _ _ h;cases hra:xA l' ops.toList 0 with
      | cons j r =>
       refine a23 hra fun k hk=>?_;grind[a7M]
      | nil =>
       refine absurd h ?_;intro h;unfold stp at h;cases F with
       | zero=>exact h
       | succ F =>
        simp only at h;split at h
        ·rename_i hi;split at h
         ·rename_i h1 h2 h3;have:=aOW (j0:=0) hi (by grind) h1;grind
         ·exact h
        ·exact h
     ·exact h.elim
 | F + 1, K, .o B1 ops l is Lf Lv i, m, e, L, h => by
  have ih:=aA5 F;unfold stp at h;split at h
  ·rename_i dst op ty ps af gd ho;split at h
   ·rename_i hre hli hg;have hes:=a7K (g:=g) (K:=K) (m:=m) (e:=e) (L:=L) (B1:=B1) (ops:=ops) (l:=l) (is:=is) (Lf:=Lf) (Lv:=Lv) ho hg;have hE:=a26 (g:=g) (K:=K) (m:=m) (e:=e) (L:=L) (o:=⟨dst,op,ty,ps,af,gd⟩) (cf:=.o B1 ops l is Lf Lv i) (cf':=.d B1 ops (l.set i true) is Lf Lv) hes;split at h
    ·rename_i v d hf;split at h
     ·rename_i hd;have hG:=ih _ _ _ _ _ h;have hv:=aX3 hf;refine hes Unit (fun _=>m) (fun _=>(d,v) :: e) (fun _=>L) (fun _ hD=>⟨hD.yZ,hD.rng⟩) (fun B a w next Q hm hA hS hnext=>?_) (fun _=>hG);obtain⟨u,h1,h2⟩:=aQE (o:=⟨some d,op,ty,ps,af,gd⟩) g.hT hA hS hv;unfold Oper.wp;rw[h2 _ a hA.env,Oper.upon_value];exact hnext () _ _ ⟨[],by grind,by simpa using hA.of h1 (hA.env.put (by simp_all) u),by grind⟩
     ·exact h.elim
    ·rename_i d cs hf;split at h
     ·rename_i hd;exact hE.1 _ _ hf rfl hd (fun hD=>hD.aJW _) (ih _ _ _ _ _ h)
     ·exact h.elim
    ·rename_i L' hf;split at h
     ·rename_i hfz;refine hE.2 _ hf rfl (fun hD=>?_) (ih _ _ _ _ _ h);obtain⟨t,x,y,p,v,hop,hx,hs⟩:=bA1 hf;subst hop;have:=aVL hs hx hfz hD.rng;exact⟨by rw[this.1];exact hD.yZ,this.2⟩
     ·exact h.elim
    ·split at h
     ·rename_i hd;exact a27 h hd (a7L ho hg hd) hes
     ·exact h.elim
    ·exact h.elim
   ·exact h.elim
  ·exact h.elim
theorem aIN:∀{e r:SE},aZH e=some r->r=e
 | [],r,h=>by cases h;rfl
 | (k, v) :: l, r, h => by
  simp only[aZH] at h;split at h
  ·rename_i s hs;cases h;rw[aIN hs]
  ·cases h
theorem aIO:∀{e r:List Ch},aZI e=some r->r=e
 | [],r,h=>by cases h;rfl
 | x :: l, r, h => by
  simp only[aZI] at h;split at h
  ·rename_i s hs;have:=aIO hs;grind[T6]
  ·cases h
theorem iD{K:List Fr}{c:wG}{m:Nat}{e:SE}{L:List Ch}(h:Gs g (kI g.T g.n K c m e L)):G g K m e L c:=by
 unfold kI at h;split at h
 ·grind[aIN,aIO,aA5]
 ·exact h.elim
end
end Go.Gv
end
noncomputable section
namespace Go.Gv
noncomputable section
variable {P:Program} {N N':Act->World->Prop} {X X':Nat->Act->World->Prop} {T T':Act->World->Prop}
theorem XD(h:LetsOut (mkQ N X T)):LetsOut (mkQ N' X' T'):=let ⟨_,_,h⟩:=h;h.elim
theorem aST{o:Oper}{a:Act}{next next':Act->World->Prop}{r:Result Next}(hn:∀a w,next a w->next' a w)(h:o.upon P a next (mkQ N X T) r):o.upon P a next' (mkQ N' X' T') r:=by
 unfold Oper.upon at h ⊢;split at h
 ·grind
 ·grind
 ·grind
 ·refine Calls.mono h fun e w' he=>?_;cases e with
  | returned v=>grind
  | panicked c=>exact he.elim
  | outgrown=>exact XD he
 ·grind[Rows.mono]
 ·exact h.elim
 omega
theorem aA6{ops:Array Oper}(hN:∀a w,N a w->N' a w):∀(l:List Oper) {a:Act} {w:World},wpList P ops (mkQ N X T) l a w->wpList P ops (mkQ N' X' T') l a w
 | [],a,w,h=>hN a w h
 | o :: l, a, w, h => by
  unfold wpList at h ⊢;split
  ·rename_i hw;rw[aL hw] at h;rcases h with h | ⟨h1,h2⟩
   ·exact .inl (aST (fun _ _ h=>aA6 hN l h) h)
   grind[XD]
  ·rename_i hw;rw[aO hw] at h;exact aA6 hN l h
theorem aSU{ops:Array Oper}{i:Nat}{k k':Act->World->Prop}{a:Act}{w:World}(hk:∀a w,k a w->k' a w)(h:wpOp P ops (mkQ N X T) i k a w):wpOp P ops (mkQ N' X' T') i k' a w:=by
 unfold wpOp at h ⊢;split
 ·grind
 ·rename_i o h0;rw[h0] at h;simp only at h;split
  ·rename_i hw;rw[aL hw] at h;rcases h with h | ⟨h1,h2⟩
   ·exact .inl (aST hk h)
   grind[XD]
  grind
theorem aA7{ops:Array Oper}{S:World->Prop}(hN:∀a w,N a w->N' a w):∀(fuel:Nat) {tC:Array Bool} {a:Act} {w:World},wpAnyH P .any ops (mkQ N X T) S fuel tC a w->wpAnyH P .any ops (mkQ N' X' T') S fuel tC a w
 | 0,_,a,w,h=>⟨h.1,hN a w h.2⟩
 | f+1,_,a,w,h=>⟨fun h0=>hN a w (h.1 h0),fun i hi=>aSU (fun _ _ h=>⟨h.1,aA7 hN f h.2⟩) (h.2 i hi)⟩
end
noncomputable section
variable {P:Program} {T:TT} {hT:H3 P T} {n:Nat} {c:Ctx} {B0:Bl} {N N1:Act->World->Prop} {X X1:Nat->Act->World->Prop} {Q:Act->World->Prop} {K K':List Fr} {m m':Nat} {e e':SE} {L L':List Ch} {cf cf':wG}
theorem aVM(Kb:List Fr)(hN:∀a w,N1 a w->NK (.mk P T hT n c B0 N X Q) Kb a w)(hX:∀i a w,X1 i a w->XK (.mk P T hT n c B0 N X Q) Kb i a w):∀(Ka:List Fr),(∀a w,NK (.mk P T hT n c B0 N1 X1 Q) Ka a w->NK (.mk P T hT n c B0 N X Q) (Ka++Kb) a w)/\(∀i a w,XK (.mk P T hT n c B0 N1 X1 Q) Ka i a w->XK (.mk P T hT n c B0 N X Q) (Ka++Kb) i a w)
 | []=>⟨hN,hX⟩
 | .s y :: Ka => by obtain⟨h1,h2⟩:=aVM Kb hN hX Ka;exact⟨fun a w h=>CW.mono (show CW P y (NK _ Ka) (XK _ Ka) Q a w from h) h1 h2 (fun _ _ h=>h),h2⟩
 | .k id :: Ka => by obtain⟨h1,h2⟩:=aVM Kb hN hX Ka;refine⟨h1,fun i a w h=>?_⟩;simp only[XK,aJD,ZY] at h ⊢;grind
theorem bC0{Ka Kb:List Fr}(hN:∀a w,N1 a w->NK (.mk P T hT n c B0 N X Q) Kb a w)(hX:∀i a w,X1 i a w->XK (.mk P T hT n c B0 N X Q) Kb i a w)(h:G (.mk P T hT n c B0 N1 X1 Q) Ka m e L cf):G (.mk P T hT n c B0 N X Q) (Ka++Kb) m e L cf:=by
 obtain⟨h1,h2⟩:=aVM Kb hN hX Ka;cases cf with
 | n=>exact fun a w hr=>h1 a w (h a w hr)
 | c x=>exact fun a w hr=>CW.mono (h a w hr) h1 h2 (fun _ _ h=>h)
 | r ops l=>exact fun a w hr=>aA6 h1 l (h a w hr)
 | d B1 ops l is Lf Lv=>exact fun hD a w hr=>aA7 h1 _ (h ⟨hD.pre,hD.len,hD.free,hD.yZ,hD.rng,hD.okf,hD.ap⟩ a w hr)
 | o B1 ops l is Lf Lv i=>exact fun hD a w hr=>aSU (fun _ _ h=>⟨h.1,aA7 h1 _ h.2⟩) (h ⟨hD.pre,hD.len,hD.free,hD.yZ,hD.rng,hD.okf,hD.ap⟩ a w hr)
theorem aIP{g:Gx}{s:Stop}(hs:XC s=some (K,cf,m,e,L))(h:G g K m e L cf):Gs g s:=by
 cases s<;>simp only[XC] at hs<;>cases hs
 ·exact fun _=>h
 ·exact h
 ·exact h
 ·exact fun _ _ _ _ _ _ _=>h
 ·exact fun _ _ _ _ _ _ _ _ _ _=>h
 ·exact fun _ _ _ _ _ _ _ _ _=>h
 ·exact fun _ _=>h
 ·exact fun _ _ _=>h
 ·exact h
 ·exact h
def JP(n:Nat)(c:Ctx)(B0:Bl){π υ:Type}(eq:π->Prop)(m:Nat)(ej:π->υ->SE)(Lj:π->υ->List Ch):Act->World->Prop:=fun a w=>∃p u,eq p/\pX n c B0 m (ej p u) (Lj p u) a w
theorem cH{B1:Bl}{ops:Array Oper}{l:List Bool}{is:List Nat}{Lf Lv:List Ch}{i j:Nat}(hs:XC (kI T n K cf m e L)=some (K',.d B1 ops l is Lf Lv,m',e',L'))(hr:xA l ops.toList 0=[i,j])
  (k1:G (.mk P T hT n c B0 N X Q) K' m' e' L' (.o B1 ops l is Lf Lv i)) (k2:G (.mk P T hT n c B0 N X Q) K' m' e' L' (.o B1 ops l is Lf Lv j)):G (.mk P T hT n c B0 N X Q) K m e L cf:=
 iD (g:=.mk P T hT n c B0 N X Q) (aIP hs (a23 (g:=.mk P T hT n c B0 N X Q) hr fun k hk=>by
  grind))
theorem aA8{B1:Bl}{ops:Array Oper}{l:List Bool}{is:List Nat}{Lf Lv:List Ch}{i j p:Nat}(hs:XC (kI T n K cf m e L)=some (K',.d B1 ops l is Lf Lv,m',e',L'))(hr:xA l ops.toList 0=[i,j,p])
  (k1:G (.mk P T hT n c B0 N X Q) K' m' e' L' (.o B1 ops l is Lf Lv i)) (k2:G (.mk P T hT n c B0 N X Q) K' m' e' L' (.o B1 ops l is Lf Lv j)) (k3:G (.mk P T hT n c B0 N X Q) K' m' e' L' (.o B1 ops l is Lf Lv p)):G (.mk P T hT n c B0 N X Q) K m e L cf:=
 iD (g:=.mk P T hT n c B0 N X Q) (aIP hs (a23 (g:=.mk P T hT n c B0 N X Q) hr fun k hk=>by
  grind))
theorem bd{α β:Type}{A:Option α}{f:α->Option β}{q:β}{C:Prop}(hF:A.bind f=some q)(k:∀x,A=some x->f x=some q->C):C:=by
 cases h:A with
 | none=>grind
 | some x=>grind
theorem nd{β:Type}{p:Prop}[Decidable p]{A:Option β}{q:β}{C:Prop}(hF:need p A=some q)(k:p->A=some q->C):C:=k (kG hF).1 (kG hF).2
theorem rb{α:Type}{A:Option α}{x:α}(h:A=some x):A.bind some=some x:=by rw[h];rfl
theorem rn{p:Prop}[Decidable p](h:p):need p (some ())=some ():=by simp[need,h]
theorem sb{α:Type}{C:α->Prop}(x:α){y:α}(h:some x=some y)(k:C y):C x:=by grind
theorem go(hs:XC (kI T n K cf m e L)=some (K',cf',m',e',L'))(k:G (.mk P T hT n c B0 N X Q) K' m' e' L' cf'):G (.mk P T hT n c B0 N X Q) K m e L cf:=
 iD (g:=.mk P T hT n c B0 N X Q) (aIP hs k)
theorem cut{π υ:Type}(j mj:Nat)(eq:π->Prop)(ks:List Nat)(ej:π->υ->SE)(is:List Nat)(Lj:π->υ->List Ch)(hs:XC (kI T n K cf m e L)=some (K',cf',m',e',L'))
  (k1:G (.mk P T hT n c B0 (JP n c B0 eq mj (fun p u=>ej p u++kp e' ks) (fun p u=>Lj p u++kl L' is)) (XK (.mk P T hT n c B0 N X Q) (K'.drop j)) Q) (K'.take j) m' e' L' cf')
  (k2:∀p u,eq p->G (.mk P T hT n c B0 N X Q) (K'.drop j) mj (ej p u++kp e' ks) (Lj p u++kl L' is) .n):G (.mk P T hT n c B0 N X Q) K m e L cf:=by
 refine go hs ?_;rw[<-aF0 j K'];refine bC0 (fun a w ⟨p,u,h1,h2⟩=>?_) (fun _ _ _ h=>h) k1;exact k2 p u h1 a w h2
theorem jn{π υ:Type}{eq:π->Prop}{mj:Nat}{ej:π->υ->SE}{Lj:π->υ->List Ch}{p:π}(u:υ)(is:List Nat)(hF:eq p)(hs:kI T n K cf m e L=.fin m' e' L')(h:Y9 B0.length m' e' L' is mj (ej p u) (Lj p u)=some (ej p u,Lj p u)):G (.mk P T hT n c B0 (JP n c B0 eq mj ej Lj) X Q) K m e L cf:=
 iD (g:=.mk P T hT n c B0 _ X Q) (by
  rw[hs];exact fun a w hr=>⟨p,u,hF,pX.Y9 hr is h⟩)
theorem ZD{b cb:Bool}{a:Act}{B:Bl}(hb:b=cb):∀(ss:List Nat),aZ (EK e) ss=some (ss.map fun _=>SV.b b)->hY n B e a->hY n B (ovr cb e ss) a:=by
 intro ss hs hA;refine⟨hA.d,hA.size,?_⟩;subst hb;have key:∀k∈ss,EK e k=some (.b b):=by
  induction ss with
  | nil=>simp
  | cons s ss ih =>
   grind[aZ]
 clear hs;induction ss with
 | nil=>exact hA.get
 | cons s ss ih =>
  intro k x hk;simp only[ovr,EK] at hk;cases hb:Nat.beq k s with
  | true =>
   rw[hb] at hk;cases hk;rw[qY hb];exact hA.get s (.b b) (key s (by simp))
  | false =>
   grind
theorem aIQ{b cb:Bool}{a:Act}{w:World}(hb:b=cb)(ss:List Nat)(hs:aZ (EK e) ss=some (ss.map fun _=>SV.b b))(h:pX n c B0 m e L a w):pX n c B0 m (ovr cb e ss) L a w:=by obtain⟨B,h1,hA,hS⟩:=h;exact⟨B,h1,ZD hb ss hs hA,hS⟩
theorem aJZ{e1:SE}(h:∀a B,hY n B e a->hY n B e1 a)(k:G (.mk P T hT n c B0 N X Q) K m e1 L cf):G (.mk P T hT n c B0 N X Q) K m e L cf:=by
 cases cf with
 | d B1 ops l is Lf Lv=>exact fun hD a w ⟨B,h1,h2,h3,h4⟩=>k hD a w ⟨B,h1,h a _ h2,h3,h4⟩
 | o B1 ops l is Lf Lv i=>exact fun hD a w ⟨B,h1,h2,h3,h4⟩=>k hD a w ⟨B,h1,h a _ h2,h3,h4⟩
 | _=>exact fun a w ⟨B,h1,h2,h3⟩=>k a w ⟨B,h1,h a _ h2,h3⟩
noncomputable section
variable {b:Bool} {α:Type} {A B':Option α} {q:Option α}
theorem cs{o:Operand}{x y:Code}(ss:List Nat)(hs:kI T n K cf m e L=.cond o b x y K' m' e' L')(ho:aZ (EK e') ss=some (ss.map fun _=>SV.b b))(hF:(if b=true then A else B')=q)
  (k1:A=q->G (.mk P T hT n c B0 N X Q) K' m' (ovr true e' ss) L' (.c x)) (k2:B'=q->G (.mk P T hT n c B0 N X Q) K' m' (ovr false e' ss) L' (.c y)):G (.mk P T hT n c B0 N X Q) K m e L cf:=
 iD (g := .mk P T hT n c B0 N X Q) (by
  rw[hs];intro he a w hr;have ⟨B,hm,hA,hS⟩:=hr;obtain⟨v,h1,h2⟩:=fT hA he;cases h1;refine nO hA.env h2 (fun hc=>?_) (fun hc=>?_)
  ·rw[aL hc] at hF;exact k1 hF a w (aIQ hc ss ho hr)
  ·rw[aO (by grind)] at hF;exact k2 hF a w (aIQ hc ss ho hr))
theorem ca{cf':wG}(ss:List Nat)(hs:kI T n K cf m e L=.case b cf' K' m' e' L')(ho:aZ (EK e') ss=some (ss.map fun _=>SV.b b))(hF:(if b=true then A else B')=q)
  (k1:A=q->G (.mk P T hT n c B0 N X Q) K' m' (ovr true e' ss) L' cf') (k2:B'=q->G (.mk P T hT n c B0 N X Q) K' m' (ovr false e' ss) L' cf'):G (.mk P T hT n c B0 N X Q) K m e L cf:=
 iD (g:=.mk P T hT n c B0 N X Q) (by
  rw[hs];cases b with
  | true=>exact aJZ (fun a B hA=>ZD rfl ss ho hA) (k1 (by grind))
  | false=>exact aJZ (fun a B hA=>ZD rfl ss ho hA) (k2 (by grind)))
end
def QS(P:Program)(fn:Func)(c:Ctx)(B0:Bl){ρ ex:Type}(sv:ρ->ex->SV)(Lf:ρ->ex->List Ch)(r:ρ):Act->World->Prop:=Fin P fn fun v w'=>∃y,fS B0 (sv r y)=some v/\nC c w' B0 (Lf r y)
theorem aX4{r:ResultVar}{x:SV}{B:Bl}{a:Act}{w:World}(hT:H3 P T)(hA:hY n B e a)(hS:nC c w B L)(h:a2K T e L r=some x):∃v,fS B x=some v/\(XB a.tmps r).run P w=.ok v w:=by
 cases r with
 | tmp t =>
  obtain⟨v,h1,h2⟩:=hA.get t x h;simp_all[XB]
 | cell t ty =>
  simp only[a2K] at h;split at h
  ·rename_i p hp;obtain⟨v,h1,h2⟩:=hA.get t p hp;unfold aSO at h;split at h
   ·rename_i n0 o0;split at h
    ·rename_i cs _ mm _ hb hl;split at h
     ·rename_i hle;split at h
      case h_2=>cases h
      rename_i ds hds;cases h;have:=T6 hds;subst this;obtain⟨b,z,vs,g1,g2,g3⟩:=hS.cells hb;have hlen:=mD g2;have hle:=M7 hle;simp only[fS,gV,bT,g1] at h1;cases h1;have h4:=SC mm (SB o0 g2);have h5:=aB6 g3 (o:=o0) (m:=mm) (by omega);have h6:=rP h5 P;have h7:((vs.drop o0).take mm).length=mm:=by simp;omega
      rw[h7] at h6;refine⟨.agg ((vs.drop o0).take mm).toArray,by grind[fS,gV],?_⟩;simp[XB,h2,asAddr,loadVar,hT.agg _ _ hl,hT.size _ _ hl,h6]
     ·cases h
    ·rename_i cs _ _ _ hb hl;obtain⟨b,z,vs,g1,g2,g3⟩:=hS.cells hb;simp only[fS,gV,bT,g1] at h1;cases h1;obtain⟨u,h4,h5⟩:=SA g2 h;refine⟨u,aXP h4,?_⟩;have h6:=g3 o0 u h5;simp[XB,h2,asAddr,loadVar,hT.agg _ _ hl,load,Sem.run,h6]
    ·cases h
   ·cases h
  ·cases h
end
end Go.Gv
end
noncomputable section
namespace Go.Gv
noncomputable section
variable {P:Program} {T:TT} {hT:H3 P T} {n:Nat} {c:Ctx} {B0:Bl} {N:Act->World->Prop} {X:Nat->Act->World->Prop} {Q:Act->World->Prop} {K K':List Fr} {m m':Nat} {e e':SE} {L L':List Ch} {cf:wG}
theorem a7R{B:Bl}{x:SV}{v:Value}(h:fS B x=some v)(hc:isCells x=true):gV B x=some v:=by cases x<;>first | exact h | cases hc
theorem aB9{r:ResultVar}{x:SV}{B:Bl}{a:Act}{w:World}(hT:H3 P T)(hA:hY n B e a)(hS:nC c w B L)(h:aVI T e L r=some x):∃v,gV B x=some v/\(XB a.tmps r).run P w=.ok v w:=by grind[aVI,aX4,a7R]
theorem aIR{rs:List ResultVar}{x:SV}{B:Bl}{a:Act}{w:World}{fn:Func}(hf:fn.results=rs.toArray)(hT:H3 P T)(hA:hY n B e a)(hS:nC c w B L)(h:aQA T e L rs=some x):∃v,fS B x=some v/\(results fn a.tmps).run P w=.ok v w:=by
 rw[aJI hf];unfold aQA at h;split at h
 ·cases h;exact⟨.tuple #[],rfl,by simp⟩
 ·obtain⟨v,h1,h2⟩:=aX4 hT hA hS h;simp_all
 ·split at h
  ·rename_i g1 g2;cases h;obtain⟨v1,h1,k1⟩:=aB9 hT hA hS g1;obtain⟨v2,h2,k2⟩:=aB9 hT hA hS g2;simp_all[fS,aZ]
  ·cases h
 ·split at h
  ·rename_i g1 g2 g3;cases h;obtain⟨v1,h1,k1⟩:=aB9 hT hA hS g1;obtain⟨v2,h2,k2⟩:=aB9 hT hA hS g2;obtain⟨v3,h3,k3⟩:=aB9 hT hA hS g3;simp_all[fS,aZ]
  ·cases h
 ·cases h
structure FnS (P:Program) (f:FuncId) (c:Ctx) (xs:List SV) (B0:Bl) (L0:List Ch) {ρ ex:Type} (sv:ρ->ex->SV) (Lf:ρ->ex->List Ch) (r:ρ):Prop where
 call:∀args w,(callFunc f args).run P w=.ok (.enter f args) w
 run:∀vs,aZ (fS B0) xs=some vs->nC c c.w0 B0 L0->Calls P f vs.toArray c.w0 (Ret fun v w'=>∃y,fS B0 (sv r y)=some v/\nC c w' B0 (Lf r y))
abbrev Fn0(P:Program)(f:FuncId)(c:Ctx)(xs:List SV){ρ:Type}(sv:ρ->SV)(r:ρ):Prop:=FnS P f c xs [] [] (fun r (_:Unit)=>sv r) (fun _ _=>[]) r
def aOY:Nat->List SV->SE
 | _,[]=>[]
 | k,v :: r=>(k,v) :: aOY (k+1) r
theorem aOZ{B:Bl}:∀{xs:List SV} {vs:List Value} (k:Nat) {j:Nat} {x:SV},aZ (fS B) xs=some vs->EK (aOY k xs) j=some x->∃v,fS B x=some v/\lk (aP3 k vs) j=some v
 | [],vs,k,j,x,h,hj=>by grind[aOY,EK]
 | y :: xs, vs, k, j, x, h, hj => by
  simp only[aZ] at h;split at h
  ·cases h
  ·rename_i h1;split at h
   ·cases h
   ·rename_i h2;cases h;simp only[aOY,EK] at hj;simp only[aP3,lk];cases hb:Nat.beq j k with
    | true=>grind
    | false=>rw[hb] at hj;exact aOZ (k+1) h2 hj
theorem en{f:FuncId}{fn:Func}{cd:Code}{xs:List SV}{L0:List Ch}{ρ ex:Type}{sv:ρ->ex->SV}{Lf:ρ->ex->List Ch}{r:ρ}(n:Nat)(hc:∀args w,(callFunc f args).run P w=.ok (.enter f args) w)(hf:P.funcs[f]?=some fn)(hT:H3 P T)(hb:fn.body=some cd)(hm:fn.ntmps=n)(hl:Nat.ble xs.length n=true)
  (k:G (.mk P T hT n c B0 (QS P fn c B0 sv Lf r) (fun _ _ _=>False) (QS P fn c B0 sv Lf r)) [] B0.length (aOY 0 xs) L0 (.c cd)):FnS P f c xs B0 L0 sv Lf r:=by
 refine⟨hc,fun vs hv hS=>D1 hf hb hm ?_ fun a hA=>?_⟩
 ·grind[mD]
 ·refine CW.mono (k a c.w0 ⟨[],by simp,⟨hA.d,hA.size,fun j x hj=>?_⟩,by grind⟩) (fun _ _ h=>h) (fun _ _ _ h=>h) (fun _ _ h=>h);obtain⟨v,h1,h2⟩:=aOZ 0 hv hj;exact⟨v,by grind,hA.get j v h2⟩
theorem aZM(w:World):nC (cL w) w [] []:=⟨⟨[],St.enter (by simp),by simp⟩,fun _ _ h=>h⟩
theorem rt{fn:Func}{ρ ex:Type}{sv:ρ->ex->SV}{Lf:ρ->ex->List Ch}{r r':ρ}{rs:List ResultVar}{zz:Option ρ}(y:ex)(is:List Nat)(hF:zz=some r)(hz:zz=some r')(hs:kI T n K cf m e L=.ret m' e' L')(hr:fn.results=rs.toArray){x:SV}(hv:aQA T e' L' rs=some x)(hx:nbS x=sv r' y)(hk:yY B0.length (sv r' y)=true)(hL:Y9 B0.length m' e' L' is B0.length [] (Lf r' y)=some ([],Lf r' y)):G (.mk P T hT n c B0 N X (QS P fn c B0 sv Lf r)) K m e L cf:=by subst hz;cases hF;refine iD (g:=.mk P T hT n c B0 N X _) ?_;rw[hs];intro a w hr';obtain⟨B,hm,hA,hS⟩:=id hr';obtain⟨v,h1,h2⟩:=aIR hr hT hA hS hv;obtain⟨B',hm',_,hS'⟩:=hr'.Y9 is hL;have hB':B'=[]:=(by simp_all);subst hB';refine⟨hA.d,v,h2,y,?_,by grind⟩;rw[<-hx] at hk ⊢;have:=T7 hk (by rw[aIL];exact h1);grind
theorem rf{fn:Func}{ρ ex:Type}{sv:ρ->ex->SV}{Lf:ρ->ex->List Ch}{r r':ρ}{rs:List ResultVar}{zz:Option ρ}(y:ex)(is:List Nat)(hF:zz=some r)(hz:zz=some r')(hs:kI T n K cf m e L=.fin m' e' L')(hr:fn.results=rs.toArray){x:SV}(hv:aQA T e' L' rs=some x)(hx:nbS x=sv r' y)(hk:yY B0.length (sv r' y)=true)(hL:Y9 B0.length m' e' L' is B0.length [] (Lf r' y)=some ([],Lf r' y)):G (.mk P T hT n c B0 (QS P fn c B0 sv Lf r) X Q) K m e L cf:=by subst hz;cases hF;refine iD (g:=.mk P T hT n c B0 _ X Q) ?_;rw[hs];intro a w hr';obtain⟨B,hm,hA,hS⟩:=id hr';obtain⟨v,h1,h2⟩:=aIR hr hT hA hS hv;obtain⟨B',hm',_,hS'⟩:=hr'.Y9 is hL;have hB':B'=[]:=(by simp_all);subst hB';refine⟨hA.d,v,h2,y,?_,by grind⟩;rw[<-hx] at hk ⊢;have:=T7 hk (by rw[aIL];exact h1);grind
def cJ(c:Ctx){α:Type}[aJ α](s:AC)(d:List α):Prop:=aJ.rd c.S0 c.w0 [s.v d.length] d
structure HS (c:Ctx) (w:World) (L:List Ch):Prop where
 ex:∃B,nC c w B L
abbrev ow{α:Type}[aJ α](s:AC)(d:List α):Ch:=.o (bL [s.v d.length] d)
abbrev fr{α:Type}[aJ α](s:AC)(d:List α):Ch:=.f (C9 [s.v d.length] d)
theorem aQI{w:World}{B:Bl}(hS:nC c w B L){f:Fact}(h:f.P c.S0 c.w0):f.P c.S0 w:=by obtain⟨⟨R,s1,_⟩,s0⟩:=hS;exact f.agree h fun b o hb=>s1.keep.cell b o (s0 b o hb) fun hw=>s1.apart b o hw hb
theorem a29{w:World}{B:Bl}(hS:nC c w B L):∀b o,c.S0 b o->R1 w b o:=fun b o hb=>by obtain⟨⟨R,s1,_⟩,s0⟩:=hS;exact R0 (s0 b o hb) s1.keep.size
theorem HS.a{w:World}{α:Type}[aJ α]{s:AC}{d:List α}(h:HS c w L)(hr:cJ c s d):cJ (cL w) s d:=by obtain⟨B,hS⟩:=h.ex;have h1:(C9 [s.v d.length] d).P c.S0 w:=aQI hS (f:=C9 [s.v d.length] d) hr;exact aJ.rd_mono h1 (a29 hS)
theorem HS.o{w:World}{α:Type}[aJ α]{s:AC}{d:List α}(h:HS c w L)(i:Nat)(hi:L[i]?=some (ow s d)):cJ (cL w) s d:=by obtain⟨B,⟨⟨R,s1,_⟩,_⟩⟩:=h.ex;exact s1.aXD i (by rw[JN,hi];rfl)
theorem HS.f{w:World}{α:Type}[aJ α]{s:AC}{d:List α}(h:HS c w L)(i:Nat)(hi:L[i]?=some (fr s d)):cJ (cL w) s d:=by obtain⟨B,⟨⟨R,s1,s2⟩,_⟩⟩:=h.ex;obtain⟨j,hj⟩:=aI9 (s2 _ (A6 hi));exact s1.rd j hj
theorem aCA{B:Bl}:∀{xs:List SV} {vs:List Value},okA xs=true->aZ (fS B) xs=some vs->aZ (fS []) xs=some vs
 | [],vs,_,h=>h
 | x :: xs, vs, ho, h => by
  simp only[okA] at ho;split at ho
  ·rename_i h0;simp only[aZ] at h;split at h
   ·cases h
   ·rename_i h1;split at h
    ·cases h
    ·rename_i h2;cases h;have h3:=T7 h0 h1;rw[List.take_zero] at h3;simp[aZ,h3,aCA ho h2]
  ·cases ho
theorem Z3{B:Bl}{a:Act}(hA:hY n B e a):∀{os:List Operand} {xs:List SV},aZ (j4 e) os=some xs->∃vs,aZ (fS B) xs=some vs/\evs (vE B e) os=some vs
 | [],xs,h=>by cases h;exact⟨[],rfl,rfl⟩
 | o :: os, xs, h => by
  simp only[aZ] at h;split at h
  ·cases h
  ·rename_i h1;split at h
   ·cases h
   ·rename_i h2;cases h;obtain⟨v,k1,k2⟩:=fT hA h1;obtain⟨vs,k3,k4⟩:=Z3 hA h2;grind[aZ,evs]
def noF:List Ch->Bool
 | []=>true
 | .ro _ _ :: _=>false
 | .f _ :: _=>false
 | .w _ _ _ :: _=>false
 | _ :: L=>noF L
theorem aQJ{B:Bl}{R:List Fact}:∀{L:List Ch},noF L=true->∀x∈L,roF B R x
 | [],_,x,hx=>by cases hx
 | y :: L, h, x, hx => by
  rcases mA.1 hx with hx' | hx'
  ·subst hx';cases x<;>first | trivial | cases h
  ·cases y with
   | ro=>cases h
   | f=>cases h
   | w=>cases h
   | _=>exact aQJ (L:=L) h x hx'
theorem nC.after{w w':World}{B:Bl}{L2:List Ch}(h:nC c w B L)(hn:noF L2=true)(k:nC (cL w) w' [] L2):nC c w' B (L++L2):=by
 obtain⟨⟨R,s1,s2⟩,s0⟩:=h;obtain⟨⟨R',t1,t2⟩,t0⟩:=k;refine⟨⟨R,?_,fun x hx=>?_⟩,s0⟩
 ·rw[A5];have h1:=s1.after t1;refine h1.imp (kM.append (kM.refl _) ?_);have:=ZA (B:=[]) B (w:=w') L2;grind
 grind[aQJ]
theorem nC.a3A{w w':World}{B:Bl}(h:nC c w B L)(k:eT F0 w w'):nC c w' B L:=by obtain⟨⟨R,s1,s2⟩,s0⟩:=h;exact⟨⟨R,s1.same k,s2⟩,s0⟩
theorem SG{o:Oper}{f:FuncId}{x:Operand}{args:Array Operand}{ts:Array TypeId}{vs:List Value}{E:Env}{w:World}(hcall:∀args w,(callFunc f args).run P w=.ok (.enter f args) w)(ho:o.op=.call {callee:=.value x,args:=args,argTypes:=ts})(hx:ev E x=some (.func (.func f) #[] #[]))(hv:evs E args.toList=some vs):a1B P o E w f vs.toArray:=by have:=aSI (w:=w) (cap:=[]) (xs:=args.toList) (vs:=vs) hcall (by omega) hx hv;grind
theorem cl{α β ex:Type}{fo:Option α}{kf:α->Option β}{q:β}{o:Oper}{d:Nat}{f:FuncId}{xs:List SV}{cf1 cf2:wG}{sv:α->ex->SV}{Lf:α->ex->List Ch}(hs:kI T n K cf m e L=.call o (some d) f xs cf1 cf2 K' m' e' L')(hn:∀x y,noF (Lf x y)=true)
  (hc:∀{w},HS c w L'->∀{x},fo=some x->FnS P f (cL w) xs [] [] sv Lf x) (hF:fo.bind kf=some q)
  (k:∀x,fo=some x->kf x=some q->∀y:ex,G (.mk P T hT n c B0 N X Q) K' m' ((d,sv x y) :: e') (L'++Lf x y) cf2):G (.mk P T hT n c B0 N X Q) K m e L cf:=by
 refine iD (g:=.mk P T hT n c B0 N X Q) ?_;rw[hs];intro fo' args ats ho hd hf ⟨ys,hys,hxs⟩ hA0 hdn hE;subst hxs;cases hfo:fo with
 | none=>grind
 | some x =>
  rw[hfo] at hF;refine hE ex (fun _=>m') (fun y=>(d,sv x y) :: e') (fun y=>L'++Lf x y) (fun y=>wI _) (fun B a w next Q' hm hA hS hnext=>?_) (k x hfo hF);obtain⟨hcall,hrun⟩:=hc ⟨_,hS⟩ hfo;obtain⟨vs,h1,h2⟩:=Z3 hA hys;obtain⟨v,h3,h4⟩:=fT hA hf;simp[fS,aZ] at h3;subst h3;have h5:=hrun vs (aCA hA0 (by rw[O8];exact h1)) (aZM w);have h6:=SG (w:=w) hcall ho h4 h2;unfold Oper.wp;rw[h6 _ a hA.env,Oper.upon_enter];refine Calls.mono h5 fun en w' ⟨v,hv,y,g1,g2⟩=>?_;subst hv;rw[hd];have g3:=wH (B0S (.mk P T hT n c B0 N X Q) cf1++B) g1;exact hnext y _ _ ⟨[],by grind,by simpa using hA.of (by grind) (hA.env.put (by grind[rS,wY]) v),by simpa using hS.after (hn x y) g2⟩
end
end Go.Gv
end
noncomputable section
namespace Go.Gv
noncomputable section
variable {P:Program} {T:TT} {hT:H3 P T} {n:Nat} {c:Ctx} {B0:Bl} {N:Act->World->Prop} {X:Nat->Act->World->Prop} {Q:Act->World->Prop} {K K':List Fr} {m m':Nat} {e e':SE} {L L':List Ch} {cf:wG}
def NxP(n:Nat)(c:Ctx)(B0:Bl){σ ρ υ:Type}(o:Step σ ρ)(m:Nat)(el:σ->υ->SE)(Ll:σ->υ->List Ch):Act->World->Prop:=fun a w=>∃s u,o=.next s/\pX n c B0 m (el s u) (Ll s u) a w
def BkP(n:Nat)(c:Ctx)(B0:Bl){β ρ υ:Type}(ro:ρ)(enc:β->ρ)(m:Nat)(ej:β->υ->SE)(Lj:β->υ->List Ch)(id:Nat)(X:Nat->Act->World->Prop):Nat->Act->World->Prop:=fun i a w=>if i=id then ∃b u,ro=enc b/\pX n c B0 m (ej b u) (Lj b u) a w else X i a w
theorem lp{σ ρ υ β ω α:Type}{id:Nat}{y:Code}{fb:σ->Option (Step σ ρ)}{s0:σ}{gk:ρ->Option α}{q:α}(u0:υ)(ks:List Nat)(el:σ->υ->SE)(is0 is:List Nat)(Ll:σ->υ->List Ch)(enc:β->ρ)(kb:List Nat)(ej:β->ω->SE)(ib:List Nat)(Lj:β->ω->List Ch)
  (hs:kI T n K cf m e L=.loop id y K' m' e' L') (hF:(loop fb s0).bind gk=some q)
  (h0:Y9 B0.length m' e' L' is0 m' (el s0 u0++kp e' ks) (Ll s0 u0++kl L' is)=some (el s0 u0++kp e' ks,Ll s0 u0++kl L' is))
  (k1:∀ro,gk ro=some q->∀s u o,fb s=some o->(∀p,o=.stop p->p=ro)->G (.mk P T hT n c B0 (NxP n c B0 o m' (fun s u=>el s u++kp e' ks) (fun s u=>Ll s u++kl L' is)) (BkP n c B0 ro enc m' (fun b u=>ej b u++kp e' kb) (fun b u=>Lj b u++kl L' ib) id (XK (.mk P T hT n c B0 N X Q) K')) Q) [] m' (el s u++kp e' ks) (Ll s u++kl L' is) (.c y))
  (k2:∀b u,gk (enc b)=some q->G (.mk P T hT n c B0 N X Q) K' m' (ej b u++kp e' kb) (Lj b u++kl L' ib) .n):G (.mk P T hT n c B0 N X Q) K m e L cf:=by
 refine iD (g:=.mk P T hT n c B0 N X Q) ?_;rw[hs];intro a w hr;cases hl:loop fb s0 with
 | none=>grind
 | some ro =>
  rw[hl] at hF;have hF:gk ro=some q:=hF;refine nD (O4 (body:=fb) (r:=ro) (fun s a w=>∃u,pX n c B0 m' (el s u++kp e' ks) (Ll s u++kl L' is) a w) ?_ hl ⟨u0,hr.Y9 is0 h0⟩);intro s a w o ⟨u,hI⟩ hb ho;refine CW.mono (k1 ro hF s u o hb ho a w hI) ?_ ?_ (fun _ _ h=>h)
  ·rintro a w ⟨s',u',h1,h2⟩;grind
  ·intro i a w h;simp only[XK,BkP,aJD] at h ⊢;split
   ·rename_i hi;rw[aL hi] at h;obtain⟨b,u,h1,h2⟩:=h;exact k2 b u (h1 ▸ hF) a w h2
   grind
theorem nx{σ ρ υ:Type}{o:Step σ ρ}{mj:Nat}{el:σ->υ->SE}{Ll:σ->υ->List Ch}{s:σ}(u:υ)(is:List Nat)(hG:some (Step.next s)=some o)(hs:kI T n K cf m e L=.fin m' e' L')(h:Y9 B0.length m' e' L' is mj (el s u) (Ll s u)=some (el s u,Ll s u)):G (.mk P T hT n c B0 (NxP n c B0 o mj el Ll) X Q) K m e L cf:=
 iD (g:=.mk P T hT n c B0 _ X Q) (by
  rw[hs];cases hG;exact fun a w hr=>⟨s,u,rfl,hr.Y9 is h⟩)
theorem bk{σ ρ β υ:Type}{o:Step σ ρ}{ro:ρ}{enc:β->ρ}{mj id:Nat}{ej:β->υ->SE}{Lj:β->υ->List Ch}{b:β}(u:υ)(is:List Nat)(hG:some (Step.stop (enc b))=some o)(hr:∀p,o=.stop p->p=ro)(hs:kI T n K cf m e L=.ex id m' e' L')(h:Y9 B0.length m' e' L' is mj (ej b u) (Lj b u)=some (ej b u,Lj b u)):G (.mk P T hT n c B0 N (BkP n c B0 ro enc mj ej Lj id X) Q) K m e L cf:=
 iD (g:=.mk P T hT n c B0 N _ Q) (by
  rw[hs];cases hG;have:=hr _ rfl;subst this;intro a w hr;show BkP n c B0 (enc b) enc mj ej Lj id X id a w;unfold BkP;rw[aL rfl];exact⟨b,u,rfl,hr.Y9 is h⟩)
theorem re{σ ρ α:Type}{o:Step σ ρ}{p ro:ρ}{F:ρ->Option α}{q:Option α}{zz:Option (Step σ ρ)}(hG:zz=some o)(hz:zz=some (Step.stop p))(hr:∀p,o=.stop p->p=ro)(hF:F ro=q):F p=q:=by grind
structure EG (α:Type) [aJ α] where
 ex:Type
 cs:α->ex->List SV
 sub:cN->World->α->ex->Prop
 ok:∀{S w ec x},aJ.rd S w ec x->∃y,aZ (bT []) (cs x y)=some ec/\sub S w x y
 sv:α->ex->SV
 bE7:∀{S S' w w' x y},sub S w x y->(∀b o,S b o->w'.cell? ⟨b,o,none⟩=w.cell? ⟨b,o,none⟩)->(∀b o,S b o->S' b o)->sub S' w' x y
def cI:EG Int:=⟨Unit,fun x _=>[.i .i64 x],fun _ _ _ _=>True,fun h=>⟨(),by cases h;rfl,trivial⟩,fun x _=>.i .i64 x,fun _ _ _=>trivial⟩
def cU:EG UInt8:=⟨Unit,fun x _=>[.y x],fun _ _ _ _=>True,fun h=>⟨(),by cases h;rfl,trivial⟩,fun x _=>.y x,fun _ _ _=>trivial⟩
theorem NC{α:Type}[aJ α]{S:cN}{w:World}{ec:List Value}{l:List α}(h:aJ.rd S w ec l):∃s:AC,ec=[s.v l.length]:=by obtain⟨ad,m,h1,_⟩:=(show tL S w ec l from h);exact⟨⟨ad,m⟩,h1⟩
theorem St.bC1{w:World}{M:List Chunk}{R:List Fact}{f:Fact}(h:St c w M R)(s0:∀b o,c.S0 b o->b<c.w0.heap.size)(hf:f.P c.S0 c.w0):St c w M (R ++ [f]):=by
 obtain⟨F,S,a1,a2,a3,a4,a5,a6⟩:=h.sep;refine⟨h.keep,⟨F,fun b o=>S b o\/c.S0 b o,a1,?_,a3,?_,?_,?_⟩,h.apart⟩
 ·rintro b o hF (hs | hs)
  ·exact a2 b o hF hs
  ·rcases a3 b o hF with hw | hw
   ·exact h.apart b o hw hs
   grind
 ·grind
 ·rintro b o (hs | hs)
  ·grind
  ·exact R0 (s0 b o hs) h.keep.size
 ·intro g hg;rcases jB.1 hg with hg | hg
  ·exact g.mono (a6 g hg) fun b o hs=>.inl hs
  ·simp at hg;subst hg;exact g.mono (g.agree hf fun b o hb=>h.keep.cell b o (s0 b o hb) fun hw=>h.apart b o hw hb) fun b o hs=>.inr hs
theorem nC.bC2{w:World}{B:Bl}{k b z:Nat}{cs:List SV}{vs:List Value}(h:nC c w B L)(hk:B[k]?=some (b,z))(hc:aZ (bT B) cs=some vs)(hf:(fAt b z vs).P c.S0 c.w0):nC c w B (L ++ [.ro k cs]):=by
 obtain⟨⟨R,s1,s2⟩,s0⟩:=h;refine⟨⟨R ++ [fAt b z vs],?_,fun x hx=>?_⟩,s0⟩
 ·rw[A5];exact St.more (ch:=K9) (St.bC1 s1 s0 hf) (eT.refl _ _) ⟨F0,fun _ _ h=>h,fun _ _ h=>h.elim⟩
 ·rcases jB.1 hx with hx | hx
  ·grind[aB5]
  ·simp at hx;subst hx;exact⟨b,z,vs,hk,hc,by simp⟩
theorem ix{α β:Type}{iR:aJ α}(C:EG α){o:Oper}{d t:Nat}{s:AC}{i:Int}{Lv:List Ch}{cf1 cf2:wG}{ls:List α}{kf:α->Option β}{q:β}{el sz:Nat}{b1 b2:Bool}{z1 z2:List SV}{k2:TK}{n1:Nat}(hs:kI T n K cf m e L=.idx o d t s ls.length i Lv cf1 cf2 K' m' e' L')(h1:cJ c s ls)(hF:(idx ls i).bind kf=some q)(ht:D3 T t=some ⟨.sl el,b1,n1,z1⟩)(he:D3 T el=some ⟨k2,b2,sz,z2⟩)(hn:aJ.n α=sz)
  (k:∀x,idx ls i=some x->kf x=some q->∀y:C.ex,C.sub c.S0 c.w0 x y->G (.mk P T hT n c B0 N X Q) K' (m'+1) ((d,.p m' 0) :: e') (L' ++ [.ro m' (C.cs x y)]) (cf2.ext [.ro m' (C.cs x y)])):G (.mk P T hT n c B0 N X Q) K m e L cf:=by
 refine iD (g:=.mk P T hT n c B0 N X Q) ?_;rw[hs];intro x' y' ho hd hx hy hP;cases hi:idx ls i with
 | none=>grind
 | some x =>
  rw[hi] at hF;obtain⟨dd,hd1,hd2⟩:=hT.und _ _ ht;simp only at hd2;subst hd2;obtain⟨ec,p1,p2⟩:=bAP (S:=c.S0) (w:=c.w0) h1 (mC hi).2.2;obtain⟨y,p3,p4⟩:=C.ok p2;subst hn;refine hP d (.p m' 0) [.ro m' (C.cs x y)] (fun _=>[(RW (s.v ls.length),QM (aJ.n α) i.toNat (s.v ls.length))]) 1 hd (fun _=>rfl) (fun B a w hA hS hm=>?_) (fun B w L hm hS=>?_) (k x hi hF y p4)
  ·obtain⟨v,g1,g2⟩:=fT hA hx;obtain⟨u,g3,g4⟩:=fT hA hy;cases g1;cases g3;have hrd:aJ.rd c.S0 w [s.v ls.length] ls:=aQI hS (f:=C9 [s.v ls.length] ls) h1;exact⟨_,by grind[fS,gV,bT],XA (P:=P) (o:=o) (w:=w) hrd rfl hi hd1 (hT.size _ _ he) ho g2 g4⟩
  ·exact(hS.app _).bC2 (b:=RW (s.v ls.length)) (z:=QM (aJ.n α) i.toNat (s.v ls.length)) (by grind) (eZ (fun x v h=>by simpa using gL (B:=[]) _ h) p3) p1
theorem dr{id:Nat}{ops:Array Oper}(is:List Nat)(hs:kI T n K cf m e L=.rgn id ops K' m' e' L')(hm:P.follows .mixedOrders=true)(hf:(aSP ops && (okL m' (kl L' is) && (dQ is && is.all fun j=>Nat.blt j L'.length)))=true)
  (k:∀B1,G (.mk P T hT n c B0 N X Q) K' m' e' L' (.d B1 ops (List.replicate ops.size false) is (kl L' is) (kl L' is))):G (.mk P T hT n c B0 N X Q) K m e L cf:=by
 refine iD (g:=.mk P T hT n c B0 N X Q) ?_;rw[hs];intro a w ⟨B,hmm,hA,hS⟩;simp only[C8,aM6,wY] at hf;obtain⟨f1,f2,f3,f4⟩:=hf;refine wp_region_held (S:=Sd (.mk P T hT n c B0 N X Q) (B0++B) (kl L' is)) hm ?_;have:=k (B0++B) ⟨⟨B,rfl⟩,by simp,f1,rfl,f4,by grind,f3⟩ a w.drew ⟨[],by grind,by grind,by simpa using hS.a3A (eT.drew F0 w),fun w' h=>by grind⟩;simp_all
end
end Go.Gv
end
noncomputable section
namespace Go.Gv
inductive StF (P:Program):List Field->List (Nat×Nat)->Prop where
 | n:StF P [] []
 | c {F:Field} {Fs:List Field} {fs:List (Nat×Nat)} {m:Nat} (h:∀w,(sizeOf F.type).run P w=.ok m w) (t:StF P Fs fs):StF P (F :: Fs) ((F.offset,m) :: fs)
noncomputable section
variable {P:Program} {T:TT} {t n:Nat} {a:Bool} {zs:List SV} {z:Value}
theorem StF.off{Fs:List Field}{fs:List (Nat×Nat)}(h:StF P Fs fs):Fs.map (·.offset)=fs.map (·.1):=by
 induction h with
 | n=>rfl
 | c h t ih=>simp[ih]
theorem StF.get{Fs:List Field}{fs:List (Nat×Nat)}(h:StF P Fs fs):∀(j:Nat) F,Fs[j]?=some F->∃m,fs[j]?=some (F.offset,m)/\∀w,(sizeOf F.type).run P w=.ok m w:=by
 induction h with
 | n=>simp
 | c h t ih =>
  intro j F hj;cases j with
  | zero=>simp_all
  | succ j=>grind
theorem StF.run{Fs:List Field}{fs:List (Nat×Nat)}(h:StF P Fs fs)(w:World):(Fs.mapM fun f=>(do pure (f.offset,<-sizeOf f.type):Sem (Nat×Nat))).run P w=.ok fs w:=by
 induction h with
 | n=>simp
 | c h t ih=>simp_all
theorem H3.nil:H3 P []:=⟨fun _ _ h=>(by cases h),fun _ _ h=>(by cases h),fun _ _ h=>(by cases h),fun _ _ h=>(by cases h)⟩
theorem H3.add{k:TK}{d:TypeDesc}(hu:P.underlying t=some d)(hk:match k with
  | .i k=>d=.int k
  | .b=>d=.bool
  | .st fs=>∃Fs:Array Field,d=.struct Fs/\Fs.toList.map (·.offset)=fs.map (·.1)/\(∀(j:Nat) F,Fs[j]?=some F->∃m,fs[j]?=some (F.offset,m)/\∀w,(sizeOf F.type).run P w=.ok m w)/\∀w,(Fs.mapM fun f=>(do pure (f.offset,<-sizeOf f.type):Sem (Nat×Nat))).run P w=.ok fs.toArray w
  | .s=>d=.string
  | .sl el=>d=.slice el
  | .x=>True) (ha:∀w,(isAgg t).run P w=.ok a w) (hs:∀w,(sizeOf t).run P w=.ok n w) (hz:∀w,(zeroValue t).run P w=.ok z w) (hc:aZ (bT []) zs=some z.cells.toList) (h:H3 P T):H3 P ((t,⟨k,a,n,zs⟩) :: T):=by
 refine⟨fun t' i hi=>?_,fun t' i hi=>?_,fun t' i hi=>?_,fun t' i hi=>?_⟩<;>simp only[D3] at hi<;>split at hi
 ·grind[qY]
 ·exact h.und t' i hi
 ·grind[qY]
 ·exact h.agg t' i hi
 ·grind[qY]
 ·exact h.size t' i hi
 ·grind[qY]
 ·exact h.zero t' i hi
theorem H3.st{fs:List (Nat×Nat)}{Fs:List Field}(hu:P.underlying t=some (.struct Fs.toArray))(hk:StF P Fs fs)(ha:∀w,(isAgg t).run P w=.ok a w)(hs:∀w,(sizeOf t).run P w=.ok n w)(hz:∀w,(zeroValue t).run P w=.ok z w)(hc:aZ (bT []) zs=some z.cells.toList)(h:H3 P T):H3 P ((t,⟨.st fs,a,n,zs⟩) :: T):=
 H3.add (k:=.st fs) hu ⟨Fs.toArray,rfl,by simpa using hk.off,fun j F hj=>hk.get j F (by grind),fun w=>by
  have:=hk.run w;simp_all⟩ ha hs hz hc h
end
abbrev I(x:Int):SV:=.i .i64 x
end Go.Gv
end
noncomputable section
namespace Go.Gv
noncomputable section
variable {P:Program} {T:TT} {hT:H3 P T} {n:Nat} {c:Ctx} {B0:Bl} {N:Act->World->Prop} {X:Nat->Act->World->Prop} {Q:Act->World->Prop} {K K':List Fr} {m m':Nat} {e e':SE} {L L':List Ch} {cf cf1 cf2:wG} {o:Oper} {Lv:List Ch} {d:Nat}
theorem ext_nil:cf.ext []=cf:=by cases cf<;>simp[wG.ext]
theorem pu{x:SV}(hs:opS (kI T n K cf m e L)=some (o,Lv,cf1,cf2,K',m',e',L'))(hd:o.dst=some d)(hv:∀B a w,hY n B e' a->nC c w B Lv->∃v,fS B x=some v/\eR P o (vE B e') w v w)
  (k:G (.mk P T hT n c B0 N X Q) K' m' ((d,x) :: e') L' cf2):G (.mk P T hT n c B0 N X Q) K m e L cf:=by
 refine iD (g:=.mk P T hT n c B0 N X Q) ?_;have key:aB8 (.mk P T hT n c B0 N X Q) K' m' e' L' o Lv cf1 cf2->G (.mk P T hT n c B0 N X Q) K' m' e' L' cf1:=fun hP=>by refine hP d x [] (fun _=>[]) 0 hd (fun _=>rfl) (fun B a w hA hS _=>?_) (fun B w L _ hS=>by simpa using hS) (by rw[ext_nil];simpa using k);obtain⟨v,h1,h2⟩:=hv B a w hA hS;exact⟨v,by simpa using h1,h2⟩
 generalize kI T n K cf m e L=s at hs;cases s<;>simp only[opS] at hs<;>cases hs
 ·exact fun _ hP=>key hP
 ·exact fun _ hP _=>key hP
theorem A7{x:Operand}{k:IntKind}{i:Int}{B:Bl}{a:Act}(hA:hY n B e a)(h:(j4 e x).bind wB=some (k,i)):ev (vE B e) x=some (.int k i):=by
 cases hx:j4 e x with
 | none=>rw[hx] at h;cases h
 | some y =>
  rw[hx] at h;obtain⟨v,h1,h2⟩:=fT hA hx;rw[h2,aVJ (x:=y) h h1]
noncomputable section
variable {x y:Operand} {t z:TypeId} {k:IntKind} {i j:Int} {α:Type} {A:Option α} {q:α}
theorem bC3(hs:opS (kI T n K cf m e L)=some (o,Lv,cf1,cf2,K',m',e',L'))(ho:(o.op,o.dst)=(.binOp .quo t x y z,some d))(hx:(j4 e' x).bind wB=some (k,i))(hy:(j4 e' y).bind wB=some (k,j))(hF:need (j≠0) A=some q)
  (kk:A=some q->G (.mk P T hT n c B0 N X Q) K' m' ((d,.i k (k.wrap (i.tdiv j))) :: e') L' cf2):G (.mk P T hT n c B0 N X Q) K m e L cf:=
 pu hs (eA Prod.snd ho) (fun B a w hA _=>⟨_,rfl,aU6 (eA Prod.fst ho) (A7 hA hx) (A7 hA hy) (kG hF).1⟩) (kk (kG hF).2)
theorem bC4(hs:opS (kI T n K cf m e L)=some (o,Lv,cf1,cf2,K',m',e',L'))(ho:(o.op,o.dst)=(.binOp .rem t x y z,some d))(hx:(j4 e' x).bind wB=some (k,i))(hy:(j4 e' y).bind wB=some (k,j))(hF:need (j≠0) A=some q)
  (kk:A=some q->G (.mk P T hT n c B0 N X Q) K' m' ((d,.i k (i.tmod j)) :: e') L' cf2):G (.mk P T hT n c B0 N X Q) K m e L cf:=
 pu hs (eA Prod.snd ho) (fun B a w hA _=>⟨_,rfl,aEJ (eA Prod.fst ho) (A7 hA hx) (A7 hA hy) (kG hF).1⟩) (kk (kG hF).2)
theorem bA2{x:Operand}{l:List UInt8}{B:Bl}{a:Act}(hA:hY n B e a)(h:j4 e x=some (.s l)):ev (vE B e) x=some (sv l):=by obtain⟨v,h1,h2⟩:=fT hA h;cases h1;exact h2
theorem cat{p r:List UInt8}(hs:opS (kI T n K cf m e L)=some (o,Lv,cf1,cf2,K',m',e',L'))(ho:(o.op,o.dst)=(.binOp .add t x y z,some d))(hx:j4 e' x=some (.s p))(hy:j4 e' y=some (.s r))(hF:need (p.length+r.length<=9223372036854775807) A=some q)
  (kk:A=some q->G (.mk P T hT n c B0 N X Q) K' m' ((d,.s (p++r)) :: e') L' cf2):G (.mk P T hT n c B0 N X Q) K m e L cf:=
 pu hs (eA Prod.snd ho) (fun B a w hA _=>⟨_,rfl,bAD (eA Prod.fst ho) (bA2 hA hx) (bA2 hA hy) (kG hF).1⟩) (kk (kG hF).2)
theorem bC5{x:Operand}{cs:List SV}{vs:List Value}{B:Bl}{a:Act}(hA:hY n B e a)(h:(j4 e x).map nbS=some (.g cs))(hv:aZ (bT []) cs=some vs):ev (vE B e) x=some (.agg vs.toArray):=by
 cases hx:j4 e x with
 | none=>rw[hx] at h;cases h
 | some y =>
  rw[hx] at h;simp at h;obtain⟨v,h1,h2⟩:=fT hA hx;rw[h2,<-h1,<-aIL,h];simp only[fS,gV];have:=eZ (g:=bT B) (fun x v h=>by simpa using gL (B:=[]) B h) hv;rw[this]
theorem neS{xs ys:List SV}{vx vy:List Value}{fs:Array Field}{b:Bool}(hg:P.eqGuardType P.depth t=false)(hst:P.stoodInHeld t=false)(hu:P.underlying t=some (.struct fs))(hb:∀w,(Op.eqFields 9999 vx.toArray vy.toArray (match P.underlying t with | some (.struct fs)=>fs | _=>#[]).toList).run P w=.ok b w)(hs:opS (kI T n K cf m e L)=some (o,Lv,cf1,cf2,K',m',e',L'))(ho:(o.op,o.dst)=(.binOp .neq t x y z,some d))(hx:(j4 e' x).map nbS=some (.g xs))(hy:(j4 e' y).map nbS=some (.g ys))(hvx:aZ (bT []) xs=some vx)(hvy:aZ (bT []) ys=some vy)
  (kk:G (.mk P T hT n c B0 N X Q) K' m' ((d,.b (!b)) :: e') L' cf2):G (.mk P T hT n c B0 N X Q) K m e L cf:=
 pu hs (eA Prod.snd ho) (fun B a w hA _=>⟨_,rfl,a6U hg hst hu hb (eA Prod.fst ho) (bC5 hA hx hvx) (bC5 hA hy hvy)⟩) kk
theorem cl0{α β:Type}{fo:Option α}{kf:α->Option β}{q:β}{f:FuncId}{xs:List SV}{sv:α->SV}(hs:kI T n K cf m e L=.call o (some d) f xs cf1 cf2 K' m' e' L')
  (hc:∀{w},HS c w L'->∀{x},fo=some x->Fn0 P f (cL w) xs sv x) (hF:fo.bind kf=some q)
  (k:∀x,fo=some x->kf x=some q->G (.mk P T hT n c B0 N X Q) K' m' ((d,sv x) :: e') L' cf2):G (.mk P T hT n c B0 N X Q) K m e L cf:=
 cl (Lf:=fun _ _=>[]) hs (fun _ _=>rfl) (fun h=>hc h) hF (fun x hx hk _=>by simpa using k x hx hk)
theorem lr{σ ρ υ α:Type}{id:Nat}{y:Code}{fb:σ->Option (Step σ ρ)}{s0:σ}{gk:ρ->Option α}{q:α}(u0:υ)(ks:List Nat)(el:σ->υ->SE)(is0 is:List Nat)(Ll:σ->υ->List Ch)
  (hs:kI T n K cf m e L=.loop id y K' m' e' L') (hF:(loop fb s0).bind gk=some q)
  (h0:Y9 B0.length m' e' L' is0 m' (el s0 u0++kp e' ks) (Ll s0 u0++kl L' is)=some (el s0 u0++kp e' ks,Ll s0 u0++kl L' is))
  (k1:∀ro,gk ro=some q->∀s u o,fb s=some o->(∀p,o=.stop p->p=ro)->G (.mk P T hT n c B0 (NxP n c B0 o m' (fun s u=>el s u++kp e' ks) (fun s u=>Ll s u++kl L' is)) (BkP n c B0 ro (fun b:Empty=>nomatch b) m' (fun(b:Empty) (_:Unit)=>nomatch b) (fun b _=>nomatch b) id (XK (.mk P T hT n c B0 N X Q) K')) Q) [] m' (el s u++kp e' ks) (Ll s u++kl L' is) (.c y)):G (.mk P T hT n c B0 N X Q) K m e L cf:=
 lp (β:=Empty) (ω:=Unit) u0 ks el is0 is Ll (fun b=>nomatch b) [] (fun b=>nomatch b) [] (fun b=>nomatch b) hs hF h0 (fun ro hro s u o hb ho=>by
  have:=k1 ro hro s u o hb ho;have h1:(fun(b:Empty) (u:Unit)=>((fun b=>nomatch b:Empty->Unit->SE) b u++kp e' []))=(fun(b:Empty) (_:Unit)=>nomatch b):=funext fun b=>nomatch b
  have h2:(fun(b:Empty) (u:Unit)=>((fun b=>nomatch b:Empty->Unit->List Ch) b u++kl L' []))=(fun(b:Empty) (_:Unit)=>nomatch b):=funext fun b=>nomatch b
  rw[h1,h2];exact this) (fun b=>nomatch b)
end
end
end Go.Gv
end
noncomputable section
namespace Go.Gv
noncomputable section
variable {P:Program} {T:TT} {hT:H3 P T} {n:Nat} {c:Ctx} {B0:Bl} {N:Act->World->Prop} {X:Nat->Act->World->Prop} {Q:Act->World->Prop} {K K':List Fr} {m m':Nat} {e e':SE} {L L':List Ch} {cf cf1 cf2:wG} {o:Oper} {Lv:List Ch} {d:Nat}
def ZO(P:Program)(c:Ctx){α β:Type}{iR:aJ α}(C:EG α)(sr:β->SV)(g:FuncId)(cap:List Value)(p:α->Option β):Prop:=
 (∀args w,(callFunc g args).run P w=.ok (.enter g args) w)/\∀w,eT c.W c.w0 w->∀x y,C.sub (R1 w) w x y->∀q,p x=some q->∀v,fS [] (C.sv x y)=some v->Calls P g (v :: cap).toArray w (Ret fun u w'=>fS [] (sr q)=some u/\nC (cL w) w' [] [])
def Fu2(P:Program)(c:Ctx){α α' β:Type}{iR:aJ α}{iR':aJ α'}(C:EG α)(C':EG α')(sr:β->SV)(g:FuncId)(cap:List Value)(p:α->α'->Option β):Prop:=
 (∀args w,(callFunc g args).run P w=.ok (.enter g args) w)/\∀w,eT c.W c.w0 w->∀x y x' y',C.sub (R1 w) w x y->C'.sub (R1 w) w x' y'->∀q,p x x'=some q->∀v v',fS [] (C.sv x y)=some v->fS [] (C'.sv x' y')=some v'->Calls P g (v :: v' :: cap).toArray w (Ret fun u w'=>fS [] (sr q)=some u/\nC (cL w) w' [] [])
theorem a3B{α:Type}{iR:aJ α}(C:EG α){w:World}{B:Bl}(hS:nC c w B L){x:α}{y:C.ex}(h:C.sub c.S0 c.w0 x y):C.sub (R1 w) w x y:=by refine C.bE7 h (fun b o hb=>?_) (a29 hS);obtain⟨⟨R,s1,_⟩,s0⟩:=hS;exact s1.keep.cell b o (s0 b o hb) fun hw=>s1.apart b o hw hb
theorem nC.a3C{w:World}{B:Bl}(hS:nC c w B L):eT c.W c.w0 w:=by obtain⟨⟨R,s1,_⟩,s0⟩:=hS;exact s1.keep
noncomputable section
variable {α α' β γ:Type} {iR:aJ α} {iR':aJ α'} {C:EG α} {C':EG α'} {sr:β->SV} {g:FuncId} {cap:List Value} {q:γ} {kf:β->Option γ} {fo:Operand} {args:Array Operand} {ats:Array TypeId}
theorem a3D{f:FuncId}{x:Operand}{ts:Array TypeId}{vs:List Value}{E:Env}{w:World}(hcall:∀args w,(callFunc f args).run P w=.ok (.enter f args) w)(ho:o.op=.call {callee:=.value x,args:=args,argTypes:=ts})(hx:ev E x=some (.func (.func f) #[] cap.toArray))(hv:evs E args.toList=some vs):a1B P o E w f (vs++cap).toArray:=
 aSI (w:=w) (cap:=cap) (xs:=args.toList) (vs:=vs) hcall (by omega) hx hv
theorem aO0{B:Bl}{x:SV}{v:Value}(h:yY 0 x=true)(hv:fS B x=some v):fS [] x=some v:=by have:=T7 h hv;grind
theorem fa1{p:α->Option β}(H:ZO P c C sr g cap p)(x:α)(y:C.ex)(hs:kI T n K cf m e L=.op o Lv cf1 cf2 K' m' e' L')(ho:(o.op,o.dst)=(.call {callee:=.value fo,args:=args,argTypes:=ats},some d))(hf:j4 e' fo=some (.k (.func (.func g) #[] cap.toArray)))(hx:(aZ (j4 e') args.toList).map nbT=some [C.sv x y])(hz:yY 0 (C.sv x y)=true)(hy:C.sub c.S0 c.w0 x y)(hF:(p x).bind kf=some q)
  (k:∀z,p x=some z->kf z=some q->G (.mk P T hT n c B0 N X Q) K' m' ((d,sr z) :: e') L' cf2):G (.mk P T hT n c B0 N X Q) K m e L cf:=by
 refine iD (g:=.mk P T hT n c B0 N X Q) ?_;rw[hs];intro hdn _ hE;obtain⟨hcall,hrun⟩:=H;cases hp:p x with
 | none=>grind
 | some z =>
  rw[hp] at hF;refine hE Unit (fun _=>m') (fun _=>(d,sr z) :: e') (fun _=>L') (fun _=>by simpa using wI (L:=L') []) (fun B a w next Q' hm hA hS hnext=>?_) (fun _=>k z hp hF);cases hys:aZ (j4 e') args.toList with
  | none=>grind
  | some ys =>
   rw[hys] at hx;simp at hx;obtain⟨vs,h1,h2⟩:=Z3 hA hys;obtain⟨u,h3,h4⟩:=fT hA hf;simp only[fS,gV,bT] at h3;split at h3
   ·cases h3;rw[<-aXY,hx] at h1;simp only[aZ] at h1;cases hv:fS (B0S (.mk P T hT n c B0 N X Q) cf1++B) (C.sv x y) with
    | none=>grind
    | some v =>
     rw[hv] at h1;cases h1;have h6:=a3D (w:=w) hcall (eA Prod.fst ho) h4 h2;have hd:o.dst=some d:=eA Prod.snd ho;unfold Oper.wp;rw[h6 _ a hA.env,Oper.upon_enter];refine Calls.mono (hrun w hS.a3C x y (a3B C hS hy) z hp v (aO0 hz hv)) fun en w' ⟨v',hv',g1,g2⟩=>?_;subst hv';rw[hd] at hdn ⊢;have g3:=wH (B0S (.mk P T hT n c B0 N X Q) cf1++B) g1;exact hnext () _ _ ⟨[],by grind,by simpa using hA.of (by grind) (hA.env.put (by grind[rS,wY]) v'),by simpa using hS.after (L2:=[]) rfl g2⟩
   ·cases h3
theorem fu1{w:World}{p:α->Option β}(hc:∀args w,(callFunc g args).run P w=.ok (.enter g args) w)(hn:∀{κ:Ctx} {x y},C.sub κ.S0 κ.w0 x y->∀{q},p x=some q->Fn0 P g κ [C.sv x y] sr q):ZO P (cL w) C sr g [] p:=
 ⟨hc,fun w1 _ x y hy q hq v hv=>by
  refine Calls.mono ((hn (κ:=cL w1) hy hq).run [v] (by simp[aZ,hv]) (aZM w1)) fun en w' ⟨v',h1,y,h2,h3⟩=>⟨v',h1,h2,h3⟩⟩
end
def roL:Nat->List (Nat×List SV)->List Ch
 | _,[]=>[]
 | k,(_,cs) :: r=>.ro k cs :: roL (k+1) r
def roS:List (Nat×List SV)->List Ch
 | []=>[]
 | (n,cs) :: r=>.ro n cs :: roS r
def a3E:Nat->List (Nat×List SV)->List SV
 | _,[]=>[]
 | k,_ :: r=>.p k 0 :: a3E (k+1) r
def SH(Bs:Bl):List Value:=Bs.map fun b=>.pointer (some ⟨b.1,b.2,none⟩)
theorem rk{α:Type}[aJ α]{w w1:World}{s:AC}{l:List α}(hk:eT F0 w w1)(h:cJ (cL w) s l):cJ (cL w1) s l:=
 aJ.rd_mono (aJ.rd_agree h fun b o hb=>hk.cell b o hb fun h=>h) fun b o hb=>R0 hb hk.size
theorem fk1{α β:Type}{iR:aJ α}{C:EG α}{sr:β->SV}{g:FuncId}{w:World}{Bs:Bl}{cs:List (Nat×List SV)}{p:α->Option β}(hc:∀args w,(callFunc g args).run P w=.ok (.enter g args) w)(hB:∀w1,eT F0 w w1->nC (cL w1) w1 Bs (roL 0 cs))(hl:aZ (fS Bs) (a3E 0 cs)=some (SH Bs))(hz:∀q,yY 0 (sr q)=true)(hn:∀{w1 x y},eT F0 w w1->C.sub (R1 w1) w1 x y->∀{q},p x=some q->FnS P g (cL w1) (C.sv x y :: a3E 0 cs) Bs (roL 0 cs) (fun r (_:Unit)=>sr r) (fun _ _=>[]) q):ZO P (cL w) C sr g (SH Bs) p:=
 ⟨hc,fun w1 hk x y hy q hq v hv=>by
  have hv':fS Bs (C.sv x y)=some v:=by simpa using wH (B:=[]) Bs hv
  refine Calls.mono ((hn hk hy hq).run (v :: SH Bs) (by grind[aZ]) (hB w1 hk)) fun en w' ⟨v',h1,y',h2,h3⟩=>⟨v',h1,?_,?_⟩
  ·grind[aO0]
  ·simpa using aB7 (m:=0) h3 rfl⟩
theorem aX5:∀{cs:List (Nat×List SV)} {k:Nat} {x:Ch},x∈roL k cs->∃j n c,cs[j]?=some (n,c)/\x=.ro (k+j) c
 | (n, c) :: r, k, x, h => by
  rcases mA.1 h with h | h
  ·simp_all
  ·obtain⟨j,n',c',h1,h2⟩:=aX5 h;exact⟨j+1,n',c',by grind,by grind⟩
theorem aX6:∀{cs:List (Nat×List SV)} {n:Nat} {c:List SV},(n,c)∈cs->Ch.ro n c∈roS cs
 | (n', c') :: r, n, c, h => by
  rcases mA.1 h with h | h
  ·cases h;exact aSE ..
  ·exact AE _ (aX6 h)
theorem a3F{B:Bl}{cs:List (Nat×List SV)}{cap:List Value}:aZ (WV B) (cs.map (·.1))=some cap->∃Bs:Bl,cap=SH Bs/\Bs.length=cs.length/\∀(j:Nat) n c,cs[j]?=some (n,c)->∃b,Bs[j]?=some b/\B[n]?=some b:=by
 induction cs generalizing cap with
 | nil=>intro h;cases h;exact⟨[],rfl,rfl,by simp⟩
 | cons p r ih =>
  obtain⟨n,c⟩:=p;intro h;simp only[Z0,aZ] at h;split at h
  ·cases h
  ·rename_i v hv;split at h
   ·cases h
   ·rename_i vs hvs;cases h;obtain⟨Bs,h1,h2,h3⟩:=ih hvs;simp only[WV] at hv;split at hv
    ·rename_i b z hb;cases hv;refine⟨(b,z) :: Bs,by simp[SH,h1],by simp[h2],fun j n' c' hj=>?_⟩;grind
    ·cases hv
def aSV:List (Nat×List SV)->Bool
 | []=>true
 | (_,c) :: r=>yY.okC 0 c && aSV r
theorem aSW:∀{cs:List (Nat×List SV)} {j n:Nat} {c:List SV},aSV cs=true->cs[j]?=some (n,c)->yY.okC 0 c=true
 | (n', c') :: r, 0, n, c, h, hj => by simp_all[aSV]
 | (n', c') :: r, j + 1, n, c, h, hj => by simp only[aSV,C8] at h;exact aSW h.2 (by simpa using hj)
theorem bA3{w:World}{B Bs:Bl}{cs:List (Nat×List SV)}(hS:nC c w B L)(hk:∀x∈roS cs,x∈L)(ho:aSV cs=true)(hB:∀(j:Nat) n c,cs[j]?=some (n,c)->∃b,Bs[j]?=some b/\B[n]?=some b):∀w1,eT F0 w w1->nC (cL w1) w1 Bs (roL 0 cs):=by
 intro w1 hkp;have facts:∀x∈roL 0 cs,∃(f:Fact),f.P (R1 w1) w1/\(∀R,f∈R->roF Bs R x)/\lD Bs x=K9:=by intro x hx;obtain⟨j,n,cc,h1,h2⟩:=aX5 hx;subst h2;obtain⟨⟨R,s1,s2⟩,s0⟩:=hS;obtain⟨b,z,vs,g1,g2,g3⟩:=s2 _ (hk _ (aX6 (A6 h1)));obtain⟨b',q1,q2⟩:=hB j n cc h1;rw[g1] at q2;cases q2;have hc0:=B9 (aSW ho h1) g2;rw[List.take_zero] at hc0;obtain⟨i,hi⟩:=aI9 g3;refine⟨fAt b z vs,a9C (s1.fact i hi) hkp,fun R hR=>⟨b,z,vs,by simpa using q1,eZ (fun x v h=>by simpa using gL (B:=[]) Bs h) hc0,hR⟩,rfl⟩
 have build:∀M:List Ch,(∀x∈M,x∈roL 0 cs)->∃R:List Fact,(∀f∈R,f.P (R1 w1) w1)/\(∀x∈M,roF Bs R x)/\M.map (lD Bs)=List.replicate M.length K9:=by
  intro M;induction M with
  | nil=>exact fun _=>⟨[],by simp,by simp,rfl⟩
  | cons x M ih =>
   intro hM;obtain⟨R,h1,h2,h3⟩:=ih fun y hy=>hM y (AE _ hy);obtain⟨f,f1,f2,f3⟩:=facts x (hM x (by simp));refine⟨f :: R,fun g hg=>?_,fun y hy=>?_,by simp[f3,h3,List.replicate_succ]⟩
   ·rcases mA.1 hg with hg | hg
    ·subst hg;exact f1
    ·exact h1 g hg
   ·rcases mA.1 hy with hy | hy
    ·subst hy;exact f2 _ (by simp)
    ·exact aB5 (fun g hg=>AE _ hg) (h2 y hy)
 obtain⟨R,h1,h2,h3⟩:=build (roL 0 cs) fun _ h=>h;refine⟨⟨R,?_,h2⟩,fun _ _ h=>h⟩;rw[h3];have h4:St (cL w1) w1 [] R:=St.enter h1;generalize (roL 0 cs).length=k;clear h3;induction k with
 | zero=>exact h4
 | succ k ih =>
  rw[List.replicate_succ'];exact St.more (ch:=K9) ih (eT.refl _ _) ⟨F0,fun _ _ h=>h,fun _ _ h=>h.elim⟩
def shr(ns:List Nat):List Ch->List Ch
 | []=>[]
 | .box n cs :: L => match gC n ns with
  | true=>.box n cs :: shr ns L
  | false=>.ro n cs :: shr ns L
 | x :: L=>x :: shr ns L
theorem St.bA4{w:World}{M:List Chunk}{R:List Fact}{b z i:Nat}{vs:List Value}(h:St c w M R)(hi:M[i]?=some (WU b z vs)):St c w (M.set i K9) (R ++ [fAt b z vs]):=by
 have h1:=h.take i hi;obtain⟨F,S,⟨F1,F2,h1,h2,hd,hF⟩,a2,a3,a4,a5,a6⟩:=h1.sep;have hlt:∀b' o,F1 b' o->b'<w.heap.size:=fun _ _ hf=>Chunk.lt (WU b z vs) h1 hf;obtain⟨g1,g2,g3⟩:=h1;refine⟨h.keep,⟨F2,fun b o=>S b o\/F1 b o,h2,?_,fun b o hf=>a3 b o ((hF b o).2 (.inr hf)),?_,?_,?_⟩,h.apart⟩
 ·rintro b o hf (hs | hs)
  ·exact a2 b o ((hF b o).2 (.inr hf)) hs
  ·exact hd b o hs hf
 ·grind
 ·grind
 ·intro f hf;rcases jB.1 hf with hf | hf
  ·exact f.mono (a6 f hf) fun b o hs=>.inl hs
  ·simp at hf;subst hf;exact⟨g1,fun o ho=>.inr ((g3 b o).2 ho)⟩
theorem aQK{w:World}{B:Bl}(ns:List Nat):∀(M L:List Ch),nC c w B (M++L)->nC c w B (M++shr ns L)
 | M,[],h=>h
 | M, x :: L, h => by
  have gen:nC c w B (M++x :: shr ns L):=by have:=aQK ns (M ++ [x]) L (by simpa using h);grind
  cases x with
  | box n cs =>
   simp only[shr];split
   ·exact gen
   ·obtain⟨⟨R,s1,s2⟩,s0⟩:=gen;have hi:((M++Ch.box n cs :: shr ns L).map (lD B))[M.length]?=some (SD B n cs):=by simp[lD]
    obtain⟨F,b,z,vs,h3,h4,h5⟩:=s1.chunk (ch:=SD B n cs) M.length hi;have s3:=s1.imp (kM.put M.length hi fun F ⟨b',z',vs',q1,q2,q3⟩=>by
     rw[h3] at q1;cases q1;rw[h4] at q2;cases q2;exact q3)
    have s4:=s3.bA4 (b:=b) (z:=z) (vs:=vs) (i:=M.length) (by rw[List.getElem?_set_self];simp);refine⟨⟨R ++ [fAt b z vs],?_,fun x hx=>?_⟩,s0⟩
    ·have:((M++Ch.ro n cs :: shr ns L).map (lD B))=(((M++Ch.box n cs :: shr ns L).map (lD B)).set M.length (WU b z vs)).set M.length K9:=by simp[lD]
     grind
    ·rcases jB.1 hx with hx | hx
     ·exact aB5 (fun f hf=>aOL _ hf) (s2 x (aOL _ hx))
     ·rcases mA.1 hx with hx | hx
      ·subst hx;exact⟨b,z,vs,h3,h4,by simp⟩
      ·exact aB5 (fun f hf=>aOL _ hf) (s2 x (aSD _ (AE _ hx)))
  | _=>exact gen
theorem mf{f:FuncId}{caps:Array Operand}{ops:Array Oper}{l:List Oper}(ns:List Nat)(hs:kI T n K cf m e L=.op o Lv (.r ops l) cf2 K' m' e' L')(ho:(o.op,o.dst)=(.makeFunc (.func f) #[] caps,some d))(hx:aZ (j4 e') caps.toList=some (ns.map fun n=>.p n 0))
  (k:G (.mk P T hT n c B0 N X Q) K' m' ((d,.f f ns) :: e') (shr ns L') cf2):G (.mk P T hT n c B0 N X Q) K m e L cf:=by
 refine iD (g:=.mk P T hT n c B0 N X Q) ?_;rw[hs];intro hdn _ hE;refine hE Unit (fun _=>m') (fun _=>(d,.f f ns) :: e') (fun _=>shr ns L') (fun _=>trivial) (fun B a w next Q' hm hA hS hnext=>?_) (fun _=>k);obtain⟨vs,h1,h2⟩:=Z3 hA hx;have hd:o.dst=some d:=eA Prod.snd ho;have h3:∀{ns:List Nat} {vs:List Value},aZ (fS (B0S (.mk P T hT n c B0 N X Q) (.r ops l)++B)) (ns.map fun n=>SV.p n 0)=some vs->aZ (WV (B0S (.mk P T hT n c B0 N X Q) (.r ops l)++B)) ns=some vs:=by
  intro ns;induction ns with
  | nil=>intro vs h;exact h
  | cons jj ns ih =>
   grind[aZ,WV,fS,gV,bT]
 have h5:∀{os:List Operand} {vs:List Value},evs (vE (B0S (.mk P T hT n c B0 N X Q) (.r ops l)++B) e') os=some vs->os.map (ev (vE (B0S (.mk P T hT n c B0 N X Q) (.r ops l)++B) e'))=vs.map some:=by
  intro os;induction os with
  | nil=>intro vs h;cases h;rfl
  | cons o os ih =>
   grind[evs]
 have h6:=a6Q (P:=P) (w:=w) (vf:=[]) (vc:=vs) (eA Prod.fst ho) rfl (h5 h2);unfold Oper.wp;rw[h6 _ a hA.env,Oper.upon_value,hd];rw[hd] at hdn;have h7:fS (B0S (.mk P T hT n c B0 N X Q) (.r ops l)++B) (.f f ns)=some (.func (.func f) #[] vs.toArray):=by grind[fS]
 exact hnext () _ _ ⟨[],by grind,by simpa using hA.of h7 (hA.env.put (by grind[rS,wY]) _),by simpa using aQK ns [] L' hS⟩
theorem clc{α β:Type}{fo:Option α}{kf:α->Option β}{q:β}{f g:FuncId}{xs xs0:List SV}{sv:α->SV}(is:List Nat)(cs:List (Nat×List SV))(hs:kI T n K cf m e L=.callp o (some d) f xs cf1 cf2 K' m' e' L')(hk:kl L' is=roS cs)(ho:(aSV cs && okA xs.dropLast)=true)(hx:xs=xs.dropLast ++ [.f g (cs.map (·.1))])
  (hc:∀{w},HS c w L'->∀{Bs:Bl},Bs.length=cs.length->(∀w1,eT F0 w w1->nC (cL w1) w1 Bs (roL 0 cs))->∀{x},fo=some x->Fn0 P f (cL w) (xs.dropLast ++ [.k (.func (.func g) #[] (SH Bs).toArray)]) sv x) (hF:fo.bind kf=some q)
  (k:∀x,fo=some x->kf x=some q->G (.mk P T hT n c B0 N X Q) K' m' ((d,sv x) :: e') L' cf2):G (.mk P T hT n c B0 N X Q) K m e L cf:=by
 refine iD (g:=.mk P T hT n c B0 N X Q) ?_;rw[hs];intro fo' args ats ho' hd hf ⟨ys,hys,hxs⟩ hdn hE;rw[C8] at ho;cases hfo:fo with
 | none=>grind
 | some x =>
  rw[hfo] at hF;refine hE Unit (fun _=>m') (fun _=>(d,sv x) :: e') (fun _=>L') (fun _=>by simpa using wI (L:=L') []) (fun B a w next Q' hm hA hS hnext=>?_) (fun _=>k x hfo hF);obtain⟨vs,h1,h2⟩:=Z3 hA hys;obtain⟨v,h3,h4⟩:=fT hA hf;simp[fS,aZ] at h3;subst h3;rw[<-O8,hxs] at h1;rw[hx] at h1;have split:∀{as:List SV} {b:SV} {vs:List Value} {B:Bl},aZ (fS B) (as ++ [b])=some vs->∃us v,aZ (fS B) as=some us/\fS B b=some v/\vs=us ++ [v]:=by
   intro as;induction as with
   | nil =>
    grind[aZ]
   | cons a as ih =>
    intro b vs B h;simp only[ZY,aZ] at h;grind[aZ]
  obtain⟨us,fv,g1,g2,rfl⟩:=split h1;simp only[fS] at g2;split at g2
  ·rename_i cap hcap;cases g2;obtain⟨Bs,b1,b2,b3⟩:=a3F hcap;subst b1;have hmem:∀x∈roS cs,x∈L':=fun x hx=>aJV (is:=is) (by grind);obtain⟨hcall,hrun⟩:=hc ⟨_,hS⟩ b2 (bA3 hS hmem ho.1 b3) hfo;have join:∀{as:List SV} {us:List Value} {b:SV} {v:Value},aZ (fS []) as=some us->fS [] b=some v->aZ (fS []) (as ++ [b])=some (us ++ [v]):=by
    intro as;induction as with
    | nil=>grind[aZ]
    | cons a as ih =>
     intro us b v h hb;simp only[aZ] at h;split at h
     ·cases h
     ·rename_i u hu;split at h
      ·cases h
      ·rename_i us' hus;cases h;simp[aZ,hu,ih hus hb]
   have h5:=hrun (us ++ [.func (.func g) #[] (SH Bs).toArray]) (join (aCA ho.2 g1) (by simp[fS,gV,bT,Value.oneCell'])) (aZM w);have h6:=SG (w:=w) hcall ho' h4 h2;unfold Oper.wp;rw[h6 _ a hA.env,Oper.upon_enter];refine Calls.mono h5 fun en w' ⟨v,hv,y,e1,e2⟩=>?_;subst hv;rw[hd];have g3:=wH (B0S (.mk P T hT n c B0 N X Q) cf1++B) e1;exact hnext () _ _ ⟨[],by grind,by simpa using hA.of (by grind) (hA.env.put (by grind[rS,wY]) v),by simpa using hS.after (L2:=[]) rfl e2⟩
  ·cases g2
theorem HS.u1{α β:Type}{iR:aJ α}{C:EG α}{sr:β->SV}{g:FuncId}{cap:List Value}{w:World}{p:α->Option β}(h:HS c w L)(H:ZO P c C sr g cap p):ZO P (cL w) C sr g cap p:=by obtain⟨B,hS⟩:=h.ex;exact⟨H.1,fun w1 hk=>H.2 w1 (hS.a3C.trans hk fun _ _ _ h=>h.elim)⟩
theorem HS.u2{α α' β:Type}{iR:aJ α}{iR':aJ α'}{C:EG α}{C':EG α'}{sr:β->SV}{g:FuncId}{cap:List Value}{w:World}{p:α->α'->Option β}(h:HS c w L)(H:Fu2 P c C C' sr g cap p):Fu2 P (cL w) C C' sr g cap p:=by obtain⟨B,hS⟩:=h.ex;exact⟨H.1,fun w1 hk=>H.2 w1 (hS.a3C.trans hk fun _ _ _ h=>h.elim)⟩
theorem bE0{α β:Type}{fo:Option α}{kf:α->Option β}{q:β}{f g:FuncId}{xs:List SV}{sv:α->SV}{n1:Nat}{c1:List SV}(is:List Nat)(hs:kI T n K cf m e L=.callp o (some d) f xs cf1 cf2 K' m' e' L')(hk:kl L' is=[.ro n1 c1])(ho:(aSV [(n1,c1)] && okA xs.dropLast)=true)(hx:xs=xs.dropLast ++ [.f g [n1]])
  (hc:∀{w},HS c w L'->∀{b1:Nat×Nat},(∀w1,eT F0 w w1->nC (cL w1) w1 [b1] [.ro 0 c1])->∀{x},fo=some x->Fn0 P f (cL w) (xs.dropLast ++ [.k (.func (.func g) #[] (SH [b1]).toArray)]) sv x) (hF:fo.bind kf=some q)
  (k:∀x,fo=some x->kf x=some q->G (.mk P T hT n c B0 N X Q) K' m' ((d,sv x) :: e') L' cf2):G (.mk P T hT n c B0 N X Q) K m e L cf:=
 clc (xs0:=[]) is [(n1,c1)] hs hk ho hx (fun h Bs hl hB=>match Bs,hl,hB with | [_],_,hB=>hc h hB) hF k
end
end Go.Gv
end
noncomputable section
namespace Go.Gv
noncomputable section
variable {P:Program} {T:TT} {hT:H3 P T} {n:Nat} {c:Ctx} {B0:Bl} {N:Act->World->Prop} {X:Nat->Act->World->Prop} {Q:Act->World->Prop} {K K':List Fr} {m m':Nat} {e e':SE} {L L':List Ch} {cf cf1 cf2:wG} {o:Oper} {Lv:List Ch} {d:Nat}
variable {x y z:Operand} {t t2:TypeId} {k k2:IntKind} {i j:Int} {α β:Type} {A:Option β} {q:β}
theorem aZO(hs:opS (kI T n K cf m e L)=some (o,Lv,cf1,cf2,K',m',e',L'))(ho:(o.op,o.dst)=(.call {callee:=.builtin .min,args:=#[x,y],argTypes:=#[t,t2]},some d))(hx:(j4 e' x).bind wB=some (.i64,i))(hy:(j4 e' y).bind wB=some (k,j))
  (kk:G (.mk P T hT n c B0 N X Q) K' m' ((d,.i .i64 (if j<i then j else i)) :: e') L' cf2):G (.mk P T hT n c B0 N X Q) K m e L cf:=
 pu hs (eA Prod.snd ho) (fun B a w hA _=>⟨_,rfl,bAJ (eA Prod.fst ho) (A7 hA hx) (A7 hA hy)⟩) kk
theorem bC7(hs:opS (kI T n K cf m e L)=some (o,Lv,cf1,cf2,K',m',e',L'))(ho:(o.op,o.dst)=(.call {callee:=.builtin .max,args:=#[x,y],argTypes:=#[t,t2]},some d))(hx:(j4 e' x).bind wB=some (.i64,i))(hy:(j4 e' y).bind wB=some (k,j))
  (kk:G (.mk P T hT n c B0 N X Q) K' m' ((d,.i .i64 (if i<j then j else i)) :: e') L' cf2):G (.mk P T hT n c B0 N X Q) K m e L cf:=
 pu hs (eA Prod.snd ho) (fun B a w hA _=>⟨_,rfl,bAK (eA Prod.fst ho) (A7 hA hx) (A7 hA hy)⟩) kk
noncomputable section
variable {l:List UInt8} {b1:Bool} {n1:Nat} {z1:List SV}
theorem bC8(ht:D3 T t=some ⟨.s,b1,n1,z1⟩)(hT:H3 P T):P.underlying t=some .string:=by obtain⟨dd,hd1,hd2⟩:=hT.und _ _ ht;grind
theorem qsi{kf:UInt8->Option β}(hs:opS (kI T n K cf m e L)=some (o,Lv,cf1,cf2,K',m',e',L'))(ho:(o.op,o.dst)=(.index t x y,some d))(ht:D3 T t=some ⟨.s,b1,n1,z1⟩)(hx:j4 e' x=some (.s l))(hy:(j4 e' y).bind wB=some (k,i))(hF:(idx l i).bind kf=some q)
  (kk:∀u,idx l i=some u->kf u=some q->G (.mk P T hT n c B0 N X Q) K' m' ((d,.y u) :: e') L' cf2):G (.mk P T hT n c B0 N X Q) K m e L cf:=by
 cases hi:idx l i with
 | none=>grind
 | some u =>
  rw[hi] at hF;exact pu hs (eA Prod.snd ho) (fun B a w hA _=>⟨_,rfl,a61 (bC8 ht hT) hi (eA Prod.fst ho) (bA2 hA hx) (A7 hA hy)⟩) (kk u hi hF)
end
noncomputable section
variable [aJ α] {s:AC} {l:List α} {el:TypeId} {b1 b2:Bool} {n1 sz:Nat} {z1 z2:List SV} {kt:TK}
theorem hdB{B:Bl}{a:Act}(hA:hY n B e a){ln:Nat}(h:j4 e x=some (.h s ln)):ev (vE B e) x=some (s.v ln):=by obtain⟨v,h1,h2⟩:=fT hA h;cases h1;exact h2
theorem KI(ht:D3 T t=some ⟨.sl el,b1,n1,z1⟩)(hT:H3 P T):P.underlying t=some (.slice el):=by obtain⟨dd,hd1,hd2⟩:=hT.und _ _ ht;grind
theorem qsb{a b:Nat}(h1:cJ c s l)(hb:a<=b/\b<=l.length)(hs:opS (kI T n K cf m e L)=some (o,Lv,cf1,cf2,K',m',e',L'))(hd:o.dst=some d)(hr:∀B act w,hY n B e' act->aJ.rd c.S0 w [s.v l.length] l->eR P o (vE B e') w (i4 (aJ.n α) a b (s.v l.length)) w)
  (kk:∀s',cJ c s' ((l.take b).drop a)->G (.mk P T hT n c B0 N X Q) K' m' ((d,.h s' ((l.take b).drop a).length) :: e') L' cf2):G (.mk P T hT n c B0 N X Q) K m e L cf:=by
 have h2:=aVB (n:=aJ.n α) (a:=a) (b:=b) rfl h1 hb.1 hb.2;obtain⟨ad,cp,e1,_⟩:=aJN h2;rw[e1] at h2;exact pu hs hd (fun B act w hA hS=>⟨_,by grind[fS,gV,bT],hr B act w hA (aQI hS (f:=C9 [s.v l.length] l) h1)⟩) (kk ⟨ad,cp⟩ h2)
theorem aVN(hs:opS (kI T n K cf m e L)=some (o,Lv,cf1,cf2,K',m',e',L'))(ho:(o.op,o.dst)=(.slice t x (some y) (some z) none,some d))(ht:D3 T t=some ⟨.sl el,b1,n1,z1⟩)(he:D3 T el=some ⟨kt,b2,sz,z2⟩)(hn:aJ.n α=sz)(h1:cJ c s l)(hx:j4 e' x=some (.h s l.length))(hy:(j4 e' y).bind wB=some (k,i))(hz:(j4 e' z).bind wB=some (k2,j))(hF:need (0<=i/\i<=j/\j<=(l.length:Int)) A=some q)
  (kk:A=some q->∀s',cJ c s' ((l.take j.toNat).drop i.toNat)->G (.mk P T hT n c B0 N X Q) K' m' ((d,.h s' ((l.take j.toNat).drop i.toNat).length) :: e') L' cf2):G (.mk P T hT n c B0 N X Q) K m e L cf:=by
 have hb:=(kG hF).1;subst hn;exact qsb h1 (by omega) hs (eA Prod.snd ho) (fun B act w hA h=>aZG h rfl (KI ht hT) (hT.size _ _ he) hb (eA Prod.fst ho) (hdB hA hx) (A7 hA hy) (A7 hA hz)) (kk (kG hF).2)
theorem a3G(hs:opS (kI T n K cf m e L)=some (o,Lv,cf1,cf2,K',m',e',L'))(ho:(o.op,o.dst)=(.slice t x none (some z) none,some d))(ht:D3 T t=some ⟨.sl el,b1,n1,z1⟩)(he:D3 T el=some ⟨kt,b2,sz,z2⟩)(hn:aJ.n α=sz)(h1:cJ c s l)(hx:j4 e' x=some (.h s l.length))(hz:(j4 e' z).bind wB=some (k2,j))(hF:need (0<=j/\j<=(l.length:Int)) A=some q)
  (kk:A=some q->∀s',cJ c s' ((l.take j.toNat).drop 0)->G (.mk P T hT n c B0 N X Q) K' m' ((d,.h s' ((l.take j.toNat).drop 0).length) :: e') L' cf2):G (.mk P T hT n c B0 N X Q) K m e L cf:=by
 have hb:=(kG hF).1;subst hn;exact qsb h1 (by omega) hs (eA Prod.snd ho) (fun B act w hA h=>a1Z h rfl (KI ht hT) (hT.size _ _ he) hb (eA Prod.fst ho) (hdB hA hx) (A7 hA hz)) (kk (kG hF).2)
end
noncomputable section
variable {zv:Value} {n1 m1:Nat} {el:TypeId}
theorem a3H{B:Bl}{xs:List SV}{vs:List Value}(h:aZ (fS []) xs=some vs):aZ (fS B) xs=some vs:=eZ (fun x v h=>by simpa using wH (B:=[]) B h) h
theorem qba{ps:Array (Nat×Operand)}{xs:List SV}{vs cells:List Value}(cs:List SV)(hz:∀w,(zeroValue t).run P w=.ok zv w)(hu:P.underlying t=some (.array n1 el))(hp:∀w,(sizeOf el).run P w=.ok m1 w)(hs:opS (kI T n K cf m e L)=some (o,Lv,cf1,cf2,K',m',e',L'))(ho:(o.op,o.dst)=(.build t ps,some d))(hv:aZ (j4 e') (ps.toList.map (·.2))=some xs)(hvs:aZ (fS []) xs=some vs)(hcs:aZ (bT []) cs=some cells)(hc:Instr.fill (fun i=>some (i*m1,m1)) zv.cells ((ps.toList.map (·.1)).zip vs)=some cells.toArray)
  (kk:G (.mk P T hT n c B0 N X Q) K' m' ((d,.g cs) :: e') L' cf2):G (.mk P T hT n c B0 N X Q) K m e L cf:=
 pu hs (eA Prod.snd ho) (fun B a w hA _=>⟨.agg cells.toArray,by
  simp only[fS,gV];rw[eZ (g:=bT B) (fun x v h=>by simpa using gL (B:=[]) B h) hcs],by
  obtain⟨us,h1,h2⟩:=Z3 hA hv;rw[a3H hvs] at h1;cases h1;exact aEL (ps:=ps.toList) (by simp_all) hz hu hp h2 hc⟩) kk
theorem qai{γ:Type}(f:γ->Value)(g:γ->SV){l:List γ}{cs:List SV}{kf:γ->Option β}(hu:P.underlying t=some (.array n1 el))(hz:∀w,(sizeOf el).run P w=.ok 1 w)(hg:∀w,(isAgg el).run P w=.ok false w)(hgf:∀u,fS [] (g u)=some (f u))(hs:opS (kI T n K cf m e L)=some (o,Lv,cf1,cf2,K',m',e',L'))(ho:(o.op,o.dst)=(.index t x y,some d))(hx:j4 e' x=some (.g cs))(hcs:aZ (bT []) cs=some (l.map f))(hn:l.length=n1)(hy:(j4 e' y).bind wB=some (k,i))(hF:(idx l i).bind kf=some q)
  (kk:∀u,idx l i=some u->kf u=some q->G (.mk P T hT n c B0 N X Q) K' m' ((d,g u) :: e') L' cf2):G (.mk P T hT n c B0 N X Q) K m e L cf:=by
 cases hi:idx l i with
 | none=>grind
 | some u =>
  rw[hi] at hF;refine pu hs (eA Prod.snd ho) (fun B a w hA _=>⟨f u,by simpa using wH (B:=[]) B (hgf u),?_⟩) (kk u hi hF);obtain⟨v,h1,h2⟩:=fT hA hx;simp only[fS,gV] at h1;rw[eZ (g:=bT B) (fun x v h=>by simpa using gL (B:=[]) B h) hcs] at h1;cases h1;exact bAM f hu hz hg hi hn rfl (eA Prod.fst ho) h2 (A7 hA hy)
end
end
end Go.Gv
end
noncomputable section
namespace Go.Gv
noncomputable section
variable {P:Program} {T:TT} {hT:H3 P T} {n:Nat} {c:Ctx} {B0:Bl} {N:Act->World->Prop} {X:Nat->Act->World->Prop} {Q:Act->World->Prop} {K K':List Fr} {m m':Nat} {e e':SE} {L L':List Ch} {cf cf1 cf2:wG} {o:Oper} {Lv:List Ch} {d:Nat}
theorem chg{g:Gx}{ι:Type}(m2:ι->Nat)(e2:ι->SE)(L2:ι->List Ch)(h:∀B a w,B.length=m->hY g.n B e a->nC g.c w B L->∃i B',(B++B').length=m2 i/\hY g.n (B++B') (e2 i) a/\nC g.c w (B++B') (L2 i))
  (hz:∀i,Frz g cf L (L2 i)) (k:∀i,G g K (m2 i) (e2 i) (L2 i) cf):G g K m e L cf:=by
 have key:∀a w,Rel g m e L a w->∃i,Rel g (m2 i) (e2 i) (L2 i) a w:=fun a w ⟨B,h1,h2,h3⟩=>by obtain⟨i,B',k1,k2,k3⟩:=h _ a w h1 h2 h3;exact⟨i,B++B',by grind,by grind,by grind⟩
 cases cf with
 | n=>exact fun a w hr=>let ⟨i,hi⟩:=key a w hr;k i a w hi
 | c x=>exact fun a w hr=>let ⟨i,hi⟩:=key a w hr;k i a w hi
 | r ops l=>exact fun a w hr=>let ⟨i,hi⟩:=key a w hr;k i a w hi
 | d B1 ops l is Lf Lv =>
  refine fun hD a w ⟨B,h1,h2,h3,h4⟩=>?_;obtain⟨i,B',k1,k2,k3⟩:=h _ a w h1 h2 h3;obtain⟨z1,z2⟩:=hz i hD;exact k i ⟨hD.pre,hD.len,hD.free,z1,z2,hD.okf,hD.ap⟩ a w ⟨B++B',by grind,by grind,by grind,fun w' hw=>by
   have:=(h4 w' hw).app B';grind⟩
 | o B1 ops l is Lf Lv ii =>
  refine fun hD a w ⟨B,h1,h2,h3,h4⟩=>?_;obtain⟨i,B',k1,k2,k3⟩:=h _ a w h1 h2 h3;obtain⟨z1,z2⟩:=hz i hD;exact k i ⟨hD.pre,hD.len,hD.free,z1,z2,hD.okf,hD.ap⟩ a w ⟨B++B',by grind,by grind,by grind,fun w' hw=>by
   have:=(h4 w' hw).app B';grind⟩
theorem o8{α β:Type}[aJ α]{x y:Operand}{t el sz:Nat}{i:Int}{zv:Value}{b1:Bool}{n1:Nat}{z1:List SV}{A:Option β}{q:β}(zd:α)(hinf:T3 P el sz zv)(hzd:∀w,aJ.own w zv.cells.toList zd F0)(hs:kI T n K cf m e L=.op o Lv cf1 cf2 K' m' e' L')(ho:(o.op,o.dst)=(.makeSlice t x y,some d))(ht:D3 T t=some ⟨.sl el,b1,n1,z1⟩)(hn:aJ.n α=sz)(hzs:zv.cells.size=sz)(hx:(j4 e' x).bind wB=some (.i64,i))(hy:(j4 e' y).bind wB=some (.i64,i))(hF:need (0<=i/\i<=4294967296) A=some q)
  (k:A=some q->∀s':AC,G (.mk P T hT n c B0 N X Q) K' m' ((d,.h s' (List.replicate i.toNat zd).length) :: e') (L' ++ [ow s' (List.replicate i.toNat zd)]) cf2):G (.mk P T hT n c B0 N X Q) K m e L cf:=by
 refine iD (g:=.mk P T hT n c B0 N X Q) ?_;rw[hs];intro hdn _ hE;refine hE AC (fun _=>m') (fun s'=>(d,.h s' (List.replicate i.toNat zd).length) :: e') (fun s'=>L' ++ [ow s' (List.replicate i.toNat zd)]) (fun _=>wI _) (fun B a w next Q' hm hA hS hnext=>?_) (k (kG hF).2);obtain⟨⟨R,s1,s2⟩,s0⟩:=hS;have hd:o.dst=some d:=eA Prod.snd ho;obtain⟨v,w',k1,k2⟩:=a1W zd s1 hn (KI ht hT) hinf hzs hzd (kG hF).1 (eA Prod.fst ho) (A7 hA hx) (A7 hA hy);have hrd:∃s':AC,v=s'.v (List.replicate i.toNat zd).length:=by have h1:=k2.aXD (cs:=[v]) (d:=List.replicate i.toNat zd) (L'.map (lD (B0S (.mk P T hT n c B0 N X Q) cf1++B))).length (by simp);obtain⟨ad,cp,h2,_⟩:=aJN h1;exact⟨⟨ad,cp⟩,h2⟩
 obtain⟨s',rfl⟩:=hrd;unfold Oper.wp;rw[k1 _ a hA.env,Oper.upon_value,hd];refine hnext s' _ _ ⟨[],by grind,by simpa using hA.of (by simp[fS,gV,bT]) (hA.env.put (by grind[rS,wY]) _),⟨⟨R,by grind[lD],fun x hx=>?_⟩,fun b o hb=>R0 (s0 b o hb) (kX _)⟩⟩;rcases jB.1 hx with hx | hx
 ·grind
 ·simp at hx;subst hx;exact trivial
end
end Go.Gv
end
noncomputable section
namespace Go.Gv
def wG.yZ:wG->List Nat
 | .d _ _ _ is _ _=>is
 | .o _ _ _ is _ _ _=>is
 | _=>[]
theorem ZE{L M:List Ch}{j:Nat}{z:Ch}:∀{is:List Nat},(∀i∈is,i<L.length)->gC j is=true->kl (L.set j z++M) is=kl L is
 | [],_,_=>rfl
 | i :: is, h, hn => by
  have hi:=h i (by simp);have h1:=aJY hn;have hne:j≠i:=fun he=>h1 (by simp[he]);have h2:(L.set j z++M)[i]?=L[i]?:=by grind
  have h3:gC j is=true:=by grind[gC]
  simp only[kl,h2,ZE (fun i hi=>h i (AE _ hi)) h3]
theorem aX7{L M:List Ch}:∀{is:List Nat},(∀i∈is,i<L.length)->kl (L++M) is=kl L is
 | [],_=>rfl
 | i :: is, h => by simp only[kl,aSC (h i (by simp)),aX7 (M:=M) (fun i hi=>h i (AE _ hi))]
theorem aQL{g:Gx}{cf:wG}{L M:List Ch}{j:Nat}{z:Ch}(hn:gC j cf.yZ=true):Frz g cf L (L.set j z++M):=by
 cases cf with
 | d B1 ops l is Lf Lv =>
  exact fun hD=>⟨(ZE hD.rng hn).trans hD.yZ,fun i hi=>by have:=hD.rng i hi;simp;omega⟩
 | o B1 ops l is Lf Lv i =>
  exact fun hD=>⟨(ZE hD.rng hn).trans hD.yZ,fun i hi=>by have:=hD.rng i hi;simp;omega⟩
 | _=>trivial
theorem a3J{c:Ctx}{w:World}{A:List Chunk}{R:List Fact}(h:St c w A R):St c w (A ++ [K9]) R:=by obtain⟨F,S,h1,rest⟩:=h.sep;exact⟨h.keep,⟨F,S,Sep.append.2 ⟨F,F0,h1,Sep.one.2 (fun _ _ h=>h),fun _ _ _ h=>h,fun b o=>by simp[F0]⟩,rest⟩,h.apart⟩
structure CO (α:Type) [aJ α] where
 ex:Type
 cs:α->ex->List SV
 Lx:α->ex->List Ch
 op:∀{w F ec q},aJ.own w ec q F->∃y,aZ (bT []) (cs q y)=some ec
 pk:∀{q y ec},aZ (bT []) (cs q y)=some ec->OP ec q ((Lx q y).map (lD []))
 no:∀q y,noF (Lx q y)=true
 nb:∀q y B,(Lx q y).map (lD B)=(Lx q y).map (lD [])
noncomputable section
variable {P:Program} {T:TT} {hT:H3 P T} {n:Nat} {c:Ctx} {B0:Bl} {N:Act->World->Prop} {X:Nat->Act->World->Prop} {Q:Act->World->Prop} {K K':List Fr} {m m':Nat} {e e':SE} {L L':List Ch} {cf cf1 cf2:wG} {o:Oper} {Lv:List Ch} {d:Nat}
theorem bE1{g:Gx}{ι:Type}(m2:ι->Nat)(e2:ι->SE)(L2:ι->List Ch)(Ln:ι->List Ch)(h:∀B a w,B.length=m->hY g.n B e a->nC g.c w B L->∃i B',(B++B').length=m2 i/\hY g.n (B++B') (e2 i) a/\nC g.c w (B++B') (L2 i)/\∀w' M,nC g.c w' B M->nC g.c w' (B++B') (M++Ln i))
  (hz:∀i,Frz g cf L (L2 i)) (k:∀i,G g K (m2 i) (e2 i) (L2 i) (cf.ext (Ln i))):G g K m e L cf:=by
 have key:∀a w,Rel g m e L a w->∃i,Rel g (m2 i) (e2 i) (L2 i) a w:=fun a w ⟨B,h1,h2,h3⟩=>by obtain⟨i,B',k1,k2,k3,_⟩:=h _ a w h1 h2 h3;exact⟨i,B++B',by grind,by grind,by grind⟩
 cases cf with
 | n=>exact fun a w hr=>let ⟨i,hi⟩:=key a w hr;k i a w hi
 | c x=>exact fun a w hr=>let ⟨i,hi⟩:=key a w hr;k i a w hi
 | r ops l=>exact fun a w hr=>let ⟨i,hi⟩:=key a w hr;k i a w hi
 | d B1 ops l is Lf Lv =>
  refine fun hD a w ⟨B,h1,h2,h3,h4⟩=>?_;obtain⟨i,B',k1,k2,k3,k4⟩:=h _ a w h1 h2 h3;obtain⟨z1,z2⟩:=hz i hD;exact k i ⟨hD.pre,hD.len,hD.free,z1,z2,hD.okf,hD.ap⟩ a w ⟨B++B',by grind,by grind,by grind,fun w' hw=>by
   grind⟩
 | o B1 ops l is Lf Lv ii =>
  refine fun hD a w ⟨B,h1,h2,h3,h4⟩=>?_;obtain⟨i,B',k1,k2,k3,k4⟩:=h _ a w h1 h2 h3;obtain⟨z1,z2⟩:=hz i hD;exact k i ⟨hD.pre,hD.len,hD.free,z1,z2,hD.okf,hD.ap⟩ a w ⟨B++B',by grind,by grind,by grind,fun w' hw=>by
   grind⟩
abbrev Shp(s:AC)(len:Nat):Prop:=∃b off m,s.v len=.slice (some ⟨b,off,none⟩) len m/\len<=maxLen
abbrev wOf(α:Type)[aJ α](nb:Nat)(s:AC)(len i:Nat):Ch:=.w nb (RW (s.v len)) (QM (aJ.n α) i (s.v len))
theorem oe{α β:Type}[aJ α](E:CO α)(j:Nat){t:TypeId}{s:AC}{i:Int}{ls:List α}{kf:α->Option β}{q:β}(hs:kI T n K cf m e L=.idx o d t s ls.length i Lv cf1 cf2 K' m' e' L')(hj:L'[j]?=some (ow s ls))(hz:gC j cf1.yZ=true)(hF:(idx ls i).bind kf=some q)
  (k:∀x,idx ls i=some x->kf x=some q->∀y:E.ex,Shp s ls.length->G (.mk P T hT n c B0 N X Q) K' (m'+1) e' (L'.set j .no++([.o (rR (s.v ls.length) ls i.toNat),.box m' (E.cs x y),wOf α m' s ls.length i.toNat]++E.Lx x y)) (cf1.ext [wOf α m' s ls.length i.toNat])):G (.mk P T hT n c B0 N X Q) K m e L cf:=by
 refine iD (g:=.mk P T hT n c B0 N X Q) ?_;rw[hs];intro x' y' ho hd hx hy hP;cases hi:idx ls i with
 | none=>grind
 | some x =>
  rw[hi] at hF;refine bE1 (fun _=>m'+1) (fun _=>e') (fun y:{y:E.ex // Shp s ls.length}=>L'.set j .no++([.o (rR (s.v ls.length) ls i.toNat),.box m' (E.cs x y.1),wOf α m' s ls.length i.toNat]++E.Lx x y.1)) (fun _=>[wOf α m' s ls.length i.toNat]) (fun B a w hm hA hS=>?_) (fun y=>aQL hz) (fun y=>k x hi hF y.1 y.2);obtain⟨⟨R,s1,s2⟩,s0⟩:=hS;have hj2:(L'.map (lD B))[j]?=some (bL [s.v ls.length] ls):=by simp[hj,lD]
  obtain⟨ec,h1⟩:=s1.open j hj2 (mC hi).2.2;have hlen:((L'.map (lD B)).set j K9).length=L'.length:=by simp
  have hsh:Shp s ls.length:=a6Y (k:=i.toNat) h1 L'.length (by simp);obtain⟨F,hF'⟩:=h1.chunk (L'.length+2) (by rw[aOK (by omega)];simp;rfl);obtain⟨y,hy2⟩:=E.op (show aJ.own w ec x F from hF');have h2:=h1.unpack (L'.length+2) (by simp) (E.pk hy2);have hset:((L'.map (lD B)).set j K9 ++ [rR (s.v ls.length) ls i.toNat,WU (RW (s.v ls.length)) (QM (aJ.n α) i.toNat (s.v ls.length)) ec,bL ec x]).set (L'.length+2) K9=(L'.map (lD B)).set j K9 ++ [rR (s.v ls.length) ls i.toNat,WU (RW (s.v ls.length)) (QM (aJ.n α) i.toNat (s.v ls.length)) ec,K9]:=by simp
  rw[hset] at h2;refine⟨⟨y,hsh⟩,[(RW (s.v ls.length),QM (aJ.n α) i.toNat (s.v ls.length))],by simp[hm],hA.app _,⟨⟨R,?_,fun z hz=>?_⟩,s0⟩,fun w' M hM=>?_⟩
  ·have e1:(L'.set j Ch.no).map (lD B)=(L'.map (lD B)).set j K9:=by rw[RY];rfl
   refine h2.imp ?_;rw[A5,A5,<-e1,M4];refine kM.append (ZA _ _) (kM.append (.cons (fun _ h=>h) (.cons (fun F h=>⟨_,_,ec,by grind,eZ (fun x v h=>by simpa using gL (B:=[]) _ h) hy2,h⟩) (.cons (fun _ h=>h) .nil))) ?_);have:=ZA (B:=[]) (B ++ [(RW (s.v ls.length),QM (aJ.n α) i.toNat (s.v ls.length))]) (w:=w) (E.Lx x y);grind
  ·rcases jB.1 hz with hz | hz
   ·rcases oC hz with hz | hz
    ·grind[aQB]
    ·subst hz;trivial
   ·rcases jB.1 hz with hz | hz
    ·simp at hz;rcases hz with rfl | rfl | rfl
     ·trivial
     ·trivial
     ·show(B++_)[m']?=_;grind
    ·exact aQJ (E.no x y) z hz
  ·obtain⟨⟨R',t1,t2⟩,t0⟩:=hM.app [(RW (s.v ls.length),QM (aJ.n α) i.toNat (s.v ls.length))];refine⟨⟨R',by grind[lD,a3J],fun z hz=>?_⟩,t0⟩;rcases jB.1 hz with hz | hz
   ·grind
   ·simp at hz;subst hz;show(B++_)[m']?=_;grind
theorem ie{α:Type}[aJ α](p:Nat){t el sz:Nat}{s:AC}{i:Int}{ls:List α}{x:α}{nb:Nat}{b1 b2:Bool}{n1:Nat}{z1 z2:List SV}{k2:TK}(hsh:Shp s ls.length)(hs:kI T n K cf m e L=.idx o d t s ls.length i Lv cf1 cf2 K' m' e' L')(hi:idx ls i=some x)(hw:Lv[p]?=some (wOf α nb s ls.length i.toNat))(ht:D3 T t=some ⟨.sl el,b1,n1,z1⟩)(he:D3 T el=some ⟨k2,b2,sz,z2⟩)(hn:aJ.n α=sz)
  (k:G (.mk P T hT n c B0 N X Q) K' m' ((d,.p nb 0) :: e') L' cf2):G (.mk P T hT n c B0 N X Q) K m e L cf:=by
 refine iD (g:=.mk P T hT n c B0 N X Q) ?_;rw[hs];intro x' y' ho hd hx hy hP;subst hn;refine hP d (.p nb 0) [] (fun _=>[]) 0 hd (fun _=>rfl) (fun B a w hA hS hm=>?_) (fun B w L _ hS=>by grind) (by grind[ext_nil]);obtain⟨v,g1,g2⟩:=fT hA hx;obtain⟨u,g3,g4⟩:=fT hA hy;cases g1;cases g3;obtain⟨⟨R,s1,s2⟩,s0⟩:=hS;have hB:B[nb]?=some (RW (s.v ls.length),QM (aJ.n α) i.toNat (s.v ls.length)):=s2 _ (A6 hw);exact⟨_,by simp[fS,gV,bT,hB],a6Z (P:=P) (o:=o) (w:=w) hsh rfl hi (KI ht hT) (hT.size _ _ he) ho g2 g4⟩
def KJ:List Ch->List Nat->List Ch
 | L,[]=>L
 | L,i :: r=>KJ (L.set i .no) r
theorem IJ{B:Bl}:∀(js:List Nat) (L:List Ch),(KJ L js).map (lD B)=blank (L.map (lD B)) js
 | [],L=>rfl
 | j :: js,L=>by simp only[KJ,blank];rw[IJ js,RY];rfl
theorem O9{x:Ch}:∀(js:List Nat) (L:List Ch),x∈KJ L js->x∈L\/x=.no
 | [],L,h=>.inl h
 | j :: js, L, h => by
  rcases O9 js _ h with h | h
  ·exact oC h
  ·exact .inr h
theorem T9{g:Gx}{cf:wG}{M:List Ch}:∀(js:List Nat) {L:List Ch},(js.all fun j=>gC j cf.yZ)=true->Frz g cf L (KJ L js++M):=by
 intro js L hj;have main:∀{B1:Bl} {ops:Array Oper} {l:List Bool} {is:List Nat} {Lf:List Ch},(js.all fun j=>gC j is)=true->aEN g B1 ops l is Lf L->kl (KJ L js++M) is=Lf/\∀j∈is,j<(KJ L js++M).length:=by
  intro B1 ops l is Lf hj hD;have key:∀(js:List Nat) (L:List Ch),(js.all fun j=>gC j is)=true->(∀i∈is,i<L.length)->kl (KJ L js++M) is=kl L is/\(KJ L js).length=L.length:=by
   intro js;induction js with
   | nil =>
    intro L _ hr;exact⟨aX7 hr,rfl⟩
   | cons j js ih =>
    intro L hj hr;simp only[aM5,C8] at hj;obtain⟨h1,h2⟩:=ih (L.set j .no) hj.2 (fun i hi=>by grind);refine⟨h1.trans ?_,by grind[KJ]⟩;have:=ZE (M:=[]) (z:=.no) hr hj.1;grind
  obtain⟨k1,k2⟩:=key js L hj hD.rng;exact⟨k1.trans hD.yZ,fun i hi=>by have:=hD.rng i hi;grind⟩
 cases cf with
 | d B1 ops l is Lf Lv=>exact fun hD=>main hj hD
 | o B1 ops l is Lf Lv i=>exact fun hD=>main hj hD
 | _=>trivial
def ovh(v:SV)(e:SE):List Nat->SE
 | []=>e
 | k :: ks=>(k,v) :: ovh v e ks
theorem aQM{v:SV}{B:Bl}{a:Act}:∀(ks:List Nat),aZ (EK e) ks=some (ks.map fun _=>v)->hY n B e a->hY n B (ovh v e ks) a:=by
 intro ks;have key:∀(ks:List Nat),aZ (EK e) ks=some (ks.map fun _=>v)->∀k∈ks,EK e k=some v:=by
  intro ks;induction ks with
  | nil=>simp
  | cons s ks ih =>
   grind[aZ]
 intro hs hA;have hk:=key ks hs;clear hs key;have lk2:∀k x,EK (ovh v e ks) k=some x->EK e k=some x:=by
  induction ks with
  | nil=>exact fun k x h=>h
  | cons j ks ih =>
   grind[ovh,EK,qY]
 exact⟨hA.d,hA.size,fun k x h=>hA.get k x (lk2 k x h)⟩
theorem PA{B:Bl}:∀{is:List Nat} {M:List Ch},aZ (fun i=>L[i]?) is=some M->pick (L.map (lD B)) is=M.map (lD B)
 | [],M,h=>by cases h;rfl
 | i :: is, M, h => by
  simp only[aZ] at h;split at h
  ·cases h
  ·rename_i h1;split at h
   ·cases h
   ·rename_i h2;cases h;simp only[pick,JN,h1,Option.map_some,Option.getD_some,PA h2,Z0]
theorem a3K{α:Type}[aJ α](E:CO α)(h b v:Nat)(is ks:List Nat){s:AC}{l:List α}{k nb:Nat}(x:α)(y:E.ex){cs0:List SV}{ec:List Value}(hs:L[h]?=some (.o (rR (s.v l.length) l k)))(hb:L[b]?=some (.box nb cs0))(hv:L[v]?=some (wOf α nb s l.length k))(hi:aZ (fun i=>L[i]?) is=some (E.Lx x y))(hc:nbL cs0=E.cs x y)(hec:aZ (bT []) (E.cs x y)=some ec)(ha:dQ (h :: b :: is)=true)(hk:aZ (EK e) ks=some (ks.map fun _=>.h s l.length)){B:Bl}{a:Act}{w:World}(hA:hY n B e a)(hS:nC c w B L) :
  hY n B (ovh (.h s (l.set k x).length) e ks) a/\nC c w B (KJ L (h :: b :: is) ++ [ow s (l.set k x)]):=by
 have hlen:(l.set k x).length=l.length:=bK;unfold ow;rw[hlen];refine⟨aQM ks hk hA,?_⟩;obtain⟨⟨R,s1,s2⟩,s0⟩:=hS;have hB:B[nb]?=some (RW (s.v l.length),QM (aJ.n α) k (s.v l.length)):=s2 _ (A6 hv);refine⟨⟨R,?_,fun z hz=>?_⟩,s0⟩
 ·rw[A5,IJ];refine s1.shift (h :: b :: is) ha fun F hF=>?_;simp only[pick,JN,hs,hb,Option.map_some,Option.getD_some,PA hi,E.nb] at hF;have hE:aZ (bT B) cs0=some ec:=by rw[<-T8,hc];exact eZ (fun x v h=>by simpa using gL (B:=[]) B h) hec
  have h2:Sep w ([rR (s.v l.length) l k,WU (RW (s.v l.length)) (QM (aJ.n α) k (s.v l.length)) ec]++(E.Lx x y).map (lD [])) F:=by refine Sep.imp (.cons (fun _ h=>h) (.cons (fun F h=>?_) (kM.refl _))) hF;obtain⟨bb,z,vs,k1,k2,k3⟩:=h;grind
  obtain⟨F1,F2,g1,g2,gd,gF⟩:=Sep.append.1 h2;have h3:Sep w ([rR (s.v l.length) l k,WU (RW (s.v l.length)) (QM (aJ.n α) k (s.v l.length)) ec] ++ [bL ec x]) F:=Sep.append.2 ⟨F1,F2,g1,Sep.one.2 ((E.pk hec w F2).2 g2),gd,gF⟩;exact Sep.one.2 (aOR h3)
 ·rcases jB.1 hz with hz | hz
  ·rcases O9 _ _ hz with hz | hz
   ·grind
   ·subst hz;trivial
  ·simp at hz;subst hz;trivial
theorem ce{α:Type}[aJ α](E:CO α)(h b v:Nat)(is ks:List Nat){s:AC}{l:List α}{k nb:Nat}(x:α)(y:E.ex){cs0:List SV}{ec:List Value}(hs:L[h]?=some (.o (rR (s.v l.length) l k)))(hb:L[b]?=some (.box nb cs0))(hv:L[v]?=some (wOf α nb s l.length k))(hi:aZ (fun i=>L[i]?) is=some (E.Lx x y))(hc:nbL cs0=E.cs x y)(hec:aZ (bT []) (E.cs x y)=some ec)(ha:dQ (h :: b :: is)=true)(hz:((h :: b :: is).all fun j=>gC j cf.yZ)=true)(hk:aZ (EK e) ks=some (ks.map fun _=>.h s l.length))
  (kk:G (.mk P T hT n c B0 N X Q) K m (ovh (.h s (l.set k x).length) e ks) (KJ L (h :: b :: is) ++ [ow s (l.set k x)]) cf):G (.mk P T hT n c B0 N X Q) K m e L cf:=by
 refine chg (fun _:Unit=>m) (fun _=>ovh (.h s (l.set k x).length) e ks) (fun _=>KJ L (h :: b :: is) ++ [ow s (l.set k x)]) (fun B a w hm hA hS=>?_) (fun _=>T9 _ hz) (fun _=>kk);obtain⟨h1,h2⟩:=a3K E h b v is ks x y hs hb hv hi hc hec ha hk hA hS;simp_all
end
end Go.Gv
end
noncomputable section
namespace Go.Gv
noncomputable section
variable {P:Program} {T:TT} {hT:H3 P T} {n:Nat} {c:Ctx} {B0:Bl} {N:Act->World->Prop} {X:Nat->Act->World->Prop} {Q:Act->World->Prop} {K K':List Fr} {m m':Nat} {e e':SE} {L L':List Ch} {cf cf':wG}
theorem ceS{α:Type}[aJ α](E:CO α)(h:Nat)(is ks:List Nat){s:AC}{l:List α}{k nb:Nat}(x:α)(y:E.ex){cs0:List SV}{ec:List Value}(h0:XC (kI T n K cf m e L)=some (K',cf',m',e',L'))(hs:L'[h]?=some (.o (rR (s.v l.length) l k)))(hb:L'[h+1]?=some (.box nb cs0))(hv:L'[h+2]?=some (wOf α nb s l.length k))(hi:aZ (fun i=>L'[i]?) is=some (E.Lx x y))(hc:nbL cs0=E.cs x y)(hec:aZ (bT []) (E.cs x y)=some ec)(ha:dQ (h :: (h+1) :: is)=true)(hz:((h :: (h+1) :: is).all fun j=>gC j cf'.yZ)=true)(hk:aZ (EK e') ks=some (ks.map fun _=>.h s l.length))
  (kk:G (.mk P T hT n c B0 N X Q) K' m' (ovh (.h s (l.set k x).length) e' ks) (KJ L' (h :: (h+1) :: is) ++ [ow s (l.set k x)]) cf'):G (.mk P T hT n c B0 N X Q) K m e L cf:=
 iD (g:=.mk P T hT n c B0 N X Q) (aIP h0 (ce E h (h+1) (h+2) is ks x y hs hb hv hi hc hec ha hz hk kk))
theorem sF(hs:kI T n K cf m e L=.fin m' e' L')(h:∀a w,pX n c B0 m' e' L' a w->N a w):G (.mk P T hT n c B0 N X Q) K m e L cf:=
 iD (g:=.mk P T hT n c B0 N X Q) (by rw[hs];exact h)
theorem sX{id:Nat}(hs:kI T n K cf m e L=.ex id m' e' L')(h:∀a w,pX n c B0 m' e' L' a w->X id a w):G (.mk P T hT n c B0 N X Q) K m e L cf:=
 iD (g:=.mk P T hT n c B0 N X Q) (by rw[hs];exact h)
theorem sR(hs:kI T n K cf m e L=.ret m' e' L')(h:∀a w,pX n c B0 m' e' L' a w->Q a w):G (.mk P T hT n c B0 N X Q) K m e L cf:=
 iD (g:=.mk P T hT n c B0 N X Q) (by rw[hs];exact h)
theorem nxR{σ ρ υ:Type}{o:Step σ ρ}{mj:Nat}{el:σ->υ->SE}{Ll:σ->υ->List Ch}{s:σ}(u:υ)(is:List Nat)(hG:some (Step.next s)=some o)(h:Y9 B0.length m' e' L' is mj (el s u) (Ll s u)=some (el s u,Ll s u)):∀a w,pX n c B0 m' e' L' a w->NxP n c B0 o mj el Ll a w:=by cases hG;exact fun a w hr=>⟨s,u,rfl,hr.Y9 is h⟩
theorem iK{π υ:Type}{eq:π->Prop}{mj:Nat}{ej:π->υ->SE}{Lj:π->υ->List Ch}{p:π}(u:υ)(is:List Nat)(hF:eq p)(h:Y9 B0.length m' e' L' is mj (ej p u) (Lj p u)=some (ej p u,Lj p u)):∀a w,pX n c B0 m' e' L' a w->JP n c B0 eq mj ej Lj a w:=
 fun a w hr=>⟨p,u,hF,pX.Y9 hr is h⟩
theorem bkR{σ ρ β υ:Type}{o:Step σ ρ}{ro:ρ}{enc:β->ρ}{mj id:Nat}{ej:β->υ->SE}{Lj:β->υ->List Ch}{b:β}(u:υ)(is:List Nat)(hG:some (Step.stop (enc b))=some o)(hr:∀p,o=.stop p->p=ro)(h:Y9 B0.length m' e' L' is mj (ej b u) (Lj b u)=some (ej b u,Lj b u)):∀a w,pX n c B0 m' e' L' a w->BkP n c B0 ro enc mj ej Lj id X id a w:=by cases hG;have:=hr _ rfl;subst this;intro a w hr;unfold BkP;rw[aL rfl];exact⟨b,u,rfl,hr.Y9 is h⟩
include hT in
theorem jE{fn:Func}{ρ ex:Type}{sv:ρ->ex->SV}{Lf:ρ->ex->List Ch}{r r':ρ}{rs:List ResultVar}{zz:Option ρ}(y:ex)(is:List Nat)(hF:zz=some r)(hz:zz=some r')(hr:fn.results=rs.toArray){x:SV}(hv:aQA T e' L' rs=some x)(hx:nbS x=sv r' y)(hk:yY B0.length (sv r' y)=true)(hL:Y9 B0.length m' e' L' is B0.length [] (Lf r' y)=some ([],Lf r' y)):∀a w,pX n c B0 m' e' L' a w->QS P fn c B0 sv Lf r a w:=by subst hz;cases hF;intro a w hr';obtain⟨B,hm,hA,hS⟩:=id hr';obtain⟨v,h1,h2⟩:=aIR hr hT hA hS hv;obtain⟨B',hm',_,hS'⟩:=hr'.Y9 is hL;have hB':B'=[]:=(by simp_all);subst hB';refine⟨hA.d,v,h2,y,?_,by grind⟩;rw[<-hx] at hk ⊢;have:=T7 hk (by rw[aIL];exact h1);grind
theorem iE{Z:Act->World->Prop}{α:Type}[aJ α](E:CO α)(h:Nat)(is ks:List Nat){s:AC}{l:List α}{k nb:Nat}(x:α)(y:E.ex){cs0:List SV}{ec:List Value}(hs:L[h]?=some (.o (rR (s.v l.length) l k)))(hb:L[h+1]?=some (.box nb cs0))(hv:L[h+2]?=some (wOf α nb s l.length k))(hi:aZ (fun i=>L[i]?) is=some (E.Lx x y))(hc:nbL cs0=E.cs x y)(hec:aZ (bT []) (E.cs x y)=some ec)(ha:dQ (h :: (h+1) :: is)=true)(hk:aZ (EK e) ks=some (ks.map fun _=>.h s l.length))
  (kk:∀a w,pX n c B0 m (ovh (.h s (l.set k x).length) e ks) (KJ L (h :: (h+1) :: is) ++ [ow s (l.set k x)]) a w->Z a w):∀a w,pX n c B0 m e L a w->Z a w:=by
 intro a w ⟨B,hm,hA,hS⟩;obtain⟨h1,h2⟩:=a3K E h (h+1) (h+2) is ks x y hs hb hv hi hc hec ha hk hA hS;exact kk a w ⟨B,hm,h1,h2⟩
end
def wAt(n:Nat):List Ch->Option (Nat×Nat)
 | []=>none
 | .w k b z :: L => match Nat.beq n k with
  | true=>some (b,z)
  | false=>wAt n L
 | _ :: L=>wAt n L
theorem UA{n b z:Nat}:∀{L:List Ch},wAt n L=some (b,z)->Ch.w n b z∈L
 | [],h=>by cases h
 | x :: L, h => by
  cases x with
  | w k b' z' =>
   simp only[wAt] at h;split at h
   ·simp_all
   ·exact AE _ (UA h)
  | box k cs=>exact AE _ (UA (L:=L) h)
  | ro k cs=>exact AE _ (UA (L:=L) h)
  | o ch=>exact AE _ (UA (L:=L) h)
  | f g=>exact AE _ (UA (L:=L) h)
  | no=>exact AE _ (UA (L:=L) h)
noncomputable section
variable {P:Program} {T:TT} {hT:H3 P T} {n:Nat} {c:Ctx} {B0:Bl} {N:Act->World->Prop} {X:Nat->Act->World->Prop} {Q:Act->World->Prop} {K K':List Fr} {m m':Nat} {e e':SE} {L L' Lv:List Ch} {cf cf1 cf2:wG} {o:Oper} {d:Nat}
theorem iF{α:Type}[aJ α](nb:Nat){t el sz:Nat}{s:AC}{i:Int}{ls:List α}{x:α}{b1 b2:Bool}{n1:Nat}{z1 z2:List SV}{k2:TK}(hsh:Shp s ls.length)(hi:idx ls i=some x)(hs:kI T n K cf m e L=.idx o d t s ls.length i Lv cf1 cf2 K' m' e' L')(hw:wAt nb Lv=some (RW (s.v ls.length),QM (aJ.n α) i.toNat (s.v ls.length)))(ht:D3 T t=some ⟨.sl el,b1,n1,z1⟩)(he:D3 T el=some ⟨k2,b2,sz,z2⟩)(hn:aJ.n α=sz)
  (k:G (.mk P T hT n c B0 N X Q) K' m' ((d,.p nb 0) :: e') L' cf2):G (.mk P T hT n c B0 N X Q) K m e L cf:=by
 obtain⟨p,hp⟩:=List.mem_iff_getElem?.1 (UA hw);grind[ie]
end
def EG.o{α:Type}[aJ α](C:EG α)(Lx:α->C.ex->List Ch)(pk:∀{q y ec},aZ (bT []) (C.cs q y)=some ec->OP ec q ((Lx q y).map (lD [])))(no:∀q y,noF (Lx q y)=true)(nb:∀q y B,(Lx q y).map (lD B)=(Lx q y).map (lD [])):CO α:=
 ⟨C.ex,C.cs,Lx,fun h=>let ⟨y,h1,_⟩:=C.ok (aJ.own_rd h);⟨y,h1⟩,pk,no,nb⟩
def oI:CO Int:=cI.o (fun _ _=>[]) (fun h=>by cases h;exact cQ rfl) (fun _ _=>rfl) (fun _ _ _=>rfl)
def oU:CO UInt8:=cU.o (fun _ _=>[]) (fun h=>by cases h;exact cQ rfl) (fun _ _=>rfl) (fun _ _ _=>rfl)
theorem jI{α:Type}[aJ α][Flat α]{cs:List Value}{d:α}(h:aJ.rd F0 default cs d)(w:World):aJ.own w cs d F0:=Flat.own_of h
end Go.Gv
end
noncomputable section
namespace Go.Gv
noncomputable section
variable {P:Program} {T:TT} {hT:H3 P T} {n:Nat} {c:Ctx} {B0:Bl} {N:Act->World->Prop} {X:Nat->Act->World->Prop} {Q:Act->World->Prop} {K K':List Fr} {m m':Nat} {e e':SE} {L L':List Ch} {cf:wG}
variable {b:Bool} {α:Type} {A B':Option α} {q:Option α}
theorem csK{o:Operand}{x y:Code}(ss:List Nat)(hs:kI T n K cf m e L=.cond o b x y K' m' e' L')(ho:aZ (EK e') ss=some (ss.map fun _=>SV.b b))(hF:(if b=true then A else B')=q)
  (k1:b=true->A=q->G (.mk P T hT n c B0 N X Q) K' m' (ovr true e' ss) L' (.c x)) (k2:b=false->B'=q->G (.mk P T hT n c B0 N X Q) K' m' (ovr false e' ss) L' (.c y)):G (.mk P T hT n c B0 N X Q) K m e L cf:=
 iD (g := .mk P T hT n c B0 N X Q) (by
  rw[hs];intro he a w hr;have ⟨B,hm,hA,hS⟩:=hr;obtain⟨v,h1,h2⟩:=fT hA he;cases h1;refine nO hA.env h2 (fun hc=>?_) (fun hc=>?_)
  ·rw[aL hc] at hF;exact k1 hc hF a w (aIQ hc ss ho hr)
  ·rw[aO (by rw[hc];simp)] at hF;exact k2 hc hF a w (aIQ hc ss ho hr))
theorem caK{cf':wG}(ss:List Nat)(hs:kI T n K cf m e L=.case b cf' K' m' e' L')(ho:aZ (EK e') ss=some (ss.map fun _=>SV.b b))(hF:(if b=true then A else B')=q)
  (k1:b=true->A=q->G (.mk P T hT n c B0 N X Q) K' m' (ovr true e' ss) L' cf') (k2:b=false->B'=q->G (.mk P T hT n c B0 N X Q) K' m' (ovr false e' ss) L' cf'):G (.mk P T hT n c B0 N X Q) K m e L cf:=
 iD (g:=.mk P T hT n c B0 N X Q) (by
  rw[hs];cases b with
  | true=>exact aJZ (fun a B hA=>ZD rfl ss ho hA) (k1 rfl (by simpa using hF))
  | false=>exact aJZ (fun a B hA=>ZD rfl ss ho hA) (k2 rfl (by simpa using hF)))
end
end Go.Gv
end
noncomputable section
namespace Go.Gv
noncomputable section
variable {P:Program} {T:TT} {hT:H3 P T} {n:Nat} {c:Ctx} {B0:Bl} {N:Act->World->Prop} {X:Nat->Act->World->Prop} {Q:Act->World->Prop} {K K':List Fr} {m m':Nat} {e e':SE} {L L' Lv:List Ch} {cf cf1 cf2:wG} {o:Oper} {d:Nat}
theorem aVP{α:Type}[aJ α]{l:List α}(L2:AC->List Ch)(hs:kI T n K cf m e L=.op o Lv cf1 cf2 K' m' e' L')(hd:o.dst=some d)(hz:∀s',Frz (.mk P T hT n c B0 N X Q) cf1 L' (L2 s'))(h:∀B a w,hY n B e' a->nC c w B L'->∃s' w',eR P o (vE B e') w (AC.v s' l.length) w'/\nC c w' B (L2 s'))
  (k:∀s':AC,G (.mk P T hT n c B0 N X Q) K' m' ((d,.h s' l.length) :: e') (L2 s') cf2):G (.mk P T hT n c B0 N X Q) K m e L cf:=by
 refine iD (g:=.mk P T hT n c B0 N X Q) ?_;rw[hs];intro hdn _ hE;refine hE AC (fun _=>m') (fun s'=>(d,.h s' l.length) :: e') L2 hz (fun B a w next Q' hm hA hS hnext=>?_) k;obtain⟨s',w',k1,k2⟩:=h _ a w hA hS;unfold Oper.wp;rw[k1 _ a hA.env,Oper.upon_value,hd];exact hnext s' _ _ ⟨[],by grind,by simpa using hA.of (by simp[fS,gV,bT]) (hA.env.put (by grind[rS,wY]) _),by grind⟩
theorem aEQ{α:Type}[aJ α]{w:World}{A:List Chunk}{R:List Fact}{v:Value}{l:List α}(h:St c w A R)(i:Nat)(hi:A[i]?=some (bL [v] l)):∃s':AC,v=s'.v l.length:=by obtain⟨ad,cp,h2,_⟩:=aJN (h.aXD i hi);exact⟨⟨ad,cp⟩,h2⟩
noncomputable section
variable {x y:Operand} {t el sz:Nat} {zv:Value} {b1:Bool} {n1:Nat} {z1:List SV}
theorem lt0{α:Type}[aJ α](hinf:T3 P el sz zv)(hs:kI T n K cf m e L=.op o Lv cf1 cf2 K' m' e' L')(ho:(o.op,o.dst)=(.buildSlice t 0 #[],some d))(ht:D3 T t=some ⟨.sl el,b1,n1,z1⟩)(hn:aJ.n α=sz)
  (k:∀s':AC,G (.mk P T hT n c B0 N X Q) K' m' ((d,.h s' ([]:List α).length) :: e') (L' ++ [ow s' ([]:List α)]) cf2):G (.mk P T hT n c B0 N X Q) K m e L cf:=by
 refine aVP (l:=([]:List α)) (fun s'=>L' ++ [ow s' ([]:List α)]) hs (eA Prod.snd ho) (fun _=>wI _) (fun B a w hA hS=>?_) k;obtain⟨⟨R,s1,s2⟩,s0⟩:=hS;obtain⟨v,w',k1,k2⟩:=a62 (α:=α) (e:=vE B e') (o:=o) s1 hn (KI ht hT) hinf (eA Prod.fst ho);obtain⟨s',rfl⟩:=aEQ (v:=v) (l:=([]:List α)) k2 (L'.map (lD B)).length (by simp);refine⟨s',w',k1,⟨⟨R,by grind[lD],fun z hz=>?_⟩,s0⟩⟩;rcases jB.1 hz with hz | hz
 ·grind
 ·simp at hz;subst hz;trivial
theorem ND{g:Gx}{cf:wG}{L:List Ch}{j:Nat}{z:Ch}(hn:gC j cf.yZ=true):Frz g cf L (L.set j z):=by have:=aQL (g:=g) (M:=[]) (z:=z) (L:=L) hn;grind
theorem ap{α β:Type}[aJ α][Flat α]{A:Option β}{q:β}{s s2:AC}{l xs:List α}(i:Nat)(hinf:T3 P el sz zv)(hs:kI T n K cf m e L=.op o Lv cf1 cf2 K' m' e' L')(ho:(o.op,o.dst)=(.call {callee:=.builtin .append,args:=#[x,y],argTypes:=#[t,t]},some d))(ht:D3 T t=some ⟨.sl el,b1,n1,z1⟩)(hn:aJ.n α=sz)(hzs:zv.cells.size=sz)(hi:L'[i]?=some (ow s l))(hz:gC i cf1.yZ=true)(hsrc:∀{w},HS c w L'->cJ (cL w) s2 xs)(hx:j4 e' x=some (.h s l.length))(hy:j4 e' y=some (.h s2 xs.length))(hF:need (l.length+xs.length<=1073741824) A=some q)
  (k:A=some q->∀s':AC,G (.mk P T hT n c B0 N X Q) K' m' ((d,.h s' (l++xs).length) :: e') (L'.set i (ow s' (l++xs))) cf2):G (.mk P T hT n c B0 N X Q) K m e L cf:=by
 refine aVP (l:=l++xs) (fun s'=>L'.set i (ow s' (l++xs))) hs (eA Prod.snd ho) (fun _=>ND hz) (fun B a w hA hS=>?_) (k (kG hF).2);have hr:cJ (cL w) s2 xs:=hsrc ⟨_,hS⟩;obtain⟨⟨R,s1,s2'⟩,s0⟩:=hS;have hj2:(L'.map (lD B))[i]?=some (bL [s.v l.length] l):=by simp[hi,lD]
 obtain⟨v,w',k1,k2⟩:=aOP i s1 hj2 hr hn (KI ht hT) hinf hzs (kG hF).1 (eA Prod.fst ho) (hdB hA hx) (hdB hA hy);have hlt:i<L'.length:=(A4.1 hi).1;obtain⟨s',rfl⟩:=aEQ k2 i (by rw[List.getElem?_set_self (by grind)]);refine⟨s',w',k1,⟨⟨R,?_,fun z hz=>?_⟩,s0⟩⟩
 ·rw[RY];exact k2
 ·rcases oC hz with hz | hz
  ·grind
  ·subst hz;trivial
end
end
end Go.Gv
end
noncomputable section
namespace Go.Gv
theorem aSX{α:Type}{l:List α}{i:Int}{x:α}(h:idx l i=some x):l.set i.toNat x=l:=by obtain⟨hk,h2⟩:=A4.1 (mC h).2.2;rw[<-h2];simp
noncomputable section
variable {P:Program} {T:TT} {hT:H3 P T} {n:Nat} {c:Ctx} {B0:Bl} {N:Act->World->Prop} {X:Nat->Act->World->Prop} {Q:Act->World->Prop} {K K':List Fr} {m m':Nat} {e e':SE} {L L' Lv:List Ch} {cf cf' cf1 cf2:wG} {o:Oper} {d:Nat}
theorem PB{α:Type}[aJ α](E:CO α)(h:Nat)(is:List Nat){s:AC}{l:List α}{i:Int}{nb:Nat}{x:α}(hx:idx l i=some x)(y:E.ex){cs0:List SV}{ec:List Value}(h0:XC (kI T n K cf m e L)=some (K',cf',m',e',L'))(hs:L'[h]?=some (.o (rR (s.v l.length) l i.toNat)))(hb:L'[h+1]?=some (.box nb cs0))(hv:L'[h+2]?=some (wOf α nb s l.length i.toNat))(hi:aZ (fun i=>L'[i]?) is=some (E.Lx x y))(hc:nbL cs0=E.cs x y)(hec:aZ (bT []) (E.cs x y)=some ec)(ha:dQ (h :: (h+1) :: is)=true)(hz:((h :: (h+1) :: is).all fun j=>gC j cf'.yZ)=true)
  (kk:G (.mk P T hT n c B0 N X Q) K' m' e' (KJ L' (h :: (h+1) :: is) ++ [ow s l]) cf'):G (.mk P T hT n c B0 N X Q) K m e L cf:=
 ceS E h is [] x y h0 hs hb hv hi hc hec ha hz rfl (by rw[aSX hx];exact kk)
theorem fK{Z:Act->World->Prop}{α:Type}[aJ α](E:CO α)(h:Nat)(is:List Nat){s:AC}{l:List α}{i:Int}{nb:Nat}{x:α}(hx:idx l i=some x)(y:E.ex){cs0:List SV}{ec:List Value}(hs:L[h]?=some (.o (rR (s.v l.length) l i.toNat)))(hb:L[h+1]?=some (.box nb cs0))(hv:L[h+2]?=some (wOf α nb s l.length i.toNat))(hi:aZ (fun i=>L[i]?) is=some (E.Lx x y))(hc:nbL cs0=E.cs x y)(hec:aZ (bT []) (E.cs x y)=some ec)(ha:dQ (h :: (h+1) :: is)=true)
  (kk:∀a w,pX n c B0 m e (KJ L (h :: (h+1) :: is) ++ [ow s l]) a w->Z a w):∀a w,pX n c B0 m e L a w->Z a w:=
 iE E h is [] x y hs hb hv hi hc hec ha rfl (by rw[aSX hx];exact kk)
noncomputable section
variable {x:Operand} {t el:Nat} {zv:Value} {b1:Bool} {n1:Nat} {z1:List SV}
theorem lt1{k:IntKind}{i:Int}(hk:k=.i64)(hinf:T3 P el 1 zv)(hs:kI T n K cf m e L=.op o Lv cf1 cf2 K' m' e' L')(ho:(o.op,o.dst)=(.buildSlice t 1 #[(0,x)],some d))(ht:D3 T t=some ⟨.sl el,b1,n1,z1⟩)(hx:(j4 e' x).bind wB=some (k,i))
  (kk:∀s':AC,G (.mk P T hT n c B0 N X Q) K' m' ((d,.h s' [i].length) :: e') (L' ++ [ow s' [i]]) cf2):G (.mk P T hT n c B0 N X Q) K m e L cf:=by
 subst hk;refine aVP (l:=[i]) (fun s'=>L' ++ [ow s' [i]]) hs (eA Prod.snd ho) (fun _=>wI _) (fun B a w hA hS=>?_) kk;obtain⟨⟨R,s1,s2⟩,s0⟩:=hS;obtain⟨v,w',k1,k2⟩:=a63 (α:=Int) (e:=vE B e') (o:=o) i s1 rfl (KI ht hT) hinf (c0:=.int .i64 i) rfl (eA Prod.fst ho) (A7 hA hx) rfl;obtain⟨s',rfl⟩:=aEQ (v:=v) (l:=[i]) k2 (L'.map (lD B)).length (by simp);refine⟨s',w',k1,⟨⟨R,by grind[lD],fun z hz=>?_⟩,s0⟩⟩;rcases jB.1 hz with hz | hz
 ·grind
 ·simp at hz;subst hz;trivial
end
end
end Go.Gv
end
noncomputable section
namespace Go.Gv
theorem cJ.sub{c:Ctx}{α:Type}[aJ α]{s s':AC}{l:List α}{a b:Nat}(h:cJ c s l)(hp:i4 (aJ.n α) a b (s.v l.length)=s'.v ((l.take b).drop a).length)(hb:a<=b/\b<=l.length):cJ c s' ((l.take b).drop a):=by have:=aVB (n:=aJ.n α) rfl h hb.1 hb.2;rw[hp] at this;exact this
end Go.Gv
end
noncomputable section
namespace Go.Gv
theorem Sep.perm{w:World}{A B:List Chunk}(h:A.Perm B):∀{F:cN},Sep w A F->Sep w B F:=by
 induction h with
 | nil=>simp
 | cons a _ ih=>exact fun⟨F1,F2,h1,h2,hd,hF⟩=>⟨F1,F2,h1,ih h2,hd,hF⟩
 | swap a b L =>
  intro F h;have h:Sep w (([b] ++ [a])++L) F:=h;obtain⟨F1,F2,h1,h2,hd,hF⟩:=Sep.append.1 h;exact(Sep.append (A:=[a] ++ [b])).2 ⟨F1,F2,h1.swap,h2,hd,hF⟩
 | trans _ _ i1 i2=>grind
theorem St.via{c:Ctx}{w:World}{A B:List Chunk}{R:List Fact}(h:St c w A R)(hs:∀F,Sep w A F->Sep w B F):St c w B R:=by obtain⟨F,S,hsep,rest⟩:=h.sep;exact⟨h.keep,⟨F,S,hs F hsep,rest⟩,h.apart⟩
structure PV where
 b:Nat
 z:Nat
 A:List Value
 V:List Value
 C:List Value
def PV.whole(p:PV):Chunk:=WU p.b p.z (p.A++(p.V++p.C))
def PV.mid(p:PV):Chunk:=WU p.b (p.z+p.A.length) p.V
def PV.rest(p:PV):List Chunk:=[WU p.b p.z p.A,WU p.b (p.z+p.A.length+p.V.length) p.C]
theorem a9N{α:Type}{a v c:α}{M R:List α}:(a :: v :: c :: (M++R)).Perm (v :: (M++(a :: c :: R))):=by refine(List.Perm.swap v a _).trans (List.Perm.cons v ?_);exact((List.perm_middle (a:=c)).symm.cons a).trans (List.perm_middle (a:=a)).symm
theorem bDA{w:World}:∀{ps:List PV} {F:cN},Sep w (ps.map PV.whole) F->Sep w (ps.map PV.mid++ps.flatMap PV.rest) F
 | [],F,h=>h
 | p :: ps, F, h => by obtain⟨F1,F2,h1,h2,hd,hF⟩:=h;exact Sep.perm a9N (Sep.append.2 ⟨F1,F2,aZF h1,bDA h2,hd,hF⟩)
theorem bDB{w:World}:∀{ps:List PV} {F:cN},Sep w (ps.map PV.mid++ps.flatMap PV.rest) F->Sep w (ps.map PV.whole) F
 | [],F,h=>h
 | p :: ps, F, h => by have h2:Sep w ([WU p.b p.z p.A,p.mid,WU p.b (p.z+p.A.length+p.V.length) p.C]++(ps.map PV.mid++ps.flatMap PV.rest)) F:=Sep.perm (a9N (M:=ps.map PV.mid) (R:=ps.flatMap PV.rest)).symm h;obtain⟨F1,F2,h1,h3,hd,hF⟩:=Sep.append.1 h2;exact⟨F1,F2,a1Y h1,bDB h3,hd,hF⟩
theorem St.a9O{c:Ctx}{w:World}{A M:List Chunk}{R:List Fact}(h:St c w (A++M) R)(s0:∀b o,c.S0 b o->b<c.w0.heap.size) :
  ∃κ:Ctx,κ.w0=w/\(∀b o,κ.S0 b o->b<w.heap.size)/\St κ w A []/\(∀f:Fact,f.P c.S0 c.w0->f.P κ.S0 w)/\(∀f∈R,f.P κ.S0 w) /\
   (∀ch∈M,∀f:Fact,(∀w F,ch.P w F->f.P F w)->f.P κ.S0 w)/\∀w' A' R',St κ w' A' R'->St c w' (A'++M) R:=by
 obtain⟨F,S,hsep,hFS,hFW,hSS,hSlt,hR⟩:=h.sep;obtain⟨F1,F2,h1,h2,hd,hF⟩:=Sep.append.1 hsep;have hk0:c.w0.heap.size<=w.heap.size:=h.keep.size;have h1S0:∀b o,F1 b o->c.S0 b o->False:=fun b o p q=>by
  rcases hFW b o ((hF b o).2 (.inl p)) with hw | hw
  ·exact h.apart b o hw q
  grind
 have hlt:∀b o,(S b o\/F2 b o)\/c.S0 b o->b<w.heap.size:=by
  rintro b o ((q | q) | q)
  ·grind
  ·exact Sep.lt h2 q
  grind
 have hap:∀b o,F1 b o->((S b o\/F2 b o)\/c.S0 b o)->False:=by
  rintro b o p ((q | q) | q)
  ·exact hFS b o ((hF b o).2 (.inl p)) q
  ·exact hd b o p q
  grind
 refine⟨⟨w,F1,fun b o=>(S b o\/F2 b o)\/c.S0 b o⟩,rfl,hlt,⟨eT.refl _ _,⟨F1,fun b o=>(S b o\/F2 b o)\/c.S0 b o,h1,hap,fun _ _ h=>.inl h,fun _ _ h=>.inl h,hlt,by simp⟩,hap⟩,fun f hf=>?_,fun f hf=>f.mono (hR f hf) fun b o q=>.inl (.inl q),fun ch hch f hf=>?_,?_⟩
 ·exact f.mono (f.agree hf fun b o q=>h.keep.cell b o (s0 b o q) fun hw=>h.apart b o hw q) fun b o q=>.inr q
 ·obtain⟨j,hj⟩:=aI9 hch;obtain⟨G1,G2,g1,_,_,gF⟩:=(Sep.take hj).1 h2;exact f.mono (hf w G1 g1) fun b o q=>.inl (.inr ((gF b o).2 (.inl q)))
 ·intro w' A' R' k;obtain⟨F',S',b1,b2,b3,b4,b5,b6⟩:=k.sep;have hk:eT F1 w w':=k.keep;have hGW:∀b o,b<c.w0.heap.size->F1 b o->c.W b o:=fun b o hb g=>by grind
  refine⟨h.keep.trans hk hGW,⟨fun b o=>F' b o\/F2 b o,S,Sep.append.2 ⟨F',F2,b1,Sep.keep hk h2 fun b o hf g=>hd b o g hf,?_,fun _ _=>Iff.rfl⟩,?_,?_,hSS,fun b o hS=>R0 (hSlt b o hS) hk.size,?_⟩,h.apart⟩
  ·intro b o hg hf;grind
  ·rintro b o (hf | hf) hS
   ·grind
   ·exact hFS b o ((hF b o).2 (.inr hf)) hS
  ·grind
  ·intro f hf;exact f.agree (hR f hf) fun b o hS=>hk.cell b o (hSlt b o hS) fun g=>hFS b o ((hF b o).2 (.inl g)) hS
abbrev PS:=List (Nat×Nat×Nat×Nat)
def aQN:Nat->List (List SV)->List Ch
 | _,[]=>[]
 | k,c :: r=>.box k c :: aQN (k+1) r
def PC(L:List Ch)(i n:Nat):List SV:=match L[i]? with
 | some (.box k cs) => match Nat.beq n k with
  | true=>cs
  | false=>[]
 | _=>[]
def aJ1(L:List Ch):PS->Option (List (List SV))
 | []=>some []
 | (i, n, o, k) :: r => match Nat.ble (o + k) (PC L i n).length, Nat.ble 1 k, frc (((PC L i n).drop o).take k), aJ1 L r with
  | true,true,some d,some ds=>some (d :: ds)
  | _,_,_,_=>none
def OS(L M:List Ch):PS->List (List SV)->List Ch
 | (i,n,o,_) :: r,c :: cs=>OS L (M.set i (.box n (ovw (PC L i n) o c))) r cs
 | _,_=>M
def HM:PS->List Nat
 | []=>[]
 | p :: r=>p.1 :: HM r
def rnP:PS->Nat->SV->Option SV
 | [], _, x => match yY 0 x with
  | true=>some x
  | false=>none
 | (_, n, o, _) :: r, j, x => match x with
  | .p n' o' => match Nat.beq n n', Nat.beq o o' with
   | true,true=>some (.p j 0)
   | _,_=>rnP r (j+1) (.p n' o')
  | x=>rnP r (j+1) x
structure HG (c κ:Ctx) (L:List Ch) (js:List Nat):Prop where
 a:∀{α:Type} [aJ α] {s:AC} {d:List α},cJ c s d->cJ κ s d
 o:∀{α:Type} [aJ α] {s:AC} {d:List α} (i:Nat),L[i]?=some (ow s d)->gC i js=true->cJ κ s d
 f:∀{α:Type} [aJ α] {s:AC} {d:List α} (i:Nat),L[i]?=some (fr s d)->cJ κ s d
def PvR(B:Bl)(L:List Ch):PS->List (List SV)->List PV->Prop
 | [],[],[]=>True
 | (i,n,o,k) :: r,d :: ds,p :: ps=>(∃cs vs,L[i]?=some (.box n cs)/\B[n]?=some (p.b,p.z)/\aZ (bT B) cs=some vs/\o+k<=cs.length/\p.A=vs.take o/\p.V=(vs.drop o).take k/\p.C=vs.drop (o+k)/\d=(cs.drop o).take k)/\PvR B L r ds ps
 | _,_,_=>False
def blP(pv:List PV):Bl:=pv.map fun p=>(p.b,p.z+p.A.length)
noncomputable section
variable {c:Ctx} {w:World} {B:Bl} {L:List Ch} {R:List Fact}
theorem aSZ{i n:Nat}{x:SV}{r:List SV}(h:PC L i n=x :: r):L[i]?=some (.box n (x :: r)):=by
 unfold PC at h;split at h
 ·rename_i k cs hk;grind[qY]
 ·cases h
theorem a9P(hS:St c w (L.map (lD B)) R):∀{ps:PS} {ds:List (List SV)},aJ1 L ps=some ds->∃pv,PvR B L ps ds pv
 | [],ds,h=>by cases h;exact⟨[],trivial⟩
 | (i, n, o, k) :: r, ds, h => by
  simp only[aJ1] at h;split at h
  ·rename_i d ds' h1 h2 h3 h4;cases h;have h1:=M7 h1;have h2:=M7 h2;obtain⟨pv,hpv⟩:=a9P hS h4;have h3:=T6 h3;subst h3;cases hc:PC L i n with
   | nil=>grind
   | cons x cs =>
    have hL:=aSZ hc;obtain⟨F,b,z,vs,g1,g2,g3⟩:=hS.chunk (ch:=SD B n (x :: cs)) i (by simp[hL,lD]);exact⟨⟨b,z,vs.take o,(vs.drop o).take k,vs.drop (o+k)⟩ :: pv,⟨x :: cs,vs,hL,g1,g2,by grind,rfl,rfl,rfl,by simp⟩,hpv⟩
  ·cases h
theorem parts{vs:List Value}{o k:Nat}:vs.take o++((vs.drop o).take k++vs.drop (o+k))=vs:=by grind[List.drop_drop,aF0]
theorem aX8{F:cN}:∀{ps:PS} {ds:List (List SV)} {pv:List PV} {F:cN},PvR B L ps ds pv->Sep w (pick (L.map (lD B)) (HM ps)) F->Sep w (pv.map PV.whole) F
 | [],[],[],F,_,h=>h
 | (i, n, o, k) :: r, d :: ds, p :: ps, F, ⟨⟨cs, vs, h1, h2, h3, h4, h5, h6, h7, h8⟩, hr⟩, h => by simp only[HM,pick,JN,h1,Option.map_some,Option.getD_some] at h;obtain⟨F1,F2,g1,g2,gd,gF⟩:=h;refine⟨F1,F2,?_,aX8 (F:=F) hr g2,gd,gF⟩;obtain⟨b,z,vs',k1,k2,k3⟩:=g1;grind[PV.whole,parts]
theorem aVR{Bs:Bl}{p:PV}{ps:List PV}{j:Nat}(h:∀i,Bs[j+i]?=(blP (p :: ps))[i]?):Bs[j]?=some (p.b,p.z+p.A.length)/\∀i,Bs[j+1+i]?=(blP ps)[i]?:=by
 refine⟨?_,fun i=>?_⟩
 ·have:=h 0;grind[blP]
 ·have:=h (i+1);grind[blP]
theorem a3M{Bs:Bl}:∀{ps:PS} {ds:List (List SV)} {pv:List PV} {j:Nat} {F:cN},PvR B L ps ds pv->ds.all (yY.okC 0)=true->(∀i,Bs[j+i]?=(blP pv)[i]?)->Sep w (pv.map PV.mid) F->Sep w ((aQN j ds).map (lD Bs)) F
 | [],[],[],_,F,_,_,_,h=>h
 | (i, n, o, k) :: r, d :: ds, p :: ps, j, F, ⟨⟨cs, vs, h1, h2, h3, h4, h5, h6, h7, h8⟩, hr⟩, ho, hB, h => by
  simp only[aM5,C8] at ho;obtain⟨F1,F2,g1,g2,gd,gF⟩:=h;obtain⟨b1,b2⟩:=aVR hB;refine⟨F1,F2,⟨p.b,p.z+p.A.length,p.V,b1,?_,g1⟩,a3M hr ho.2 b2 g2,gd,gF⟩;have e1:aZ (bT B) d=some p.V:=by grind[SC,SB]
  have e2:=B9 ho.1 e1;rw[List.take_zero] at e2;exact eZ (fun x v h=>by simpa using gL (B:=[]) Bs h) e2
theorem aVS{Bs:Bl}:∀{ps:PS} {ds:List (List SV)} {pv:List PV} {j:Nat} {x x':SV} {v:Value},PvR B L ps ds pv->(∀i,Bs[j+i]?=(blP pv)[i]?)->rnP ps j x=some x'->fS B x=some v->fS Bs x'=some v
 | [], [], [], j, x, x', v, _, _, hx, hv => by
  simp only[rnP] at hx;split at hx
  ·rename_i h0;cases hx;have:=T7 h0 hv;rw[List.take_zero] at this;simpa using wH (B:=[]) Bs this
  ·cases hx
 | (i, n, o, k) :: r, d :: ds, p :: ps, j, x, x', v, ⟨⟨cs, vs, h1, h2, h3, h4, h5, h6, h7, h8⟩, hr⟩, hB, hx, hv => by
  obtain⟨b1,b2⟩:=aVR hB;simp only[rnP] at hx;split at hx
  ·rename_i n' o';split at hx
   ·rename_i e1 e2;cases hx;have e1:=qY e1;have e2:=qY e2;subst e1;subst e2;simp only[fS,gV,bT,h2] at hv;have hA:p.A.length=o:=by grind[mD]
    simp_all[fS,gV,bT]
   ·exact aVS hr b2 hx hv
  ·exact aVS hr b2 hx hv
theorem aQO{Bs:Bl}{ps:PS}{ds:List (List SV)}{pv:List PV}(hr:PvR B L ps ds pv)(hB:∀i,Bs[0+i]?=(blP pv)[i]?):∀{xs xs':List SV} {vs:List Value},aZ (rnP ps 0) xs=some xs'->aZ (fS B) xs=some vs->aZ (fS Bs) xs'=some vs
 | [],_,_,h,hv=>by cases h;exact hv
 | x :: xs, xs', vs, h, hv => by
  simp only[aZ] at h hv;split at h
  ·cases h
  ·rename_i h1;split at h
   ·cases h
   ·rename_i h2;cases h;split at hv
    ·cases hv
    ·rename_i v1;split at hv
     ·cases hv
     ·rename_i v2;cases hv;simp only[aZ,aVS hr hB h1 v1,aQO hr hB h2 v2]
def PvN(B:Bl):List PV->List (List SV)->List PV->Prop
 | [],[],[]=>True
 | p :: ps,d :: ds,q :: qs=>(q.b=p.b/\q.z=p.z/\q.A=p.A/\q.C=p.C/\q.V.length=p.V.length/\aZ (bT B) d=some q.V)/\PvN B ps ds qs
 | _,_,_=>False
theorem aS0:∀{ps:List PV} {ds:List (List SV)} {qs:List PV},PvN B ps ds qs->qs.flatMap PV.rest=ps.flatMap PV.rest/\blP qs=blP ps
 | [],[],[],_=>⟨rfl,rfl⟩
 | p :: ps, d :: ds, q :: qs, ⟨⟨h1, h2, h3, h4, h5, h6⟩, hr⟩ => by obtain⟨e1,e2⟩:=aS0 hr;simp_all[PV.rest,blP]
def aCB:PS->List (List SV)->Bool
 | [],[]=>true
 | (_, _, _, k) :: r, d :: ds => match Nat.beq d.length k with
  | true=>aCB r ds
  | false=>false
 | _,_=>false
theorem a3N:∀{ps:PS} {ds:List (List SV)} {pv:List PV},PvR B L ps ds pv->pv.length=ps.length
 | [],[],[],_=>rfl
 | (i,n,o,k) :: r,d :: ds,p :: ps,⟨_,hr⟩=>by simp[a3N hr]
theorem aX9{Bs:Bl}:∀{ps:PS} {ds:List (List SV)} {pv:List PV} {es:List (List SV)} {j:Nat},PvR B L ps ds pv->aCB ps es=true->es.all (yY.okC 0)=true->(∀i,Bs[j+i]?=(blP pv)[i]?)->(∀i cs,es[i]?=some cs->∃F,(SD Bs (j+i) cs).P w F)->∃qs,PvN B pv es qs/\kM w ((aQN j es).map (lD Bs)) (qs.map PV.mid)
 | [],[],[],[],j,_,_,_,_,_=>⟨[],trivial,.nil⟩
 | [],[],[],e :: es,j,_,hl,_,_,_=>by grind[aCB]
 | (i,n,o,k) :: r,d :: ds,p :: ps,[],j,_,hl,_,_,_=>by grind[aCB]
 | (i, n, o, k) :: r, d :: ds, p :: ps, e :: es, j, ⟨⟨cs, vs, h1, h2, h3, h4, h5, h6, h7, h8⟩, hr⟩, hl, ho, hB, hc => by
  simp only[aCB] at hl;split at hl
  ·rename_i he;have he:=qY he;simp only[aM5,C8] at ho;obtain⟨b1,b2⟩:=aVR hB;obtain⟨qs,q1,q2⟩:=aX9 hr hl ho.2 b2 fun i cs hi=>by have:=hc (i+1) cs (by grind);grind
   obtain⟨F,b,z,us,g1,g2,g3⟩:=hc 0 e rfl;have hlen:=mD h3;have g4:=B9 ho.1 g2;rw[List.take_zero] at g4;refine⟨⟨p.b,p.z,p.A,us,p.C⟩ :: qs,⟨⟨rfl,rfl,rfl,rfl,?_,eZ (fun x v h=>by simpa using gL (B:=[]) B h) g4⟩,q1⟩,.cons (fun F hF=>?_) q2⟩
   ·grind[mD]
   ·obtain⟨b',z',us',k1,k2,k3⟩:=hF;rw[show j=j+0 by omega] at b1;simp only[Z2] at g2 k2 k1 b1;rw[b1] at k1;cases k1;rw[g2] at k2;cases k2;exact k3
  ·cases hl
theorem aJ2:∀{ws vs:List Value} {o:Nat},o+ws.length<=vs.length->ZN vs o ws=vs.take o++(ws++vs.drop (o+ws.length))
 | [],vs,o,h=>by simp[ZN]
 | x :: ws, vs, o, h => by
  simp only[W5] at h;simp only[ZN];rw[aJ2 (by simp;omega)];have t1:(vs.set o x).take (o+1)=vs.take o ++ [x]:=by rw[List.take_add_one,List.getElem?_set_self (by omega)];grind[List.take_set,List.set_eq_of_length_le]
  grind[List.drop_set_of_lt]
theorem a3O:∀{ps:PS} {ds es:List (List SV)} {pv qs:List PV} {M:List Ch} {F:cN},PvR B L ps ds pv->PvN B pv es qs->(∀i∈HM ps,M[i]?=some .no)->dQ (HM ps)=true->Sep w (qs.map PV.whole++M.map (lD B)) F->Sep w ((OS L M ps es).map (lD B)) F
 | [],[],[],[],[],M,F,_,_,_,_,h=>h
 | (i, n, o, k) :: r, d :: ds, e :: es, p :: ps, q :: qs, M, F, ⟨⟨cs, vs, h1, h2, h3, h4, h5, h6, h7, h8⟩, hr⟩, ⟨⟨n1, n2, n3, n4, n5, n6⟩, hn⟩, hM, ha, h => by
  simp only[HM,dQ,C8] at ha;have hi:M[i]?=some .no:=hM i (by simp[HM]);have hlt:i<M.length:=(A4.1 hi).1;simp only[OS];refine a3O (ps:=r) (ds:=ds) (es:=es) (pv:=ps) (qs:=qs) hr hn (fun j hj=>?_) ha.2 ?_
  ·have hne:i≠j:=fun e=>by subst e;have:=aM6.1 ha.1 _ hj;simp at this
   grind[HM]
  ·have h9:Sep w (qs.map PV.whole++(q.whole :: M.map (lD B))) F:=Sep.perm List.perm_middle.symm h;obtain⟨F1,F2,g1,g2,gd,gF⟩:=Sep.append.1 h9;refine Sep.append.2 ⟨F1,F2,g1,?_,gd,gF⟩;have hc:PC L i n=cs:=by simp_all[PC]
   have e0:(M.map (lD B)).set i K9=M.map (lD B):=by
    have:(M.map (lD B))[i]?=some K9:=by simp[hi,lD]
    grind[aJB]
   have e1:Sep w ((M.map (lD B)).set i q.whole) F2:=Sep.put (by grind) (by grind);rw[RY,hc];refine Sep.imp ?_ e1;refine kM.set i (kM.refl _) fun F hF=>⟨p.b,p.z,q.A++(q.V++q.C),h2,?_,by rw[<-n1,<-n2];exact hF⟩;have hlen:=mD h3;have hV:p.V.length=k:=by grind
   have hVe:e.length=k:=by grind[mD]
   simp_all[aQD,aB4,aJ2]
 | [],[],e :: es,[],_,M,F,_,hn,_,_,_=>by grind[PvN]
 | [],[],[],[],q :: qs,M,F,_,hn,_,_,_=>by grind[PvN]
 | (i,n,o,k) :: r,d :: ds,[],p :: ps,qs,M,F,_,hn,_,_,_=>by grind[PvN]
 | (i,n,o,k) :: r,d :: ds,e :: es,p :: ps,[],M,F,_,hn,_,_,_=>by grind[PvN]
theorem aS1{x:Ch}:∀{ps:PS} {es:List (List SV)} {M:List Ch},x∈OS L M ps es->x∈M\/∃n cs,x=.box n cs
 | [],_,M,h=>.inl (by simpa[OS] using h)
 | (i,n,o,k) :: r,[],M,h=>.inl (by simpa[OS] using h)
 | (i, n, o, k) :: r, e :: es, M, h => by
  rcases aS1 (ps:=r) (es:=es) (by simpa[OS] using h) with h | h
  ·rcases oC h with h | h
   ·exact .inl h
   ·exact .inr ⟨_,_,h⟩
  ·exact .inr h
end
end Go.Gv
end
noncomputable section
namespace Go.Gv
def cpS:Stop->Option (Oper×Option Nat×FuncId×List SV×wG×wG×List Fr×Nat×SE×List Ch)
 | .call o d f xs cf cf' K m e L=>some (o,d,f,xs,cf,cf',K,m,e,L)
 | .callp o d f xs cf cf' K m e L=>some (o,d,f,xs,cf,cf',K,m,e,L)
 | _=>none
def dse(d:Option Nat)(v:SV)(e:SE):SE:=match d with
 | some d=>(d,v) :: e
 | none=>e
def JS:List Ch->Bool
 | []=>true
 | .o _ :: L=>JS L
 | _ :: _=>false
theorem XE{B B':Bl}:∀{L:List Ch},JS L=true->L.map (lD B)=L.map (lD B')
 | [],_=>rfl
 | .o c :: L,h=>by simp only[Z0,lD];rw[XE (L:=L) h]
theorem XF{B:Bl}{R:List Fact}:∀{L:List Ch},JS L=true->∀x∈L,roF B R x
 | [],_,x,hx=>by cases hx
 | .o c :: L, h, x, hx => by
  rcases mA.1 hx with hx | hx
  ·subst hx;trivial
  ·exact XF (L:=L) h x hx
theorem aS2{B:Bl}{R:List Fact}:∀{cs:List (List SV)} {k:Nat},∀x∈aQN k cs,roF B R x
 | [],k,x,hx=>by cases hx
 | c :: cs, k, x, hx => by
  rcases mA.1 hx with hx | hx
  ·subst hx;trivial
  ·exact aS2 x hx
theorem aJ3:∀{cs:List (List SV)} {k i:Nat} {c:List SV},cs[i]?=some c->(aQN k cs)[i]?=some (.box (k+i) c)
 | c' :: cs,k,0,c,h=>by simp at h;subst h;rfl
 | c' :: cs, k, i + 1, c, h => by have:=aJ3 (k:=k+1) (show cs[i]?=some c by grind);grind[aQN]
theorem aCC{L:List Chunk}:∀{a b:List Nat},pick L (a++b)=pick L a++pick L b
 | [],b=>rfl
 | i :: a,b=>by simp only[ZY,pick,aCC (a:=a)]
theorem aIS:∀{js:List Nat} {L:List Ch},(KJ L js).length=L.length
 | [],L=>rfl
 | j :: js,L=>by simp only[KJ];rw[aIS];simp
theorem a3P:∀{js:List Nat} {L:List Ch} {i:Nat},i<L.length->L[i]?=some .no\/i∈js->(KJ L js)[i]?=some .no
 | [],L,i,_,h=>by rcases h with h | h;exact h;cases h
 | j :: js, L, i, hl, h => by simp only[KJ];refine a3P (by grind) ?_;grind
theorem a3Q{B:Bl}{L:List Ch}:∀{ps:PS} {ds:List (List SV)} {pv:List PV},PvR B L ps ds pv->∀i∈HM ps,i<L.length
 | [],[],[],_,i,h=>by cases h
 | (i, n, o, k) :: r, d :: ds, p :: ps, ⟨⟨cs, vs, h1, _⟩, hr⟩, j, h => by
  rcases mA.1 h with h | h
  ·grind
  ·exact a3Q hr j h
theorem aYB:∀{a b:List Nat},dQ (a++b)=true->dQ a=true
 | [],b,_=>rfl
 | i :: a, b, h => by simp only[ZY,dQ,C8,List.all_append] at h ⊢;exact⟨h.1.1,aYB h.2⟩
theorem aS3{g:Gx}{cf:wG}{L M:List Ch}{j:Nat}{z:Ch}(h:Frz g cf L M)(hn:gC j cf.yZ=true):Frz g cf L (M.set j z):=by
 cases cf with
 | d B1 ops l is Lf Lv =>
  intro hD;obtain⟨h1,h2⟩:=h hD;have:=ZE (L:=M) (M:=[]) (j:=j) (z:=z) h2 hn;grind
 | o B1 ops l is Lf Lv ii =>
  intro hD;obtain⟨h1,h2⟩:=h hD;have:=ZE (L:=M) (M:=[]) (j:=j) (z:=z) h2 hn;grind
 | _=>trivial
theorem aS4{g:Gx}{cf:wG}{L L0:List Ch}:∀{ps:PS} {es:List (List SV)} {M:List Ch},Frz g cf L M->((HM ps).all fun j=>gC j cf.yZ)=true->Frz g cf L (OS L0 M ps es)
 | [],_,M,h,_=>by grind[OS]
 | (i,n,o,k) :: r,[],M,h,_=>by grind[OS]
 | (i, n, o, k) :: r, e :: es, M, h, hz => by simp only[HM,aM5,C8] at hz;exact aS4 (ps:=r) (es:=es) (aS3 h hz.1) hz.2
theorem aER{i:Nat}:∀{js:List Nat},gC i js=true->(js.all fun j=>!Nat.beq j i)=true
 | [],_=>rfl
 | j :: js, h => by
  simp only[gC] at h;split at h
  ·cases h
  ·rename_i hb;simp only[aM5,C8,Bool.not_eq_true'];refine⟨?_,aER h⟩;grind[qY]
theorem a3R{g:Gx}{s:Stop}{o:Oper}{d:Option Nat}{f:FuncId}{xs:List SV}{cf cf':wG}{K:List Fr}{m:Nat}{e:SE}{L:List Ch}(hs:cpS s=some (o,d,f,xs,cf,cf',K,m,e,L))
  (h:∀fo args ats,o.op=.call {callee:=.value fo,args:=args,argTypes:=ats}->o.dst=d->j4 e fo=some (.f f [])->(∃ys,aZ (j4 e) args.toList=some ys/\nbA ys=xs)->rS g.n d=true->aF4 g K m e L o cf cf'->G g K m e L cf):Gs g s:=by
 cases s<;>simp only[cpS] at hs<;>cases hs
 ·exact fun fo args ats a1 a2 a3 a4 _ a6 a7=>h fo args ats a1 a2 a3 a4 a6 a7
 ·exact h
noncomputable section
variable {P:Program} {T:TT} {hT:H3 P T} {n:Nat} {c:Ctx} {B0:Bl} {N:Act->World->Prop} {X:Nat->Act->World->Prop} {Q:Act->World->Prop} {K K':List Fr} {m m':Nat} {e e':SE} {L L':List Ch} {cf cf1 cf2:wG} {o:Oper}
theorem cwk{α β ex:Type}{fo:Option α}{kf:α->Option β}{q:β}{d:Option Nat}{f:FuncId}{xs xs0:List SV}{cs0:List (List SV)}{M:List Ch}{sv:α->ex->SV}{cb:α->ex->List (List SV)}{Lr:α->ex->List Ch}(ps:PS)(is:List Nat)
  (hs:cpS (kI T n K cf m e L)=some (o,d,f,xs,cf1,cf2,K',m',e',L')) (hb:aJ1 L' ps=some cs0) (hi:aZ (fun i=>L'[i]?) is=some M) (hx:aZ (rnP ps 0) xs=some xs0)
  (hk:(JS M && (cs0.all (yY.okC 0) && (dQ (HM ps++is) && (HM ps++is).all fun j=>gC j cf1.yZ)))=true)
  (hn:∀x y,(aCB ps (cb x y) && ((cb x y).all (yY.okC 0) && (JS (Lr x y) && yY 0 (sv x y))))=true)
  (hc:∀{κ:Ctx},HG c κ L' (HM ps++is)->∀{Bs:Bl},Bs.length=ps.length->∀{x},fo=some x->FnS P f κ xs0 Bs (aQN 0 cs0++M) sv (fun x y=>aQN 0 (cb x y)++Lr x y) x)
  (hF:fo.bind kf=some q)
  (k:∀x,fo=some x->kf x=some q->∀y:ex,G (.mk P T hT n c B0 N X Q) K' m' (dse d (sv x y) e') (OS L' (KJ L' (HM ps++is)++Lr x y) ps (cb x y)) cf2):G (.mk P T hT n c B0 N X Q) K m e L cf:=by
 refine iD (g:=.mk P T hT n c B0 N X Q) (a3R hs ?_);intro fo' args ats ho hd hf ⟨ys,hys,hxs⟩ hdn hE;simp only[C8] at hk hn;obtain⟨hkM,hkc,hka,hkz⟩:=hk;cases hfo:fo with
 | none=>grind
 | some x =>
  rw[hfo] at hF;have hz2:((HM ps).all fun j=>gC j cf1.yZ)=true:=by grind
  refine hE ex (fun _=>m') (fun y=>dse d (sv x y) e') (fun y=>OS L' (KJ L' (HM ps++is)++Lr x y) ps (cb x y)) (fun y=>aS4 (T9 _ hkz) hz2) (fun B a w next Q' hm hA hS hnext=>?_) (k x hfo hF);generalize hBB:B0S (.mk P T hT n c B0 N X Q) cf1++B=BB at hm hA hS hnext;obtain⟨⟨R,s1,s2⟩,s0⟩:=hS;obtain⟨pv,hpv⟩:=a9P s1 hb;have hBs:(blP pv).length=ps.length:=by grind[blP,a3N]
  have hB0:∀i,(blP pv)[0+i]?=(blP pv)[i]?:=fun i=>by simp
  have f1:=s1.front (HM ps++is) hka;have f2:St c w ((pv.map PV.mid++M.map (lD BB))++(pv.flatMap PV.rest++blank (L'.map (lD BB)) (HM ps++is))) R:=by refine f1.via fun F h=>?_;rw[aCC,PA hi] at h;obtain⟨F1,F2,g1,g2,gd,gF⟩:=Sep.append.1 h;obtain⟨F3,F4,g3,g4,gd2,gF2⟩:=Sep.append.1 g1;have g5:=bDA (aX8 (F:=F) hpv g3);have g6:Sep w (((pv.map PV.mid++pv.flatMap PV.rest)++M.map (lD BB))++blank (L'.map (lD BB)) (HM ps++is)) F:=Sep.append.2 ⟨F1,F2,Sep.append.2 ⟨F3,F4,g5,g4,gd2,gF2⟩,g2,gd,gF⟩;refine Sep.perm ?_ g6;grind[List.Perm.append_left,List.Perm.append_right,List.perm_append_comm]
  obtain⟨κ,k1,k2,k3,k4,k5,k6,k7⟩:=f2.a9O s0;subst k1;have hHG:HG c κ L' (HM ps++is):=by
   refine⟨fun{α} _ {s d} h=>k4 (C9 [s.v d.length] d) h,fun{α} _ {s d} i hi hj=>?_,fun{α} _ {s d} i hi=>k5 _ (s2 _ (A6 hi))⟩;have:(blank (L'.map (lD BB)) (HM ps++is))[i]?=some (bL [s.v d.length] d):=by rw[aEK (aER hj),JN,hi];rfl
   exact k6 _ (aSD _ (A6 this)) (C9 [s.v d.length] d) fun w F h=>aJ.own_rd h
  obtain⟨hcall,hrun⟩:=hc hHG hBs hfo;obtain⟨vs,h1,h2⟩:=Z3 hA hys;obtain⟨v,h3,h4⟩:=fT hA hf;simp[fS,aZ] at h3;subst h3;have h1':aZ (fS BB) xs=some vs:=by grind[O8]
  have hst:nC κ κ.w0 (blP pv) (aQN 0 cs0++M):=by
   refine⟨⟨[],?_,fun x hx=>?_⟩,k2⟩
   ·rw[A5,XE (B':=BB) hkM];refine k3.via fun F h=>?_;grind[Sep.append,a3M]
   grind[aS2,XF]
  have h5:=hrun vs (aQO hpv hB0 hx h1') hst;have h6:=SG (w:=κ.w0) hcall ho h4 h2;unfold Oper.wp;rw[h6 _ a hA.env,Oper.upon_enter];refine Calls.mono h5 fun en w' ⟨v,hv,y,g1,g2⟩=>?_;subst hv;obtain⟨n1,n2,n3,n4⟩:=hn x y;have g3:=wH BB (aO0 n4 g1);rw[aSF] at g3;obtain⟨⟨R',t1,t2⟩,t0⟩:=g2;obtain⟨qs,q1,q2⟩:=aX9 (w:=w') hpv n1 n2 hB0 fun i cs hi=>t1.chunk (ch:=SD (blP pv) (0+i) cs) i (by
   rw[JN,aSC (by
    have:=(A4.1 (aJ3 (k:=0) hi)).1;exact this),aJ3 hi];rfl)
  obtain⟨e1,e2⟩:=aS0 q1;have t3:St κ w' (qs.map PV.mid++(Lr x y).map (lD BB)) R':=by refine t1.imp ?_;grind[XE,kM.append,kM.refl]
  have t4:=k7 w' _ R' t3;have t5:St c w' ((OS L' (KJ L' (HM ps++is)++Lr x y) ps (cb x y)).map (lD BB)) R:=by
   refine t4.via fun F h=>?_;refine a3O hpv q1 (fun i hi=>?_) (aYB hka) ?_
   ·grind[a3Q,aIS,a3P]
   ·rw[A5,IJ];have h7:Sep w' ((qs.map PV.mid++qs.flatMap PV.rest)++(blank (L'.map (lD BB)) (HM ps++is)++(Lr x y).map (lD BB))) F:=by rw[e1];refine Sep.perm ?_ h;grind[List.Perm.append_left,List.perm_append_comm]
    grind[Sep.append,bDB]
  have t6:nC c w' BB (OS L' (KJ L' (HM ps++is)++Lr x y) ps (cb x y)):=by
   refine⟨⟨R,t5,fun z hz=>?_⟩,s0⟩;rcases aS1 hz with hz | ⟨_,_,hz⟩
   ·rcases jB.1 hz with hz | hz
    ·rcases O9 _ _ hz with hz | hz
     ·grind
     ·subst hz;trivial
    grind[XF]
   ·subst hz;trivial
  rw[hd];cases d with
  | none=>exact hnext y _ _ ⟨[],by grind,by grind[dse,Act.put],by grind⟩
  | some d=>exact hnext y _ _ ⟨[],by grind,by simpa[dse] using hA.of g3 (hA.env.put (by grind[rS,wY]) v),by grind⟩
end
end Go.Gv
end
noncomputable section
namespace Go.Gv
noncomputable section
variable {P:Program} {T:TT} {hT:H3 P T} {n:Nat} {c:Ctx} {B0:Bl} {N:Act->World->Prop} {X:Nat->Act->World->Prop} {Q:Act->World->Prop} {K K':List Fr} {m m':Nat} {e e':SE} {L L' Lv:List Ch} {cf cf' cf1 cf2:wG} {o:Oper}
noncomputable section
variable {α β ex:Type} {fo:Option α} {kf:α->Option β} {q:β} {d:Option Nat} {f:FuncId} {xs xs0:List SV} {M:List Ch} {sv:α->ex->SV} {Lr:α->ex->List Ch}
theorem cw0(is:List Nat)
  (hs:cpS (kI T n K cf m e L)=some (o,d,f,xs,cf1,cf2,K',m',e',L')) (hi:aZ (fun i=>L'[i]?) is=some M) (hx:aZ (rnP [] 0) xs=some xs0)
  (hk:(JS M && (dQ is && is.all fun j=>gC j cf1.yZ))=true) (hn:∀x y,(JS (Lr x y) && yY 0 (sv x y))=true)
  (hc:∀{κ:Ctx},HG c κ L' is->∀{x},fo=some x->FnS P f κ xs0 [] M sv Lr x) (hF:fo.bind kf=some q)
  (k:∀x,fo=some x->kf x=some q->∀y:ex,G (.mk P T hT n c B0 N X Q) K' m' (dse d (sv x y) e') (KJ L' is++Lr x y) cf2):G (.mk P T hT n c B0 N X Q) K m e L cf:=
 cwk (cb:=fun _ _=>[]) (Lr:=Lr) [] is hs rfl hi hx (by grind[HM]) (fun x y=>by grind[aCB]) (fun{κ} h Bs hl x hx=>match Bs,hl with | [],_=>hc (by grind[HM]) hx) hF (fun x h1 h2 y=>by grind[OS,HM])
theorem cw1{c1:List SV}{a1:α->ex->List SV}(i1 n1 o1 k1:Nat)(is:List Nat)
  (hs:cpS (kI T n K cf m e L)=some (o,d,f,xs,cf1,cf2,K',m',e',L')) (hb:aJ1 L' [(i1,n1,o1,k1)]=some [c1]) (hi:aZ (fun i=>L'[i]?) is=some M) (hx:aZ (rnP [(i1,n1,o1,k1)] 0) xs=some xs0)
  (hk:(JS M && ([c1].all (yY.okC 0) && (dQ (i1 :: is) && (i1 :: is).all fun j=>gC j cf1.yZ)))=true) (hn:∀x y,(aCB [(i1,n1,o1,k1)] [a1 x y] && ([a1 x y].all (yY.okC 0) && (JS (Lr x y) && yY 0 (sv x y))))=true)
  (hc:∀{κ:Ctx},HG c κ L' (i1 :: is)->∀{b1:Nat×Nat} {x},fo=some x->FnS P f κ xs0 [b1] (.box 0 c1 :: M) sv (fun x y=>.box 0 (a1 x y) :: Lr x y) x) (hF:fo.bind kf=some q)
  (k:∀x,fo=some x->kf x=some q->∀y:ex,G (.mk P T hT n c B0 N X Q) K' m' (dse d (sv x y) e') (OS L' (KJ L' (i1 :: is)++Lr x y) [(i1,n1,o1,k1)] [a1 x y]) cf2):G (.mk P T hT n c B0 N X Q) K m e L cf:=
 cwk (cb:=fun x y=>[a1 x y]) (Lr:=Lr) [(i1,n1,o1,k1)] is hs hb hi hx hk hn (fun{κ} h Bs hl x hx=>match Bs,hl with | [b1],_=>hc h hx) hF k
theorem cw2{c1 c2:List SV}{a1 a2:α->ex->List SV}(i1 n1 o1 k1:Nat)(i2 n2 o2 k2:Nat)(is:List Nat)
  (hs:cpS (kI T n K cf m e L)=some (o,d,f,xs,cf1,cf2,K',m',e',L')) (hb:aJ1 L' [(i1,n1,o1,k1),(i2,n2,o2,k2)]=some [c1,c2]) (hi:aZ (fun i=>L'[i]?) is=some M) (hx:aZ (rnP [(i1,n1,o1,k1),(i2,n2,o2,k2)] 0) xs=some xs0)
  (hk:(JS M && ([c1,c2].all (yY.okC 0) && (dQ (i1 :: i2 :: is) && (i1 :: i2 :: is).all fun j=>gC j cf1.yZ)))=true) (hn:∀x y,(aCB [(i1,n1,o1,k1),(i2,n2,o2,k2)] [a1 x y,a2 x y] && ([a1 x y,a2 x y].all (yY.okC 0) && (JS (Lr x y) && yY 0 (sv x y))))=true)
  (hc:∀{κ:Ctx},HG c κ L' (i1 :: i2 :: is)->∀{b1 b2:Nat×Nat} {x},fo=some x->FnS P f κ xs0 [b1,b2] (.box 0 c1 :: .box 1 c2 :: M) sv (fun x y=>.box 0 (a1 x y) :: .box 1 (a2 x y) :: Lr x y) x) (hF:fo.bind kf=some q)
  (k:∀x,fo=some x->kf x=some q->∀y:ex,G (.mk P T hT n c B0 N X Q) K' m' (dse d (sv x y) e') (OS L' (KJ L' (i1 :: i2 :: is)++Lr x y) [(i1,n1,o1,k1),(i2,n2,o2,k2)] [a1 x y,a2 x y]) cf2):G (.mk P T hT n c B0 N X Q) K m e L cf:=
 cwk (cb:=fun x y=>[a1 x y,a2 x y]) (Lr:=Lr) [(i1,n1,o1,k1),(i2,n2,o2,k2)] is hs hb hi hx hk hn (fun{κ} h Bs hl x hx=>match Bs,hl with | [b1,b2],_=>hc h hx) hF k
theorem cw3{c1 c2 c3:List SV}{a1 a2 a3:α->ex->List SV}(i1 n1 o1 k1:Nat)(i2 n2 o2 k2:Nat)(i3 n3 o3 k3:Nat)(is:List Nat)
  (hs:cpS (kI T n K cf m e L)=some (o,d,f,xs,cf1,cf2,K',m',e',L')) (hb:aJ1 L' [(i1,n1,o1,k1),(i2,n2,o2,k2),(i3,n3,o3,k3)]=some [c1,c2,c3]) (hi:aZ (fun i=>L'[i]?) is=some M) (hx:aZ (rnP [(i1,n1,o1,k1),(i2,n2,o2,k2),(i3,n3,o3,k3)] 0) xs=some xs0)
  (hk:(JS M && ([c1,c2,c3].all (yY.okC 0) && (dQ (i1 :: i2 :: i3 :: is) && (i1 :: i2 :: i3 :: is).all fun j=>gC j cf1.yZ)))=true) (hn:∀x y,(aCB [(i1,n1,o1,k1),(i2,n2,o2,k2),(i3,n3,o3,k3)] [a1 x y,a2 x y,a3 x y] && ([a1 x y,a2 x y,a3 x y].all (yY.okC 0) && (JS (Lr x y) && yY 0 (sv x y))))=true)
  (hc:∀{κ:Ctx},HG c κ L' (i1 :: i2 :: i3 :: is)->∀{b1 b2 b3:Nat×Nat} {x},fo=some x->FnS P f κ xs0 [b1,b2,b3] (.box 0 c1 :: .box 1 c2 :: .box 2 c3 :: M) sv (fun x y=>.box 0 (a1 x y) :: .box 1 (a2 x y) :: .box 2 (a3 x y) :: Lr x y) x) (hF:fo.bind kf=some q)
  (k:∀x,fo=some x->kf x=some q->∀y:ex,G (.mk P T hT n c B0 N X Q) K' m' (dse d (sv x y) e') (OS L' (KJ L' (i1 :: i2 :: i3 :: is)++Lr x y) [(i1,n1,o1,k1),(i2,n2,o2,k2),(i3,n3,o3,k3)] [a1 x y,a2 x y,a3 x y]) cf2):G (.mk P T hT n c B0 N X Q) K m e L cf:=
 cwk (cb:=fun x y=>[a1 x y,a2 x y,a3 x y]) (Lr:=Lr) [(i1,n1,o1,k1),(i2,n2,o2,k2),(i3,n3,o3,k3)] is hs hb hi hx hk hn (fun{κ} h Bs hl x hx=>match Bs,hl with | [b1,b2,b3],_=>hc h hx) hF k
end
theorem a9R(s:AC)(n1 n2:Nat):RW (s.v n1)=RW (s.v n2):=by obtain⟨a,c⟩:=s;cases a<;>rfl
theorem a9S(s:AC)(q k n1 n2:Nat):QM q k (s.v n1)=QM q k (s.v n2):=by obtain⟨a,c⟩:=s;cases a<;>rfl
theorem ro{α β:Type}[aJ α](E:CO α)(j v nb:Nat){s:AC}{i:Int}{n0:Nat}{ls:List α}{kf:α->Option β}{q:β}(hs:XC (kI T n K cf m e L)=some (K',cf',m',e',L'))(hj:L'[j]?=some (ow s ls))(hv:L'[v]?=some (wOf α nb s n0 i.toNat))(hz:gC j cf'.yZ=true)(hF:(idx ls i).bind kf=some q)
  (k:∀x,idx ls i=some x->kf x=some q->∀y:E.ex,G (.mk P T hT n c B0 N X Q) K' m' e' (L'.set j .no++([.o (rR (s.v ls.length) ls i.toNat),.box nb (E.cs x y),wOf α nb s ls.length i.toNat]++E.Lx x y)) cf'):G (.mk P T hT n c B0 N X Q) K m e L cf:=by
 refine go hs ?_;cases hi:idx ls i with
 | none=>grind
 | some x =>
  rw[hi] at hF;refine chg (fun _=>m') (fun _=>e') (fun y:E.ex=>L'.set j .no++([.o (rR (s.v ls.length) ls i.toNat),.box nb (E.cs x y),wOf α nb s ls.length i.toNat]++E.Lx x y)) (fun B a w hm hA hS=>?_) (fun y=>aQL hz) (fun y=>k x hi hF y);obtain⟨⟨R,s1,s2⟩,s0⟩:=hS;have hB:B[nb]?=some (RW (s.v ls.length),QM (aJ.n α) i.toNat (s.v ls.length)):=by rw[a9R s ls.length n0,a9S s _ _ ls.length n0];exact s2 _ (A6 hv)
  have hj2:(L'.map (lD B))[j]?=some (bL [s.v ls.length] ls):=by simp[hj,lD]
  obtain⟨ec,h1⟩:=s1.open j hj2 (mC hi).2.2;have hlen:((L'.map (lD B)).set j K9).length=L'.length:=by simp
  obtain⟨F,hF'⟩:=h1.chunk (L'.length+2) (by rw[aOK (by omega)];simp;rfl);obtain⟨y,hy2⟩:=E.op (show aJ.own w ec x F from hF');have h2:=h1.unpack (L'.length+2) (by simp) (E.pk hy2);have hset:((L'.map (lD B)).set j K9 ++ [rR (s.v ls.length) ls i.toNat,WU (RW (s.v ls.length)) (QM (aJ.n α) i.toNat (s.v ls.length)) ec,bL ec x]).set (L'.length+2) K9=(L'.map (lD B)).set j K9 ++ [rR (s.v ls.length) ls i.toNat,WU (RW (s.v ls.length)) (QM (aJ.n α) i.toNat (s.v ls.length)) ec,K9]:=by simp
  rw[hset] at h2;refine⟨y,[],by grind,by grind,⟨⟨R,?_,fun z hz=>?_⟩,s0⟩⟩
  ·have e1:(L'.set j Ch.no).map (lD B)=(L'.map (lD B)).set j K9:=by rw[RY];rfl
   refine h2.imp ?_;rw[EJ,A5,A5,<-e1,M4];refine kM.append (kM.refl _) (kM.append (.cons (fun _ h=>h) (.cons (fun F h=>⟨_,_,ec,hB,eZ (fun x v h=>by simpa using gL (B:=[]) B h) hy2,h⟩) (.cons (fun _ h=>h) .nil))) ?_);rw[E.nb x y B];exact kM.refl _
  ·rw[EJ];rcases jB.1 hz with hz | hz
   ·rcases oC hz with hz | hz
    ·grind
    ·subst hz;trivial
   ·rcases jB.1 hz with hz | hz
    ·simp at hz;rcases hz with rfl | rfl | rfl
     ·trivial
     ·trivial
     ·exact hB
    ·exact aQJ (E.no x y) z hz
theorem bx(i:Nat){nb:Nat}{cs:List SV}(hs:XC (kI T n K cf m e L)=some (K',cf',m',e',L'))(hb:L'[i]?=some (.box nb cs))(hz:gC i cf'.yZ=true)(k:G (.mk P T hT n c B0 N X Q) K' m' e' (L'.set i (.box nb (nbL cs))) cf'):G (.mk P T hT n c B0 N X Q) K m e L cf:=by
 refine go hs (chg (fun _:Unit=>m') (fun _=>e') (fun _=>L'.set i (.box nb (nbL cs))) (fun B a w hm hA hS=>?_) (fun _=>ND hz) (fun _=>k));obtain⟨⟨R,s1,s2⟩,s0⟩:=hS;have e1:(L'.set i (.box nb (nbL cs))).map (lD B)=L'.map (lD B):=by
  obtain⟨hl,he⟩:=A4.1 hb;rw[RY];have:lD B (.box nb (nbL cs))=(L'.map (lD B))[i]'(by grind):=by grind[lD,SD,T8]
  grind[aJB]
 refine⟨(),[],by grind,by grind,⟨⟨R,?_,fun z hz=>?_⟩,s0⟩⟩
 ·grind
 ·rw[EJ];rcases oC hz with hz | hz
  ·grind
  ·subst hz;trivial
theorem nw(α:Type)[aJ α](hs:XC (kI T n K cf m e L)=some (K',cf',m',e',L'))
  (k:G (.mk P T hT n c B0 N X Q) K' m' e' (L' ++ [ow ⟨none,0⟩ ([]:List α)]) cf'):G (.mk P T hT n c B0 N X Q) K m e L cf:=by
 refine go hs ?_;refine chg (fun _:Unit=>m') (fun _=>e') (fun _=>L' ++ [ow ⟨none,0⟩ ([]:List α)]) (fun B a w hm hA hS=>?_) (fun _=>wI _) (fun _=>k);obtain⟨⟨R,s1,s2⟩,s0⟩:=hS;refine⟨(),[],by grind,by grind,⟨⟨R,?_,fun z hz=>?_⟩,s0⟩⟩
 ·rw[EJ,A5];exact St.more s1 (eT.refl _ _) ⟨F0,⟨none,0,rfl,kX _,lL _,.inl ⟨rfl,rfl,fun _ _ h=>h⟩⟩,fun _ _ h=>h.elim⟩
 ·rw[EJ];rcases jB.1 hz with hz | hz
  ·grind
  ·simp at hz;subst hz;trivial
theorem tE{Z:Act->World->Prop}(α:Type)[aJ α](kk:∀a w,pX n c B0 m e (L ++ [ow ⟨none,0⟩ ([]:List α)]) a w->Z a w):∀a w,pX n c B0 m e L a w->Z a w:=by
 intro a w ⟨B,hm,hA,hS⟩;refine kk a w ⟨B,hm,hA,?_⟩;obtain⟨⟨R,s1,s2⟩,s0⟩:=hS;refine⟨⟨R,?_,fun z hz=>?_⟩,s0⟩
 ·rw[A5];exact St.more s1 (eT.refl _ _) ⟨F0,⟨none,0,rfl,kX _,lL _,.inl ⟨rfl,rfl,fun _ _ h=>h⟩⟩,fun _ _ h=>h.elim⟩
 ·rcases jB.1 hz with hz | hz
  ·grind
  ·simp at hz;subst hz;trivial
end
end Go.Gv
end
noncomputable section
namespace Go.Gv
def AC.sub(s:AC)(n a:Nat):AC:=⟨if s.c=a then s.a else s.a.map (·.add (a*n)),s.c - a⟩
theorem D4{α:Type}{l:List α}{s:AC}{n a b k:Nat}(h1:a<=b)(h2:b<=l.length):i4 n a b (s.v k)=(s.sub n a).v ((l.take b).drop a).length:=by rw[tN h1 h2];rfl
noncomputable section
variable {P:Program} {T:TT} {hT:H3 P T} {n:Nat} {c:Ctx} {B0:Bl} {N:Act->World->Prop} {X:Nat->Act->World->Prop} {Q:Act->World->Prop} {K K':List Fr} {m m':Nat} {e e':SE} {L L' Lv:List Ch} {cf cf' cf1 cf2:wG} {o:Oper} {d:Nat}
theorem cpc{α:Type}[aJ α](j:Nat){s:AC}{l:List α}(hs:XC (kI T n K cf m e L)=some (K',cf',m',e',L'))(hj:L'[j]?=some (ow s l))(k:l.length<=s.c->G (.mk P T hT n c B0 N X Q) K' m' e' L' cf'):G (.mk P T hT n c B0 N X Q) K m e L cf:=by refine go hs ?_;refine chg (fun _:PLift (l.length<=s.c)=>m') (fun _=>e') (fun _=>L') (fun B a w hm hA hS=>?_) (fun _=>by simpa using wI (L:=L') []) (fun h=>k h.down);obtain⟨⟨R,s1,s2⟩,s0⟩:=hS;obtain⟨F,hF⟩:=s1.chunk (ch:=bL [s.v l.length] l) j (by simp[hj,lD]);obtain⟨ad,cp,h1,h2⟩:=MY (show aJ.own w [s.v l.length] l F from hF);simp only[AC.v,Value.slice.injEq] at h1;exact⟨⟨by omega⟩,[],by grind,by grind,⟨⟨R,by grind,by grind⟩,s0⟩⟩
theorem aYC{α:Type}[aJ α]{s:AC}{l:List α}(h:cJ c s l):l.length<=s.c:=by obtain⟨ad,cp,h1,h2,_⟩:=(show tL c.S0 c.w0 [s.v l.length] l from h);grind
noncomputable section
variable {x y z u:Operand} {t el sz:Nat} {k1 k2 k3:IntKind} {i j p:Int} {α β:Type} [aJ α] {A:Option β} {q:β} {s:AC} {l:List α} {b1 b2:Bool} {n1:Nat} {z1 z2:List SV} {kt:TK}
theorem aM9(hc:l.length<=s.c)(hs:opS (kI T n K cf m e L)=some (o,Lv,cf1,cf2,K',m',e',L'))(ho:(o.op,o.dst)=(.slice t x (some y) none none,some d))(ht:D3 T t=some ⟨.sl el,b1,n1,z1⟩)(he:D3 T el=some ⟨kt,b2,sz,z2⟩)(hx:j4 e' x=some (.h s l.length))(hy:(j4 e' y).bind wB=some (k1,i))(hF:need (0<=i/\i<=(l.length:Int)) A=some q)
  (kk:A=some q->(i.toNat<=l.length/\l.length<=l.length)->G (.mk P T hT n c B0 N X Q) K' m' ((d,.h (s.sub sz i.toNat) ((l.take l.length).drop i.toNat).length) :: e') L' cf2):G (.mk P T hT n c B0 N X Q) K m e L cf:=by
 have hop:o.op=.slice t x (some y) none none:=eA Prod.fst ho;have hb:=(kG hF).1;have hb2:i.toNat<=l.length/\l.length<=l.length:=by omega
 refine pu hs (eA Prod.snd ho) (fun B a w hA hS=>⟨i4 sz i.toNat l.length (s.v l.length),by grind[D4,fS,gV,bT],fun _ a hA'=>?_⟩) (kk (kG hF).2 hb2);obtain⟨h0,h1⟩:=hb;have h5:max i 0=i:=by omega
 simp[execOp,hop,Instr.sliceAt,Instr.slice,run_underlying (KI ht hT),Instr.sliceBounds,hA'.eval (hdB hA hx),hA'.eval (A7 hA hy),Instr.sliceBound,asIntOf,hT.size _ _ he,h0,h1,hc,h5,i4]
theorem aJ4(hc:l.length<=s.c)(hs:opS (kI T n K cf m e L)=some (o,Lv,cf1,cf2,K',m',e',L'))(ho:(o.op,o.dst)=(.slice t x none (some z) none,some d))(ht:D3 T t=some ⟨.sl el,b1,n1,z1⟩)(he:D3 T el=some ⟨kt,b2,sz,z2⟩)(hx:j4 e' x=some (.h s l.length))(hz:(j4 e' z).bind wB=some (k2,j))(hF:need (0<=j/\j<=(l.length:Int)) A=some q)
  (kk:A=some q->(0<=j.toNat/\j.toNat<=l.length)->G (.mk P T hT n c B0 N X Q) K' m' ((d,.h (s.sub sz 0) ((l.take j.toNat).drop 0).length) :: e') L' cf2):G (.mk P T hT n c B0 N X Q) K m e L cf:=by
 have hop:o.op=.slice t x none (some z) none:=eA Prod.fst ho;have hb:=(kG hF).1;have hb2:0<=j.toNat/\j.toNat<=l.length:=by omega
 refine pu hs (eA Prod.snd ho) (fun B a w hA hS=>⟨i4 sz 0 j.toNat (s.v l.length),by grind[D4,fS,gV,bT],fun _ a hA'=>?_⟩) (kk (kG hF).2 hb2);obtain⟨h0,h1⟩:=hb;have h3:j<=(s.c:Int):=by omega
 have h5:max j 0=j:=by omega
 simp[execOp,hop,Instr.sliceAt,Instr.slice,run_underlying (KI ht hT),Instr.sliceBounds,hA'.eval (hdB hA hx),hA'.eval (A7 hA hz),Instr.sliceBound,asIntOf,hT.size _ _ he,h0,h3,h5,i4]
theorem bDC(hc:l.length<=s.c)(hs:opS (kI T n K cf m e L)=some (o,Lv,cf1,cf2,K',m',e',L'))(ho:(o.op,o.dst)=(.slice t x none (some z) (some u),some d))(ht:D3 T t=some ⟨.sl el,b1,n1,z1⟩)(he:D3 T el=some ⟨kt,b2,sz,z2⟩)(hx:j4 e' x=some (.h s l.length))(hz:(j4 e' z).bind wB=some (k2,j))(hu:(j4 e' u).bind wB=some (k3,p))(hF:need (0<=j/\j<=p/\p<=(l.length:Int)) A=some q)
  (kk:A=some q->(0<=j.toNat/\j.toNat<=p.toNat/\p.toNat<=l.length)->G (.mk P T hT n c B0 N X Q) K' m' ((d,.h ⟨(s.sub sz 0).a,p.toNat⟩ ((l.take j.toNat).drop 0).length) :: e') L' cf2):G (.mk P T hT n c B0 N X Q) K m e L cf:=by
 have hop:o.op=.slice t x none (some z) (some u):=eA Prod.fst ho;have hb:=(kG hF).1;have hb2:0<=j.toNat/\j.toNat<=p.toNat/\p.toNat<=l.length:=by omega
 have hl:=tN (l:=l) (a:=0) (b:=j.toNat) (by omega) (by omega);refine pu hs (eA Prod.snd ho) (fun B a w hA hS=>⟨AC.v ⟨(s.sub sz 0).a,p.toNat⟩ ((l.take j.toNat).drop 0).length,by simp[fS,gV,bT],fun _ a hA'=>?_⟩) (kk (kG hF).2 hb2);obtain⟨h0,h1,h2⟩:=hb;have h3:p<=(s.c:Int):=by omega
 have h4:0<=p:=by omega
 have h5:max j 0=j:=by omega
 have h6:max p 0=p:=by omega
 rw[hl];have hadd:s.a.map (fun x=>x.add 0)=s.a:=by simp[Addr.add]
 by_cases hp:p=0
 ·subst hp;simp[execOp,hop,Instr.sliceAt,Instr.slice,run_underlying (KI ht hT),Instr.sliceBounds,hA'.eval (hdB hA hx),hA'.eval (A7 hA hz),hA'.eval (A7 hA hu),Instr.sliceBound,asIntOf,hT.size _ _ he,h0,h1,h3,h4,h5,h6,AC.sub,hadd]
 ·simp[execOp,hop,Instr.sliceAt,Instr.slice,run_underlying (KI ht hT),Instr.sliceBounds,hA'.eval (hdB hA hx),hA'.eval (A7 hA hz),hA'.eval (A7 hA hu),Instr.sliceBound,asIntOf,hT.size _ _ he,h0,h1,h3,h4,h5,h6,AC.sub,hadd]
end
end
end Go.Gv
end
noncomputable section
namespace Go.Gv
noncomputable section
variable {P:Program} {T:TT} {hT:H3 P T} {n:Nat} {c:Ctx} {B0:Bl} {N:Act->World->Prop} {X:Nat->Act->World->Prop} {Q:Act->World->Prop} {K K':List Fr} {m m':Nat} {e e':SE} {L L' Lv:List Ch} {cf cf' cf1 cf2:wG} {o:Oper} {d:Nat}
theorem a9T{α:Type}[aJ α]{B:Bl}{w:World}{R:List Fact}{j a b sz:Nat}{s s':AC}{l l':List α}(hn:aJ.n α=sz)(hj:L[j]?=some (ow s l))(hb:a<=b/\b<=l.length)(hl:(l.take b).drop a=l')(hs:∀w F,aJ.own w [s.v l.length] l F->∃F',aJ.own w [s'.v l'.length] l' F'/\∀b o,F' b o->F b o)(hS:nC c w B L):nC c w B (L.set j (ow s' l')):=by
 obtain⟨⟨R,s1,s2⟩,s0⟩:=hS;refine⟨⟨R,?_,fun z hz=>?_⟩,s0⟩
 ·rw[RY];refine s1.aB1 j (by rw[JN,hj];rfl) fun F hF=>?_;obtain⟨F',h1,h2⟩:=hs w F hF;exact⟨F',F0,eT.refl _ _,fun _ _ h=>h.elim,h1,fun b o h=>.inl (h2 b o h)⟩
 ·rcases oC hz with hz | hz
  ·grind
  ·subst hz;trivial
theorem a3S{α:Type}[aJ α]{s:AC}{l l':List α}{sz a b:Nat}(hn:aJ.n α=sz)(hb:a<=b/\b<=l.length)(hl:(l.take b).drop a=l'):∀w F,aJ.own w [s.v l.length] l F->∃F',aJ.own w [(s.sub sz a).v l'.length] l' F'/\∀b o,F' b o->F b o:=by intro w F h;obtain⟨F',h1,h2⟩:=aXK hn h hb.1 hb.2;grind[D4]
theorem a3T{α:Type}[aJ α]{s:AC}{l l':List α}{sz b p:Nat}(hn:aJ.n α=sz)(hb:0<=b/\b<=p/\p<=l.length)(hl:(l.take b).drop 0=l'):∀w F,aJ.own w [s.v l.length] l F->∃F',aJ.own w [AC.v ⟨(s.sub sz 0).a,p⟩ l'.length] l' F'/\∀b o,F' b o->F b o:=by
 intro w F h;obtain⟨F',h1,h2⟩:=a2A hn h hb.1 hb.2.1 hb.2.2;have hadd:s.a.map (fun x=>x.add 0)=s.a:=by simp[Addr.add]
 have hln:=tN (l:=l) (a:=0) (b:=b) (by omega) (by omega);rw[hl] at hln h1;refine⟨F',?_,h2⟩;simp_all[a66,AC.sub]
theorem poR{Z:Act->World->Prop}{α:Type}[aJ α](j a b:Nat){sz:Nat}{s:AC}{l l':List α}(hn:aJ.n α=sz)(hj:L[j]?=some (ow s l))(hb:a<=b/\b<=l.length)(hl:(l.take b).drop a=l')
  (kk:∀a' w,pX n c B0 m e (L.set j (ow (s.sub sz a) l')) a' w->Z a' w):∀a' w,pX n c B0 m e L a' w->Z a' w:=by
 intro a' w ⟨B,hm,hA,hS⟩;exact kk a' w ⟨B,hm,hA,a9T (R:=[]) hn hj hb hl (a3S hn hb hl) hS⟩
theorem pmR{Z:Act->World->Prop}{α:Type}[aJ α](j b p:Nat){sz:Nat}{s:AC}{l l':List α}(hn:aJ.n α=sz)(hj:L[j]?=some (ow s l))(hb:0<=b/\b<=p/\p<=l.length)(hl:(l.take b).drop 0=l')
  (kk:∀a' w,pX n c B0 m e (L.set j (ow ⟨(s.sub sz 0).a,p⟩ l')) a' w->Z a' w):∀a' w,pX n c B0 m e L a' w->Z a' w:=by
 intro a' w ⟨B,hm,hA,hS⟩;exact kk a' w ⟨B,hm,hA,a9T (R:=[]) hn hj ⟨by omega,by omega⟩ hl (a3T hn hb hl) hS⟩
theorem aQP{α:Type}{l xs:List α}{k a n:Nat}(h:k<=n/\n<=l.length)(ha:a<=l.length):k<=n/\n<=(dC l a xs).length:=⟨h.1,by grind[eY]⟩
theorem aIT{α:Type}{l xs:List α}{k a:Nat}(h:k<=a)(ha:a<=l.length):((dC l a xs).take k).drop 0=(l.take k).drop 0:=by grind[dC]
def AC.a7T(s:AC)(n a p:Nat):AC:=⟨if p=a then s.a else s.a.map (·.add (a*n)),p - a⟩
noncomputable section
variable {x y z:Operand} {t el sz:Nat} {zv:Value} {k1 k2:IntKind} {i j:Int} {α β:Type} [aJ α] {A:Option β} {q:β} {s:AC} {l:List α} {b1 b2:Bool} {n1:Nat} {z1 z2:List SV} {kt:TK}
theorem ap2[Flat α](p a b:Nat)(hb:a<=b/\b<=l.length)(hs:kI T n K cf m e L=.op o Lv cf1 cf2 K' m' e' L')(ho:(o.op,o.dst)=(.call {callee:=.builtin .append,args:=#[x,y],argTypes:=#[t,t]},some d))(ht:D3 T t=some ⟨.sl el,b1,n1,z1⟩)(he:D3 T el=some ⟨kt,b2,sz,z2⟩)(hn:aJ.n α=sz)(hp:L'[p]?=some (ow s l))(hz:gC p cf1.yZ=true)(hx:j4 e' x=some (.h (s.sub sz 0) ((l.take a).drop 0).length))(hy:j4 e' y=some (.h (s.sub sz b) ((l.take l.length).drop b).length))
  (k:(0<=a+(l.length - b)/\a+(l.length - b)<=(dC l a (l.drop b)).length)->G (.mk P T hT n c B0 N X Q) K' m' ((d,.h (s.sub sz 0) (((dC l a (l.drop b)).take (a+(l.length - b))).drop 0).length) :: e') (L'.set p (ow s (dC l a (l.drop b)))) cf2):G (.mk P T hT n c B0 N X Q) K m e L cf:=by
 have hlen:(dC l a (l.drop b)).length=l.length:=eY (by omega);have hk:0<=a+(l.length - b)/\a+(l.length - b)<=(dC l a (l.drop b)).length:=by omega
 refine iD (g:=.mk P T hT n c B0 N X Q) ?_;rw[hs];intro hdn _ hE;refine hE Unit (fun _=>m') (fun _=>(d,.h (s.sub sz 0) (((dC l a (l.drop b)).take (a+(l.length - b))).drop 0).length) :: e') (fun _=>L'.set p (ow s (dC l a (l.drop b)))) (fun _=>ND hz) (fun B act w next Q' hm hA hS hnext=>?_) (fun _=>k hk);obtain⟨⟨R,s1,s2⟩,s0⟩:=hS;have hx2:ev (vE (B0S (.mk P T hT n c B0 N X Q) cf1++B) e') x=some (i4 sz 0 a (s.v l.length)):=by rw[hdB hA hx,D4 (lL a) (tG hb.1 hb.2)]
 have hy2:ev (vE (B0S (.mk P T hT n c B0 N X Q) cf1++B) e') y=some (i4 sz b l.length (s.v l.length)):=by rw[hdB hA hy,D4 hb.2 (kX _)]
 have hop:o.op=.call {callee:=.builtin .append,args:=#[x,y],argTypes:=#[t,t]}:=eA Prod.fst ho;have hd:o.dst=some d:=eA Prod.snd ho;obtain⟨v,w',k1,rfl,k2⟩:=aVF p s1 (by rw[JN,hp];rfl) hn hb.1 hb.2 (KI ht hT) (hT.size _ _ he) hop hx2 hy2;unfold Oper.wp;rw[k1 _ act hA.env,Oper.upon_value,hd];have hv:fS (B0S (.mk P T hT n c B0 N X Q) cf1++B) (.h (s.sub sz 0) (((dC l a (l.drop b)).take (a+(l.length - b))).drop 0).length)=some (i4 sz 0 (a+(l.length - b)) (s.v l.length)):=by grind[D4,fS,gV,bT]
 refine hnext () _ _ ⟨[],by grind,by simpa using hA.of hv (hA.env.put (by grind[rS,wY]) _),?_⟩;rw[EJ];refine⟨⟨R,?_,fun z hz=>?_⟩,s0⟩
 ·rw[RY];show St c w' ((L'.map _).set p (bL [s.v (dC l a (l.drop b)).length] _)) R;grind
 ·rcases oC hz with hz | hz
  ·grind
  ·subst hz;trivial
theorem aYD(p k':Nat)(hk:k'<=l.length){l0:List α}(h0:l0.length=k')(hs:opS (kI T n K cf m e L)=some (o,Lv,cf1,cf2,K',m',e',L'))(ho:(o.op,o.dst)=(.slice t x (some y) (some z) none,some d))(ht:D3 T t=some ⟨.sl el,b1,n1,z1⟩)(he:D3 T el=some ⟨kt,b2,sz,z2⟩)(hn:aJ.n α=sz)(hp:Lv[p]?=some (ow s l))(hx:j4 e' x=some (.h (s.sub sz 0) l0.length))(hy:(j4 e' y).bind wB=some (k1,i))(hz:(j4 e' z).bind wB=some (k2,j))(hF:need (0<=i/\i<=j/\j<=(l.length:Int)) A=some q)
  (kk:A=some q->(i.toNat<=j.toNat/\j.toNat<=l.length)->G (.mk P T hT n c B0 N X Q) K' m' ((d,.h (s.sub sz i.toNat) ((l.take j.toNat).drop i.toNat).length) :: e') L' cf2):G (.mk P T hT n c B0 N X Q) K m e L cf:=by
 have hop:o.op=.slice t x (some y) (some z) none:=eA Prod.fst ho;have hb:=(kG hF).1;have hb2:i.toNat<=j.toNat/\j.toNat<=l.length:=by omega
 refine pu hs (eA Prod.snd ho) (fun B a w hA hS=>⟨i4 sz i.toNat j.toNat (s.v l.length),by grind[D4,fS,gV,bT],?_⟩) (kk (kG hF).2 hb2);obtain⟨⟨R,s1,s2⟩,s0⟩:=hS;have hx2:ev (vE B e') x=some (i4 sz 0 k' (s.v l.length)):=by rw[hdB hA hx,h0];rfl
 exact aVG p s1 (by rw[JN,hp];rfl) hn (KI ht hT) (hT.size _ _ he) hb hop hx2 (A7 hA hy) (A7 hA hz)
theorem clr[Flat α](p a b:Nat)(zd:α)(hb:a<=b/\b<=l.length)(hinf:T3 P el sz zv)(hzs:zv.cells.size=sz)(hzd:∀w,aJ.rd F0 w zv.cells.toList zd)(hone:(zv.cells.toList.all fun v=>v.oneCell')=true)(hs:kI T n K cf m e L=.op o Lv cf1 cf2 K' m' e' L')(ho:(o.op,o.dst)=(.call {callee:=.builtin .clear,args:=#[x],argTypes:=#[t]},none))(ht:D3 T t=some ⟨.sl el,b1,n1,z1⟩)(hn:aJ.n α=sz)(hp:L'[p]?=some (ow s l))(hz:gC p cf1.yZ=true)(hx:j4 e' x=some (.h (s.sub sz a) ((l.take b).drop a).length))
  (k:G (.mk P T hT n c B0 N X Q) K' m' e' (L'.set p (ow s (dC l a (List.replicate (b - a) zd)))) cf2):G (.mk P T hT n c B0 N X Q) K m e L cf:=by
 have hlen:(dC l a (List.replicate (b - a) zd)).length=l.length:=eY (by omega);refine iD (g:=.mk P T hT n c B0 N X Q) ?_;rw[hs];intro hdn _ hE;refine hE Unit (fun _=>m') (fun _=>e') (fun _=>L'.set p (ow s (dC l a (List.replicate (b - a) zd)))) (fun _=>ND hz) (fun B act w next Q' hm hA hS hnext=>?_) (fun _=>k);obtain⟨⟨R,s1,s2⟩,s0⟩:=hS;have hx2:ev (vE (B0S (.mk P T hT n c B0 N X Q) cf1++B) e') x=some (i4 sz a b (s.v l.length)):=by grind[hdB,D4]
 have hop:o.op=.call {callee:=.builtin .clear,args:=#[x],argTypes:=#[t]}:=eA Prod.fst ho;have hd:o.dst=none:=eA Prod.snd ho;obtain⟨v,w',k1,rfl,k2⟩:=a2F zd p s1 (by rw[JN,hp];rfl) hn hb.1 hb.2 (KI ht hT) hinf hzs hzd (fun v hv=>aM6.1 hone v hv) hop hx2;unfold Oper.wp;rw[k1 _ act hA.env,Oper.upon_value,hd];refine hnext () _ _ ⟨[],by grind,by grind[Act.put],?_⟩;rw[EJ];refine⟨⟨R,?_,fun z hz=>?_⟩,s0⟩
 ·rw[RY];show St c w' ((L'.map _).set p (bL [s.v (dC l a (List.replicate (b - a) zd)).length] _)) R;grind
 ·rcases oC hz with hz | hz
  ·grind
  ·subst hz;trivial
theorem aQQ{u:Operand}{k3:IntKind}{pz:Int}(hc:l.length<=s.c)(hs:opS (kI T n K cf m e L)=some (o,Lv,cf1,cf2,K',m',e',L'))(ho:(o.op,o.dst)=(.slice t x (some y) (some z) (some u),some d))(ht:D3 T t=some ⟨.sl el,b1,n1,z1⟩)(he:D3 T el=some ⟨kt,b2,sz,z2⟩)(hx:j4 e' x=some (.h s l.length))(hy:(j4 e' y).bind wB=some (k1,i))(hz:(j4 e' z).bind wB=some (k2,j))(hu:(j4 e' u).bind wB=some (k3,pz))(hF:need (0<=i/\i<=j/\j<=pz/\pz<=(l.length:Int)) A=some q)
  (kk:A=some q->(i.toNat<=j.toNat/\j.toNat<=pz.toNat/\pz.toNat<=l.length)->G (.mk P T hT n c B0 N X Q) K' m' ((d,.h (s.a7T sz i.toNat pz.toNat) ((l.take j.toNat).drop i.toNat).length) :: e') L' cf2):G (.mk P T hT n c B0 N X Q) K m e L cf:=by
 have hop:o.op=.slice t x (some y) (some z) (some u):=eA Prod.fst ho;have hb:=(kG hF).1;have hb2:i.toNat<=j.toNat/\j.toNat<=pz.toNat/\pz.toNat<=l.length:=by omega
 have hl:=tN (l:=l) (a:=i.toNat) (b:=j.toNat) (by omega) (by omega);refine pu hs (eA Prod.snd ho) (fun B a w hA hS=>⟨AC.v (s.a7T sz i.toNat pz.toNat) ((l.take j.toNat).drop i.toNat).length,by simp[fS,gV,bT],fun _ a hA'=>?_⟩) (kk (kG hF).2 hb2);obtain⟨h0,h1,h2,h2'⟩:=hb;have h3:pz<=(s.c:Int):=by omega
 have h4:0<=pz:=by omega
 have h4':0<=j:=by omega
 have h5:max j 0=j:=by omega
 have h6:max pz 0=pz:=by omega
 have h7:max i 0=i:=by omega
 rw[hl];by_cases hp:pz.toNat=i.toNat
 ·have:pz=i:=by omega
  subst this;simp[execOp,hop,Instr.sliceAt,Instr.slice,run_underlying (KI ht hT),Instr.sliceBounds,hA'.eval (hdB hA hx),hA'.eval (A7 hA hy),hA'.eval (A7 hA hz),hA'.eval (A7 hA hu),Instr.sliceBound,asIntOf,hT.size _ _ he,h0,h1,h2,h3,h4,h4',h5,h6,h7,AC.a7T]
 ·have hp2:¬pz=i:=fun h=>hp (by rw[h]);simp[execOp,hop,Instr.sliceAt,Instr.slice,run_underlying (KI ht hT),Instr.sliceBounds,hA'.eval (hdB hA hx),hA'.eval (A7 hA hy),hA'.eval (A7 hA hz),hA'.eval (A7 hA hu),Instr.sliceBound,asIntOf,hT.size _ _ he,h0,h1,h2,h3,h4,h4',h5,h6,h7,hp,hp2,AC.a7T]
theorem bE2{t2:Nat}(hs:opS (kI T n K cf m e L)=some (o,Lv,cf1,cf2,K',m',e',L'))(ho:(o.op,o.dst)=(.binOp .shl t x y t2,some d))(hx:(j4 e' x).bind wB=some (k1,i))(hy:(j4 e' y).bind wB=some (k2,j))(hF:need (0<=j) A=some q)
  (kk:A=some q->G (.mk P T hT n c B0 N X Q) K' m' ((d,.i k1 (aJF k1 i j)) :: e') L' cf2):G (.mk P T hT n c B0 N X Q) K m e L cf:=
 pu hs (eA Prod.snd ho) (fun B a w hA _=>⟨_,rfl,a1D (eA Prod.fst ho) (A7 hA hx) (A7 hA hy) (by grind[kG])⟩) (kk (kG hF).2)
theorem eqn{t2:Nat}{ln:Nat}(hs:opS (kI T n K cf m e L)=some (o,Lv,cf1,cf2,K',m',e',L'))(ho:(o.op,o.dst)=(.binOp .eql t x (.const (.slice none 0 0)) t2,some d))(ht:D3 T t=some ⟨.sl el,b1,n1,z1⟩)(hx:j4 e' x=some (.h s ln))
  (kt:s.a=none->G (.mk P T hT n c B0 N X Q) K' m' ((d,.l true) :: e') L' cf2) (kf:G (.mk P T hT n c B0 N X Q) K' m' ((d,.l false) :: e') L' cf2):G (.mk P T hT n c B0 N X Q) K m e L cf:=by
 cases hs':s.a with
 | none=>exact pu hs (eA Prod.snd ho) (fun B a w hA _=>⟨_,rfl,aVC (KI ht hT) ⟨ln,s.c,by grind⟩ (eA Prod.fst ho) (hdB hA hx) rfl⟩) (kt hs')
 | some ad=>exact pu hs (eA Prod.snd ho) (fun B a w hA _=>⟨_,rfl,aVD (KI ht hT) ⟨ad,ln,s.c,by grind⟩ (eA Prod.fst ho) (hdB hA hx) rfl⟩) kf
theorem cln{w:Ctx}{r:List α}(h:cJ w s l)(hn:s.a=none)(hF:need (([]:List α).length+l.length<=1073741824) (some (([]:List α)++l))=some r):some ([]:List α)=some r:=by obtain⟨ad,cp,h1,h2,h3,h4⟩:=(show tL w.S0 w.w0 [s.v l.length] l from h);grind[need]
end
noncomputable section
variable {x y:Operand} {t el sz:Nat} {zv:Value} {b1:Bool} {n1:Nat} {z1:List SV}
theorem OT{α:Type}[aJ α](E:CO α)(is:List Nat)(q:α)(ye:E.ex)(hinf:T3 P el sz zv)(hs:kI T n K cf m e L=.op o Lv cf1 cf2 K' m' e' L')(ho:(o.op,o.dst)=(.buildSlice t 1 #[(0,x)],some d))(ht:D3 T t=some ⟨.sl el,b1,n1,z1⟩)(hn:aJ.n α=sz)(hm:Nat.ble 1 sz=true)(hm2:Nat.ble sz 16777216=true)(hx:(j4 e' x).map (fun v=>nbL (qP v))=some (E.cs q ye))(hxc:(j4 e' x).map isCells=some true)(hle:(E.cs q ye).length=sz)(hec:(aZ (bT []) (E.cs q ye)).isSome=true)(hi:aZ (fun i=>L'[i]?) is=some (E.Lx q ye))(ha:dQ is=true)(hz:(is.all fun j=>gC j cf1.yZ)=true)
  (k:∀s':AC,G (.mk P T hT n c B0 N X Q) K' m' ((d,.h s' [q].length) :: e') (KJ L' is ++ [ow s' [q]]) cf2):G (.mk P T hT n c B0 N X Q) K m e L cf:=by
 obtain⟨ec,hec⟩:=aJC.1 hec;refine aVP (l:=[q]) (fun s'=>KJ L' is ++ [ow s' [q]]) hs (eA Prod.snd ho) (fun _=>T9 _ hz) (fun B a w hA hS=>?_) k;obtain⟨⟨R,s1,s2⟩,s0⟩:=hS;have hecl:ec.length=sz:=by grind[mD]
 cases hxv:j4 e' x with
 | none=>grind
 | some xv =>
  rw[hxv] at hx hxc;simp at hx hxc;obtain⟨v,v1,v2⟩:=fT hA hxv;have hcell:aZ (bT B) (qP xv)=some ec:=by rw[<-T8,hx];exact eZ (fun x v h=>by simpa using gL (B:=[]) B h) hec
  have hvc:v.cells.toList=ec:=SF v1 hcell;have p1:=s1.shift is ha (A':=[bL ec q]) fun F hF=>by rw[PA hi,E.nb] at hF;exact Sep.one.2 ((E.pk hec w F).2 hF)
  have hlen:(blank (L'.map (lD B)) is).length=L'.length:=by rw[<-IJ];simp[aIS]
  obtain⟨v',w',k1,k2⟩:=a6W (e:=vE B e') (o:=o) (ps:=[(0,x)]) (vs:=[v]) (cells:=ec) [q] p1 [L'.length] rfl ⟨[],by
    simp only[pick,aOK (RZ hlen),hlen,Nat.sub_self];grind,by grind,⟨by grind,rfl⟩⟩ hn (KI ht hT) hinf rfl hm (by grind) (eA Prod.fst ho) (by simp[evs,v2]) (aJP (vs:=[v]) (ps:=[(0,x)]) rfl rfl (by grind) (by simp[hvc]))
  have hb2:blank (blank (L'.map (lD B)) is ++ [bL ec q]) [L'.length]=blank (L'.map (lD B)) is ++ [K9]:=by simp_all[blank]
  rw[hb2] at k2;obtain⟨s',rfl⟩:=aEQ (v:=v') (l:=[q]) k2 (L'.length+1) (by grind);refine⟨s',w',k1,⟨⟨R,?_,fun z hz=>?_⟩,s0⟩⟩
  ·have k3:=k2.R7 ((List.range L'.length) ++ [L'.length+1]) ?_
   ·refine k3.imp ?_;rw[A5,IJ,aCC];refine kM.append ?_ ?_
    ·have:pick (blank (L'.map (lD B)) is ++ [K9] ++ [bL [s'.v [q].length] [q]]) (List.range L'.length)=blank (L'.map (lD B)) is:=by
      have gen:∀(M M':List Chunk) (j:Nat),pick (M++M') ((List.range j))=(M++M').take j\/¬j<=(M++M').length:=by
       intro M M' j;by_cases hj:j<=(M++M').length
       ·left;induction j with
        | zero=>rfl
        | succ j ih =>
         grind[List.range_succ,aCC,pick,List.take_add_one]
       omega
      grind
     grind[kM.refl]
    simp_all[pick,lD,kM.refl]
   ·have gen:∀(j:Nat),dQ (List.range' j (L'.length - j) ++ [L'.length+1])=true:=by
     intro j;generalize hk:L'.length - j=k;induction k generalizing j with
     | zero=>rfl
     | succ k ih =>
      rw[List.range'_succ,ZY];simp only[dQ,C8,aM6,Bool.not_eq_true'];grind[qY]
    have:=gen 0;simp_all[List.range_eq_range']
  ·rcases jB.1 hz with hz | hz
   ·rcases O9 _ _ hz with hz | hz
    ·grind
    ·subst hz;trivial
   ·simp at hz;subst hz;trivial
theorem apN{α β:Type}[aJ α]{A:Option β}{q:β}{s s2:AC}{l xs:List α}(i j:Nat)(hinf:T3 P el sz zv)(hs:kI T n K cf m e L=.op o Lv cf1 cf2 K' m' e' L')(ho:(o.op,o.dst)=(.call {callee:=.builtin .append,args:=#[x,y],argTypes:=#[t,t]},some d))(ht:D3 T t=some ⟨.sl el,b1,n1,z1⟩)(hn:aJ.n α=sz)(hzs:zv.cells.size=sz)(hi:L'[i]?=some (ow s l))(hj:L'[j]?=some (ow s2 xs))(ha:dQ [i,j]=true)(hz:([i,j].all fun j=>gC j cf1.yZ)=true)(hx:j4 e' x=some (.h s l.length))(hy:j4 e' y=some (.h s2 xs.length))(hF:need (l.length+xs.length<=1073741824) A=some q)
  (k:A=some q->∀s':AC,G (.mk P T hT n c B0 N X Q) K' m' ((d,.h s' (l++xs).length) :: e') (KJ L' [i,j] ++ [ow s' (l++xs)]) cf2):G (.mk P T hT n c B0 N X Q) K m e L cf:=by
 refine aVP (l:=l++xs) (fun s'=>KJ L' [i,j] ++ [ow s' (l++xs)]) hs (eA Prod.snd ho) (fun _=>T9 _ hz) (fun B a w hA hS=>?_) (k (kG hF).2);obtain⟨⟨R,s1,s2'⟩,s0⟩:=hS;have hp:pick (L'.map (lD B)) [i,j]=[bL [s.v l.length] l,bL [s2.v xs.length] xs]:=by grind[pick,lD]
 obtain⟨v,w',k1,k2⟩:=a6X [i,j] s1 ha hp hn (KI ht hT) hinf hzs (kG hF).1 (eA Prod.fst ho) (hdB hA hx) (hdB hA hy);have hlen:(blank (L'.map (lD B)) [i,j]).length=L'.length:=by rw[<-IJ];simp[aIS]
 obtain⟨s',rfl⟩:=aEQ k2 L'.length (by rw[aOK (RZ hlen),hlen,Nat.sub_self];rfl);refine⟨s',w',k1,⟨⟨R,?_,fun z hz=>?_⟩,s0⟩⟩
 ·rw[A5,IJ];exact k2
 ·rcases jB.1 hz with hz | hz
  ·rcases O9 _ _ hz with hz | hz
   ·grind
   ·subst hz;trivial
  ·simp at hz;subst hz;trivial
end
theorem kb{b cb:Bool}(ss:List Nat)(hb:b=cb)(hs:XC (kI T n K cf m e L)=some (K',cf',m',e',L'))(ho:aZ (EK e') ss=some (ss.map fun _=>SV.b b))(k:G (.mk P T hT n c B0 N X Q) K' m' (ovr cb e' ss) L' cf'):G (.mk P T hT n c B0 N X Q) K m e L cf:=
 go hs (aJZ (fun a B hA=>ZD hb ss ho hA) k)
def rhE(v:SV)(e:SE):List (Nat×Nat)->SE
 | []=>e
 | (k, j) :: r => match EK e k with
  | some (.g cs)=>(k,.g (ovw cs j [v])) :: rhE v e r
  | some (.t cs)=>(k,.t (ovw cs j [v])) :: rhE v e r
  | _=>rhE v e r
def rhL(v:SV)(L:List Ch):List (Nat×Nat)->List Ch
 | []=>L
 | (k, j) :: r => match L[k]? with
  | some (.box n cs)=>rhL v (L.set k (.box n (ovw cs j [v]))) r
  | _=>rhL v L r
theorem aIU{B:Bl}{f:Bl->SV->Option Value}{u v:SV}(huv:∀B,f B u=f B v):∀{cs:List SV} {j:Nat},cs[j]?=some u->aZ (f B) (ovw cs j [v])=aZ (f B) cs
 | [],j,h=>by simp at h
 | x :: cs, 0, h => by grind[aZ,ovw,aQC]
 | x :: cs, j + 1, h => by show aZ (f B) (x :: ovw cs j [v])=_;simp only[aZ,aIU (B:=B) huv (show cs[j]?=some u by grind)]
theorem a3U{s:AC}{n0 n1:Nat}(hn:n0=n1){B:Bl}:∀{ps:List (Nat×Nat)} {k:Nat} {x:SV},(∀p∈ps,∃cs,(EK e p.1=some (.g cs)\/EK e p.1=some (.t cs))/\cs[p.2]?=some (.h s n0))->EK (rhE (.h s n1) e ps) k=some x->∃y,EK e k=some y/\fS B x=fS B y
 | [],k,x,_,h=>⟨x,h,rfl⟩
 | (k', j) :: r, k, x, hp, h => by
  have ih:=fun h=>a3U hn (B:=B) (ps:=r) (k:=k) (x:=x) (fun p hp'=>hp p (AE _ hp')) h;obtain⟨cs,h1,h2⟩:=hp (k',j) (by simp);have hc:∀B,bT B (.h s n0)=bT B (.h s n1):=fun B=>by rw[hn]
  have hg:∀B,gV B (.h s n0)=gV B (.h s n1):=fun B=>by rw[hn]
  rcases h1 with h1 | h1
  ·simp only[rhE,h1,EK] at h;split at h
   ·rename_i hb;cases h;have:=qY hb;subst this;exact⟨_,h1,by simp only[fS,gV,aIU (f:=bT) hc h2]⟩
   grind
  ·simp only[rhE,h1,EK] at h;split at h
   ·rename_i hb;cases h;have:=qY hb;subst this;exact⟨_,h1,by simp only[fS,aIU (f:=gV) hg h2]⟩
   grind
theorem aYF{s:AC}{n0 n1:Nat}(hn:n0=n1){B:Bl}{w:World}{R:List Fact}:∀{ps:List (Nat×Nat)} {L:List Ch},(∀p∈ps,∃k cs,L[p.1]?=some (.box k cs)/\cs[p.2]?=some (.h s n0))->dQ (ps.map (·.1))=true->kM w (L.map (lD B)) ((rhL (.h s n1) L ps).map (lD B))/\((∀x∈L,roF B R x)->∀x∈rhL (.h s n1) L ps,roF B R x)
 | [],L,_,_=>⟨kM.refl _,fun h=>h⟩
 | (i, j) :: r, L, hp, ha => by
  obtain⟨k,cs,h1,h2⟩:=hp (i,j) (by simp);have hc:∀B,bT B (.h s n0)=bT B (.h s n1):=fun B=>by rw[hn]
  simp only[Z0,dQ,C8] at ha;have ih:=aYF hn (B:=B) (w:=w) (R:=R) (ps:=r) (L:=L.set i (.box k (ovw cs j [.h s n1]))) (fun p hp'=>by
   obtain⟨k',cs',h3,h4⟩:=hp p (AE _ hp');have hne:i≠p.1:=fun he=>by have:=aM6.1 ha.1 p.1 (List.mem_map_of_mem hp');simp_all
   exact⟨k',cs',by grind,h4⟩) ha.2
  simp only[rhL,h1];refine⟨?_,fun h=>ih.2 fun x hx=>?_⟩
  ·have h5:kM w (L.map (lD B)) ((L.set i (.box k (ovw cs j [.h s n1]))).map (lD B)):=by rw[RY];exact kM.put (a:=SD B k cs) (b:=SD B k (ovw cs j [.h s n1])) i (by rw[JN,h1];rfl) fun F ⟨b,z,vs,q1,q2,q3⟩=>⟨b,z,vs,q1,by rw[aIU (f:=bT) hc h2];exact q2,q3⟩
   have tr:∀{A B C:List Chunk},kM w A B->kM w B C->kM w A C:=by
    intro A B C h1;induction h1 generalizing C with
    | nil=>simp
    | cons h t ih=>intro h2;cases h2 with | cons h' t'=>exact .cons (fun F hF=>h' F (h F hF)) (ih t')
   grind
  ·rcases oC hx with hx | hx
   ·exact h x hx
   ·subst hx;trivial
def atE(e:SE)(p:Nat×Nat):Option SV:=match EK e p.1 with
 | some (.g cs)=>cs[p.2]?
 | some (.t cs)=>cs[p.2]?
 | _=>none
def atL(L:List Ch)(p:Nat×Nat):Option SV:=match L[p.1]? with
 | some (.box _ cs)=>cs[p.2]?
 | _=>none
theorem aYG{B:Bl}{a:Act}{w:World}(s:AC){n0 n1:Nat}(hn:n0=n1){ps qs:List (Nat×Nat)}(hp:aZ (atE e) ps=some (ps.map fun _=>.h s n0))(hq:aZ (atL L) qs=some (qs.map fun _=>.h s n0))(ha:dQ (qs.map (·.1))=true)(hA:hY n B e a)(hS:nC c w B L):hY n B (rhE (.h s n1) e ps) a/\nC c w B (rhL (.h s n1) L qs):=by
 have key:∀{γ:Type} {f:γ->Option SV} {ps:List γ},aZ f ps=some (ps.map fun _=>.h s n0)->∀p∈ps,f p=some (.h s n0):=by
  intro γ f ps;induction ps with
  | nil=>simp
  | cons q ps ih =>
   grind[aZ]
 refine⟨⟨hA.d,hA.size,fun k x hk=>?_⟩,?_⟩
 ·obtain⟨y,h1,h2⟩:=a3U hn (B:=B) (fun p hp'=>by
   have:=key hp p hp';unfold atE at this;grind) hk
  obtain⟨v,h3,h4⟩:=hA.get k y h1;grind
 ·obtain⟨⟨R,s1,s2⟩,s0⟩:=hS;obtain⟨h1,h2⟩:=aYF hn (B:=B) (w:=w) (R:=R) (L:=L) (fun p hp'=>by
   have:=key hq p hp';unfold atL at this;split at this
   ·rename_i k cs hc;exact⟨k,cs,hc,this⟩
   grind) ha
  exact⟨⟨R,s1.imp h1,h2 s2⟩,s0⟩
theorem aCD{g:Gx}{cf:wG}{v:SV}:∀{qs:List (Nat×Nat)} {L M:List Ch},Frz g cf L M->((qs.map (·.1)).all fun j=>gC j cf.yZ)=true->Frz g cf L (rhL v M qs)
 | [],L,M,h,_=>h
 | (i, j) :: r, L, M, h, hz => by
  simp only[Z0,aM5,C8] at hz;simp only[rhL];split
  ·exact aCD (qs:=r) (aS3 h hz.1) hz.2
  ·exact aCD (qs:=r) h hz.2
theorem rh(s:AC){n0 n1:Nat}(hn:n0=n1)(ps qs:List (Nat×Nat))(hp:aZ (atE e) ps=some (ps.map fun _=>.h s n0))(hq:aZ (atL L) qs=some (qs.map fun _=>.h s n0))(ha:(dQ (qs.map (·.1)) && (qs.map (·.1)).all fun j=>gC j cf.yZ)=true)
  (k:G (.mk P T hT n c B0 N X Q) K m (rhE (.h s n1) e ps) (rhL (.h s n1) L qs) cf):G (.mk P T hT n c B0 N X Q) K m e L cf:=by
 rw[C8] at ha;refine chg (fun _:Unit=>m) (fun _=>rhE (.h s n1) e ps) (fun _=>rhL (.h s n1) L qs) (fun B a w hm hA hS=>?_) (fun _=>aCD (by simpa using wI (L:=L) []) ha.2) (fun _=>k);obtain⟨h1,h2⟩:=aYG s hn hp hq ha.1 hA hS;simp_all
theorem jJ{Z:Act->World->Prop}(s:AC){n0 n1:Nat}(hn:n0=n1)(ps qs:List (Nat×Nat))(hp:aZ (atE e) ps=some (ps.map fun _=>.h s n0))(hq:aZ (atL L) qs=some (qs.map fun _=>.h s n0))(ha:dQ (qs.map (·.1))=true)
  (kk:∀a w,pX n c B0 m (rhE (.h s n1) e ps) (rhL (.h s n1) L qs) a w->Z a w):∀a w,pX n c B0 m e L a w->Z a w:=by
 intro a w ⟨B,hm,hA,hS⟩;obtain⟨h1,h2⟩:=aYG s hn hp hq ha hA hS;exact kk a w ⟨B,hm,h1,h2⟩
end
end Go.Gv
end
noncomputable section
namespace Go.Gv
noncomputable section
variable {P:Program} {T:TT} {hT:H3 P T} {n:Nat} {c:Ctx} {B0:Bl} {N:Act->World->Prop} {X:Nat->Act->World->Prop} {Q:Act->World->Prop} {K K':List Fr} {m m':Nat} {e e':SE} {L L' Lv:List Ch} {cf cf' cf1 cf2:wG} {o:Oper} {d:Nat}
noncomputable section
variable {x:Operand} {t t2 el sz:Nat} {b1 b2 b3:Bool} {n1 n2 n3:Nat} {z1 z2 z3:List SV}
theorem qbo(p:Nat){s:AC}{l:List UInt8}(hs:opS (kI T n K cf m e L)=some (o,Lv,cf1,cf2,K',m',e',L'))(ho:(o.op,o.dst)=(.convert t t2 x,some d))(ht:D3 T t=some ⟨.sl el,b1,n1,z1⟩)(he:D3 T el=some ⟨.i .u8,b2,n2,z2⟩)(h2:D3 T t2=some ⟨.s,b3,n3,z3⟩)(hp:Lv[p]?=some (ow s l))(hx:j4 e' x=some (.h s l.length))
  (kk:G (.mk P T hT n c B0 N X Q) K' m' ((d,.s l) :: e') L' cf2):G (.mk P T hT n c B0 N X Q) K m e L cf:=by
 refine pu hs (eA Prod.snd ho) (fun B a w hA hS=>⟨_,rfl,?_⟩) kk;obtain⟨⟨R,s1,s2⟩,s0⟩:=hS;have hr:=s1.aXD (cs:=[s.v l.length]) (d:=l) p (by simp[hp,lD]);obtain⟨de,q1,q2⟩:=hT.und _ _ he;exact bAL hr (KI ht hT) (by grind) (bC8 h2 hT) (eA Prod.fst ho) (hdB hA hx)
theorem a7U{α:Type}[aJ α](E:CO α){q:α}{y:E.ex}{ec:List Value}(h:aZ (bT []) (E.cs q y)=some ec)(hL:E.Lx q y=[])(w:World):aJ.rd F0 w ec q:=by have:=(E.pk h w F0).2 (by rw[hL];exact fun _ _ h=>h);grind[aJ.own_rd]
theorem lits{α:Type}[aJ α](E:CO α)(y:E.ex){sz:Nat}{B:Bl}{a:Act}(hA:hY n B e a)(hL:∀q,E.Lx q y=[]):∀{ps:List (Nat×Operand)} {qs:List α},aZ (fun p=>(j4 e p.2).map fun v=>nbL (qP v)) ps=some (qs.map fun q=>E.cs q y)->(qs.all fun q=>Nat.beq (E.cs q y).length sz && (aZ (bT []) (E.cs q y)).isSome)=true ->
  ∃vs cells,evs (vE B e) (ps.map (·.2))=some vs/\vs.length=ps.length/\(vs.all fun v=>v.cells.size == sz)=true/\(vs.flatMap fun v=>v.cells.toList)=cells/\aOQ sz cells qs
 | [],[],_,_=>⟨[],[],rfl,rfl,rfl,rfl,rfl⟩
 | [],q :: qs,h,_=>by cases h
 | p :: ps, [], h, _ => by grind[aZ]
 | p :: ps, q :: qs, h, hc => by
  simp only[aZ,Z0] at h;split at h
  ·cases h
  ·rename_i c0 h1;split at h
   ·cases h
   ·rename_i cs h2;simp only[Option.some.injEq,List.cons.injEq] at h;obtain⟨rfl,rfl⟩:=h;simp only[aM5,C8] at hc;obtain⟨⟨hl,hsome⟩,hc⟩:=hc;obtain⟨vs,cells,g1,g2,g3,g4,g5⟩:=lits E y hA hL h2 (by simpa using hc);obtain⟨ec,hec⟩:=aJC.1 hsome;cases hxv:j4 e p.2 with
    | none=>rw[hxv] at h1;cases h1
    | some xv =>
     rw[hxv] at h1;simp at h1;obtain⟨v,v1,v2⟩:=fT hA hxv;have hcell:aZ (bT B) (qP xv)=some ec:=by rw[<-T8,h1];exact eZ (fun x v h=>by simpa using gL (B:=[]) B h) hec
     have hvc:v.cells.toList=ec:=SF v1 hcell;have hecl:ec.length=sz:=by rw[mD hec];exact qY hl
     refine⟨v :: vs,ec++cells,by simp[evs,v2,g1],by simp[g2],?_,by simp[hvc,g4],?_,?_⟩
     ·rw[aM5,g3,<-Array.length_toList,hvc,hecl];simp
     ·rw[List.take_append_of_le_length (RZ hecl.symm),<-hecl,List.take_length];exact a7U E hec (hL q) _
     ·rw[List.drop_append_of_le_length (RZ hecl.symm),<-hecl,List.drop_length,aSF,hecl];exact g5
theorem ltK{α:Type}[aJ α][Flat α](E:CO α)(y:E.ex)(qs:List α){len:Nat}{ps:List (Nat×Operand)}{zv:Value}(hinf:T3 P el sz zv)(hs:kI T n K cf m e L=.op o Lv cf1 cf2 K' m' e' L')(ho:(o.op,o.dst)=(.buildSlice t len ⟨ps⟩,some d))(ht:D3 T t=some ⟨.sl el,b1,n1,z1⟩)(hn:aJ.n α=sz)(hl:qs.length=len)(hm:Nat.ble 1 sz=true)(hsm:Nat.ble (len*sz) 16777216=true)(hix:ps.map (·.1)=List.range' 0 len)(hev:aZ (fun p=>(j4 e' p.2).map fun v=>nbL (qP v)) ps=some (qs.map fun q=>E.cs q y))(hec:(qs.all fun q=>Nat.beq (E.cs q y).length sz && (aZ (bT []) (E.cs q y)).isSome)=true)(hL:∀q,E.Lx q y=[])
  (k:∀s':AC,G (.mk P T hT n c B0 N X Q) K' m' ((d,.h s' qs.length) :: e') (L' ++ [ow s' qs]) cf2):G (.mk P T hT n c B0 N X Q) K m e L cf:=by
 refine aVP (l:=qs) (fun s'=>L' ++ [ow s' qs]) hs (eA Prod.snd ho) (fun _=>wI _) (fun B a w hA hS=>?_) k;obtain⟨⟨R,s1,s2⟩,s0⟩:=hS;obtain⟨vs,cells,g1,g2,g3,g4,g5⟩:=lits E y (sz:=sz) hA hL hev hec;have hpl:ps.length=len:=by have:=eA List.length hix;grind
 obtain⟨v,w',k1,k2⟩:=aVA (e:=vE B e') (o:=o) (ps:=ps) (vs:=vs) (cells:=cells) qs s1 hn (KI ht hT) hinf hl hm hsm g5 (eA Prod.fst ho) g1 (aJP hix (by rw[g2,hpl]) g3 g4);obtain⟨s',rfl⟩:=aEQ (v:=v) (l:=qs) k2 (L'.map (lD B)).length (by simp);refine⟨s',w',k1,⟨⟨R,by grind[lD],fun z hz=>?_⟩,s0⟩⟩;rcases jB.1 hz with hz | hz
 ·grind
 ·simp at hz;subst hz;trivial
end
end
end Go.Gv
end
noncomputable section
namespace Go.Gv
theorem bDE{P:Program}{f:FuncId}{κ:Ctx}{xs:List SV}{ρ:Type}{sv:ρ->SV}{r:ρ}(hcall:∀args w,(callFunc f args).run P w=.ok (.enter f args) w)
  (H:(∀f:Fact,f.P κ.S0 κ.w0->f.P (R1 κ.w0) κ.w0)->∀vs,aZ (fS []) xs=some vs->Calls P f vs.toArray κ.w0 (Ret fun v w'=>fS [] (sv r)=some v/\St (cL κ.w0) w' [] [])):Fn0 P f κ xs sv r:=
 ⟨hcall,fun vs hv hS=>Calls.mono (H (fun f hf=>f.mono hf fun b o hb=>hS.s0 b o hb) vs hv) fun en w' ⟨v,h1,h2,h3⟩=>⟨v,h1,(),h2,hS.a3A h3.keep⟩⟩
noncomputable section
variable {P:Program} {T:TT} {hT:H3 P T} {n:Nat} {c:Ctx} {B0:Bl} {N:Act->World->Prop} {X:Nat->Act->World->Prop} {Q:Act->World->Prop} {K K':List Fr} {m m':Nat} {e e':SE} {L L' Lv:List Ch} {cf cf' cf1 cf2:wG} {o:Oper} {d:Nat}
theorem un{α:Type}[aJ α](j:Nat)(ks:List Nat)(ps qs:List (Nat×Nat)){s:AC}{n0:Nat}{l:List α}(hj:L[j]?=some (.o (bL [s.v n0] l)))(hz:gC j cf.yZ=true)(hk:aZ (EK e) ks=some (ks.map fun _=>.h s n0))(hp:aZ (atE (ovh (.h s l.length) e ks)) ps=some (ps.map fun _=>.h s n0))(hq:aZ (atL (L.set j (ow s l))) qs=some (qs.map fun _=>.h s n0))(ha:(dQ (qs.map (·.1)) && (qs.map (·.1)).all fun j=>gC j cf.yZ)=true)
  (k:l.length=n0->G (.mk P T hT n c B0 N X Q) K m (rhE (.h s l.length) (ovh (.h s l.length) e ks) ps) (rhL (.h s l.length) (L.set j (ow s l)) qs) cf):G (.mk P T hT n c B0 N X Q) K m e L cf:=by
 rw[C8] at ha;refine chg (fun _:PLift (l.length=n0)=>m) (fun _=>rhE (.h s l.length) (ovh (.h s l.length) e ks) ps) (fun _=>rhL (.h s l.length) (L.set j (ow s l)) qs) (fun B a w hm hA hS=>?_) (fun _=>aCD (ND hz) ha.2) (fun h=>k h.down);have hn:l.length=n0:=by obtain⟨⟨R,s1,s2⟩,s0⟩:=hS;obtain⟨F,hF⟩:=s1.chunk (ch:=bL [s.v n0] l) j (by simp[hj,lD]);obtain⟨ad,cp,h1,h2⟩:=MY (show aJ.own w [s.v n0] l F from hF);grind
 subst hn;have hS':nC c w B (L.set j (ow s l)):=by grind[aJB]
 obtain⟨h1,h2⟩:=aYG s rfl hp hq ha.1 (aQM ks hk hA) hS';exact⟨⟨rfl⟩,[],by grind,by grind,by grind⟩
theorem rr(s:AC){n0 n1:Nat}(hn:n0=n1)(ks:List Nat)(ps qs:List (Nat×Nat))(hk:aZ (EK e) ks=some (ks.map fun _=>.h s n0))(hp:aZ (atE (ovh (.h s n1) e ks)) ps=some (ps.map fun _=>.h s n0))(hq:aZ (atL L) qs=some (qs.map fun _=>.h s n0))(ha:(dQ (qs.map (·.1)) && (qs.map (·.1)).all fun j=>gC j cf.yZ)=true)
  (k:G (.mk P T hT n c B0 N X Q) K m (rhE (.h s n1) (ovh (.h s n1) e ks) ps) (rhL (.h s n1) L qs) cf):G (.mk P T hT n c B0 N X Q) K m e L cf:=by
 rw[C8] at ha;subst hn;refine chg (fun _:Unit=>m) (fun _=>rhE (.h s n0) (ovh (.h s n0) e ks) ps) (fun _=>rhL (.h s n0) L qs) (fun B a w hm hA hS=>?_) (fun _=>aCD (by simpa using wI (L:=L) []) ha.2) (fun _=>k);obtain⟨h1,h2⟩:=aYG s rfl hp hq ha.1 (aQM ks hk hA) hS;simp_all
theorem cpy{d:Option Nat}{x y:Operand}{t t2 el sz:Nat}{α:Type}[aJ α][Flat α]{s s2:AC}{l xs:List α}{b1 b2:Bool}{n1:Nat}{z1 z2:List SV}{kt:TK}(p a:Nat)(hb:a<=l.length/\l.length<=l.length)(hsrc:∀{w},HS c w L'->cJ (cL w) s2 xs)(hs:kI T n K cf m e L=.op o Lv cf1 cf2 K' m' e' L')(ho:(o.op,o.dst)=(.call {callee:=.builtin .copy,args:=#[x,y],argTypes:=#[t,t2]},d))(ht:D3 T t=some ⟨.sl el,b1,n1,z1⟩)(he:D3 T el=some ⟨kt,b2,sz,z2⟩)(hn:aJ.n α=sz)(hp:(L'[p]?,gC p cf1.yZ)=(some (ow s l),true))(hx:j4 e' x=some (.h (s.sub sz a) ((l.take l.length).drop a).length))(hy:j4 e' y=some (.h s2 xs.length))
  (k:G (.mk P T hT n c B0 N X Q) K' m' (dse d (.i .i64 ((min xs.length (l.length - a):Nat):Int)) e') (L'.set p (ow s (dC l a xs))) cf2):G (.mk P T hT n c B0 N X Q) K m e L cf:=by
 have hp1:L'[p]?=some (ow s l):=eA Prod.fst hp;have hz:gC p cf1.yZ=true:=eA Prod.snd hp;have hlen:(dC l a xs).length=l.length:=eY hb.1;refine iD (g:=.mk P T hT n c B0 N X Q) ?_;rw[hs];intro hdn _ hE;refine hE Unit (fun _=>m') (fun _=>dse d (.i .i64 ((min xs.length (l.length - a):Nat):Int)) e') (fun _=>L'.set p (ow s (dC l a xs))) (fun _=>ND hz) (fun B act w next Q' hm hA hS hnext=>?_) (fun _=>k);have hr:cJ (cL w) s2 xs:=hsrc ⟨_,hS⟩;obtain⟨⟨R,s1,s2'⟩,s0⟩:=hS;have hx2:ev (vE (B0S (.mk P T hT n c B0 N X Q) cf1++B) e') x=some (i4 sz a l.length (s.v l.length)):=by grind[hdB,D4]
 have hop:o.op=.call {callee:=.builtin .copy,args:=#[x,y],argTypes:=#[t,t2]}:=eA Prod.fst ho;have hd:o.dst=d:=eA Prod.snd ho;obtain⟨v,w',k1,rfl,k2⟩:=aXN p s1 (by rw[JN,hp1];rfl) hr hn hb.1 (KI ht hT) (hT.size _ _ he) hop hx2 (hdB hA hy);unfold Oper.wp;rw[k1 _ act hA.env,Oper.upon_value,hd];have hS2:nC c w' (B0S (.mk P T hT n c B0 N X Q) cf1++B) (L'.set p (ow s (dC l a xs))):=by
  refine⟨⟨R,?_,fun z hz=>?_⟩,s0⟩
  ·rw[RY];show St c w' ((L'.map _).set p (bL [s.v (dC l a xs).length] _)) R;grind
  ·rcases oC hz with hz | hz
   ·grind
   ·subst hz;trivial
 cases d with
 | none=>exact hnext () _ _ ⟨[],by grind,by grind[Act.put,dse],by grind⟩
 | some d=>exact hnext () _ _ ⟨[],by grind,by simpa[dse] using hA.of (by simp[fS,gV,bT]) (hA.env.put (by grind[rS,wY]) _),by grind⟩
theorem cp0{d:Option Nat}{x y:Operand}{t t2 el sz:Nat}{α:Type}[aJ α][Flat α]{s s2:AC}{l xs:List α}{b1 b2:Bool}{n1:Nat}{z1 z2:List SV}{kt:TK}(p:Nat)(hsrc:∀{w},HS c w L'->cJ (cL w) s2 xs)(hs:kI T n K cf m e L=.op o Lv cf1 cf2 K' m' e' L')(ho:(o.op,o.dst)=(.call {callee:=.builtin .copy,args:=#[x,y],argTypes:=#[t,t2]},d))(ht:D3 T t=some ⟨.sl el,b1,n1,z1⟩)(he:D3 T el=some ⟨kt,b2,sz,z2⟩)(hn:aJ.n α=sz)(hp:(L'[p]?,gC p cf1.yZ)=(some (ow s l),true))(hx:j4 e' x=some (.h s l.length))(hy:j4 e' y=some (.h s2 xs.length))
  (k:G (.mk P T hT n c B0 N X Q) K' m' (dse d (.i .i64 ((min xs.length (l.length - 0):Nat):Int)) e') (L'.set p (ow s (dC l 0 xs))) cf2):G (.mk P T hT n c B0 N X Q) K m e L cf:=by
 have hp1:L'[p]?=some (ow s l):=eA Prod.fst hp;have hz:gC p cf1.yZ=true:=eA Prod.snd hp;have hlen:(dC l 0 xs).length=l.length:=eY (lL _);refine iD (g:=.mk P T hT n c B0 N X Q) ?_;rw[hs];intro hdn _ hE;refine hE Unit (fun _=>m') (fun _=>dse d (.i .i64 ((min xs.length (l.length - 0):Nat):Int)) e') (fun _=>L'.set p (ow s (dC l 0 xs))) (fun _=>ND hz) (fun B act w next Q' hm hA hS hnext=>?_) (fun _=>k);have hr:cJ (cL w) s2 xs:=hsrc ⟨_,hS⟩;obtain⟨⟨R,s1,s2'⟩,s0⟩:=hS;have hop:o.op=.call {callee:=.builtin .copy,args:=#[x,y],argTypes:=#[t,t2]}:=eA Prod.fst ho;have hd:o.dst=d:=eA Prod.snd ho;obtain⟨v,w',k1,rfl,k2⟩:=a2C p s1 (by rw[JN,hp1];rfl) hr hn (KI ht hT) (hT.size _ _ he) hop (hdB hA hx) (hdB hA hy);unfold Oper.wp;rw[k1 _ act hA.env,Oper.upon_value,hd];have hS2:nC c w' (B0S (.mk P T hT n c B0 N X Q) cf1++B) (L'.set p (ow s (dC l 0 xs))):=by
  refine⟨⟨R,?_,fun z hz=>?_⟩,s0⟩
  ·rw[RY];show St c w' ((L'.map _).set p (bL [s.v (dC l 0 xs).length] _)) R;grind
  ·rcases oC hz with hz | hz
   ·grind
   ·subst hz;trivial
 cases d with
 | none=>exact hnext () _ _ ⟨[],by grind,by grind[Act.put,dse],by grind⟩
 | some d=>exact hnext () _ _ ⟨[],by grind,by simpa[dse] using hA.of (by simp[fS,gV,bT]) (hA.env.put (by grind[rS,wY]) _),by grind⟩
theorem fR{Z:Act->World->Prop}{e1:SE}{L1:List Ch}(h1:aZH e=some e1)(h2:aZI L=some L1)(kk:∀a w,pX n c B0 m e1 L1 a w->Z a w):∀a w,pX n c B0 m e L a w->Z a w:=by grind[aIN,aIO]
end
end Go.Gv
end
noncomputable section
namespace Go.Gv
def swN(i j n:Nat):Nat:=match Nat.beq n i with
 | true=>j
 | false => match Nat.beq n j with
  | true=>i
  | false=>n
def swC(i j:Nat):SV->SV
 | .p n o=>.p (swN i j n) o
 | x=>x
def aZP(i j:Nat):List SV->List SV
 | []=>[]
 | x :: r=>swC i j x :: aZP i j r
def swG(i j:Nat):SV->SV
 | .g cs=>.g (aZP i j cs)
 | x=>swC i j x
def a7V(i j:Nat):List SV->List SV
 | []=>[]
 | x :: r=>swG i j x :: a7V i j r
def swF(i j:Nat):List Nat->List Nat
 | []=>[]
 | n :: r=>swN i j n :: swF i j r
def swT(i j:Nat):SV->SV
 | .t cs=>.t (a7V i j cs)
 | .f f ns=>.f f (swF i j ns)
 | x=>swG i j x
def swE(i j:Nat):SE->SE
 | []=>[]
 | (k,x) :: r=>(k,swT i j x) :: swE i j r
def swL(i j:Nat):List Ch->List Ch
 | []=>[]
 | x :: r => (match x with
  | .box n cs=>.box (swN i j n) (aZP i j cs)
  | .ro n cs=>.ro (swN i j n) (aZP i j cs)
  | .w n b z=>.w (swN i j n) b z
  | y=>y) :: swL i j r
noncomputable section
variable {B B':Bl} {i j:Nat}
theorem a3V(h:∀n,B'[swN i j n]?=B[n]?)(x:SV):bT B' (swC i j x)=bT B x:=by cases x<;>first | rfl | grind[swC,bT]
theorem aIV(h:∀n,B'[swN i j n]?=B[n]?):∀cs:List SV,aZ (bT B') (aZP i j cs)=aZ (bT B) cs
 | []=>rfl
 | x :: r=>by simp only[aZP,aZ,a3V h,aIV h r]
theorem aVW(h:∀n,B'[swN i j n]?=B[n]?)(x:SV):gV B' (swG i j x)=gV B x:=by
 cases x with
 | g cs=>grind[swG,gV,aIV]
 | p n o=>exact a3V h (.p n o)
 | _=>rfl
theorem aYH(h:∀n,B'[swN i j n]?=B[n]?):∀cs:List SV,aZ (gV B') (a7V i j cs)=aZ (gV B) cs
 | []=>rfl
 | x :: r=>by simp only[a7V,aZ,aVW h,aYH h r]
theorem a3W(h:∀n,B'[swN i j n]?=B[n]?):∀cs:List Nat,aZ (WV B') (swF i j cs)=aZ (WV B) cs
 | []=>rfl
 | x :: r=>by simp only[swF,aZ,WV,h];rw[show aZ (WV B') (swF i j r)=aZ (WV B) r from a3W h r]
theorem bA8(h:∀n,B'[swN i j n]?=B[n]?)(x:SV):fS B' (swT i j x)=fS B x:=by
 cases x with
 | t cs=>grind[swT,fS,aYH]
 | f f ns=>grind[swT,fS,a3W]
 | g cs=>exact aVW h (.g cs)
 | p n o=>exact aVW h (.p n o)
 | _=>rfl
theorem a3X{k:Nat}{x:SV}:∀{e:SE},EK (swE i j e) k=some x->∃y,EK e k=some y/\x=swT i j y
 | [],h=>by cases h
 | (k', y) :: r, h => by
  simp only[swE,EK] at h ⊢;split at h
  ·grind
  ·rename_i hb;exact a3X h
theorem aYI(h:∀n,B'[swN i j n]?=B[n]?){w:World}{R:List Fact}:∀(L:List Ch),kM w (L.map (lD B)) ((swL i j L).map (lD B'))/\((∀x∈L,roF B R x)->∀x∈swL i j L,roF B' R x)
 | []=>⟨.nil,fun _ x hx=>by cases hx⟩
 | x :: L => by
  obtain⟨h1,h2⟩:=aYI h (w:=w) (R:=R) L;refine⟨.cons (fun F hF=>?_) h1,fun hr y hy=>?_⟩
  ·cases x with
   | box n cs =>
    obtain⟨b,z,vs,k1,k2,k3⟩:=hF;exact⟨b,z,vs,by grind,by grind[aIV],k3⟩
   | _=>exact hF
  ·rcases mA.1 hy with hy | hy
   ·have hx:=hr x (by simp);cases x with
    | box n cs=>subst hy;trivial
    | ro n cs =>
     obtain⟨b,z,vs,k1,k2,k3⟩:=hx;subst hy;exact⟨b,z,vs,by grind,by grind[aIV],k3⟩
    | w n b z=>subst hy;show B'[swN i j n]?=_;rw[h];exact hx
    | o c=>subst hy;trivial
    | no=>subst hy;trivial
    | f f=>subst hy;exact hx
   grind
end
theorem bDH{B:Bl}{i j:Nat}(hi:i<B.length)(hj:j<B.length):∃B':Bl,B'.length=B.length/\(∀n,B'[swN i j n]?=B[n]?):=by
 refine⟨(B.set i B[j]).set j B[i],by simp,fun n=>?_⟩;unfold swN;cases h1:Nat.beq n i with
 | true =>
  simp_all
 | false =>
  have h1:n≠i:=fun h=>by simp_all
  cases h2:Nat.beq n j with
  | true =>
   simp_all
  | false =>
   have h2:n≠j:=fun h=>by simp_all
   grind
noncomputable section
variable {n:Nat} {c:Ctx} {B0:Bl} {m:Nat} {e:SE} {L:List Ch}
theorem swR{Z:Act->World->Prop}(i j:Nat)(h:(Nat.ble B0.length i && (Nat.ble B0.length j && (Nat.blt i m && Nat.blt j m)))=true)
  (kk:∀a w,pX n c B0 m (swE i j e) (swL i j L) a w->Z a w):∀a w,pX n c B0 m e L a w->Z a w:=by
 simp only[C8,Nat.ble_eq,wY] at h;obtain⟨h1,h2,h3,h4⟩:=h;intro a w ⟨B,hm,hA,hS⟩;refine kk a w ?_;rw[JO] at hm;obtain⟨B',hl,hB⟩:=bDH (B:=B) (i:=i - B0.length) (j:=j - B0.length) (by omega) (by omega);have key:∀n,(B0++B')[swN i j n]?=(B0++B)[n]?:=by
  intro n;have hsw:∀n,n<B0.length->swN i j n=n:=fun n hn=>by grind[swN,qY]
  have hge:∀n,B0.length<=n->swN i j n=B0.length+swN (i - B0.length) (j - B0.length) (n - B0.length):=fun n hn=>by
   have q1:Nat.beq (n - B0.length) (i - B0.length)=Nat.beq n i:=by rw[QJ];(simp_all;omega)
   have q2:Nat.beq (n - B0.length) (j - B0.length)=Nat.beq n j:=by rw[QJ];(simp_all;omega)
   grind[swN]
  grind[Nat.add_sub_cancel_left]
 refine⟨B',by grind,⟨hA.d,hA.size,fun k x hk=>?_⟩,?_⟩
 ·obtain⟨y,g1,rfl⟩:=a3X hk;obtain⟨v,g2,g3⟩:=hA.get k y g1;grind[bA8]
 ·obtain⟨⟨R,s1,s2⟩,s0⟩:=hS;obtain⟨g1,g2⟩:=aYI key (w:=w) (R:=R) L;exact⟨⟨R,s1.imp g1,g2 s2⟩,s0⟩
theorem pnR{Z:Act->World->Prop}{α:Type}[aJ α](j:Nat){s:AC}{l:List α}{n0:Nat}(hl:l.length=n0)(hj:L[j]?=some (ow s l))
  (kk:∀a w,pX n c B0 m e (L.set j (.o (bL [s.v n0] l))) a w->Z a w):∀a w,pX n c B0 m e L a w->Z a w:=by
 grind[aJB]
end
theorem fG{P:Program}{T:TT}{hT:H3 P T}{n:Nat}{c:Ctx}{B0:Bl}{N:Act->World->Prop}{X:Nat->Act->World->Prop}{Q:Act->World->Prop}{K:List Fr}{m:Nat}{e e1:SE}{L L1:List Ch}{cf:wG}(h1:aZH e=some e1)(h2:aZI L=some L1)(k:G (.mk P T hT n c B0 N X Q) K m e1 L1 cf):G (.mk P T hT n c B0 N X Q) K m e L cf:=by grind[aIN,aIO]
def fc1:SV->Option SV
 | .i k x=>some (.i k x)
 | .y b=>some (.y b)
 | .b c=>some (.b c)
 | .l c=>some (.l c)
 | .s l=>some (.s l)
 | .p n o=>some (.p n o)
 | .h s n=>some (.h s n)
 | .e s n i o=>some (.e s n i o)
 | .k x=>some (.k x)
 | .g cs=>some (.g cs)
 | .t cs=>some (.t cs)
 | .f f cs=>some (.f f cs)
 | .u=>some .u
def fcs:List SV->Option (List SV)
 | []=>some []
 | x :: r => match fc1 x with
  | some y => match fcs r with
   | some s=>some (y :: s)
   | none=>none
  | none=>none
def fc2:SV->Option SV
 | .g cs => match fcs cs with
  | some ds=>some (.g ds)
  | none=>none
 | x=>fc1 x
def fgs:List SV->Option (List SV)
 | []=>some []
 | x :: r => match fc2 x with
  | some y => match fgs r with
   | some s=>some (y :: s)
   | none=>none
  | none=>none
def fc3:SV->Option SV
 | .t cs => match fgs cs with
  | some ds=>some (.t ds)
  | none=>none
 | x=>fc2 x
def fdE:SE->Option SE
 | []=>some []
 | (k, v) :: r => match fc3 v with
  | some y => match fdE r with
   | some s=>some ((k,y) :: s)
   | none=>none
  | none=>none
def fdL:List Ch->Option (List Ch)
 | []=>some []
 | x :: r => match fdL r with
  | some s => match x with
   | .box n cs => match fcs cs with
    | some ds=>some (.box n ds :: s)
    | none=>none
   | .ro n cs => match fcs cs with
    | some ds=>some (.ro n ds :: s)
    | none=>none
   | y=>some (y :: s)
  | none=>none
theorem a3Y{x y:SV}(h:fc1 x=some y):y=x:=by cases x<;>simp only[fc1] at h<;>cases h<;>rfl
theorem aVX:∀{l r:List SV},fcs l=some r->r=l
 | [],r,h=>by cases h;rfl
 | x :: l, r, h => by
  simp only[fcs] at h;split at h
  ·rename_i y hy;split at h
   ·rename_i s hs;cases h;rw[a3Y hy,aVX hs]
   ·cases h
  ·cases h
theorem a3Z{x y:SV}(h:fc2 x=some y):y=x:=by
 cases x with
 | g cs =>
  grind[fc2,aVX]
 | _=>exact a3Y h
theorem a30:∀{l r:List SV},fgs l=some r->r=l
 | [],r,h=>by cases h;rfl
 | x :: l, r, h => by
  simp only[fgs] at h;split at h
  ·rename_i y hy;split at h
   ·rename_i s hs;cases h;rw[a3Z hy,a30 hs]
   ·cases h
  ·cases h
theorem bBA{x y:SV}(h:fc3 x=some y):y=x:=by
 cases x with
 | t cs =>
  grind[fc3,a30]
 | _=>exact a3Z h
theorem a31:∀{e r:SE},fdE e=some r->r=e
 | [],r,h=>by cases h;rfl
 | (k, v) :: l, r, h => by
  simp only[fdE] at h;split at h
  ·rename_i y hy;split at h
   ·rename_i s hs;cases h;rw[bBA hy,a31 hs]
   ·cases h
  ·cases h
theorem a32:∀{e r:List Ch},fdL e=some r->r=e
 | [],r,h=>by cases h;rfl
 | x :: l, r, h => by
  simp only[fdL] at h;split at h
  ·rename_i s hs;have:=a32 hs;grind[aVX]
  ·cases h
theorem fD{n:Nat}{c:Ctx}{B0:Bl}{m:Nat}{e e1:SE}{L L1:List Ch}{Z:Act->World->Prop}(h1:fdE e=some e1)(h2:fdL L=some L1)(kk:∀a w,pX n c B0 m e1 L1 a w->Z a w):∀a w,pX n c B0 m e L a w->Z a w:=by grind[a31,a32]
end Go.Gv
end
noncomputable section
namespace Go.Gv
universe u
theorem Q{α:Sort u}{a:α}:a=a:=Eq.refl a
def W{ρ:Type}(C:Prop)(r:ρ)(F:Option ρ):Prop:=F=some r->C
theorem wm{ρ:Type}{C:Prop}{r:ρ}{F F':Option ρ}(h:F'=F)(k:W C r F):W C r F':=h ▸ k
theorem wi{ρ:Type}{C:Prop}{r:ρ}{F:Option ρ}(h:F=some r)(k:W C r F):C:=k h
def VS(P:Program)(c:Ctx)(f:FuncId){ρ ex:Type}(F:Option ρ)(xs:List SV)(B0:Bl)(L0:List Ch)(sv:ρ->ex->SV)(Lf:ρ->ex->List Ch):Prop:=∀r,F=some r->FnS P f c xs B0 L0 sv Lf r
abbrev V0(P:Program)(c:Ctx)(f:FuncId){ρ:Type}(F:Option ρ)(xs:List SV)(sv:ρ->SV):Prop:=VS P c f F xs [] [] (fun r (_:Unit)=>sv r) (fun _ _=>[])
theorem VS.r{P:Program}{c:Ctx}{f:FuncId}{ρ ex:Type}{F:Option ρ}{xs:List SV}{B0:Bl}{L0:List Ch}{sv:ρ->ex->SV}{Lf:ρ->ex->List Ch}(h:VS P c f F xs B0 L0 sv Lf){r:ρ}(hF:F=some r):FnS P f c xs B0 L0 sv Lf r:=h r hF
def QR(P:Program)(fn:Func){rs:List ResultVar}(_:fn.results=rs.toArray)(c:Ctx)(B0:Bl){ρ ex:Type}(sv:ρ->ex->SV)(Lf:ρ->ex->List Ch)(r:ρ):Act->World->Prop:=QS P fn c B0 sv Lf r
def a33(T:TT)(rs:List ResultVar)(is:List Nat)(b0:Nat)(L2:List Ch):Stop->Option (SV×List Ch)
 | .ret m e L => match aQA T e L rs with
  | some x => match yY b0 (nbS x) with
   | true => match Y9 b0 m e L is b0 [] L2 with
    | some ([],L3)=>some (nbS x,L3)
    | _=>none
   | false=>none
  | none=>none
 | _=>none
def aZQ(is:List Nat)(b0 mj:Nat)(ej:SE)(Lj:List Ch):Stop->Option (SE×List Ch)
 | .fin m e L=>Y9 b0 m e L is mj ej Lj
 | _=>none
def exQ(is:List Nat)(id b0 mj:Nat)(ej:SE)(Lj:List Ch):Stop->Option (SE×List Ch)
 | .ex i m e L => match Nat.beq i id with
  | true=>Y9 b0 m e L is mj ej Lj
  | false=>none
 | _=>none
def bDI:Stop->Stop
 | .fin m e L=>.ret m e L
 | _=>.stuck
def ixT(T:TT)(t n:Nat):Bool:=match D3 T t with
 | some ⟨.sl el, _, _, _⟩ => match D3 T el with
  | some ⟨_,_,sz,_⟩=>Nat.beq n sz
  | none=>false
 | _=>false
noncomputable section
variable {P:Program} {T:TT} {hT:H3 P T} {n:Nat} {c:Ctx} {B0:Bl} {N:Act->World->Prop} {X:Nat->Act->World->Prop} {Q:Act->World->Prop} {K K':List Fr} {m m':Nat} {e e':SE} {L L' Lv:List Ch} {cf cf' cf1 cf2:wG} {o:Oper}
theorem cT(hT:H3 P T){f:FuncId}{fn:Func}{cd:Code}{xs:List SV}{L0:List Ch}{ρ ex:Type}{sv:ρ->ex->SV}{Lf:ρ->ex->List Ch}{F:Option ρ}{rs:List ResultVar}(hc:∀args w,(callFunc f args).run P w=.ok (.enter f args) w)(hf:P.funcs[f]?=some fn)(hr:fn.results=rs.toArray)(hb:fn.body=some cd)(hm:fn.ntmps=n)
  (k:∀{r},W (G (.mk P T hT n c B0 (QR P fn hr c B0 sv Lf r) (fun _ _ _=>False) (QR P fn hr c B0 sv Lf r)) [] B0.length (aOY 0 xs) L0 (.c cd)) r F) (hl:Nat.ble xs.length n=true:=by exact rfl):VS P c f F xs B0 L0 sv Lf:=
 fun _ hF=>en n hc hf hT hb hm hl (k hF)
theorem aYJ{rs:List ResultVar}{is:List Nat}{b0:Nat}{L2 L3:List Ch}{s:SV}{st:Stop}(h:a33 T rs is b0 L2 st=some (s,L3)):∃m' e' L' x,st=.ret m' e' L'/\aQA T e' L' rs=some x/\nbS x=s/\yY b0 s=true/\Y9 b0 m' e' L' is b0 [] L2=some ([],L3):=by unfold a33 at h;grind
theorem lB{fn:Func}{ρ ex:Type}{sv:ρ->ex->SV}{Lf:ρ->ex->List Ch}{r r':ρ}{rs:List ResultVar}{hr:fn.results=rs.toArray}{zz:Option ρ}(y:ex)(is:List Nat)(hz:zz=some r')(h:a33 T rs is B0.length (Lf r' y) (kI T n K cf m e L)=some (sv r' y,Lf r' y)):W (G (.mk P T hT n c B0 N X (QR P fn hr c B0 sv Lf r)) K m e L cf) r zz:=fun hF=>by obtain⟨_,_,_,_,h1,h2,h3,h4,h5⟩:=aYJ h;exact rt y is hF hz h1 hr h2 h3 h4 h5
theorem dD{fn:Func}{ρ:Type}{sv:ρ->Unit->SV}{Lf:ρ->Unit->List Ch}{r r':ρ}{rs:List ResultVar}{hr:fn.results=rs.toArray}{zz:Option ρ}(hz:zz=some r')(h:a33 T rs [] B0.length (Lf r' ()) (kI T n K cf m e L)=some (sv r' (),Lf r' ())):W (G (.mk P T hT n c B0 N X (QR P fn hr c B0 sv Lf r)) K m e L cf) r zz:=lB () [] hz h
theorem yV{fn:Func}{ρ ex:Type}{sv:ρ->ex->SV}{Lf:ρ->ex->List Ch}{r r':ρ}{rs:List ResultVar}{hr:fn.results=rs.toArray}{zz:Option ρ}(y:ex)(is:List Nat)(hz:zz=some r')(h:a33 T rs is B0.length (Lf r' y) (bDI (kI T n K cf m e L))=some (sv r' y,Lf r' y)):W (G (.mk P T hT n c B0 (QR P fn hr c B0 sv Lf r) X Q) K m e L cf) r zz:=fun hF=>by obtain⟨m',e',L',_,h1,h2,h3,h4,h5⟩:=aYJ h;refine rf y is hF hz (m':=m') (e':=e') (L':=L') ?_ hr h2 h3 h4 h5;unfold bDI at h1;grind
theorem aYK{is:List Nat}{b0 mj:Nat}{ej e3:SE}{Lj L3:List Ch}{st:Stop}(h:aZQ is b0 mj ej Lj st=some (e3,L3)):∃m' e' L',st=.fin m' e' L'/\Y9 b0 m' e' L' is mj ej Lj=some (e3,L3):=by unfold aZQ at h;grind
theorem lO{π υ α:Type}{eq:π->Prop}{mj:Nat}{ej:π->υ->SE}{Lj:π->υ->List Ch}{p:π}{q:α}{zz:Option α}(u:υ)(is:List Nat)(hz:(zz=some q)=eq p)(h:aZQ is B0.length mj (ej p u) (Lj p u) (kI T n K cf m e L)=some (ej p u,Lj p u)):W (G (.mk P T hT n c B0 (JP n c B0 eq mj ej Lj) X Q) K m e L cf) q zz:=fun hF=>by obtain⟨_,_,_,h1,h2⟩:=aYK h;exact jn u is (hz ▸ hF) h1 h2
theorem cM{π α:Type}{eq:π->Prop}{mj:Nat}{ej:π->Unit->SE}{Lj:π->Unit->List Ch}{p:π}{q:α}{zz:Option α}(is:List Nat)(hz:(zz=some q)=eq p)(h:aZQ is B0.length mj (ej p ()) (Lj p ()) (kI T n K cf m e L)=some (ej p (),Lj p ())):W (G (.mk P T hT n c B0 (JP n c B0 eq mj ej Lj) X Q) K m e L cf) q zz:=lO () is hz h
theorem nxW{σ ρ υ:Type}{o:Step σ ρ}{mj:Nat}{el:σ->υ->SE}{Ll:σ->υ->List Ch}{s:σ}(u:υ)(is:List Nat)(h:aZQ is B0.length mj (el s u) (Ll s u) (kI T n K cf m e L)=some (el s u,Ll s u)):W (G (.mk P T hT n c B0 (NxP n c B0 o mj el Ll) X Q) K m e L cf) o (some (Step.next s)):=fun hF=>by obtain⟨_,_,_,h1,h2⟩:=aYK h;exact nx u is hF h1 h2
theorem KK{σ ρ:Type}{o:Step σ ρ}{mj:Nat}{el:σ->Unit->SE}{Ll:σ->Unit->List Ch}{s:σ}(is:List Nat)(h:aZQ is B0.length mj (el s ()) (Ll s ()) (kI T n K cf m e L)=some (el s (),Ll s ())):W (G (.mk P T hT n c B0 (NxP n c B0 o mj el Ll) X Q) K m e L cf) o (some (Step.next s)):=nxW () is h
def BkR(n:Nat)(c:Ctx)(B0:Bl){β ρ σ υ:Type}{o:Step σ ρ}{ro:ρ}(_:∀p,o=.stop p->p=ro)(enc:β->ρ)(m:Nat)(ej:β->υ->SE)(Lj:β->υ->List Ch)(id:Nat)(X:Nat->Act->World->Prop):Nat->Act->World->Prop:=BkP n c B0 ro enc m ej Lj id X
theorem bkW{σ ρ β υ:Type}{o:Step σ ρ}{ro:ρ}{enc:β->ρ}{mj id:Nat}{ej:β->υ->SE}{Lj:β->υ->List Ch}{b:β}{hr:∀p,o=.stop p->p=ro}(u:υ)(is:List Nat)(h:exQ is id B0.length mj (ej b u) (Lj b u) (kI T n K cf m e L)=some (ej b u,Lj b u)):W (G (.mk P T hT n c B0 N (BkR n c B0 hr enc mj ej Lj id X) Q) K m e L cf) o (some (Step.stop (enc b))):=fun hF=>by
 unfold exQ at h;split at h
 ·rename_i h0;split at h
  ·rename_i hb;rw[qY hb] at h0;exact bk u is hF hr h0 h
  ·cases h
 ·cases h
theorem HN{σ ρ β:Type}{o:Step σ ρ}{ro:ρ}{enc:β->ρ}{mj id:Nat}{ej:β->Unit->SE}{Lj:β->Unit->List Ch}{b:β}{hr:∀p,o=.stop p->p=ro}(is:List Nat)(h:exQ is id B0.length mj (ej b ()) (Lj b ()) (kI T n K cf m e L)=some (ej b (),Lj b ())):W (G (.mk P T hT n c B0 N (BkR n c B0 hr enc mj ej Lj id X) Q) K m e L cf) o (some (Step.stop (enc b))):=bkW () is h
theorem OO{σ ρ α:Type}{o:Step σ ρ}{p ro:ρ}{F:ρ->Option α}{q:α}{C:Prop}(hr:∀p,o=.stop p->p=ro)(hF:F ro=some q)(k:W C q (F p)):W C o (some (Step.stop p)):=fun h=>k (re h rfl hr hF)
noncomputable section
variable {b:Bool} {α:Type} {A B':Option α} {q:α}
theorem bJ{o:Operand}{x y:Code}(ss:List Nat)(hs:kI T n K cf m e L=.cond o b x y K' m' e' L')(ho:aZ (EK e') ss=some (ss.map fun _=>SV.b b))
  (k1:W (G (.mk P T hT n c B0 N X Q) K' m' (ovr true e' ss) L' (.c x)) q A) (k2:W (G (.mk P T hT n c B0 N X Q) K' m' (ovr false e' ss) L' (.c y)) q B'):W (G (.mk P T hT n c B0 N X Q) K m e L cf) q (if b=true then A else B'):=fun hF=>cs ss hs ho hF k1 k2
theorem aS5{o:Operand}{x y:Code}(ss:List Nat)(hs:kI T n K cf m e L=.cond o b x y K' m' e' L')(ho:aZ (EK e') ss=some (ss.map fun _=>SV.b b))
  (k1:b=true->W (G (.mk P T hT n c B0 N X Q) K' m' (ovr true e' ss) L' (.c x)) q A) (k2:b=false->W (G (.mk P T hT n c B0 N X Q) K' m' (ovr false e' ss) L' (.c y)) q B'):W (G (.mk P T hT n c B0 N X Q) K m e L cf) q (if b=true then A else B'):=fun hF=>csK ss hs ho hF k1 k2
theorem gY(ss:List Nat)(hs:kI T n K cf m e L=.case b cf' K' m' e' L')(ho:aZ (EK e') ss=some (ss.map fun _=>SV.b b))
  (k1:W (G (.mk P T hT n c B0 N X Q) K' m' (ovr true e' ss) L' cf') q A) (k2:W (G (.mk P T hT n c B0 N X Q) K' m' (ovr false e' ss) L' cf') q B'):W (G (.mk P T hT n c B0 N X Q) K m e L cf) q (if b=true then A else B'):=fun hF=>ca ss hs ho hF k1 k2
theorem aS6(ss:List Nat)(hs:kI T n K cf m e L=.case b cf' K' m' e' L')(ho:aZ (EK e') ss=some (ss.map fun _=>SV.b b))
  (k1:b=true->W (G (.mk P T hT n c B0 N X Q) K' m' (ovr true e' ss) L' cf') q A) (k2:b=false->W (G (.mk P T hT n c B0 N X Q) K' m' (ovr false e' ss) L' cf') q B'):W (G (.mk P T hT n c B0 N X Q) K m e L cf) q (if b=true then A else B'):=fun hF=>caK ss hs ho hF k1 k2
end
noncomputable section
variable {α β:Type} {fo:Option α} {kf:α->Option β} {q:β} {d:Nat} {f:FuncId} {xs:List SV}
theorem c0{sv:α->SV}(hs:kI T n K cf m e L=.call o (some d) f xs cf1 cf2 K' m' e' L')
  (hc:∀{w},HS c w L'->V0 P (cL w) f fo xs sv) (k:∀x,W (G (.mk P T hT n c B0 N X Q) K' m' ((d,sv x) :: e') L' cf2) q (kf x)):W (G (.mk P T hT n c B0 N X Q) K m e L cf) q (fo.bind kf):=fun hF=>cl0 hs (fun h _ hx=>hc h _ hx) hF fun x _ h=>k x h
theorem c1{ex:Type}{sv:α->ex->SV}{Lf:α->ex->List Ch}(hs:kI T n K cf m e L=.call o (some d) f xs cf1 cf2 K' m' e' L')
  (hc:∀{w},HS c w L'->VS P (cL w) f fo xs [] [] sv Lf) (k:∀x,∀y:ex,W (G (.mk P T hT n c B0 N X Q) K' m' ((d,sv x y) :: e') (L'++Lf x y) cf2) q (kf x)) (hn:∀x y,noF (Lf x y)=true:=by exact fun _ _=>rfl):W (G (.mk P T hT n c B0 N X Q) K m e L cf) q (fo.bind kf):=fun hF=>cl hs hn (fun h _ hx=>hc h _ hx) hF fun x _ h y=>k x y h
theorem LI{β:Type}{kf:α->Option β}{q:β}{iR:aJ α}(C:EG α){d t:Nat}{s:AC}{i:Int}{ls:List α}(hs:kI T n K cf m e L=.idx o d t s ls.length i Lv cf1 cf2 K' m' e' L')(h1:cJ c s ls)(ht:ixT T t (aJ.n α)=true)
  (k:∀x,∀y:C.ex,C.sub c.S0 c.w0 x y->W (G (.mk P T hT n c B0 N X Q) K' (m'+1) ((d,.p m' 0) :: e') (L' ++ [.ro m' (C.cs x y)]) (cf2.ext [.ro m' (C.cs x y)])) q (kf x)):W (G (.mk P T hT n c B0 N X Q) K m e L cf) q ((idx ls i).bind kf):=fun hF=>by
 unfold ixT at ht;split at ht
 ·rename_i h2;split at ht
  ·rename_i h3;exact ix C hs h1 hF h2 h3 (qY ht) fun x _ h y hy=>k x y hy h
  ·cases ht
 ·cases ht
theorem Z4{β:Type}{kf:Int->Option β}{q:β}{d t:Nat}{s:AC}{i:Int}{ls:List Int}(hs:kI T n K cf m e L=.idx o d t s ls.length i Lv cf1 cf2 K' m' e' L')(h1:cJ c s ls)(ht:ixT T t 1=true)
  (k:∀x,W (G (.mk P T hT n c B0 N X Q) K' (m'+1) ((d,.p m' 0) :: e') (L' ++ [.ro m' [.i .i64 x]]) (cf2.ext [.ro m' [.i .i64 x]])) q (kf x)):W (G (.mk P T hT n c B0 N X Q) K m e L cf) q ((idx ls i).bind kf):=LI cI hs h1 ht fun x _ _=>k x
theorem iL(hm:P.follows .mixedOrders=true){id:Nat}{ops:Array Oper}{zz:Option β}(is:List Nat)(hs:kI T n K cf m e L=.rgn id ops K' m' e' L')
  (k:∀{B1},W (G (.mk P T hT n c B0 N X Q) K' m' e' L' (.d B1 ops (List.replicate ops.size false) is (kl L' is) (kl L' is))) q zz) (hf:(aSP ops && (okL m' (kl L' is) && (dQ is && is.all fun j=>Nat.blt j L'.length)))=true:=by kernel_rfl):W (G (.mk P T hT n c B0 N X Q) K m e L cf) q zz:=fun hF=>dr is hs hm hf fun _=>k hF
theorem dX{π υ:Type}{zz:Option β}(j mj:Nat)(Fj:π->Option β)(ks:List Nat)(ej:π->υ->SE)(is:List Nat)(Lj:π->υ->List Ch)(hs:XC (kI T n K cf m e L)=some (K',cf',m',e',L'))
  (k1:W (G (.mk P T hT n c B0 (JP n c B0 (fun p=>Fj p=some q) mj (fun p u=>ej p u++kp e' ks) (fun p u=>Lj p u++kl L' is)) (XK (.mk P T hT n c B0 N X Q) (K'.drop j)) Q) (K'.take j) m' e' L' cf') q zz)
  (k2:∀p u,W (G (.mk P T hT n c B0 N X Q) (K'.drop j) mj (ej p u++kp e' ks) (Lj p u++kl L' is) .n) q (Fj p)):W (G (.mk P T hT n c B0 N X Q) K m e L cf) q zz:=fun hF=>cut j mj (fun p=>Fj p=some q) ks ej is Lj hs (k1 hF) fun p u h=>k2 p u h
theorem eM{zz:Option β}(j mj:Nat)(Fj:Bool->Option β)(ks:List Nat)(v:Nat)(is:List Nat)(hs:XC (kI T n K cf m e L)=some (K',cf',m',e',L'))
  (k1:W (G (.mk P T hT n c B0 (JP n c B0 (fun p=>Fj p=some q) mj (fun p (_:Unit)=>[(v,.b p)]++kp e' ks) (fun _ _=>[]++kl L' is)) (XK (.mk P T hT n c B0 N X Q) (K'.drop j)) Q) (K'.take j) m' e' L' cf') q zz)
  (k2:∀p,W (G (.mk P T hT n c B0 N X Q) (K'.drop j) mj ([(v,.b p)]++kp e' ks) ([]++kl L' is) .n) q (Fj p)):W (G (.mk P T hT n c B0 N X Q) K m e L cf) q zz:=dX j mj Fj ks (fun p (_:Unit)=>[(v,.b p)]) is (fun _ _=>[]) hs k1 fun p _=>k2 p
theorem PD{σ ρ υ γ ω:Type}{id:Nat}{y:Code}{fb:σ->Option (Step σ ρ)}{s0:σ}{gk:ρ->Option β}(u0:υ)(ks:List Nat)(el:σ->υ->SE)(is0 is:List Nat)(Ll:σ->υ->List Ch)(enc:γ->ρ)(kb:List Nat)(ej:γ->ω->SE)(ib:List Nat)(Lj:γ->ω->List Ch)
  (hs:kI T n K cf m e L=.loop id y K' m' e' L')
  (h0:Y9 B0.length m' e' L' is0 m' (el s0 u0++kp e' ks) (Ll s0 u0++kl L' is)=some (el s0 u0++kp e' ks,Ll s0 u0++kl L' is))
  (k1:∀{ro o},gk ro=some q->∀s u,(hr:∀p,o=.stop p->p=ro)->W (G (.mk P T hT n c B0 (NxP n c B0 o m' (fun s u=>el s u++kp e' ks) (fun s u=>Ll s u++kl L' is)) (BkR n c B0 hr enc m' (fun b u=>ej b u++kp e' kb) (fun b u=>Lj b u++kl L' ib) id (XK (.mk P T hT n c B0 N X Q) K')) Q) [] m' (el s u++kp e' ks) (Ll s u++kl L' is) (.c y)) o (fb s))
  (k2:∀b u,W (G (.mk P T hT n c B0 N X Q) K' m' (ej b u++kp e' kb) (Lj b u++kl L' ib) .n) q (gk (enc b))):W (G (.mk P T hT n c B0 N X Q) K m e L cf) q ((loop fb s0).bind gk):=fun hF=>
 lp u0 ks el is0 is Ll enc kb ej ib Lj hs hF h0 (fun ro h1 s u o h2 h3=>k1 h1 s u h3 h2) fun b u h=>k2 b u h
theorem SI{ρ:Type}{id:Nat}{y:Code}{fb:Int->Option (Step Int ρ)}{s0:Int}{gk:ρ->Option β}(v:Nat)(ks:List Nat)(is:List Nat)(enc:Unit->ρ)(kb:List Nat)(ib:List Nat)
  (hs:kI T n K cf m e L=.loop id y K' m' e' L')
  (h0:Y9 B0.length m' e' L' is m' ([(v,.i .i64 s0)]++kp e' ks) ([]++kl L' is)=some ([(v,.i .i64 s0)]++kp e' ks,[]++kl L' is))
  (k1:∀{ro o},gk ro=some q->∀s,(hr:∀p,o=.stop p->p=ro)->W (G (.mk P T hT n c B0 (NxP n c B0 o m' (fun s (_:Unit)=>[(v,.i .i64 s)]++kp e' ks) (fun _ _=>[]++kl L' is)) (BkR n c B0 hr enc m' (fun _ (_:Unit)=>[]++kp e' kb) (fun _ _=>[]++kl L' ib) id (XK (.mk P T hT n c B0 N X Q) K')) Q) [] m' ([(v,.i .i64 s)]++kp e' ks) ([]++kl L' is) (.c y)) o (fb s))
  (k2:W (G (.mk P T hT n c B0 N X Q) K' m' ([]++kp e' kb) ([]++kl L' ib) .n) q (gk (enc ()))):W (G (.mk P T hT n c B0 N X Q) K m e L cf) q ((loop fb s0).bind gk):=
 PD () ks (fun s (_:Unit)=>[(v,.i .i64 s)]) is is (fun _ _=>[]) enc kb (fun _ (_:Unit)=>[]) ib (fun _ _=>[]) hs h0 (fun h s _ hr=>k1 h s hr) fun _ _=>k2
theorem lrW{σ ρ υ:Type}{id:Nat}{y:Code}{fb:σ->Option (Step σ ρ)}{s0:σ}{gk:ρ->Option β}(u0:υ)(ks:List Nat)(el:σ->υ->SE)(is0 is:List Nat)(Ll:σ->υ->List Ch)
  (hs:kI T n K cf m e L=.loop id y K' m' e' L')
  (h0:Y9 B0.length m' e' L' is0 m' (el s0 u0++kp e' ks) (Ll s0 u0++kl L' is)=some (el s0 u0++kp e' ks,Ll s0 u0++kl L' is))
  (k1:∀{ro o},gk ro=some q->∀s u,(hr:∀p,o=.stop p->p=ro)->W (G (.mk P T hT n c B0 (NxP n c B0 o m' (fun s u=>el s u++kp e' ks) (fun s u=>Ll s u++kl L' is)) (BkP n c B0 ro (fun b:Empty=>nomatch b) m' (fun(b:Empty) (_:Unit)=>nomatch b) (fun b _=>nomatch b) id (XK (.mk P T hT n c B0 N X Q) K')) Q) [] m' (el s u++kp e' ks) (Ll s u++kl L' is) (.c y)) o (fb s)):W (G (.mk P T hT n c B0 N X Q) K m e L cf) q ((loop fb s0).bind gk):=fun hF=>
 lr u0 ks el is0 is Ll hs hF h0 fun ro h1 s u o h2 h3=>k1 h1 s u h3 h2
theorem kH{β:Type}{kf:α->Option β}{q:β}[aJ α](E:CO α)(j:Nat){t:TypeId}{s:AC}{i:Int}{ls:List α}(hs:kI T n K cf m e L=.idx o d t s ls.length i Lv cf1 cf2 K' m' e' L')(hj:L'[j]?=some (ow s ls))(hz:gC j cf1.yZ=true)
  (k:∀x,idx ls i=some x->∀y:E.ex,Shp s ls.length->W (G (.mk P T hT n c B0 N X Q) K' (m'+1) e' (L'.set j .no++([.o (rR (s.v ls.length) ls i.toNat),.box m' (E.cs x y),wOf α m' s ls.length i.toNat]++E.Lx x y)) (cf1.ext [wOf α m' s ls.length i.toNat])) q (kf x)):W (G (.mk P T hT n c B0 N X Q) K m e L cf) q ((idx ls i).bind kf):=fun hF=>oe E j hs hj hz hF fun x h1 h2 y h3=>k x h1 y h3 h2
end
noncomputable section
variable {α β ex:Type} {fo:Option α} {kf:α->Option β} {q:β} {d:Option Nat} {f:FuncId} {xs xs0:List SV} {M:List Ch} {sv:α->ex->SV} {Lr:α->ex->List Ch}
theorem KL(is:List Nat)
  (hs:cpS (kI T n K cf m e L)=some (o,d,f,xs,cf1,cf2,K',m',e',L')) (hi:aZ (fun i=>L'[i]?) is=some M) (hx:aZ (rnP [] 0) xs=some xs0)
  (hk:(JS M && (dQ is && is.all fun j=>gC j cf1.yZ))=true)
  (hc:∀{κ:Ctx},HG c κ L' is->VS P κ f fo xs0 [] M sv Lr)
  (k:∀x,∀y:ex,W (G (.mk P T hT n c B0 N X Q) K' m' (dse d (sv x y) e') (KJ L' is++Lr x y) cf2) q (kf x)) (hn:∀x y,(JS (Lr x y) && yY 0 (sv x y))=true:=by exact fun _ _=>rfl):W (G (.mk P T hT n c B0 N X Q) K m e L cf) q (fo.bind kf):=fun hF=>
 cw0 is hs hi hx hk hn (fun h _ hx=>hc h _ hx) hF fun x _ h y=>k x y h
theorem b8{c1:List SV}{a1:α->ex->List SV}(i1 n1 o1 k1:Nat)(is:List Nat)
  (hs:cpS (kI T n K cf m e L)=some (o,d,f,xs,cf1,cf2,K',m',e',L')) (hb:aJ1 L' [(i1,n1,o1,k1)]=some [c1]) (hi:aZ (fun i=>L'[i]?) is=some M) (hx:aZ (rnP [(i1,n1,o1,k1)] 0) xs=some xs0)
  (hk:(JS M && ([c1].all (yY.okC 0) && (dQ (i1 :: is) && (i1 :: is).all fun j=>gC j cf1.yZ)))=true)
  (hc:∀{κ:Ctx},HG c κ L' (i1 :: is)->∀{b1:Nat×Nat},VS P κ f fo xs0 [b1] (.box 0 c1 :: M) sv (fun x y=>.box 0 (a1 x y) :: Lr x y))
  (k:∀x,∀y:ex,W (G (.mk P T hT n c B0 N X Q) K' m' (dse d (sv x y) e') (OS L' (KJ L' (i1 :: is)++Lr x y) [(i1,n1,o1,k1)] [a1 x y]) cf2) q (kf x)) (hn:∀x y,(aCB [(i1,n1,o1,k1)] [a1 x y] && ([a1 x y].all (yY.okC 0) && (JS (Lr x y) && yY 0 (sv x y))))=true:=by exact fun _ _=>rfl):W (G (.mk P T hT n c B0 N X Q) K m e L cf) q (fo.bind kf):=fun hF=>
 cw1 i1 n1 o1 k1 is hs hb hi hx hk hn (fun h _ _ hx=>hc h _ hx) hF fun x _ h y=>k x y h
theorem aA9{c1 c2:List SV}{a1 a2:α->ex->List SV}(i1 n1 o1 k1:Nat)(i2 n2 o2 k2:Nat)(is:List Nat)
  (hs:cpS (kI T n K cf m e L)=some (o,d,f,xs,cf1,cf2,K',m',e',L')) (hb:aJ1 L' [(i1,n1,o1,k1),(i2,n2,o2,k2)]=some [c1,c2]) (hi:aZ (fun i=>L'[i]?) is=some M) (hx:aZ (rnP [(i1,n1,o1,k1),(i2,n2,o2,k2)] 0) xs=some xs0)
  (hk:(JS M && ([c1,c2].all (yY.okC 0) && (dQ (i1 :: i2 :: is) && (i1 :: i2 :: is).all fun j=>gC j cf1.yZ)))=true)
  (hc:∀{κ:Ctx},HG c κ L' (i1 :: i2 :: is)->∀{b1 b2:Nat×Nat},VS P κ f fo xs0 [b1,b2] (.box 0 c1 :: .box 1 c2 :: M) sv (fun x y=>.box 0 (a1 x y) :: .box 1 (a2 x y) :: Lr x y))
  (k:∀x,∀y:ex,W (G (.mk P T hT n c B0 N X Q) K' m' (dse d (sv x y) e') (OS L' (KJ L' (i1 :: i2 :: is)++Lr x y) [(i1,n1,o1,k1),(i2,n2,o2,k2)] [a1 x y,a2 x y]) cf2) q (kf x)) (hn:∀x y,(aCB [(i1,n1,o1,k1),(i2,n2,o2,k2)] [a1 x y,a2 x y] && ([a1 x y,a2 x y].all (yY.okC 0) && (JS (Lr x y) && yY 0 (sv x y))))=true:=by exact fun _ _=>rfl):W (G (.mk P T hT n c B0 N X Q) K m e L cf) q (fo.bind kf):=fun hF=>
 cw2 i1 n1 o1 k1 i2 n2 o2 k2 is hs hb hi hx hk hn (fun h _ _ _ hx=>hc h _ hx) hF fun x _ h y=>k x y h
theorem bE6{c1 c2 c3:List SV}{a1 a2 a3:α->ex->List SV}(i1 n1 o1 k1:Nat)(i2 n2 o2 k2:Nat)(i3 n3 o3 k3:Nat)(is:List Nat)
  (hs:cpS (kI T n K cf m e L)=some (o,d,f,xs,cf1,cf2,K',m',e',L')) (hb:aJ1 L' [(i1,n1,o1,k1),(i2,n2,o2,k2),(i3,n3,o3,k3)]=some [c1,c2,c3]) (hi:aZ (fun i=>L'[i]?) is=some M) (hx:aZ (rnP [(i1,n1,o1,k1),(i2,n2,o2,k2),(i3,n3,o3,k3)] 0) xs=some xs0)
  (hk:(JS M && ([c1,c2,c3].all (yY.okC 0) && (dQ (i1 :: i2 :: i3 :: is) && (i1 :: i2 :: i3 :: is).all fun j=>gC j cf1.yZ)))=true)
  (hc:∀{κ:Ctx},HG c κ L' (i1 :: i2 :: i3 :: is)->∀{b1 b2 b3:Nat×Nat},VS P κ f fo xs0 [b1,b2,b3] (.box 0 c1 :: .box 1 c2 :: .box 2 c3 :: M) sv (fun x y=>.box 0 (a1 x y) :: .box 1 (a2 x y) :: .box 2 (a3 x y) :: Lr x y))
  (k:∀x,∀y:ex,W (G (.mk P T hT n c B0 N X Q) K' m' (dse d (sv x y) e') (OS L' (KJ L' (i1 :: i2 :: i3 :: is)++Lr x y) [(i1,n1,o1,k1),(i2,n2,o2,k2),(i3,n3,o3,k3)] [a1 x y,a2 x y,a3 x y]) cf2) q (kf x)) (hn:∀x y,(aCB [(i1,n1,o1,k1),(i2,n2,o2,k2),(i3,n3,o3,k3)] [a1 x y,a2 x y,a3 x y] && ([a1 x y,a2 x y,a3 x y].all (yY.okC 0) && (JS (Lr x y) && yY 0 (sv x y))))=true:=by exact fun _ _=>rfl):W (G (.mk P T hT n c B0 N X Q) K m e L cf) q (fo.bind kf):=fun hF=>
 cw3 i1 n1 o1 k1 i2 n2 o2 k2 i3 n3 o3 k3 is hs hb hi hx hk hn (fun h _ _ _ _ hx=>hc h _ hx) hF fun x _ h y=>k x y h
end
theorem aQR{α β:Type}{iR:aJ α}{C:EG α}{sr:β->SV}{g:FuncId}{w:World}{p:α->Option β}(hc:∀args w,(callFunc g args).run P w=.ok (.enter g args) w)(hn:∀{κ:Ctx} {x y},C.sub κ.S0 κ.w0 x y->V0 P κ g (p x) [C.sv x y] sr):ZO P (cL w) C sr g [] p:=fu1 hc (by intro κ x y h q hq;exact hn h _ hq)
theorem aS7{α β:Type}{iR:aJ α}{C:EG α}{sr:β->SV}{g:FuncId}{w:World}{Bs:Bl}{cs:List (Nat×List SV)}{p:α->Option β}(hc:∀args w,(callFunc g args).run P w=.ok (.enter g args) w)(hB:∀w1,eT F0 w w1->nC (cL w1) w1 Bs (roL 0 cs))(hl:aZ (fS Bs) (a3E 0 cs)=some (SH Bs))(hn:∀{w1 x y},eT F0 w w1->C.sub (R1 w1) w1 x y->VS P (cL w1) g (p x) (C.sv x y :: a3E 0 cs) Bs (roL 0 cs) (fun r (_:Unit)=>sr r) (fun _ _=>[]))(hz:∀q,yY 0 (sr q)=true:=by exact fun _=>rfl):ZO P (cL w) C sr g (SH Bs) p:=fk1 hc hB hl hz (by intro w1 x y h h' q hq;exact hn h h' _ hq)
noncomputable section
variable {α β:Type} {fo:Option α} {kf:α->Option β} {q:β} {d:Nat} {f g:FuncId} {xs:List SV} {sv:α->SV}
theorem aS8{n1:Nat}{c1:List SV}(is:List Nat)(hs:kI T n K cf m e L=.callp o (some d) f xs cf1 cf2 K' m' e' L')(hk:kl L' is=[.ro n1 c1])(ho:(aSV [(n1,c1)] && okA xs.dropLast)=true)(hx:xs=xs.dropLast ++ [.f g [n1]])
  (hc:∀{w},HS c w L'->∀{b1:Nat×Nat},(∀w1,eT F0 w w1->nC (cL w1) w1 [b1] [.ro 0 c1])->V0 P (cL w) f fo (xs.dropLast ++ [.k (.func (.func g) #[] (SH [b1]).toArray)]) sv)
  (k:∀x,W (G (.mk P T hT n c B0 N X Q) K' m' ((d,sv x) :: e') L' cf2) q (kf x)):W (G (.mk P T hT n c B0 N X Q) K m e L cf) q (fo.bind kf):=fun hF=>
 bE0 is hs hk ho hx (fun h _ h2 _ hx=>hc h h2 _ hx) hF fun x _ h=>k x h
end
end
end Go.Gv
end
noncomputable section
namespace Go.Gv
def pV(y:Nat×Nat):Value:=.pointer (some ⟨y.1,y.2,none⟩)
noncomputable section
variable {P:Program} {T:TT} {hT:H3 P T} {n:Nat} {c:Ctx} {B0:Bl} {N:Act->World->Prop} {X:Nat->Act->World->Prop} {Q:Act->World->Prop} {K K':List Fr} {m m':Nat} {e e':SE} {L L':List Ch} {cf cf1 cf2:wG} {o:Oper}
abbrev VP(P:Program)(c:Ctx)(f:FuncId){ρ:Type}(F:Option ρ)(xs:List SV)(cs:ρ->List SV):Prop:=VS P c f F xs [] [] (fun _ (y:Nat×Nat)=>.k (pV y)) (fun r y=>[.o (SD [y] 0 (cs r))])
theorem rtP{fn:Func}{ρ:Type}{r r':ρ}{t:Nat}{hr:fn.results=[ResultVar.tmp t].toArray}{zz:Option ρ}{cs:ρ->List SV}(is:List Nat)(hz:zz=some r')(hs:kI T n K cf m e L=.ret m' e' L')(hL:Y9 0 m' e' L' is 1 [(t,.p 0 0)] [.box 0 (cs r')]=some ([(t,.p 0 0)],[.box 0 (cs r')]))(ho:yY.okC 0 (cs r')=true):W (G (.mk P T hT n c [] N X (QR P fn hr c [] (fun _ (y:Nat×Nat)=>.k (pV y)) (fun r y=>[.o (SD [y] 0 (cs r))]) r)) K m e L cf) r zz:=fun hF=>by
 subst hz;cases hF;refine iD (g:=.mk P T hT n c [] N X _) ?_;rw[hs];intro a w hr';obtain⟨B,hm,hA,hS⟩:=pX.Y9 hr' is hL;have hB:∃y,B=[y]:=by
  cases B with
  | nil=>simp at hm
  | cons y B=>grind
 obtain⟨y,rfl⟩:=hB;have hS:nC c w [y] [.box 0 (cs r)]:=hS;have hA:hY n [y] [(t,.p 0 0)] a:=hA;have hv:aQA T [(t,.p 0 0)] [.box 0 (cs r)] [ResultVar.tmp t]=some (.p 0 0):=by simp[aQA,a2K,EK]
 obtain⟨v,h1,h2⟩:=aIR hr hT hA hS hv;have hv':v=pV y:=by simp only[fS,gV,bT,List.getElem?_cons_zero] at h1;cases h1;rfl
 subst hv';refine⟨hA.d,_,h2,y,by grind[fS,gV,bT,Value.oneCell'],?_⟩;obtain⟨⟨R,s1,s2⟩,s0⟩:=hS;exact⟨⟨R,s1.imp (.cons (fun F h=>h) .nil),fun x hx=>by rcases mA.1 hx with rfl | hx<;>first | trivial | simp at hx⟩,s0⟩
theorem cP{α β:Type}{fo:Option α}{kf:α->Option β}{q:β}{d:Nat}{f:FuncId}{xs:List SV}{cs:α->List SV}(hs:kI T n K cf m e L=.call o (some d) f xs cf1 cf2 K' m' e' L')
  (hc:∀{w},HS c w L'->VP P (cL w) f fo xs cs) (k:∀x,W (G (.mk P T hT n c B0 N X Q) K' (m'+1) ((d,.p m' 0) :: e') (L' ++ [.box m' (cs x)]) cf2) q (kf x)) (hk:∀x,yY.okC 0 (cs x)=true:=by exact fun _=>rfl):W (G (.mk P T hT n c B0 N X Q) K m e L cf) q (fo.bind kf):=fun hF=>by
 refine iD (g:=.mk P T hT n c B0 N X Q) ?_;rw[hs];intro fo' args ats ho hd hf ⟨ys,hys,hxs⟩ hA0 hdn hE;subst hxs;cases hfo:fo with
 | none=>grind
 | some x =>
  rw[hfo] at hF;refine hE Unit (fun _=>m'+1) (fun _=>(d,.p m' 0) :: e') (fun _=>L' ++ [.box m' (cs x)]) (fun _=>wI _) (fun B a w next Q' hm hA hS hnext=>?_) (fun _=>k x hF);obtain⟨hcall,hrun⟩:=hc ⟨_,hS⟩ x hfo;obtain⟨vs,h1,h2⟩:=Z3 hA hys;obtain⟨v,h3,h4⟩:=fT hA hf;simp[fS,aZ] at h3;subst h3;have h5:=hrun vs (aCA hA0 (by rw[O8];exact h1)) (aZM w);have h6:=SG (w:=w) hcall ho h4 h2;unfold Oper.wp;rw[h6 _ a hA.env,Oper.upon_enter];refine Calls.mono h5 fun en w' ⟨v,hv,y,g1,g2⟩=>?_;subst hv;rw[hd];have hv':v=pV y:=by grind[fS,gV,bT]
  subst hv';have hb:∀{F:cN},(SD [y] 0 (cs x)).P w' F->(SD ((B0S (.mk P T hT n c B0 N X Q) cf1++B) ++ [y]) m' (cs x)).P w' F:=fun⟨b,z,us,k1,k2,k3⟩=>by
   simp only[List.getElem?_cons_zero,Option.some.injEq] at k1;refine⟨y.1,y.2,us,?_,?_,by grind⟩
   ·grind
   ·simpa using eZ (fun x v h=>by simpa using gL (B:=[]) (B0S (.mk P T hT n c B0 N X Q) cf1++B ++ [y]) h) (B9 (hk x) k2)
  have g3:fS ((B0S (.mk P T hT n c B0 N X Q) cf1++B) ++ [y]) (.p m' 0)=some (pV y):=by grind[fS,gV,bT,pV]
  refine hnext () _ _ ⟨[y],by grind,hA.ext g3 (hA.env.put (by grind[rS,wY]) _),?_⟩;obtain⟨⟨R,s1,s2⟩,s0⟩:=(hS.after (L2:=[.o (SD [y] 0 (cs x))]) rfl g2).app [y];refine⟨⟨R,s1.imp ?_,fun z hz=>?_⟩,s0⟩
  ·rw[A5,A5];exact kM.append (kM.refl _) (.cons (fun F h=>hb h) .nil)
  ·rcases jB.1 hz with hz | hz
   ·grind
   ·rcases mA.1 hz with rfl | hz<;>first | trivial | simp at hz
def bBB(b:Bool)(off sz:Nat)(cs:List SV):Option SV:=match b with
 | true=>some (.g ((cs.drop off).take sz))
 | false => match cs[off]? with
  | some x => match x with
   | .g _=>none
   | .t _=>none
   | .f _ _=>none
   | .u=>none
   | y=>some y
  | none=>none
theorem bDJ{α:Type}{F0:Option α}{q:α}{t ix sz d:Nat}{b:Bool}{k:TK}{z cs:List SV}{Fs:Array Field}{F:Field}{x:Operand}{r:SV}{Lv:List Ch}(hu:P.underlying t=some (.struct Fs))(hf:Fs[ix]?=some F)(hl:D3 T F.type=some ⟨k,b,sz,z⟩)(hs:opS (kI T n K cf m e L)=some (o,Lv,cf1,cf2,K',m',e',L'))(ho:(o.op,o.dst)=(.field t x ix,some d))(hx:j4 e' x=some (.g cs))(hr:bBB b F.offset sz cs=some r)(hz:(!b || Nat.ble (F.offset+sz) cs.length)=true)
  (kk:W (G (.mk P T hT n c B0 N X Q) K' m' ((d,r) :: e') L' cf2) q F0):W (G (.mk P T hT n c B0 N X Q) K m e L cf) q F0:=fun hF=>
 pu hs (eA Prod.snd ho) (fun B a w hA _=>by
  obtain⟨v,h1,h2⟩:=fT hA hx;simp only[fS,gV] at h1;split at h1
  case h_2=>cases h1
  rename_i vs hv;cases h1;have hlen:=mD hv;have h0:o.op=.field t x ix:=eA Prod.fst ho;have hag:=hT.agg _ _ hl;have hsz:=hT.size _ _ hl;cases b with
  | true =>
   have hz':=M7 (by simpa using hz);simp only[bBB] at hr;cases hr;refine⟨.agg ((vs.drop F.offset).take sz).toArray,by grind[fS,gV,SC,SB],fun _ a hA=>?_⟩;have e:vs.toArray.extract F.offset (F.offset+sz)=((vs.drop F.offset).take sz).toArray:=by simp
   simp[execOp,h0,hA.eval h2,Instr.field,run_underlying hu,hf,part,asAgg,hag,hsz,e]
  | false =>
   simp only[bBB] at hr;split at hr
   case h_2=>cases hr
   rename_i y hy;obtain⟨u,h4,h5⟩:=SA hv hy;have hr':r=y:=by grind
   subst hr';refine⟨u,aXP h4,fun _ a hA=>?_⟩;simp[execOp,h0,hA.eval h2,Instr.field,run_underlying hu,hf,part,asAgg,hag,h5]) (kk hF)
end
end Go.Gv
end
noncomputable section
namespace Go.Gv
noncomputable section
variable {n:Nat} {c:Ctx} {B0:Bl} {m:Nat} {e:SE} {L:List Ch}
def kf(L xs:List Ch)(k:Nat):List Nat->List Ch
 | []=>[]
 | i :: is => match Nat.blt i k with
  | true => match L[i]? with
   | some x=>x :: kf L xs k is
   | none=>kf L xs k is
  | false => match xs[i - k]? with
   | some x=>x :: kf L xs k is
   | none=>kf L xs k is
end
end Go.Gv
end
