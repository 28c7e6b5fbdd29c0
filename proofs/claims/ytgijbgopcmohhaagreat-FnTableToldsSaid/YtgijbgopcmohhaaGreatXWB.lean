import Derived.Test.YtgijbgopcmohhaaGreatXWA
set_option linter.unusedVariables false
set_option linter.unusedSimpArgs false
set_option linter.unusedSectionVars false
set_option linter.constructorNameAsVariable false
set_option linter.unnecessarySimpa false
noncomputable section
namespace Go.Gv
noncomputable section
variable {P:Program} {T:TT} {n:Nat} {B:Bl} {e:SE} {a:Act} {o:Oper} {w w':World} {x y:Operand} {c:Ctx} {L:List Ch}
theorem Y1{ops:Array Oper}(h:BR ops e o.guard=.yes):Want ops o (vE B e) true:=by
 unfold BR at h;split at h
 ·exact bZ (by assumption)
 ·rename_i j w hg;split at h
  ·rename_i q hq;split at h
   ·rename_i s hs;have hj:(ops[j]?).bind (·.dst)=some s:=by rw[<-Array.getElem?_toList,hq];exact hs
    split at h
    ·rename_i c hl;have hv:lk (vE B e) s=some (.bool c):=by rw[aHK hl];rfl
     refine cC hg hj hv ?_;split at h<;>first | rfl | cases h
    all_goals cases h
   ·cases h
  ·cases h
theorem a79{ops:Array Oper}(h:BR ops e o.guard=.no):Want ops o (vE B e) false:=by
 unfold BR at h;split at h
 ·cases h
 ·rename_i j w hg;split at h
  ·rename_i q hq;split at h
   ·rename_i s hs;have hj:(ops[j]?).bind (·.dst)=some s:=by rw[<-Array.getElem?_toList,hq];exact hs
    split at h
    ·rename_i c hl;have hv:lk (vE B e) s=some (.bool c):=by rw[aHK hl];rfl
     refine cC hg hj hv ?_;cases c<;>cases w<;>first | rfl | cases h
    ·rename_i hl;exact a4V hg hj (by rw[aHK hl];rfl)
    all_goals cases h
   ·cases h
  ·cases h
theorem aO8{m:Nat}:∀{L:List Ch},S1 m L=true->∃i cs,L[i]?=some (.box m cs)/\JR m L=some cs/\∀cs',yS m cs' L=L.set i (.box m cs')
 | [],h=>by cases h
 | x :: L, h => by
  have ih:S1 m L=true->JR m (x :: L)=JR m L->(∀cs',yS m cs' (x :: L)=x :: yS m cs' L)->∃i cs,(x :: L)[i]?=some (.box m cs)/\JR m (x :: L)=some cs/\∀cs',yS m cs' (x :: L)=(x :: L).set i (.box m cs'):=fun h h2 h3=>by obtain⟨i,cs,g1,g2,g3⟩:=aO8 h;exact⟨i+1,cs,by grind,by rw[h2,g2],fun cs'=>by grind⟩
  cases x with
  | box k cs =>
   simp only[S1] at h;split at h
   ·rename_i hb;have:=qG hb;subst this;exact⟨0,cs,rfl,by grind[JR],fun cs'=>by grind[yS]⟩
   grind[JR,yS]
  | ro k cs =>
   grind[S1,JR,yS]
  | o ch=>exact ih h rfl (fun _=>rfl)
  | f g=>exact ih h rfl (fun _=>rfl)
  | no=>exact ih h rfl (fun _=>rfl)
  | w k b z=>exact ih h rfl (fun _=>rfl)
theorem aW2(hT:GP P T)(hA:hY n B e a)(hS:mN c w B L){t:TypeId}{p v:SV}{L':List Ch}(ho:o.op=.store t x y)(hx:jC e x=some p)(hy:jC e y=some v)(h:YY T t p v L=some L'):∃w',aYW P o (vE B e) w w'/\mN c w' B L':=by
 unfold YY at h;split at h
 ·rename_i m j;split at h
  ·rename_i hb;split at h
   ·rename_i cs _ _ sz _ h1 h2;split at h
    ·rename_i h3 h4 h5;split at h
     case h_2=>cases h
     rename_i ds hds;have h4:=qG h4;have h5:=LA h5;have:=RJ hds;rw[aM4 _ _ _ (by omega)] at this;subst this;split at h
     case h_2=>cases h
     rename_i L2 hL2;cases h;have:=RJ hL2;subst this;obtain⟨i,cs',g1,g2,g3⟩:=aO8 hb;rw[h1] at g2;cases g2;obtain⟨pv,hp1,hp2⟩:=fL hA hx;obtain⟨u,hu1,hu2⟩:=fL hA hy;obtain⟨vs,hv⟩:=Y0 h3 hu1;obtain⟨b,z,rs,k1,k2,_⟩:=hS.cells h1;simp only[fF,gV,bR,k1] at hp1;cases hp1;have hl:=lL hv;have hl2:=lL k2;obtain⟨⟨R,s1,s2⟩,s0⟩:=hS;have hlt:=(CI.1 g1).1;have gi:(L.map (lD B))[i]?=some (RI B m cs):=by rw[HP,g1];rfl
     have s3:St c w ((L.map (lD B)).set i (UC b z rs)) R:=s1.imp (jX.put i gi fun F ⟨b',z',vs',q1,q2,q3⟩=>by
      grind)
     obtain⟨w2,r1,r2⟩:=bBO (P:=P) (o:=o) (e:=vE B e) (b:=b) (q:=z) (cs:=rs) (vs:=vs) (j:=j) (m:=sz) s3 (i:=i) (by grind) ho hp2 hu2 (P8 hu1 hv) (hT.size _ _ h2) (by omega) (Nat.ble_eq_true_of_le (by omega)) (UF.2 fun q hq=>by
      obtain⟨k,hk⟩:=aG0 hq;have hk2:k<(pW v).length:=by grind
      obtain⟨q',hq1,hq2⟩:=P5 hv (kG hk2);grind[aHJ])
     refine⟨w2,r1,⟨⟨R,?_,?_⟩,s0⟩⟩
     ·rw[aOW] at r2;rw[g3,SX];exact r2.imp (jX.set i (jX.refl _) fun F hF=>⟨b,z,_,k1,aAB j k2 hv,hF⟩)
     ·rw[g3];intro q hq;rcases uY hq with hq | hq
      ·grind
      ·subst hq;trivial
    ·cases h
   ·cases h
  ·cases h
 ·cases h
theorem mN.box(hS:mN c w B L){w':World}{b:Nat}{cs:List SV}{vs:List Value}(hc:aU (bR B) cs=some vs)(h:∀M R,St c w M R->St c w' (M ++ [FF b vs]) R):mN c w' (B ++ [(b,0)]) (L ++ [.box B.length cs]):=by
 obtain⟨⟨R,s1,s2⟩,s0⟩:=hS;refine⟨⟨R,?_,?_⟩,s0⟩
 ·rw[uX];refine(h _ _ s1).imp (jX.append (WY _ L) (.cons (fun F hF=>⟨b,0,vs,by simp,eS (fun _ _=>gC _) hc,hF⟩) .nil))
 ·intro q hq;rcases fB.1 hq with hq | hq
  ·grind[aM2]
  ·simp at hq;subst hq;trivial
theorem a0I(hT:GP P T)(hS:mN c w B L){t:TypeId}{i:TI}{E:Env}(ho:o.op=.alloc t)(h:CM T t=some i):∃v w' b,eJ P o E w v w'/\v=.pointer (some ⟨b,0,none⟩)/\mN c w' (B ++ [(b,0)]) (L ++ [.box B.length i.z]):=by obtain⟨z,hz,hzc⟩:=hT.zero _ _ h;have hzc':aU (bR B) i.z=some z.cells.toList:=eS (fun x v h=>by simpa using gC (B:=[]) B h) hzc;refine⟨_,_,w.heap.size,fun _ a hA=>?_,rfl,hS.box hzc' fun M R hM=>hM.alloc z.cells.toList t⟩;simp_all[execOp,Instr.alloc,newVar,newRow]
theorem a9S(hA:hY n B e a)(hS:mN c w B L){t:TypeId}{v:SV}(ho:o.op=.box t x)(h:jC e x=some v)(hc:isCells v=true):∃u w' b,eJ P o (vE B e) w u w'/\u=.pointer (some ⟨b,0,none⟩)/\mN c w' (B ++ [(b,0)]) (L ++ [.box B.length (pW v)]):=by obtain⟨u,h1,h2⟩:=fL hA h;obtain⟨vs,h3⟩:=Y0 hc h1;have h4:=P8 h1 h3;subst h4;refine⟨_,_,w.heap.size,fun _ a hA=>?_,rfl,hS.box h3 fun M R hM=>hM.alloc u.cells.toList t⟩;simp[execOp,ho,Instr.box,hA.eval h2,newVar,newRow]
end
structure Gx where
 P:Program
 T:TT
 hT:GP P T
 n:Nat
 c:Ctx
 B0:Bl
 N:Act->World->Prop
 X:Nat->Act->World->Prop
 Q:Act->World->Prop
abbrev Rel(g:Gx)(m:Nat)(e:SE)(L:List Ch)(a:Act)(w:World):Prop:=pA g.n g.c g.B0 m e L a w
mutual
def NK(g:Gx):List Fr->Act->World->Prop
 | []=>g.N
 | .s y :: K=>fun a w=>CW g.P y (NK g K) (XK g K) g.Q a w
 | .k _ :: K=>NK g K
def XK(g:Gx):List Fr->Nat->Act->World->Prop
 | []=>g.X
 | .s _ :: K=>XK g K
 | .k id :: K=>aG5 id (NK g K) (XK g K)
end
structure aCM (g:Gx) (B1:Bl) (ops:Array Oper) (l:List Bool) (is:List Nat) (Lf L:List Ch):Prop where
 pre:∃B,B1=g.B0++B
 len:l.length=ops.size
 free:aO6 ops=true
 yT:kl L is=Lf
 rng:∀j∈is,j<L.length
 okf:okL B1.length Lf=true
 ap:dI is=true
abbrev Sd(g:Gx)(B1:Bl)(Lf:List Ch):World->Prop:=fun w=>mN g.c w B1 Lf
def bBV(g:Gx)(B1:Bl)(Lf Lv:List Ch)(m:Nat)(e:SE)(L:List Ch)(a:Act)(w:World):Prop:=∃B,(B1++B).length=m/\hY g.n (B1++B) e a/\mN g.c w (B1++B) L/\∀w',mN g.c w' B1 Lf->mN g.c w' (B1++B) Lv
def G(g:Gx)(K:List Fr)(m:Nat)(e:SE)(L:List Ch):vT->Prop
 | .n=>∀a w,Rel g m e L a w->NK g K a w
 | .c x=>∀a w,Rel g m e L a w->CW g.P x (NK g K) (XK g K) g.Q a w
 | .r ops l=>∀a w,Rel g m e L a w->wpList g.P ops (mkQ (NK g K) (XK g K) g.Q) l a w
 | .d B1 ops l is Lf Lv=>aCM g B1 ops l is Lf L->∀a w,bBV g B1 Lf Lv m e L a w->wpAnyH g.P .any ops (mkQ (NK g K) (XK g K) g.Q) (Sd g B1 Lf) (l.count false) l.toArray a w
 | .o B1 ops l is Lf Lv i=>aCM g B1 ops l is Lf L->∀a w,bBV g B1 Lf Lv m e L a w->wpOp g.P ops (mkQ (NK g K) (XK g K) g.Q) i (fun a' w'=>Sd g B1 Lf w'/\wpAnyH g.P .any ops (mkQ (NK g K) (XK g K) g.Q) (Sd g B1 Lf) ((l.set i true).count false) (l.set i true).toArray a' w') a w
def Y2(g:Gx):vT->Bl
 | .d B1 _ _ _ _ _=>B1
 | .o B1 _ _ _ _ _ _=>B1
 | _=>g.B0
def Frz(g:Gx)(cf:vT)(L L':List Ch):Prop:=match cf with
 | .d B1 ops l is Lf _=>aCM g B1 ops l is Lf L->kl L' is=Lf/\∀j∈is,j<L'.length
 | .o B1 ops l is Lf _ _=>aCM g B1 ops l is Lf L->kl L' is=Lf/\∀j∈is,j<L'.length
 | _=>True
def aAF(g:Gx)(K:List Fr)(m:Nat)(e:SE)(L:List Ch)(o:Oper)(Lv:List Ch)(cf cf':vT):Prop:=
 ∀(d:Nat) (x:SV) (Ln:List Ch) (nb:World->Bl) (k:Nat),o.dst=some d->(∀w,(nb w).length=k) ->
  (∀B a w,hY g.n B e a->mN g.c w B Lv->B.length=m->∃v,fF (B++nb g.c.w0) x=some v/\eJ g.P o (vE B e) w v w) ->
  (∀B w L,B.length=m->mN g.c w B L->mN g.c w (B++nb g.c.w0) (L++Ln)) ->
  G g K (m+k) ((d,x) :: e) (L++Ln) (cf'.ext Ln)->G g K m e L cf
def aD3(g:Gx)(K:List Fr)(m:Nat)(e:SE)(L:List Ch)(o:Oper)(cf cf':vT):Prop:=
 ∀(ι:Type) (m':ι->Nat) (e':ι->SE) (L':ι->List Ch),(∀i,Frz g cf L (L' i)) ->
  (∀B a w (next:Act->World->Prop) (Q:Exit->Act->World->Prop),(Y2 g cf++B).length=m->hY g.n (Y2 g cf++B) e a->mN g.c w (Y2 g cf++B) L->(∀i a' w',pA g.n g.c (Y2 g cf++B) (m' i) (e' i) (L' i) a' w'->next a' w')->o.wp g.P a w next Q) ->
  (∀i,G g K (m' i) (e' i) (L' i) cf')->G g K m e L cf
def Gs(g:Gx):Stop->Prop
 | .ret m e L=>∀a w,Rel g m e L a w->g.Q a w
 | .fin m e L=>∀a w,Rel g m e L a w->g.N a w
 | .ex id m e L=>∀a w,Rel g m e L a w->g.X id a w
 | .cond o b x y K m e L=>jC e o=some (.b b)->G g K m e L (.c (.cond o x y))
 | .case _ cf K m e L=>G g K m e L cf
 | .loop id y K m e L=>G g K m e L (.c (.block id (.loop y)))
 | .idx o d t s n i Lv cf cf' K m e L=>(∀x y,o.op=.indexAddr t x y->o.dst=some d->jC e x=some (.h s n)->jC e y=some (.i .i64 i)->aAF g K m e L o Lv cf cf'->G g K m e L cf)
 | .call o d f xs cf cf' K m e L=>(∀fo args ats,o.op=.call {callee:=.value fo,args:=args,argTypes:=ats}->o.dst=d->jC e fo=some (.f f [])->(∃ys,aU (jC e) args.toList=some ys/\nbA ys=xs)->okA xs=true->qT g.n d=true->aD3 g K m e L o cf cf'->G g K m e L cf)
 | .callp o d f xs cf cf' K m e L=>(∀fo args ats,o.op=.call {callee:=.value fo,args:=args,argTypes:=ats}->o.dst=d->jC e fo=some (.f f [])->(∃ys,aU (jC e) args.toList=some ys/\nbA ys=xs)->qT g.n d=true->aD3 g K m e L o cf cf'->G g K m e L cf)
 | .op o Lv cf cf' K m e L=>qT g.n o.dst=true->aAF g K m e L o Lv cf cf'->aD3 g K m e L o cf cf'->G g K m e L cf
 | .opp o Lv cf cf' K m e L=>qT g.n o.dst=true->aAF g K m e L o Lv cf cf'->G g K m e L cf
 | .rgn id ops K m e L=>G g K m e L (.c (.region id ops true))
 | .alt cf K m e L=>G g K m e L cf
 | .stuck=>False
noncomputable section
variable {g:Gx} {K:List Fr} {m:Nat} {e:SE} {L:List Ch}
theorem a8A{a:Act}{w:World}:∀{K:List Fr},(match pop K with | some (y,K')=>CW g.P y (NK g K') (XK g K') g.Q a w | none=>g.N a w)->NK g K a w
 | [],h=>by simpa[pop,NK] using h
 | .s y :: K,h=>by simpa[pop,NK] using h
 | .k _ :: K, h => by have:NK g K a w:=a8A (by grind[pop]);simp_all[NK]
theorem a0J{a:Act}{w:World}{id:Nat}:∀{K:List Fr},(match xit id K with | some K'=>NK g K' a w | none=>g.X id a w)->XK g K id a w
 | [],h=>by simpa[xit,XK] using h
 | .s y :: K, h => by have:XK g K id a w:=a0J (by grind[xit]);simp_all[XK]
 | .k j :: K, h => by
  simp only[xit] at h;simp only[XK,aG5];cases hb:Nat.beq id j with
  | true =>
   simp_all
  | false =>
   rw[hb] at h;rw[if_neg (fun e=>by simp_all)];exact a0J h
theorem aUU{F:Nat}(ih:∀K c m e L,Gs g (stp g.T g.n F K c m e L)->G g K m e L c)(h:Gs g (match pop K with | some (y,K')=>stp g.T g.n F K' (.c y) m e L | none=>.fin m e L)):∀a w,Rel g m e L a w->NK g K a w:=fun a w hr=>by
 refine a8A ?_;split
 ·rename_i y K' hp;rw[hp] at h;exact ih _ _ _ _ _ h a w hr
 ·rename_i hp;rw[hp] at h;exact h a w hr
theorem hY.ext{n:Nat}{B nb:Bl}{a a':Act}{d:Nat}{x:SV}{v:Value}(hA:hY n B e a)(hx:fF (B++nb) x=some v)(hA':mQ n ((d,v) :: vE B e) a'):hY n (B++nb) ((d,x) :: e) a':=by
 refine(hA.app nb).of hx ⟨hA'.d,hA'.size,fun k u hk=>?_⟩;simp only[lk] at hk;cases hb:Nat.beq k d with
 | true=>rw[hb] at hk;exact hA'.get k u (by grind[lk])
 | false =>
  rw[hb] at hk;obtain⟨y,h2,h3⟩:=aZ7 hk;obtain⟨u2,h4,h5⟩:=hA.get k y h2;rw[vB nb h4] at h3;refine hA'.get k u ?_;grind[lk,aHK]
theorem a5J{ops:Array Oper}{l:List Oper}{o:Oper}(hg:BR ops e o.guard=.yes)(hd:qT g.n o.dst=true):aAF g K m e L o L (.r ops (o :: l)) (.r ops l):=by
 intro d x Ln nb k hdst hk hv hs hG a w ⟨B,hm,hA,hS⟩;obtain⟨v,h1,h2⟩:=hv _ a w hA hS hm;rw[hdst] at hd;refine fZ h2 (Y1 hg) hdst hd (fun a' hA'=>hG a' w ⟨B++nb g.c.w0,?_,?_,?_⟩) a hA.env
 ·grind
 ·rw[<-qE];exact hA.ext h1 hA'
 grind
theorem aUV{ops:Array Oper}{l:List Oper}{o:Oper}(hg:BR ops e o.guard=.yes):aD3 g K m e L o (.r ops (o :: l)) (.r ops l):=by intro ι m' e' L' _ hrun hG a w hr;have ⟨B,hm,hA,hS⟩:=hr;refine wpList_step fun K' hK=>?_;rw[Y1 hg _ a hA.env,if_pos rfl];exact hrun B a w K' _ hm hA hS (fun i a' w' ⟨B',h1,h2,h3⟩=>hK a' w' (hG i a' w' ⟨B++B',by rw[<-qE];exact h1,by rw[<-qE];exact h2,by rw[<-qE];exact h3⟩))
theorem aCM.S{B1:Bl}{ops:Array Oper}{l:List Bool}{is:List Nat}{Lf:List Ch}(h:aCM g B1 ops l is Lf L){w:World}{B:Bl}(hS:mN g.c w (B1++B) L):mN g.c w B1 Lf:=by have h1:=a0G hS is h.ap;rw[h.yT] at h1;have h2:=aAE h1 h.okf;grind
theorem aCN{d:Edge}:Region.binds .any d=aZ3 d.ground:=by
 cases d with
 | mk on g=>cases g<;>rfl
theorem aGB{l:List Bool}:∀{es:List Edge},OK l es=true↔∀d∈es,Region.binds .any d=true->l[d.on]?=some true
 | []=>by simp[OK]
 | ⟨on, gr⟩ :: r => by
  have ih:=aGB (l:=l) (es:=r);simp only[OK,jA,forall_eq_or_imp,aCN];cases hb:aZ3 gr with
  | true =>
   simp only;split
   ·rename_i h1;rw[ih];simp[h1,aCN]
   ·rename_i h1;constructor
    ·intro h;cases h
    ·intro h;exact absurd (h.1 trivial) (by simpa using h1)
  | false=>grind[aCN]
theorem W0{ops:Array Oper}{l:List Bool}(hl:l.length=ops.size){j:Nat}:j∈Region.ready .any ops l.toArray↔l[j]?=some false/\∃o,ops.toList[j]?=some o/\OK l o.after.toList=true:=by
 rw[mem_ready];have h1:(l.toArray.getD j true=false)↔l[j]?=some false:=by rw[Array.getD_eq_getD_getElem?,List.getElem?_toArray];grind
 rw[h1];refine and_congr_right fun _=>?_;constructor
 ·rintro⟨o,h2,h3⟩;refine⟨o,by grind,aGB.2 fun d hd hb=>?_⟩;have:=h3 d (by grind) hb;rw[Array.getD_eq_getD_getElem?,List.getElem?_toArray] at this;grind
 simp_all[aGB]
theorem aCO{i:Nat}:∀{es:List Edge},YZ i es=true↔∃d∈es,Region.binds .any d=true/\d.on=i
 | []=>by simp[YZ]
 | ⟨on, gr⟩ :: r => by
  have ih:=aCO (i:=i) (es:=r);simp only[YZ,jA,exists_eq_or_imp,aCN];cases hb:aZ3 gr with
  | true =>
   simp only;cases hi:Nat.beq on i with
   | true=>simp_all
   | false =>
    simp only;have hne:on≠i:=fun h=>by simp_all
    grind[aCN]
  | false=>grind[aCN]
theorem a5K{ops:Array Oper}{l:List Bool}(hl:l.length=ops.size)(hf:aO6 ops=true){i:Nat}{o:Oper}(ho:ops.toList[i]?=some o)(hr:OK l o.after.toList=true):Region.noSelect ops=true/\Region.free .any ops l.toArray i=true:=by
 unfold aO6 at hf;rw[BN,UF] at hf;refine⟨hf.1,?_⟩;unfold Region.free;have hoi:ops[i]?=some o:=by grind
 rw[hoi];simp only[UF,List.mem_range];intro j hj;have hoj:ops[j]?=some ops[j]:=by simp[hj]
 rw[hoj];simp only[Bool.or_eq_true,beq_iff_eq];by_cases hji:j=i
 ·omega
 ·have h1:=hf.2 (o,i) (List.mk_mem_zipIdx_iff_getElem?.2 ho);rw[UF] at h1;have h2:=h1 (ops[j],j) (List.mk_mem_zipIdx_iff_getElem?.2 (by simp[hj]));simp only[Bool.or_eq_true] at h2;rcases h2 with ((h2 | h2) | h2) | h2
  ·simp_all
  ·obtain⟨d,hd,hb,he⟩:=aCO.1 h2;refine .inr (.inl ?_);rw[<-Array.any_toList,List.any_eq_true];grind
  ·obtain⟨d,hd,hb,he⟩:=aCO.1 h2;have:=aGB.1 hr d hd hb;simp_all
  grind
theorem count_set{l:List Bool}:∀{i:Nat},l[i]?=some false->l.count false=(l.set i true).count false+1:=by grind
theorem aR7{B1:Bl}{ops:Array Oper}{l:List Bool}{is:List Nat}{Lf:List Ch}{i:Nat}{o:Oper}{d:Nat}{v:Value}{a:Act}{w:World}{B:Bl}(hD:aCM g B1 ops l is Lf L)(ho:ops.toList[i]?=some o)(hl:l[i]?=some false)(hr:OK l o.after.toList=true)(hdst:o.dst=some d)(hdn:Nat.blt d g.n=true)(hA:hY g.n (B1++B) e a)(hS:mN g.c w (B1++B) L)
  (hy:(Want ops o (vE (B1++B) e) true/\∀w',Sd g B1 Lf w'->eJ g.P o (vE (B1++B) e) w' v w')\/(Want ops o (vE (B1++B) e) false/\v=undef))
  (k:∀a',mQ g.n ((d,v) :: vE (B1++B) e) a'->wpAnyH g.P .any ops (mkQ (NK g K) (XK g K) g.Q) (Sd g B1 Lf) ((l.set i true).count false) (l.set i true).toArray a' w):wpAnyH g.P .any ops (mkQ (NK g K) (XK g K) g.Q) (Sd g B1 Lf) (l.count false) l.toArray a w:=by
 obtain⟨f1,f2⟩:=a5K hD.len hD.free ho hr;rw[count_set hl];refine wpAnyH_take (v:=v) (by simpa using ho) f1 f2 (by simpa using (W0 hD.len).2 ⟨hl,o,ho,hr⟩) (fun _ _ _ h=>h.elim) ?_ (hD.S hS) ?_
 ·rcases hy with ⟨h1,h2⟩ | ⟨h1,h2⟩
  ·exact .inl ⟨h1 _ a hA.env,fun w' hS'=>h2 w' hS' _ a hA.env⟩
  ·exact .inr ⟨h1 _ a hA.env,h2⟩
 ·rw[hdst];have:=k _ (hA.env.put (by simp_all) v);grind
theorem aCM.set{B1:Bl}{ops:Array Oper}{l:List Bool}{is:List Nat}{Lf L':List Ch}(h:aCM g B1 ops l is Lf L)(i:Nat)(hz:kl L' is=Lf/\∀j∈is,j<L'.length):aCM g B1 ops (l.set i true) is Lf L':=
 ⟨h.pre,by simpa using h.len,h.free,hz.1,hz.2,h.okf,h.ap⟩
theorem a0K{L Ln:List Ch}:∀{is:List Nat},(∀j∈is,j<L.length)->kl (L++Ln) is=kl L is
 | [],_=>rfl
 | i :: is, h => by simp only[kl,aOV (h i (by simp)),a0K (fun j hj=>h j (o7 _ hj))]
theorem aCM.aHN{B1:Bl}{ops:Array Oper}{l:List Bool}{is:List Nat}{Lf:List Ch}(h:aCM g B1 ops l is Lf L)(Ln:List Ch):kl (L++Ln) is=Lf/\∀j∈is,j<(L++Ln).length:=
 ⟨by rw[a0K h.rng];exact h.yT,fun j hj=>by have:=h.rng j hj;simp;omega⟩
theorem a5L{B1:Bl}{ops:Array Oper}{l:List Bool}{is:List Nat}{Lf Lv:List Ch}{i:Nat}{o:Oper}(ho:ops.toList[i]?=some o)(hl:l[i]?=some false)(hr:OK l o.after.toList=true)(hg:BR ops e o.guard=.yes)(hd:qT g.n o.dst=true):aAF g K m e L o Lv (.d B1 ops l is Lf Lv) (.d B1 ops (l.set i true) is Lf Lv):=by
 intro d x Ln nb k hdst hk hv hs hG hD a w ⟨B,hm,hA,hS,hV⟩;rw[hdst] at hd;obtain⟨v,h1,h2⟩:=hv _ a w hA (hV w (hD.S hS)) hm;refine aR7 (v:=v) hD ho hl hr hdst hd hA hS (.inl ⟨Y1 hg,fun w' hS'=>?_⟩) fun a' hA'=>?_
 ·obtain⟨v',h3,h4⟩:=hv _ a w' hA (hV w' hS') hm;rw[h1] at h3;cases h3;exact h4
 ·refine hG (hD.set i (hD.aHN Ln)) a' w ⟨B++nb g.c.w0,?_,?_,?_,fun w' hS'=>?_⟩
  ·rw[<-qE,C1,hm,hk]
  ·rw[<-qE];exact hA.ext h1 hA'
  ·rw[<-qE];exact hs _ w _ hm hS
  ·rw[<-qE];exact hs _ w' _ hm (hV w' hS')
theorem aO9{l:List Bool}{i:Nat}:∀{os:List Oper} {j0:Nat},aD2 l i os j0=true->∀j o,os[j]?=some o->l[j0+j]?=some false->(OK l o.after.toList=true↔j0+j=i)
 | [],_,_,j,o,h,_=>by simp at h
 | p :: os, j0, h, j, o, hj, hl => by
  simp only[aD2] at h;cases j with
  | zero =>
   simp at hj;subst hj;simp only[SY] at hl ⊢;rw[hl] at h;simp only at h;cases hb:Nat.beq j0 i with
   | true =>
    grind[qG]
   | false =>
    rw[hb] at h;simp only at h;have hne:j0≠i:=fun h=>by simp_all
    grind
  | succ j =>
   have h':aD2 l i os (j0+1)=true:=by grind
   have:=aO9 h' j o (by grind) (by grind);grind
theorem a5M{B1:Bl}{ops:Array Oper}{l:List Bool}{is:List Nat}{Lf Lv:List Ch}{i:Nat}{o:Oper}(ho:ops.toList[i]?=some o)(hg:BR ops e o.guard=.yes):aD3 g K m e L o (.o B1 ops l is Lf Lv i) (.d B1 ops (l.set i true) is Lf Lv):=by
 intro ι m' e' L' hz hrun hG hD a w hr;have ⟨B,hm,hA,hS,hV⟩:=hr;unfold wpOp;have hoi:ops[i]?=some o:=by grind
 simp only[hoi,Y1 hg _ a hA.env,if_true];refine .inl (hrun B a w _ _ hm hA hS fun j a' w' h=>?_);have hD':=hD.set i (hz j hD);obtain⟨B',q1,q2,q3⟩:=h;refine⟨?_,?_⟩
 ·refine hD'.S (B:=B++B') ?_;rw[<-qE];exact q3
 ·have:=hG j hD' a' w' ⟨B++B',by rw[<-qE];exact q1,by rw[<-qE];exact q2,by rw[<-qE];exact q3,fun w2 h2=>by rw[<-qE];exact(hV w2 h2).app B'⟩;omega
theorem a5N{B1:Bl}{ops:Array Oper}{l:List Bool}{is:List Nat}{Lf Lv:List Ch}{i:Nat}{o:Oper}(ho:ops.toList[i]?=some o)(hg:BR ops e o.guard=.yes)(hd:qT g.n o.dst=true):aAF g K m e L o Lv (.o B1 ops l is Lf Lv i) (.d B1 ops (l.set i true) is Lf Lv):=by
 intro d x Ln nb k hdst hk hv hs hG hD a w ⟨B,hm,hA,hS,hV⟩;rw[hdst] at hd;obtain⟨v,h1,h2⟩:=hv _ a w hA (hV w (hD.S hS)) hm;unfold wpOp;have hoi:ops[i]?=some o:=by simpa using ho
 simp only[hoi,Y1 hg _ a hA.env,if_true];refine .inl ?_;unfold Oper.wp;rw[h2 _ a hA.env,Oper.upon_value,hdst];have hA':=hA.env.put (show d<g.n by simpa[qT,vV] using hd) v;refine⟨hD.S hS,hG (hD.set i (hD.aHN Ln)) _ w ⟨B++nb g.c.w0,?_,?_,?_,fun w' hS'=>?_⟩⟩
 ·rw[<-qE,C1,hm,hk]
 ·rw[<-qE];exact hA.ext h1 hA'
 ·rw[<-qE];exact hs _ w _ hm hS
 ·rw[<-qE];exact hs _ w' _ hm (hV w' hS')
theorem aLR{l:List Bool}{j:Nat}:∀{os:List Oper} {j0:Nat} {o:Oper},os[j]?=some o->l[j0+j]?=some false->OK l o.after.toList=true->j0+j∈vW l os j0:=by
 intro os;induction os generalizing j with
 | nil=>simp
 | cons p os ih =>
  intro j0 o h hl hr;cases j with
  | zero =>
   simp_all[vW]
  | succ j =>
   have h2:=ih (j:=j) (j0:=j0+1) (o:=o) (by grind) (by grind) hr;grind[vW]
theorem bBW{B1:Bl}{ops:Array Oper}{l:List Bool}{is:List Nat}{Lf Lv:List Ch}(hex:∃i,i∈vW l ops.toList 0)(h:∀i∈vW l ops.toList 0,G g K m e L (.o B1 ops l is Lf Lv i))(hok:∀i∈vW l ops.toList 0,l[i]?=some false/\∃o,ops.toList[i]?=some o/\OK l o.after.toList=true):G g K m e L (.d B1 ops l is Lf Lv):=by intro hD a w hr;obtain⟨i0,hi0⟩:=hex;obtain⟨q1,q2⟩:=hok i0 hi0;have hm:i0∈Region.ready .any ops l.toArray:=(W0 hD.len).2 ⟨q1,q2⟩;rw[count_set q1];refine⟨fun h=>(by grind),fun j hj=>?_⟩;obtain⟨h1,p,h2,h3⟩:=(W0 hD.len).1 hj;have h4:=aLR (j0:=0) h2 (by grind) h3;rw[YA] at h4;have h5:=h j h4 hD a w hr;grind
theorem aHO{l:List Bool}{i:Nat}:∀{os:List Oper} {j0:Nat},i∈vW l os j0->l[i]?=some false/\∃j o,os[j]?=some o/\j0+j=i/\OK l o.after.toList=true:=by
 intro os;induction os with
 | nil=>intro j0 h;cases h
 | cons p os ih =>
  intro j0 h;have tail:i∈vW l os (j0+1)->l[i]?=some false/\∃j o,(p :: os)[j]?=some o/\j0+j=i/\OK l o.after.toList=true:=fun h=>by obtain⟨h1,j,o,h2,h3,h4⟩:=ih h;exact⟨h1,j+1,o,by grind,by omega,h4⟩
  simp only[vW] at h;split at h
  ·rename_i hl;split at h
   ·rename_i hr;rcases jA.1 h with h | h
    ·subst h;grind
    grind
   grind
  grind
theorem a0L{B1:Bl}{ops:Array Oper}{l:List Bool}{is:List Nat}{Lf Lv:List Ch}{i0:Nat}{r:List Nat}(hr:vW l ops.toList 0=i0 :: r)(h:∀i∈i0 :: r,G g K m e L (.o B1 ops l is Lf Lv i)):G g K m e L (.d B1 ops l is Lf Lv):=
 bBW ⟨i0,by grind⟩ (fun i hi=>h i (by grind)) fun i hi=>by obtain⟨h1,j,o,h2,h3,h4⟩:=aHO hi;grind
theorem a5O{l:List Bool}{i:Nat}{ops:Array Oper}(h:aD2 l i ops.toList 0=true):∀j∈vW l ops.toList 0,j=i:=fun j hj=>by obtain⟨h1,k,o,h2,h3,h4⟩:=aHO hj;rw[YA] at h3;grind[aO9]
def PsG(g:Gx)(K:List Fr)(m:Nat)(L:List Ch)(B1:Bl)(ops:Array Oper)(is:List Nat)(Lf Lv:List Ch):Ps->Prop
 | .bad=>False
 | .ask _ l e=>G g K m e L (.d B1 ops l is Lf Lv)
 | .pur j o l e=>ops.toList[j]?=some o->l[j]?=some false->OK l o.after.toList=true->BR ops e o.guard=.yes->G g K m e L (.d B1 ops l is Lf Lv)
 | .fin l e _=>G g K m e L (.d B1 ops l is Lf Lv)
theorem W2{B1:Bl}{ops:Array Oper}{is:List Nat}{Lf Lv:List Ch}:∀(r:List Oper) (i:Nat) (l:List Bool) (e:SE) (q:List (Nat×Oper)),(∀j,r[j]?=ops.toList[i+j]?) ->
  PsG g K m L B1 ops is Lf Lv (pass g.T g.n ops Lv r i l e q)->G g K m e L (.d B1 ops l is Lf Lv)
 | [], i, l, e, q, hr, h => by unfold pass at h;exact h
 | o :: r, i, l, e, q, hr, h => by
  have ho:ops.toList[i]?=some o:=by have:=hr 0;grind
  have hr':∀j,r[j]?=ops.toList[i+1+j]?:=fun j=>by have:=hr (j+1);grind
  unfold pass at h;cases hl:l[i]? with
  | none=>simp only[hl] at h;exact h.elim
  | some b =>
   cases b with
   | true=>simp only[hl] at h;exact W2 r (i+1) l e q hr' h
   | false =>
    cases hre:OK l o.after.toList with
    | false=>simp only[hl,hre] at h;exact W2 r (i+1) l e q hr' h
    | true =>
     cases hgd:BR ops e o.guard with
     | bad=>simp only[hl,hre,hgd] at h;exact h.elim
     | ask c=>simp only[hl,hre,hgd] at h;exact h
     | no =>
      cases hd:o.dst with
      | none=>simp only[hl,hre,hgd,hd] at h;exact h.elim
      | some d =>
       cases hb:Nat.blt d g.n with
       | false=>simp only[hl,hre,hgd,hd,hb] at h;exact h.elim
       | true =>
        simp only[hl,hre,hgd,hd,hb] at h;have ih:=W2 r (i+1) _ _ q hr' h;intro hD a w ⟨B,hm,hA,hS,hV⟩;refine aR7 (v:=undef) hD ho hl hre hd hb hA hS (.inr ⟨a79 hgd,rfl⟩) fun a' hA'=>?_;exact ih (hD.set i ⟨hD.yT,hD.rng⟩) a' w ⟨B,hm,hA.of (x:=.u) rfl hA',hS,hV⟩
     | yes =>
      cases hv:ev1 g.T e Lv o.op with
      | some v =>
       cases hd:o.dst with
       | none=>simp only[hl,hre,hgd,hv,hd] at h;exact h.elim
       | some d =>
        cases hb:Nat.blt d g.n with
        | false=>simp only[hl,hre,hgd,hv,hd,hb] at h;exact h.elim
        | true =>
         simp only[hl,hre,hgd,hv,hd,hb] at h;have ih:=W2 r (i+1) _ _ q hr' h;intro hD a w ⟨B,hm,hA,hS,hV⟩;obtain⟨u,h1,h2⟩:=aM5 g.hT hA (hV w (hD.S hS)) hv;refine aR7 (v:=u) hD ho hl hre hd hb hA hS (.inl ⟨Y1 hgd,fun w' hS'=>?_⟩) fun a' hA'=>?_
         ·obtain⟨u',h3,h4⟩:=aM5 (w:=w') g.hT hA (hV w' hS') hv;grind
         ·exact ih (hD.set i ⟨hD.yT,hD.rng⟩) a' w ⟨B,hm,hA.of h1 hA',hS,hV⟩
      | none =>
       cases hp:a76 o.op with
       | true=>simp only[hl,hre,hgd,hv,hp] at h;exact h ho hl hre hgd
       | false =>
        simp only[hl,hre,hgd,hv,hp] at h;exact W2 r (i+1) l e ((i,o) :: q) hr' h
theorem aUW:∀{l:List Bool} {i:Nat},a5E l=true->l[i]?≠some false
 | [],i,_=>by simp
 | b :: l, i, h => by
  unfold a5E at h;cases b with
  | false=>cases h
  | true =>
   cases i with
   | zero=>simp
   | succ i=>simpa using aUW (l:=l) (i:=i) h
theorem aLS{k:Nat}:∀{L:List Ch},S1 k L=true->∃i,(∀cs',yS k cs' L=L.set i (.box k cs'))/\∀k0,aMZ k L k0=k0+i
 | [],h=>by cases h
 | x :: L, h => by
  have ih:S1 k L=true->(∀cs',yS k cs' (x :: L)=x :: yS k cs' L)->(∀k0,aMZ k (x :: L) k0=aMZ k L (k0+1))->∃i,(∀cs',yS k cs' (x :: L)=(x :: L).set i (.box k cs'))/\∀k0,aMZ k (x :: L) k0=k0+i:=fun h h2 h3=>by obtain⟨i,g1,g2⟩:=aLS h;exact⟨i+1,fun cs'=>by grind,fun k0=>by grind⟩
  cases x with
  | box j cs =>
   simp only[S1] at h;split at h
   ·rename_i hb;exact⟨0,fun cs'=>by grind[yS,qG],fun k0=>by grind[aMZ]⟩
   simp_all[yS,aMZ]
  | ro j cs =>
   simp only[S1] at h;split at h
   ·cases h
   ·exact ih h (fun _=>rfl) (fun _=>rfl)
  | o ch=>exact ih h (fun _=>rfl) (fun _=>rfl)
  | f g=>exact ih h (fun _=>rfl) (fun _=>rfl)
  | no=>exact ih h (fun _=>rfl) (fun _=>rfl)
  | w k b z=>exact ih h (fun _=>rfl) (fun _=>rfl)
theorem aHP{i:Nat}:∀{is:List Nat},gL i is=true->i∉is
 | [],_=>by simp
 | j :: r, h => by
  unfold gL at h;cases hb:Nat.beq i j with
  | true=>grind
  | false =>
   rw[hb] at h;have hne:i≠j:=fun e=>by simp_all
   simpa[hne] using aHP h
theorem a0M{L:List Ch}{i:Nat}{x:Ch}:∀{is:List Nat},i∉is->kl (L.set i x) is=kl L is
 | [],_=>rfl
 | j :: is, h => by have hne:i≠j:=fun e=>h (by simp[e]);simp only[kl,List.getElem?_set_ne hne,a0M (fun hj=>h (o7 _ hj))]
theorem aR8{T:TT}{t:TypeId}{p v:SV}{L':List Ch}{x y:Operand}{is:List Nat}(h:YY T t p v L=some L')(hp:jC e x=some p)(hf:a9L e L is (.store t x y)=true)(hr:∀j∈is,j<L.length):kl L' is=kl L is/\∀j∈is,j<L'.length:=by
 unfold YY at h;split at h
 ·rename_i k o;split at h
  ·rename_i hb;split at h
   ·split at h
    ·split at h
     case h_2=>cases h
     split at h
     case h_2=>cases h
     rename_i L2 hL2;cases h;have:=RJ hL2;subst this;obtain⟨i,h1,h2⟩:=aLS hb;simp_all[a9L,aHP,a0M]
    ·cases h
   ·cases h
  ·cases h
 ·cases h
theorem a5P{a a':Act}{w':World}{B0 B:Bl}{d b:Nat}{cs:List SV}(hm:(B0++B).length=m)(hA:hY g.n (B0++B) e a)(hA':mQ g.n ((d,.pointer (some ⟨b,0,none⟩)) :: vE (B0++B) e) a')(hS':mN g.c w' ((B0++B) ++ [(b,0)]) (L ++ [.box (B0++B).length cs])):pA g.n g.c (B0++B) (m+1) ((d,.p m 0) :: e) (L ++ [.box m cs]) a' w':=by
 refine⟨[(b,0)],by grind,?_,?_⟩
 ·exact hA.ext (nb:=[(b,0)]) (x:=.p m 0) (by grind[fF,gV,bR]) hA'
 grind
theorem xJ{cf:vT}(Ln:List Ch):Frz g cf L (L++Ln):=by
 cases cf with
 | d B1 ops l is Lf Lv=>exact fun hD=>hD.aHN Ln
 | o B1 ops l is Lf Lv i=>exact fun hD=>hD.aHN Ln
 | _=>trivial
theorem aUX{T:TT}{op:Op}{v:SV}(h:eff T e L op=.val v):ev1 T e L op=some v:=by unfold eff at h;grind
theorem a5Q{T:TT}{op:Op}{cs:List SV}(h:eff T e L op=.box cs):(∃t i,op=.alloc t/\CM T t=some i/\cs=i.z)\/(∃t x v,op=.box t x/\jC e x=some v/\isCells v=true/\cs=pW v):=by unfold eff at h;grind
theorem a9T{T:TT}{op:Op}{L':List Ch}(h:eff T e L op=.st L'):∃t x y p v,op=.store t x y/\jC e x=some p/\YY T t p v L=some L':=by unfold eff at h;grind
theorem a5R{T:TT}{op:Op}{L':List Ch}(h:eff T e L op=.st L'):∃t x y p v,op=.store t x y/\jC e x=some p/\jC e y=some v/\YY T t p v L=some L':=by unfold eff at h;grind
theorem a0N{o:Oper}{cf cf':vT}(hE:aD3 g K m e L o cf cf') :
  (∀d cs,eff g.T e L o.op=.box cs->o.dst=some d->Nat.blt d g.n=true->Frz g cf L (L ++ [.box m cs])->G g K (m+1) ((d,.p m 0) :: e) (L ++ [.box m cs]) cf'->G g K m e L cf) /\
  (∀L',eff g.T e L o.op=.st L'->o.dst=none->Frz g cf L L'->G g K m e L' cf'->G g K m e L cf):=by
 refine⟨fun d cs hf hd hdn hz hG=>hE Unit (fun _=>m+1) (fun _=>(d,.p m 0) :: e) (fun _=>L ++ [.box m cs]) (fun _=>hz) (fun B a w next Q hm hA hS hnext=>?_) (fun _=>hG),fun L' hf hd hz hG=>hE Unit (fun _=>m) (fun _=>e) (fun _=>L') (fun _=>hz) (fun B a w next Q hm hA hS hnext=>?_) (fun _=>hG)⟩
 ·have fin:∀{u:Value} {w':World} {b:Nat},eJ g.P o (vE (Y2 g cf++B) e) w u w'->u=.pointer (some ⟨b,0,none⟩)->mN g.c w' ((Y2 g cf++B) ++ [(b,0)]) (L ++ [.box (Y2 g cf++B).length cs])->o.wp g.P a w next Q:=by intro u w' b hR hu hS';subst hu;unfold Oper.wp;rw[hR _ a hA.env,Oper.upon_value,hd];exact hnext () _ _ (a5P hm hA (hA.env.put (by simp_all) _) hS')
  rcases a5Q hf with ⟨t,i,ho,hl,rfl⟩ | ⟨t,x,v,ho,hv,hc,rfl⟩
  ·obtain⟨u,w',b,k1,k2,k3⟩:=a0I (E:=vE (Y2 g cf++B) e) g.hT hS ho hl;grind
  ·obtain⟨u,w',b,k1,k2,k3⟩:=a9S (P:=g.P) hA hS ho hv hc;grind
 ·obtain⟨t,x,y,p,v,ho,hx,hy,hs⟩:=a5R hf;obtain⟨w',k1,k2⟩:=aW2 g.hT hA hS ho hx hy hs;unfold Oper.wp;rw[k1 _ a hA.env,Oper.upon_skip,hd];exact hnext () _ _ ⟨[],by grind,by rw[FK];exact⟨hA.d,hA.size,hA.get⟩,by grind⟩
theorem a0O{o:Oper}{Lv:List Ch}{cf cf':vT}(h:Gs g (a5D e o Lv cf cf' K m L o.op))(hd:qT g.n o.dst=true)(hP:aAF g K m e L o Lv cf cf')(hE:aD3 g K m e L o cf cf'):G g K m e L cf:=by
 generalize hop:o.op=op at h;unfold a5D at h;split at h
 ·split at h
  ·exact h
  ·exact h.elim
 ·split at h
  ·rename_i h1 h2 h3;exact h _ _ hop h3 h1 h2 hP
  ·exact h hd hP hE
 ·split at h
  ·rename_i h1 h2;split at h
   ·rename_i hx;exact h _ _ _ hop rfl h1 ⟨_,h2,rfl⟩ hx hd hE
   ·exact h _ _ _ hop rfl h1 ⟨_,h2,rfl⟩ hd hE
  ·exact h hd hP hE
 ·exact h hd hP hE
theorem a5S{o:Oper}{Lv:List Ch}{cf cf':vT}(h:Gs g (a9K e o Lv cf cf' K m L o.op))(hd:qT g.n o.dst=true)(hP:aAF g K m e L o Lv cf cf'):G g K m e L cf:=by
 generalize hop:o.op=op at h;unfold a9K at h;split at h
 ·split at h
  ·exact h
  ·exact h.elim
 ·split at h
  ·rename_i h1 h2 h3;exact h _ _ hop h3 h1 h2 hP
  ·exact h hd hP
 ·exact h hd hP
theorem Y3 : ∀ (F : Nat) (K : List Fr) (c : vT) (m : Nat) (e : SE) (L : List Ch), Gs g (stp g.T g.n F K c m e L) -> G g K m e L c
 | 0,_,_,_,_,_,h=>h.elim
 | F + 1, K, .c x, m, e, L, h => by
  have ih:=Y3 F;unfold stp at h;cases x with
  | skip=>exact fun a w hr=>qJ (aUU ih h a w hr)
  | seq x y=>exact fun a w hr=>bV (ih _ _ _ _ _ h a w hr)
  | block id b =>
   simp only at h;split at h
   ·exact h
   ·exact fun a w hr=>mR (ih _ _ _ _ _ h a w hr)
  | exit id =>
   simp only at h;refine fun a w hr=>M6 (a0J ?_);cases hx:xit id K with
   | some K'=>rw[hx] at h;exact aUU ih h a w hr
   | none=>rw[hx] at h;exact h a w hr
  | ret=>exact fun a w hr=>BP (h a w hr)
  | cond o x y =>
   simp only at h;split at h
   ·rename_i c ho;intro a w hr;obtain⟨B,hm,hA,hS⟩:=hr;obtain⟨v,h1,h2⟩:=fL hA ho;cases h1;cases c with
    | true=>exact a8W hA.env h2 rfl (ih _ _ _ _ _ h a w ⟨B,hm,hA,hS⟩)
    | false=>exact bBM hA.env h2 rfl (ih _ _ _ _ _ h a w ⟨B,hm,hA,hS⟩)
   ·rename_i c ho;exact h ho
   ·exact h.elim
  | region id ops d =>
   cases d with
   | false=>exact fun a w hr=>aLK (ih _ _ _ _ _ h a w hr)
   | true=>exact h
  | _=>exact h.elim
 | F + 1, K, .n, m, e, L, h => by have ih:=Y3 F;unfold stp at h;exact fun a w hr=>aUU ih h a w hr
 | F + 1, K, .r ops [], m, e, L, h => by have ih:=Y3 F;unfold stp at h;exact fun a w hr=>aUU ih h a w hr
 | F + 1, K, .r ops (⟨dst, op, ty, ps, af, gd⟩ :: l), m, e, L, h => by
  have ih:=Y3 F;unfold stp at h;generalize hg:BR ops e gd=gv at h;cases gv with
  | bad=>exact h.elim
  | ask c=>exact h
  | no =>
   simp only at h;split at h
   ·rename_i d;split at h
    ·rename_i hd;intro a w ⟨B,hm,hA,hS⟩;exact gJ (a79 hg) rfl hd (fun a' hA'=>ih _ _ _ _ _ h a' w ⟨B,hm,hA.of (x:=.u) (v:=undef) rfl hA',hS⟩) a hA.env
    ·exact h.elim
   ·exact h.elim
  | yes =>
   simp only at h;have hE:=a0N (g:=g) (K:=K) (m:=m) (e:=e) (L:=L) (o:=⟨dst,op,ty,ps,af,gd⟩) (cf:=.r ops (⟨dst,op,ty,ps,af,gd⟩ :: l)) (cf':=.r ops l) (aUV hg);split at h
   ·rename_i d v hf;split at h
    ·rename_i hd;intro a w ⟨B,hm,hA,hS⟩;obtain⟨u,h1,h2⟩:=aM5 (o:=⟨_,op,ty,ps,af,gd⟩) g.hT hA hS (aUX hf);exact fZ h2 (Y1 hg) rfl hd (fun a' hA'=>ih _ _ _ _ _ h a' w ⟨B,hm,hA.of h1 hA',hS⟩) a hA.env
    ·exact h.elim
   ·rename_i d cs hf;split at h
    ·rename_i hd;exact hE.1 _ _ hf rfl hd trivial (ih _ _ _ _ _ h)
    ·exact h.elim
   ·rename_i L' hf;exact hE.2 _ hf rfl trivial (ih _ _ _ _ _ h)
   ·split at h
    ·rename_i hd;exact a0O h hd (a5J hg hd) (aUV hg)
    ·exact h.elim
   ·exact h.elim
 | F + 1, K, .d B1 ops l is Lf Lv, m, e, L, h => by
  have ih:=Y3 F;unfold stp at h;refine W2 ops.toList 0 l e [] (fun j=>by simp) ?_;generalize pass g.T g.n ops Lv ops.toList 0 l e []=ps at h;cases ps with
  | bad=>exact h.elim
  | ask c l' e'=>exact h
  | pur i o l' e' =>
   intro h1 h2 h3 h4;simp only at h;split at h
   ·grind[a5S,a5L]
   ·exact h.elim
  | fin l' e' q =>
   cases q with
   | nil =>
    simp only at h;split at h
    ·rename_i hall;intro hD a w hr;have hn:=ih _ _ _ _ _ h;obtain⟨B2,hB2⟩:=hD.pre;have hr':Rel g m e' L a w:=by obtain⟨B,hm,hA,hS,_⟩:=hr;subst hB2;exact⟨B2++B,by grind,by grind,by grind⟩
     have hempty:Region.ready .any ops l'.toArray=[]:=by refine List.eq_nil_iff_forall_not_mem.2 fun j hj=>?_;exact aUW hall ((W0 hD.len).1 hj).1
     exact wpAnyH_done hempty (hn a w hr') _
    ·exact h.elim
   | cons p q =>
    cases q with
    | cons p' q=>exact h
    | nil =>
     obtain⟨i,o⟩:=p;simp only at h;split at h
     ·rename_i hon;have ho:=ih _ _ _ _ _ h;cases hra:vW l' ops.toList 0 with
      | cons j r =>
       refine a0L hra fun k hk=>?_;grind[a5O]
      | nil =>
       refine absurd h ?_;intro h;unfold stp at h;cases F with
       | zero=>exact h
       | succ F =>
        simp only at h;split at h
        ·rename_i hi;split at h
         ·rename_i h1 h2 h3;have:=aLR (j0:=0) hi (by grind) h1;grind
         ·exact h
        ·exact h
     ·exact h.elim
 | F + 1, K, .o B1 ops l is Lf Lv i, m, e, L, h => by
  have ih:=Y3 F;unfold stp at h;split at h
  ·rename_i dst op ty ps af gd ho;split at h
   ·rename_i hre hli hg;have hes:=a5M (g:=g) (K:=K) (m:=m) (e:=e) (L:=L) (B1:=B1) (ops:=ops) (l:=l) (is:=is) (Lf:=Lf) (Lv:=Lv) ho hg;have hE:=a0N (g:=g) (K:=K) (m:=m) (e:=e) (L:=L) (o:=⟨dst,op,ty,ps,af,gd⟩) (cf:=.o B1 ops l is Lf Lv i) (cf':=.d B1 ops (l.set i true) is Lf Lv) hes;split at h
    ·rename_i v d hf;split at h
     ·rename_i hd;have hG:=ih _ _ _ _ _ h;have hv:=aUX hf;refine hes Unit (fun _=>m) (fun _=>(d,v) :: e) (fun _=>L) (fun _ hD=>⟨hD.yT,hD.rng⟩) (fun B a w next Q hm hA hS hnext=>?_) (fun _=>hG);obtain⟨u,h1,h2⟩:=aM5 (o:=⟨some d,op,ty,ps,af,gd⟩) g.hT hA hS hv;unfold Oper.wp;rw[h2 _ a hA.env,Oper.upon_value];exact hnext () _ _ ⟨[],by grind,by simpa using hA.of h1 (hA.env.put (by simp_all) u),by grind⟩
     ·exact h.elim
    ·rename_i d cs hf;split at h
     ·rename_i hd;exact hE.1 _ _ hf rfl hd (fun hD=>hD.aHN _) (ih _ _ _ _ _ h)
     ·exact h.elim
    ·rename_i L' hf;split at h
     ·rename_i hfz;refine hE.2 _ hf rfl (fun hD=>?_) (ih _ _ _ _ _ h);obtain⟨t,x,y,p,v,hop,hx,hs⟩:=a9T hf;subst hop;have:=aR8 hs hx hfz hD.rng;exact⟨by rw[this.1];exact hD.yT,this.2⟩
     ·exact h.elim
    ·split at h
     ·rename_i hd;exact a0O h hd (a5N ho hg hd) hes
     ·exact h.elim
    ·exact h.elim
   ·exact h.elim
  ·exact h.elim
theorem aGC:∀{e r:SE},aWX e=some r->r=e
 | [],r,h=>by cases h;rfl
 | (k, v) :: l, r, h => by
  simp only[aWX] at h;split at h
  ·rename_i s hs;cases h;rw[aGC hs]
  ·cases h
theorem aGD:∀{e r:List Ch},aWY e=some r->r=e
 | [],r,h=>by cases h;rfl
 | x :: l, r, h => by
  simp only[aWY] at h;split at h
  ·rename_i s hs;have:=aGD hs;grind[RJ]
  ·cases h
theorem iJ{K:List Fr}{c:vT}{m:Nat}{e:SE}{L:List Ch}(h:Gs g (kO g.T g.n K c m e L)):G g K m e L c:=by
 unfold kO at h;split at h
 ·grind[aGC,aGD,Y3]
 ·exact h.elim
end
end Go.Gv
end
noncomputable section
namespace Go.Gv
noncomputable section
variable {P:Program} {N N':Act->World->Prop} {X X':Nat->Act->World->Prop} {T T':Act->World->Prop}
theorem UO(h:LetsOut (mkQ N X T)):LetsOut (mkQ N' X' T'):=let ⟨_,_,h⟩:=h;h.elim
theorem aPA{o:Oper}{a:Act}{next next':Act->World->Prop}{r:Result Next}(hn:∀a w,next a w->next' a w)(h:o.upon P a next (mkQ N X T) r):o.upon P a next' (mkQ N' X' T') r:=by
 unfold Oper.upon at h ⊢;split at h
 ·grind
 ·grind
 ·grind
 ·refine Calls.mono h fun e w' he=>?_;cases e with
  | returned v=>grind
  | panicked c=>exact he.elim
  | outgrown=>exact UO he
 ·grind[Rows.mono]
 ·exact h.elim
 omega
theorem Y4{ops:Array Oper}(hN:∀a w,N a w->N' a w):∀(l:List Oper) {a:Act} {w:World},wpList P ops (mkQ N X T) l a w->wpList P ops (mkQ N' X' T') l a w
 | [],a,w,h=>hN a w h
 | o :: l, a, w, h => by
  unfold wpList at h ⊢;split
  ·rename_i hw;rw[if_pos hw] at h;rcases h with h | ⟨h1,h2⟩
   ·exact .inl (aPA (fun _ _ h=>Y4 hN l h) h)
   grind[UO]
  ·rename_i hw;rw[if_neg hw] at h;exact Y4 hN l h
theorem aPB{ops:Array Oper}{i:Nat}{k k':Act->World->Prop}{a:Act}{w:World}(hk:∀a w,k a w->k' a w)(h:wpOp P ops (mkQ N X T) i k a w):wpOp P ops (mkQ N' X' T') i k' a w:=by
 unfold wpOp at h ⊢;split
 ·grind
 ·rename_i o h0;rw[h0] at h;simp only at h;split
  ·rename_i hw;rw[if_pos hw] at h;rcases h with h | ⟨h1,h2⟩
   ·exact .inl (aPA hk h)
   grind[UO]
  grind
theorem Y5{ops:Array Oper}{S:World->Prop}(hN:∀a w,N a w->N' a w):∀(fuel:Nat) {PG:Array Bool} {a:Act} {w:World},wpAnyH P .any ops (mkQ N X T) S fuel PG a w->wpAnyH P .any ops (mkQ N' X' T') S fuel PG a w
 | 0,_,a,w,h=>⟨h.1,hN a w h.2⟩
 | f+1,_,a,w,h=>⟨fun h0=>hN a w (h.1 h0),fun i hi=>aPB (fun _ _ h=>⟨h.1,Y5 hN f h.2⟩) (h.2 i hi)⟩
end
noncomputable section
variable {P:Program} {T:TT} {hT:GP P T} {n:Nat} {c:Ctx} {B0:Bl} {N N1:Act->World->Prop} {X X1:Nat->Act->World->Prop} {Q:Act->World->Prop} {K K':List Fr} {m m':Nat} {e e':SE} {L L':List Ch} {cf cf':vT}
theorem aR9(Kb:List Fr)(hN:∀a w,N1 a w->NK (.mk P T hT n c B0 N X Q) Kb a w)(hX:∀i a w,X1 i a w->XK (.mk P T hT n c B0 N X Q) Kb i a w):∀(Ka:List Fr),(∀a w,NK (.mk P T hT n c B0 N1 X1 Q) Ka a w->NK (.mk P T hT n c B0 N X Q) (Ka++Kb) a w)/\(∀i a w,XK (.mk P T hT n c B0 N1 X1 Q) Ka i a w->XK (.mk P T hT n c B0 N X Q) (Ka++Kb) i a w)
 | []=>⟨hN,hX⟩
 | .s y :: Ka => by obtain⟨h1,h2⟩:=aR9 Kb hN hX Ka;exact⟨fun a w h=>CW.mono (show CW P y (NK _ Ka) (XK _ Ka) Q a w from h) h1 h2 (fun _ _ h=>h),h2⟩
 | .k id :: Ka => by obtain⟨h1,h2⟩:=aR9 Kb hN hX Ka;refine⟨h1,fun i a w h=>?_⟩;simp only[XK,aG5,UG] at h ⊢;grind
theorem bBX{Ka Kb:List Fr}(hN:∀a w,N1 a w->NK (.mk P T hT n c B0 N X Q) Kb a w)(hX:∀i a w,X1 i a w->XK (.mk P T hT n c B0 N X Q) Kb i a w)(h:G (.mk P T hT n c B0 N1 X1 Q) Ka m e L cf):G (.mk P T hT n c B0 N X Q) (Ka++Kb) m e L cf:=by
 obtain⟨h1,h2⟩:=aR9 Kb hN hX Ka;cases cf with
 | n=>exact fun a w hr=>h1 a w (h a w hr)
 | c x=>exact fun a w hr=>CW.mono (h a w hr) h1 h2 (fun _ _ h=>h)
 | r ops l=>exact fun a w hr=>Y4 h1 l (h a w hr)
 | d B1 ops l is Lf Lv=>exact fun hD a w hr=>Y5 h1 _ (h ⟨hD.pre,hD.len,hD.free,hD.yT,hD.rng,hD.okf,hD.ap⟩ a w hr)
 | o B1 ops l is Lf Lv i=>exact fun hD a w hr=>aPB (fun _ _ h=>⟨h.1,Y5 h1 _ h.2⟩) (h ⟨hD.pre,hD.len,hD.free,hD.yT,hD.rng,hD.okf,hD.ap⟩ a w hr)
theorem aGE{g:Gx}{s:Stop}(hs:XJ s=some (K,cf,m,e,L))(h:G g K m e L cf):Gs g s:=by
 cases s<;>simp only[XJ] at hs<;>cases hs
 ·exact fun _=>h
 ·exact h
 ·exact h
 ·exact fun _ _ _ _ _ _ _=>h
 ·exact fun _ _ _ _ _ _ _ _ _ _=>h
 ·exact fun _ _ _ _ _ _ _ _ _=>h
 ·exact fun _ _=>h
 ·exact fun _ _ _=>h
 ·exact h
 ·exact h
def JP(n:Nat)(c:Ctx)(B0:Bl){π υ:Type}(eq:π->Prop)(m:Nat)(ej:π->υ->SE)(Lj:π->υ->List Ch):Act->World->Prop:=fun a w=>∃p u,eq p/\pA n c B0 m (ej p u) (Lj p u) a w
theorem cG{B1:Bl}{ops:Array Oper}{l:List Bool}{is:List Nat}{Lf Lv:List Ch}{i j:Nat}(hs:XJ (kO T n K cf m e L)=some (K',.d B1 ops l is Lf Lv,m',e',L'))(hr:vW l ops.toList 0=[i,j])
  (k1:G (.mk P T hT n c B0 N X Q) K' m' e' L' (.o B1 ops l is Lf Lv i)) (k2:G (.mk P T hT n c B0 N X Q) K' m' e' L' (.o B1 ops l is Lf Lv j)):G (.mk P T hT n c B0 N X Q) K m e L cf:=
 iJ (g:=.mk P T hT n c B0 N X Q) (aGE hs (a0L (g:=.mk P T hT n c B0 N X Q) hr fun k hk=>by
  grind))
theorem aAG{B1:Bl}{ops:Array Oper}{l:List Bool}{is:List Nat}{Lf Lv:List Ch}{i j p:Nat}(hs:XJ (kO T n K cf m e L)=some (K',.d B1 ops l is Lf Lv,m',e',L'))(hr:vW l ops.toList 0=[i,j,p])
  (k1:G (.mk P T hT n c B0 N X Q) K' m' e' L' (.o B1 ops l is Lf Lv i)) (k2:G (.mk P T hT n c B0 N X Q) K' m' e' L' (.o B1 ops l is Lf Lv j)) (k3:G (.mk P T hT n c B0 N X Q) K' m' e' L' (.o B1 ops l is Lf Lv p)):G (.mk P T hT n c B0 N X Q) K m e L cf:=
 iJ (g:=.mk P T hT n c B0 N X Q) (aGE hs (a0L (g:=.mk P T hT n c B0 N X Q) hr fun k hk=>by
  grind))
theorem bd{α β:Type}{A:Option α}{f:α->Option β}{q:β}{C:Prop}(hF:A.bind f=some q)(k:∀x,A=some x->f x=some q->C):C:=by
 cases h:A with
 | none=>grind
 | some x=>grind
theorem nd{β:Type}{p:Prop}[Decidable p]{A:Option β}{q:β}{C:Prop}(hF:need p A=some q)(k:p->A=some q->C):C:=k (jW hF).1 (jW hF).2
theorem rb{α:Type}{A:Option α}{x:α}(h:A=some x):A.bind some=some x:=by rw[h];rfl
theorem rn{p:Prop}[Decidable p](h:p):need p (some ())=some ():=by simp[need,h]
theorem sb{α:Type}{C:α->Prop}(x:α){y:α}(h:some x=some y)(k:C y):C x:=by grind
theorem go(hs:XJ (kO T n K cf m e L)=some (K',cf',m',e',L'))(k:G (.mk P T hT n c B0 N X Q) K' m' e' L' cf'):G (.mk P T hT n c B0 N X Q) K m e L cf:=
 iJ (g:=.mk P T hT n c B0 N X Q) (aGE hs k)
theorem cut{π υ:Type}(j mj:Nat)(eq:π->Prop)(ks:List Nat)(ej:π->υ->SE)(is:List Nat)(Lj:π->υ->List Ch)(hs:XJ (kO T n K cf m e L)=some (K',cf',m',e',L'))
  (k1:G (.mk P T hT n c B0 (JP n c B0 eq mj (fun p u=>ej p u++kp e' ks) (fun p u=>Lj p u++kl L' is)) (XK (.mk P T hT n c B0 N X Q) (K'.drop j)) Q) (K'.take j) m' e' L' cf')
  (k2:∀p u,eq p->G (.mk P T hT n c B0 N X Q) (K'.drop j) mj (ej p u++kp e' ks) (Lj p u++kl L' is) .n):G (.mk P T hT n c B0 N X Q) K m e L cf:=by
 refine go hs ?_;rw[<-aDY j K'];refine bBX (fun a w ⟨p,u,h1,h2⟩=>?_) (fun _ _ _ h=>h) k1;exact k2 p u h1 a w h2
theorem jn{π υ:Type}{eq:π->Prop}{mj:Nat}{ej:π->υ->SE}{Lj:π->υ->List Ch}{p:π}(u:υ)(is:List Nat)(hF:eq p)(hs:kO T n K cf m e L=.fin m' e' L')(h:WX B0.length m' e' L' is mj (ej p u) (Lj p u)=some (ej p u,Lj p u)):G (.mk P T hT n c B0 (JP n c B0 eq mj ej Lj) X Q) K m e L cf:=
 iJ (g:=.mk P T hT n c B0 _ X Q) (by
  rw[hs];exact fun a w hr=>⟨p,u,hF,pA.WX hr is h⟩)
theorem aGF{b cb:Bool}{a:Act}{B:Bl}(hb:b=cb):∀(ss:List Nat),aU (F5 e) ss=some (ss.map fun _=>SV.b b)->hY n B e a->hY n B (ovr cb e ss) a:=by
 intro ss hs hA;refine⟨hA.d,hA.size,?_⟩;subst hb;have key:∀k∈ss,F5 e k=some (.b b):=by
  induction ss with
  | nil=>simp
  | cons s ss ih =>
   grind[aU]
 clear hs;induction ss with
 | nil=>exact hA.get
 | cons s ss ih =>
  intro k x hk;simp only[ovr,F5] at hk;cases hb:Nat.beq k s with
  | true =>
   rw[hb] at hk;cases hk;rw[qG hb];exact hA.get s (.b b) (key s (by simp))
  | false =>
   grind
theorem aUY{b cb:Bool}{a:Act}{w:World}(hb:b=cb)(ss:List Nat)(hs:aU (F5 e) ss=some (ss.map fun _=>SV.b b))(h:pA n c B0 m e L a w):pA n c B0 m (ovr cb e ss) L a w:=by obtain⟨B,h1,hA,hS⟩:=h;exact⟨B,h1,aGF hb ss hs hA,hS⟩
theorem aSA{e1:SE}(h:∀a B,hY n B e a->hY n B e1 a)(k:G (.mk P T hT n c B0 N X Q) K m e1 L cf):G (.mk P T hT n c B0 N X Q) K m e L cf:=by
 cases cf with
 | d B1 ops l is Lf Lv=>exact fun hD a w ⟨B,h1,h2,h3,h4⟩=>k hD a w ⟨B,h1,h a _ h2,h3,h4⟩
 | o B1 ops l is Lf Lv i=>exact fun hD a w ⟨B,h1,h2,h3,h4⟩=>k hD a w ⟨B,h1,h a _ h2,h3,h4⟩
 | _=>exact fun a w ⟨B,h1,h2,h3⟩=>k a w ⟨B,h1,h a _ h2,h3⟩
noncomputable section
variable {b:Bool} {α:Type} {A B':Option α} {q:Option α}
theorem cs{o:Operand}{x y:Code}(ss:List Nat)(hs:kO T n K cf m e L=.cond o b x y K' m' e' L')(ho:aU (F5 e') ss=some (ss.map fun _=>SV.b b))(hF:(if b=true then A else B')=q)
  (k1:A=q->G (.mk P T hT n c B0 N X Q) K' m' (ovr true e' ss) L' (.c x)) (k2:B'=q->G (.mk P T hT n c B0 N X Q) K' m' (ovr false e' ss) L' (.c y)):G (.mk P T hT n c B0 N X Q) K m e L cf:=
 iJ (g := .mk P T hT n c B0 N X Q) (by
  rw[hs];intro he a w hr;have ⟨B,hm,hA,hS⟩:=hr;obtain⟨v,h1,h2⟩:=fL hA he;cases h1;refine oF hA.env h2 (fun hc=>?_) (fun hc=>?_)
  ·rw[if_pos hc] at hF;exact k1 hF a w (aUY hc ss ho hr)
  ·rw[if_neg (by grind)] at hF;exact k2 hF a w (aUY hc ss ho hr))
theorem ca{cf':vT}(ss:List Nat)(hs:kO T n K cf m e L=.case b cf' K' m' e' L')(ho:aU (F5 e') ss=some (ss.map fun _=>SV.b b))(hF:(if b=true then A else B')=q)
  (k1:A=q->G (.mk P T hT n c B0 N X Q) K' m' (ovr true e' ss) L' cf') (k2:B'=q->G (.mk P T hT n c B0 N X Q) K' m' (ovr false e' ss) L' cf'):G (.mk P T hT n c B0 N X Q) K m e L cf:=
 iJ (g:=.mk P T hT n c B0 N X Q) (by
  rw[hs];cases b with
  | true=>exact aSA (fun a B hA=>aGF rfl ss ho hA) (k1 (by grind))
  | false=>exact aSA (fun a B hA=>aGF rfl ss ho hA) (k2 (by grind)))
end
def QS(P:Program)(fn:Func)(c:Ctx)(B0:Bl){ρ ex:Type}(sv:ρ->ex->SV)(Lf:ρ->ex->List Ch)(r:ρ):Act->World->Prop:=Fin P fn fun v w'=>∃y,fF B0 (sv r y)=some v/\mN c w' B0 (Lf r y)
theorem aUZ{r:ResultVar}{x:SV}{B:Bl}{a:Act}{w:World}(hT:GP P T)(hA:hY n B e a)(hS:mN c w B L)(h:aZ4 T e L r=some x):∃v,fF B x=some v/\(UM a.tmps r).run P w=.ok v w:=by
 cases r with
 | tmp t =>
  obtain⟨v,h1,h2⟩:=hA.get t x h;simp_all[UM]
 | cell t ty =>
  simp only[aZ4] at h;split at h
  ·rename_i p hp;obtain⟨v,h1,h2⟩:=hA.get t p hp;unfold aO5 at h;split at h
   ·rename_i n0 o0;split at h
    ·rename_i cs _ mm _ hb hl;split at h
     ·rename_i hle;split at h
      case h_2=>cases h
      rename_i ds hds;cases h;have:=RJ hds;subst this;obtain⟨b,z,vs,g1,g2,g3⟩:=hS.cells hb;have hlen:=lL g2;have hle:=LA hle;simp only[fF,gV,bR,g1] at h1;cases h1;have h4:=P7 mm (P6 o0 g2);have h5:=aAD g3 (o:=o0) (m:=mm) (by omega);have h6:=qS h5 P;have h7:((vs.drop o0).take mm).length=mm:=by simp;omega
      rw[h7] at h6;refine⟨.agg ((vs.drop o0).take mm).toArray,by grind[fF,gV],?_⟩;simp[UM,h2,asAddr,loadVar,hT.agg _ _ hl,hT.size _ _ hl,h6]
     ·cases h
    ·rename_i cs _ _ _ hb hl;obtain⟨b,z,vs,g1,g2,g3⟩:=hS.cells hb;simp only[fF,gV,bR,g1] at h1;cases h1;obtain⟨u,h4,h5⟩:=P5 g2 h;refine⟨u,aUJ h4,?_⟩;have h6:=g3 o0 u h5;simp[UM,h2,asAddr,loadVar,hT.agg _ _ hl,load,Sem.run,h6]
    ·cases h
   ·cases h
  ·cases h
end
end Go.Gv
end
noncomputable section
namespace Go.Gv
noncomputable section
variable {P:Program} {T:TT} {hT:GP P T} {n:Nat} {c:Ctx} {B0:Bl} {N:Act->World->Prop} {X:Nat->Act->World->Prop} {Q:Act->World->Prop} {K K':List Fr} {m m':Nat} {e e':SE} {L L':List Ch} {cf:vT}
theorem a5T{B:Bl}{x:SV}{v:Value}(h:fF B x=some v)(hc:isCells x=true):gV B x=some v:=by cases x<;>first | exact h | cases hc
theorem aAH{r:ResultVar}{x:SV}{B:Bl}{a:Act}{w:World}(hT:GP P T)(hA:hY n B e a)(hS:mN c w B L)(h:aR5 T e L r=some x):∃v,gV B x=some v/\(UM a.tmps r).run P w=.ok v w:=by grind[aR5,aUZ,a5T]
theorem aGG{rs:List ResultVar}{x:SV}{B:Bl}{a:Act}{w:World}{fn:Func}(hf:fn.results=rs.toArray)(hT:GP P T)(hA:hY n B e a)(hS:mN c w B L)(h:aM1 T e L rs=some x):∃v,fF B x=some v/\(results fn a.tmps).run P w=.ok v w:=by
 rw[aHA hf];unfold aM1 at h;split at h
 ·cases h;exact⟨.tuple #[],rfl,by simp⟩
 ·obtain⟨v,h1,h2⟩:=aUZ hT hA hS h;simp_all
 ·split at h
  ·rename_i g1 g2;cases h;obtain⟨v1,h1,k1⟩:=aAH hT hA hS g1;obtain⟨v2,h2,k2⟩:=aAH hT hA hS g2;simp_all[fF,aU]
  ·cases h
 ·split at h
  ·rename_i g1 g2 g3;cases h;obtain⟨v1,h1,k1⟩:=aAH hT hA hS g1;obtain⟨v2,h2,k2⟩:=aAH hT hA hS g2;obtain⟨v3,h3,k3⟩:=aAH hT hA hS g3;simp_all[fF,aU]
  ·cases h
 ·cases h
structure FnS (P:Program) (f:FuncId) (c:Ctx) (xs:List SV) (B0:Bl) (L0:List Ch) {ρ ex:Type} (sv:ρ->ex->SV) (Lf:ρ->ex->List Ch) (r:ρ):Prop where
 call:∀args w,(callFunc f args).run P w=.ok (.enter f args) w
 run:∀vs,aU (fF B0) xs=some vs->mN c c.w0 B0 L0->Calls P f vs.toArray c.w0 (Ret fun v w'=>∃y,fF B0 (sv r y)=some v/\mN c w' B0 (Lf r y))
abbrev Fn0(P:Program)(f:FuncId)(c:Ctx)(xs:List SV){ρ:Type}(sv:ρ->SV)(r:ρ):Prop:=FnS P f c xs [] [] (fun r (_:Unit)=>sv r) (fun _ _=>[]) r
def aLT:Nat->List SV->SE
 | _,[]=>[]
 | k,v :: r=>(k,v) :: aLT (k+1) r
theorem aLU{B:Bl}:∀{xs:List SV} {vs:List Value} (k:Nat) {j:Nat} {x:SV},aU (fF B) xs=some vs->F5 (aLT k xs) j=some x->∃v,fF B x=some v/\lk (aMU k vs) j=some v
 | [],vs,k,j,x,h,hj=>by grind[aLT,F5]
 | y :: xs, vs, k, j, x, h, hj => by
  simp only[aU] at h;split at h
  ·cases h
  ·rename_i h1;split at h
   ·cases h
   ·rename_i h2;cases h;simp only[aLT,F5] at hj;simp only[aMU,lk];cases hb:Nat.beq j k with
    | true=>grind
    | false=>rw[hb] at hj;exact aLU (k+1) h2 hj
theorem en{f:FuncId}{fn:Func}{cd:Code}{xs:List SV}{L0:List Ch}{ρ ex:Type}{sv:ρ->ex->SV}{Lf:ρ->ex->List Ch}{r:ρ}(n:Nat)(hc:∀args w,(callFunc f args).run P w=.ok (.enter f args) w)(hf:P.funcs[f]?=some fn)(hT:GP P T)(hb:fn.body=some cd)(hm:fn.ntmps=n)(hl:Nat.ble xs.length n=true)
  (k:G (.mk P T hT n c B0 (QS P fn c B0 sv Lf r) (fun _ _ _=>False) (QS P fn c B0 sv Lf r)) [] B0.length (aLT 0 xs) L0 (.c cd)):FnS P f c xs B0 L0 sv Lf r:=by
 refine⟨hc,fun vs hv hS=>CK hf hb hm ?_ fun a hA=>?_⟩
 ·grind[lL]
 ·refine CW.mono (k a c.w0 ⟨[],by simp,⟨hA.d,hA.size,fun j x hj=>?_⟩,by grind⟩) (fun _ _ h=>h) (fun _ _ _ h=>h) (fun _ _ h=>h);obtain⟨v,h1,h2⟩:=aLU 0 hv hj;exact⟨v,by grind,hA.get j v h2⟩
theorem aW3(w:World):mN (b9 w) w [] []:=⟨⟨[],St.enter (by simp),by simp⟩,fun _ _ h=>h⟩
theorem rt{fn:Func}{ρ ex:Type}{sv:ρ->ex->SV}{Lf:ρ->ex->List Ch}{r r':ρ}{rs:List ResultVar}{zz:Option ρ}(y:ex)(is:List Nat)(hF:zz=some r)(hz:zz=some r')(hs:kO T n K cf m e L=.ret m' e' L')(hr:fn.results=rs.toArray){x:SV}(hv:aM1 T e' L' rs=some x)(hx:nbS x=sv r' y)(hk:xI B0.length (sv r' y)=true)(hL:WX B0.length m' e' L' is B0.length [] (Lf r' y)=some ([],Lf r' y)):G (.mk P T hT n c B0 N X (QS P fn c B0 sv Lf r)) K m e L cf:=by subst hz;cases hF;refine iJ (g:=.mk P T hT n c B0 N X _) ?_;rw[hs];intro a w hr';obtain⟨B,hm,hA,hS⟩:=id hr';obtain⟨v,h1,h2⟩:=aGG hr hT hA hS hv;obtain⟨B',hm',_,hS'⟩:=hr'.WX is hL;have hB':B'=[]:=(by simp_all);subst hB';refine⟨hA.d,v,h2,y,?_,by grind⟩;rw[<-hx] at hk ⊢;have:=RK hk (by rw[aGA];exact h1);grind
theorem rf{fn:Func}{ρ ex:Type}{sv:ρ->ex->SV}{Lf:ρ->ex->List Ch}{r r':ρ}{rs:List ResultVar}{zz:Option ρ}(y:ex)(is:List Nat)(hF:zz=some r)(hz:zz=some r')(hs:kO T n K cf m e L=.fin m' e' L')(hr:fn.results=rs.toArray){x:SV}(hv:aM1 T e' L' rs=some x)(hx:nbS x=sv r' y)(hk:xI B0.length (sv r' y)=true)(hL:WX B0.length m' e' L' is B0.length [] (Lf r' y)=some ([],Lf r' y)):G (.mk P T hT n c B0 (QS P fn c B0 sv Lf r) X Q) K m e L cf:=by subst hz;cases hF;refine iJ (g:=.mk P T hT n c B0 _ X Q) ?_;rw[hs];intro a w hr';obtain⟨B,hm,hA,hS⟩:=id hr';obtain⟨v,h1,h2⟩:=aGG hr hT hA hS hv;obtain⟨B',hm',_,hS'⟩:=hr'.WX is hL;have hB':B'=[]:=(by simp_all);subst hB';refine⟨hA.d,v,h2,y,?_,by grind⟩;rw[<-hx] at hk ⊢;have:=RK hk (by rw[aGA];exact h1);grind
def bS(c:Ctx){α:Type}[aJ α](s:AC)(d:List α):Prop:=aJ.rd c.S0 c.w0 [s.v d.length] d
structure HS (c:Ctx) (w:World) (L:List Ch):Prop where
 ex:∃B,mN c w B L
abbrev ow{α:Type}[aJ α](s:AC)(d:List α):Ch:=.o (bH [s.v d.length] d)
abbrev fr{α:Type}[aJ α](s:AC)(d:List α):Ch:=.f (BO [s.v d.length] d)
theorem aM9{w:World}{B:Bl}(hS:mN c w B L){f:Fact}(h:f.P c.S0 c.w0):f.P c.S0 w:=by obtain⟨⟨R,s1,_⟩,s0⟩:=hS;exact f.agree h fun b o hb=>s1.keep.cell b o (s0 b o hb) fun hw=>s1.apart b o hw hb
theorem a0Q{w:World}{B:Bl}(hS:mN c w B L):∀b o,c.S0 b o->PW w b o:=fun b o hb=>by obtain⟨⟨R,s1,_⟩,s0⟩:=hS;exact PU (s0 b o hb) s1.keep.size
theorem HS.a{w:World}{α:Type}[aJ α]{s:AC}{d:List α}(h:HS c w L)(hr:bS c s d):bS (b9 w) s d:=by obtain⟨B,hS⟩:=h.ex;have h1:(BO [s.v d.length] d).P c.S0 w:=aM9 hS (f:=BO [s.v d.length] d) hr;exact aJ.rd_mono h1 (a0Q hS)
theorem HS.o{w:World}{α:Type}[aJ α]{s:AC}{d:List α}(h:HS c w L)(i:Nat)(hi:L[i]?=some (ow s d)):bS (b9 w) s d:=by obtain⟨B,⟨⟨R,s1,_⟩,_⟩⟩:=h.ex;exact s1.aT8 i (by rw[HP,hi];rfl)
theorem HS.f{w:World}{α:Type}[aJ α]{s:AC}{d:List α}(h:HS c w L)(i:Nat)(hi:L[i]?=some (fr s d)):bS (b9 w) s d:=by obtain⟨B,⟨⟨R,s1,s2⟩,_⟩⟩:=h.ex;obtain⟨j,hj⟩:=aG0 (s2 _ (yI hi));exact s1.rd j hj
theorem aAI{B:Bl}:∀{xs:List SV} {vs:List Value},okA xs=true->aU (fF B) xs=some vs->aU (fF []) xs=some vs
 | [],vs,_,h=>h
 | x :: xs, vs, ho, h => by
  simp only[okA] at ho;split at ho
  ·rename_i h0;simp only[aU] at h;split at h
   ·cases h
   ·rename_i h1;split at h
    ·cases h
    ·rename_i h2;cases h;have h3:=RK h0 h1;rw[List.take_zero] at h3;simp[aU,h3,aAI ho h2]
  ·cases ho
theorem YB{B:Bl}{a:Act}(hA:hY n B e a):∀{os:List Operand} {xs:List SV},aU (jC e) os=some xs->∃vs,aU (fF B) xs=some vs/\evs (vE B e) os=some vs
 | [],xs,h=>by cases h;exact⟨[],rfl,rfl⟩
 | o :: os, xs, h => by
  simp only[aU] at h;split at h
  ·cases h
  ·rename_i h1;split at h
   ·cases h
   ·rename_i h2;cases h;obtain⟨v,k1,k2⟩:=fL hA h1;obtain⟨vs,k3,k4⟩:=YB hA h2;grind[aU,evs]
def noF:List Ch->Bool
 | []=>true
 | .ro _ _ :: _=>false
 | .f _ :: _=>false
 | .w _ _ _ :: _=>false
 | _ :: L=>noF L
theorem aNA{B:Bl}{R:List Fact}:∀{L:List Ch},noF L=true->∀x∈L,roF B R x
 | [],_,x,hx=>by cases hx
 | y :: L, h, x, hx => by
  rcases jA.1 hx with hx' | hx'
  ·subst hx';cases x<;>first | trivial | cases h
  ·cases y with
   | ro=>cases h
   | f=>cases h
   | w=>cases h
   | _=>exact aNA (L:=L) h x hx'
theorem mN.after{w w':World}{B:Bl}{L2:List Ch}(h:mN c w B L)(hn:noF L2=true)(k:mN (b9 w) w' [] L2):mN c w' B (L++L2):=by
 obtain⟨⟨R,s1,s2⟩,s0⟩:=h;obtain⟨⟨R',t1,t2⟩,t0⟩:=k;refine⟨⟨R,?_,fun x hx=>?_⟩,s0⟩
 ·rw[uX];have h1:=s1.after t1;refine h1.imp (jX.append (jX.refl _) ?_);have:=WY (B:=[]) B (w:=w') L2;grind
 grind[aNA]
theorem mN.a0R{w w':World}{B:Bl}(h:mN c w B L)(k:eI F0 w w'):mN c w' B L:=by obtain⟨⟨R,s1,s2⟩,s0⟩:=h;exact⟨⟨R,s1.same k,s2⟩,s0⟩
theorem P9{o:Oper}{f:FuncId}{x:Operand}{args:Array Operand}{ts:Array TypeId}{vs:List Value}{E:Env}{w:World}(hcall:∀args w,(callFunc f args).run P w=.ok (.enter f args) w)(ho:o.op=.call {callee:=.value x,args:=args,argTypes:=ts})(hx:ev E x=some (.func (.func f) #[] #[]))(hv:evs E args.toList=some vs):aYX P o E w f vs.toArray:=by have:=aOZ (w:=w) (cap:=[]) (xs:=args.toList) (vs:=vs) hcall (by omega) hx hv;grind
theorem cl{α β ex:Type}{fo:Option α}{kf:α->Option β}{q:β}{o:Oper}{d:Nat}{f:FuncId}{xs:List SV}{cf1 cf2:vT}{sv:α->ex->SV}{Lf:α->ex->List Ch}(hs:kO T n K cf m e L=.call o (some d) f xs cf1 cf2 K' m' e' L')(hn:∀x y,noF (Lf x y)=true)
  (hc:∀{w},HS c w L'->∀{x},fo=some x->FnS P f (b9 w) xs [] [] sv Lf x) (hF:fo.bind kf=some q)
  (k:∀x,fo=some x->kf x=some q->∀y:ex,G (.mk P T hT n c B0 N X Q) K' m' ((d,sv x y) :: e') (L'++Lf x y) cf2):G (.mk P T hT n c B0 N X Q) K m e L cf:=by
 refine iJ (g:=.mk P T hT n c B0 N X Q) ?_;rw[hs];intro fo' args ats ho hd hf ⟨ys,hys,hxs⟩ hA0 hdn hE;subst hxs;cases hfo:fo with
 | none=>grind
 | some x =>
  rw[hfo] at hF;refine hE ex (fun _=>m') (fun y=>(d,sv x y) :: e') (fun y=>L'++Lf x y) (fun y=>xJ _) (fun B a w next Q' hm hA hS hnext=>?_) (k x hfo hF);obtain⟨hcall,hrun⟩:=hc ⟨_,hS⟩ hfo;obtain⟨vs,h1,h2⟩:=YB hA hys;obtain⟨v,h3,h4⟩:=fL hA hf;simp[fF,aU] at h3;subst h3;have h5:=hrun vs (aAI hA0 (by rw[NB];exact h1)) (aW3 w);have h6:=P9 (w:=w) hcall ho h4 h2;unfold Oper.wp;rw[h6 _ a hA.env,Oper.upon_enter];refine Calls.mono h5 fun en w' ⟨v,hv,y,g1,g2⟩=>?_;subst hv;rw[hd];have g3:=vB (Y2 (.mk P T hT n c B0 N X Q) cf1++B) g1;exact hnext y _ _ ⟨[],by grind,by simpa using hA.of (by grind) (hA.env.put (by grind[qT,vV]) v),by simpa using hS.after (hn x y) g2⟩
end
end Go.Gv
end
noncomputable section
namespace Go.Gv
noncomputable section
variable {P:Program} {T:TT} {hT:GP P T} {n:Nat} {c:Ctx} {B0:Bl} {N:Act->World->Prop} {X:Nat->Act->World->Prop} {Q:Act->World->Prop} {K K':List Fr} {m m':Nat} {e e':SE} {L L':List Ch} {cf:vT}
def NxP(n:Nat)(c:Ctx)(B0:Bl){σ ρ υ:Type}(o:Step σ ρ)(m:Nat)(el:σ->υ->SE)(Ll:σ->υ->List Ch):Act->World->Prop:=fun a w=>∃s u,o=.next s/\pA n c B0 m (el s u) (Ll s u) a w
def BkP(n:Nat)(c:Ctx)(B0:Bl){β ρ υ:Type}(ro:ρ)(enc:β->ρ)(m:Nat)(ej:β->υ->SE)(Lj:β->υ->List Ch)(id:Nat)(X:Nat->Act->World->Prop):Nat->Act->World->Prop:=fun i a w=>if i=id then ∃b u,ro=enc b/\pA n c B0 m (ej b u) (Lj b u) a w else X i a w
theorem lp{σ ρ υ β ω α:Type}{id:Nat}{y:Code}{fb:σ->Option (Step σ ρ)}{s0:σ}{gk:ρ->Option α}{q:α}(u0:υ)(ks:List Nat)(el:σ->υ->SE)(is0 is:List Nat)(Ll:σ->υ->List Ch)(enc:β->ρ)(kb:List Nat)(ej:β->ω->SE)(ib:List Nat)(Lj:β->ω->List Ch)
  (hs:kO T n K cf m e L=.loop id y K' m' e' L') (hF:(loop fb s0).bind gk=some q)
  (h0:WX B0.length m' e' L' is0 m' (el s0 u0++kp e' ks) (Ll s0 u0++kl L' is)=some (el s0 u0++kp e' ks,Ll s0 u0++kl L' is))
  (k1:∀ro,gk ro=some q->∀s u o,fb s=some o->(∀p,o=.stop p->p=ro)->G (.mk P T hT n c B0 (NxP n c B0 o m' (fun s u=>el s u++kp e' ks) (fun s u=>Ll s u++kl L' is)) (BkP n c B0 ro enc m' (fun b u=>ej b u++kp e' kb) (fun b u=>Lj b u++kl L' ib) id (XK (.mk P T hT n c B0 N X Q) K')) Q) [] m' (el s u++kp e' ks) (Ll s u++kl L' is) (.c y))
  (k2:∀b u,gk (enc b)=some q->G (.mk P T hT n c B0 N X Q) K' m' (ej b u++kp e' kb) (Lj b u++kl L' ib) .n):G (.mk P T hT n c B0 N X Q) K m e L cf:=by
 refine iJ (g:=.mk P T hT n c B0 N X Q) ?_;rw[hs];intro a w hr;cases hl:loop fb s0 with
 | none=>grind
 | some ro =>
  rw[hl] at hF;have hF:gk ro=some q:=hF;refine mR (M7 (body:=fb) (r:=ro) (fun s a w=>∃u,pA n c B0 m' (el s u++kp e' ks) (Ll s u++kl L' is) a w) ?_ hl ⟨u0,hr.WX is0 h0⟩);intro s a w o ⟨u,hI⟩ hb ho;refine CW.mono (k1 ro hF s u o hb ho a w hI) ?_ ?_ (fun _ _ h=>h)
  ·rintro a w ⟨s',u',h1,h2⟩;grind
  ·intro i a w h;simp only[XK,BkP,aG5] at h ⊢;split
   ·rename_i hi;rw[if_pos hi] at h;obtain⟨b,u,h1,h2⟩:=h;exact k2 b u (h1 ▸ hF) a w h2
   grind
theorem nx{σ ρ υ:Type}{o:Step σ ρ}{mj:Nat}{el:σ->υ->SE}{Ll:σ->υ->List Ch}{s:σ}(u:υ)(is:List Nat)(hG:some (Step.next s)=some o)(hs:kO T n K cf m e L=.fin m' e' L')(h:WX B0.length m' e' L' is mj (el s u) (Ll s u)=some (el s u,Ll s u)):G (.mk P T hT n c B0 (NxP n c B0 o mj el Ll) X Q) K m e L cf:=
 iJ (g:=.mk P T hT n c B0 _ X Q) (by
  rw[hs];cases hG;exact fun a w hr=>⟨s,u,rfl,hr.WX is h⟩)
theorem bk{σ ρ β υ:Type}{o:Step σ ρ}{ro:ρ}{enc:β->ρ}{mj id:Nat}{ej:β->υ->SE}{Lj:β->υ->List Ch}{b:β}(u:υ)(is:List Nat)(hG:some (Step.stop (enc b))=some o)(hr:∀p,o=.stop p->p=ro)(hs:kO T n K cf m e L=.ex id m' e' L')(h:WX B0.length m' e' L' is mj (ej b u) (Lj b u)=some (ej b u,Lj b u)):G (.mk P T hT n c B0 N (BkP n c B0 ro enc mj ej Lj id X) Q) K m e L cf:=
 iJ (g:=.mk P T hT n c B0 N _ Q) (by
  rw[hs];cases hG;have:=hr _ rfl;subst this;intro a w hr;show BkP n c B0 (enc b) enc mj ej Lj id X id a w;unfold BkP;rw[if_pos rfl];exact⟨b,u,rfl,hr.WX is h⟩)
theorem re{σ ρ α:Type}{o:Step σ ρ}{p ro:ρ}{F:ρ->Option α}{q:Option α}{zz:Option (Step σ ρ)}(hG:zz=some o)(hz:zz=some (Step.stop p))(hr:∀p,o=.stop p->p=ro)(hF:F ro=q):F p=q:=by grind
structure FH (α:Type) [aJ α] where
 ex:Type
 cs:α->ex->List SV
 sub:cD->World->α->ex->Prop
 ok:∀{S w ec x},aJ.rd S w ec x->∃y,aU (bR []) (cs x y)=some ec/\sub S w x y
 sv:α->ex->SV
 bEJ:∀{S S' w w' x y},sub S w x y->(∀b o,S b o->w'.cell? ⟨b,o,none⟩=w.cell? ⟨b,o,none⟩)->(∀b o,S b o->S' b o)->sub S' w' x y
def cI:FH Int:=⟨Unit,fun x _=>[.i .i64 x],fun _ _ _ _=>True,fun h=>⟨(),by cases h;rfl,trivial⟩,fun x _=>.i .i64 x,fun _ _ _=>trivial⟩
def cU:FH UInt8:=⟨Unit,fun x _=>[.y x],fun _ _ _ _=>True,fun h=>⟨(),by cases h;rfl,trivial⟩,fun x _=>.y x,fun _ _ _=>trivial⟩
theorem NC{α:Type}[aJ α]{S:cD}{w:World}{ec:List Value}{l:List α}(h:aJ.rd S w ec l):∃s:AC,ec=[s.v l.length]:=by obtain⟨ad,m,h1,_⟩:=(show uZ S w ec l from h);exact⟨⟨ad,m⟩,h1⟩
theorem St.bBY{w:World}{M:List Chunk}{R:List Fact}{f:Fact}(h:St c w M R)(s0:∀b o,c.S0 b o->b<c.w0.heap.size)(hf:f.P c.S0 c.w0):St c w M (R ++ [f]):=by
 obtain⟨F,S,a1,a2,a3,a4,a5,a6⟩:=h.sep;refine⟨h.keep,⟨F,fun b o=>S b o\/c.S0 b o,a1,?_,a3,?_,?_,?_⟩,h.apart⟩
 ·rintro b o hF (hs | hs)
  ·exact a2 b o hF hs
  ·rcases a3 b o hF with hw | hw
   ·exact h.apart b o hw hs
   grind
 ·grind
 ·rintro b o (hs | hs)
  ·grind
  ·exact PU (s0 b o hs) h.keep.size
 ·intro g hg;rcases fB.1 hg with hg | hg
  ·exact g.mono (a6 g hg) fun b o hs=>.inl hs
  ·simp at hg;subst hg;exact g.mono (g.agree hf fun b o hb=>h.keep.cell b o (s0 b o hb) fun hw=>h.apart b o hw hb) fun b o hs=>.inr hs
theorem mN.bBZ{w:World}{B:Bl}{k b z:Nat}{cs:List SV}{vs:List Value}(h:mN c w B L)(hk:B[k]?=some (b,z))(hc:aU (bR B) cs=some vs)(hf:(fAt b z vs).P c.S0 c.w0):mN c w B (L ++ [.ro k cs]):=by
 obtain⟨⟨R,s1,s2⟩,s0⟩:=h;refine⟨⟨R ++ [fAt b z vs],?_,fun x hx=>?_⟩,s0⟩
 ·rw[uX];exact St.more (ch:=JQ) (St.bBY s1 s0 hf) (eI.refl _ _) ⟨F0,fun _ _ h=>h,fun _ _ h=>h.elim⟩
 ·rcases fB.1 hx with hx | hx
  ·grind[aAC]
  ·simp at hx;subst hx;exact⟨b,z,vs,hk,hc,by simp⟩
theorem ix{α β:Type}{iR:aJ α}(C:FH α){o:Oper}{d t:Nat}{s:AC}{i:Int}{Lv:List Ch}{cf1 cf2:vT}{ls:List α}{kf:α->Option β}{q:β}{el sz:Nat}{b1 b2:Bool}{z1 z2:List SV}{k2:TK}{n1:Nat}(hs:kO T n K cf m e L=.idx o d t s ls.length i Lv cf1 cf2 K' m' e' L')(h1:bS c s ls)(hF:(idx ls i).bind kf=some q)(ht:CM T t=some ⟨.sl el,b1,n1,z1⟩)(he:CM T el=some ⟨k2,b2,sz,z2⟩)(hn:aJ.n α=sz)
  (k:∀x,idx ls i=some x->kf x=some q->∀y:C.ex,C.sub c.S0 c.w0 x y->G (.mk P T hT n c B0 N X Q) K' (m'+1) ((d,.p m' 0) :: e') (L' ++ [.ro m' (C.cs x y)]) (cf2.ext [.ro m' (C.cs x y)])):G (.mk P T hT n c B0 N X Q) K m e L cf:=by
 refine iJ (g:=.mk P T hT n c B0 N X Q) ?_;rw[hs];intro x' y' ho hd hx hy hP;cases hi:idx ls i with
 | none=>grind
 | some x =>
  rw[hi] at hF;obtain⟨dd,hd1,hd2⟩:=hT.und _ _ ht;simp only at hd2;subst hd2;obtain⟨ec,p1,p2⟩:=a9H (S:=c.S0) (w:=c.w0) h1 (lK hi).2.2;obtain⟨y,p3,p4⟩:=C.ok p2;subst hn;refine hP d (.p m' 0) [.ro m' (C.cs x y)] (fun _=>[(PZ (s.v ls.length),PN (aJ.n α) i.toNat (s.v ls.length))]) 1 hd (fun _=>rfl) (fun B a w hA hS hm=>?_) (fun B w L hm hS=>?_) (k x hi hF y p4)
  ·obtain⟨v,g1,g2⟩:=fL hA hx;obtain⟨u,g3,g4⟩:=fL hA hy;cases g1;cases g3;have hrd:aJ.rd c.S0 w [s.v ls.length] ls:=aM9 hS (f:=BO [s.v ls.length] ls) h1;exact⟨_,by grind[fF,gV,bR],UL (P:=P) (o:=o) (w:=w) hrd rfl hi hd1 (hT.size _ _ he) ho g2 g4⟩
  ·exact(hS.app _).bBZ (b:=PZ (s.v ls.length)) (z:=PN (aJ.n α) i.toNat (s.v ls.length)) (by grind) (eS (fun x v h=>by simpa using gC (B:=[]) _ h) p3) p1
theorem dr{id:Nat}{ops:Array Oper}(is:List Nat)(hs:kO T n K cf m e L=.rgn id ops K' m' e' L')(hm:P.follows .mixedOrders=true)(hf:(aO6 ops && (okL m' (kl L' is) && (dI is && is.all fun j=>Nat.blt j L'.length)))=true)
  (k:∀B1,G (.mk P T hT n c B0 N X Q) K' m' e' L' (.d B1 ops (List.replicate ops.size false) is (kl L' is) (kl L' is))):G (.mk P T hT n c B0 N X Q) K m e L cf:=by
 refine iJ (g:=.mk P T hT n c B0 N X Q) ?_;rw[hs];intro a w ⟨B,hmm,hA,hS⟩;simp only[BN,UF,vV] at hf;obtain⟨f1,f2,f3,f4⟩:=hf;refine wp_region_held (S:=Sd (.mk P T hT n c B0 N X Q) (B0++B) (kl L' is)) hm ?_;have:=k (B0++B) ⟨⟨B,rfl⟩,by simp,f1,rfl,f4,by grind,f3⟩ a w.drew ⟨[],by grind,by grind,by simpa using hS.a0R (eI.drew F0 w),fun w' h=>by grind⟩;simp_all
end
end Go.Gv
end
noncomputable section
namespace Go.Gv
inductive StF (P:Program):List Field->List (Nat×Nat)->Prop where
 | n:StF P [] []
 | c {F:Field} {Fs:List Field} {fs:List (Nat×Nat)} {m:Nat} (h:∀w,(sizeOf F.type).run P w=.ok m w) (t:StF P Fs fs):StF P (F :: Fs) ((F.offset,m) :: fs)
noncomputable section
variable {P:Program} {T:TT} {t n:Nat} {a:Bool} {zs:List SV} {z:Value}
theorem StF.off{Fs:List Field}{fs:List (Nat×Nat)}(h:StF P Fs fs):Fs.map (·.offset)=fs.map (·.1):=by
 induction h with
 | n=>rfl
 | c h t ih=>simp[ih]
theorem StF.get{Fs:List Field}{fs:List (Nat×Nat)}(h:StF P Fs fs):∀(j:Nat) F,Fs[j]?=some F->∃m,fs[j]?=some (F.offset,m)/\∀w,(sizeOf F.type).run P w=.ok m w:=by
 induction h with
 | n=>simp
 | c h t ih =>
  intro j F hj;cases j with
  | zero=>simp_all
  | succ j=>grind
theorem StF.run{Fs:List Field}{fs:List (Nat×Nat)}(h:StF P Fs fs)(w:World):(Fs.mapM fun f=>(do pure (f.offset,<-sizeOf f.type):Sem (Nat×Nat))).run P w=.ok fs w:=by
 induction h with
 | n=>simp
 | c h t ih=>simp_all
theorem GP.nil:GP P []:=⟨fun _ _ h=>(by cases h),fun _ _ h=>(by cases h),fun _ _ h=>(by cases h),fun _ _ h=>(by cases h)⟩
theorem GP.add{k:TK}{d:TypeDesc}(hu:P.underlying t=some d)(hk:match k with
  | .i k=>d=.int k
  | .b=>d=.bool
  | .st fs=>∃Fs:Array Field,d=.struct Fs/\Fs.toList.map (·.offset)=fs.map (·.1)/\(∀(j:Nat) F,Fs[j]?=some F->∃m,fs[j]?=some (F.offset,m)/\∀w,(sizeOf F.type).run P w=.ok m w)/\∀w,(Fs.mapM fun f=>(do pure (f.offset,<-sizeOf f.type):Sem (Nat×Nat))).run P w=.ok fs.toArray w
  | .s=>d=.string
  | .sl el=>d=.slice el
  | .x=>True) (ha:∀w,(isAgg t).run P w=.ok a w) (hs:∀w,(sizeOf t).run P w=.ok n w) (hz:∀w,(zeroValue t).run P w=.ok z w) (hc:aU (bR []) zs=some z.cells.toList) (h:GP P T):GP P ((t,⟨k,a,n,zs⟩) :: T):=by
 refine⟨fun t' i hi=>?_,fun t' i hi=>?_,fun t' i hi=>?_,fun t' i hi=>?_⟩<;>simp only[CM] at hi<;>split at hi
 ·grind[qG]
 ·exact h.und t' i hi
 ·grind[qG]
 ·exact h.agg t' i hi
 ·grind[qG]
 ·exact h.size t' i hi
 ·grind[qG]
 ·exact h.zero t' i hi
theorem GP.st{fs:List (Nat×Nat)}{Fs:List Field}(hu:P.underlying t=some (.struct Fs.toArray))(hk:StF P Fs fs)(ha:∀w,(isAgg t).run P w=.ok a w)(hs:∀w,(sizeOf t).run P w=.ok n w)(hz:∀w,(zeroValue t).run P w=.ok z w)(hc:aU (bR []) zs=some z.cells.toList)(h:GP P T):GP P ((t,⟨.st fs,a,n,zs⟩) :: T):=
 GP.add (k:=.st fs) hu ⟨Fs.toArray,rfl,by simpa using hk.off,fun j F hj=>hk.get j F (by grind),fun w=>by
  have:=hk.run w;simp_all⟩ ha hs hz hc h
end
abbrev I(x:Int):SV:=.i .i64 x
end Go.Gv
end
noncomputable section
namespace Go.Gv
noncomputable section
variable {P:Program} {T:TT} {hT:GP P T} {n:Nat} {c:Ctx} {B0:Bl} {N:Act->World->Prop} {X:Nat->Act->World->Prop} {Q:Act->World->Prop} {K K':List Fr} {m m':Nat} {e e':SE} {L L':List Ch} {cf cf1 cf2:vT} {o:Oper} {Lv:List Ch} {d:Nat}
theorem ext_nil:cf.ext []=cf:=by cases cf<;>simp[vT.ext]
theorem pu{x:SV}(hs:opS (kO T n K cf m e L)=some (o,Lv,cf1,cf2,K',m',e',L'))(hd:o.dst=some d)(hv:∀B a w,hY n B e' a->mN c w B Lv->∃v,fF B x=some v/\eJ P o (vE B e') w v w)
  (k:G (.mk P T hT n c B0 N X Q) K' m' ((d,x) :: e') L' cf2):G (.mk P T hT n c B0 N X Q) K m e L cf:=by
 refine iJ (g:=.mk P T hT n c B0 N X Q) ?_;have key:aAF (.mk P T hT n c B0 N X Q) K' m' e' L' o Lv cf1 cf2->G (.mk P T hT n c B0 N X Q) K' m' e' L' cf1:=fun hP=>by refine hP d x [] (fun _=>[]) 0 hd (fun _=>rfl) (fun B a w hA hS _=>?_) (fun B w L _ hS=>by simpa using hS) (by rw[ext_nil];simpa using k);obtain⟨v,h1,h2⟩:=hv B a w hA hS;exact⟨v,by simpa using h1,h2⟩
 generalize kO T n K cf m e L=s at hs;cases s<;>simp only[opS] at hs<;>cases hs
 ·exact fun _ hP=>key hP
 ·exact fun _ hP _=>key hP
theorem zL{x:Operand}{k:IntKind}{i:Int}{B:Bl}{a:Act}(hA:hY n B e a)(h:(jC e x).bind uT=some (k,i)):ev (vE B e) x=some (.int k i):=by
 cases hx:jC e x with
 | none=>rw[hx] at h;cases h
 | some y =>
  rw[hx] at h;obtain⟨v,h1,h2⟩:=fL hA hx;rw[h2,aR6 (x:=y) h h1]
noncomputable section
variable {x y:Operand} {t z:TypeId} {k:IntKind} {i j:Int} {α:Type} {A:Option α} {q:α}
theorem bD8(hs:opS (kO T n K cf m e L)=some (o,Lv,cf1,cf2,K',m',e',L'))(ho:(o.op,o.dst)=(.binOp .quo t x y z,some d))(hx:(jC e' x).bind uT=some (k,i))(hy:(jC e' y).bind uT=some (k,j))(hF:need (j≠0) A=some q)
  (kk:A=some q->G (.mk P T hT n c B0 N X Q) K' m' ((d,.i k (k.wrap (i.tdiv j))) :: e') L' cf2):G (.mk P T hT n c B0 N X Q) K m e L cf:=
 pu hs (congrArg Prod.snd ho) (fun B a w hA _=>⟨_,rfl,aRS (congrArg Prod.fst ho) (zL hA hx) (zL hA hy) (jW hF).1⟩) (kk (jW hF).2)
theorem bB0(hs:opS (kO T n K cf m e L)=some (o,Lv,cf1,cf2,K',m',e',L'))(ho:(o.op,o.dst)=(.binOp .rem t x y z,some d))(hx:(jC e' x).bind uT=some (k,i))(hy:(jC e' y).bind uT=some (k,j))(hF:need (j≠0) A=some q)
  (kk:A=some q->G (.mk P T hT n c B0 N X Q) K' m' ((d,.i k (i.tmod j)) :: e') L' cf2):G (.mk P T hT n c B0 N X Q) K m e L cf:=
 pu hs (congrArg Prod.snd ho) (fun B a w hA _=>⟨_,rfl,aCI (congrArg Prod.fst ho) (zL hA hx) (zL hA hy) (jW hF).1⟩) (kk (jW hF).2)
theorem a9U{x:Operand}{l:List UInt8}{B:Bl}{a:Act}(hA:hY n B e a)(h:jC e x=some (.s l)):ev (vE B e) x=some (sv l):=by obtain⟨v,h1,h2⟩:=fL hA h;cases h1;exact h2
theorem cat{p r:List UInt8}(hs:opS (kO T n K cf m e L)=some (o,Lv,cf1,cf2,K',m',e',L'))(ho:(o.op,o.dst)=(.binOp .add t x y z,some d))(hx:jC e' x=some (.s p))(hy:jC e' y=some (.s r))(hF:need (p.length+r.length<=9223372036854775807) A=some q)
  (kk:A=some q->G (.mk P T hT n c B0 N X Q) K' m' ((d,.s (p++r)) :: e') L' cf2):G (.mk P T hT n c B0 N X Q) K m e L cf:=
 pu hs (congrArg Prod.snd ho) (fun B a w hA _=>⟨_,rfl,a84 (congrArg Prod.fst ho) (a9U hA hx) (a9U hA hy) (jW hF).1⟩) (kk (jW hF).2)
theorem a5V{x:Operand}{cs:List SV}{vs:List Value}{B:Bl}{a:Act}(hA:hY n B e a)(h:(jC e x).map nbS=some (.g cs))(hv:aU (bR []) cs=some vs):ev (vE B e) x=some (.agg vs.toArray):=by
 cases hx:jC e x with
 | none=>rw[hx] at h;cases h
 | some y =>
  rw[hx] at h;simp at h;obtain⟨v,h1,h2⟩:=fL hA hx;rw[h2,<-h1,<-aGA,h];simp only[fF,gV];have:=eS (g:=bR B) (fun x v h=>by simpa using gC (B:=[]) B h) hv;rw[this]
theorem eqS{xs ys:List SV}{vx vy:List Value}{fs:Array Field}{b:Bool}(hg:P.eqGuardType P.depth t=false)(hst:P.stoodInHeld t=false)(hu:P.underlying t=some (.struct fs))(hb:∀w,(Op.eqFields 9999 vx.toArray vy.toArray (match P.underlying t with | some (.struct fs)=>fs | _=>#[]).toList).run P w=.ok b w)(hs:opS (kO T n K cf m e L)=some (o,Lv,cf1,cf2,K',m',e',L'))(ho:(o.op,o.dst)=(.binOp .eql t x y z,some d))(hx:(jC e' x).map nbS=some (.g xs))(hy:(jC e' y).map nbS=some (.g ys))(hvx:aU (bR []) xs=some vx)(hvy:aU (bR []) ys=some vy)
  (kk:G (.mk P T hT n c B0 N X Q) K' m' ((d,.b b) :: e') L' cf2):G (.mk P T hT n c B0 N X Q) K m e L cf:=
 pu hs (congrArg Prod.snd ho) (fun B a w hA _=>⟨_,rfl,a88 hg hst hu hb (congrArg Prod.fst ho) (a5V hA hx hvx) (a5V hA hy hvy)⟩) kk
theorem neS{xs ys:List SV}{vx vy:List Value}{fs:Array Field}{b:Bool}(hg:P.eqGuardType P.depth t=false)(hst:P.stoodInHeld t=false)(hu:P.underlying t=some (.struct fs))(hb:∀w,(Op.eqFields 9999 vx.toArray vy.toArray (match P.underlying t with | some (.struct fs)=>fs | _=>#[]).toList).run P w=.ok b w)(hs:opS (kO T n K cf m e L)=some (o,Lv,cf1,cf2,K',m',e',L'))(ho:(o.op,o.dst)=(.binOp .neq t x y z,some d))(hx:(jC e' x).map nbS=some (.g xs))(hy:(jC e' y).map nbS=some (.g ys))(hvx:aU (bR []) xs=some vx)(hvy:aU (bR []) ys=some vy)
  (kk:G (.mk P T hT n c B0 N X Q) K' m' ((d,.b (!b)) :: e') L' cf2):G (.mk P T hT n c B0 N X Q) K m e L cf:=
 pu hs (congrArg Prod.snd ho) (fun B a w hA _=>⟨_,rfl,a4X hg hst hu hb (congrArg Prod.fst ho) (a5V hA hx hvx) (a5V hA hy hvy)⟩) kk
theorem RL{α:Type}[aJ α]{w:World}:bS (b9 w) ⟨none,0⟩ ([]:List α):=aRW
theorem cl0{α β:Type}{fo:Option α}{kf:α->Option β}{q:β}{f:FuncId}{xs:List SV}{sv:α->SV}(hs:kO T n K cf m e L=.call o (some d) f xs cf1 cf2 K' m' e' L')
  (hc:∀{w},HS c w L'->∀{x},fo=some x->Fn0 P f (b9 w) xs sv x) (hF:fo.bind kf=some q)
  (k:∀x,fo=some x->kf x=some q->G (.mk P T hT n c B0 N X Q) K' m' ((d,sv x) :: e') L' cf2):G (.mk P T hT n c B0 N X Q) K m e L cf:=
 cl (Lf:=fun _ _=>[]) hs (fun _ _=>rfl) (fun h=>hc h) hF (fun x hx hk _=>by simpa using k x hx hk)
theorem lr{σ ρ υ α:Type}{id:Nat}{y:Code}{fb:σ->Option (Step σ ρ)}{s0:σ}{gk:ρ->Option α}{q:α}(u0:υ)(ks:List Nat)(el:σ->υ->SE)(is0 is:List Nat)(Ll:σ->υ->List Ch)
  (hs:kO T n K cf m e L=.loop id y K' m' e' L') (hF:(loop fb s0).bind gk=some q)
  (h0:WX B0.length m' e' L' is0 m' (el s0 u0++kp e' ks) (Ll s0 u0++kl L' is)=some (el s0 u0++kp e' ks,Ll s0 u0++kl L' is))
  (k1:∀ro,gk ro=some q->∀s u o,fb s=some o->(∀p,o=.stop p->p=ro)->G (.mk P T hT n c B0 (NxP n c B0 o m' (fun s u=>el s u++kp e' ks) (fun s u=>Ll s u++kl L' is)) (BkP n c B0 ro (fun b:Empty=>nomatch b) m' (fun(b:Empty) (_:Unit)=>nomatch b) (fun b _=>nomatch b) id (XK (.mk P T hT n c B0 N X Q) K')) Q) [] m' (el s u++kp e' ks) (Ll s u++kl L' is) (.c y)):G (.mk P T hT n c B0 N X Q) K m e L cf:=
 lp (β:=Empty) (ω:=Unit) u0 ks el is0 is Ll (fun b=>nomatch b) [] (fun b=>nomatch b) [] (fun b=>nomatch b) hs hF h0 (fun ro hro s u o hb ho=>by
  have:=k1 ro hro s u o hb ho;have h1:(fun(b:Empty) (u:Unit)=>((fun b=>nomatch b:Empty->Unit->SE) b u++kp e' []))=(fun(b:Empty) (_:Unit)=>nomatch b):=funext fun b=>nomatch b
  have h2:(fun(b:Empty) (u:Unit)=>((fun b=>nomatch b:Empty->Unit->List Ch) b u++kl L' []))=(fun(b:Empty) (_:Unit)=>nomatch b):=funext fun b=>nomatch b
  rw[h1,h2];exact this) (fun b=>nomatch b)
end
end
end Go.Gv
end
noncomputable section
namespace Go.Gv
noncomputable section
variable {P:Program} {T:TT} {hT:GP P T} {n:Nat} {c:Ctx} {B0:Bl} {N:Act->World->Prop} {X:Nat->Act->World->Prop} {Q:Act->World->Prop} {K K':List Fr} {m m':Nat} {e e':SE} {L L':List Ch} {cf cf1 cf2:vT} {o:Oper} {Lv:List Ch} {d:Nat}
def XL(P:Program)(c:Ctx){α β:Type}{iR:aJ α}(C:FH α)(sr:β->SV)(g:FuncId)(cap:List Value)(p:α->Option β):Prop:=
 (∀args w,(callFunc g args).run P w=.ok (.enter g args) w)/\∀w,eI c.W c.w0 w->∀x y,C.sub (PW w) w x y->∀q,p x=some q->∀v,fF [] (C.sv x y)=some v->Calls P g (v :: cap).toArray w (Ret fun u w'=>fF [] (sr q)=some u/\mN (b9 w) w' [] [])
def Fu2(P:Program)(c:Ctx){α α' β:Type}{iR:aJ α}{iR':aJ α'}(C:FH α)(C':FH α')(sr:β->SV)(g:FuncId)(cap:List Value)(p:α->α'->Option β):Prop:=
 (∀args w,(callFunc g args).run P w=.ok (.enter g args) w)/\∀w,eI c.W c.w0 w->∀x y x' y',C.sub (PW w) w x y->C'.sub (PW w) w x' y'->∀q,p x x'=some q->∀v v',fF [] (C.sv x y)=some v->fF [] (C'.sv x' y')=some v'->Calls P g (v :: v' :: cap).toArray w (Ret fun u w'=>fF [] (sr q)=some u/\mN (b9 w) w' [] [])
theorem a0S{α:Type}{iR:aJ α}(C:FH α){w:World}{B:Bl}(hS:mN c w B L){x:α}{y:C.ex}(h:C.sub c.S0 c.w0 x y):C.sub (PW w) w x y:=by refine C.bEJ h (fun b o hb=>?_) (a0Q hS);obtain⟨⟨R,s1,_⟩,s0⟩:=hS;exact s1.keep.cell b o (s0 b o hb) fun hw=>s1.apart b o hw hb
theorem mN.a0T{w:World}{B:Bl}(hS:mN c w B L):eI c.W c.w0 w:=by obtain⟨⟨R,s1,_⟩,s0⟩:=hS;exact s1.keep
noncomputable section
variable {α α' β γ:Type} {iR:aJ α} {iR':aJ α'} {C:FH α} {C':FH α'} {sr:β->SV} {g:FuncId} {cap:List Value} {q:γ} {kf:β->Option γ} {fo:Operand} {args:Array Operand} {ats:Array TypeId}
theorem a0U{f:FuncId}{x:Operand}{ts:Array TypeId}{vs:List Value}{E:Env}{w:World}(hcall:∀args w,(callFunc f args).run P w=.ok (.enter f args) w)(ho:o.op=.call {callee:=.value x,args:=args,argTypes:=ts})(hx:ev E x=some (.func (.func f) #[] cap.toArray))(hv:evs E args.toList=some vs):aYX P o E w f (vs++cap).toArray:=
 aOZ (w:=w) (cap:=cap) (xs:=args.toList) (vs:=vs) hcall (by omega) hx hv
theorem aLV{B:Bl}{x:SV}{v:Value}(h:xI 0 x=true)(hv:fF B x=some v):fF [] x=some v:=by have:=RK h hv;grind
theorem fa1{p:α->Option β}(H:XL P c C sr g cap p)(x:α)(y:C.ex)(hs:kO T n K cf m e L=.op o Lv cf1 cf2 K' m' e' L')(ho:(o.op,o.dst)=(.call {callee:=.value fo,args:=args,argTypes:=ats},some d))(hf:jC e' fo=some (.k (.func (.func g) #[] cap.toArray)))(hx:(aU (jC e') args.toList).map nbT=some [C.sv x y])(hz:xI 0 (C.sv x y)=true)(hy:C.sub c.S0 c.w0 x y)(hF:(p x).bind kf=some q)
  (k:∀z,p x=some z->kf z=some q->G (.mk P T hT n c B0 N X Q) K' m' ((d,sr z) :: e') L' cf2):G (.mk P T hT n c B0 N X Q) K m e L cf:=by
 refine iJ (g:=.mk P T hT n c B0 N X Q) ?_;rw[hs];intro hdn _ hE;obtain⟨hcall,hrun⟩:=H;cases hp:p x with
 | none=>grind
 | some z =>
  rw[hp] at hF;refine hE Unit (fun _=>m') (fun _=>(d,sr z) :: e') (fun _=>L') (fun _=>by simpa using xJ (L:=L') []) (fun B a w next Q' hm hA hS hnext=>?_) (fun _=>k z hp hF);cases hys:aU (jC e') args.toList with
  | none=>grind
  | some ys =>
   rw[hys] at hx;simp at hx;obtain⟨vs,h1,h2⟩:=YB hA hys;obtain⟨u,h3,h4⟩:=fL hA hf;simp only[fF,gV,bR] at h3;split at h3
   ·cases h3;rw[<-aUS,hx] at h1;simp only[aU] at h1;cases hv:fF (Y2 (.mk P T hT n c B0 N X Q) cf1++B) (C.sv x y) with
    | none=>grind
    | some v =>
     rw[hv] at h1;cases h1;have h6:=a0U (w:=w) hcall (congrArg Prod.fst ho) h4 h2;have hd:o.dst=some d:=congrArg Prod.snd ho;unfold Oper.wp;rw[h6 _ a hA.env,Oper.upon_enter];refine Calls.mono (hrun w hS.a0T x y (a0S C hS hy) z hp v (aLV hz hv)) fun en w' ⟨v',hv',g1,g2⟩=>?_;subst hv';rw[hd] at hdn ⊢;have g3:=vB (Y2 (.mk P T hT n c B0 N X Q) cf1++B) g1;exact hnext () _ _ ⟨[],by grind,by simpa using hA.of (by grind) (hA.env.put (by grind[qT,vV]) v'),by simpa using hS.after (L2:=[]) rfl g2⟩
   ·cases h3
theorem fu1{w:World}{p:α->Option β}(hc:∀args w,(callFunc g args).run P w=.ok (.enter g args) w)(hn:∀{κ:Ctx} {x y},C.sub κ.S0 κ.w0 x y->∀{q},p x=some q->Fn0 P g κ [C.sv x y] sr q):XL P (b9 w) C sr g [] p:=
 ⟨hc,fun w1 _ x y hy q hq v hv=>by
  refine Calls.mono ((hn (κ:=b9 w1) hy hq).run [v] (by simp[aU,hv]) (aW3 w1)) fun en w' ⟨v',h1,y,h2,h3⟩=>⟨v',h1,h2,h3⟩⟩
end
def roL:Nat->List (Nat×List SV)->List Ch
 | _,[]=>[]
 | k,(_,cs) :: r=>.ro k cs :: roL (k+1) r
def roS:List (Nat×List SV)->List Ch
 | []=>[]
 | (n,cs) :: r=>.ro n cs :: roS r
def a0V:Nat->List (Nat×List SV)->List SV
 | _,[]=>[]
 | k,_ :: r=>.p k 0 :: a0V (k+1) r
def QA(Bs:Bl):List Value:=Bs.map fun b=>.pointer (some ⟨b.1,b.2,none⟩)
theorem rk{α:Type}[aJ α]{w w1:World}{s:AC}{l:List α}(hk:eI F0 w w1)(h:bS (b9 w) s l):bS (b9 w1) s l:=
 aJ.rd_mono (aJ.rd_agree h fun b o hb=>hk.cell b o hb fun h=>h) fun b o hb=>PU hb hk.size
theorem fk1{α β:Type}{iR:aJ α}{C:FH α}{sr:β->SV}{g:FuncId}{w:World}{Bs:Bl}{cs:List (Nat×List SV)}{p:α->Option β}(hc:∀args w,(callFunc g args).run P w=.ok (.enter g args) w)(hB:∀w1,eI F0 w w1->mN (b9 w1) w1 Bs (roL 0 cs))(hl:aU (fF Bs) (a0V 0 cs)=some (QA Bs))(hz:∀q,xI 0 (sr q)=true)(hn:∀{w1 x y},eI F0 w w1->C.sub (PW w1) w1 x y->∀{q},p x=some q->FnS P g (b9 w1) (C.sv x y :: a0V 0 cs) Bs (roL 0 cs) (fun r (_:Unit)=>sr r) (fun _ _=>[]) q):XL P (b9 w) C sr g (QA Bs) p:=
 ⟨hc,fun w1 hk x y hy q hq v hv=>by
  have hv':fF Bs (C.sv x y)=some v:=by simpa using vB (B:=[]) Bs hv
  refine Calls.mono ((hn hk hy hq).run (v :: QA Bs) (by grind[aU]) (hB w1 hk)) fun en w' ⟨v',h1,y',h2,h3⟩=>⟨v',h1,?_,?_⟩
  ·grind[aLV]
  ·simpa using aAE (m:=0) h3 rfl⟩
theorem aU0:∀{cs:List (Nat×List SV)} {k:Nat} {x:Ch},x∈roL k cs->∃j n c,cs[j]?=some (n,c)/\x=.ro (k+j) c
 | (n, c) :: r, k, x, h => by
  rcases jA.1 h with h | h
  ·simp_all
  ·obtain⟨j,n',c',h1,h2⟩:=aU0 h;exact⟨j+1,n',c',by grind,by grind⟩
theorem aU1:∀{cs:List (Nat×List SV)} {n:Nat} {c:List SV},(n,c)∈cs->Ch.ro n c∈roS cs
 | (n', c') :: r, n, c, h => by
  rcases jA.1 h with h | h
  ·cases h;exact aLH ..
  ·exact o7 _ (aU1 h)
theorem a0W{B:Bl}{cs:List (Nat×List SV)}{cap:List Value}:aU (T3 B) (cs.map (·.1))=some cap->∃Bs:Bl,cap=QA Bs/\Bs.length=cs.length/\∀(j:Nat) n c,cs[j]?=some (n,c)->∃b,Bs[j]?=some b/\B[n]?=some b:=by
 induction cs generalizing cap with
 | nil=>intro h;cases h;exact⟨[],rfl,rfl,by simp⟩
 | cons p r ih =>
  obtain⟨n,c⟩:=p;intro h;simp only[K8,aU] at h;split at h
  ·cases h
  ·rename_i v hv;split at h
   ·cases h
   ·rename_i vs hvs;cases h;obtain⟨Bs,h1,h2,h3⟩:=ih hvs;simp only[T3] at hv;split at hv
    ·rename_i b z hb;cases hv;refine⟨(b,z) :: Bs,by simp[QA,h1],by simp[h2],fun j n' c' hj=>?_⟩;grind
    ·cases hv
def aPC:List (Nat×List SV)->Bool
 | []=>true
 | (_,c) :: r=>xI.okC 0 c && aPC r
theorem aPD:∀{cs:List (Nat×List SV)} {j n:Nat} {c:List SV},aPC cs=true->cs[j]?=some (n,c)->xI.okC 0 c=true
 | (n', c') :: r, 0, n, c, h, hj => by simp_all[aPC]
 | (n', c') :: r, j + 1, n, c, h, hj => by simp only[aPC,BN] at h;exact aPD h.2 (by simpa using hj)
theorem a9V{w:World}{B Bs:Bl}{cs:List (Nat×List SV)}(hS:mN c w B L)(hk:∀x∈roS cs,x∈L)(ho:aPC cs=true)(hB:∀(j:Nat) n c,cs[j]?=some (n,c)->∃b,Bs[j]?=some b/\B[n]?=some b):∀w1,eI F0 w w1->mN (b9 w1) w1 Bs (roL 0 cs):=by
 intro w1 hkp;have facts:∀x∈roL 0 cs,∃(f:Fact),f.P (PW w1) w1/\(∀R,f∈R->roF Bs R x)/\lD Bs x=JQ:=by intro x hx;obtain⟨j,n,cc,h1,h2⟩:=aU0 hx;subst h2;obtain⟨⟨R,s1,s2⟩,s0⟩:=hS;obtain⟨b,z,vs,g1,g2,g3⟩:=s2 _ (hk _ (aU1 (yI h1)));obtain⟨b',q1,q2⟩:=hB j n cc h1;rw[g1] at q2;cases q2;have hc0:=AN (aPD ho h1) g2;rw[List.take_zero] at hc0;obtain⟨i,hi⟩:=aG0 g3;refine⟨fAt b z vs,a72 (s1.fact i hi) hkp,fun R hR=>⟨b,z,vs,by simpa using q1,eS (fun x v h=>by simpa using gC (B:=[]) Bs h) hc0,hR⟩,rfl⟩
 have build:∀M:List Ch,(∀x∈M,x∈roL 0 cs)->∃R:List Fact,(∀f∈R,f.P (PW w1) w1)/\(∀x∈M,roF Bs R x)/\M.map (lD Bs)=List.replicate M.length JQ:=by
  intro M;induction M with
  | nil=>exact fun _=>⟨[],by simp,by simp,rfl⟩
  | cons x M ih =>
   intro hM;obtain⟨R,h1,h2,h3⟩:=ih fun y hy=>hM y (o7 _ hy);obtain⟨f,f1,f2,f3⟩:=facts x (hM x (by simp));refine⟨f :: R,fun g hg=>?_,fun y hy=>?_,by simp[f3,h3,List.replicate_succ]⟩
   ·rcases jA.1 hg with hg | hg
    ·subst hg;exact f1
    ·exact h1 g hg
   ·rcases jA.1 hy with hy | hy
    ·subst hy;exact f2 _ (by simp)
    ·exact aAC (fun g hg=>o7 _ hg) (h2 y hy)
 obtain⟨R,h1,h2,h3⟩:=build (roL 0 cs) fun _ h=>h;refine⟨⟨R,?_,h2⟩,fun _ _ h=>h⟩;rw[h3];have h4:St (b9 w1) w1 [] R:=St.enter h1;generalize (roL 0 cs).length=k;clear h3;induction k with
 | zero=>exact h4
 | succ k ih =>
  rw[List.replicate_succ'];exact St.more (ch:=JQ) ih (eI.refl _ _) ⟨F0,fun _ _ h=>h,fun _ _ h=>h.elim⟩
def shr(ns:List Nat):List Ch->List Ch
 | []=>[]
 | .box n cs :: L => match gL n ns with
  | true=>.box n cs :: shr ns L
  | false=>.ro n cs :: shr ns L
 | x :: L=>x :: shr ns L
theorem St.a9W{w:World}{M:List Chunk}{R:List Fact}{b z i:Nat}{vs:List Value}(h:St c w M R)(hi:M[i]?=some (UC b z vs)):St c w (M.set i JQ) (R ++ [fAt b z vs]):=by
 have h1:=h.take i hi;obtain⟨F,S,⟨F1,F2,h1,h2,hd,hF⟩,a2,a3,a4,a5,a6⟩:=h1.sep;have hlt:∀b' o,F1 b' o->b'<w.heap.size:=fun _ _ hf=>Chunk.lt (UC b z vs) h1 hf;obtain⟨g1,g2,g3⟩:=h1;refine⟨h.keep,⟨F2,fun b o=>S b o\/F1 b o,h2,?_,fun b o hf=>a3 b o ((hF b o).2 (.inr hf)),?_,?_,?_⟩,h.apart⟩
 ·rintro b o hf (hs | hs)
  ·exact a2 b o ((hF b o).2 (.inr hf)) hs
  ·exact hd b o hs hf
 ·grind
 ·grind
 ·intro f hf;rcases fB.1 hf with hf | hf
  ·exact f.mono (a6 f hf) fun b o hs=>.inl hs
  ·simp at hf;subst hf;exact⟨g1,fun o ho=>.inr ((g3 b o).2 ho)⟩
theorem aNB{w:World}{B:Bl}(ns:List Nat):∀(M L:List Ch),mN c w B (M++L)->mN c w B (M++shr ns L)
 | M,[],h=>h
 | M, x :: L, h => by
  have gen:mN c w B (M++x :: shr ns L):=by have:=aNB ns (M ++ [x]) L (by simpa using h);grind
  cases x with
  | box n cs =>
   simp only[shr];split
   ·exact gen
   ·obtain⟨⟨R,s1,s2⟩,s0⟩:=gen;have hi:((M++Ch.box n cs :: shr ns L).map (lD B))[M.length]?=some (RI B n cs):=by simp[lD]
    obtain⟨F,b,z,vs,h3,h4,h5⟩:=s1.chunk (ch:=RI B n cs) M.length hi;have s3:=s1.imp (jX.put M.length hi fun F ⟨b',z',vs',q1,q2,q3⟩=>by
     rw[h3] at q1;cases q1;rw[h4] at q2;cases q2;exact q3)
    have s4:=s3.a9W (b:=b) (z:=z) (vs:=vs) (i:=M.length) (by rw[List.getElem?_set_self];simp);refine⟨⟨R ++ [fAt b z vs],?_,fun x hx=>?_⟩,s0⟩
    ·have:((M++Ch.ro n cs :: shr ns L).map (lD B))=(((M++Ch.box n cs :: shr ns L).map (lD B)).set M.length (UC b z vs)).set M.length JQ:=by simp[lD]
     grind
    ·rcases fB.1 hx with hx | hx
     ·exact aAC (fun f hf=>aG1 _ hf) (s2 x (aG1 _ hx))
     ·rcases jA.1 hx with hx | hx
      ·subst hx;exact⟨b,z,vs,h3,h4,by simp⟩
      ·exact aAC (fun f hf=>aG1 _ hf) (s2 x (aG2 _ (o7 _ hx)))
  | _=>exact gen
theorem mf{f:FuncId}{caps:Array Operand}{ops:Array Oper}{l:List Oper}(ns:List Nat)(hs:kO T n K cf m e L=.op o Lv (.r ops l) cf2 K' m' e' L')(ho:(o.op,o.dst)=(.makeFunc (.func f) #[] caps,some d))(hx:aU (jC e') caps.toList=some (ns.map fun n=>.p n 0))
  (k:G (.mk P T hT n c B0 N X Q) K' m' ((d,.f f ns) :: e') (shr ns L') cf2):G (.mk P T hT n c B0 N X Q) K m e L cf:=by
 refine iJ (g:=.mk P T hT n c B0 N X Q) ?_;rw[hs];intro hdn _ hE;refine hE Unit (fun _=>m') (fun _=>(d,.f f ns) :: e') (fun _=>shr ns L') (fun _=>trivial) (fun B a w next Q' hm hA hS hnext=>?_) (fun _=>k);obtain⟨vs,h1,h2⟩:=YB hA hx;have hd:o.dst=some d:=congrArg Prod.snd ho;have h3:∀{ns:List Nat} {vs:List Value},aU (fF (Y2 (.mk P T hT n c B0 N X Q) (.r ops l)++B)) (ns.map fun n=>SV.p n 0)=some vs->aU (T3 (Y2 (.mk P T hT n c B0 N X Q) (.r ops l)++B)) ns=some vs:=by
  intro ns;induction ns with
  | nil=>intro vs h;exact h
  | cons jj ns ih =>
   grind[aU,T3,fF,gV,bR]
 have h5:∀{os:List Operand} {vs:List Value},evs (vE (Y2 (.mk P T hT n c B0 N X Q) (.r ops l)++B) e') os=some vs->os.map (ev (vE (Y2 (.mk P T hT n c B0 N X Q) (.r ops l)++B) e'))=vs.map some:=by
  intro os;induction os with
  | nil=>intro vs h;cases h;rfl
  | cons o os ih =>
   grind[evs]
 have h6:=a4T (P:=P) (w:=w) (vf:=[]) (vc:=vs) (congrArg Prod.fst ho) rfl (h5 h2);unfold Oper.wp;rw[h6 _ a hA.env,Oper.upon_value,hd];rw[hd] at hdn;have h7:fF (Y2 (.mk P T hT n c B0 N X Q) (.r ops l)++B) (.f f ns)=some (.func (.func f) #[] vs.toArray):=by grind[fF]
 exact hnext () _ _ ⟨[],by grind,by simpa using hA.of h7 (hA.env.put (by grind[qT,vV]) _),by simpa using aNB ns [] L' hS⟩
theorem clc{α β:Type}{fo:Option α}{kf:α->Option β}{q:β}{f g:FuncId}{xs xs0:List SV}{sv:α->SV}(is:List Nat)(cs:List (Nat×List SV))(hs:kO T n K cf m e L=.callp o (some d) f xs cf1 cf2 K' m' e' L')(hk:kl L' is=roS cs)(ho:(aPC cs && okA xs.dropLast)=true)(hx:xs=xs.dropLast ++ [.f g (cs.map (·.1))])
  (hc:∀{w},HS c w L'->∀{Bs:Bl},Bs.length=cs.length->(∀w1,eI F0 w w1->mN (b9 w1) w1 Bs (roL 0 cs))->∀{x},fo=some x->Fn0 P f (b9 w) (xs.dropLast ++ [.k (.func (.func g) #[] (QA Bs).toArray)]) sv x) (hF:fo.bind kf=some q)
  (k:∀x,fo=some x->kf x=some q->G (.mk P T hT n c B0 N X Q) K' m' ((d,sv x) :: e') L' cf2):G (.mk P T hT n c B0 N X Q) K m e L cf:=by
 refine iJ (g:=.mk P T hT n c B0 N X Q) ?_;rw[hs];intro fo' args ats ho' hd hf ⟨ys,hys,hxs⟩ hdn hE;rw[BN] at ho;cases hfo:fo with
 | none=>grind
 | some x =>
  rw[hfo] at hF;refine hE Unit (fun _=>m') (fun _=>(d,sv x) :: e') (fun _=>L') (fun _=>by simpa using xJ (L:=L') []) (fun B a w next Q' hm hA hS hnext=>?_) (fun _=>k x hfo hF);obtain⟨vs,h1,h2⟩:=YB hA hys;obtain⟨v,h3,h4⟩:=fL hA hf;simp[fF,aU] at h3;subst h3;rw[<-NB,hxs] at h1;rw[hx] at h1;have split:∀{as:List SV} {b:SV} {vs:List Value} {B:Bl},aU (fF B) (as ++ [b])=some vs->∃us v,aU (fF B) as=some us/\fF B b=some v/\vs=us ++ [v]:=by
   intro as;induction as with
   | nil =>
    grind[aU]
   | cons a as ih =>
    intro b vs B h;simp only[UG,aU] at h;grind[aU]
  obtain⟨us,fv,g1,g2,rfl⟩:=split h1;simp only[fF] at g2;split at g2
  ·rename_i cap hcap;cases g2;obtain⟨Bs,b1,b2,b3⟩:=a0W hcap;subst b1;have hmem:∀x∈roS cs,x∈L':=fun x hx=>aHM (is:=is) (by grind);obtain⟨hcall,hrun⟩:=hc ⟨_,hS⟩ b2 (a9V hS hmem ho.1 b3) hfo;have join:∀{as:List SV} {us:List Value} {b:SV} {v:Value},aU (fF []) as=some us->fF [] b=some v->aU (fF []) (as ++ [b])=some (us ++ [v]):=by
    intro as;induction as with
    | nil=>grind[aU]
    | cons a as ih =>
     intro us b v h hb;simp only[aU] at h;split at h
     ·cases h
     ·rename_i u hu;split at h
      ·cases h
      ·rename_i us' hus;cases h;simp[aU,hu,ih hus hb]
   have h5:=hrun (us ++ [.func (.func g) #[] (QA Bs).toArray]) (join (aAI ho.2 g1) (by simp[fF,gV,bR,Value.oneCell'])) (aW3 w);have h6:=P9 (w:=w) hcall ho' h4 h2;unfold Oper.wp;rw[h6 _ a hA.env,Oper.upon_enter];refine Calls.mono h5 fun en w' ⟨v,hv,y,e1,e2⟩=>?_;subst hv;rw[hd];have g3:=vB (Y2 (.mk P T hT n c B0 N X Q) cf1++B) e1;exact hnext () _ _ ⟨[],by grind,by simpa using hA.of (by grind) (hA.env.put (by grind[qT,vV]) v),by simpa using hS.after (L2:=[]) rfl e2⟩
  ·cases g2
theorem HS.u1{α β:Type}{iR:aJ α}{C:FH α}{sr:β->SV}{g:FuncId}{cap:List Value}{w:World}{p:α->Option β}(h:HS c w L)(H:XL P c C sr g cap p):XL P (b9 w) C sr g cap p:=by obtain⟨B,hS⟩:=h.ex;exact⟨H.1,fun w1 hk=>H.2 w1 (hS.a0T.trans hk fun _ _ _ h=>h.elim)⟩
theorem HS.u2{α α' β:Type}{iR:aJ α}{iR':aJ α'}{C:FH α}{C':FH α'}{sr:β->SV}{g:FuncId}{cap:List Value}{w:World}{p:α->α'->Option β}(h:HS c w L)(H:Fu2 P c C C' sr g cap p):Fu2 P (b9 w) C C' sr g cap p:=by obtain⟨B,hS⟩:=h.ex;exact⟨H.1,fun w1 hk=>H.2 w1 (hS.a0T.trans hk fun _ _ _ h=>h.elim)⟩
theorem bD9{α β:Type}{fo:Option α}{kf:α->Option β}{q:β}{f g:FuncId}{xs:List SV}{sv:α->SV}{n1:Nat}{c1:List SV}(is:List Nat)(hs:kO T n K cf m e L=.callp o (some d) f xs cf1 cf2 K' m' e' L')(hk:kl L' is=[.ro n1 c1])(ho:(aPC [(n1,c1)] && okA xs.dropLast)=true)(hx:xs=xs.dropLast ++ [.f g [n1]])
  (hc:∀{w},HS c w L'->∀{b1:Nat×Nat},(∀w1,eI F0 w w1->mN (b9 w1) w1 [b1] [.ro 0 c1])->∀{x},fo=some x->Fn0 P f (b9 w) (xs.dropLast ++ [.k (.func (.func g) #[] (QA [b1]).toArray)]) sv x) (hF:fo.bind kf=some q)
  (k:∀x,fo=some x->kf x=some q->G (.mk P T hT n c B0 N X Q) K' m' ((d,sv x) :: e') L' cf2):G (.mk P T hT n c B0 N X Q) K m e L cf:=
 clc (xs0:=[]) is [(n1,c1)] hs hk ho hx (fun h Bs hl hB=>match Bs,hl,hB with | [_],_,hB=>hc h hB) hF k
end
end Go.Gv
end
noncomputable section
namespace Go.Gv
noncomputable section
variable {P:Program} {T:TT} {hT:GP P T} {n:Nat} {c:Ctx} {B0:Bl} {N:Act->World->Prop} {X:Nat->Act->World->Prop} {Q:Act->World->Prop} {K K':List Fr} {m m':Nat} {e e':SE} {L L':List Ch} {cf cf1 cf2:vT} {o:Oper} {Lv:List Ch} {d:Nat}
variable {x y z:Operand} {t t2:TypeId} {k k2:IntKind} {i j:Int} {α β:Type} {A:Option β} {q:β}
theorem a9X(hs:opS (kO T n K cf m e L)=some (o,Lv,cf1,cf2,K',m',e',L'))(ho:(o.op,o.dst)=(.call {callee:=.builtin .min,args:=#[x,y],argTypes:=#[t,t2]},some d))(hx:(jC e' x).bind uT=some (.i64,i))(hy:(jC e' y).bind uT=some (k,j))
  (kk:G (.mk P T hT n c B0 N X Q) K' m' ((d,.i .i64 (if j<i then j else i)) :: e') L' cf2):G (.mk P T hT n c B0 N X Q) K m e L cf:=
 pu hs (congrArg Prod.snd ho) (fun B a w hA _=>⟨_,rfl,a9B (congrArg Prod.fst ho) (zL hA hx) (zL hA hy)⟩) kk
theorem bB3(hs:opS (kO T n K cf m e L)=some (o,Lv,cf1,cf2,K',m',e',L'))(ho:(o.op,o.dst)=(.call {callee:=.builtin .max,args:=#[x,y],argTypes:=#[t,t2]},some d))(hx:(jC e' x).bind uT=some (.i64,i))(hy:(jC e' y).bind uT=some (k,j))
  (kk:G (.mk P T hT n c B0 N X Q) K' m' ((d,.i .i64 (if i<j then j else i)) :: e') L' cf2):G (.mk P T hT n c B0 N X Q) K m e L cf:=
 pu hs (congrArg Prod.snd ho) (fun B a w hA _=>⟨_,rfl,a9C (congrArg Prod.fst ho) (zL hA hx) (zL hA hy)⟩) kk
noncomputable section
variable {l:List UInt8} {b1:Bool} {n1:Nat} {z1:List SV}
theorem bB4(ht:CM T t=some ⟨.s,b1,n1,z1⟩)(hT:GP P T):P.underlying t=some .string:=by obtain⟨dd,hd1,hd2⟩:=hT.und _ _ ht;grind
theorem qsi{kf:UInt8->Option β}(hs:opS (kO T n K cf m e L)=some (o,Lv,cf1,cf2,K',m',e',L'))(ho:(o.op,o.dst)=(.index t x y,some d))(ht:CM T t=some ⟨.s,b1,n1,z1⟩)(hx:jC e' x=some (.s l))(hy:(jC e' y).bind uT=some (k,i))(hF:(idx l i).bind kf=some q)
  (kk:∀u,idx l i=some u->kf u=some q->G (.mk P T hT n c B0 N X Q) K' m' ((d,.y u) :: e') L' cf2):G (.mk P T hT n c B0 N X Q) K m e L cf:=by
 cases hi:idx l i with
 | none=>grind
 | some u =>
  rw[hi] at hF;exact pu hs (congrArg Prod.snd ho) (fun B a w hA _=>⟨_,rfl,a44 (bB4 ht hT) hi (congrArg Prod.fst ho) (a9U hA hx) (zL hA hy)⟩) (kk u hi hF)
end
noncomputable section
variable [aJ α] {s:AC} {l:List α} {el:TypeId} {b1 b2:Bool} {n1 sz:Nat} {z1 z2:List SV} {kt:TK}
theorem hdB{B:Bl}{a:Act}(hA:hY n B e a){ln:Nat}(h:jC e x=some (.h s ln)):ev (vE B e) x=some (s.v ln):=by obtain⟨v,h1,h2⟩:=fL hA h;cases h1;exact h2
theorem IW(ht:CM T t=some ⟨.sl el,b1,n1,z1⟩)(hT:GP P T):P.underlying t=some (.slice el):=by obtain⟨dd,hd1,hd2⟩:=hT.und _ _ ht;grind
theorem qsb{a b:Nat}(h1:bS c s l)(hb:a<=b/\b<=l.length)(hs:opS (kO T n K cf m e L)=some (o,Lv,cf1,cf2,K',m',e',L'))(hd:o.dst=some d)(hr:∀B act w,hY n B e' act->aJ.rd c.S0 w [s.v l.length] l->eJ P o (vE B e') w (iQ (aJ.n α) a b (s.v l.length)) w)
  (kk:∀s',bS c s' ((l.take b).drop a)->G (.mk P T hT n c B0 N X Q) K' m' ((d,.h s' ((l.take b).drop a).length) :: e') L' cf2):G (.mk P T hT n c B0 N X Q) K m e L cf:=by
 have h2:=aRY (n:=aJ.n α) (a:=a) (b:=b) rfl h1 hb.1 hb.2;obtain⟨ad,cp,e1,_⟩:=aHF h2;rw[e1] at h2;exact pu hs hd (fun B act w hA hS=>⟨_,by grind[fF,gV,bR],hr B act w hA (aM9 hS (f:=BO [s.v l.length] l) h1)⟩) (kk ⟨ad,cp⟩ h2)
theorem aSB(hs:opS (kO T n K cf m e L)=some (o,Lv,cf1,cf2,K',m',e',L'))(ho:(o.op,o.dst)=(.slice t x (some y) (some z) none,some d))(ht:CM T t=some ⟨.sl el,b1,n1,z1⟩)(he:CM T el=some ⟨kt,b2,sz,z2⟩)(hn:aJ.n α=sz)(h1:bS c s l)(hx:jC e' x=some (.h s l.length))(hy:(jC e' y).bind uT=some (k,i))(hz:(jC e' z).bind uT=some (k2,j))(hF:need (0<=i/\i<=j/\j<=(l.length:Int)) A=some q)
  (kk:A=some q->∀s',bS c s' ((l.take j.toNat).drop i.toNat)->G (.mk P T hT n c B0 N X Q) K' m' ((d,.h s' ((l.take j.toNat).drop i.toNat).length) :: e') L' cf2):G (.mk P T hT n c B0 N X Q) K m e L cf:=by
 have hb:=(jW hF).1;subst hn;exact qsb h1 (by omega) hs (congrArg Prod.snd ho) (fun B act w hA h=>aWV h rfl (IW ht hT) (hT.size _ _ he) hb (congrArg Prod.fst ho) (hdB hA hx) (zL hA hy) (zL hA hz)) (kk (jW hF).2)
theorem a0X(hs:opS (kO T n K cf m e L)=some (o,Lv,cf1,cf2,K',m',e',L'))(ho:(o.op,o.dst)=(.slice t x none (some z) none,some d))(ht:CM T t=some ⟨.sl el,b1,n1,z1⟩)(he:CM T el=some ⟨kt,b2,sz,z2⟩)(hn:aJ.n α=sz)(h1:bS c s l)(hx:jC e' x=some (.h s l.length))(hz:(jC e' z).bind uT=some (k2,j))(hF:need (0<=j/\j<=(l.length:Int)) A=some q)
  (kk:A=some q->∀s',bS c s' ((l.take j.toNat).drop 0)->G (.mk P T hT n c B0 N X Q) K' m' ((d,.h s' ((l.take j.toNat).drop 0).length) :: e') L' cf2):G (.mk P T hT n c B0 N X Q) K m e L cf:=by
 have hb:=(jW hF).1;subst hn;exact qsb h1 (by omega) hs (congrArg Prod.snd ho) (fun B act w hA h=>aZJ h rfl (IW ht hT) (hT.size _ _ he) hb (congrArg Prod.fst ho) (hdB hA hx) (zL hA hz)) (kk (jW hF).2)
end
noncomputable section
variable {zv:Value} {n1 m1:Nat} {el:TypeId}
theorem a0Y{B:Bl}{xs:List SV}{vs:List Value}(h:aU (fF []) xs=some vs):aU (fF B) xs=some vs:=eS (fun x v h=>by simpa using vB (B:=[]) B h) h
theorem qba{ps:Array (Nat×Operand)}{xs:List SV}{vs cells:List Value}(cs:List SV)(hz:∀w,(zeroValue t).run P w=.ok zv w)(hu:P.underlying t=some (.array n1 el))(hp:∀w,(sizeOf el).run P w=.ok m1 w)(hs:opS (kO T n K cf m e L)=some (o,Lv,cf1,cf2,K',m',e',L'))(ho:(o.op,o.dst)=(.build t ps,some d))(hv:aU (jC e') (ps.toList.map (·.2))=some xs)(hvs:aU (fF []) xs=some vs)(hcs:aU (bR []) cs=some cells)(hc:Instr.fill (fun i=>some (i*m1,m1)) zv.cells ((ps.toList.map (·.1)).zip vs)=some cells.toArray)
  (kk:G (.mk P T hT n c B0 N X Q) K' m' ((d,.g cs) :: e') L' cf2):G (.mk P T hT n c B0 N X Q) K m e L cf:=
 pu hs (congrArg Prod.snd ho) (fun B a w hA _=>⟨.agg cells.toArray,by
  simp only[fF,gV];rw[eS (g:=bR B) (fun x v h=>by simpa using gC (B:=[]) B h) hcs],by
  obtain⟨us,h1,h2⟩:=YB hA hv;rw[a0Y hvs] at h1;cases h1;exact aCK (ps:=ps.toList) (by simp_all) hz hu hp h2 hc⟩) kk
theorem qai{γ:Type}(f:γ->Value)(g:γ->SV){l:List γ}{cs:List SV}{kf:γ->Option β}(hu:P.underlying t=some (.array n1 el))(hz:∀w,(sizeOf el).run P w=.ok 1 w)(hg:∀w,(isAgg el).run P w=.ok false w)(hgf:∀u,fF [] (g u)=some (f u))(hs:opS (kO T n K cf m e L)=some (o,Lv,cf1,cf2,K',m',e',L'))(ho:(o.op,o.dst)=(.index t x y,some d))(hx:jC e' x=some (.g cs))(hcs:aU (bR []) cs=some (l.map f))(hn:l.length=n1)(hy:(jC e' y).bind uT=some (k,i))(hF:(idx l i).bind kf=some q)
  (kk:∀u,idx l i=some u->kf u=some q->G (.mk P T hT n c B0 N X Q) K' m' ((d,g u) :: e') L' cf2):G (.mk P T hT n c B0 N X Q) K m e L cf:=by
 cases hi:idx l i with
 | none=>grind
 | some u =>
  rw[hi] at hF;refine pu hs (congrArg Prod.snd ho) (fun B a w hA _=>⟨f u,by simpa using vB (B:=[]) B (hgf u),?_⟩) (kk u hi hF);obtain⟨v,h1,h2⟩:=fL hA hx;simp only[fF,gV] at h1;rw[eS (g:=bR B) (fun x v h=>by simpa using gC (B:=[]) B h) hcs] at h1;cases h1;exact a9E f hu hz hg hi hn rfl (congrArg Prod.fst ho) h2 (zL hA hy)
end
end
end Go.Gv
end
noncomputable section
namespace Go.Gv
noncomputable section
variable {P:Program} {T:TT} {hT:GP P T} {n:Nat} {c:Ctx} {B0:Bl} {N:Act->World->Prop} {X:Nat->Act->World->Prop} {Q:Act->World->Prop} {K K':List Fr} {m m':Nat} {e e':SE} {L L':List Ch} {cf cf1 cf2:vT} {o:Oper} {Lv:List Ch} {d:Nat}
theorem chg{g:Gx}{ι:Type}(m2:ι->Nat)(e2:ι->SE)(L2:ι->List Ch)(h:∀B a w,B.length=m->hY g.n B e a->mN g.c w B L->∃i B',(B++B').length=m2 i/\hY g.n (B++B') (e2 i) a/\mN g.c w (B++B') (L2 i))
  (hz:∀i,Frz g cf L (L2 i)) (k:∀i,G g K (m2 i) (e2 i) (L2 i) cf):G g K m e L cf:=by
 have key:∀a w,Rel g m e L a w->∃i,Rel g (m2 i) (e2 i) (L2 i) a w:=fun a w ⟨B,h1,h2,h3⟩=>by obtain⟨i,B',k1,k2,k3⟩:=h _ a w h1 h2 h3;exact⟨i,B++B',by simpa using k1,by simpa using k2,by simpa using k3⟩
 cases cf with
 | n=>exact fun a w hr=>let ⟨i,hi⟩:=key a w hr;k i a w hi
 | c x=>exact fun a w hr=>let ⟨i,hi⟩:=key a w hr;k i a w hi
 | r ops l=>exact fun a w hr=>let ⟨i,hi⟩:=key a w hr;k i a w hi
 | d B1 ops l is Lf Lv =>
  refine fun hD a w ⟨B,h1,h2,h3,h4⟩=>?_;obtain⟨i,B',k1,k2,k3⟩:=h _ a w h1 h2 h3;obtain⟨z1,z2⟩:=hz i hD;exact k i ⟨hD.pre,hD.len,hD.free,z1,z2,hD.okf,hD.ap⟩ a w ⟨B++B',by simpa using k1,by simpa using k2,by simpa using k3,fun w' hw=>by
   have:=(h4 w' hw).app B';simpa using this⟩
 | o B1 ops l is Lf Lv ii =>
  refine fun hD a w ⟨B,h1,h2,h3,h4⟩=>?_;obtain⟨i,B',k1,k2,k3⟩:=h _ a w h1 h2 h3;obtain⟨z1,z2⟩:=hz i hD;exact k i ⟨hD.pre,hD.len,hD.free,z1,z2,hD.okf,hD.ap⟩ a w ⟨B++B',by simpa using k1,by simpa using k2,by simpa using k3,fun w' hw=>by
   have:=(h4 w' hw).app B';simpa using this⟩
theorem FL{α β:Type}[aJ α]{x y:Operand}{t el sz:Nat}{i:Int}{zv:Value}{b1:Bool}{n1:Nat}{z1:List SV}{A:Option β}{q:β}(zd:α)(hinf:UD P el sz zv)(hzd:∀w,aJ.own w zv.cells.toList zd F0)(hs:kO T n K cf m e L=.op o Lv cf1 cf2 K' m' e' L')(ho:(o.op,o.dst)=(.makeSlice t x y,some d))(ht:CM T t=some ⟨.sl el,b1,n1,z1⟩)(hn:aJ.n α=sz)(hzs:zv.cells.size=sz)(hx:(jC e' x).bind uT=some (.i64,i))(hy:(jC e' y).bind uT=some (.i64,i))(hF:need (0<=i/\i<=4294967296) A=some q)
  (k:A=some q->∀s':AC,G (.mk P T hT n c B0 N X Q) K' m' ((d,.h s' (List.replicate i.toNat zd).length) :: e') (L' ++ [ow s' (List.replicate i.toNat zd)]) cf2):G (.mk P T hT n c B0 N X Q) K m e L cf:=by
 refine iJ (g:=.mk P T hT n c B0 N X Q) ?_;rw[hs];intro hdn _ hE;refine hE AC (fun _=>m') (fun s'=>(d,.h s' (List.replicate i.toNat zd).length) :: e') (fun s'=>L' ++ [ow s' (List.replicate i.toNat zd)]) (fun _=>xJ _) (fun B a w next Q' hm hA hS hnext=>?_) (k (jW hF).2);obtain⟨⟨R,s1,s2⟩,s0⟩:=hS;have hd:o.dst=some d:=congrArg Prod.snd ho;obtain⟨v,w',k1,k2⟩:=aZG zd s1 hn (IW ht hT) hinf hzs hzd (jW hF).1 (congrArg Prod.fst ho) (zL hA hx) (zL hA hy);have hrd:∃s':AC,v=s'.v (List.replicate i.toNat zd).length:=by have h1:=k2.aT8 (cs:=[v]) (d:=List.replicate i.toNat zd) (L'.map (lD (Y2 (.mk P T hT n c B0 N X Q) cf1++B))).length (by simp);obtain⟨ad,cp,h2,_⟩:=aHF h1;exact⟨⟨ad,cp⟩,h2⟩
 obtain⟨s',rfl⟩:=hrd;unfold Oper.wp;rw[k1 _ a hA.env,Oper.upon_value,hd];refine hnext s' _ _ ⟨[],by simpa using hm,by simpa using hA.of (by simp[fF,gV,bR]) (hA.env.put (by rw[hd] at hdn;simpa[qT,vV] using hdn) _),⟨⟨R,by simpa[lD] using k2,fun x hx=>?_⟩,fun b o hb=>PU (s0 b o hb) (lB _)⟩⟩;rcases fB.1 hx with hx | hx
 ·simpa using s2 x hx
 ·simp at hx;subst hx;exact trivial
end
end Go.Gv
end
noncomputable section
namespace Go.Gv
def vT.yT:vT->List Nat
 | .d _ _ _ is _ _=>is
 | .o _ _ _ is _ _ _=>is
 | _=>[]
theorem W3{L M:List Ch}{j:Nat}{z:Ch}:∀{is:List Nat},(∀i∈is,i<L.length)->gL j is=true->kl (L.set j z++M) is=kl L is
 | [],_,_=>rfl
 | i :: is, h, hn => by
  have hi:=h i (by simp);have h1:=aHP hn;have hne:j≠i:=fun he=>h1 (by simp[he]);have h2:(L.set j z++M)[i]?=L[i]?:=by grind
  have h3:gL j is=true:=by grind[gL]
  simp only[kl,h2,W3 (fun i hi=>h i (o7 _ hi)) h3]
theorem aU2{L M:List Ch}:∀{is:List Nat},(∀i∈is,i<L.length)->kl (L++M) is=kl L is
 | [],_=>rfl
 | i :: is, h => by simp only[kl,aOV (h i (by simp)),aU2 (M:=M) (fun i hi=>h i (o7 _ hi))]
theorem aNC{g:Gx}{cf:vT}{L M:List Ch}{j:Nat}{z:Ch}(hn:gL j cf.yT=true):Frz g cf L (L.set j z++M):=by
 cases cf with
 | d B1 ops l is Lf Lv =>
  exact fun hD=>⟨(W3 hD.rng hn).trans hD.yT,fun i hi=>by have:=hD.rng i hi;simp;omega⟩
 | o B1 ops l is Lf Lv i =>
  exact fun hD=>⟨(W3 hD.rng hn).trans hD.yT,fun i hi=>by have:=hD.rng i hi;simp;omega⟩
 | _=>trivial
theorem a0Z{c:Ctx}{w:World}{A:List Chunk}{R:List Fact}(h:St c w A R):St c w (A ++ [JQ]) R:=by obtain⟨F,S,h1,rest⟩:=h.sep;exact⟨h.keep,⟨F,S,Sep.append.2 ⟨F,F0,h1,Sep.one.2 (fun _ _ h=>h),fun _ _ _ h=>h,fun b o=>by simp[F0]⟩,rest⟩,h.apart⟩
structure CO (α:Type) [aJ α] where
 ex:Type
 cs:α->ex->List SV
 Lx:α->ex->List Ch
 op:∀{w F ec q},aJ.own w ec q F->∃y,aU (bR []) (cs q y)=some ec
 pk:∀{q y ec},aU (bR []) (cs q y)=some ec->OP ec q ((Lx q y).map (lD []))
 no:∀q y,noF (Lx q y)=true
 nb:∀q y B,(Lx q y).map (lD B)=(Lx q y).map (lD [])
noncomputable section
variable {P:Program} {T:TT} {hT:GP P T} {n:Nat} {c:Ctx} {B0:Bl} {N:Act->World->Prop} {X:Nat->Act->World->Prop} {Q:Act->World->Prop} {K K':List Fr} {m m':Nat} {e e':SE} {L L':List Ch} {cf cf1 cf2:vT} {o:Oper} {Lv:List Ch} {d:Nat}
theorem bEA{g:Gx}{ι:Type}(m2:ι->Nat)(e2:ι->SE)(L2:ι->List Ch)(Ln:ι->List Ch)(h:∀B a w,B.length=m->hY g.n B e a->mN g.c w B L->∃i B',(B++B').length=m2 i/\hY g.n (B++B') (e2 i) a/\mN g.c w (B++B') (L2 i)/\∀w' M,mN g.c w' B M->mN g.c w' (B++B') (M++Ln i))
  (hz:∀i,Frz g cf L (L2 i)) (k:∀i,G g K (m2 i) (e2 i) (L2 i) (cf.ext (Ln i))):G g K m e L cf:=by
 have key:∀a w,Rel g m e L a w->∃i,Rel g (m2 i) (e2 i) (L2 i) a w:=fun a w ⟨B,h1,h2,h3⟩=>by obtain⟨i,B',k1,k2,k3,_⟩:=h _ a w h1 h2 h3;exact⟨i,B++B',by grind,by grind,by grind⟩
 cases cf with
 | n=>exact fun a w hr=>let ⟨i,hi⟩:=key a w hr;k i a w hi
 | c x=>exact fun a w hr=>let ⟨i,hi⟩:=key a w hr;k i a w hi
 | r ops l=>exact fun a w hr=>let ⟨i,hi⟩:=key a w hr;k i a w hi
 | d B1 ops l is Lf Lv =>
  refine fun hD a w ⟨B,h1,h2,h3,h4⟩=>?_;obtain⟨i,B',k1,k2,k3,k4⟩:=h _ a w h1 h2 h3;obtain⟨z1,z2⟩:=hz i hD;exact k i ⟨hD.pre,hD.len,hD.free,z1,z2,hD.okf,hD.ap⟩ a w ⟨B++B',by grind,by grind,by grind,fun w' hw=>by
   grind⟩
 | o B1 ops l is Lf Lv ii =>
  refine fun hD a w ⟨B,h1,h2,h3,h4⟩=>?_;obtain⟨i,B',k1,k2,k3,k4⟩:=h _ a w h1 h2 h3;obtain⟨z1,z2⟩:=hz i hD;exact k i ⟨hD.pre,hD.len,hD.free,z1,z2,hD.okf,hD.ap⟩ a w ⟨B++B',by grind,by grind,by grind,fun w' hw=>by
   grind⟩
abbrev Shp(s:AC)(len:Nat):Prop:=∃b off m,s.v len=.slice (some ⟨b,off,none⟩) len m/\len<=maxLen
abbrev wOf(α:Type)[aJ α](nb:Nat)(s:AC)(len i:Nat):Ch:=.w nb (PZ (s.v len)) (PN (aJ.n α) i (s.v len))
theorem oe{α β:Type}[aJ α](E:CO α)(j:Nat){t:TypeId}{s:AC}{i:Int}{ls:List α}{kf:α->Option β}{q:β}(hs:kO T n K cf m e L=.idx o d t s ls.length i Lv cf1 cf2 K' m' e' L')(hj:L'[j]?=some (ow s ls))(hz:gL j cf1.yT=true)(hF:(idx ls i).bind kf=some q)
  (k:∀x,idx ls i=some x->kf x=some q->∀y:E.ex,Shp s ls.length->G (.mk P T hT n c B0 N X Q) K' (m'+1) e' (L'.set j .no++([.o (rZ (s.v ls.length) ls i.toNat),.box m' (E.cs x y),wOf α m' s ls.length i.toNat]++E.Lx x y)) (cf1.ext [wOf α m' s ls.length i.toNat])):G (.mk P T hT n c B0 N X Q) K m e L cf:=by
 refine iJ (g:=.mk P T hT n c B0 N X Q) ?_;rw[hs];intro x' y' ho hd hx hy hP;cases hi:idx ls i with
 | none=>grind
 | some x =>
  rw[hi] at hF;refine bEA (fun _=>m'+1) (fun _=>e') (fun y:{y:E.ex // Shp s ls.length}=>L'.set j .no++([.o (rZ (s.v ls.length) ls i.toNat),.box m' (E.cs x y.1),wOf α m' s ls.length i.toNat]++E.Lx x y.1)) (fun _=>[wOf α m' s ls.length i.toNat]) (fun B a w hm hA hS=>?_) (fun y=>aNC hz) (fun y=>k x hi hF y.1 y.2);obtain⟨⟨R,s1,s2⟩,s0⟩:=hS;have hj2:(L'.map (lD B))[j]?=some (bH [s.v ls.length] ls):=by simp[hj,lD]
  obtain⟨ec,h1⟩:=s1.open j hj2 (lK hi).2.2;have hlen:((L'.map (lD B)).set j JQ).length=L'.length:=by simp
  have hsh:Shp s ls.length:=a41 (k:=i.toNat) h1 L'.length (by simp);obtain⟨F,hF'⟩:=h1.chunk (L'.length+2) (by rw[aLG (by omega)];simp;rfl);obtain⟨y,hy2⟩:=E.op (show aJ.own w ec x F from hF');have h2:=h1.unpack (L'.length+2) (by simp) (E.pk hy2);have hset:((L'.map (lD B)).set j JQ ++ [rZ (s.v ls.length) ls i.toNat,UC (PZ (s.v ls.length)) (PN (aJ.n α) i.toNat (s.v ls.length)) ec,bH ec x]).set (L'.length+2) JQ=(L'.map (lD B)).set j JQ ++ [rZ (s.v ls.length) ls i.toNat,UC (PZ (s.v ls.length)) (PN (aJ.n α) i.toNat (s.v ls.length)) ec,JQ]:=by simp
  rw[hset] at h2;refine⟨⟨y,hsh⟩,[(PZ (s.v ls.length),PN (aJ.n α) i.toNat (s.v ls.length))],by simp[hm],hA.app _,⟨⟨R,?_,fun z hz=>?_⟩,s0⟩,fun w' M hM=>?_⟩
  ·have e1:(L'.set j Ch.no).map (lD B)=(L'.map (lD B)).set j JQ:=by rw[SX];rfl
   refine h2.imp ?_;rw[uX,uX,<-e1,qE];refine jX.append (WY _ _) (jX.append (.cons (fun _ h=>h) (.cons (fun F h=>⟨_,_,ec,by grind,eS (fun x v h=>by simpa using gC (B:=[]) _ h) hy2,h⟩) (.cons (fun _ h=>h) .nil))) ?_);have:=WY (B:=[]) (B ++ [(PZ (s.v ls.length),PN (aJ.n α) i.toNat (s.v ls.length))]) (w:=w) (E.Lx x y);grind
  ·rcases fB.1 hz with hz | hz
   ·rcases uY hz with hz | hz
    ·grind[aM2]
    ·subst hz;trivial
   ·rcases fB.1 hz with hz | hz
    ·simp at hz;rcases hz with rfl | rfl | rfl
     ·trivial
     ·trivial
     ·show(B++_)[m']?=_;grind
    ·exact aNA (E.no x y) z hz
  ·obtain⟨⟨R',t1,t2⟩,t0⟩:=hM.app [(PZ (s.v ls.length),PN (aJ.n α) i.toNat (s.v ls.length))];refine⟨⟨R',by grind[lD,a0Z],fun z hz=>?_⟩,t0⟩;rcases fB.1 hz with hz | hz
   ·grind
   ·simp at hz;subst hz;show(B++_)[m']?=_;grind
theorem ie{α:Type}[aJ α](p:Nat){t el sz:Nat}{s:AC}{i:Int}{ls:List α}{x:α}{nb:Nat}{b1 b2:Bool}{n1:Nat}{z1 z2:List SV}{k2:TK}(hsh:Shp s ls.length)(hs:kO T n K cf m e L=.idx o d t s ls.length i Lv cf1 cf2 K' m' e' L')(hi:idx ls i=some x)(hw:Lv[p]?=some (wOf α nb s ls.length i.toNat))(ht:CM T t=some ⟨.sl el,b1,n1,z1⟩)(he:CM T el=some ⟨k2,b2,sz,z2⟩)(hn:aJ.n α=sz)
  (k:G (.mk P T hT n c B0 N X Q) K' m' ((d,.p nb 0) :: e') L' cf2):G (.mk P T hT n c B0 N X Q) K m e L cf:=by
 refine iJ (g:=.mk P T hT n c B0 N X Q) ?_;rw[hs];intro x' y' ho hd hx hy hP;subst hn;refine hP d (.p nb 0) [] (fun _=>[]) 0 hd (fun _=>rfl) (fun B a w hA hS hm=>?_) (fun B w L _ hS=>by grind) (by grind[ext_nil]);obtain⟨v,g1,g2⟩:=fL hA hx;obtain⟨u,g3,g4⟩:=fL hA hy;cases g1;cases g3;obtain⟨⟨R,s1,s2⟩,s0⟩:=hS;have hB:B[nb]?=some (PZ (s.v ls.length),PN (aJ.n α) i.toNat (s.v ls.length)):=s2 _ (yI hw);exact⟨_,by simp[fF,gV,bR,hB],a42 (P:=P) (o:=o) (w:=w) hsh rfl hi (IW ht hT) (hT.size _ _ he) ho g2 g4⟩
def IX:List Ch->List Nat->List Ch
 | L,[]=>L
 | L,i :: r=>IX (L.set i .no) r
theorem GQ{B:Bl}:∀(js:List Nat) (L:List Ch),(IX L js).map (lD B)=blank (L.map (lD B)) js
 | [],L=>rfl
 | j :: js,L=>by simp only[IX,blank];rw[GQ js,SX];rfl
theorem ND{x:Ch}:∀(js:List Nat) (L:List Ch),x∈IX L js->x∈L\/x=.no
 | [],L,h=>.inl h
 | j :: js, L, h => by
  rcases ND js _ h with h | h
  ·exact uY h
  ·exact .inr h
theorem RM{g:Gx}{cf:vT}{M:List Ch}:∀(js:List Nat) {L:List Ch},(js.all fun j=>gL j cf.yT)=true->Frz g cf L (IX L js++M):=by
 intro js L hj;have main:∀{B1:Bl} {ops:Array Oper} {l:List Bool} {is:List Nat} {Lf:List Ch},(js.all fun j=>gL j is)=true->aCM g B1 ops l is Lf L->kl (IX L js++M) is=Lf/\∀j∈is,j<(IX L js++M).length:=by
  intro B1 ops l is Lf hj hD;have key:∀(js:List Nat) (L:List Ch),(js.all fun j=>gL j is)=true->(∀i∈is,i<L.length)->kl (IX L js++M) is=kl L is/\(IX L js).length=L.length:=by
   intro js;induction js with
   | nil =>
    intro L _ hr;exact⟨aU2 hr,rfl⟩
   | cons j js ih =>
    intro L hj hr;simp only[aJ7,BN] at hj;obtain⟨h1,h2⟩:=ih (L.set j .no) hj.2 (fun i hi=>by grind);refine⟨h1.trans ?_,by grind[IX]⟩;have:=W3 (M:=[]) (z:=.no) hr hj.1;grind
  obtain⟨k1,k2⟩:=key js L hj hD.rng;exact⟨k1.trans hD.yT,fun i hi=>by have:=hD.rng i hi;grind⟩
 cases cf with
 | d B1 ops l is Lf Lv=>exact fun hD=>main hj hD
 | o B1 ops l is Lf Lv i=>exact fun hD=>main hj hD
 | _=>trivial
def ovh(v:SV)(e:SE):List Nat->SE
 | []=>e
 | k :: ks=>(k,v) :: ovh v e ks
theorem aND{v:SV}{B:Bl}{a:Act}:∀(ks:List Nat),aU (F5 e) ks=some (ks.map fun _=>v)->hY n B e a->hY n B (ovh v e ks) a:=by
 intro ks;have key:∀(ks:List Nat),aU (F5 e) ks=some (ks.map fun _=>v)->∀k∈ks,F5 e k=some v:=by
  intro ks;induction ks with
  | nil=>simp
  | cons s ks ih =>
   grind[aU]
 intro hs hA;have hk:=key ks hs;clear hs key;have lk2:∀k x,F5 (ovh v e ks) k=some x->F5 e k=some x:=by
  induction ks with
  | nil=>exact fun k x h=>h
  | cons j ks ih =>
   grind[ovh,F5,qG]
 exact⟨hA.d,hA.size,fun k x h=>hA.get k x (lk2 k x h)⟩
theorem NF{B:Bl}:∀{is:List Nat} {M:List Ch},aU (fun i=>L[i]?) is=some M->pick (L.map (lD B)) is=M.map (lD B)
 | [],M,h=>by cases h;rfl
 | i :: is, M, h => by
  simp only[aU] at h;split at h
  ·cases h
  ·rename_i h1;split at h
   ·cases h
   ·rename_i h2;cases h;simp only[pick,HP,h1,Option.map_some,Option.getD_some,NF h2,K8]
theorem a00{α:Type}[aJ α](E:CO α)(h b v:Nat)(is ks:List Nat){s:AC}{l:List α}{k nb:Nat}(x:α)(y:E.ex){cs0:List SV}{ec:List Value}(hs:L[h]?=some (.o (rZ (s.v l.length) l k)))(hb:L[b]?=some (.box nb cs0))(hv:L[v]?=some (wOf α nb s l.length k))(hi:aU (fun i=>L[i]?) is=some (E.Lx x y))(hc:nbL cs0=E.cs x y)(hec:aU (bR []) (E.cs x y)=some ec)(ha:dI (h :: b :: is)=true)(hk:aU (F5 e) ks=some (ks.map fun _=>.h s l.length)){B:Bl}{a:Act}{w:World}(hA:hY n B e a)(hS:mN c w B L) :
  hY n B (ovh (.h s (l.set k x).length) e ks) a/\mN c w B (IX L (h :: b :: is) ++ [ow s (l.set k x)]):=by
 have hlen:(l.set k x).length=l.length:=cR;unfold ow;rw[hlen];refine⟨aND ks hk hA,?_⟩;obtain⟨⟨R,s1,s2⟩,s0⟩:=hS;have hB:B[nb]?=some (PZ (s.v l.length),PN (aJ.n α) k (s.v l.length)):=s2 _ (yI hv);refine⟨⟨R,?_,fun z hz=>?_⟩,s0⟩
 ·rw[uX,GQ];refine s1.shift (h :: b :: is) ha fun F hF=>?_;simp only[pick,HP,hs,hb,Option.map_some,Option.getD_some,NF hi,E.nb] at hF;have hE:aU (bR B) cs0=some ec:=by rw[<-WZ,hc];exact eS (fun x v h=>by simpa using gC (B:=[]) B h) hec
  have h2:Sep w ([rZ (s.v l.length) l k,UC (PZ (s.v l.length)) (PN (aJ.n α) k (s.v l.length)) ec]++(E.Lx x y).map (lD [])) F:=by refine Sep.imp (.cons (fun _ h=>h) (.cons (fun F h=>?_) (jX.refl _))) hF;obtain⟨bb,z,vs,k1,k2,k3⟩:=h;grind
  obtain⟨F1,F2,g1,g2,gd,gF⟩:=Sep.append.1 h2;have h3:Sep w ([rZ (s.v l.length) l k,UC (PZ (s.v l.length)) (PN (aJ.n α) k (s.v l.length)) ec] ++ [bH ec x]) F:=Sep.append.2 ⟨F1,F2,g1,Sep.one.2 ((E.pk hec w F2).2 g2),gd,gF⟩;exact Sep.one.2 (aWT h3)
 ·rcases fB.1 hz with hz | hz
  ·rcases ND _ _ hz with hz | hz
   ·grind
   ·subst hz;trivial
  ·simp at hz;subst hz;trivial
theorem ce{α:Type}[aJ α](E:CO α)(h b v:Nat)(is ks:List Nat){s:AC}{l:List α}{k nb:Nat}(x:α)(y:E.ex){cs0:List SV}{ec:List Value}(hs:L[h]?=some (.o (rZ (s.v l.length) l k)))(hb:L[b]?=some (.box nb cs0))(hv:L[v]?=some (wOf α nb s l.length k))(hi:aU (fun i=>L[i]?) is=some (E.Lx x y))(hc:nbL cs0=E.cs x y)(hec:aU (bR []) (E.cs x y)=some ec)(ha:dI (h :: b :: is)=true)(hz:((h :: b :: is).all fun j=>gL j cf.yT)=true)(hk:aU (F5 e) ks=some (ks.map fun _=>.h s l.length))
  (kk:G (.mk P T hT n c B0 N X Q) K m (ovh (.h s (l.set k x).length) e ks) (IX L (h :: b :: is) ++ [ow s (l.set k x)]) cf):G (.mk P T hT n c B0 N X Q) K m e L cf:=by
 refine chg (fun _:Unit=>m) (fun _=>ovh (.h s (l.set k x).length) e ks) (fun _=>IX L (h :: b :: is) ++ [ow s (l.set k x)]) (fun B a w hm hA hS=>?_) (fun _=>RM _ hz) (fun _=>kk);obtain⟨h1,h2⟩:=a00 E h b v is ks x y hs hb hv hi hc hec ha hk hA hS;simp_all
end
end Go.Gv
end
noncomputable section
namespace Go.Gv
noncomputable section
variable {P:Program} {T:TT} {hT:GP P T} {n:Nat} {c:Ctx} {B0:Bl} {N:Act->World->Prop} {X:Nat->Act->World->Prop} {Q:Act->World->Prop} {K K':List Fr} {m m':Nat} {e e':SE} {L L':List Ch} {cf cf':vT}
theorem ceS{α:Type}[aJ α](E:CO α)(h:Nat)(is ks:List Nat){s:AC}{l:List α}{k nb:Nat}(x:α)(y:E.ex){cs0:List SV}{ec:List Value}(h0:XJ (kO T n K cf m e L)=some (K',cf',m',e',L'))(hs:L'[h]?=some (.o (rZ (s.v l.length) l k)))(hb:L'[h+1]?=some (.box nb cs0))(hv:L'[h+2]?=some (wOf α nb s l.length k))(hi:aU (fun i=>L'[i]?) is=some (E.Lx x y))(hc:nbL cs0=E.cs x y)(hec:aU (bR []) (E.cs x y)=some ec)(ha:dI (h :: (h+1) :: is)=true)(hz:((h :: (h+1) :: is).all fun j=>gL j cf'.yT)=true)(hk:aU (F5 e') ks=some (ks.map fun _=>.h s l.length))
  (kk:G (.mk P T hT n c B0 N X Q) K' m' (ovh (.h s (l.set k x).length) e' ks) (IX L' (h :: (h+1) :: is) ++ [ow s (l.set k x)]) cf'):G (.mk P T hT n c B0 N X Q) K m e L cf:=
 iJ (g:=.mk P T hT n c B0 N X Q) (aGE h0 (ce E h (h+1) (h+2) is ks x y hs hb hv hi hc hec ha hz hk kk))
theorem sF(hs:kO T n K cf m e L=.fin m' e' L')(h:∀a w,pA n c B0 m' e' L' a w->N a w):G (.mk P T hT n c B0 N X Q) K m e L cf:=
 iJ (g:=.mk P T hT n c B0 N X Q) (by rw[hs];exact h)
theorem sX{id:Nat}(hs:kO T n K cf m e L=.ex id m' e' L')(h:∀a w,pA n c B0 m' e' L' a w->X id a w):G (.mk P T hT n c B0 N X Q) K m e L cf:=
 iJ (g:=.mk P T hT n c B0 N X Q) (by rw[hs];exact h)
theorem sR(hs:kO T n K cf m e L=.ret m' e' L')(h:∀a w,pA n c B0 m' e' L' a w->Q a w):G (.mk P T hT n c B0 N X Q) K m e L cf:=
 iJ (g:=.mk P T hT n c B0 N X Q) (by rw[hs];exact h)
theorem nxR{σ ρ υ:Type}{o:Step σ ρ}{mj:Nat}{el:σ->υ->SE}{Ll:σ->υ->List Ch}{s:σ}(u:υ)(is:List Nat)(hG:some (Step.next s)=some o)(h:WX B0.length m' e' L' is mj (el s u) (Ll s u)=some (el s u,Ll s u)):∀a w,pA n c B0 m' e' L' a w->NxP n c B0 o mj el Ll a w:=by cases hG;exact fun a w hr=>⟨s,u,rfl,hr.WX is h⟩
theorem nJ{π υ:Type}{eq:π->Prop}{mj:Nat}{ej:π->υ->SE}{Lj:π->υ->List Ch}{p:π}(u:υ)(is:List Nat)(hF:eq p)(h:WX B0.length m' e' L' is mj (ej p u) (Lj p u)=some (ej p u,Lj p u)):∀a w,pA n c B0 m' e' L' a w->JP n c B0 eq mj ej Lj a w:=
 fun a w hr=>⟨p,u,hF,pA.WX hr is h⟩
theorem bkR{σ ρ β υ:Type}{o:Step σ ρ}{ro:ρ}{enc:β->ρ}{mj id:Nat}{ej:β->υ->SE}{Lj:β->υ->List Ch}{b:β}(u:υ)(is:List Nat)(hG:some (Step.stop (enc b))=some o)(hr:∀p,o=.stop p->p=ro)(h:WX B0.length m' e' L' is mj (ej b u) (Lj b u)=some (ej b u,Lj b u)):∀a w,pA n c B0 m' e' L' a w->BkP n c B0 ro enc mj ej Lj id X id a w:=by cases hG;have:=hr _ rfl;subst this;intro a w hr;unfold BkP;rw[if_pos rfl];exact⟨b,u,rfl,hr.WX is h⟩
include hT in
theorem qU{fn:Func}{ρ ex:Type}{sv:ρ->ex->SV}{Lf:ρ->ex->List Ch}{r r':ρ}{rs:List ResultVar}{zz:Option ρ}(y:ex)(is:List Nat)(hF:zz=some r)(hz:zz=some r')(hr:fn.results=rs.toArray){x:SV}(hv:aM1 T e' L' rs=some x)(hx:nbS x=sv r' y)(hk:xI B0.length (sv r' y)=true)(hL:WX B0.length m' e' L' is B0.length [] (Lf r' y)=some ([],Lf r' y)):∀a w,pA n c B0 m' e' L' a w->QS P fn c B0 sv Lf r a w:=by subst hz;cases hF;intro a w hr';obtain⟨B,hm,hA,hS⟩:=id hr';obtain⟨v,h1,h2⟩:=aGG hr hT hA hS hv;obtain⟨B',hm',_,hS'⟩:=hr'.WX is hL;have hB':B'=[]:=(by simp_all);subst hB';refine⟨hA.d,v,h2,y,?_,by grind⟩;rw[<-hx] at hk ⊢;have:=RK hk (by rw[aGA];exact h1);grind
theorem nR{Z:Act->World->Prop}{α:Type}[aJ α](E:CO α)(h:Nat)(is ks:List Nat){s:AC}{l:List α}{k nb:Nat}(x:α)(y:E.ex){cs0:List SV}{ec:List Value}(hs:L[h]?=some (.o (rZ (s.v l.length) l k)))(hb:L[h+1]?=some (.box nb cs0))(hv:L[h+2]?=some (wOf α nb s l.length k))(hi:aU (fun i=>L[i]?) is=some (E.Lx x y))(hc:nbL cs0=E.cs x y)(hec:aU (bR []) (E.cs x y)=some ec)(ha:dI (h :: (h+1) :: is)=true)(hk:aU (F5 e) ks=some (ks.map fun _=>.h s l.length))
  (kk:∀a w,pA n c B0 m (ovh (.h s (l.set k x).length) e ks) (IX L (h :: (h+1) :: is) ++ [ow s (l.set k x)]) a w->Z a w):∀a w,pA n c B0 m e L a w->Z a w:=by
 intro a w ⟨B,hm,hA,hS⟩;obtain⟨h1,h2⟩:=a00 E h (h+1) (h+2) is ks x y hs hb hv hi hc hec ha hk hA hS;exact kk a w ⟨B,hm,h1,h2⟩
end
def wAt(n:Nat):List Ch->Option (Nat×Nat)
 | []=>none
 | .w k b z :: L => match Nat.beq n k with
  | true=>some (b,z)
  | false=>wAt n L
 | _ :: L=>wAt n L
theorem RN{n b z:Nat}:∀{L:List Ch},wAt n L=some (b,z)->Ch.w n b z∈L
 | [],h=>by cases h
 | x :: L, h => by
  cases x with
  | w k b' z' =>
   simp only[wAt] at h;split at h
   ·simp_all
   ·exact o7 _ (RN h)
  | box k cs=>exact o7 _ (RN (L:=L) h)
  | ro k cs=>exact o7 _ (RN (L:=L) h)
  | o ch=>exact o7 _ (RN (L:=L) h)
  | f g=>exact o7 _ (RN (L:=L) h)
  | no=>exact o7 _ (RN (L:=L) h)
noncomputable section
variable {P:Program} {T:TT} {hT:GP P T} {n:Nat} {c:Ctx} {B0:Bl} {N:Act->World->Prop} {X:Nat->Act->World->Prop} {Q:Act->World->Prop} {K K':List Fr} {m m':Nat} {e e':SE} {L L' Lv:List Ch} {cf cf1 cf2:vT} {o:Oper} {d:Nat}
theorem nK{α:Type}[aJ α](nb:Nat){t el sz:Nat}{s:AC}{i:Int}{ls:List α}{x:α}{b1 b2:Bool}{n1:Nat}{z1 z2:List SV}{k2:TK}(hsh:Shp s ls.length)(hi:idx ls i=some x)(hs:kO T n K cf m e L=.idx o d t s ls.length i Lv cf1 cf2 K' m' e' L')(hw:wAt nb Lv=some (PZ (s.v ls.length),PN (aJ.n α) i.toNat (s.v ls.length)))(ht:CM T t=some ⟨.sl el,b1,n1,z1⟩)(he:CM T el=some ⟨k2,b2,sz,z2⟩)(hn:aJ.n α=sz)
  (k:G (.mk P T hT n c B0 N X Q) K' m' ((d,.p nb 0) :: e') L' cf2):G (.mk P T hT n c B0 N X Q) K m e L cf:=by
 obtain⟨p,hp⟩:=List.mem_iff_getElem?.1 (RN hw);grind[ie]
end
def FH.o{α:Type}[aJ α](C:FH α)(Lx:α->C.ex->List Ch)(pk:∀{q y ec},aU (bR []) (C.cs q y)=some ec->OP ec q ((Lx q y).map (lD [])))(no:∀q y,noF (Lx q y)=true)(nb:∀q y B,(Lx q y).map (lD B)=(Lx q y).map (lD [])):CO α:=
 ⟨C.ex,C.cs,Lx,fun h=>let ⟨y,h1,_⟩:=C.ok (aJ.own_rd h);⟨y,h1⟩,pk,no,nb⟩
def oI:CO Int:=cI.o (fun _ _=>[]) (fun h=>by cases h;exact eK rfl) (fun _ _=>rfl) (fun _ _ _=>rfl)
def oU:CO UInt8:=cU.o (fun _ _=>[]) (fun h=>by cases h;exact eK rfl) (fun _ _=>rfl) (fun _ _ _=>rfl)
theorem vX{α:Type}[aJ α][Flat α]{cs:List Value}{d:α}(h:aJ.rd F0 default cs d)(w:World):aJ.own w cs d F0:=Flat.own_of h
end Go.Gv
end
noncomputable section
namespace Go.Gv
noncomputable section
variable {P:Program} {T:TT} {hT:GP P T} {n:Nat} {c:Ctx} {B0:Bl} {N:Act->World->Prop} {X:Nat->Act->World->Prop} {Q:Act->World->Prop} {K K':List Fr} {m m':Nat} {e e':SE} {L L' Lv:List Ch} {cf cf1 cf2:vT} {o:Oper} {d:Nat}
theorem aSD{α:Type}[aJ α]{l:List α}(L2:AC->List Ch)(hs:kO T n K cf m e L=.op o Lv cf1 cf2 K' m' e' L')(hd:o.dst=some d)(hz:∀s',Frz (.mk P T hT n c B0 N X Q) cf1 L' (L2 s'))(h:∀B a w,hY n B e' a->mN c w B L'->∃s' w',eJ P o (vE B e') w (AC.v s' l.length) w'/\mN c w' B (L2 s'))
  (k:∀s':AC,G (.mk P T hT n c B0 N X Q) K' m' ((d,.h s' l.length) :: e') (L2 s') cf2):G (.mk P T hT n c B0 N X Q) K m e L cf:=by
 refine iJ (g:=.mk P T hT n c B0 N X Q) ?_;rw[hs];intro hdn _ hE;refine hE AC (fun _=>m') (fun s'=>(d,.h s' l.length) :: e') L2 hz (fun B a w next Q' hm hA hS hnext=>?_) k;obtain⟨s',w',k1,k2⟩:=h _ a w hA hS;unfold Oper.wp;rw[k1 _ a hA.env,Oper.upon_value,hd];exact hnext s' _ _ ⟨[],by simpa using hm,by simpa using hA.of (by simp[fF,gV,bR]) (hA.env.put (by rw[hd] at hdn;simpa[qT,vV] using hdn) _),by simpa using k2⟩
theorem aCP{α:Type}[aJ α]{w:World}{A:List Chunk}{R:List Fact}{v:Value}{l:List α}(h:St c w A R)(i:Nat)(hi:A[i]?=some (bH [v] l)):∃s':AC,v=s'.v l.length:=by obtain⟨ad,cp,h2,_⟩:=aHF (h.aT8 i hi);exact⟨⟨ad,cp⟩,h2⟩
noncomputable section
variable {x y:Operand} {t el sz:Nat} {zv:Value} {b1:Bool} {n1:Nat} {z1:List SV}
theorem lt0{α:Type}[aJ α](hinf:UD P el sz zv)(hs:kO T n K cf m e L=.op o Lv cf1 cf2 K' m' e' L')(ho:(o.op,o.dst)=(.buildSlice t 0 #[],some d))(ht:CM T t=some ⟨.sl el,b1,n1,z1⟩)(hn:aJ.n α=sz)
  (k:∀s':AC,G (.mk P T hT n c B0 N X Q) K' m' ((d,.h s' ([]:List α).length) :: e') (L' ++ [ow s' ([]:List α)]) cf2):G (.mk P T hT n c B0 N X Q) K m e L cf:=by
 refine aSD (l:=([]:List α)) (fun s'=>L' ++ [ow s' ([]:List α)]) hs (congrArg Prod.snd ho) (fun _=>xJ _) (fun B a w hA hS=>?_) k;obtain⟨⟨R,s1,s2⟩,s0⟩:=hS;obtain⟨v,w',k1,k2⟩:=a45 (α:=α) (e:=vE B e') (o:=o) s1 hn (IW ht hT) hinf (congrArg Prod.fst ho);obtain⟨s',rfl⟩:=aCP (v:=v) (l:=([]:List α)) k2 (L'.map (lD B)).length (by simp);refine⟨s',w',k1,⟨⟨R,by simpa[lD] using k2,fun z hz=>?_⟩,s0⟩⟩;rcases fB.1 hz with hz | hz
 ·exact s2 z hz
 ·simp at hz;subst hz;trivial
theorem QB{g:Gx}{cf:vT}{L:List Ch}{j:Nat}{z:Ch}(hn:gL j cf.yT=true):Frz g cf L (L.set j z):=by have:=aNC (g:=g) (M:=[]) (z:=z) (L:=L) hn;simpa using this
theorem ap{α β:Type}[aJ α][Flat α]{A:Option β}{q:β}{s s2:AC}{l xs:List α}(i:Nat)(hinf:UD P el sz zv)(hs:kO T n K cf m e L=.op o Lv cf1 cf2 K' m' e' L')(ho:(o.op,o.dst)=(.call {callee:=.builtin .append,args:=#[x,y],argTypes:=#[t,t]},some d))(ht:CM T t=some ⟨.sl el,b1,n1,z1⟩)(hn:aJ.n α=sz)(hzs:zv.cells.size=sz)(hi:L'[i]?=some (ow s l))(hz:gL i cf1.yT=true)(hsrc:∀{w},HS c w L'->bS (b9 w) s2 xs)(hx:jC e' x=some (.h s l.length))(hy:jC e' y=some (.h s2 xs.length))(hF:need (l.length+xs.length<=1073741824) A=some q)
  (k:A=some q->∀s':AC,G (.mk P T hT n c B0 N X Q) K' m' ((d,.h s' (l++xs).length) :: e') (L'.set i (ow s' (l++xs))) cf2):G (.mk P T hT n c B0 N X Q) K m e L cf:=by
 refine aSD (l:=l++xs) (fun s'=>L'.set i (ow s' (l++xs))) hs (congrArg Prod.snd ho) (fun _=>QB hz) (fun B a w hA hS=>?_) (k (jW hF).2);have hr:bS (b9 w) s2 xs:=hsrc ⟨_,hS⟩;obtain⟨⟨R,s1,s2'⟩,s0⟩:=hS;have hj2:(L'.map (lD B))[i]?=some (bH [s.v l.length] l):=by simp[hi,lD]
 obtain⟨v,w',k1,k2⟩:=aLL i s1 hj2 hr hn (IW ht hT) hinf hzs (jW hF).1 (congrArg Prod.fst ho) (hdB hA hx) (hdB hA hy);have hlt:i<L'.length:=(CI.1 hi).1;obtain⟨s',rfl⟩:=aCP k2 i (by rw[List.getElem?_set_self (by simpa using hlt)]);refine⟨s',w',k1,⟨⟨R,?_,fun z hz=>?_⟩,s0⟩⟩
 ·rw[SX];exact k2
 ·rcases uY hz with hz | hz
  ·exact s2' z hz
  ·subst hz;trivial
end
end
end Go.Gv
end
noncomputable section
namespace Go.Gv
theorem aPF{α:Type}{l:List α}{i:Int}{x:α}(h:idx l i=some x):l.set i.toNat x=l:=by obtain⟨hk,h2⟩:=CI.1 (lK h).2.2;rw[<-h2];simp
noncomputable section
variable {P:Program} {T:TT} {hT:GP P T} {n:Nat} {c:Ctx} {B0:Bl} {N:Act->World->Prop} {X:Nat->Act->World->Prop} {Q:Act->World->Prop} {K K':List Fr} {m m':Nat} {e e':SE} {L L' Lv:List Ch} {cf cf' cf1 cf2:vT} {o:Oper} {d:Nat}
theorem cqS{α:Type}[aJ α](E:CO α)(h:Nat)(is:List Nat){s:AC}{l:List α}{i:Int}{nb:Nat}{x:α}(hx:idx l i=some x)(y:E.ex){cs0:List SV}{ec:List Value}(h0:XJ (kO T n K cf m e L)=some (K',cf',m',e',L'))(hs:L'[h]?=some (.o (rZ (s.v l.length) l i.toNat)))(hb:L'[h+1]?=some (.box nb cs0))(hv:L'[h+2]?=some (wOf α nb s l.length i.toNat))(hi:aU (fun i=>L'[i]?) is=some (E.Lx x y))(hc:nbL cs0=E.cs x y)(hec:aU (bR []) (E.cs x y)=some ec)(ha:dI (h :: (h+1) :: is)=true)(hz:((h :: (h+1) :: is).all fun j=>gL j cf'.yT)=true)
  (kk:G (.mk P T hT n c B0 N X Q) K' m' e' (IX L' (h :: (h+1) :: is) ++ [ow s l]) cf'):G (.mk P T hT n c B0 N X Q) K m e L cf:=
 ceS E h is [] x y h0 hs hb hv hi hc hec ha hz rfl (by rw[aPF hx];exact kk)
theorem kD{Z:Act->World->Prop}{α:Type}[aJ α](E:CO α)(h:Nat)(is:List Nat){s:AC}{l:List α}{i:Int}{nb:Nat}{x:α}(hx:idx l i=some x)(y:E.ex){cs0:List SV}{ec:List Value}(hs:L[h]?=some (.o (rZ (s.v l.length) l i.toNat)))(hb:L[h+1]?=some (.box nb cs0))(hv:L[h+2]?=some (wOf α nb s l.length i.toNat))(hi:aU (fun i=>L[i]?) is=some (E.Lx x y))(hc:nbL cs0=E.cs x y)(hec:aU (bR []) (E.cs x y)=some ec)(ha:dI (h :: (h+1) :: is)=true)
  (kk:∀a w,pA n c B0 m e (IX L (h :: (h+1) :: is) ++ [ow s l]) a w->Z a w):∀a w,pA n c B0 m e L a w->Z a w:=
 nR E h is [] x y hs hb hv hi hc hec ha rfl (by rw[aPF hx];exact kk)
noncomputable section
variable {x:Operand} {t el:Nat} {zv:Value} {b1:Bool} {n1:Nat} {z1:List SV}
theorem lt1{k:IntKind}{i:Int}(hk:k=.i64)(hinf:UD P el 1 zv)(hs:kO T n K cf m e L=.op o Lv cf1 cf2 K' m' e' L')(ho:(o.op,o.dst)=(.buildSlice t 1 #[(0,x)],some d))(ht:CM T t=some ⟨.sl el,b1,n1,z1⟩)(hx:(jC e' x).bind uT=some (k,i))
  (kk:∀s':AC,G (.mk P T hT n c B0 N X Q) K' m' ((d,.h s' [i].length) :: e') (L' ++ [ow s' [i]]) cf2):G (.mk P T hT n c B0 N X Q) K m e L cf:=by
 subst hk;refine aSD (l:=[i]) (fun s'=>L' ++ [ow s' [i]]) hs (congrArg Prod.snd ho) (fun _=>xJ _) (fun B a w hA hS=>?_) kk;obtain⟨⟨R,s1,s2⟩,s0⟩:=hS;obtain⟨v,w',k1,k2⟩:=a46 (α:=Int) (e:=vE B e') (o:=o) i s1 rfl (IW ht hT) hinf (c0:=.int .i64 i) rfl (congrArg Prod.fst ho) (zL hA hx) rfl;obtain⟨s',rfl⟩:=aCP (v:=v) (l:=[i]) k2 (L'.map (lD B)).length (by simp);refine⟨s',w',k1,⟨⟨R,by simpa[lD] using k2,fun z hz=>?_⟩,s0⟩⟩;rcases fB.1 hz with hz | hz
 ·exact s2 z hz
 ·simp at hz;subst hz;trivial
end
end
end Go.Gv
end
noncomputable section
namespace Go.Gv
theorem bS.sub{c:Ctx}{α:Type}[aJ α]{s s':AC}{l:List α}{a b:Nat}(h:bS c s l)(hp:iQ (aJ.n α) a b (s.v l.length)=s'.v ((l.take b).drop a).length)(hb:a<=b/\b<=l.length):bS c s' ((l.take b).drop a):=by have:=aRY (n:=aJ.n α) rfl h hb.1 hb.2;rw[hp] at this;exact this
end Go.Gv
end
noncomputable section
namespace Go.Gv
theorem Sep.perm{w:World}{A B:List Chunk}(h:A.Perm B):∀{F:cD},Sep w A F->Sep w B F:=by
 induction h with
 | nil=>simp
 | cons a _ ih=>exact fun⟨F1,F2,h1,h2,hd,hF⟩=>⟨F1,F2,h1,ih h2,hd,hF⟩
 | swap a b L =>
  intro F h;have h:Sep w (([b] ++ [a])++L) F:=h;obtain⟨F1,F2,h1,h2,hd,hF⟩:=Sep.append.1 h;exact(Sep.append (A:=[a] ++ [b])).2 ⟨F1,F2,h1.swap,h2,hd,hF⟩
 | trans _ _ i1 i2=>grind
theorem St.via{c:Ctx}{w:World}{A B:List Chunk}{R:List Fact}(h:St c w A R)(hs:∀F,Sep w A F->Sep w B F):St c w B R:=by obtain⟨F,S,hsep,rest⟩:=h.sep;exact⟨h.keep,⟨F,S,hs F hsep,rest⟩,h.apart⟩
structure PV where
 b:Nat
 z:Nat
 A:List Value
 V:List Value
 C:List Value
def PV.whole(p:PV):Chunk:=UC p.b p.z (p.A++(p.V++p.C))
def PV.mid(p:PV):Chunk:=UC p.b (p.z+p.A.length) p.V
def PV.rest(p:PV):List Chunk:=[UC p.b p.z p.A,UC p.b (p.z+p.A.length+p.V.length) p.C]
theorem a8C{α:Type}{a v c:α}{M R:List α}:(a :: v :: c :: (M++R)).Perm (v :: (M++(a :: c :: R))):=by refine(List.Perm.swap v a _).trans (List.Perm.cons v ?_);exact((List.perm_middle (a:=c)).symm.cons a).trans (List.perm_middle (a:=a)).symm
theorem bB7{w:World}:∀{ps:List PV} {F:cD},Sep w (ps.map PV.whole) F->Sep w (ps.map PV.mid++ps.flatMap PV.rest) F
 | [],F,h=>h
 | p :: ps, F, h => by obtain⟨F1,F2,h1,h2,hd,hF⟩:=h;exact Sep.perm a8C (Sep.append.2 ⟨F1,F2,aWU h1,bB7 h2,hd,hF⟩)
theorem bB8{w:World}:∀{ps:List PV} {F:cD},Sep w (ps.map PV.mid++ps.flatMap PV.rest) F->Sep w (ps.map PV.whole) F
 | [],F,h=>h
 | p :: ps, F, h => by have h2:Sep w ([UC p.b p.z p.A,p.mid,UC p.b (p.z+p.A.length+p.V.length) p.C]++(ps.map PV.mid++ps.flatMap PV.rest)) F:=Sep.perm (a8C (M:=ps.map PV.mid) (R:=ps.flatMap PV.rest)).symm h;obtain⟨F1,F2,h1,h3,hd,hF⟩:=Sep.append.1 h2;exact⟨F1,F2,aZI h1,bB8 h3,hd,hF⟩
theorem St.a8D{c:Ctx}{w:World}{A M:List Chunk}{R:List Fact}(h:St c w (A++M) R)(s0:∀b o,c.S0 b o->b<c.w0.heap.size) :
  ∃κ:Ctx,κ.w0=w/\(∀b o,κ.S0 b o->b<w.heap.size)/\St κ w A []/\(∀f:Fact,f.P c.S0 c.w0->f.P κ.S0 w)/\(∀f∈R,f.P κ.S0 w) /\
   (∀ch∈M,∀f:Fact,(∀w F,ch.P w F->f.P F w)->f.P κ.S0 w)/\∀w' A' R',St κ w' A' R'->St c w' (A'++M) R:=by
 obtain⟨F,S,hsep,hFS,hFW,hSS,hSlt,hR⟩:=h.sep;obtain⟨F1,F2,h1,h2,hd,hF⟩:=Sep.append.1 hsep;have hk0:c.w0.heap.size<=w.heap.size:=h.keep.size;have h1S0:∀b o,F1 b o->c.S0 b o->False:=fun b o p q=>by
  rcases hFW b o ((hF b o).2 (.inl p)) with hw | hw
  ·exact h.apart b o hw q
  grind
 have hlt:∀b o,(S b o\/F2 b o)\/c.S0 b o->b<w.heap.size:=by
  rintro b o ((q | q) | q)
  ·grind
  ·exact Sep.lt h2 q
  grind
 have hap:∀b o,F1 b o->((S b o\/F2 b o)\/c.S0 b o)->False:=by
  rintro b o p ((q | q) | q)
  ·exact hFS b o ((hF b o).2 (.inl p)) q
  ·exact hd b o p q
  grind
 refine⟨⟨w,F1,fun b o=>(S b o\/F2 b o)\/c.S0 b o⟩,rfl,hlt,⟨eI.refl _ _,⟨F1,fun b o=>(S b o\/F2 b o)\/c.S0 b o,h1,hap,fun _ _ h=>.inl h,fun _ _ h=>.inl h,hlt,by simp⟩,hap⟩,fun f hf=>?_,fun f hf=>f.mono (hR f hf) fun b o q=>.inl (.inl q),fun ch hch f hf=>?_,?_⟩
 ·exact f.mono (f.agree hf fun b o q=>h.keep.cell b o (s0 b o q) fun hw=>h.apart b o hw q) fun b o q=>.inr q
 ·obtain⟨j,hj⟩:=aG0 hch;obtain⟨G1,G2,g1,_,_,gF⟩:=(Sep.take hj).1 h2;exact f.mono (hf w G1 g1) fun b o q=>.inl (.inr ((gF b o).2 (.inl q)))
 ·intro w' A' R' k;obtain⟨F',S',b1,b2,b3,b4,b5,b6⟩:=k.sep;have hk:eI F1 w w':=k.keep;have hGW:∀b o,b<c.w0.heap.size->F1 b o->c.W b o:=fun b o hb g=>by grind
  refine⟨h.keep.trans hk hGW,⟨fun b o=>F' b o\/F2 b o,S,Sep.append.2 ⟨F',F2,b1,Sep.keep hk h2 fun b o hf g=>hd b o g hf,?_,fun _ _=>Iff.rfl⟩,?_,?_,hSS,fun b o hS=>PU (hSlt b o hS) hk.size,?_⟩,h.apart⟩
  ·intro b o hg hf;grind
  ·rintro b o (hf | hf) hS
   ·grind
   ·exact hFS b o ((hF b o).2 (.inr hf)) hS
  ·grind
  ·intro f hf;exact f.agree (hR f hf) fun b o hS=>hk.cell b o (hSlt b o hS) fun g=>hFS b o ((hF b o).2 (.inl g)) hS
abbrev PS:=List (Nat×Nat×Nat×Nat)
def aNF:Nat->List (List SV)->List Ch
 | _,[]=>[]
 | k,c :: r=>.box k c :: aNF (k+1) r
def NG(L:List Ch)(i n:Nat):List SV:=match L[i]? with
 | some (.box k cs) => match Nat.beq n k with
  | true=>cs
  | false=>[]
 | _=>[]
def aHR(L:List Ch):PS->Option (List (List SV))
 | []=>some []
 | (i, n, o, k) :: r => match Nat.ble (o + k) (NG L i n).length, Nat.ble 1 k, frc (((NG L i n).drop o).take k), aHR L r with
  | true,true,some d,some ds=>some (d :: ds)
  | _,_,_,_=>none
def MR(L M:List Ch):PS->List (List SV)->List Ch
 | (i,n,o,_) :: r,c :: cs=>MR L (M.set i (.box n (ovw (NG L i n) o c))) r cs
 | _,_=>M
def FI:PS->List Nat
 | []=>[]
 | p :: r=>p.1 :: FI r
def rnP:PS->Nat->SV->Option SV
 | [], _, x => match xI 0 x with
  | true=>some x
  | false=>none
 | (_, n, o, _) :: r, j, x => match x with
  | .p n' o' => match Nat.beq n n', Nat.beq o o' with
   | true,true=>some (.p j 0)
   | _,_=>rnP r (j+1) (.p n' o')
  | x=>rnP r (j+1) x
structure HG (c κ:Ctx) (L:List Ch) (js:List Nat):Prop where
 a:∀{α:Type} [aJ α] {s:AC} {d:List α},bS c s d->bS κ s d
 o:∀{α:Type} [aJ α] {s:AC} {d:List α} (i:Nat),L[i]?=some (ow s d)->gL i js=true->bS κ s d
 f:∀{α:Type} [aJ α] {s:AC} {d:List α} (i:Nat),L[i]?=some (fr s d)->bS κ s d
def PvR(B:Bl)(L:List Ch):PS->List (List SV)->List PV->Prop
 | [],[],[]=>True
 | (i,n,o,k) :: r,d :: ds,p :: ps=>(∃cs vs,L[i]?=some (.box n cs)/\B[n]?=some (p.b,p.z)/\aU (bR B) cs=some vs/\o+k<=cs.length/\p.A=vs.take o/\p.V=(vs.drop o).take k/\p.C=vs.drop (o+k)/\d=(cs.drop o).take k)/\PvR B L r ds ps
 | _,_,_=>False
def blP(pv:List PV):Bl:=pv.map fun p=>(p.b,p.z+p.A.length)
noncomputable section
variable {c:Ctx} {w:World} {B:Bl} {L:List Ch} {R:List Fact}
theorem aPI{i n:Nat}{x:SV}{r:List SV}(h:NG L i n=x :: r):L[i]?=some (.box n (x :: r)):=by
 unfold NG at h;split at h
 ·rename_i k cs hk;grind[qG]
 ·cases h
theorem a8E(hS:St c w (L.map (lD B)) R):∀{ps:PS} {ds:List (List SV)},aHR L ps=some ds->∃pv,PvR B L ps ds pv
 | [],ds,h=>by cases h;exact⟨[],trivial⟩
 | (i, n, o, k) :: r, ds, h => by
  simp only[aHR] at h;split at h
  ·rename_i d ds' h1 h2 h3 h4;cases h;have h1:=LA h1;have h2:=LA h2;obtain⟨pv,hpv⟩:=a8E hS h4;have h3:=RJ h3;subst h3;cases hc:NG L i n with
   | nil=>grind
   | cons x cs =>
    have hL:=aPI hc;obtain⟨F,b,z,vs,g1,g2,g3⟩:=hS.chunk (ch:=RI B n (x :: cs)) i (by simp[hL,lD]);exact⟨⟨b,z,vs.take o,(vs.drop o).take k,vs.drop (o+k)⟩ :: pv,⟨x :: cs,vs,hL,g1,g2,by grind,rfl,rfl,rfl,by simp⟩,hpv⟩
  ·cases h
theorem parts{vs:List Value}{o k:Nat}:vs.take o++((vs.drop o).take k++vs.drop (o+k))=vs:=by grind[List.drop_drop,aDY]
theorem aU3{F:cD}:∀{ps:PS} {ds:List (List SV)} {pv:List PV} {F:cD},PvR B L ps ds pv->Sep w (pick (L.map (lD B)) (FI ps)) F->Sep w (pv.map PV.whole) F
 | [],[],[],F,_,h=>h
 | (i, n, o, k) :: r, d :: ds, p :: ps, F, ⟨⟨cs, vs, h1, h2, h3, h4, h5, h6, h7, h8⟩, hr⟩, h => by simp only[FI,pick,HP,h1,Option.map_some,Option.getD_some] at h;obtain⟨F1,F2,g1,g2,gd,gF⟩:=h;refine⟨F1,F2,?_,aU3 (F:=F) hr g2,gd,gF⟩;obtain⟨b,z,vs',k1,k2,k3⟩:=g1;grind[PV.whole,parts]
theorem aSE{Bs:Bl}{p:PV}{ps:List PV}{j:Nat}(h:∀i,Bs[j+i]?=(blP (p :: ps))[i]?):Bs[j]?=some (p.b,p.z+p.A.length)/\∀i,Bs[j+1+i]?=(blP ps)[i]?:=by
 refine⟨?_,fun i=>?_⟩
 ·have:=h 0;grind[blP]
 ·have:=h (i+1);grind[blP]
theorem a02{Bs:Bl}:∀{ps:PS} {ds:List (List SV)} {pv:List PV} {j:Nat} {F:cD},PvR B L ps ds pv->ds.all (xI.okC 0)=true->(∀i,Bs[j+i]?=(blP pv)[i]?)->Sep w (pv.map PV.mid) F->Sep w ((aNF j ds).map (lD Bs)) F
 | [],[],[],_,F,_,_,_,h=>h
 | (i, n, o, k) :: r, d :: ds, p :: ps, j, F, ⟨⟨cs, vs, h1, h2, h3, h4, h5, h6, h7, h8⟩, hr⟩, ho, hB, h => by
  simp only[aJ7,BN] at ho;obtain⟨F1,F2,g1,g2,gd,gF⟩:=h;obtain⟨b1,b2⟩:=aSE hB;refine⟨F1,F2,⟨p.b,p.z+p.A.length,p.V,b1,?_,g1⟩,a02 hr ho.2 b2 g2,gd,gF⟩;have e1:aU (bR B) d=some p.V:=by grind[P7,P6]
  have e2:=AN ho.1 e1;rw[List.take_zero] at e2;exact eS (fun x v h=>by simpa using gC (B:=[]) Bs h) e2
theorem aSF{Bs:Bl}:∀{ps:PS} {ds:List (List SV)} {pv:List PV} {j:Nat} {x x':SV} {v:Value},PvR B L ps ds pv->(∀i,Bs[j+i]?=(blP pv)[i]?)->rnP ps j x=some x'->fF B x=some v->fF Bs x'=some v
 | [], [], [], j, x, x', v, _, _, hx, hv => by
  simp only[rnP] at hx;split at hx
  ·rename_i h0;cases hx;have:=RK h0 hv;rw[List.take_zero] at this;simpa using vB (B:=[]) Bs this
  ·cases hx
 | (i, n, o, k) :: r, d :: ds, p :: ps, j, x, x', v, ⟨⟨cs, vs, h1, h2, h3, h4, h5, h6, h7, h8⟩, hr⟩, hB, hx, hv => by
  obtain⟨b1,b2⟩:=aSE hB;simp only[rnP] at hx;split at hx
  ·rename_i n' o';split at hx
   ·rename_i e1 e2;cases hx;have e1:=qG e1;have e2:=qG e2;subst e1;subst e2;simp only[fF,gV,bR,h2] at hv;have hA:p.A.length=o:=by grind[lL]
    simp_all[fF,gV,bR]
   ·exact aSF hr b2 hx hv
  ·exact aSF hr b2 hx hv
theorem aNG{Bs:Bl}{ps:PS}{ds:List (List SV)}{pv:List PV}(hr:PvR B L ps ds pv)(hB:∀i,Bs[0+i]?=(blP pv)[i]?):∀{xs xs':List SV} {vs:List Value},aU (rnP ps 0) xs=some xs'->aU (fF B) xs=some vs->aU (fF Bs) xs'=some vs
 | [],_,_,h,hv=>by cases h;exact hv
 | x :: xs, xs', vs, h, hv => by
  simp only[aU] at h hv;split at h
  ·cases h
  ·rename_i h1;split at h
   ·cases h
   ·rename_i h2;cases h;split at hv
    ·cases hv
    ·rename_i v1;split at hv
     ·cases hv
     ·rename_i v2;cases hv;simp only[aU,aSF hr hB h1 v1,aNG hr hB h2 v2]
def PvN(B:Bl):List PV->List (List SV)->List PV->Prop
 | [],[],[]=>True
 | p :: ps,d :: ds,q :: qs=>(q.b=p.b/\q.z=p.z/\q.A=p.A/\q.C=p.C/\q.V.length=p.V.length/\aU (bR B) d=some q.V)/\PvN B ps ds qs
 | _,_,_=>False
theorem aPJ:∀{ps:List PV} {ds:List (List SV)} {qs:List PV},PvN B ps ds qs->qs.flatMap PV.rest=ps.flatMap PV.rest/\blP qs=blP ps
 | [],[],[],_=>⟨rfl,rfl⟩
 | p :: ps, d :: ds, q :: qs, ⟨⟨h1, h2, h3, h4, h5, h6⟩, hr⟩ => by obtain⟨e1,e2⟩:=aPJ hr;simp_all[PV.rest,blP]
def aAJ:PS->List (List SV)->Bool
 | [],[]=>true
 | (_, _, _, k) :: r, d :: ds => match Nat.beq d.length k with
  | true=>aAJ r ds
  | false=>false
 | _,_=>false
theorem a03:∀{ps:PS} {ds:List (List SV)} {pv:List PV},PvR B L ps ds pv->pv.length=ps.length
 | [],[],[],_=>rfl
 | (i,n,o,k) :: r,d :: ds,p :: ps,⟨_,hr⟩=>by simp[a03 hr]
theorem aU4{Bs:Bl}:∀{ps:PS} {ds:List (List SV)} {pv:List PV} {es:List (List SV)} {j:Nat},PvR B L ps ds pv->aAJ ps es=true->es.all (xI.okC 0)=true->(∀i,Bs[j+i]?=(blP pv)[i]?)->(∀i cs,es[i]?=some cs->∃F,(RI Bs (j+i) cs).P w F)->∃qs,PvN B pv es qs/\jX w ((aNF j es).map (lD Bs)) (qs.map PV.mid)
 | [],[],[],[],j,_,_,_,_,_=>⟨[],trivial,.nil⟩
 | [],[],[],e :: es,j,_,hl,_,_,_=>by grind[aAJ]
 | (i,n,o,k) :: r,d :: ds,p :: ps,[],j,_,hl,_,_,_=>by grind[aAJ]
 | (i, n, o, k) :: r, d :: ds, p :: ps, e :: es, j, ⟨⟨cs, vs, h1, h2, h3, h4, h5, h6, h7, h8⟩, hr⟩, hl, ho, hB, hc => by
  simp only[aAJ] at hl;split at hl
  ·rename_i he;have he:=qG he;simp only[aJ7,BN] at ho;obtain⟨b1,b2⟩:=aSE hB;obtain⟨qs,q1,q2⟩:=aU4 hr hl ho.2 b2 fun i cs hi=>by have:=hc (i+1) cs (by grind);grind
   obtain⟨F,b,z,us,g1,g2,g3⟩:=hc 0 e rfl;have hlen:=lL h3;have g4:=AN ho.1 g2;rw[List.take_zero] at g4;refine⟨⟨p.b,p.z,p.A,us,p.C⟩ :: qs,⟨⟨rfl,rfl,rfl,rfl,?_,eS (fun x v h=>by simpa using gC (B:=[]) B h) g4⟩,q1⟩,.cons (fun F hF=>?_) q2⟩
   ·grind[lL]
   ·obtain⟨b',z',us',k1,k2,k3⟩:=hF;rw[show j=j+0 by omega] at b1;simp only[SY] at g2 k2 k1 b1;rw[b1] at k1;cases k1;rw[g2] at k2;cases k2;exact k3
  ·cases hl
theorem aHS:∀{ws vs:List Value} {o:Nat},o+ws.length<=vs.length->XI vs o ws=vs.take o++(ws++vs.drop (o+ws.length))
 | [],vs,o,h=>by simp[XI]
 | x :: ws, vs, o, h => by
  simp only[JO] at h;simp only[XI];rw[aHS (by simp;omega)];have t1:(vs.set o x).take (o+1)=vs.take o ++ [x]:=by rw[List.take_add_one,List.getElem?_set_self (by omega)];grind[List.take_set,List.set_eq_of_length_le]
  grind[List.drop_set_of_lt]
theorem a04:∀{ps:PS} {ds es:List (List SV)} {pv qs:List PV} {M:List Ch} {F:cD},PvR B L ps ds pv->PvN B pv es qs->(∀i∈FI ps,M[i]?=some .no)->dI (FI ps)=true->Sep w (qs.map PV.whole++M.map (lD B)) F->Sep w ((MR L M ps es).map (lD B)) F
 | [],[],[],[],[],M,F,_,_,_,_,h=>h
 | (i, n, o, k) :: r, d :: ds, e :: es, p :: ps, q :: qs, M, F, ⟨⟨cs, vs, h1, h2, h3, h4, h5, h6, h7, h8⟩, hr⟩, ⟨⟨n1, n2, n3, n4, n5, n6⟩, hn⟩, hM, ha, h => by
  simp only[FI,dI,BN] at ha;have hi:M[i]?=some .no:=hM i (by simp[FI]);have hlt:i<M.length:=(CI.1 hi).1;simp only[MR];refine a04 (ps:=r) (ds:=ds) (es:=es) (pv:=ps) (qs:=qs) hr hn (fun j hj=>?_) ha.2 ?_
  ·have hne:i≠j:=fun e=>by subst e;have:=UF.1 ha.1 _ hj;simp at this
   grind[FI]
  ·have h9:Sep w (qs.map PV.whole++(q.whole :: M.map (lD B))) F:=Sep.perm List.perm_middle.symm h;obtain⟨F1,F2,g1,g2,gd,gF⟩:=Sep.append.1 h9;refine Sep.append.2 ⟨F1,F2,g1,?_,gd,gF⟩;have hc:NG L i n=cs:=by simp_all[NG]
   have e0:(M.map (lD B)).set i JQ=M.map (lD B):=by
    have:(M.map (lD B))[i]?=some JQ:=by simp[hi,lD]
    grind[aLI]
   have e1:Sep w ((M.map (lD B)).set i q.whole) F2:=Sep.put (by grind) (by grind);rw[SX,hc];refine Sep.imp ?_ e1;refine jX.set i (jX.refl _) fun F hF=>⟨p.b,p.z,q.A++(q.V++q.C),h2,?_,by rw[<-n1,<-n2];exact hF⟩;have hlen:=lL h3;have hV:p.V.length=k:=by grind
   have hVe:e.length=k:=by grind[lL]
   simp_all[aM4,aAB,aHS]
 | [],[],e :: es,[],_,M,F,_,hn,_,_,_=>by grind[PvN]
 | [],[],[],[],q :: qs,M,F,_,hn,_,_,_=>by grind[PvN]
 | (i,n,o,k) :: r,d :: ds,[],p :: ps,qs,M,F,_,hn,_,_,_=>by grind[PvN]
 | (i,n,o,k) :: r,d :: ds,e :: es,p :: ps,[],M,F,_,hn,_,_,_=>by grind[PvN]
theorem aPK{x:Ch}:∀{ps:PS} {es:List (List SV)} {M:List Ch},x∈MR L M ps es->x∈M\/∃n cs,x=.box n cs
 | [],_,M,h=>.inl (by simpa[MR] using h)
 | (i,n,o,k) :: r,[],M,h=>.inl (by simpa[MR] using h)
 | (i, n, o, k) :: r, e :: es, M, h => by
  rcases aPK (ps:=r) (es:=es) (by simpa[MR] using h) with h | h
  ·rcases uY h with h | h
   ·exact .inl h
   ·exact .inr ⟨_,_,h⟩
  ·exact .inr h
end
end Go.Gv
end
noncomputable section
namespace Go.Gv
def cpS:Stop->Option (Oper×Option Nat×FuncId×List SV×vT×vT×List Fr×Nat×SE×List Ch)
 | .call o d f xs cf cf' K m e L=>some (o,d,f,xs,cf,cf',K,m,e,L)
 | .callp o d f xs cf cf' K m e L=>some (o,d,f,xs,cf,cf',K,m,e,L)
 | _=>none
def dse(d:Option Nat)(v:SV)(e:SE):SE:=match d with
 | some d=>(d,v) :: e
 | none=>e
def HT:List Ch->Bool
 | []=>true
 | .o _ :: L=>HT L
 | _ :: _=>false
theorem UP{B B':Bl}:∀{L:List Ch},HT L=true->L.map (lD B)=L.map (lD B')
 | [],_=>rfl
 | .o c :: L,h=>by simp only[K8,lD];rw[UP (L:=L) h]
theorem UQ{B:Bl}{R:List Fact}:∀{L:List Ch},HT L=true->∀x∈L,roF B R x
 | [],_,x,hx=>by cases hx
 | .o c :: L, h, x, hx => by
  rcases jA.1 hx with hx | hx
  ·subst hx;trivial
  ·exact UQ (L:=L) h x hx
theorem aPL{B:Bl}{R:List Fact}:∀{cs:List (List SV)} {k:Nat},∀x∈aNF k cs,roF B R x
 | [],k,x,hx=>by cases hx
 | c :: cs, k, x, hx => by
  rcases jA.1 hx with hx | hx
  ·subst hx;trivial
  ·exact aPL x hx
theorem aHT:∀{cs:List (List SV)} {k i:Nat} {c:List SV},cs[i]?=some c->(aNF k cs)[i]?=some (.box (k+i) c)
 | c' :: cs,k,0,c,h=>by simp at h;subst h;rfl
 | c' :: cs, k, i + 1, c, h => by have:=aHT (k:=k+1) (show cs[i]?=some c by grind);grind[aNF]
theorem aAK{L:List Chunk}:∀{a b:List Nat},pick L (a++b)=pick L a++pick L b
 | [],b=>rfl
 | i :: a,b=>by simp only[UG,pick,aAK (a:=a)]
theorem aGH:∀{js:List Nat} {L:List Ch},(IX L js).length=L.length
 | [],L=>rfl
 | j :: js,L=>by simp only[IX];rw[aGH];simp
theorem a05:∀{js:List Nat} {L:List Ch} {i:Nat},i<L.length->L[i]?=some .no\/i∈js->(IX L js)[i]?=some .no
 | [],L,i,_,h=>by rcases h with h | h;exact h;cases h
 | j :: js, L, i, hl, h => by simp only[IX];refine a05 (by grind) ?_;grind
theorem a06{B:Bl}{L:List Ch}:∀{ps:PS} {ds:List (List SV)} {pv:List PV},PvR B L ps ds pv->∀i∈FI ps,i<L.length
 | [],[],[],_,i,h=>by cases h
 | (i, n, o, k) :: r, d :: ds, p :: ps, ⟨⟨cs, vs, h1, _⟩, hr⟩, j, h => by
  rcases jA.1 h with h | h
  ·grind
  ·exact a06 hr j h
theorem aU6:∀{a b:List Nat},dI (a++b)=true->dI a=true
 | [],b,_=>rfl
 | i :: a, b, h => by simp only[UG,dI,BN,List.all_append] at h ⊢;exact⟨h.1.1,aU6 h.2⟩
theorem aPM{g:Gx}{cf:vT}{L M:List Ch}{j:Nat}{z:Ch}(h:Frz g cf L M)(hn:gL j cf.yT=true):Frz g cf L (M.set j z):=by
 cases cf with
 | d B1 ops l is Lf Lv =>
  intro hD;obtain⟨h1,h2⟩:=h hD;have:=W3 (L:=M) (M:=[]) (j:=j) (z:=z) h2 hn;grind
 | o B1 ops l is Lf Lv ii =>
  intro hD;obtain⟨h1,h2⟩:=h hD;have:=W3 (L:=M) (M:=[]) (j:=j) (z:=z) h2 hn;grind
 | _=>trivial
theorem aPN{g:Gx}{cf:vT}{L L0:List Ch}:∀{ps:PS} {es:List (List SV)} {M:List Ch},Frz g cf L M->((FI ps).all fun j=>gL j cf.yT)=true->Frz g cf L (MR L0 M ps es)
 | [],_,M,h,_=>by grind[MR]
 | (i,n,o,k) :: r,[],M,h,_=>by grind[MR]
 | (i, n, o, k) :: r, e :: es, M, h, hz => by simp only[FI,aJ7,BN] at hz;exact aPN (ps:=r) (es:=es) (aPM h hz.1) hz.2
theorem aCQ{i:Nat}:∀{js:List Nat},gL i js=true->(js.all fun j=>!Nat.beq j i)=true
 | [],_=>rfl
 | j :: js, h => by
  simp only[gL] at h;split at h
  ·cases h
  ·rename_i hb;simp only[aJ7,BN,aOU];refine⟨?_,aCQ h⟩;grind[qG]
theorem a07{g:Gx}{s:Stop}{o:Oper}{d:Option Nat}{f:FuncId}{xs:List SV}{cf cf':vT}{K:List Fr}{m:Nat}{e:SE}{L:List Ch}(hs:cpS s=some (o,d,f,xs,cf,cf',K,m,e,L))
  (h:∀fo args ats,o.op=.call {callee:=.value fo,args:=args,argTypes:=ats}->o.dst=d->jC e fo=some (.f f [])->(∃ys,aU (jC e) args.toList=some ys/\nbA ys=xs)->qT g.n d=true->aD3 g K m e L o cf cf'->G g K m e L cf):Gs g s:=by
 cases s<;>simp only[cpS] at hs<;>cases hs
 ·exact fun fo args ats a1 a2 a3 a4 _ a6 a7=>h fo args ats a1 a2 a3 a4 a6 a7
 ·exact h
noncomputable section
variable {P:Program} {T:TT} {hT:GP P T} {n:Nat} {c:Ctx} {B0:Bl} {N:Act->World->Prop} {X:Nat->Act->World->Prop} {Q:Act->World->Prop} {K K':List Fr} {m m':Nat} {e e':SE} {L L':List Ch} {cf cf1 cf2:vT} {o:Oper}
theorem cwk{α β ex:Type}{fo:Option α}{kf:α->Option β}{q:β}{d:Option Nat}{f:FuncId}{xs xs0:List SV}{cs0:List (List SV)}{M:List Ch}{sv:α->ex->SV}{cb:α->ex->List (List SV)}{Lr:α->ex->List Ch}(ps:PS)(is:List Nat)
  (hs:cpS (kO T n K cf m e L)=some (o,d,f,xs,cf1,cf2,K',m',e',L')) (hb:aHR L' ps=some cs0) (hi:aU (fun i=>L'[i]?) is=some M) (hx:aU (rnP ps 0) xs=some xs0)
  (hk:(HT M && (cs0.all (xI.okC 0) && (dI (FI ps++is) && (FI ps++is).all fun j=>gL j cf1.yT)))=true)
  (hn:∀x y,(aAJ ps (cb x y) && ((cb x y).all (xI.okC 0) && (HT (Lr x y) && xI 0 (sv x y))))=true)
  (hc:∀{κ:Ctx},HG c κ L' (FI ps++is)->∀{Bs:Bl},Bs.length=ps.length->∀{x},fo=some x->FnS P f κ xs0 Bs (aNF 0 cs0++M) sv (fun x y=>aNF 0 (cb x y)++Lr x y) x)
  (hF:fo.bind kf=some q)
  (k:∀x,fo=some x->kf x=some q->∀y:ex,G (.mk P T hT n c B0 N X Q) K' m' (dse d (sv x y) e') (MR L' (IX L' (FI ps++is)++Lr x y) ps (cb x y)) cf2):G (.mk P T hT n c B0 N X Q) K m e L cf:=by
 refine iJ (g:=.mk P T hT n c B0 N X Q) (a07 hs ?_);intro fo' args ats ho hd hf ⟨ys,hys,hxs⟩ hdn hE;simp only[BN] at hk hn;obtain⟨hkM,hkc,hka,hkz⟩:=hk;cases hfo:fo with
 | none=>grind
 | some x =>
  rw[hfo] at hF;have hz2:((FI ps).all fun j=>gL j cf1.yT)=true:=by grind
  refine hE ex (fun _=>m') (fun y=>dse d (sv x y) e') (fun y=>MR L' (IX L' (FI ps++is)++Lr x y) ps (cb x y)) (fun y=>aPN (RM _ hkz) hz2) (fun B a w next Q' hm hA hS hnext=>?_) (k x hfo hF);generalize hBB:Y2 (.mk P T hT n c B0 N X Q) cf1++B=BB at hm hA hS hnext;obtain⟨⟨R,s1,s2⟩,s0⟩:=hS;obtain⟨pv,hpv⟩:=a8E s1 hb;have hBs:(blP pv).length=ps.length:=by grind[blP,a03]
  have hB0:∀i,(blP pv)[0+i]?=(blP pv)[i]?:=fun i=>by simp
  have f1:=s1.front (FI ps++is) hka;have f2:St c w ((pv.map PV.mid++M.map (lD BB))++(pv.flatMap PV.rest++blank (L'.map (lD BB)) (FI ps++is))) R:=by refine f1.via fun F h=>?_;rw[aAK,NF hi] at h;obtain⟨F1,F2,g1,g2,gd,gF⟩:=Sep.append.1 h;obtain⟨F3,F4,g3,g4,gd2,gF2⟩:=Sep.append.1 g1;have g5:=bB7 (aU3 (F:=F) hpv g3);have g6:Sep w (((pv.map PV.mid++pv.flatMap PV.rest)++M.map (lD BB))++blank (L'.map (lD BB)) (FI ps++is)) F:=Sep.append.2 ⟨F1,F2,Sep.append.2 ⟨F3,F4,g5,g4,gd2,gF2⟩,g2,gd,gF⟩;refine Sep.perm ?_ g6;grind[List.Perm.append_left,List.Perm.append_right,List.perm_append_comm]
  obtain⟨κ,k1,k2,k3,k4,k5,k6,k7⟩:=f2.a8D s0;subst k1;have hHG:HG c κ L' (FI ps++is):=by
   refine⟨fun{α} _ {s d} h=>k4 (BO [s.v d.length] d) h,fun{α} _ {s d} i hi hj=>?_,fun{α} _ {s d} i hi=>k5 _ (s2 _ (yI hi))⟩;have:(blank (L'.map (lD BB)) (FI ps++is))[i]?=some (bH [s.v d.length] d):=by rw[aCJ (aCQ hj),HP,hi];rfl
   exact k6 _ (aG2 _ (yI this)) (BO [s.v d.length] d) fun w F h=>aJ.own_rd h
  obtain⟨hcall,hrun⟩:=hc hHG hBs hfo;obtain⟨vs,h1,h2⟩:=YB hA hys;obtain⟨v,h3,h4⟩:=fL hA hf;simp[fF,aU] at h3;subst h3;have h1':aU (fF BB) xs=some vs:=by grind[NB]
  have hst:mN κ κ.w0 (blP pv) (aNF 0 cs0++M):=by
   refine⟨⟨[],?_,fun x hx=>?_⟩,k2⟩
   ·rw[uX,UP (B':=BB) hkM];refine k3.via fun F h=>?_;grind[Sep.append,a02]
   grind[aPL,UQ]
  have h5:=hrun vs (aNG hpv hB0 hx h1') hst;have h6:=P9 (w:=κ.w0) hcall ho h4 h2;unfold Oper.wp;rw[h6 _ a hA.env,Oper.upon_enter];refine Calls.mono h5 fun en w' ⟨v,hv,y,g1,g2⟩=>?_;subst hv;obtain⟨n1,n2,n3,n4⟩:=hn x y;have g3:=vB BB (aLV n4 g1);rw[aG3] at g3;obtain⟨⟨R',t1,t2⟩,t0⟩:=g2;obtain⟨qs,q1,q2⟩:=aU4 (w:=w') hpv n1 n2 hB0 fun i cs hi=>t1.chunk (ch:=RI (blP pv) (0+i) cs) i (by
   rw[HP,aOV (by
    have:=(CI.1 (aHT (k:=0) hi)).1;exact this),aHT hi];rfl)
  obtain⟨e1,e2⟩:=aPJ q1;have t3:St κ w' (qs.map PV.mid++(Lr x y).map (lD BB)) R':=by refine t1.imp ?_;grind[UP,jX.append,jX.refl]
  have t4:=k7 w' _ R' t3;have t5:St c w' ((MR L' (IX L' (FI ps++is)++Lr x y) ps (cb x y)).map (lD BB)) R:=by
   refine t4.via fun F h=>?_;refine a04 hpv q1 (fun i hi=>?_) (aU6 hka) ?_
   ·grind[a06,aGH,a05]
   ·rw[uX,GQ];have h7:Sep w' ((qs.map PV.mid++qs.flatMap PV.rest)++(blank (L'.map (lD BB)) (FI ps++is)++(Lr x y).map (lD BB))) F:=by rw[e1];refine Sep.perm ?_ h;grind[List.Perm.append_left,List.perm_append_comm]
    grind[Sep.append,bB8]
  have t6:mN c w' BB (MR L' (IX L' (FI ps++is)++Lr x y) ps (cb x y)):=by
   refine⟨⟨R,t5,fun z hz=>?_⟩,s0⟩;rcases aPK hz with hz | ⟨_,_,hz⟩
   ·rcases fB.1 hz with hz | hz
    ·rcases ND _ _ hz with hz | hz
     ·grind
     ·subst hz;trivial
    grind[UQ]
   ·subst hz;trivial
  rw[hd];cases d with
  | none=>exact hnext y _ _ ⟨[],by grind,by grind[dse,Act.put],by grind⟩
  | some d=>exact hnext y _ _ ⟨[],by grind,by simpa[dse] using hA.of g3 (hA.env.put (by grind[qT,vV]) v),by grind⟩
end
end Go.Gv
end
noncomputable section
namespace Go.Gv
noncomputable section
variable {P:Program} {T:TT} {hT:GP P T} {n:Nat} {c:Ctx} {B0:Bl} {N:Act->World->Prop} {X:Nat->Act->World->Prop} {Q:Act->World->Prop} {K K':List Fr} {m m':Nat} {e e':SE} {L L' Lv:List Ch} {cf cf' cf1 cf2:vT} {o:Oper}
noncomputable section
variable {α β ex:Type} {fo:Option α} {kf:α->Option β} {q:β} {d:Option Nat} {f:FuncId} {xs xs0:List SV} {M:List Ch} {sv:α->ex->SV} {Lr:α->ex->List Ch}
theorem cw0(is:List Nat)
  (hs:cpS (kO T n K cf m e L)=some (o,d,f,xs,cf1,cf2,K',m',e',L')) (hi:aU (fun i=>L'[i]?) is=some M) (hx:aU (rnP [] 0) xs=some xs0)
  (hk:(HT M && (dI is && is.all fun j=>gL j cf1.yT))=true) (hn:∀x y,(HT (Lr x y) && xI 0 (sv x y))=true)
  (hc:∀{κ:Ctx},HG c κ L' is->∀{x},fo=some x->FnS P f κ xs0 [] M sv Lr x) (hF:fo.bind kf=some q)
  (k:∀x,fo=some x->kf x=some q->∀y:ex,G (.mk P T hT n c B0 N X Q) K' m' (dse d (sv x y) e') (IX L' is++Lr x y) cf2):G (.mk P T hT n c B0 N X Q) K m e L cf:=
 cwk (cb:=fun _ _=>[]) (Lr:=Lr) [] is hs rfl hi hx (by grind[FI]) (fun x y=>by grind[aAJ]) (fun{κ} h Bs hl x hx=>match Bs,hl with | [],_=>hc (by grind[FI]) hx) hF (fun x h1 h2 y=>by grind[MR,FI])
theorem cw1{c1:List SV}{a1:α->ex->List SV}(i1 n1 o1 k1:Nat)(is:List Nat)
  (hs:cpS (kO T n K cf m e L)=some (o,d,f,xs,cf1,cf2,K',m',e',L')) (hb:aHR L' [(i1,n1,o1,k1)]=some [c1]) (hi:aU (fun i=>L'[i]?) is=some M) (hx:aU (rnP [(i1,n1,o1,k1)] 0) xs=some xs0)
  (hk:(HT M && ([c1].all (xI.okC 0) && (dI (i1 :: is) && (i1 :: is).all fun j=>gL j cf1.yT)))=true) (hn:∀x y,(aAJ [(i1,n1,o1,k1)] [a1 x y] && ([a1 x y].all (xI.okC 0) && (HT (Lr x y) && xI 0 (sv x y))))=true)
  (hc:∀{κ:Ctx},HG c κ L' (i1 :: is)->∀{b1:Nat×Nat} {x},fo=some x->FnS P f κ xs0 [b1] (.box 0 c1 :: M) sv (fun x y=>.box 0 (a1 x y) :: Lr x y) x) (hF:fo.bind kf=some q)
  (k:∀x,fo=some x->kf x=some q->∀y:ex,G (.mk P T hT n c B0 N X Q) K' m' (dse d (sv x y) e') (MR L' (IX L' (i1 :: is)++Lr x y) [(i1,n1,o1,k1)] [a1 x y]) cf2):G (.mk P T hT n c B0 N X Q) K m e L cf:=
 cwk (cb:=fun x y=>[a1 x y]) (Lr:=Lr) [(i1,n1,o1,k1)] is hs hb hi hx hk hn (fun{κ} h Bs hl x hx=>match Bs,hl with | [b1],_=>hc h hx) hF k
theorem cw2{c1 c2:List SV}{a1 a2:α->ex->List SV}(i1 n1 o1 k1:Nat)(i2 n2 o2 k2:Nat)(is:List Nat)
  (hs:cpS (kO T n K cf m e L)=some (o,d,f,xs,cf1,cf2,K',m',e',L')) (hb:aHR L' [(i1,n1,o1,k1),(i2,n2,o2,k2)]=some [c1,c2]) (hi:aU (fun i=>L'[i]?) is=some M) (hx:aU (rnP [(i1,n1,o1,k1),(i2,n2,o2,k2)] 0) xs=some xs0)
  (hk:(HT M && ([c1,c2].all (xI.okC 0) && (dI (i1 :: i2 :: is) && (i1 :: i2 :: is).all fun j=>gL j cf1.yT)))=true) (hn:∀x y,(aAJ [(i1,n1,o1,k1),(i2,n2,o2,k2)] [a1 x y,a2 x y] && ([a1 x y,a2 x y].all (xI.okC 0) && (HT (Lr x y) && xI 0 (sv x y))))=true)
  (hc:∀{κ:Ctx},HG c κ L' (i1 :: i2 :: is)->∀{b1 b2:Nat×Nat} {x},fo=some x->FnS P f κ xs0 [b1,b2] (.box 0 c1 :: .box 1 c2 :: M) sv (fun x y=>.box 0 (a1 x y) :: .box 1 (a2 x y) :: Lr x y) x) (hF:fo.bind kf=some q)
  (k:∀x,fo=some x->kf x=some q->∀y:ex,G (.mk P T hT n c B0 N X Q) K' m' (dse d (sv x y) e') (MR L' (IX L' (i1 :: i2 :: is)++Lr x y) [(i1,n1,o1,k1),(i2,n2,o2,k2)] [a1 x y,a2 x y]) cf2):G (.mk P T hT n c B0 N X Q) K m e L cf:=
 cwk (cb:=fun x y=>[a1 x y,a2 x y]) (Lr:=Lr) [(i1,n1,o1,k1),(i2,n2,o2,k2)] is hs hb hi hx hk hn (fun{κ} h Bs hl x hx=>match Bs,hl with | [b1,b2],_=>hc h hx) hF k
theorem cw3{c1 c2 c3:List SV}{a1 a2 a3:α->ex->List SV}(i1 n1 o1 k1:Nat)(i2 n2 o2 k2:Nat)(i3 n3 o3 k3:Nat)(is:List Nat)
  (hs:cpS (kO T n K cf m e L)=some (o,d,f,xs,cf1,cf2,K',m',e',L')) (hb:aHR L' [(i1,n1,o1,k1),(i2,n2,o2,k2),(i3,n3,o3,k3)]=some [c1,c2,c3]) (hi:aU (fun i=>L'[i]?) is=some M) (hx:aU (rnP [(i1,n1,o1,k1),(i2,n2,o2,k2),(i3,n3,o3,k3)] 0) xs=some xs0)
  (hk:(HT M && ([c1,c2,c3].all (xI.okC 0) && (dI (i1 :: i2 :: i3 :: is) && (i1 :: i2 :: i3 :: is).all fun j=>gL j cf1.yT)))=true) (hn:∀x y,(aAJ [(i1,n1,o1,k1),(i2,n2,o2,k2),(i3,n3,o3,k3)] [a1 x y,a2 x y,a3 x y] && ([a1 x y,a2 x y,a3 x y].all (xI.okC 0) && (HT (Lr x y) && xI 0 (sv x y))))=true)
  (hc:∀{κ:Ctx},HG c κ L' (i1 :: i2 :: i3 :: is)->∀{b1 b2 b3:Nat×Nat} {x},fo=some x->FnS P f κ xs0 [b1,b2,b3] (.box 0 c1 :: .box 1 c2 :: .box 2 c3 :: M) sv (fun x y=>.box 0 (a1 x y) :: .box 1 (a2 x y) :: .box 2 (a3 x y) :: Lr x y) x) (hF:fo.bind kf=some q)
  (k:∀x,fo=some x->kf x=some q->∀y:ex,G (.mk P T hT n c B0 N X Q) K' m' (dse d (sv x y) e') (MR L' (IX L' (i1 :: i2 :: i3 :: is)++Lr x y) [(i1,n1,o1,k1),(i2,n2,o2,k2),(i3,n3,o3,k3)] [a1 x y,a2 x y,a3 x y]) cf2):G (.mk P T hT n c B0 N X Q) K m e L cf:=
 cwk (cb:=fun x y=>[a1 x y,a2 x y,a3 x y]) (Lr:=Lr) [(i1,n1,o1,k1),(i2,n2,o2,k2),(i3,n3,o3,k3)] is hs hb hi hx hk hn (fun{κ} h Bs hl x hx=>match Bs,hl with | [b1,b2,b3],_=>hc h hx) hF k
end
theorem a8G(s:AC)(n1 n2:Nat):PZ (s.v n1)=PZ (s.v n2):=by obtain⟨a,c⟩:=s;cases a<;>rfl
theorem a8H(s:AC)(q k n1 n2:Nat):PN q k (s.v n1)=PN q k (s.v n2):=by obtain⟨a,c⟩:=s;cases a<;>rfl
theorem ro{α β:Type}[aJ α](E:CO α)(j v nb:Nat){s:AC}{i:Int}{n0:Nat}{ls:List α}{kf:α->Option β}{q:β}(hs:XJ (kO T n K cf m e L)=some (K',cf',m',e',L'))(hj:L'[j]?=some (ow s ls))(hv:L'[v]?=some (wOf α nb s n0 i.toNat))(hz:gL j cf'.yT=true)(hF:(idx ls i).bind kf=some q)
  (k:∀x,idx ls i=some x->kf x=some q->∀y:E.ex,G (.mk P T hT n c B0 N X Q) K' m' e' (L'.set j .no++([.o (rZ (s.v ls.length) ls i.toNat),.box nb (E.cs x y),wOf α nb s ls.length i.toNat]++E.Lx x y)) cf'):G (.mk P T hT n c B0 N X Q) K m e L cf:=by
 refine go hs ?_;cases hi:idx ls i with
 | none=>grind
 | some x =>
  rw[hi] at hF;refine chg (fun _=>m') (fun _=>e') (fun y:E.ex=>L'.set j .no++([.o (rZ (s.v ls.length) ls i.toNat),.box nb (E.cs x y),wOf α nb s ls.length i.toNat]++E.Lx x y)) (fun B a w hm hA hS=>?_) (fun y=>aNC hz) (fun y=>k x hi hF y);obtain⟨⟨R,s1,s2⟩,s0⟩:=hS;have hB:B[nb]?=some (PZ (s.v ls.length),PN (aJ.n α) i.toNat (s.v ls.length)):=by rw[a8G s ls.length n0,a8H s _ _ ls.length n0];exact s2 _ (yI hv)
  have hj2:(L'.map (lD B))[j]?=some (bH [s.v ls.length] ls):=by simp[hj,lD]
  obtain⟨ec,h1⟩:=s1.open j hj2 (lK hi).2.2;have hlen:((L'.map (lD B)).set j JQ).length=L'.length:=by simp
  obtain⟨F,hF'⟩:=h1.chunk (L'.length+2) (by rw[aLG (by omega)];simp;rfl);obtain⟨y,hy2⟩:=E.op (show aJ.own w ec x F from hF');have h2:=h1.unpack (L'.length+2) (by simp) (E.pk hy2);have hset:((L'.map (lD B)).set j JQ ++ [rZ (s.v ls.length) ls i.toNat,UC (PZ (s.v ls.length)) (PN (aJ.n α) i.toNat (s.v ls.length)) ec,bH ec x]).set (L'.length+2) JQ=(L'.map (lD B)).set j JQ ++ [rZ (s.v ls.length) ls i.toNat,UC (PZ (s.v ls.length)) (PN (aJ.n α) i.toNat (s.v ls.length)) ec,JQ]:=by simp
  rw[hset] at h2;refine⟨y,[],by grind,by grind,⟨⟨R,?_,fun z hz=>?_⟩,s0⟩⟩
  ·have e1:(L'.set j Ch.no).map (lD B)=(L'.map (lD B)).set j JQ:=by rw[SX];rfl
   refine h2.imp ?_;rw[FK,uX,uX,<-e1,qE];refine jX.append (jX.refl _) (jX.append (.cons (fun _ h=>h) (.cons (fun F h=>⟨_,_,ec,hB,eS (fun x v h=>by simpa using gC (B:=[]) B h) hy2,h⟩) (.cons (fun _ h=>h) .nil))) ?_);rw[E.nb x y B];exact jX.refl _
  ·rw[FK];rcases fB.1 hz with hz | hz
   ·rcases uY hz with hz | hz
    ·grind
    ·subst hz;trivial
   ·rcases fB.1 hz with hz | hz
    ·simp at hz;rcases hz with rfl | rfl | rfl
     ·trivial
     ·trivial
     ·exact hB
    ·exact aNA (E.no x y) z hz
theorem nw(α:Type)[aJ α](hs:XJ (kO T n K cf m e L)=some (K',cf',m',e',L'))
  (k:G (.mk P T hT n c B0 N X Q) K' m' e' (L' ++ [ow ⟨none,0⟩ ([]:List α)]) cf'):G (.mk P T hT n c B0 N X Q) K m e L cf:=by
 refine go hs ?_;refine chg (fun _:Unit=>m') (fun _=>e') (fun _=>L' ++ [ow ⟨none,0⟩ ([]:List α)]) (fun B a w hm hA hS=>?_) (fun _=>xJ _) (fun _=>k);obtain⟨⟨R,s1,s2⟩,s0⟩:=hS;refine⟨(),[],by grind,by grind,⟨⟨R,?_,fun z hz=>?_⟩,s0⟩⟩
 ·rw[FK,uX];exact St.more s1 (eI.refl _ _) ⟨F0,⟨none,0,rfl,lB _,jT _,.inl ⟨rfl,rfl,fun _ _ h=>h⟩⟩,fun _ _ h=>h.elim⟩
 ·rw[FK];rcases fB.1 hz with hz | hz
  ·grind
  ·simp at hz;subst hz;trivial
theorem C2{Z:Act->World->Prop}(α:Type)[aJ α](kk:∀a w,pA n c B0 m e (L ++ [ow ⟨none,0⟩ ([]:List α)]) a w->Z a w):∀a w,pA n c B0 m e L a w->Z a w:=by
 intro a w ⟨B,hm,hA,hS⟩;refine kk a w ⟨B,hm,hA,?_⟩;obtain⟨⟨R,s1,s2⟩,s0⟩:=hS;refine⟨⟨R,?_,fun z hz=>?_⟩,s0⟩
 ·rw[uX];exact St.more s1 (eI.refl _ _) ⟨F0,⟨none,0,rfl,lB _,jT _,.inl ⟨rfl,rfl,fun _ _ h=>h⟩⟩,fun _ _ h=>h.elim⟩
 ·rcases fB.1 hz with hz | hz
  ·grind
  ·simp at hz;subst hz;trivial
end
end Go.Gv
end
noncomputable section
namespace Go.Gv
def AC.sub(s:AC)(n a:Nat):AC:=⟨if s.c=a then s.a else s.a.map (·.add (a*n)),s.c - a⟩
theorem UR{α:Type}{l:List α}{s:AC}{n a b k:Nat}(h1:a<=b)(h2:b<=l.length):iQ n a b (s.v k)=(s.sub n a).v ((l.take b).drop a).length:=by rw[xH h1 h2];rfl
noncomputable section
variable {P:Program} {T:TT} {hT:GP P T} {n:Nat} {c:Ctx} {B0:Bl} {N:Act->World->Prop} {X:Nat->Act->World->Prop} {Q:Act->World->Prop} {K K':List Fr} {m m':Nat} {e e':SE} {L L' Lv:List Ch} {cf cf' cf1 cf2:vT} {o:Oper} {d:Nat}
theorem cpc{α:Type}[aJ α](j:Nat){s:AC}{l:List α}(hs:XJ (kO T n K cf m e L)=some (K',cf',m',e',L'))(hj:L'[j]?=some (ow s l))(k:l.length<=s.c->G (.mk P T hT n c B0 N X Q) K' m' e' L' cf'):G (.mk P T hT n c B0 N X Q) K m e L cf:=by refine go hs ?_;refine chg (fun _:PLift (l.length<=s.c)=>m') (fun _=>e') (fun _=>L') (fun B a w hm hA hS=>?_) (fun _=>by simpa using xJ (L:=L') []) (fun h=>k h.down);obtain⟨⟨R,s1,s2⟩,s0⟩:=hS;obtain⟨F,hF⟩:=s1.chunk (ch:=bH [s.v l.length] l) j (by simp[hj,lD]);obtain⟨ad,cp,h1,h2⟩:=K1 (show aJ.own w [s.v l.length] l F from hF);simp only[AC.v,Value.slice.injEq] at h1;exact⟨⟨by omega⟩,[],by simpa using hm,by simpa using hA,⟨⟨R,by simpa using s1,by simpa using s2⟩,s0⟩⟩
noncomputable section
variable {x y z u:Operand} {t el sz:Nat} {k1 k2 k3:IntKind} {i j p:Int} {α β:Type} [aJ α] {A:Option β} {q:β} {s:AC} {l:List α} {b1 b2:Bool} {n1:Nat} {z1 z2:List SV} {kt:TK}
theorem aNH(hc:l.length<=s.c)(hs:opS (kO T n K cf m e L)=some (o,Lv,cf1,cf2,K',m',e',L'))(ho:(o.op,o.dst)=(.slice t x (some y) none none,some d))(ht:CM T t=some ⟨.sl el,b1,n1,z1⟩)(he:CM T el=some ⟨kt,b2,sz,z2⟩)(hx:jC e' x=some (.h s l.length))(hy:(jC e' y).bind uT=some (k1,i))(hF:need (0<=i/\i<=(l.length:Int)) A=some q)
  (kk:A=some q->(i.toNat<=l.length/\l.length<=l.length)->G (.mk P T hT n c B0 N X Q) K' m' ((d,.h (s.sub sz i.toNat) ((l.take l.length).drop i.toNat).length) :: e') L' cf2):G (.mk P T hT n c B0 N X Q) K m e L cf:=by
 have hop:o.op=.slice t x (some y) none none:=congrArg Prod.fst ho;have hb:=(jW hF).1;have hb2:i.toNat<=l.length/\l.length<=l.length:=by omega
 refine pu hs (congrArg Prod.snd ho) (fun B a w hA hS=>⟨iQ sz i.toNat l.length (s.v l.length),by rw[UR hb2.1 hb2.2];simp[fF,gV,bR],fun _ a hA'=>?_⟩) (kk (jW hF).2 hb2);obtain⟨h0,h1⟩:=hb;have h5:max i 0=i:=by omega
 simp[execOp,hop,Instr.sliceAt,Instr.slice,run_underlying (IW ht hT),Instr.sliceBounds,hA'.eval (hdB hA hx),hA'.eval (zL hA hy),Instr.sliceBound,asIntOf,hT.size _ _ he,h0,h1,hc,h5,iQ]
theorem aW6(hc:l.length<=s.c)(hs:opS (kO T n K cf m e L)=some (o,Lv,cf1,cf2,K',m',e',L'))(ho:(o.op,o.dst)=(.slice t x none (some z) none,some d))(ht:CM T t=some ⟨.sl el,b1,n1,z1⟩)(he:CM T el=some ⟨kt,b2,sz,z2⟩)(hx:jC e' x=some (.h s l.length))(hz:(jC e' z).bind uT=some (k2,j))(hF:need (0<=j/\j<=(l.length:Int)) A=some q)
  (kk:A=some q->(0<=j.toNat/\j.toNat<=l.length)->G (.mk P T hT n c B0 N X Q) K' m' ((d,.h (s.sub sz 0) ((l.take j.toNat).drop 0).length) :: e') L' cf2):G (.mk P T hT n c B0 N X Q) K m e L cf:=by
 have hop:o.op=.slice t x none (some z) none:=congrArg Prod.fst ho;have hb:=(jW hF).1;have hb2:0<=j.toNat/\j.toNat<=l.length:=by omega
 refine pu hs (congrArg Prod.snd ho) (fun B a w hA hS=>⟨iQ sz 0 j.toNat (s.v l.length),by rw[UR hb2.1 hb2.2];simp[fF,gV,bR],fun _ a hA'=>?_⟩) (kk (jW hF).2 hb2);obtain⟨h0,h1⟩:=hb;have h3:j<=(s.c:Int):=by omega
 have h5:max j 0=j:=by omega
 simp[execOp,hop,Instr.sliceAt,Instr.slice,run_underlying (IW ht hT),Instr.sliceBounds,hA'.eval (hdB hA hx),hA'.eval (zL hA hz),Instr.sliceBound,asIntOf,hT.size _ _ he,h0,h3,h5,iQ]
theorem bB9(hc:l.length<=s.c)(hs:opS (kO T n K cf m e L)=some (o,Lv,cf1,cf2,K',m',e',L'))(ho:(o.op,o.dst)=(.slice t x none (some z) (some u),some d))(ht:CM T t=some ⟨.sl el,b1,n1,z1⟩)(he:CM T el=some ⟨kt,b2,sz,z2⟩)(hx:jC e' x=some (.h s l.length))(hz:(jC e' z).bind uT=some (k2,j))(hu:(jC e' u).bind uT=some (k3,p))(hF:need (0<=j/\j<=p/\p<=(l.length:Int)) A=some q)
  (kk:A=some q->(0<=j.toNat/\j.toNat<=p.toNat/\p.toNat<=l.length)->G (.mk P T hT n c B0 N X Q) K' m' ((d,.h ⟨(s.sub sz 0).a,p.toNat⟩ ((l.take j.toNat).drop 0).length) :: e') L' cf2):G (.mk P T hT n c B0 N X Q) K m e L cf:=by
 have hop:o.op=.slice t x none (some z) (some u):=congrArg Prod.fst ho;have hb:=(jW hF).1;have hb2:0<=j.toNat/\j.toNat<=p.toNat/\p.toNat<=l.length:=by omega
 have hl:=xH (l:=l) (a:=0) (b:=j.toNat) (by omega) (by omega);refine pu hs (congrArg Prod.snd ho) (fun B a w hA hS=>⟨AC.v ⟨(s.sub sz 0).a,p.toNat⟩ ((l.take j.toNat).drop 0).length,by simp[fF,gV,bR],fun _ a hA'=>?_⟩) (kk (jW hF).2 hb2);obtain⟨h0,h1,h2⟩:=hb;have h3:p<=(s.c:Int):=by omega
 have h4:0<=p:=by omega
 have h5:max j 0=j:=by omega
 have h6:max p 0=p:=by omega
 rw[hl];have hadd:s.a.map (fun x=>x.add 0)=s.a:=by cases s.a<;>simp[Addr.add]
 by_cases hp:p=0
 ·subst hp;simp[execOp,hop,Instr.sliceAt,Instr.slice,run_underlying (IW ht hT),Instr.sliceBounds,hA'.eval (hdB hA hx),hA'.eval (zL hA hz),hA'.eval (zL hA hu),Instr.sliceBound,asIntOf,hT.size _ _ he,h0,h1,h3,h4,h5,h6,AC.sub,hadd]
 ·simp[execOp,hop,Instr.sliceAt,Instr.slice,run_underlying (IW ht hT),Instr.sliceBounds,hA'.eval (hdB hA hx),hA'.eval (zL hA hz),hA'.eval (zL hA hu),Instr.sliceBound,asIntOf,hT.size _ _ he,h0,h1,h3,h4,h5,h6,AC.sub,hadd]
end
end
end Go.Gv
end
noncomputable section
namespace Go.Gv
noncomputable section
variable {P:Program} {T:TT} {hT:GP P T} {n:Nat} {c:Ctx} {B0:Bl} {N:Act->World->Prop} {X:Nat->Act->World->Prop} {Q:Act->World->Prop} {K K':List Fr} {m m':Nat} {e e':SE} {L L' Lv:List Ch} {cf cf' cf1 cf2:vT} {o:Oper} {d:Nat}
theorem a8I{α:Type}[aJ α]{B:Bl}{w:World}{R:List Fact}{j a b sz:Nat}{s s':AC}{l l':List α}(hn:aJ.n α=sz)(hj:L[j]?=some (ow s l))(hb:a<=b/\b<=l.length)(hl:(l.take b).drop a=l')(hs:∀w F,aJ.own w [s.v l.length] l F->∃F',aJ.own w [s'.v l'.length] l' F'/\∀b o,F' b o->F b o)(hS:mN c w B L):mN c w B (L.set j (ow s' l')):=by
 obtain⟨⟨R,s1,s2⟩,s0⟩:=hS;refine⟨⟨R,?_,fun z hz=>?_⟩,s0⟩
 ·rw[SX];refine s1.Z7 j (by rw[HP,hj];rfl) fun F hF=>?_;obtain⟨F',h1,h2⟩:=hs w F hF;exact⟨F',F0,eI.refl _ _,fun _ _ h=>h.elim,h1,fun b o h=>.inl (h2 b o h)⟩
 ·rcases uY hz with hz | hz
  ·grind
  ·subst hz;trivial
theorem a08{α:Type}[aJ α]{s:AC}{l l':List α}{sz a b:Nat}(hn:aJ.n α=sz)(hb:a<=b/\b<=l.length)(hl:(l.take b).drop a=l'):∀w F,aJ.own w [s.v l.length] l F->∃F',aJ.own w [(s.sub sz a).v l'.length] l' F'/\∀b o,F' b o->F b o:=by intro w F h;obtain⟨F',h1,h2⟩:=aUD hn h hb.1 hb.2;grind[UR]
theorem a09{α:Type}[aJ α]{s:AC}{l l':List α}{sz b p:Nat}(hn:aJ.n α=sz)(hb:0<=b/\b<=p/\p<=l.length)(hl:(l.take b).drop 0=l'):∀w F,aJ.own w [s.v l.length] l F->∃F',aJ.own w [AC.v ⟨(s.sub sz 0).a,p⟩ l'.length] l' F'/\∀b o,F' b o->F b o:=by
 intro w F h;obtain⟨F',h1,h2⟩:=aZV hn h hb.1 hb.2.1 hb.2.2;have hadd:s.a.map (fun x=>x.add 0)=s.a:=by simp[Addr.add]
 have hln:=xH (l:=l) (a:=0) (b:=b) (by omega) (by omega);rw[hl] at hln h1;refine⟨F',?_,h2⟩;simp_all[aZU,AC.sub]
theorem poR{Z:Act->World->Prop}{α:Type}[aJ α](j a b:Nat){sz:Nat}{s:AC}{l l':List α}(hn:aJ.n α=sz)(hj:L[j]?=some (ow s l))(hb:a<=b/\b<=l.length)(hl:(l.take b).drop a=l')
  (kk:∀a' w,pA n c B0 m e (L.set j (ow (s.sub sz a) l')) a' w->Z a' w):∀a' w,pA n c B0 m e L a' w->Z a' w:=by
 intro a' w ⟨B,hm,hA,hS⟩;exact kk a' w ⟨B,hm,hA,a8I (R:=[]) hn hj hb hl (a08 hn hb hl) hS⟩
theorem pmR{Z:Act->World->Prop}{α:Type}[aJ α](j b p:Nat){sz:Nat}{s:AC}{l l':List α}(hn:aJ.n α=sz)(hj:L[j]?=some (ow s l))(hb:0<=b/\b<=p/\p<=l.length)(hl:(l.take b).drop 0=l')
  (kk:∀a' w,pA n c B0 m e (L.set j (ow ⟨(s.sub sz 0).a,p⟩ l')) a' w->Z a' w):∀a' w,pA n c B0 m e L a' w->Z a' w:=by
 intro a' w ⟨B,hm,hA,hS⟩;exact kk a' w ⟨B,hm,hA,a8I (R:=[]) hn hj ⟨by omega,by omega⟩ hl (a09 hn hb hl) hS⟩
theorem aSG{α:Type}{l xs:List α}{k a n:Nat}(h:k<=n/\n<=l.length)(ha:a<=l.length):k<=n/\n<=(cT l a xs).length:=⟨h.1,by grind[fP]⟩
theorem aNI{α:Type}{l xs:List α}{k a:Nat}(h:k<=a)(ha:a<=l.length):((cT l a xs).take k).drop 0=(l.take k).drop 0:=by grind[cT]
def AC.a5X(s:AC)(n a p:Nat):AC:=⟨if p=a then s.a else s.a.map (·.add (a*n)),p - a⟩
noncomputable section
variable {x y z:Operand} {t el sz:Nat} {zv:Value} {k1 k2:IntKind} {i j:Int} {α β:Type} [aJ α] {A:Option β} {q:β} {s:AC} {l:List α} {b1 b2:Bool} {n1:Nat} {z1 z2:List SV} {kt:TK}
theorem ap2[Flat α](p a b:Nat)(hb:a<=b/\b<=l.length)(hs:kO T n K cf m e L=.op o Lv cf1 cf2 K' m' e' L')(ho:(o.op,o.dst)=(.call {callee:=.builtin .append,args:=#[x,y],argTypes:=#[t,t]},some d))(ht:CM T t=some ⟨.sl el,b1,n1,z1⟩)(he:CM T el=some ⟨kt,b2,sz,z2⟩)(hn:aJ.n α=sz)(hp:L'[p]?=some (ow s l))(hz:gL p cf1.yT=true)(hx:jC e' x=some (.h (s.sub sz 0) ((l.take a).drop 0).length))(hy:jC e' y=some (.h (s.sub sz b) ((l.take l.length).drop b).length))
  (k:(0<=a+(l.length - b)/\a+(l.length - b)<=(cT l a (l.drop b)).length)->G (.mk P T hT n c B0 N X Q) K' m' ((d,.h (s.sub sz 0) (((cT l a (l.drop b)).take (a+(l.length - b))).drop 0).length) :: e') (L'.set p (ow s (cT l a (l.drop b)))) cf2):G (.mk P T hT n c B0 N X Q) K m e L cf:=by
 have hlen:(cT l a (l.drop b)).length=l.length:=fP (by omega);have hk:0<=a+(l.length - b)/\a+(l.length - b)<=(cT l a (l.drop b)).length:=by omega
 refine iJ (g:=.mk P T hT n c B0 N X Q) ?_;rw[hs];intro hdn _ hE;refine hE Unit (fun _=>m') (fun _=>(d,.h (s.sub sz 0) (((cT l a (l.drop b)).take (a+(l.length - b))).drop 0).length) :: e') (fun _=>L'.set p (ow s (cT l a (l.drop b)))) (fun _=>QB hz) (fun B act w next Q' hm hA hS hnext=>?_) (fun _=>k hk);obtain⟨⟨R,s1,s2⟩,s0⟩:=hS;have hx2:ev (vE (Y2 (.mk P T hT n c B0 N X Q) cf1++B) e') x=some (iQ sz 0 a (s.v l.length)):=by rw[hdB hA hx,UR (jT a) (tN hb.1 hb.2)]
 have hy2:ev (vE (Y2 (.mk P T hT n c B0 N X Q) cf1++B) e') y=some (iQ sz b l.length (s.v l.length)):=by rw[hdB hA hy,UR hb.2 (lB _)]
 have hop:o.op=.call {callee:=.builtin .append,args:=#[x,y],argTypes:=#[t,t]}:=congrArg Prod.fst ho;have hd:o.dst=some d:=congrArg Prod.snd ho;obtain⟨v,w',k1,rfl,k2⟩:=aR2 p s1 (by rw[HP,hp];rfl) hn hb.1 hb.2 (IW ht hT) (hT.size _ _ he) hop hx2 hy2;unfold Oper.wp;rw[k1 _ act hA.env,Oper.upon_value,hd];have hv:fF (Y2 (.mk P T hT n c B0 N X Q) cf1++B) (.h (s.sub sz 0) (((cT l a (l.drop b)).take (a+(l.length - b))).drop 0).length)=some (iQ sz 0 (a+(l.length - b)) (s.v l.length)):=by grind[UR,fF,gV,bR]
 refine hnext () _ _ ⟨[],by grind,by simpa using hA.of hv (hA.env.put (by grind[qT,vV]) _),?_⟩;rw[FK];refine⟨⟨R,?_,fun z hz=>?_⟩,s0⟩
 ·rw[SX];show St c w' ((L'.map _).set p (bH [s.v (cT l a (l.drop b)).length] _)) R;grind
 ·rcases uY hz with hz | hz
  ·grind
  ·subst hz;trivial
theorem a1A(p k':Nat)(hk:k'<=l.length){l0:List α}(h0:l0.length=k')(hs:opS (kO T n K cf m e L)=some (o,Lv,cf1,cf2,K',m',e',L'))(ho:(o.op,o.dst)=(.slice t x (some y) (some z) none,some d))(ht:CM T t=some ⟨.sl el,b1,n1,z1⟩)(he:CM T el=some ⟨kt,b2,sz,z2⟩)(hn:aJ.n α=sz)(hp:Lv[p]?=some (ow s l))(hx:jC e' x=some (.h (s.sub sz 0) l0.length))(hy:(jC e' y).bind uT=some (k1,i))(hz:(jC e' z).bind uT=some (k2,j))(hF:need (0<=i/\i<=j/\j<=(l.length:Int)) A=some q)
  (kk:A=some q->(i.toNat<=j.toNat/\j.toNat<=l.length)->G (.mk P T hT n c B0 N X Q) K' m' ((d,.h (s.sub sz i.toNat) ((l.take j.toNat).drop i.toNat).length) :: e') L' cf2):G (.mk P T hT n c B0 N X Q) K m e L cf:=by
 have hop:o.op=.slice t x (some y) (some z) none:=congrArg Prod.fst ho;have hb:=(jW hF).1;have hb2:i.toNat<=j.toNat/\j.toNat<=l.length:=by omega
 refine pu hs (congrArg Prod.snd ho) (fun B a w hA hS=>⟨iQ sz i.toNat j.toNat (s.v l.length),by grind[UR,fF,gV,bR],?_⟩) (kk (jW hF).2 hb2);obtain⟨⟨R,s1,s2⟩,s0⟩:=hS;have hx2:ev (vE B e') x=some (iQ sz 0 k' (s.v l.length)):=by rw[hdB hA hx,h0];rfl
 exact aR3 p s1 (by rw[HP,hp];rfl) hn (IW ht hT) (hT.size _ _ he) hb hop hx2 (zL hA hy) (zL hA hz)
theorem clr[Flat α](p a b:Nat)(zd:α)(hb:a<=b/\b<=l.length)(hinf:UD P el sz zv)(hzs:zv.cells.size=sz)(hzd:∀w,aJ.rd F0 w zv.cells.toList zd)(hone:(zv.cells.toList.all fun v=>v.oneCell')=true)(hs:kO T n K cf m e L=.op o Lv cf1 cf2 K' m' e' L')(ho:(o.op,o.dst)=(.call {callee:=.builtin .clear,args:=#[x],argTypes:=#[t]},none))(ht:CM T t=some ⟨.sl el,b1,n1,z1⟩)(hn:aJ.n α=sz)(hp:L'[p]?=some (ow s l))(hz:gL p cf1.yT=true)(hx:jC e' x=some (.h (s.sub sz a) ((l.take b).drop a).length))
  (k:G (.mk P T hT n c B0 N X Q) K' m' e' (L'.set p (ow s (cT l a (List.replicate (b - a) zd)))) cf2):G (.mk P T hT n c B0 N X Q) K m e L cf:=by
 have hlen:(cT l a (List.replicate (b - a) zd)).length=l.length:=fP (by omega);refine iJ (g:=.mk P T hT n c B0 N X Q) ?_;rw[hs];intro hdn _ hE;refine hE Unit (fun _=>m') (fun _=>e') (fun _=>L'.set p (ow s (cT l a (List.replicate (b - a) zd)))) (fun _=>QB hz) (fun B act w next Q' hm hA hS hnext=>?_) (fun _=>k);obtain⟨⟨R,s1,s2⟩,s0⟩:=hS;have hx2:ev (vE (Y2 (.mk P T hT n c B0 N X Q) cf1++B) e') x=some (iQ sz a b (s.v l.length)):=by grind[hdB,UR]
 have hop:o.op=.call {callee:=.builtin .clear,args:=#[x],argTypes:=#[t]}:=congrArg Prod.fst ho;have hd:o.dst=none:=congrArg Prod.snd ho;obtain⟨v,w',k1,rfl,k2⟩:=aZ0 zd p s1 (by rw[HP,hp];rfl) hn hb.1 hb.2 (IW ht hT) hinf hzs hzd (fun v hv=>UF.1 hone v hv) hop hx2;unfold Oper.wp;rw[k1 _ act hA.env,Oper.upon_value,hd];refine hnext () _ _ ⟨[],by grind,by grind[Act.put],?_⟩;rw[FK];refine⟨⟨R,?_,fun z hz=>?_⟩,s0⟩
 ·rw[SX];show St c w' ((L'.map _).set p (bH [s.v (cT l a (List.replicate (b - a) zd)).length] _)) R;grind
 ·rcases uY hz with hz | hz
  ·grind
  ·subst hz;trivial
theorem aSH{u:Operand}{k3:IntKind}{pz:Int}(hc:l.length<=s.c)(hs:opS (kO T n K cf m e L)=some (o,Lv,cf1,cf2,K',m',e',L'))(ho:(o.op,o.dst)=(.slice t x (some y) (some z) (some u),some d))(ht:CM T t=some ⟨.sl el,b1,n1,z1⟩)(he:CM T el=some ⟨kt,b2,sz,z2⟩)(hx:jC e' x=some (.h s l.length))(hy:(jC e' y).bind uT=some (k1,i))(hz:(jC e' z).bind uT=some (k2,j))(hu:(jC e' u).bind uT=some (k3,pz))(hF:need (0<=i/\i<=j/\j<=pz/\pz<=(l.length:Int)) A=some q)
  (kk:A=some q->(i.toNat<=j.toNat/\j.toNat<=pz.toNat/\pz.toNat<=l.length)->G (.mk P T hT n c B0 N X Q) K' m' ((d,.h (s.a5X sz i.toNat pz.toNat) ((l.take j.toNat).drop i.toNat).length) :: e') L' cf2):G (.mk P T hT n c B0 N X Q) K m e L cf:=by
 have hop:o.op=.slice t x (some y) (some z) (some u):=congrArg Prod.fst ho;have hb:=(jW hF).1;have hb2:i.toNat<=j.toNat/\j.toNat<=pz.toNat/\pz.toNat<=l.length:=by omega
 have hl:=xH (l:=l) (a:=i.toNat) (b:=j.toNat) (by omega) (by omega);refine pu hs (congrArg Prod.snd ho) (fun B a w hA hS=>⟨AC.v (s.a5X sz i.toNat pz.toNat) ((l.take j.toNat).drop i.toNat).length,by simp[fF,gV,bR],fun _ a hA'=>?_⟩) (kk (jW hF).2 hb2);obtain⟨h0,h1,h2,h2'⟩:=hb;have h3:pz<=(s.c:Int):=by omega
 have h4:0<=pz:=by omega
 have h4':0<=j:=by omega
 have h5:max j 0=j:=by omega
 have h6:max pz 0=pz:=by omega
 have h7:max i 0=i:=by omega
 rw[hl];by_cases hp:pz.toNat=i.toNat
 ·have:pz=i:=by omega
  subst this;simp[execOp,hop,Instr.sliceAt,Instr.slice,run_underlying (IW ht hT),Instr.sliceBounds,hA'.eval (hdB hA hx),hA'.eval (zL hA hy),hA'.eval (zL hA hz),hA'.eval (zL hA hu),Instr.sliceBound,asIntOf,hT.size _ _ he,h0,h1,h2,h3,h4,h4',h5,h6,h7,AC.a5X]
 ·have hp2:¬pz=i:=fun h=>hp (by rw[h]);simp[execOp,hop,Instr.sliceAt,Instr.slice,run_underlying (IW ht hT),Instr.sliceBounds,hA'.eval (hdB hA hx),hA'.eval (zL hA hy),hA'.eval (zL hA hz),hA'.eval (zL hA hu),Instr.sliceBound,asIntOf,hT.size _ _ he,h0,h1,h2,h3,h4,h4',h5,h6,h7,hp,hp2,AC.a5X]
theorem bEC{t2:Nat}(hs:opS (kO T n K cf m e L)=some (o,Lv,cf1,cf2,K',m',e',L'))(ho:(o.op,o.dst)=(.binOp .shl t x y t2,some d))(hx:(jC e' x).bind uT=some (k1,i))(hy:(jC e' y).bind uT=some (k2,j))(hF:need (0<=j) A=some q)
  (kk:A=some q->G (.mk P T hT n c B0 N X Q) K' m' ((d,.i k1 (aG7 k1 i j)) :: e') L' cf2):G (.mk P T hT n c B0 N X Q) K m e L cf:=
 pu hs (congrArg Prod.snd ho) (fun B a w hA _=>⟨_,rfl,aYZ (congrArg Prod.fst ho) (zL hA hx) (zL hA hy) (by grind[jW])⟩) (kk (jW hF).2)
theorem eqn{t2:Nat}{ln:Nat}(hs:opS (kO T n K cf m e L)=some (o,Lv,cf1,cf2,K',m',e',L'))(ho:(o.op,o.dst)=(.binOp .eql t x (.const (.slice none 0 0)) t2,some d))(ht:CM T t=some ⟨.sl el,b1,n1,z1⟩)(hx:jC e' x=some (.h s ln))
  (kt:s.a=none->G (.mk P T hT n c B0 N X Q) K' m' ((d,.l true) :: e') L' cf2) (kf:G (.mk P T hT n c B0 N X Q) K' m' ((d,.l false) :: e') L' cf2):G (.mk P T hT n c B0 N X Q) K m e L cf:=by
 cases hs':s.a with
 | none=>exact pu hs (congrArg Prod.snd ho) (fun B a w hA _=>⟨_,rfl,aRZ (IW ht hT) ⟨ln,s.c,by grind⟩ (congrArg Prod.fst ho) (hdB hA hx) rfl⟩) (kt hs')
 | some ad=>exact pu hs (congrArg Prod.snd ho) (fun B a w hA _=>⟨_,rfl,aR0 (IW ht hT) ⟨ad,ln,s.c,by grind⟩ (congrArg Prod.fst ho) (hdB hA hx) rfl⟩) kf
theorem cln{w:Ctx}{r:List α}(h:bS w s l)(hn:s.a=none)(hF:need (([]:List α).length+l.length<=1073741824) (some (([]:List α)++l))=some r):some ([]:List α)=some r:=by obtain⟨ad,cp,h1,h2,h3,h4⟩:=(show uZ w.S0 w.w0 [s.v l.length] l from h);grind[need]
end
noncomputable section
variable {x y:Operand} {t el sz:Nat} {zv:Value} {b1:Bool} {n1:Nat} {z1:List SV}
theorem RO{α:Type}[aJ α](E:CO α)(is:List Nat)(q:α)(ye:E.ex)(hinf:UD P el sz zv)(hs:kO T n K cf m e L=.op o Lv cf1 cf2 K' m' e' L')(ho:(o.op,o.dst)=(.buildSlice t 1 #[(0,x)],some d))(ht:CM T t=some ⟨.sl el,b1,n1,z1⟩)(hn:aJ.n α=sz)(hm:Nat.ble 1 sz=true)(hm2:Nat.ble sz 16777216=true)(hx:(jC e' x).map (fun v=>nbL (pW v))=some (E.cs q ye))(hxc:(jC e' x).map isCells=some true)(hle:(E.cs q ye).length=sz)(hec:(aU (bR []) (E.cs q ye)).isSome=true)(hi:aU (fun i=>L'[i]?) is=some (E.Lx q ye))(ha:dI is=true)(hz:(is.all fun j=>gL j cf1.yT)=true)
  (k:∀s':AC,G (.mk P T hT n c B0 N X Q) K' m' ((d,.h s' [q].length) :: e') (IX L' is ++ [ow s' [q]]) cf2):G (.mk P T hT n c B0 N X Q) K m e L cf:=by
 obtain⟨ec,hec⟩:=aG4.1 hec;refine aSD (l:=[q]) (fun s'=>IX L' is ++ [ow s' [q]]) hs (congrArg Prod.snd ho) (fun _=>RM _ hz) (fun B a w hA hS=>?_) k;obtain⟨⟨R,s1,s2⟩,s0⟩:=hS;have hecl:ec.length=sz:=by grind[lL]
 cases hxv:jC e' x with
 | none=>grind
 | some xv =>
  rw[hxv] at hx hxc;simp at hx hxc;obtain⟨v,v1,v2⟩:=fL hA hxv;have hcell:aU (bR B) (pW xv)=some ec:=by rw[<-WZ,hx];exact eS (fun x v h=>by simpa using gC (B:=[]) B h) hec
  have hvc:v.cells.toList=ec:=P8 v1 hcell;have p1:=s1.shift is ha (A':=[bH ec q]) fun F hF=>by rw[NF hi,E.nb] at hF;exact Sep.one.2 ((E.pk hec w F).2 hF)
  have hlen:(blank (L'.map (lD B)) is).length=L'.length:=by rw[<-GQ];simp[aGH]
  obtain⟨v',w',k1,k2⟩:=a4Y (e:=vE B e') (o:=o) (ps:=[(0,x)]) (vs:=[v]) (cells:=ec) [q] p1 [L'.length] rfl ⟨[],by
    simp only[pick,aLG (SZ hlen),hlen,Nat.sub_self];grind,by grind,⟨by grind,rfl⟩⟩ hn (IW ht hT) hinf rfl hm (by grind) (congrArg Prod.fst ho) (by simp[evs,v2]) (aHH (vs:=[v]) (ps:=[(0,x)]) rfl rfl (by grind) (by simp[hvc]))
  have hb2:blank (blank (L'.map (lD B)) is ++ [bH ec q]) [L'.length]=blank (L'.map (lD B)) is ++ [JQ]:=by simp_all[blank]
  rw[hb2] at k2;obtain⟨s',rfl⟩:=aCP (v:=v') (l:=[q]) k2 (L'.length+1) (by grind);refine⟨s',w',k1,⟨⟨R,?_,fun z hz=>?_⟩,s0⟩⟩
  ·have k3:=k2.P2 ((List.range L'.length) ++ [L'.length+1]) ?_
   ·refine k3.imp ?_;rw[uX,GQ,aAK];refine jX.append ?_ ?_
    ·have:pick (blank (L'.map (lD B)) is ++ [JQ] ++ [bH [s'.v [q].length] [q]]) (List.range L'.length)=blank (L'.map (lD B)) is:=by
      have gen:∀(M M':List Chunk) (j:Nat),pick (M++M') ((List.range j))=(M++M').take j\/¬j<=(M++M').length:=by
       intro M M' j;by_cases hj:j<=(M++M').length
       ·left;induction j with
        | zero=>rfl
        | succ j ih =>
         grind[List.range_succ,aAK,pick,List.take_add_one]
       omega
      grind
     grind[jX.refl]
    simp_all[pick,lD,jX.refl]
   ·have gen:∀(j:Nat),dI (List.range' j (L'.length - j) ++ [L'.length+1])=true:=by
     intro j;generalize hk:L'.length - j=k;induction k generalizing j with
     | zero=>rfl
     | succ k ih =>
      rw[List.range'_succ,UG];simp only[dI,BN,UF,aOU];grind[qG]
    have:=gen 0;simp_all[List.range_eq_range']
  ·rcases fB.1 hz with hz | hz
   ·rcases ND _ _ hz with hz | hz
    ·grind
    ·subst hz;trivial
   ·simp at hz;subst hz;trivial
theorem ZZ{α β:Type}[aJ α]{A:Option β}{q:β}{s s2:AC}{l xs:List α}(i j:Nat)(hinf:UD P el sz zv)(hs:kO T n K cf m e L=.op o Lv cf1 cf2 K' m' e' L')(ho:(o.op,o.dst)=(.call {callee:=.builtin .append,args:=#[x,y],argTypes:=#[t,t]},some d))(ht:CM T t=some ⟨.sl el,b1,n1,z1⟩)(hn:aJ.n α=sz)(hzs:zv.cells.size=sz)(hi:L'[i]?=some (ow s l))(hj:L'[j]?=some (ow s2 xs))(ha:dI [i,j]=true)(hz:([i,j].all fun j=>gL j cf1.yT)=true)(hx:jC e' x=some (.h s l.length))(hy:jC e' y=some (.h s2 xs.length))(hF:need (l.length+xs.length<=1073741824) A=some q)
  (k:A=some q->∀s':AC,G (.mk P T hT n c B0 N X Q) K' m' ((d,.h s' (l++xs).length) :: e') (IX L' [i,j] ++ [ow s' (l++xs)]) cf2):G (.mk P T hT n c B0 N X Q) K m e L cf:=by
 refine aSD (l:=l++xs) (fun s'=>IX L' [i,j] ++ [ow s' (l++xs)]) hs (congrArg Prod.snd ho) (fun _=>RM _ hz) (fun B a w hA hS=>?_) (k (jW hF).2);obtain⟨⟨R,s1,s2'⟩,s0⟩:=hS;have hp:pick (L'.map (lD B)) [i,j]=[bH [s.v l.length] l,bH [s2.v xs.length] xs]:=by grind[pick,lD]
 obtain⟨v,w',k1,k2⟩:=a4Z [i,j] s1 ha hp hn (IW ht hT) hinf hzs (jW hF).1 (congrArg Prod.fst ho) (hdB hA hx) (hdB hA hy);have hlen:(blank (L'.map (lD B)) [i,j]).length=L'.length:=by rw[<-GQ];simp[aGH]
 obtain⟨s',rfl⟩:=aCP k2 L'.length (by rw[aLG (SZ hlen),hlen,Nat.sub_self];rfl);refine⟨s',w',k1,⟨⟨R,?_,fun z hz=>?_⟩,s0⟩⟩
 ·rw[uX,GQ];exact k2
 ·rcases fB.1 hz with hz | hz
  ·rcases ND _ _ hz with hz | hz
   ·grind
   ·subst hz;trivial
  ·simp at hz;subst hz;trivial
end
theorem kb{b cb:Bool}(ss:List Nat)(hb:b=cb)(hs:XJ (kO T n K cf m e L)=some (K',cf',m',e',L'))(ho:aU (F5 e') ss=some (ss.map fun _=>SV.b b))(k:G (.mk P T hT n c B0 N X Q) K' m' (ovr cb e' ss) L' cf'):G (.mk P T hT n c B0 N X Q) K m e L cf:=
 go hs (aSA (fun a B hA=>aGF hb ss ho hA) k)
def rhE(v:SV)(e:SE):List (Nat×Nat)->SE
 | []=>e
 | (k, j) :: r => match F5 e k with
  | some (.g cs)=>(k,.g (ovw cs j [v])) :: rhE v e r
  | some (.t cs)=>(k,.t (ovw cs j [v])) :: rhE v e r
  | _=>rhE v e r
def rhL(v:SV)(L:List Ch):List (Nat×Nat)->List Ch
 | []=>L
 | (k, j) :: r => match L[k]? with
  | some (.box n cs)=>rhL v (L.set k (.box n (ovw cs j [v]))) r
  | _=>rhL v L r
theorem aGI{B:Bl}{f:Bl->SV->Option Value}{u v:SV}(huv:∀B,f B u=f B v):∀{cs:List SV} {j:Nat},cs[j]?=some u->aU (f B) (ovw cs j [v])=aU (f B) cs
 | [],j,h=>by simp at h
 | x :: cs, 0, h => by grind[aU,ovw,aM3]
 | x :: cs, j + 1, h => by show aU (f B) (x :: ovw cs j [v])=_;simp only[aU,aGI (B:=B) huv (show cs[j]?=some u by grind)]
theorem a1B{s:AC}{n0 n1:Nat}(hn:n0=n1){B:Bl}:∀{ps:List (Nat×Nat)} {k:Nat} {x:SV},(∀p∈ps,∃cs,(F5 e p.1=some (.g cs)\/F5 e p.1=some (.t cs))/\cs[p.2]?=some (.h s n0))->F5 (rhE (.h s n1) e ps) k=some x->∃y,F5 e k=some y/\fF B x=fF B y
 | [],k,x,_,h=>⟨x,h,rfl⟩
 | (k', j) :: r, k, x, hp, h => by
  have ih:=fun h=>a1B hn (B:=B) (ps:=r) (k:=k) (x:=x) (fun p hp'=>hp p (o7 _ hp')) h;obtain⟨cs,h1,h2⟩:=hp (k',j) (by simp);have hc:∀B,bR B (.h s n0)=bR B (.h s n1):=fun B=>by rw[hn]
  have hg:∀B,gV B (.h s n0)=gV B (.h s n1):=fun B=>by rw[hn]
  rcases h1 with h1 | h1
  ·simp only[rhE,h1,F5] at h;split at h
   ·rename_i hb;cases h;have:=qG hb;subst this;exact⟨_,h1,by simp only[fF,gV,aGI (f:=bR) hc h2]⟩
   grind
  ·simp only[rhE,h1,F5] at h;split at h
   ·rename_i hb;cases h;have:=qG hb;subst this;exact⟨_,h1,by simp only[fF,aGI (f:=gV) hg h2]⟩
   grind
theorem aU7{s:AC}{n0 n1:Nat}(hn:n0=n1){B:Bl}{w:World}{R:List Fact}:∀{ps:List (Nat×Nat)} {L:List Ch},(∀p∈ps,∃k cs,L[p.1]?=some (.box k cs)/\cs[p.2]?=some (.h s n0))->dI (ps.map (·.1))=true->jX w (L.map (lD B)) ((rhL (.h s n1) L ps).map (lD B))/\((∀x∈L,roF B R x)->∀x∈rhL (.h s n1) L ps,roF B R x)
 | [],L,_,_=>⟨jX.refl _,fun h=>h⟩
 | (i, j) :: r, L, hp, ha => by
  obtain⟨k,cs,h1,h2⟩:=hp (i,j) (by simp);have hc:∀B,bR B (.h s n0)=bR B (.h s n1):=fun B=>by rw[hn]
  simp only[K8,dI,BN] at ha;have ih:=aU7 hn (B:=B) (w:=w) (R:=R) (ps:=r) (L:=L.set i (.box k (ovw cs j [.h s n1]))) (fun p hp'=>by
   obtain⟨k',cs',h3,h4⟩:=hp p (o7 _ hp');have hne:i≠p.1:=fun he=>by have:=UF.1 ha.1 p.1 (List.mem_map_of_mem hp');simp_all
   exact⟨k',cs',by grind,h4⟩) ha.2
  simp only[rhL,h1];refine⟨?_,fun h=>ih.2 fun x hx=>?_⟩
  ·have h5:jX w (L.map (lD B)) ((L.set i (.box k (ovw cs j [.h s n1]))).map (lD B)):=by rw[SX];exact jX.put (a:=RI B k cs) (b:=RI B k (ovw cs j [.h s n1])) i (by rw[HP,h1];rfl) fun F ⟨b,z,vs,q1,q2,q3⟩=>⟨b,z,vs,q1,by rw[aGI (f:=bR) hc h2];exact q2,q3⟩
   have tr:∀{A B C:List Chunk},jX w A B->jX w B C->jX w A C:=by
    intro A B C h1;induction h1 generalizing C with
    | nil=>simp
    | cons h t ih=>intro h2;cases h2 with | cons h' t'=>exact .cons (fun F hF=>h' F (h F hF)) (ih t')
   grind
  ·rcases uY hx with hx | hx
   ·exact h x hx
   ·subst hx;trivial
def atE(e:SE)(p:Nat×Nat):Option SV:=match F5 e p.1 with
 | some (.g cs)=>cs[p.2]?
 | some (.t cs)=>cs[p.2]?
 | _=>none
def atL(L:List Ch)(p:Nat×Nat):Option SV:=match L[p.1]? with
 | some (.box _ cs)=>cs[p.2]?
 | _=>none
theorem a1C{B:Bl}{a:Act}{w:World}(s:AC){n0 n1:Nat}(hn:n0=n1){ps qs:List (Nat×Nat)}(hp:aU (atE e) ps=some (ps.map fun _=>.h s n0))(hq:aU (atL L) qs=some (qs.map fun _=>.h s n0))(ha:dI (qs.map (·.1))=true)(hA:hY n B e a)(hS:mN c w B L):hY n B (rhE (.h s n1) e ps) a/\mN c w B (rhL (.h s n1) L qs):=by
 have key:∀{γ:Type} {f:γ->Option SV} {ps:List γ},aU f ps=some (ps.map fun _=>.h s n0)->∀p∈ps,f p=some (.h s n0):=by
  intro γ f ps;induction ps with
  | nil=>simp
  | cons q ps ih =>
   grind[aU]
 refine⟨⟨hA.d,hA.size,fun k x hk=>?_⟩,?_⟩
 ·obtain⟨y,h1,h2⟩:=a1B hn (B:=B) (fun p hp'=>by
   have:=key hp p hp';unfold atE at this;grind) hk
  obtain⟨v,h3,h4⟩:=hA.get k y h1;grind
 ·obtain⟨⟨R,s1,s2⟩,s0⟩:=hS;obtain⟨h1,h2⟩:=aU7 hn (B:=B) (w:=w) (R:=R) (L:=L) (fun p hp'=>by
   have:=key hq p hp';unfold atL at this;split at this
   ·rename_i k cs hc;exact⟨k,cs,hc,this⟩
   grind) ha
  exact⟨⟨R,s1.imp h1,h2 s2⟩,s0⟩
theorem aGJ{g:Gx}{cf:vT}{v:SV}:∀{qs:List (Nat×Nat)} {L M:List Ch},Frz g cf L M->((qs.map (·.1)).all fun j=>gL j cf.yT)=true->Frz g cf L (rhL v M qs)
 | [],L,M,h,_=>h
 | (i, j) :: r, L, M, h, hz => by
  simp only[K8,aJ7,BN] at hz;simp only[rhL];split
  ·exact aGJ (qs:=r) (aPM h hz.1) hz.2
  ·exact aGJ (qs:=r) h hz.2
theorem qV{Z:Act->World->Prop}(s:AC){n0 n1:Nat}(hn:n0=n1)(ps qs:List (Nat×Nat))(hp:aU (atE e) ps=some (ps.map fun _=>.h s n0))(hq:aU (atL L) qs=some (qs.map fun _=>.h s n0))(ha:dI (qs.map (·.1))=true)
  (kk:∀a w,pA n c B0 m (rhE (.h s n1) e ps) (rhL (.h s n1) L qs) a w->Z a w):∀a w,pA n c B0 m e L a w->Z a w:=by
 intro a w ⟨B,hm,hA,hS⟩;obtain⟨h1,h2⟩:=a1C s hn hp hq ha hA hS;exact kk a w ⟨B,hm,h1,h2⟩
end
end Go.Gv
end
noncomputable section
namespace Go.Gv
noncomputable section
variable {P:Program} {T:TT} {hT:GP P T} {n:Nat} {c:Ctx} {B0:Bl} {N:Act->World->Prop} {X:Nat->Act->World->Prop} {Q:Act->World->Prop} {K K':List Fr} {m m':Nat} {e e':SE} {L L' Lv:List Ch} {cf cf' cf1 cf2:vT} {o:Oper} {d:Nat}
noncomputable section
variable {x:Operand} {t t2 el sz:Nat} {b1 b2 b3:Bool} {n1 n2 n3:Nat} {z1 z2 z3:List SV}
theorem qbo(p:Nat){s:AC}{l:List UInt8}(hs:opS (kO T n K cf m e L)=some (o,Lv,cf1,cf2,K',m',e',L'))(ho:(o.op,o.dst)=(.convert t t2 x,some d))(ht:CM T t=some ⟨.sl el,b1,n1,z1⟩)(he:CM T el=some ⟨.i .u8,b2,n2,z2⟩)(h2:CM T t2=some ⟨.s,b3,n3,z3⟩)(hp:Lv[p]?=some (ow s l))(hx:jC e' x=some (.h s l.length))
  (kk:G (.mk P T hT n c B0 N X Q) K' m' ((d,.s l) :: e') L' cf2):G (.mk P T hT n c B0 N X Q) K m e L cf:=by
 refine pu hs (congrArg Prod.snd ho) (fun B a w hA hS=>⟨_,rfl,?_⟩) kk;obtain⟨⟨R,s1,s2⟩,s0⟩:=hS;have hr:=s1.aT8 (cs:=[s.v l.length]) (d:=l) p (by simp[hp,lD]);obtain⟨de,q1,q2⟩:=hT.und _ _ he;exact a9D hr (IW ht hT) (by rw[q1];simp only at q2;rw[q2]) (bB4 h2 hT) (congrArg Prod.fst ho) (hdB hA hx)
theorem a5Y{α:Type}[aJ α](E:CO α){q:α}{y:E.ex}{ec:List Value}(h:aU (bR []) (E.cs q y)=some ec)(hL:E.Lx q y=[])(w:World):aJ.rd F0 w ec q:=by have:=(E.pk h w F0).2 (by rw[hL];exact fun _ _ h=>h);exact aJ.own_rd this
theorem lits{α:Type}[aJ α](E:CO α)(y:E.ex){sz:Nat}{B:Bl}{a:Act}(hA:hY n B e a)(hL:∀q,E.Lx q y=[]):∀{ps:List (Nat×Operand)} {qs:List α},aU (fun p=>(jC e p.2).map fun v=>nbL (pW v)) ps=some (qs.map fun q=>E.cs q y)->(qs.all fun q=>Nat.beq (E.cs q y).length sz && (aU (bR []) (E.cs q y)).isSome)=true ->
  ∃vs cells,evs (vE B e) (ps.map (·.2))=some vs/\vs.length=ps.length/\(vs.all fun v=>v.cells.size == sz)=true/\(vs.flatMap fun v=>v.cells.toList)=cells/\aLM sz cells qs
 | [],[],_,_=>⟨[],[],rfl,rfl,rfl,rfl,rfl⟩
 | [],q :: qs,h,_=>by cases h
 | p :: ps, [], h, _ => by
  simp only[aU] at h;split at h
  ·cases h
  ·split at h<;>cases h
 | p :: ps, q :: qs, h, hc => by
  simp only[aU,K8] at h;split at h
  ·cases h
  ·rename_i c0 h1;split at h
   ·cases h
   ·rename_i cs h2;simp only[Option.some.injEq,List.cons.injEq] at h;obtain⟨rfl,rfl⟩:=h;simp only[aJ7,BN] at hc;obtain⟨⟨hl,hsome⟩,hc⟩:=hc;obtain⟨vs,cells,g1,g2,g3,g4,g5⟩:=lits E y hA hL h2 (by simpa using hc);obtain⟨ec,hec⟩:=aG4.1 hsome;cases hxv:jC e p.2 with
    | none=>rw[hxv] at h1;cases h1
    | some xv =>
     rw[hxv] at h1;simp at h1;obtain⟨v,v1,v2⟩:=fL hA hxv;have hcell:aU (bR B) (pW xv)=some ec:=by rw[<-WZ,h1];exact eS (fun x v h=>by simpa using gC (B:=[]) B h) hec
     have hvc:v.cells.toList=ec:=P8 v1 hcell;have hecl:ec.length=sz:=by rw[lL hec];exact qG hl
     refine⟨v :: vs,ec++cells,by simp[evs,v2,g1],by simp[g2],?_,by simp[hvc,g4],?_,?_⟩
     ·rw[aJ7,g3,<-Array.length_toList,hvc,hecl];simp
     ·rw[List.take_append_of_le_length (SZ hecl.symm),<-hecl,List.take_length];exact a5Y E hec (hL q) _
     ·rw[List.drop_append_of_le_length (SZ hecl.symm),<-hecl,List.drop_length,aG3,hecl];exact g5
theorem ltK{α:Type}[aJ α][Flat α](E:CO α)(y:E.ex)(qs:List α){len:Nat}{ps:List (Nat×Operand)}{zv:Value}(hinf:UD P el sz zv)(hs:kO T n K cf m e L=.op o Lv cf1 cf2 K' m' e' L')(ho:(o.op,o.dst)=(.buildSlice t len ⟨ps⟩,some d))(ht:CM T t=some ⟨.sl el,b1,n1,z1⟩)(hn:aJ.n α=sz)(hl:qs.length=len)(hm:Nat.ble 1 sz=true)(hsm:Nat.ble (len*sz) 16777216=true)(hix:ps.map (·.1)=List.range' 0 len)(hev:aU (fun p=>(jC e' p.2).map fun v=>nbL (pW v)) ps=some (qs.map fun q=>E.cs q y))(hec:(qs.all fun q=>Nat.beq (E.cs q y).length sz && (aU (bR []) (E.cs q y)).isSome)=true)(hL:∀q,E.Lx q y=[])
  (k:∀s':AC,G (.mk P T hT n c B0 N X Q) K' m' ((d,.h s' qs.length) :: e') (L' ++ [ow s' qs]) cf2):G (.mk P T hT n c B0 N X Q) K m e L cf:=by
 refine aSD (l:=qs) (fun s'=>L' ++ [ow s' qs]) hs (congrArg Prod.snd ho) (fun _=>xJ _) (fun B a w hA hS=>?_) k;obtain⟨⟨R,s1,s2⟩,s0⟩:=hS;obtain⟨vs,cells,g1,g2,g3,g4,g5⟩:=lits E y (sz:=sz) hA hL hev hec;have hpl:ps.length=len:=by have:=congrArg List.length hix;simpa using this
 obtain⟨v,w',k1,k2⟩:=aRX (e:=vE B e') (o:=o) (ps:=ps) (vs:=vs) (cells:=cells) qs s1 hn (IW ht hT) hinf hl hm hsm g5 (congrArg Prod.fst ho) g1 (aHH hix (by rw[g2,hpl]) g3 g4);obtain⟨s',rfl⟩:=aCP (v:=v) (l:=qs) k2 (L'.map (lD B)).length (by simp);refine⟨s',w',k1,⟨⟨R,by simpa[lD] using k2,fun z hz=>?_⟩,s0⟩⟩;rcases fB.1 hz with hz | hz
 ·exact s2 z hz
 ·simp at hz;subst hz;trivial
end
end
end Go.Gv
end
noncomputable section
namespace Go.Gv
theorem bCD{P:Program}{f:FuncId}{κ:Ctx}{xs:List SV}{ρ:Type}{sv:ρ->SV}{r:ρ}(hcall:∀args w,(callFunc f args).run P w=.ok (.enter f args) w)
  (H:(∀f:Fact,f.P κ.S0 κ.w0->f.P (PW κ.w0) κ.w0)->∀vs,aU (fF []) xs=some vs->Calls P f vs.toArray κ.w0 (Ret fun v w'=>fF [] (sv r)=some v/\St (b9 κ.w0) w' [] [])):Fn0 P f κ xs sv r:=
 ⟨hcall,fun vs hv hS=>Calls.mono (H (fun f hf=>f.mono hf fun b o hb=>hS.s0 b o hb) vs hv) fun en w' ⟨v,h1,h2,h3⟩=>⟨v,h1,(),h2,hS.a0R h3.keep⟩⟩
noncomputable section
variable {P:Program} {T:TT} {hT:GP P T} {n:Nat} {c:Ctx} {B0:Bl} {N:Act->World->Prop} {X:Nat->Act->World->Prop} {Q:Act->World->Prop} {K K':List Fr} {m m':Nat} {e e':SE} {L L' Lv:List Ch} {cf cf' cf1 cf2:vT} {o:Oper} {d:Nat}
theorem un{α:Type}[aJ α](j:Nat)(ks:List Nat)(ps qs:List (Nat×Nat)){s:AC}{n0:Nat}{l:List α}(hj:L[j]?=some (.o (bH [s.v n0] l)))(hz:gL j cf.yT=true)(hk:aU (F5 e) ks=some (ks.map fun _=>.h s n0))(hp:aU (atE (ovh (.h s l.length) e ks)) ps=some (ps.map fun _=>.h s n0))(hq:aU (atL (L.set j (ow s l))) qs=some (qs.map fun _=>.h s n0))(ha:(dI (qs.map (·.1)) && (qs.map (·.1)).all fun j=>gL j cf.yT)=true)
  (k:l.length=n0->G (.mk P T hT n c B0 N X Q) K m (rhE (.h s l.length) (ovh (.h s l.length) e ks) ps) (rhL (.h s l.length) (L.set j (ow s l)) qs) cf):G (.mk P T hT n c B0 N X Q) K m e L cf:=by
 rw[BN] at ha;refine chg (fun _:PLift (l.length=n0)=>m) (fun _=>rhE (.h s l.length) (ovh (.h s l.length) e ks) ps) (fun _=>rhL (.h s l.length) (L.set j (ow s l)) qs) (fun B a w hm hA hS=>?_) (fun _=>aGJ (QB hz) ha.2) (fun h=>k h.down);have hn:l.length=n0:=by obtain⟨⟨R,s1,s2⟩,s0⟩:=hS;obtain⟨F,hF⟩:=s1.chunk (ch:=bH [s.v n0] l) j (by simp[hj,lD]);obtain⟨ad,cp,h1,h2⟩:=K1 (show aJ.own w [s.v n0] l F from hF);grind
 subst hn;have hS':mN c w B (L.set j (ow s l)):=by grind[aLI]
 obtain⟨h1,h2⟩:=a1C s rfl hp hq ha.1 (aND ks hk hA) hS';exact⟨⟨rfl⟩,[],by grind,by grind,by grind⟩
theorem rr(s:AC){n0 n1:Nat}(hn:n0=n1)(ks:List Nat)(ps qs:List (Nat×Nat))(hk:aU (F5 e) ks=some (ks.map fun _=>.h s n0))(hp:aU (atE (ovh (.h s n1) e ks)) ps=some (ps.map fun _=>.h s n0))(hq:aU (atL L) qs=some (qs.map fun _=>.h s n0))(ha:(dI (qs.map (·.1)) && (qs.map (·.1)).all fun j=>gL j cf.yT)=true)
  (k:G (.mk P T hT n c B0 N X Q) K m (rhE (.h s n1) (ovh (.h s n1) e ks) ps) (rhL (.h s n1) L qs) cf):G (.mk P T hT n c B0 N X Q) K m e L cf:=by
 rw[BN] at ha;subst hn;refine chg (fun _:Unit=>m) (fun _=>rhE (.h s n0) (ovh (.h s n0) e ks) ps) (fun _=>rhL (.h s n0) L qs) (fun B a w hm hA hS=>?_) (fun _=>aGJ (by simpa using xJ (L:=L) []) ha.2) (fun _=>k);obtain⟨h1,h2⟩:=a1C s rfl hp hq ha.1 (aND ks hk hA) hS;simp_all
theorem cpy{d:Option Nat}{x y:Operand}{t t2 el sz:Nat}{α:Type}[aJ α][Flat α]{s s2:AC}{l xs:List α}{b1 b2:Bool}{n1:Nat}{z1 z2:List SV}{kt:TK}(p a:Nat)(hb:a<=l.length/\l.length<=l.length)(hsrc:∀{w},HS c w L'->bS (b9 w) s2 xs)(hs:kO T n K cf m e L=.op o Lv cf1 cf2 K' m' e' L')(ho:(o.op,o.dst)=(.call {callee:=.builtin .copy,args:=#[x,y],argTypes:=#[t,t2]},d))(ht:CM T t=some ⟨.sl el,b1,n1,z1⟩)(he:CM T el=some ⟨kt,b2,sz,z2⟩)(hn:aJ.n α=sz)(hp:(L'[p]?,gL p cf1.yT)=(some (ow s l),true))(hx:jC e' x=some (.h (s.sub sz a) ((l.take l.length).drop a).length))(hy:jC e' y=some (.h s2 xs.length))
  (k:G (.mk P T hT n c B0 N X Q) K' m' (dse d (.i .i64 ((min xs.length (l.length - a):Nat):Int)) e') (L'.set p (ow s (cT l a xs))) cf2):G (.mk P T hT n c B0 N X Q) K m e L cf:=by
 have hp1:L'[p]?=some (ow s l):=congrArg Prod.fst hp;have hz:gL p cf1.yT=true:=congrArg Prod.snd hp;have hlen:(cT l a xs).length=l.length:=fP hb.1;refine iJ (g:=.mk P T hT n c B0 N X Q) ?_;rw[hs];intro hdn _ hE;refine hE Unit (fun _=>m') (fun _=>dse d (.i .i64 ((min xs.length (l.length - a):Nat):Int)) e') (fun _=>L'.set p (ow s (cT l a xs))) (fun _=>QB hz) (fun B act w next Q' hm hA hS hnext=>?_) (fun _=>k);have hr:bS (b9 w) s2 xs:=hsrc ⟨_,hS⟩;obtain⟨⟨R,s1,s2'⟩,s0⟩:=hS;have hx2:ev (vE (Y2 (.mk P T hT n c B0 N X Q) cf1++B) e') x=some (iQ sz a l.length (s.v l.length)):=by grind[hdB,UR]
 have hop:o.op=.call {callee:=.builtin .copy,args:=#[x,y],argTypes:=#[t,t2]}:=congrArg Prod.fst ho;have hd:o.dst=d:=congrArg Prod.snd ho;obtain⟨v,w',k1,rfl,k2⟩:=aUG p s1 (by rw[HP,hp1];rfl) hr hn hb.1 (IW ht hT) (hT.size _ _ he) hop hx2 (hdB hA hy);unfold Oper.wp;rw[k1 _ act hA.env,Oper.upon_value,hd];have hS2:mN c w' (Y2 (.mk P T hT n c B0 N X Q) cf1++B) (L'.set p (ow s (cT l a xs))):=by
  refine⟨⟨R,?_,fun z hz=>?_⟩,s0⟩
  ·rw[SX];show St c w' ((L'.map _).set p (bH [s.v (cT l a xs).length] _)) R;grind
  ·rcases uY hz with hz | hz
   ·grind
   ·subst hz;trivial
 cases d with
 | none=>exact hnext () _ _ ⟨[],by grind,by grind[Act.put,dse],by grind⟩
 | some d=>exact hnext () _ _ ⟨[],by grind,by simpa[dse] using hA.of (by simp[fF,gV,bR]) (hA.env.put (by grind[qT,vV]) _),by grind⟩
theorem cp0{d:Option Nat}{x y:Operand}{t t2 el sz:Nat}{α:Type}[aJ α][Flat α]{s s2:AC}{l xs:List α}{b1 b2:Bool}{n1:Nat}{z1 z2:List SV}{kt:TK}(p:Nat)(hsrc:∀{w},HS c w L'->bS (b9 w) s2 xs)(hs:kO T n K cf m e L=.op o Lv cf1 cf2 K' m' e' L')(ho:(o.op,o.dst)=(.call {callee:=.builtin .copy,args:=#[x,y],argTypes:=#[t,t2]},d))(ht:CM T t=some ⟨.sl el,b1,n1,z1⟩)(he:CM T el=some ⟨kt,b2,sz,z2⟩)(hn:aJ.n α=sz)(hp:(L'[p]?,gL p cf1.yT)=(some (ow s l),true))(hx:jC e' x=some (.h s l.length))(hy:jC e' y=some (.h s2 xs.length))
  (k:G (.mk P T hT n c B0 N X Q) K' m' (dse d (.i .i64 ((min xs.length (l.length - 0):Nat):Int)) e') (L'.set p (ow s (cT l 0 xs))) cf2):G (.mk P T hT n c B0 N X Q) K m e L cf:=by
 have hp1:L'[p]?=some (ow s l):=congrArg Prod.fst hp;have hz:gL p cf1.yT=true:=congrArg Prod.snd hp;have hlen:(cT l 0 xs).length=l.length:=fP (jT _);refine iJ (g:=.mk P T hT n c B0 N X Q) ?_;rw[hs];intro hdn _ hE;refine hE Unit (fun _=>m') (fun _=>dse d (.i .i64 ((min xs.length (l.length - 0):Nat):Int)) e') (fun _=>L'.set p (ow s (cT l 0 xs))) (fun _=>QB hz) (fun B act w next Q' hm hA hS hnext=>?_) (fun _=>k);have hr:bS (b9 w) s2 xs:=hsrc ⟨_,hS⟩;obtain⟨⟨R,s1,s2'⟩,s0⟩:=hS;have hop:o.op=.call {callee:=.builtin .copy,args:=#[x,y],argTypes:=#[t,t2]}:=congrArg Prod.fst ho;have hd:o.dst=d:=congrArg Prod.snd ho;obtain⟨v,w',k1,rfl,k2⟩:=aZX p s1 (by rw[HP,hp1];rfl) hr hn (IW ht hT) (hT.size _ _ he) hop (hdB hA hx) (hdB hA hy);unfold Oper.wp;rw[k1 _ act hA.env,Oper.upon_value,hd];have hS2:mN c w' (Y2 (.mk P T hT n c B0 N X Q) cf1++B) (L'.set p (ow s (cT l 0 xs))):=by
  refine⟨⟨R,?_,fun z hz=>?_⟩,s0⟩
  ·rw[SX];show St c w' ((L'.map _).set p (bH [s.v (cT l 0 xs).length] _)) R;grind
  ·rcases uY hz with hz | hz
   ·grind
   ·subst hz;trivial
 cases d with
 | none=>exact hnext () _ _ ⟨[],by grind,by grind[Act.put,dse],by grind⟩
 | some d=>exact hnext () _ _ ⟨[],by grind,by simpa[dse] using hA.of (by simp[fF,gV,bR]) (hA.env.put (by grind[qT,vV]) _),by grind⟩
theorem fR{Z:Act->World->Prop}{e1:SE}{L1:List Ch}(h1:aWX e=some e1)(h2:aWY L=some L1)(kk:∀a w,pA n c B0 m e1 L1 a w->Z a w):∀a w,pA n c B0 m e L a w->Z a w:=by grind[aGC,aGD]
end
end Go.Gv
end
noncomputable section
namespace Go.Gv
def swN(i j n:Nat):Nat:=match Nat.beq n i with
 | true=>j
 | false => match Nat.beq n j with
  | true=>i
  | false=>n
def swC(i j:Nat):SV->SV
 | .p n o=>.p (swN i j n) o
 | x=>x
def aW8(i j:Nat):List SV->List SV
 | []=>[]
 | x :: r=>swC i j x :: aW8 i j r
def swG(i j:Nat):SV->SV
 | .g cs=>.g (aW8 i j cs)
 | x=>swC i j x
def a50(i j:Nat):List SV->List SV
 | []=>[]
 | x :: r=>swG i j x :: a50 i j r
def swF(i j:Nat):List Nat->List Nat
 | []=>[]
 | n :: r=>swN i j n :: swF i j r
def swT(i j:Nat):SV->SV
 | .t cs=>.t (a50 i j cs)
 | .f f ns=>.f f (swF i j ns)
 | x=>swG i j x
def swE(i j:Nat):SE->SE
 | []=>[]
 | (k,x) :: r=>(k,swT i j x) :: swE i j r
def swL(i j:Nat):List Ch->List Ch
 | []=>[]
 | x :: r => (match x with
  | .box n cs=>.box (swN i j n) (aW8 i j cs)
  | .ro n cs=>.ro (swN i j n) (aW8 i j cs)
  | .w n b z=>.w (swN i j n) b z
  | y=>y) :: swL i j r
noncomputable section
variable {B B':Bl} {i j:Nat}
theorem a1D(h:∀n,B'[swN i j n]?=B[n]?)(x:SV):bR B' (swC i j x)=bR B x:=by cases x<;>first | rfl | grind[swC,bR]
theorem aGK(h:∀n,B'[swN i j n]?=B[n]?):∀cs:List SV,aU (bR B') (aW8 i j cs)=aU (bR B) cs
 | []=>rfl
 | x :: r=>by simp only[aW8,aU,a1D h,aGK h r]
theorem aSI(h:∀n,B'[swN i j n]?=B[n]?)(x:SV):gV B' (swG i j x)=gV B x:=by
 cases x with
 | g cs=>grind[swG,gV,aGK]
 | p n o=>exact a1D h (.p n o)
 | _=>rfl
theorem aU8(h:∀n,B'[swN i j n]?=B[n]?):∀cs:List SV,aU (gV B') (a50 i j cs)=aU (gV B) cs
 | []=>rfl
 | x :: r=>by simp only[a50,aU,aSI h,aU8 h r]
theorem a1E(h:∀n,B'[swN i j n]?=B[n]?):∀cs:List Nat,aU (T3 B') (swF i j cs)=aU (T3 B) cs
 | []=>rfl
 | x :: r=>by simp only[swF,aU,T3,h];rw[show aU (T3 B') (swF i j r)=aU (T3 B) r from a1E h r]
theorem a9Y(h:∀n,B'[swN i j n]?=B[n]?)(x:SV):fF B' (swT i j x)=fF B x:=by
 cases x with
 | t cs=>grind[swT,fF,aU8]
 | f f ns=>grind[swT,fF,a1E]
 | g cs=>exact aSI h (.g cs)
 | p n o=>exact aSI h (.p n o)
 | _=>rfl
theorem a1F{k:Nat}{x:SV}:∀{e:SE},F5 (swE i j e) k=some x->∃y,F5 e k=some y/\x=swT i j y
 | [],h=>by cases h
 | (k', y) :: r, h => by
  simp only[swE,F5] at h ⊢;split at h
  ·grind
  ·rename_i hb;exact a1F h
theorem aU9(h:∀n,B'[swN i j n]?=B[n]?){w:World}{R:List Fact}:∀(L:List Ch),jX w (L.map (lD B)) ((swL i j L).map (lD B'))/\((∀x∈L,roF B R x)->∀x∈swL i j L,roF B' R x)
 | []=>⟨.nil,fun _ x hx=>by cases hx⟩
 | x :: L => by
  obtain⟨h1,h2⟩:=aU9 h (w:=w) (R:=R) L;refine⟨.cons (fun F hF=>?_) h1,fun hr y hy=>?_⟩
  ·cases x with
   | box n cs =>
    obtain⟨b,z,vs,k1,k2,k3⟩:=hF;exact⟨b,z,vs,by grind,by grind[aGK],k3⟩
   | _=>exact hF
  ·rcases jA.1 hy with hy | hy
   ·have hx:=hr x (by simp);cases x with
    | box n cs=>subst hy;trivial
    | ro n cs =>
     obtain⟨b,z,vs,k1,k2,k3⟩:=hx;subst hy;exact⟨b,z,vs,by grind,by grind[aGK],k3⟩
    | w n b z=>subst hy;show B'[swN i j n]?=_;rw[h];exact hx
    | o c=>subst hy;trivial
    | no=>subst hy;trivial
    | f f=>subst hy;exact hx
   grind
end
theorem bCG{B:Bl}{i j:Nat}(hi:i<B.length)(hj:j<B.length):∃B':Bl,B'.length=B.length/\(∀n,B'[swN i j n]?=B[n]?):=by
 refine⟨(B.set i B[j]).set j B[i],by simp,fun n=>?_⟩;unfold swN;cases h1:Nat.beq n i with
 | true =>
  simp_all
 | false =>
  have h1:n≠i:=fun h=>by simp_all
  cases h2:Nat.beq n j with
  | true =>
   simp_all
  | false =>
   have h2:n≠j:=fun h=>by simp_all
   grind
noncomputable section
variable {n:Nat} {c:Ctx} {B0:Bl} {m:Nat} {e:SE} {L:List Ch}
theorem swR{Z:Act->World->Prop}(i j:Nat)(h:(Nat.ble B0.length i && (Nat.ble B0.length j && (Nat.blt i m && Nat.blt j m)))=true)
  (kk:∀a w,pA n c B0 m (swE i j e) (swL i j L) a w->Z a w):∀a w,pA n c B0 m e L a w->Z a w:=by
 simp only[BN,Nat.ble_eq,vV] at h;obtain⟨h1,h2,h3,h4⟩:=h;intro a w ⟨B,hm,hA,hS⟩;refine kk a w ?_;rw[C1] at hm;obtain⟨B',hl,hB⟩:=bCG (B:=B) (i:=i - B0.length) (j:=j - B0.length) (by omega) (by omega);have key:∀n,(B0++B')[swN i j n]?=(B0++B)[n]?:=by
  intro n;have hsw:∀n,n<B0.length->swN i j n=n:=fun n hn=>by grind[swN,qG]
  have hge:∀n,B0.length<=n->swN i j n=B0.length+swN (i - B0.length) (j - B0.length) (n - B0.length):=fun n hn=>by
   have q1:Nat.beq (n - B0.length) (i - B0.length)=Nat.beq n i:=by rw[IS];(simp_all;omega)
   have q2:Nat.beq (n - B0.length) (j - B0.length)=Nat.beq n j:=by rw[IS];(simp_all;omega)
   grind[swN]
  grind[Nat.add_sub_cancel_left]
 refine⟨B',by grind,⟨hA.d,hA.size,fun k x hk=>?_⟩,?_⟩
 ·obtain⟨y,g1,rfl⟩:=a1F hk;obtain⟨v,g2,g3⟩:=hA.get k y g1;grind[a9Y]
 ·obtain⟨⟨R,s1,s2⟩,s0⟩:=hS;obtain⟨g1,g2⟩:=aU9 key (w:=w) (R:=R) L;exact⟨⟨R,s1.imp g1,g2 s2⟩,s0⟩
theorem pnR{Z:Act->World->Prop}{α:Type}[aJ α](j:Nat){s:AC}{l:List α}{n0:Nat}(hl:l.length=n0)(hj:L[j]?=some (ow s l))
  (kk:∀a w,pA n c B0 m e (L.set j (.o (bH [s.v n0] l))) a w->Z a w):∀a w,pA n c B0 m e L a w->Z a w:=by
 grind[aLI]
end
theorem fG{P:Program}{T:TT}{hT:GP P T}{n:Nat}{c:Ctx}{B0:Bl}{N:Act->World->Prop}{X:Nat->Act->World->Prop}{Q:Act->World->Prop}{K:List Fr}{m:Nat}{e e1:SE}{L L1:List Ch}{cf:vT}(h1:aWX e=some e1)(h2:aWY L=some L1)(k:G (.mk P T hT n c B0 N X Q) K m e1 L1 cf):G (.mk P T hT n c B0 N X Q) K m e L cf:=by grind[aGC,aGD]
def fc1:SV->Option SV
 | .i k x=>some (.i k x)
 | .y b=>some (.y b)
 | .b c=>some (.b c)
 | .l c=>some (.l c)
 | .s l=>some (.s l)
 | .p n o=>some (.p n o)
 | .h s n=>some (.h s n)
 | .e s n i o=>some (.e s n i o)
 | .k x=>some (.k x)
 | .g cs=>some (.g cs)
 | .t cs=>some (.t cs)
 | .f f cs=>some (.f f cs)
 | .u=>some .u
def fcs:List SV->Option (List SV)
 | []=>some []
 | x :: r => match fc1 x with
  | some y => match fcs r with
   | some s=>some (y :: s)
   | none=>none
  | none=>none
def fc2:SV->Option SV
 | .g cs => match fcs cs with
  | some ds=>some (.g ds)
  | none=>none
 | x=>fc1 x
def fgs:List SV->Option (List SV)
 | []=>some []
 | x :: r => match fc2 x with
  | some y => match fgs r with
   | some s=>some (y :: s)
   | none=>none
  | none=>none
def fc3:SV->Option SV
 | .t cs => match fgs cs with
  | some ds=>some (.t ds)
  | none=>none
 | x=>fc2 x
def fdE:SE->Option SE
 | []=>some []
 | (k, v) :: r => match fc3 v with
  | some y => match fdE r with
   | some s=>some ((k,y) :: s)
   | none=>none
  | none=>none
def fdL:List Ch->Option (List Ch)
 | []=>some []
 | x :: r => match fdL r with
  | some s => match x with
   | .box n cs => match fcs cs with
    | some ds=>some (.box n ds :: s)
    | none=>none
   | .ro n cs => match fcs cs with
    | some ds=>some (.ro n ds :: s)
    | none=>none
   | y=>some (y :: s)
  | none=>none
theorem a1G{x y:SV}(h:fc1 x=some y):y=x:=by cases x<;>simp only[fc1] at h<;>cases h<;>rfl
theorem aSJ:∀{l r:List SV},fcs l=some r->r=l
 | [],r,h=>by cases h;rfl
 | x :: l, r, h => by
  simp only[fcs] at h;split at h
  ·rename_i y hy;split at h
   ·rename_i s hs;cases h;rw[a1G hy,aSJ hs]
   ·cases h
  ·cases h
theorem a1H{x y:SV}(h:fc2 x=some y):y=x:=by
 cases x with
 | g cs =>
  grind[fc2,aSJ]
 | _=>exact a1G h
theorem a1I:∀{l r:List SV},fgs l=some r->r=l
 | [],r,h=>by cases h;rfl
 | x :: l, r, h => by
  simp only[fgs] at h;split at h
  ·rename_i y hy;split at h
   ·rename_i s hs;cases h;rw[a1H hy,a1I hs]
   ·cases h
  ·cases h
theorem a90{x y:SV}(h:fc3 x=some y):y=x:=by
 cases x with
 | t cs =>
  grind[fc3,a1I]
 | _=>exact a1H h
theorem a1J:∀{e r:SE},fdE e=some r->r=e
 | [],r,h=>by cases h;rfl
 | (k, v) :: l, r, h => by
  simp only[fdE] at h;split at h
  ·rename_i y hy;split at h
   ·rename_i s hs;cases h;rw[a90 hy,a1J hs]
   ·cases h
  ·cases h
theorem a1K:∀{e r:List Ch},fdL e=some r->r=e
 | [],r,h=>by cases h;rfl
 | x :: l, r, h => by
  simp only[fdL] at h;split at h
  ·rename_i s hs;have:=a1K hs;grind[aSJ]
  ·cases h
theorem fD{n:Nat}{c:Ctx}{B0:Bl}{m:Nat}{e e1:SE}{L L1:List Ch}{Z:Act->World->Prop}(h1:fdE e=some e1)(h2:fdL L=some L1)(kk:∀a w,pA n c B0 m e1 L1 a w->Z a w):∀a w,pA n c B0 m e L a w->Z a w:=by grind[a1J,a1K]
end Go.Gv
end
noncomputable section
namespace Go.Gv
universe u
theorem Q{α:Sort u}{a:α}:a=a:=Eq.refl a
def W{ρ:Type}(C:Prop)(r:ρ)(F:Option ρ):Prop:=F=some r->C
theorem wm{ρ:Type}{C:Prop}{r:ρ}{F F':Option ρ}(h:F'=F)(k:W C r F):W C r F':=h ▸ k
theorem wi{ρ:Type}{C:Prop}{r:ρ}{F:Option ρ}(h:F=some r)(k:W C r F):C:=k h
def VS(P:Program)(c:Ctx)(f:FuncId){ρ ex:Type}(F:Option ρ)(xs:List SV)(B0:Bl)(L0:List Ch)(sv:ρ->ex->SV)(Lf:ρ->ex->List Ch):Prop:=∀r,F=some r->FnS P f c xs B0 L0 sv Lf r
abbrev V0(P:Program)(c:Ctx)(f:FuncId){ρ:Type}(F:Option ρ)(xs:List SV)(sv:ρ->SV):Prop:=VS P c f F xs [] [] (fun r (_:Unit)=>sv r) (fun _ _=>[])
theorem VS.r{P:Program}{c:Ctx}{f:FuncId}{ρ ex:Type}{F:Option ρ}{xs:List SV}{B0:Bl}{L0:List Ch}{sv:ρ->ex->SV}{Lf:ρ->ex->List Ch}(h:VS P c f F xs B0 L0 sv Lf){r:ρ}(hF:F=some r):FnS P f c xs B0 L0 sv Lf r:=h r hF
def QR(P:Program)(fn:Func){rs:List ResultVar}(_:fn.results=rs.toArray)(c:Ctx)(B0:Bl){ρ ex:Type}(sv:ρ->ex->SV)(Lf:ρ->ex->List Ch)(r:ρ):Act->World->Prop:=QS P fn c B0 sv Lf r
def a1L(T:TT)(rs:List ResultVar)(is:List Nat)(b0:Nat)(L2:List Ch):Stop->Option (SV×List Ch)
 | .ret m e L => match aM1 T e L rs with
  | some x => match xI b0 (nbS x) with
   | true => match WX b0 m e L is b0 [] L2 with
    | some ([],L3)=>some (nbS x,L3)
    | _=>none
   | false=>none
  | none=>none
 | _=>none
def aW9(is:List Nat)(b0 mj:Nat)(ej:SE)(Lj:List Ch):Stop->Option (SE×List Ch)
 | .fin m e L=>WX b0 m e L is mj ej Lj
 | _=>none
def exQ(is:List Nat)(id b0 mj:Nat)(ej:SE)(Lj:List Ch):Stop->Option (SE×List Ch)
 | .ex i m e L => match Nat.beq i id with
  | true=>WX b0 m e L is mj ej Lj
  | false=>none
 | _=>none
def bCH:Stop->Stop
 | .fin m e L=>.ret m e L
 | _=>.stuck
def ixT(T:TT)(t n:Nat):Bool:=match CM T t with
 | some ⟨.sl el, _, _, _⟩ => match CM T el with
  | some ⟨_,_,sz,_⟩=>Nat.beq n sz
  | none=>false
 | _=>false
noncomputable section
variable {P:Program} {T:TT} {hT:GP P T} {n:Nat} {c:Ctx} {B0:Bl} {N:Act->World->Prop} {X:Nat->Act->World->Prop} {Q:Act->World->Prop} {K K':List Fr} {m m':Nat} {e e':SE} {L L' Lv:List Ch} {cf cf' cf1 cf2:vT} {o:Oper}
theorem dA(hT:GP P T){f:FuncId}{fn:Func}{cd:Code}{xs:List SV}{L0:List Ch}{ρ ex:Type}{sv:ρ->ex->SV}{Lf:ρ->ex->List Ch}{F:Option ρ}{rs:List ResultVar}(hc:∀args w,(callFunc f args).run P w=.ok (.enter f args) w)(hf:P.funcs[f]?=some fn)(hr:fn.results=rs.toArray)(hb:fn.body=some cd)(hm:fn.ntmps=n)
  (k:∀{r},W (G (.mk P T hT n c B0 (QR P fn hr c B0 sv Lf r) (fun _ _ _=>False) (QR P fn hr c B0 sv Lf r)) [] B0.length (aLT 0 xs) L0 (.c cd)) r F) (hl:Nat.ble xs.length n=true:=by exact rfl):VS P c f F xs B0 L0 sv Lf:=
 fun _ hF=>en n hc hf hT hb hm hl (k hF)
theorem aVA{rs:List ResultVar}{is:List Nat}{b0:Nat}{L2 L3:List Ch}{s:SV}{st:Stop}(h:a1L T rs is b0 L2 st=some (s,L3)):∃m' e' L' x,st=.ret m' e' L'/\aM1 T e' L' rs=some x/\nbS x=s/\xI b0 s=true/\WX b0 m' e' L' is b0 [] L2=some ([],L3):=by unfold a1L at h;grind
theorem lY{fn:Func}{ρ ex:Type}{sv:ρ->ex->SV}{Lf:ρ->ex->List Ch}{r r':ρ}{rs:List ResultVar}{hr:fn.results=rs.toArray}{zz:Option ρ}(y:ex)(is:List Nat)(hz:zz=some r')(h:a1L T rs is B0.length (Lf r' y) (kO T n K cf m e L)=some (sv r' y,Lf r' y)):W (G (.mk P T hT n c B0 N X (QR P fn hr c B0 sv Lf r)) K m e L cf) r zz:=fun hF=>by obtain⟨_,_,_,_,h1,h2,h3,h4,h5⟩:=aVA h;exact rt y is hF hz h1 hr h2 h3 h4 h5
theorem eD{fn:Func}{ρ:Type}{sv:ρ->Unit->SV}{Lf:ρ->Unit->List Ch}{r r':ρ}{rs:List ResultVar}{hr:fn.results=rs.toArray}{zz:Option ρ}(hz:zz=some r')(h:a1L T rs [] B0.length (Lf r' ()) (kO T n K cf m e L)=some (sv r' (),Lf r' ())):W (G (.mk P T hT n c B0 N X (QR P fn hr c B0 sv Lf r)) K m e L cf) r zz:=lY () [] hz h
theorem FC{fn:Func}{ρ ex:Type}{sv:ρ->ex->SV}{Lf:ρ->ex->List Ch}{r r':ρ}{rs:List ResultVar}{hr:fn.results=rs.toArray}{zz:Option ρ}(y:ex)(is:List Nat)(hz:zz=some r')(h:a1L T rs is B0.length (Lf r' y) (bCH (kO T n K cf m e L))=some (sv r' y,Lf r' y)):W (G (.mk P T hT n c B0 (QR P fn hr c B0 sv Lf r) X Q) K m e L cf) r zz:=fun hF=>by obtain⟨m',e',L',_,h1,h2,h3,h4,h5⟩:=aVA h;refine rf y is hF hz (m':=m') (e':=e') (L':=L') ?_ hr h2 h3 h4 h5;unfold bCH at h1;grind
theorem aVB{is:List Nat}{b0 mj:Nat}{ej e3:SE}{Lj L3:List Ch}{st:Stop}(h:aW9 is b0 mj ej Lj st=some (e3,L3)):∃m' e' L',st=.fin m' e' L'/\WX b0 m' e' L' is mj ej Lj=some (e3,L3):=by unfold aW9 at h;grind
theorem lZ{π υ α:Type}{eq:π->Prop}{mj:Nat}{ej:π->υ->SE}{Lj:π->υ->List Ch}{p:π}{q:α}{zz:Option α}(u:υ)(is:List Nat)(hz:(zz=some q)=eq p)(h:aW9 is B0.length mj (ej p u) (Lj p u) (kO T n K cf m e L)=some (ej p u,Lj p u)):W (G (.mk P T hT n c B0 (JP n c B0 eq mj ej Lj) X Q) K m e L cf) q zz:=fun hF=>by obtain⟨_,_,_,h1,h2⟩:=aVB h;exact jn u is (hz ▸ hF) h1 h2
theorem cO{π α:Type}{eq:π->Prop}{mj:Nat}{ej:π->Unit->SE}{Lj:π->Unit->List Ch}{p:π}{q:α}{zz:Option α}(is:List Nat)(hz:(zz=some q)=eq p)(h:aW9 is B0.length mj (ej p ()) (Lj p ()) (kO T n K cf m e L)=some (ej p (),Lj p ())):W (G (.mk P T hT n c B0 (JP n c B0 eq mj ej Lj) X Q) K m e L cf) q zz:=lZ () is hz h
theorem nxW{σ ρ υ:Type}{o:Step σ ρ}{mj:Nat}{el:σ->υ->SE}{Ll:σ->υ->List Ch}{s:σ}(u:υ)(is:List Nat)(h:aW9 is B0.length mj (el s u) (Ll s u) (kO T n K cf m e L)=some (el s u,Ll s u)):W (G (.mk P T hT n c B0 (NxP n c B0 o mj el Ll) X Q) K m e L cf) o (some (Step.next s)):=fun hF=>by obtain⟨_,_,_,h1,h2⟩:=aVB h;exact nx u is hF h1 h2
theorem QC{σ ρ:Type}{o:Step σ ρ}{mj:Nat}{el:σ->Unit->SE}{Ll:σ->Unit->List Ch}{s:σ}(is:List Nat)(h:aW9 is B0.length mj (el s ()) (Ll s ()) (kO T n K cf m e L)=some (el s (),Ll s ())):W (G (.mk P T hT n c B0 (NxP n c B0 o mj el Ll) X Q) K m e L cf) o (some (Step.next s)):=nxW () is h
def BkR(n:Nat)(c:Ctx)(B0:Bl){β ρ σ υ:Type}{o:Step σ ρ}{ro:ρ}(_:∀p,o=.stop p->p=ro)(enc:β->ρ)(m:Nat)(ej:β->υ->SE)(Lj:β->υ->List Ch)(id:Nat)(X:Nat->Act->World->Prop):Nat->Act->World->Prop:=BkP n c B0 ro enc m ej Lj id X
theorem bkW{σ ρ β υ:Type}{o:Step σ ρ}{ro:ρ}{enc:β->ρ}{mj id:Nat}{ej:β->υ->SE}{Lj:β->υ->List Ch}{b:β}{hr:∀p,o=.stop p->p=ro}(u:υ)(is:List Nat)(h:exQ is id B0.length mj (ej b u) (Lj b u) (kO T n K cf m e L)=some (ej b u,Lj b u)):W (G (.mk P T hT n c B0 N (BkR n c B0 hr enc mj ej Lj id X) Q) K m e L cf) o (some (Step.stop (enc b))):=fun hF=>by
 unfold exQ at h;split at h
 ·rename_i h0;split at h
  ·rename_i hb;rw[qG hb] at h0;exact bk u is hF hr h0 h
  ·cases h
 ·cases h
theorem MS{σ ρ β:Type}{o:Step σ ρ}{ro:ρ}{enc:β->ρ}{mj id:Nat}{ej:β->Unit->SE}{Lj:β->Unit->List Ch}{b:β}{hr:∀p,o=.stop p->p=ro}(is:List Nat)(h:exQ is id B0.length mj (ej b ()) (Lj b ()) (kO T n K cf m e L)=some (ej b (),Lj b ())):W (G (.mk P T hT n c B0 N (BkR n c B0 hr enc mj ej Lj id X) Q) K m e L cf) o (some (Step.stop (enc b))):=bkW () is h
theorem US{σ ρ α:Type}{o:Step σ ρ}{p ro:ρ}{F:ρ->Option α}{q:α}{C:Prop}(hr:∀p,o=.stop p->p=ro)(hF:F ro=some q)(k:W C q (F p)):W C o (some (Step.stop p)):=fun h=>k (re h rfl hr hF)
noncomputable section
variable {b:Bool} {α:Type} {A B':Option α} {q:α}
theorem cA{o:Operand}{x y:Code}(ss:List Nat)(hs:kO T n K cf m e L=.cond o b x y K' m' e' L')(ho:aU (F5 e') ss=some (ss.map fun _=>SV.b b))
  (k1:W (G (.mk P T hT n c B0 N X Q) K' m' (ovr true e' ss) L' (.c x)) q A) (k2:W (G (.mk P T hT n c B0 N X Q) K' m' (ovr false e' ss) L' (.c y)) q B'):W (G (.mk P T hT n c B0 N X Q) K m e L cf) q (if b=true then A else B'):=fun hF=>cs ss hs ho hF k1 k2
theorem gX(ss:List Nat)(hs:kO T n K cf m e L=.case b cf' K' m' e' L')(ho:aU (F5 e') ss=some (ss.map fun _=>SV.b b))
  (k1:W (G (.mk P T hT n c B0 N X Q) K' m' (ovr true e' ss) L' cf') q A) (k2:W (G (.mk P T hT n c B0 N X Q) K' m' (ovr false e' ss) L' cf') q B'):W (G (.mk P T hT n c B0 N X Q) K m e L cf) q (if b=true then A else B'):=fun hF=>ca ss hs ho hF k1 k2
end
noncomputable section
variable {α β:Type} {fo:Option α} {kf:α->Option β} {q:β} {d:Nat} {f:FuncId} {xs:List SV}
theorem c0{sv:α->SV}(hs:kO T n K cf m e L=.call o (some d) f xs cf1 cf2 K' m' e' L')
  (hc:∀{w},HS c w L'->V0 P (b9 w) f fo xs sv) (k:∀x,W (G (.mk P T hT n c B0 N X Q) K' m' ((d,sv x) :: e') L' cf2) q (kf x)):W (G (.mk P T hT n c B0 N X Q) K m e L cf) q (fo.bind kf):=fun hF=>cl0 hs (fun h _ hx=>hc h _ hx) hF fun x _ h=>k x h
theorem c1{ex:Type}{sv:α->ex->SV}{Lf:α->ex->List Ch}(hs:kO T n K cf m e L=.call o (some d) f xs cf1 cf2 K' m' e' L')
  (hc:∀{w},HS c w L'->VS P (b9 w) f fo xs [] [] sv Lf) (k:∀x,∀y:ex,W (G (.mk P T hT n c B0 N X Q) K' m' ((d,sv x y) :: e') (L'++Lf x y) cf2) q (kf x)) (hn:∀x y,noF (Lf x y)=true:=by exact fun _ _=>rfl):W (G (.mk P T hT n c B0 N X Q) K m e L cf) q (fo.bind kf):=fun hF=>cl hs hn (fun h _ hx=>hc h _ hx) hF fun x _ h y=>k x y h
theorem HU{β:Type}{kf:α->Option β}{q:β}{iR:aJ α}(C:FH α){d t:Nat}{s:AC}{i:Int}{ls:List α}(hs:kO T n K cf m e L=.idx o d t s ls.length i Lv cf1 cf2 K' m' e' L')(h1:bS c s ls)(ht:ixT T t (aJ.n α)=true)
  (k:∀x,∀y:C.ex,C.sub c.S0 c.w0 x y->W (G (.mk P T hT n c B0 N X Q) K' (m'+1) ((d,.p m' 0) :: e') (L' ++ [.ro m' (C.cs x y)]) (cf2.ext [.ro m' (C.cs x y)])) q (kf x)):W (G (.mk P T hT n c B0 N X Q) K m e L cf) q ((idx ls i).bind kf):=fun hF=>by
 unfold ixT at ht;split at ht
 ·rename_i h2;split at ht
  ·rename_i h3;exact ix C hs h1 hF h2 h3 (qG ht) fun x _ h y hy=>k x y hy h
  ·cases ht
 ·cases ht
theorem ixI{β:Type}{kf:Int->Option β}{q:β}{d t:Nat}{s:AC}{i:Int}{ls:List Int}(hs:kO T n K cf m e L=.idx o d t s ls.length i Lv cf1 cf2 K' m' e' L')(h1:bS c s ls)(ht:ixT T t 1=true)
  (k:∀x,W (G (.mk P T hT n c B0 N X Q) K' (m'+1) ((d,.p m' 0) :: e') (L' ++ [.ro m' [.i .i64 x]]) (cf2.ext [.ro m' [.i .i64 x]])) q (kf x)):W (G (.mk P T hT n c B0 N X Q) K m e L cf) q ((idx ls i).bind kf):=HU cI hs h1 ht fun x _ _=>k x
theorem jY(hm:P.follows .mixedOrders=true){id:Nat}{ops:Array Oper}{zz:Option β}(is:List Nat)(hs:kO T n K cf m e L=.rgn id ops K' m' e' L')
  (k:∀{B1},W (G (.mk P T hT n c B0 N X Q) K' m' e' L' (.d B1 ops (List.replicate ops.size false) is (kl L' is) (kl L' is))) q zz) (hf:(aO6 ops && (okL m' (kl L' is) && (dI is && is.all fun j=>Nat.blt j L'.length)))=true:=by kernel_rfl):W (G (.mk P T hT n c B0 N X Q) K m e L cf) q zz:=fun hF=>dr is hs hm hf fun _=>k hF
theorem eN{π υ:Type}{zz:Option β}(j mj:Nat)(Fj:π->Option β)(ks:List Nat)(ej:π->υ->SE)(is:List Nat)(Lj:π->υ->List Ch)(hs:XJ (kO T n K cf m e L)=some (K',cf',m',e',L'))
  (k1:W (G (.mk P T hT n c B0 (JP n c B0 (fun p=>Fj p=some q) mj (fun p u=>ej p u++kp e' ks) (fun p u=>Lj p u++kl L' is)) (XK (.mk P T hT n c B0 N X Q) (K'.drop j)) Q) (K'.take j) m' e' L' cf') q zz)
  (k2:∀p u,W (G (.mk P T hT n c B0 N X Q) (K'.drop j) mj (ej p u++kp e' ks) (Lj p u++kl L' is) .n) q (Fj p)):W (G (.mk P T hT n c B0 N X Q) K m e L cf) q zz:=fun hF=>cut j mj (fun p=>Fj p=some q) ks ej is Lj hs (k1 hF) fun p u h=>k2 p u h
theorem gY{zz:Option β}(j mj:Nat)(Fj:Bool->Option β)(ks:List Nat)(v:Nat)(is:List Nat)(hs:XJ (kO T n K cf m e L)=some (K',cf',m',e',L'))
  (k1:W (G (.mk P T hT n c B0 (JP n c B0 (fun p=>Fj p=some q) mj (fun p (_:Unit)=>[(v,.b p)]++kp e' ks) (fun _ _=>[]++kl L' is)) (XK (.mk P T hT n c B0 N X Q) (K'.drop j)) Q) (K'.take j) m' e' L' cf') q zz)
  (k2:∀p,W (G (.mk P T hT n c B0 N X Q) (K'.drop j) mj ([(v,.b p)]++kp e' ks) ([]++kl L' is) .n) q (Fj p)):W (G (.mk P T hT n c B0 N X Q) K m e L cf) q zz:=eN j mj Fj ks (fun p (_:Unit)=>[(v,.b p)]) is (fun _ _=>[]) hs k1 fun p _=>k2 p
theorem W4{σ ρ υ γ ω:Type}{id:Nat}{y:Code}{fb:σ->Option (Step σ ρ)}{s0:σ}{gk:ρ->Option β}(u0:υ)(ks:List Nat)(el:σ->υ->SE)(is0 is:List Nat)(Ll:σ->υ->List Ch)(enc:γ->ρ)(kb:List Nat)(ej:γ->ω->SE)(ib:List Nat)(Lj:γ->ω->List Ch)
  (hs:kO T n K cf m e L=.loop id y K' m' e' L')
  (h0:WX B0.length m' e' L' is0 m' (el s0 u0++kp e' ks) (Ll s0 u0++kl L' is)=some (el s0 u0++kp e' ks,Ll s0 u0++kl L' is))
  (k1:∀{ro o},gk ro=some q->∀s u,(hr:∀p,o=.stop p->p=ro)->W (G (.mk P T hT n c B0 (NxP n c B0 o m' (fun s u=>el s u++kp e' ks) (fun s u=>Ll s u++kl L' is)) (BkR n c B0 hr enc m' (fun b u=>ej b u++kp e' kb) (fun b u=>Lj b u++kl L' ib) id (XK (.mk P T hT n c B0 N X Q) K')) Q) [] m' (el s u++kp e' ks) (Ll s u++kl L' is) (.c y)) o (fb s))
  (k2:∀b u,W (G (.mk P T hT n c B0 N X Q) K' m' (ej b u++kp e' kb) (Lj b u++kl L' ib) .n) q (gk (enc b))):W (G (.mk P T hT n c B0 N X Q) K m e L cf) q ((loop fb s0).bind gk):=fun hF=>
 lp u0 ks el is0 is Ll enc kb ej ib Lj hs hF h0 (fun ro h1 s u o h2 h3=>k1 h1 s u h3 h2) fun b u h=>k2 b u h
theorem XM{ρ:Type}{id:Nat}{y:Code}{fb:Int->Option (Step Int ρ)}{s0:Int}{gk:ρ->Option β}(v:Nat)(ks:List Nat)(is:List Nat)(enc:Unit->ρ)(kb:List Nat)(ib:List Nat)
  (hs:kO T n K cf m e L=.loop id y K' m' e' L')
  (h0:WX B0.length m' e' L' is m' ([(v,.i .i64 s0)]++kp e' ks) ([]++kl L' is)=some ([(v,.i .i64 s0)]++kp e' ks,[]++kl L' is))
  (k1:∀{ro o},gk ro=some q->∀s,(hr:∀p,o=.stop p->p=ro)->W (G (.mk P T hT n c B0 (NxP n c B0 o m' (fun s (_:Unit)=>[(v,.i .i64 s)]++kp e' ks) (fun _ _=>[]++kl L' is)) (BkR n c B0 hr enc m' (fun _ (_:Unit)=>[]++kp e' kb) (fun _ _=>[]++kl L' ib) id (XK (.mk P T hT n c B0 N X Q) K')) Q) [] m' ([(v,.i .i64 s)]++kp e' ks) ([]++kl L' is) (.c y)) o (fb s))
  (k2:W (G (.mk P T hT n c B0 N X Q) K' m' ([]++kp e' kb) ([]++kl L' ib) .n) q (gk (enc ()))):W (G (.mk P T hT n c B0 N X Q) K m e L cf) q ((loop fb s0).bind gk):=
 W4 () ks (fun s (_:Unit)=>[(v,.i .i64 s)]) is is (fun _ _=>[]) enc kb (fun _ (_:Unit)=>[]) ib (fun _ _=>[]) hs h0 (fun h s _ hr=>k1 h s hr) fun _ _=>k2
theorem lrW{σ ρ υ:Type}{id:Nat}{y:Code}{fb:σ->Option (Step σ ρ)}{s0:σ}{gk:ρ->Option β}(u0:υ)(ks:List Nat)(el:σ->υ->SE)(is0 is:List Nat)(Ll:σ->υ->List Ch)
  (hs:kO T n K cf m e L=.loop id y K' m' e' L')
  (h0:WX B0.length m' e' L' is0 m' (el s0 u0++kp e' ks) (Ll s0 u0++kl L' is)=some (el s0 u0++kp e' ks,Ll s0 u0++kl L' is))
  (k1:∀{ro o},gk ro=some q->∀s u,(hr:∀p,o=.stop p->p=ro)->W (G (.mk P T hT n c B0 (NxP n c B0 o m' (fun s u=>el s u++kp e' ks) (fun s u=>Ll s u++kl L' is)) (BkP n c B0 ro (fun b:Empty=>nomatch b) m' (fun(b:Empty) (_:Unit)=>nomatch b) (fun b _=>nomatch b) id (XK (.mk P T hT n c B0 N X Q) K')) Q) [] m' (el s u++kp e' ks) (Ll s u++kl L' is) (.c y)) o (fb s)):W (G (.mk P T hT n c B0 N X Q) K m e L cf) q ((loop fb s0).bind gk):=fun hF=>
 lr u0 ks el is0 is Ll hs hF h0 fun ro h1 s u o h2 h3=>k1 h1 s u h3 h2
theorem sG{β:Type}{kf:α->Option β}{q:β}[aJ α](E:CO α)(j:Nat){t:TypeId}{s:AC}{i:Int}{ls:List α}(hs:kO T n K cf m e L=.idx o d t s ls.length i Lv cf1 cf2 K' m' e' L')(hj:L'[j]?=some (ow s ls))(hz:gL j cf1.yT=true)
  (k:∀x,idx ls i=some x->∀y:E.ex,Shp s ls.length->W (G (.mk P T hT n c B0 N X Q) K' (m'+1) e' (L'.set j .no++([.o (rZ (s.v ls.length) ls i.toNat),.box m' (E.cs x y),wOf α m' s ls.length i.toNat]++E.Lx x y)) (cf1.ext [wOf α m' s ls.length i.toNat])) q (kf x)):W (G (.mk P T hT n c B0 N X Q) K m e L cf) q ((idx ls i).bind kf):=fun hF=>oe E j hs hj hz hF fun x h1 h2 y h3=>k x h1 y h3 h2
end
noncomputable section
variable {α β ex:Type} {fo:Option α} {kf:α->Option β} {q:β} {d:Option Nat} {f:FuncId} {xs xs0:List SV} {M:List Ch} {sv:α->ex->SV} {Lr:α->ex->List Ch}
theorem MT(is:List Nat)
  (hs:cpS (kO T n K cf m e L)=some (o,d,f,xs,cf1,cf2,K',m',e',L')) (hi:aU (fun i=>L'[i]?) is=some M) (hx:aU (rnP [] 0) xs=some xs0)
  (hk:(HT M && (dI is && is.all fun j=>gL j cf1.yT))=true)
  (hc:∀{κ:Ctx},HG c κ L' is->VS P κ f fo xs0 [] M sv Lr)
  (k:∀x,∀y:ex,W (G (.mk P T hT n c B0 N X Q) K' m' (dse d (sv x y) e') (IX L' is++Lr x y) cf2) q (kf x)) (hn:∀x y,(HT (Lr x y) && xI 0 (sv x y))=true:=by exact fun _ _=>rfl):W (G (.mk P T hT n c B0 N X Q) K m e L cf) q (fo.bind kf):=fun hF=>
 cw0 is hs hi hx hk hn (fun h _ hx=>hc h _ hx) hF fun x _ h y=>k x y h
theorem eV{c1:List SV}{a1:α->ex->List SV}(i1 n1 o1 k1:Nat)(is:List Nat)
  (hs:cpS (kO T n K cf m e L)=some (o,d,f,xs,cf1,cf2,K',m',e',L')) (hb:aHR L' [(i1,n1,o1,k1)]=some [c1]) (hi:aU (fun i=>L'[i]?) is=some M) (hx:aU (rnP [(i1,n1,o1,k1)] 0) xs=some xs0)
  (hk:(HT M && ([c1].all (xI.okC 0) && (dI (i1 :: is) && (i1 :: is).all fun j=>gL j cf1.yT)))=true)
  (hc:∀{κ:Ctx},HG c κ L' (i1 :: is)->∀{b1:Nat×Nat},VS P κ f fo xs0 [b1] (.box 0 c1 :: M) sv (fun x y=>.box 0 (a1 x y) :: Lr x y))
  (k:∀x,∀y:ex,W (G (.mk P T hT n c B0 N X Q) K' m' (dse d (sv x y) e') (MR L' (IX L' (i1 :: is)++Lr x y) [(i1,n1,o1,k1)] [a1 x y]) cf2) q (kf x)) (hn:∀x y,(aAJ [(i1,n1,o1,k1)] [a1 x y] && ([a1 x y].all (xI.okC 0) && (HT (Lr x y) && xI 0 (sv x y))))=true:=by exact fun _ _=>rfl):W (G (.mk P T hT n c B0 N X Q) K m e L cf) q (fo.bind kf):=fun hF=>
 cw1 i1 n1 o1 k1 is hs hb hi hx hk hn (fun h _ _ hx=>hc h _ hx) hF fun x _ h y=>k x y h
theorem aNJ{c1 c2:List SV}{a1 a2:α->ex->List SV}(i1 n1 o1 k1:Nat)(i2 n2 o2 k2:Nat)(is:List Nat)
  (hs:cpS (kO T n K cf m e L)=some (o,d,f,xs,cf1,cf2,K',m',e',L')) (hb:aHR L' [(i1,n1,o1,k1),(i2,n2,o2,k2)]=some [c1,c2]) (hi:aU (fun i=>L'[i]?) is=some M) (hx:aU (rnP [(i1,n1,o1,k1),(i2,n2,o2,k2)] 0) xs=some xs0)
  (hk:(HT M && ([c1,c2].all (xI.okC 0) && (dI (i1 :: i2 :: is) && (i1 :: i2 :: is).all fun j=>gL j cf1.yT)))=true)
  (hc:∀{κ:Ctx},HG c κ L' (i1 :: i2 :: is)->∀{b1 b2:Nat×Nat},VS P κ f fo xs0 [b1,b2] (.box 0 c1 :: .box 1 c2 :: M) sv (fun x y=>.box 0 (a1 x y) :: .box 1 (a2 x y) :: Lr x y))
  (k:∀x,∀y:ex,W (G (.mk P T hT n c B0 N X Q) K' m' (dse d (sv x y) e') (MR L' (IX L' (i1 :: i2 :: is)++Lr x y) [(i1,n1,o1,k1),(i2,n2,o2,k2)] [a1 x y,a2 x y]) cf2) q (kf x)) (hn:∀x y,(aAJ [(i1,n1,o1,k1),(i2,n2,o2,k2)] [a1 x y,a2 x y] && ([a1 x y,a2 x y].all (xI.okC 0) && (HT (Lr x y) && xI 0 (sv x y))))=true:=by exact fun _ _=>rfl):W (G (.mk P T hT n c B0 N X Q) K m e L cf) q (fo.bind kf):=fun hF=>
 cw2 i1 n1 o1 k1 i2 n2 o2 k2 is hs hb hi hx hk hn (fun h _ _ _ hx=>hc h _ hx) hF fun x _ h y=>k x y h
theorem bEG{c1 c2 c3:List SV}{a1 a2 a3:α->ex->List SV}(i1 n1 o1 k1:Nat)(i2 n2 o2 k2:Nat)(i3 n3 o3 k3:Nat)(is:List Nat)
  (hs:cpS (kO T n K cf m e L)=some (o,d,f,xs,cf1,cf2,K',m',e',L')) (hb:aHR L' [(i1,n1,o1,k1),(i2,n2,o2,k2),(i3,n3,o3,k3)]=some [c1,c2,c3]) (hi:aU (fun i=>L'[i]?) is=some M) (hx:aU (rnP [(i1,n1,o1,k1),(i2,n2,o2,k2),(i3,n3,o3,k3)] 0) xs=some xs0)
  (hk:(HT M && ([c1,c2,c3].all (xI.okC 0) && (dI (i1 :: i2 :: i3 :: is) && (i1 :: i2 :: i3 :: is).all fun j=>gL j cf1.yT)))=true)
  (hc:∀{κ:Ctx},HG c κ L' (i1 :: i2 :: i3 :: is)->∀{b1 b2 b3:Nat×Nat},VS P κ f fo xs0 [b1,b2,b3] (.box 0 c1 :: .box 1 c2 :: .box 2 c3 :: M) sv (fun x y=>.box 0 (a1 x y) :: .box 1 (a2 x y) :: .box 2 (a3 x y) :: Lr x y))
  (k:∀x,∀y:ex,W (G (.mk P T hT n c B0 N X Q) K' m' (dse d (sv x y) e') (MR L' (IX L' (i1 :: i2 :: i3 :: is)++Lr x y) [(i1,n1,o1,k1),(i2,n2,o2,k2),(i3,n3,o3,k3)] [a1 x y,a2 x y,a3 x y]) cf2) q (kf x)) (hn:∀x y,(aAJ [(i1,n1,o1,k1),(i2,n2,o2,k2),(i3,n3,o3,k3)] [a1 x y,a2 x y,a3 x y] && ([a1 x y,a2 x y,a3 x y].all (xI.okC 0) && (HT (Lr x y) && xI 0 (sv x y))))=true:=by exact fun _ _=>rfl):W (G (.mk P T hT n c B0 N X Q) K m e L cf) q (fo.bind kf):=fun hF=>
 cw3 i1 n1 o1 k1 i2 n2 o2 k2 i3 n3 o3 k3 is hs hb hi hx hk hn (fun h _ _ _ _ hx=>hc h _ hx) hF fun x _ h y=>k x y h
end
theorem Y6{α β:Type}{iR:aJ α}{C:FH α}{sr:β->SV}{g:FuncId}{w:World}{p:α->Option β}(hc:∀args w,(callFunc g args).run P w=.ok (.enter g args) w)(hn:∀{κ:Ctx} {x y},C.sub κ.S0 κ.w0 x y->V0 P κ g (p x) [C.sv x y] sr):XL P (b9 w) C sr g [] p:=fu1 hc (by intro κ x y h q hq;exact hn h _ hq)
theorem aKD{α β:Type}{iR:aJ α}{C:FH α}{sr:β->SV}{g:FuncId}{w:World}{Bs:Bl}{cs:List (Nat×List SV)}{p:α->Option β}(hc:∀args w,(callFunc g args).run P w=.ok (.enter g args) w)(hB:∀w1,eI F0 w w1->mN (b9 w1) w1 Bs (roL 0 cs))(hl:aU (fF Bs) (a0V 0 cs)=some (QA Bs))(hn:∀{w1 x y},eI F0 w w1->C.sub (PW w1) w1 x y->VS P (b9 w1) g (p x) (C.sv x y :: a0V 0 cs) Bs (roL 0 cs) (fun r (_:Unit)=>sr r) (fun _ _=>[]))(hz:∀q,xI 0 (sr q)=true:=by exact fun _=>rfl):XL P (b9 w) C sr g (QA Bs) p:=fk1 hc hB hl hz (by intro w1 x y h h' q hq;exact hn h h' _ hq)
noncomputable section
variable {α β:Type} {fo:Option α} {kf:α->Option β} {q:β} {d:Nat} {f g:FuncId} {xs:List SV} {sv:α->SV}
theorem aKE{n1:Nat}{c1:List SV}(is:List Nat)(hs:kO T n K cf m e L=.callp o (some d) f xs cf1 cf2 K' m' e' L')(hk:kl L' is=[.ro n1 c1])(ho:(aPC [(n1,c1)] && okA xs.dropLast)=true)(hx:xs=xs.dropLast ++ [.f g [n1]])
  (hc:∀{w},HS c w L'->∀{b1:Nat×Nat},(∀w1,eI F0 w w1->mN (b9 w1) w1 [b1] [.ro 0 c1])->V0 P (b9 w) f fo (xs.dropLast ++ [.k (.func (.func g) #[] (QA [b1]).toArray)]) sv)
  (k:∀x,W (G (.mk P T hT n c B0 N X Q) K' m' ((d,sv x) :: e') L' cf2) q (kf x)):W (G (.mk P T hT n c B0 N X Q) K m e L cf) q (fo.bind kf):=fun hF=>
 bD9 is hs hk ho hx (fun h _ h2 _ hx=>hc h h2 _ hx) hF fun x _ h=>k x h
end
end
end Go.Gv
end
noncomputable section
namespace Go.Gv
def pV(y:Nat×Nat):Value:=.pointer (some ⟨y.1,y.2,none⟩)
noncomputable section
variable {P:Program} {T:TT} {hT:GP P T} {n:Nat} {c:Ctx} {B0:Bl} {N:Act->World->Prop} {X:Nat->Act->World->Prop} {Q:Act->World->Prop} {K K':List Fr} {m m':Nat} {e e':SE} {L L':List Ch} {cf cf1 cf2:vT} {o:Oper}
abbrev VP(P:Program)(c:Ctx)(f:FuncId){ρ:Type}(F:Option ρ)(xs:List SV)(cs:ρ->List SV):Prop:=VS P c f F xs [] [] (fun _ (y:Nat×Nat)=>.k (pV y)) (fun r y=>[.o (RI [y] 0 (cs r))])
theorem rtP{fn:Func}{ρ:Type}{r r':ρ}{t:Nat}{hr:fn.results=[ResultVar.tmp t].toArray}{zz:Option ρ}{cs:ρ->List SV}(is:List Nat)(hz:zz=some r')(hs:kO T n K cf m e L=.ret m' e' L')(hL:WX 0 m' e' L' is 1 [(t,.p 0 0)] [.box 0 (cs r')]=some ([(t,.p 0 0)],[.box 0 (cs r')]))(ho:xI.okC 0 (cs r')=true):W (G (.mk P T hT n c [] N X (QR P fn hr c [] (fun _ (y:Nat×Nat)=>.k (pV y)) (fun r y=>[.o (RI [y] 0 (cs r))]) r)) K m e L cf) r zz:=fun hF=>by
 subst hz;cases hF;refine iJ (g:=.mk P T hT n c [] N X _) ?_;rw[hs];intro a w hr';obtain⟨B,hm,hA,hS⟩:=pA.WX hr' is hL;have hB:∃y,B=[y]:=by
  cases B with
  | nil=>simp at hm
  | cons y B=>grind
 obtain⟨y,rfl⟩:=hB;have hS:mN c w [y] [.box 0 (cs r)]:=hS;have hA:hY n [y] [(t,.p 0 0)] a:=hA;have hv:aM1 T [(t,.p 0 0)] [.box 0 (cs r)] [ResultVar.tmp t]=some (.p 0 0):=by simp[aM1,aZ4,F5]
 obtain⟨v,h1,h2⟩:=aGG hr hT hA hS hv;have hv':v=pV y:=by simp only[fF,gV,bR,List.getElem?_cons_zero] at h1;cases h1;rfl
 subst hv';refine⟨hA.d,_,h2,y,by grind[fF,gV,bR,Value.oneCell'],?_⟩;obtain⟨⟨R,s1,s2⟩,s0⟩:=hS;exact⟨⟨R,s1.imp (.cons (fun F h=>h) .nil),fun x hx=>by rcases jA.1 hx with rfl | hx<;>first | trivial | simp at hx⟩,s0⟩
theorem cP{α β:Type}{fo:Option α}{kf:α->Option β}{q:β}{d:Nat}{f:FuncId}{xs:List SV}{cs:α->List SV}(hs:kO T n K cf m e L=.call o (some d) f xs cf1 cf2 K' m' e' L')
  (hc:∀{w},HS c w L'->VP P (b9 w) f fo xs cs) (k:∀x,W (G (.mk P T hT n c B0 N X Q) K' (m'+1) ((d,.p m' 0) :: e') (L' ++ [.box m' (cs x)]) cf2) q (kf x)) (hk:∀x,xI.okC 0 (cs x)=true:=by exact fun _=>rfl):W (G (.mk P T hT n c B0 N X Q) K m e L cf) q (fo.bind kf):=fun hF=>by
 refine iJ (g:=.mk P T hT n c B0 N X Q) ?_;rw[hs];intro fo' args ats ho hd hf ⟨ys,hys,hxs⟩ hA0 hdn hE;subst hxs;cases hfo:fo with
 | none=>grind
 | some x =>
  rw[hfo] at hF;refine hE Unit (fun _=>m'+1) (fun _=>(d,.p m' 0) :: e') (fun _=>L' ++ [.box m' (cs x)]) (fun _=>xJ _) (fun B a w next Q' hm hA hS hnext=>?_) (fun _=>k x hF);obtain⟨hcall,hrun⟩:=hc ⟨_,hS⟩ x hfo;obtain⟨vs,h1,h2⟩:=YB hA hys;obtain⟨v,h3,h4⟩:=fL hA hf;simp[fF,aU] at h3;subst h3;have h5:=hrun vs (aAI hA0 (by rw[NB];exact h1)) (aW3 w);have h6:=P9 (w:=w) hcall ho h4 h2;unfold Oper.wp;rw[h6 _ a hA.env,Oper.upon_enter];refine Calls.mono h5 fun en w' ⟨v,hv,y,g1,g2⟩=>?_;subst hv;rw[hd];have hv':v=pV y:=by grind[fF,gV,bR]
  subst hv';have hb:∀{F:cD},(RI [y] 0 (cs x)).P w' F->(RI ((Y2 (.mk P T hT n c B0 N X Q) cf1++B) ++ [y]) m' (cs x)).P w' F:=fun⟨b,z,us,k1,k2,k3⟩=>by
   simp only[List.getElem?_cons_zero,Option.some.injEq] at k1;refine⟨y.1,y.2,us,?_,?_,by grind⟩
   ·grind
   ·simpa using eS (fun x v h=>by simpa using gC (B:=[]) (Y2 (.mk P T hT n c B0 N X Q) cf1++B ++ [y]) h) (AN (hk x) k2)
  have g3:fF ((Y2 (.mk P T hT n c B0 N X Q) cf1++B) ++ [y]) (.p m' 0)=some (pV y):=by grind[fF,gV,bR,pV]
  refine hnext () _ _ ⟨[y],by grind,hA.ext g3 (hA.env.put (by grind[qT,vV]) _),?_⟩;obtain⟨⟨R,s1,s2⟩,s0⟩:=(hS.after (L2:=[.o (RI [y] 0 (cs x))]) rfl g2).app [y];refine⟨⟨R,s1.imp ?_,fun z hz=>?_⟩,s0⟩
  ·rw[uX,uX];exact jX.append (jX.refl _) (.cons (fun F h=>hb h) .nil)
  ·rcases fB.1 hz with hz | hz
   ·grind
   ·rcases jA.1 hz with rfl | hz<;>first | trivial | simp at hz
def a91(b:Bool)(off sz:Nat)(cs:List SV):Option SV:=match b with
 | true=>some (.g ((cs.drop off).take sz))
 | false => match cs[off]? with
  | some x => match x with
   | .g _=>none
   | .t _=>none
   | .f _ _=>none
   | .u=>none
   | y=>some y
  | none=>none
theorem bCI{α:Type}{F0:Option α}{q:α}{t ix sz d:Nat}{b:Bool}{k:TK}{z cs:List SV}{Fs:Array Field}{F:Field}{x:Operand}{r:SV}{Lv:List Ch}(hu:P.underlying t=some (.struct Fs))(hf:Fs[ix]?=some F)(hl:CM T F.type=some ⟨k,b,sz,z⟩)(hs:opS (kO T n K cf m e L)=some (o,Lv,cf1,cf2,K',m',e',L'))(ho:(o.op,o.dst)=(.field t x ix,some d))(hx:jC e' x=some (.g cs))(hr:a91 b F.offset sz cs=some r)(hz:(!b || Nat.ble (F.offset+sz) cs.length)=true)
  (kk:W (G (.mk P T hT n c B0 N X Q) K' m' ((d,r) :: e') L' cf2) q F0):W (G (.mk P T hT n c B0 N X Q) K m e L cf) q F0:=fun hF=>
 pu hs (congrArg Prod.snd ho) (fun B a w hA _=>by
  obtain⟨v,h1,h2⟩:=fL hA hx;simp only[fF,gV] at h1;split at h1
  case h_2=>cases h1
  rename_i vs hv;cases h1;have hlen:=lL hv;have h0:o.op=.field t x ix:=congrArg Prod.fst ho;have hag:=hT.agg _ _ hl;have hsz:=hT.size _ _ hl;cases b with
  | true =>
   have hz':=LA (by simpa using hz);simp only[a91] at hr;cases hr;refine⟨.agg ((vs.drop F.offset).take sz).toArray,by grind[fF,gV,P7,P6],fun _ a hA=>?_⟩;have e:vs.toArray.extract F.offset (F.offset+sz)=((vs.drop F.offset).take sz).toArray:=by simp
   simp[execOp,h0,hA.eval h2,Instr.field,run_underlying hu,hf,part,asAgg,hag,hsz,e]
  | false =>
   simp only[a91] at hr;split at hr
   case h_2=>cases hr
   rename_i y hy;obtain⟨u,h4,h5⟩:=P5 hv hy;have hr':r=y:=by grind
   subst hr';refine⟨u,aUJ h4,fun _ a hA=>?_⟩;simp[execOp,h0,hA.eval h2,Instr.field,run_underlying hu,hf,part,asAgg,hag,h5]) (kk hF)
end
end Go.Gv
end
noncomputable section
namespace Go.Gv
noncomputable section
variable {n:Nat} {c:Ctx} {B0:Bl} {m:Nat} {e:SE} {L:List Ch}
def kf(L xs:List Ch)(k:Nat):List Nat->List Ch
 | []=>[]
 | i :: is => match Nat.blt i k with
  | true => match L[i]? with
   | some x=>x :: kf L xs k is
   | none=>kf L xs k is
  | false => match xs[i - k]? with
   | some x=>x :: kf L xs k is
   | none=>kf L xs k is
end
end Go.Gv
end
noncomputable section
namespace Go.Gv
noncomputable section
variable {P:Program} {T:TT} {hT:GP P T} {n:Nat} {c:Ctx} {B0:Bl} {N:Act->World->Prop} {X:Nat->Act->World->Prop} {Q:Act->World->Prop} {K K':List Fr} {m m':Nat} {e e':SE} {L L' Lv:List Ch} {cf cf' cf1 cf2:vT} {o:Oper}
theorem aPO{α β:Type}{f:α->Option β}:∀{xs ys:List α} {vs:List β},aU f (xs++ys)=some vs->∃v1 v2,aU f xs=some v1/\aU f ys=some v2/\vs=v1++v2
 | [],ys,vs,h=>⟨[],vs,rfl,h,rfl⟩
 | x :: xs, ys, vs, h => by
  simp only[UG,aU] at h;split at h
  ·cases h
  ·rename_i h1;split at h
   ·cases h
   ·rename_i h2;cases h;obtain⟨v1,v2,q1,q2,rfl⟩:=aPO h2;grind[aU]
theorem aPP{α β:Type}{f:α->Option β}:∀{xs ys:List α} {v1 v2:List β},aU f xs=some v1->aU f ys=some v2->aU f (xs++ys)=some (v1++v2)
 | [],ys,v1,v2,h1,h2=>by cases h1;exact h2
 | x :: xs, ys, v1, v2, h1, h2 => by
  simp only[aU] at h1;split at h1
  ·cases h1
  ·rename_i g1;split at h1
   ·cases h1
   ·rename_i g2;cases h1;simp[aU,g1,aPP g2 h2]
theorem bEH{α β:Type}{iR:aJ α}{C:FH α}{sr:β->SV}{g:FuncId}{κ:Ctx}{b1:Nat×Nat}{c1:List SV}{p:α->Option β}(hc:∀args w,(callFunc g args).run P w=.ok (.enter g args) w)(hB:∀w1,eI κ.W κ.w0 w1->mN (b9 w1) w1 [b1] [.ro 0 c1])
  (hn:∀{w1 x y},C.sub (PW w1) w1 x y->VS P (b9 w1) g (p x) [C.sv x y,.p 0 0] [b1] [.ro 0 c1] (fun r (_:Unit)=>sr r) (fun _ _=>[])) (hz:∀q,xI 0 (sr q)=true:=by exact fun _=>rfl):XL P κ C sr g (QA [b1]) p:=
 ⟨hc,fun w1 hk x y hy q hq v hv=>by
  have hv':fF [b1] (C.sv x y)=some v:=by simpa using vB (B:=[]) [b1] hv
  have hl:fF [b1] (.p 0 0)=some (.pointer (some ⟨b1.1,b1.2,none⟩)):=by simp[fF,gV,bR]
  refine Calls.mono ((hn hy _ hq).run (v :: QA [b1]) (by grind[aU,QA]) (hB w1 hk)) fun en w' ⟨v',h1,y',h2,h3⟩=>⟨v',h1,?_,?_⟩
  ·grind[aLV]
  ·simpa using aAE (m:=0) h3 rfl⟩
theorem bEI{α β ex:Type}{fo:Option α}{kf:α->Option β}{q:β}{d:Option Nat}{f g:FuncId}{xs xs0:List SV}{M:List Ch}{sv:α->ex->SV}{Lr:α->ex->List Ch}{n1:Nat}{c1:List SV}(jc:Nat)(is:List Nat)
  (hs:cpS (kO T n K cf m e L)=some (o,d,f,xs,cf1,cf2,K',m',e',L')) (hro:L'[jc]?=some (.ro n1 c1)) (hi:aU (fun i=>L'[i]?) is=some M) (hxl:xs=xs.dropLast ++ [.f g [n1]]) (hx:aU (rnP [] 0) xs.dropLast=some xs0)
  (hk:(xI.okC 0 c1 && (HT M && (dI is && is.all fun j=>gL j cf1.yT)))=true)
  (hc:∀{κ:Ctx},HG c κ L' is->∀{b1:Nat×Nat},(∀w1,eI κ.W κ.w0 w1->mN (b9 w1) w1 [b1] [.ro 0 c1])->VS P κ f fo (xs0 ++ [.k (.func (.func g) #[] (QA [b1]).toArray)]) [] M sv Lr)
  (k:∀x,∀y:ex,W (G (.mk P T hT n c B0 N X Q) K' m' (dse d (sv x y) e') (IX L' is++Lr x y) cf2) q (kf x)) (hn:∀x y,(HT (Lr x y) && xI 0 (sv x y))=true:=by exact fun _ _=>rfl):W (G (.mk P T hT n c B0 N X Q) K m e L cf) q (fo.bind kf):=fun hF=>by
 refine iJ (g:=.mk P T hT n c B0 N X Q) (a07 hs ?_);intro fo' args ats ho hd hf ⟨ys,hys,hxs⟩ hdn hE;simp only[BN] at hk hn;obtain⟨hk1,hkM,hka,hkz⟩:=hk;cases hfo:fo with
 | none=>grind
 | some x =>
  rw[hfo] at hF;refine hE ex (fun _=>m') (fun y=>dse d (sv x y) e') (fun y=>IX L' is++Lr x y) (fun y=>RM _ hkz) (fun B a w next Q' hm hA hS hnext=>?_) (fun y=>k x y hF);generalize hBB:Y2 (.mk P T hT n c B0 N X Q) cf1++B=BB at hm hA hS hnext;obtain⟨⟨R,s1,s2⟩,s0⟩:=hS;have f1:=s1.front is hka;rw[NF hi] at f1;obtain⟨κ,k1,k2,k3,k4,k5,k6,k7⟩:=f1.a8D s0;subst k1;have hHG:HG c κ L' is:=by
   refine⟨fun{α} _ {s d} h=>k4 (BO [s.v d.length] d) h,fun{α} _ {s d} i hi hj=>?_,fun{α} _ {s d} i hi=>k5 _ (s2 _ (yI hi))⟩;have:(blank (L'.map (lD BB)) is)[i]?=some (bH [s.v d.length] d):=by rw[aCJ (aCQ hj),HP,hi];rfl
   exact k6 _ (yI this) (BO [s.v d.length] d) fun w F h=>aJ.own_rd h
  obtain⟨b,z,vs1,g1,g2,g3⟩:=s2 _ (yI hro);have hc0:=AN hk1 g2;rw[List.take_zero] at hc0;have hB:∀w1,eI κ.W κ.w0 w1->mN (b9 w1) w1 [(b,z)] [.ro 0 c1]:=fun w1 hkp=>by have h1:=k5 _ g3;have h2:(fAt b z vs1).P κ.S0 w1:=(fAt b z vs1).agree h1 fun b' o' hS=>hkp.cell b' o' (k2 b' o' hS) fun hw=>k3.apart b' o' hw hS;have h3:(fAt b z vs1).P (PW w1) w1:=(fAt b z vs1).mono h2 fun b' o' hS=>PU (k2 b' o' hS) hkp.size;have h4:St (b9 w1) w1 [] [fAt b z vs1]:=St.enter (by grind);refine⟨⟨[fAt b z vs1],St.more (ch:=JQ) h4 (eI.refl _ _) ⟨F0,fun _ _ h=>h,fun _ _ h=>h.elim⟩,fun x hx=>?_⟩,fun _ _ h=>h⟩;simp at hx;subst hx;exact⟨b,z,vs1,by simp,eS (fun x v h=>by simpa using gC (B:=[]) _ h) hc0,by simp⟩
  obtain⟨hcall,hrun⟩:=hc hHG hB x hfo;obtain⟨vs,h1,h2⟩:=YB hA hys;obtain⟨v,h3,h4⟩:=fL hA hf;simp[fF,aU] at h3;subst h3;have h1':aU (fF BB) xs=some vs:=by grind[NB]
  have hvs:aU (fF []) (xs0 ++ [.k (.func (.func g) #[] (QA [(b,z)]).toArray)])=some vs:=by rw[hxl] at h1';obtain⟨va,vb,q1,q2,rfl⟩:=aPO h1';have q3:=aNG (Bs:=[]) (ps:=[]) (ds:=[]) (pv:=[]) (L:=L') (B:=BB) trivial (fun i=>by simp[blP]) hx q1;simp only[aU,fF,gV,T3,g1] at q2;cases q2;exact aPP q3 (by simp[aU,fF,gV,bR,QA];rfl)
  have hst:mN κ κ.w0 [] M:=by
   refine⟨⟨[],?_,fun x hx=>?_⟩,k2⟩
   ·rw[UP (B':=BB) hkM];exact k3
   ·exact UQ hkM x hx
  have h5:=hrun vs hvs hst;have h6:=P9 (w:=κ.w0) hcall ho h4 h2;unfold Oper.wp;rw[h6 _ a hA.env,Oper.upon_enter];refine Calls.mono h5 fun en w' ⟨v,hv,y,g1,g2⟩=>?_;subst hv;obtain⟨n3,n4⟩:=hn x y;have g3:=vB BB (aLV n4 g1);rw[aG3] at g3;obtain⟨⟨R',t1,t2⟩,t0⟩:=g2;have t3:St κ w' ((Lr x y).map (lD BB)) R':=by grind[UP]
  have t4:=k7 w' _ R' t3;have t6:mN c w' BB (IX L' is++Lr x y):=by
   refine⟨⟨R,?_,fun z hz=>?_⟩,s0⟩
   ·rw[uX,GQ];exact t4.rot
   ·rcases fB.1 hz with hz | hz
    ·rcases ND _ _ hz with hz | hz
     ·grind
     ·subst hz;trivial
    grind[UQ]
  rw[hd];cases d with
  | none=>exact hnext y _ _ ⟨[],by grind,by grind[dse,Act.put],by grind⟩
  | some d=>exact hnext y _ _ ⟨[],by grind,by simpa[dse] using hA.of g3 (hA.env.put (by grind[qT,vV]) v),by grind⟩
end
end Go.Gv
end
noncomputable section
namespace Go.Gv
def CZ(l:List Int):List Int:=l.foldl (fun a x=>if a.getLast?=some x then a else a ++ [x]) []
theorem aCR(l:List Int)(x:Int):CZ (l ++ [x])=if(CZ l).getLast?=some x then CZ l else CZ l ++ [x]:=by unfold CZ;rw[List.foldl_append];rfl
theorem aXA:∀(l:List Int),(CZ l).getLast?=l.getLast?:=by
 intro l;rcases Z2 l with rfl | ⟨l,x,rfl⟩
 ·rfl
 ·rw[aGY,aCR];split
  ·rename_i h;rw[h];simp
  ·simp
theorem a51(l:List Int):(CZ l).length<=l.length:=by
 suffices h:∀(l a:List Int),(l.foldl (fun a x=>if a.getLast?=some x then a else a ++ [x]) a).length<=a.length+l.length by have:=h l [];rw[List.length_nil,YA] at this;exact this
 intro l;induction l with
 | nil=>intro a;simp
 | cons x l ih =>
  intro a;rw[List.foldl_cons];refine tN (ih _) ?_;split
  ·simp
  ·simp;omega
def slices_Compact_int(s:List Int):Option (List Int):=some (CZ s)
end Go.Gv
end
