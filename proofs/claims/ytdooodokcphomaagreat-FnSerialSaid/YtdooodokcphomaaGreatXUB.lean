import Derived.Test.YtdooodokcphomaaGreatXUA
set_option linter.unusedVariables false
set_option linter.unusedSimpArgs false
set_option linter.unusedSectionVars false
set_option linter.constructorNameAsVariable false
set_option linter.unnecessarySimpa false
set_option linter.defProp false
noncomputable section
namespace Go.Gv
variable{t:TypeId}
section
variable {P:Program} {T:TT} {n:Nat} {B:Bl} {e:SE} {a:Act} {o:Oper} {w w':World} {x y:Operand} {c:Ctx} {L:ao}
theorem aHD{ops:br}(h:GL ops e o.guard=.yes):Want ops o (vE B e) true:=by
 unfold GL at h;split at h
 .exact a2I (by assumption)
 .rename_i j w i;split at h
  .rename_i q f;split at h
   .rename_i s d;have g:(ops[j]?).bind (·.dst)=some s:=by rw[<-Array.getElem?_toList,f];exact d
    split at h
    .rename_i c hl;have b:lk (vE B e) s=some (.bool c):=by rw[aRL hl];rfl
     refine a8K i g b ?_;split at h<;>first|rfl|cases h
    all_goals cases h
   .cases h
  .cases h
theorem bOK{ops:br}(h:GL ops e o.guard=.no):Want ops o (vE B e) false:=by
 unfold GL at h;split at h
 .cases h
 .rename_i j w d;split at h
  .rename_i q i;split at h
   .rename_i s g;have b:(ops[j]?).bind (·.dst)=some s:=by rw[<-Array.getElem?_toList,i];exact g
    split at h
    .rename_i c hl;have f:lk (vE B e) s=some (.bool c):=by rw[aRL hl];rfl
     refine a8K d b f ?_;cases c<;>cases w<;>first|rfl|cases h
    .rename_i hl;exact bKM d b (by rw[aRL hl];rfl)
    all_goals cases h
   .cases h
  .cases h
theorem aRP{m:Nat}:∀{L:ao},XJ m L=true->∃i cs,L[i]?=some (.box m cs)/\LO m L=some cs/\∀d,vN m d L=L.set i (.box m d)
 |[],h=>by cases h
 |x::L,h=>by
  have j:XJ m L=true->LO m (x::L)=LO m L->(∀d,vN m d (x::L)=x::vN m d L)->∃i cs,(x::L)[i]?=some (.box m cs)/\LO m (x::L)=some cs/\∀d,vN m d (x::L)=(x::L).set i (.box m d):=λh p r=>by obtain⟨i,cs,t,q,s⟩:=aRP h;exact⟨i+1,cs,aj,by rw[p,q],λd=>aj⟩
  cases x with
  |box k cs=>
   simp only[XJ] at h;split at h
   .rename_i l;have:=qN l;subst this;exact⟨0,cs,rfl,by grind[LO],λd=>by grind[vN]⟩
   grind[LO,vN]
  |ro k cs=>
   grind[XJ,LO,vN]
  |o ch=>exact j h rfl (λ_=>rfl)
  |f g=>exact j h rfl (λ_=>rfl)
  |no=>exact j h rfl (λ_=>rfl)
  |w k b z=>exact j h rfl (λ_=>rfl)
theorem aYA(hT:IC P T)(K:iC n B e a)(J:lS c w B L){p v:SV}{L':ao}(ho:o.op=.store t x y)(hx:jA e x=some p)(hy:jA e y=some v)(h:Y2 T t p v L=some L'):∃w',bSL P o (vE B e) w w'/\lS c w' B L':=by
 unfold Y2 at h;split at h
 .rename_i m j;split at h
  .rename_i hb;split at h
   .rename_i cs _ _ sz _ O h2;split at h
    .rename_i h3 N M;split at h
     case h_2=>cases h
     rename_i ds C;have N:=qN N;have M:=XF M;have:=Y4 C;rw[aRM _ _ _ aa] at this;subst this;split at h
     case h_2=>cases h
     rename_i L2 D;cases h;have:=Y4 D;subst this;obtain⟨i,cs',U,S,Q⟩:=aRP hb;rw[O] at S;cases S;obtain⟨pv,g,s⟩:=eV K hx;obtain⟨u,f,r⟩:=eV K hy;obtain⟨vs,l⟩:=aHC h3 f;obtain⟨b,z,E,I,H,_⟩:=J.cells O;simp only[fS,gV,bT,I] at g;cases g;have hl:=mE l;have Z:=mE H;obtain⟨⟨R,s1,s2⟩,s0⟩:=J;have Y:=(DZ.1 U).1;have gi:(L.map (l5 B))[i]?=some (Y3 B m cs):=by rw[D0,U];rfl
     have s3:St c w ((L.map (l5 B)).set i (cAt b z E)) R:=s1.imp (kC.put i gi λF ⟨b',z',V,q1,q2,q3⟩=>by
      grind)
     obtain⟨w2,r1,G⟩:=bSO (P:=P) (o:=o) (e:=vE B e) (b:=b) (q:=z) (cs:=E) (vs:=vs) (j:=j) (m:=sz) s3 (i:=i) aj ho s r (XP f l) (hT.size _ _ h2) aa (Nat.ble_eq_true_of_le aa) (aF4.2 λq d=>by
      obtain⟨k,hk⟩:=aMZ d;have A:k<(pN v).length:=aj
      obtain⟨q',X,W⟩:=XM l (iS A);grind[aRK])
     refine⟨w2,r1,⟨⟨R,?_,?_⟩,s0⟩⟩
     .rw[a2E] at G;rw[Q,PX];exact G.imp (kC.set i (kC.refl _) λF hF=>⟨b,z,_,I,aIT j H l,hF⟩)
     .rw[Q];intro q d;obtain d|d:=tD d
      .grind
      .subst d;trivial
    .cases h
   .cases h
  .cases h
 .cases h
theorem lS.box(g:lS c w B L){w':World}{b:Nat}{cs:au}{vs:ar}(hc:aV (bT B) cs=some vs)(h:∀M R,St c w M R->St c w' (M++[bKL b vs]) R):lS c w' (B++[(b,0)]) (L++[.box B.length cs]):=by
 obtain⟨⟨R,f,j⟩,s0⟩:=g;refine⟨⟨R,?_,?_⟩,s0⟩
 .rw[vC];refine(h _ _ f).imp (kC.append (aEX _ L) (.cons (λF i=>⟨b,0,vs,ae,fL (λ_ _=>gR _) hc,i⟩) .nil))
 .intro q d;obtain d|d:=dR.1 d
  .grind[aZX]
  .simp at d;subst d;trivial
theorem bFF(hT:IC P T)(g:lS c w B L){i:TI}{E:Env}(ho:o.op=.alloc t)(h:zS T t=some i):∃v w' b,fH P o E w v w'/\v=.pointer (some ⟨b,0,none⟩)/\lS c w' (B++[(b,0)]) (L++[.box B.length i.z]):=by obtain⟨z,hz,f⟩:=hT.zero _ _ h;have d:aV (bT B) i.z=some z.cells.toList:=fL (λx v h=>by simpa using gR (B:=[]) B h) f;refine⟨_,_,w.heap.size,λ_ a k=>?_,rfl,g.box d λM R j=>j.alloc z.cells.toList t⟩;simp_all[execOp,Instr.alloc,newVar,newRow]
theorem bQC(d:iC n B e a)(i:lS c w B L){v:SV}(ho:o.op=.box t x)(h:jA e x=some v)(hc:isCells v=true):∃u w' b,fH P o (vE B e) w u w'/\u=.pointer (some ⟨b,0,none⟩)/\lS c w' (B++[(b,0)]) (L++[.box B.length (pN v)]):=by obtain⟨u,g,l⟩:=eV d h;obtain⟨vs,f⟩:=aHC hc g;have k:=XP g f;subst k;refine⟨_,_,w.heap.size,λ_ a d=>?_,rfl,i.box f λM R j=>j.alloc u.cells.toList t⟩;simp[execOp,ho,Instr.box,d.eval l,newVar,newRow]
end
structure Gx where
 P:Program
 T:TT
 hT:IC P T
 n:Nat
 c:Ctx
 B0:Bl
 N:Act->World->Prop
 X:Nat->Act->World->Prop
 Q:Act->World->Prop
abbrev Rel(g:Gx)(m:Nat)(e:SE)(L:ao)(a:Act)(w:World):Prop:=qQ g.n g.c g.B0 m e L a w
mutual
def NK(g:Gx):bg->Act->World->Prop
 |[]=>g.N
 |.s y::K=>λa w=>CW g.P y (NK g K) (XK g K) g.Q a w
 |.k _::K=>NK g K
def XK(g:Gx):bg->Nat->Act->World->Prop
 |[]=>g.X
 |.s _::K=>XK g K
 |.k id::K=>aX4 id (NK g K) (XK g K)
end
structure aLA (g:Gx) (B1:Bl) (ops:br) (l:aF) (is:av) (Lf L:ao):Prop where
 pre:∃B,B1=g.B0++B
 len:l.length=ops.size
 free:a2P ops=true
 zU:kl L is=Lf
 rng:∀j∈is,j<L.length
 okf:okL B1.length Lf=true
 ap:dV is=true
abbrev Sd(g:Gx)(B1:Bl)(Lf:ao):World->Prop:=λw=>lS g.c w B1 Lf
def bST(g:Gx)(B1:Bl)(Lf Lv:ao)(m:Nat)(e:SE)(L:ao)(a:Act)(w:World):Prop:=∃B,(B1++B).length=m/\iC g.n (B1++B) e a/\lS g.c w (B1++B) L/\∀w',lS g.c w' B1 Lf->lS g.c w' (B1++B) Lv
def G(g:Gx)(K:bg)(m:Nat)(e:SE)(L:ao):wV->Prop
 |.n=>∀a w,Rel g m e L a w->NK g K a w
 |.c x=>∀a w,Rel g m e L a w->CW g.P x (NK g K) (XK g K) g.Q a w
 |.r ops l=>∀a w,Rel g m e L a w->wpList g.P ops (mkQ (NK g K) (XK g K) g.Q) l a w
 |.d B1 ops l is Lf Lv=>aLA g B1 ops l is Lf L->∀a w,bST g B1 Lf Lv m e L a w->wpAnyH g.P .any ops (mkQ (NK g K) (XK g K) g.Q) (Sd g B1 Lf) (l.count false) l.toArray a w
 |.o B1 ops l is Lf Lv i=>aLA g B1 ops l is Lf L->∀a w,bST g B1 Lf Lv m e L a w->wpOp g.P ops (mkQ (NK g K) (XK g K) g.Q) i (λb w'=>Sd g B1 Lf w'/\wpAnyH g.P .any ops (mkQ (NK g K) (XK g K) g.Q) (Sd g B1 Lf) ((l.set i true).count false) (l.set i true).toArray b w') a w
def B0S(g:Gx):wV->Bl
 |.d B1 _ _ _ _ _=>B1
 |.o B1 _ _ _ _ _ _=>B1
 |_=>g.B0
def Frz(g:Gx)(cf:wV)(L L':ao):Prop:=match cf with
 |.d B1 ops l is Lf _=>aLA g B1 ops l is Lf L->kl L' is=Lf/\∀j∈is,j<L'.length
 |.o B1 ops l is Lf _ _=>aLA g B1 ops l is Lf L->kl L' is=Lf/\∀j∈is,j<L'.length
 |_=>True
def aIX(g:Gx)(K:bg)(m:Nat)(e:SE)(L:ao)(o:Oper)(Lv:ao)(cf cf':wV):Prop:=
 ∀(d:Nat) (x:SV) (b:ao) (nb:World->Bl) (k:Nat),o.dst=some d->(∀w,(nb w).length=k) ->
  (∀B a w,iC g.n B e a->lS g.c w B Lv->B.length=m->∃v,fS (B++nb g.c.w0) x=some v/\fH g.P o (vE B e) w v w) ->
  (∀B w L,B.length=m->lS g.c w B L->lS g.c w (B++nb g.c.w0) (L++b)) ->
  G g K (m+k) ((d,x)::e) (L++b) (cf'.ext b)->G g K m e L cf
def aM5(g:Gx)(K:bg)(m:Nat)(e:SE)(L:ao)(o:Oper)(cf cf':wV):Prop:=
 ∀(ι:Type) (m':ι->Nat) (c:ι->SE) (b:ι->ao),(∀i,Frz g cf L (b i)) ->
  (∀B a w (next:Act->World->Prop) (Q:Exit->Act->World->Prop),(B0S g cf++B).length=m->iC g.n (B0S g cf++B) e a->lS g.c w (B0S g cf++B) L->(∀i d w',qQ g.n g.c (B0S g cf++B) (m' i) (c i) (b i) d w'->next d w')->o.wp g.P a w next Q) ->
  (∀i,G g K (m' i) (c i) (b i) cf')->G g K m e L cf
def Gs(g:Gx):Stop->Prop
 |.ret m e L=>∀a w,Rel g m e L a w->g.Q a w
 |.fin m e L=>∀a w,Rel g m e L a w->g.N a w
 |.ex id m e L=>∀a w,Rel g m e L a w->g.X id a w
 |.cond o b x y K m e L=>jA e o=some (.b b)->G g K m e L (.c (.cond o x y))
 |.case _ cf K m e L=>G g K m e L cf
 |.loop id y K m e L=>G g K m e L (.c (.block id (.loop y)))
 |.idx o d t s n i Lv cf cf' K m e L=>(∀x y,o.op=.indexAddr t x y->o.dst=some d->jA e x=some (.h s n)->jA e y=some (.i .i64 i)->aIX g K m e L o Lv cf cf'->G g K m e L cf)
 |.call o d f xs cf cf' K m e L=>(∀j args c,o.op=.call {callee:=.value j,args:=args,argTypes:=c}->o.dst=d->jA e j=some (.f f [])->(∃h,aV (jA e) args.toList=some h/\nbA h=xs)->okA xs=true->sH g.n d=true->aM5 g K m e L o cf cf'->G g K m e L cf)
 |.callp o d f xs cf cf' K m e L=>(∀j args c,o.op=.call {callee:=.value j,args:=args,argTypes:=c}->o.dst=d->jA e j=some (.f f [])->(∃h,aV (jA e) args.toList=some h/\nbA h=xs)->sH g.n d=true->aM5 g K m e L o cf cf'->G g K m e L cf)
 |.op o Lv cf cf' K m e L=>sH g.n o.dst=true->aIX g K m e L o Lv cf cf'->aM5 g K m e L o cf cf'->G g K m e L cf
 |.opp o Lv cf cf' K m e L=>sH g.n o.dst=true->aIX g K m e L o Lv cf cf'->G g K m e L cf
 |.rgn id ops K m e L=>G g K m e L (.c (.region id ops true))
 |.alt cf K m e L=>G g K m e L cf
 |.stuck=>False
section
variable {g:Gx} {K:bg} {m:Nat} {e:SE} {L:ao}
theorem bOL{a:Act}{w:World}:∀{K:bg},(match pop K with|some (y,b)=>CW g.P y (NK g b) (XK g b) g.Q a w|none=>g.N a w)->NK g K a w
 |[],h=>by simpa[pop,NK] using h
 |.s y::K,h=>by simpa[pop,NK] using h
 |.k _::K,h=>by have:NK g K a w:=bOL (by grind[pop]);simp_all[NK]
theorem bFG{a:Act}{w:World}{id:Nat}:∀{K:bg},(match xit id K with|some c=>NK g c a w|none=>g.X id a w)->XK g K id a w
 |[],h=>by simpa[xit,XK] using h
 |.s y::K,h=>by have:XK g K id a w:=bFG (by grind[xit]);simp_all[XK]
 |.k j::K,h=>by
  simp only[xit] at h;simp only[XK,aX4];cases b:Nat.beq id j with
  |true=>
   simp_all
  |false=>
   rw[b] at h;rw[aO (λe=>by simp_all)];exact bFG h
theorem a85{F:Nat}(i:∀K c m e L,Gs g (stp g.T g.n F K c m e L)->G g K m e L c)(h:Gs g (match pop K with|some (y,f)=>stp g.T g.n F f (.c y) m e L|none=>.fin m e L)):∀a w,Rel g m e L a w->NK g K a w:=λa w d=>by
 refine bOL ?_;split
 .rename_i y f b;rw[b] at h;exact i _ _ _ _ _ h a w d
 .rename_i b;rw[b] at h;exact h a w d
theorem iC.ext{n:Nat}{B nb:Bl}{a a':Act}{d:Nat}{x:SV}{v:Value}(f:iC n B e a)(h:fS (B++nb) x=some v)(b:O2 n ((d,v)::vE B e) a'):iC n (B++nb) ((d,x)::e) a':=by
 refine(f.app nb).of h ⟨b.d,b.size,λk u hk=>?_⟩;simp only[lk] at hk;cases c:Nat.beq k d with
 |true=>rw[c] at hk;exact b.get k u (by grind[lk])
 |false=>
  rw[c] at hk;obtain⟨y,l,j⟩:=bE6 hk;obtain⟨u2,i,o⟩:=f.get k y l;rw[y7 nb i] at j;refine b.get k u ?_;grind[lk,aRL]
theorem bK9{ops:br}{l:cn}{o:Oper}(j:GL ops e o.guard=.yes)(h:sH g.n o.dst=true):aIX g K m e L o L (.r ops (o::l)) (.r ops l):=by
 intro d x u nb k b hk i t p a w ⟨B,hm,f,n⟩;obtain⟨v,r,q⟩:=i _ a w f n hm;rw[b] at h;refine bOD q (aHD j) b h (λs c=>p s w ⟨B++nb g.c.w0,?_,?_,?_⟩) a f.env
 .grind
 .rw[<-qM];exact f.ext r c
 grind
theorem a86{ops:br}{l:cn}{o:Oper}(h:GL ops e o.guard=.yes):aM5 g K m e L o (.r ops (o::l)) (.r ops l):=by intro ι m' u v _ b n a w f;have ⟨B,hm,c,j⟩:=f;refine wpList_step λs k=>?_;rw[aHD h _ a c.env,aM rfl];exact b B a w s _ hm c j (λi d w' ⟨t,r,q,p⟩=>k d w' (n i d w' ⟨B++t,by rw[<-qM];exact r,by rw[<-qM];exact q,by rw[<-qM];exact p⟩))
theorem aLA.S{B1:Bl}{ops:br}{l:aF}{is:av}{Lf:ao}(h:aLA g B1 ops l is Lf L){w:World}{B:Bl}(b:lS g.c w (B1++B) L):lS g.c w B1 Lf:=by have a:=bFE b is h.ap;rw[h.zU] at a;have c:=aIW a h.okf;grind
theorem aLB{d:Edge}:Region.binds .any d=bE2 d.ground:=by
 cases d with
 |mk on g=>cases g<;>rfl
theorem aP3{l:aF}:∀{es:List Edge},VX l es=true↔∀d∈es,Region.binds .any d=true->l[d.on]?=some true
 |[]=>by simp[VX]
 |⟨on,c⟩::r=>by
  have b:=aP3 (l:=l) (es:=r);simp only[VX,lO,forall_eq_or_imp,aLB];cases f:bE2 c with
  |true=>
   simp only;split
   .rename_i a;rw[b];simp[a,aLB]
   .rename_i a;constructor
    .intro h;cases h
    .intro h;exact absurd (h.1 trivial) (by simpa using a)
  |false=>grind[aLB]
theorem aEY{ops:br}{l:aF}(hl:l.length=ops.size){j:Nat}:j∈Region.ready .any ops l.toArray↔l[j]?=some false/\∃o,ops.toList[j]?=some o/\VX l o.after.toList=true:=by
 rw[mem_ready];have c:(l.toArray.getD j true=false)↔l[j]?=some false:=by rw[Array.getD_eq_getD_getElem?,List.getElem?_toArray];grind
 rw[c];refine and_congr_right λ_=>?_;constructor
 .rintro⟨o,h,b⟩;refine⟨o,aj,aP3.2 λd f a=>?_⟩;have:=b d aj a;rw[Array.getD_eq_getD_getElem?,List.getElem?_toArray] at this;grind
 simp_all[aP3]
theorem aLC{i:Nat}:∀{es:List Edge},aHB i es=true↔∃d∈es,Region.binds .any d=true/\d.on=i
 |[]=>by simp[aHB]
 |⟨on,b⟩::r=>by
  have c:=aLC (i:=i) (es:=r);simp only[aHB,lO,exists_eq_or_imp,aLB];cases j:bE2 b with
  |true=>
   simp only;cases f:Nat.beq on i with
   |true=>simp_all
   |false=>
    simp only;have a:on≠i:=λh=>by simp_all
    grind[aLB]
  |false=>grind[aLB]
theorem bLA{ops:br}{l:aF}(hl:l.length=ops.size)(b:a2P ops=true){i:Nat}{o:Oper}(ho:ops.toList[i]?=some o)(r:VX l o.after.toList=true):Region.noSelect ops=true/\Region.free .any ops l.toArray i=true:=by
 unfold a2P at b;rw[yV,aF4] at b;refine⟨b.1,?_⟩;unfold Region.free;have f:ops[i]?=some o:=aj
 rw[f];simp only[aF4,List.mem_range];intro j h;have c:ops[j]?=some ops[j]:=by simp[h]
 rw[c];simp only[Bool.or_eq_true,beq_iff_eq];by_cases q:j=i
 .omega
 .have p:=b.2 (o,i) (List.mk_mem_zipIdx_iff_getElem?.2 ho);rw[aF4] at p;have a:=p (ops[j],j) (List.mk_mem_zipIdx_iff_getElem?.2 (by simp[h]));simp only[Bool.or_eq_true] at a;obtain((a|a)|a)|a:=a
  .simp_all
  .obtain⟨d,k,n,s⟩:=aLC.1 a;refine .inr (.inl ?_);rw[<-Array.any_toList,List.any_eq_true];grind
  .obtain⟨d,k,n,s⟩:=aLC.1 a;have:=aP3.1 r d k n;simp_all
  grind
theorem count_set{l:aF}:∀{i:Nat},l[i]?=some false->l.count false=(l.set i true).count false+1:=aj
theorem a58{B1:Bl}{ops:br}{l:aF}{is:av}{Lf:ao}{i:Nat}{o:Oper}{d:Nat}{v:Value}{a:Act}{w:World}{B:Bl}(c:aLA g B1 ops l is Lf L)(ho:ops.toList[i]?=some o)(hl:l[i]?=some false)(q:VX l o.after.toList=true)(b:o.dst=some d)(s:Nat.blt d g.n=true)(f:iC g.n (B1++B) e a)(u:lS g.c w (B1++B) L)
  (t:(Want ops o (vE (B1++B) e) true/\∀w',Sd g B1 Lf w'->fH g.P o (vE (B1++B) e) w' v w')\/(Want ops o (vE (B1++B) e) false/\v=undef))
  (k:∀r,O2 g.n ((d,v)::vE (B1++B) e) r->wpAnyH g.P .any ops (mkQ (NK g K) (XK g K) g.Q) (Sd g B1 Lf) ((l.set i true).count false) (l.set i true).toArray r w):wpAnyH g.P .any ops (mkQ (NK g K) (XK g K) g.Q) (Sd g B1 Lf) (l.count false) l.toArray a w:=by
 obtain⟨y,x⟩:=bLA c.len c.free ho q;rw[count_set hl];refine wpAnyH_take (v:=v) (by simpa using ho) y x (by simpa using (aEY c.len).2 ⟨hl,o,ho,q⟩) (λ_ _ _ h=>h.elim) ?_ (c.S u) ?_
 .obtain⟨p,n⟩|⟨p,n⟩:=t
  .exact .inl ⟨p _ a f.env,λw' j=>n w' j _ a f.env⟩
  .exact .inr ⟨p _ a f.env,n⟩
 .rw[b];have:=k _ (f.env.put (by simp_all) v);grind
theorem aLA.set{B1:Bl}{ops:br}{l:aF}{is:av}{Lf L':ao}(h:aLA g B1 ops l is Lf L)(i:Nat)(hz:kl L' is=Lf/\∀j∈is,j<L'.length):aLA g B1 ops (l.set i true) is Lf L':=⟨h.pre,by simpa using h.len,h.free,hz.1,hz.2,h.okf,h.ap⟩
theorem bFH{L b:ao}:∀{is:av},(∀j∈is,j<L.length)->kl (L++b) is=kl L is
 |[],_=>rfl
 |i::is,h=>by simp only[kl,List.getElem?_append_left (h i ae),bFH (λj a=>h j (lZ _ a))]
theorem aLA.aRQ{B1:Bl}{ops:br}{l:aF}{is:av}{Lf:ao}(h:aLA g B1 ops l is Lf L)(a:ao):kl (L++a) is=Lf/\∀j∈is,j<(L++a).length:=⟨by rw[bFH h.rng];exact h.zU,λj b=>by have:=h.rng j b;simp;omega⟩
theorem bLB{B1:Bl}{ops:br}{l:aF}{is:av}{Lf Lv:ao}{i:Nat}{o:Oper}(ho:ops.toList[i]?=some o)(hl:l[i]?=some false)(y:VX l o.after.toList=true)(z:GL ops e o.guard=.yes)(s:sH g.n o.dst=true):aIX g K m e L o Lv (.d B1 ops l is Lf Lv) (.d B1 ops (l.set i true) is Lf Lv):=by
 intro d x E nb k b hk q r A f a w ⟨B,hm,h,p,n⟩;rw[b] at s;obtain⟨v,u,G⟩:=q _ a w h (n w (f.S p)) hm;refine a58 (v:=v) f ho hl y b s h p (.inl ⟨aHD z,λw' c=>?_⟩) λD j=>?_
 .obtain⟨F,t,C⟩:=q _ a w' h (n w' c) hm;rw[u] at t;cases t;exact C
 .refine A (f.set i (f.aRQ E)) D w ⟨B++nb g.c.w0,?_,?_,?_,λw' c=>?_⟩
  .rw[<-qM,H7,hm,hk]
  .rw[<-qM];exact h.ext u j
  .rw[<-qM];exact r _ w _ hm p
  .rw[<-qM];exact r _ w' _ hm (n w' c)
theorem a2S{l:aF}{i:Nat}:∀{os:cn} {j0:Nat},aM4 l i os j0=true->∀j o,os[j]?=some o->l[j0+j]?=some false->(VX l o.after.toList=true↔j0+j=i)
 |[],_,_,j,o,h,_=>by simp at h
 |p::os,j0,h,j,o,a,hl=>by
  simp only[aM4] at h;cases j with
  |zero=>
   simp at a;subst a;simp only[aAS] at hl ⊢;rw[hl] at h;simp only at h;cases c:Nat.beq j0 i with
   |true=>
    grind[qN]
   |false=>
    rw[c] at h;simp only at h;have b:j0≠i:=λh=>by simp_all
    grind
  |succ j=>
   have d:aM4 l i os (j0+1)=true:=aj
   have:=a2S d j o aj aj;grind
theorem bLC{B1:Bl}{ops:br}{l:aF}{is:av}{Lf Lv:ao}{i:Nat}{o:Oper}(ho:ops.toList[i]?=some o)(u:GL ops e o.guard=.yes):aM5 g K m e L o (.o B1 ops l is Lf Lv i) (.d B1 ops (l.set i true) is Lf Lv):=by
 intro ι m' C D hz b y n a w t;have ⟨B,hm,p,x,v⟩:=t;unfold wpOp;have d:ops[i]?=some o:=aj
 simp only[d,aHD u _ a p.env,bS];refine .inl (b B a w _ _ hm p x λj A w' h=>?_);have c:=n.set i (hz j n);obtain⟨f,s,r,k⟩:=h;refine⟨?_,?_⟩
 .refine c.S (B:=B++f) ?_;rw[<-qM];exact k
 .have:=y j c A w' ⟨B++f,by rw[<-qM];exact s,by rw[<-qM];exact r,by rw[<-qM];exact k,λq z=>by rw[<-qM];exact(v q z).app f⟩;omega
theorem bLD{B1:Bl}{ops:br}{l:aF}{is:av}{Lf Lv:ao}{i:Nat}{o:Oper}(ho:ops.toList[i]?=some o)(u:GL ops e o.guard=.yes)(r:sH g.n o.dst=true):aIX g K m e L o Lv (.o B1 ops l is Lf Lv i) (.d B1 ops (l.set i true) is Lf Lv):=by
 intro d x C nb k b hk t q y f a w ⟨B,hm,c,p,s⟩;rw[b] at r;obtain⟨v,A,z⟩:=t _ a w c (s w (f.S p)) hm;unfold wpOp;have h:ops[i]?=some o:=by simpa using ho
 simp only[h,aHD u _ a c.env,bS];refine .inl ?_;unfold Oper.wp;rw[z _ a c.env,Oper.upon_value,b];have n:=c.env.put (show d<g.n by simpa[sH,y5] using r) v;refine⟨f.S p,y (f.set i (f.aRQ C)) _ w ⟨B++nb g.c.w0,?_,?_,?_,λw' j=>?_⟩⟩
 .rw[<-qM,H7,hm,hk]
 .rw[<-qM];exact c.ext A n
 .rw[<-qM];exact q _ w _ hm p
 .rw[<-qM];exact q _ w' _ hm (s w' j)
theorem aYB{l:aF}{j:Nat}:∀{os:cn} {j0:Nat} {o:Oper},os[j]?=some o->l[j0+j]?=some false->VX l o.after.toList=true->j0+j∈zT l os j0:=by
 intro os;induction os generalizing j with
 |nil=>simp
 |cons p os a=>
  intro j0 o h hl b;cases j with
  |zero=>
   simp_all[zT]
  |succ j=>
   have c:=a (j:=j) (j0:=j0+1) (o:=o) aj aj b;grind[zT]
theorem bSU{B1:Bl}{ops:br}{l:aF}{is:av}{Lf Lv:ao}(d:∃i,i∈zT l ops.toList 0)(h:∀i∈zT l ops.toList 0,G g K m e L (.o B1 ops l is Lf Lv i))(b:∀i∈zT l ops.toList 0,l[i]?=some false/\∃o,ops.toList[i]?=some o/\VX l o.after.toList=true):G g K m e L (.d B1 ops l is Lf Lv):=by intro f a w s;obtain⟨n,c⟩:=d;obtain⟨k,r⟩:=b n c;have x:n∈Region.ready .any ops l.toArray:=(aEY f.len).2 ⟨k,r⟩;rw[count_set k];refine⟨λh=>aj,λj t=>?_⟩;obtain⟨z,p,v,u⟩:=(aEY f.len).1 t;have q:=aYB (j0:=0) v aj u;rw[aIN] at q;have y:=h j q f a w s;grind
theorem aRR{l:aF}{i:Nat}:∀{os:cn} {j0:Nat},i∈zT l os j0->l[i]?=some false/\∃j o,os[j]?=some o/\j0+j=i/\VX l o.after.toList=true:=by
 intro os;induction os with
 |nil=>intro j0 h;cases h
 |cons p os a=>
  intro j0 h;have tail:i∈zT l os (j0+1)->l[i]?=some false/\∃j o,(p::os)[j]?=some o/\j0+j=i/\VX l o.after.toList=true:=λh=>by obtain⟨c,j,o,k,f,b⟩:=a h;exact⟨c,j+1,o,aj,aa,b⟩
  simp only[zT] at h;split at h
  .rename_i hl;split at h
   .rename_i d;obtain h|h:=lO.1 h
    .subst h;grind
    grind
   grind
  grind
theorem bFI{B1:Bl}{ops:br}{l:aF}{is:av}{Lf Lv:ao}{a:Nat}{r:av}(c:zT l ops.toList 0=a::r)(h:∀i∈a::r,G g K m e L (.o B1 ops l is Lf Lv i)):G g K m e L (.d B1 ops l is Lf Lv):=bSU ⟨a,aj⟩ (λi b=>h i aj) λi b=>by obtain⟨n,j,o,k,f,d⟩:=aRR b;grind
theorem bLE{l:aF}{i:Nat}{ops:br}(h:aM4 l i ops.toList 0=true):∀j∈zT l ops.toList 0,j=i:=λj a=>by obtain⟨f,k,o,d,b,c⟩:=aRR a;rw[aIN] at b;grind[a2S]
def PsG(g:Gx)(K:bg)(m:Nat)(L:ao)(B1:Bl)(ops:br)(is:av)(Lf Lv:ao):Ps->Prop
 |.bad=>False
 |.ask _ l e=>G g K m e L (.d B1 ops l is Lf Lv)
 |.pur j o l e=>ops.toList[j]?=some o->l[j]?=some false->VX l o.after.toList=true->GL ops e o.guard=.yes->G g K m e L (.d B1 ops l is Lf Lv)
 |.fin l e _=>G g K m e L (.d B1 ops l is Lf Lv)
theorem aEZ{B1:Bl}{ops:br}{is:av}{Lf Lv:ao}:∀(r:cn) (i:Nat) (l:aF) (e:SE) (q:List (Nat×Oper)),(∀j,r[j]?=ops.toList[i+j]?) ->
  PsG g K m L B1 ops is Lf Lv (pass g.T g.n ops Lv r i l e q)->G g K m e L (.d B1 ops l is Lf Lv)
 |[],i,l,e,q,H,h=>by unfold pass at h;exact h
 |o::r,i,l,e,q,H,h=>by
  have ho:ops.toList[i]?=some o:=by have:=H 0;grind
  have n:∀j,r[j]?=ops.toList[i+1+j]?:=λj=>by have:=H (j+1);grind
  unfold pass at h;cases hl:l[i]? with
  |none=>simp only[hl] at h;exact h.elim
  |some b=>
   cases b with
   |true=>simp only[hl] at h;exact aEZ r (i+1) l e q n h
   |false=>
    cases f:VX l o.after.toList with
    |false=>simp only[hl,f] at h;exact aEZ r (i+1) l e q n h
    |true=>
     cases k:GL ops e o.guard with
     |bad=>simp only[hl,f,k] at h;exact h.elim
     |ask c=>simp only[hl,f,k] at h;exact h
     |no=>
      cases s:o.dst with
      |none=>simp only[hl,f,k,s] at h;exact h.elim
      |some d=>
       cases z:Nat.blt d g.n with
       |false=>simp only[hl,f,k,s,z] at h;exact h.elim
       |true=>
        simp only[hl,f,k,s,z] at h;have F:=aEZ r (i+1) _ _ q n h;intro p a w ⟨B,hm,A,C,D⟩;refine a58 (v:=undef) p ho hl f s z A C (.inr ⟨bOK k,rfl⟩) λI t=>?_;exact F (p.set i ⟨p.zU,p.rng⟩) I w ⟨B,hm,A.of (x:=.u) rfl t,C,D⟩
     |yes=>
      cases y:ev1 g.T e Lv o.op with
      |some v=>
       cases s:o.dst with
       |none=>simp only[hl,f,k,y,s] at h;exact h.elim
       |some d=>
        cases z:Nat.blt d g.n with
        |false=>simp only[hl,f,k,y,s,z] at h;exact h.elim
        |true=>
         simp only[hl,f,k,y,s,z] at h;have F:=aEZ r (i+1) _ _ q n h;intro p a w ⟨B,hm,A,C,D⟩;obtain⟨u,M,Q⟩:=aZZ g.hT A (D w (p.S C)) y;refine a58 (v:=u) p ho hl f s z A C (.inl ⟨aHD k,λw' E=>?_⟩) λI t=>?_
         .obtain⟨N,P,O⟩:=aZZ (w:=w') g.hT A (D w' E) y;grind
         .exact F (p.set i ⟨p.zU,p.rng⟩) I w ⟨B,hm,A.of M t,C,D⟩
      |none=>
       cases J:bOH o.op with
       |true=>simp only[hl,f,k,y,J] at h;exact h ho hl f k
       |false=>
        simp only[hl,f,k,y,J] at h;exact aEZ r (i+1) l e ((i,o)::q) n h
theorem a87:∀{l:aF} {i:Nat},bK4 l=true->l[i]?≠some false
 |[],i,_=>ae
 |b::l,i,h=>by
  unfold bK4 at h;cases b with
  |false=>cases h
  |true=>
   cases i with
   |zero=>simp
   |succ i=>simpa using a87 (l:=l) (i:=i) h
theorem aYC{k:Nat}:∀{L:ao},XJ k L=true->∃i,(∀a,vN k a L=L.set i (.box k a))/\∀c,aZU k L c=c+i
 |[],h=>by cases h
 |x::L,h=>by
  have d:XJ k L=true->(∀a,vN k a (x::L)=x::vN k a L)->(∀c,aZU k (x::L) c=aZU k L (c+1))->∃i,(∀a,vN k a (x::L)=(x::L).set i (.box k a))/\∀c,aZU k (x::L) c=c+i:=λh p n=>by obtain⟨i,r,q⟩:=aYC h;exact⟨i+1,λa=>aj,λc=>aj⟩
  cases x with
  |box j cs=>
   simp only[XJ] at h;split at h
   .rename_i l;exact⟨0,λa=>by grind[vN,qN],λc=>by grind[aZU]⟩
   simp_all[vN,aZU]
  |ro j cs=>
   simp only[XJ] at h;split at h
   .cases h
   .exact d h (λ_=>rfl) (λ_=>rfl)
  |o ch=>exact d h (λ_=>rfl) (λ_=>rfl)
  |f g=>exact d h (λ_=>rfl) (λ_=>rfl)
  |no=>exact d h (λ_=>rfl) (λ_=>rfl)
  |w k b z=>exact d h (λ_=>rfl) (λ_=>rfl)
theorem aRS{i:Nat}:∀{is:av},gE i is=true->i∉is
 |[],_=>ae
 |j::r,h=>by
  unfold gE at h;cases b:Nat.beq i j with
  |true=>grind
  |false=>
   rw[b] at h;have a:i≠j:=λe=>by simp_all
   simpa[a] using aRS h
theorem bFJ{L:ao}{i:Nat}{x:Ch}:∀{is:av},i∉is->kl (L.set i x) is=kl L is
 |[],_=>rfl
 |j::is,h=>by have a:i≠j:=λe=>h (by simp[e]);simp only[kl,List.getElem?_set_ne a,bFJ (λb=>h (lZ _ b))]
theorem a59{T:TT}{t:TypeId}{p v:SV}{L':ao}{x y:Operand}{is:av}(h:Y2 T t p v L=some L')(d:jA e x=some p)(f:bP5 e L is (.store t x y)=true)(c:∀j∈is,j<L.length):kl L' is=kl L is/\∀j∈is,j<L'.length:=by
 unfold Y2 at h;split at h
 .rename_i k o;split at h
  .rename_i b;split at h
   .split at h
    .split at h
     case h_2=>cases h
     split at h
     case h_2=>cases h
     rename_i q a;cases h;have:=Y4 a;subst this;obtain⟨i,n,l⟩:=aYC b;simp_all[bP5,aRS,bFJ]
    .cases h
   .cases h
  .cases h
 .cases h
theorem bLF{a f:Act}{w':World}{B0 B:Bl}{d b:Nat}{cs:au}(j:(B0++B).length=m)(i:iC g.n (B0++B) e a)(c:O2 g.n ((d,.pointer (some ⟨b,0,none⟩))::vE (B0++B) e) f)(h:lS g.c w' ((B0++B)++[(b,0)]) (L++[.box (B0++B).length cs])):qQ g.n g.c (B0++B) (m+1) ((d,.p m 0)::e) (L++[.box m cs]) f w':=by
 refine⟨[(b,0)],aj,?_,?_⟩
 .exact i.ext (nb:=[(b,0)]) (x:=.p m 0) (by grind[fS,gV,bT]) c
 grind
theorem vO{cf:wV}(b:ao):Frz g cf L (L++b):=by
 cases cf with
 |d B1 ops l is Lf Lv=>exact λa=>a.aRQ b
 |o B1 ops l is Lf Lv i=>exact λa=>a.aRQ b
 |_=>trivial
theorem a88{T:TT}{op:Op}{v:SV}(h:eff T e L op=.val v):ev1 T e L op=some v:=by unfold eff at h;grind
theorem bLG{T:TT}{op:Op}{cs:au}(h:eff T e L op=.box cs):(∃t i,op=.alloc t/\zS T t=some i/\cs=i.z)\/(∃t x v,op=.box t x/\jA e x=some v/\isCells v=true/\cs=pN v):=by unfold eff at h;grind
theorem bQD{T:TT}{op:Op}{L':ao}(h:eff T e L op=.st L'):∃t x y p v,op=.store t x y/\jA e x=some p/\Y2 T t p v L=some L':=by unfold eff at h;grind
theorem bLH{T:TT}{op:Op}{L':ao}(h:eff T e L op=.st L'):∃t x y p v,op=.store t x y/\jA e x=some p/\jA e y=some v/\Y2 T t p v L=some L':=by unfold eff at h;grind
theorem bFK{o:Oper}{cf cf':wV}(z:aM5 g K m e L o cf cf') :
  (∀d cs,eff g.T e L o.op=.box cs->o.dst=some d->Nat.blt d g.n=true->Frz g cf L (L++[.box m cs])->G g K (m+1) ((d,.p m 0)::e) (L++[.box m cs]) cf'->G g K m e L cf) /\
  (∀L',eff g.T e L o.op=.st L'->o.dst=none->Frz g cf L L'->G g K m e L' cf'->G g K m e L cf):=by
 refine⟨λd cs l n A hz q=>z Unit (λ_=>m+1) (λ_=>(d,.p m 0)::e) (λ_=>L++[.box m cs]) (λ_=>hz) (λB a w next Q s f h c=>?_) (λ_=>q),λL' l n hz q=>z Unit (λ_=>m) (λ_=>e) (λ_=>L') (λ_=>hz) (λB a w next Q s f h c=>?_) (λ_=>q)⟩
 .have fin:∀{u:Value} {w':World} {b:Nat},fH g.P o (vE (B0S g cf++B) e) w u w'->u=.pointer (some ⟨b,0,none⟩)->lS g.c w' ((B0S g cf++B)++[(b,0)]) (L++[.box (B0S g cf++B).length cs])->o.wp g.P a w next Q:=by intro u w' b M I j;subst I;unfold Oper.wp;rw[M _ a f.env,Oper.upon_value,n];exact c () _ _ (bLF s f (f.env.put (by simp_all) _) j)
  obtain⟨t,i,ho,hl,rfl⟩|⟨t,x,v,ho,H,hc,rfl⟩:=bLG l
  .obtain⟨u,w',b,k,r,C⟩:=bFF (E:=vE (B0S g cf++B) e) g.hT h ho hl;grind
  .obtain⟨u,w',b,k,r,C⟩:=bQC (P:=g.P) f h ho H hc;grind
 .obtain⟨t,x,y,p,v,ho,F,D,J⟩:=bLH l;obtain⟨w',k,r⟩:=aYA g.hT f h ho F D J;unfold Oper.wp;rw[k _ a f.env,Oper.upon_skip,n];exact c () _ _ ⟨[],aj,by rw[wW];exact⟨f.d,f.size,f.get⟩,aj⟩
theorem bFL{o:Oper}{Lv:ao}{cf cf':wV}(h:Gs g (bK3 e o Lv cf cf' K m L o.op))(b:sH g.n o.dst=true)(d:aIX g K m e L o Lv cf cf')(c:aM5 g K m e L o cf cf'):G g K m e L cf:=by
 generalize a:o.op=op at h;unfold bK3 at h;split at h
 .split at h
  .exact h
  .exact h.elim
 .split at h
  .rename_i i f k;exact h _ _ a k i f d
  .exact h b d c
 .split at h
  .rename_i i f;split at h
   .rename_i j;exact h _ _ _ a rfl i ⟨_,f,rfl⟩ j b c
   .exact h _ _ _ a rfl i ⟨_,f,rfl⟩ b c
  .exact h b d c
 .exact h b d c
theorem bLI{o:Oper}{Lv:ao}{cf cf':wV}(h:Gs g (bP4 e o Lv cf cf' K m L o.op))(c:sH g.n o.dst=true)(b:aIX g K m e L o Lv cf cf'):G g K m e L cf:=by
 generalize a:o.op=op at h;unfold bP4 at h;split at h
 .split at h
  .exact h
  .exact h.elim
 .split at h
  .rename_i i f d;exact h _ _ a d i f b
  .exact h c b
 .exact h c b
theorem aHE:∀(F:Nat) (K:bg) (c:wV) (m:Nat) (e:SE) (L:ao),Gs g (stp g.T g.n F K c m e L)->G g K m e L c
 |0,_,_,_,_,_,h=>h.elim
 |F + 1,K,.c x,m,e,L,h=>by
  have f:=aHE F;unfold stp at h;cases x with
  |skip=>exact λa w n=>bKA (a85 f h a w n)
  |seq x y=>exact λa w n=>bO7 (f _ _ _ _ _ h a w n)
  |block id b=>
   simp only at h;split at h
   .exact h
   .exact λa w n=>a2G (f _ _ _ _ _ h a w n)
  |exit id=>
   simp only at h;refine λa w n=>bKB (bFG ?_);cases X:xit id K with
   |some K'=>rw[X] at h;exact a85 f h a w n
   |none=>rw[X] at h;exact h a w n
  |ret=>exact λa w n=>bO8 (h a w n)
  |cond o x y=>
   simp only at h;split at h
   .rename_i c ho;intro a w n;obtain⟨B,I,s,C⟩:=n;obtain⟨v,N,M⟩:=eV s ho;cases N;cases c with
    |true=>exact bO9 s.env M rfl (f _ _ _ _ _ h a w ⟨B,I,s,C⟩)
    |false=>exact bSK s.env M rfl (f _ _ _ _ _ h a w ⟨B,I,s,C⟩)
   .rename_i c ho;exact h ho
   .exact h.elim
  |region id ops d=>
   cases d with
   |false=>exact λa w n=>bBC (f _ _ _ _ _ h a w n)
   |true=>exact h
  |_=>exact h.elim
 |F + 1,K,.n,m,e,L,h=>by have f:=aHE F;unfold stp at h;exact λa w n=>a85 f h a w n
 |F + 1,K,.r ops [],m,e,L,h=>by have f:=aHE F;unfold stp at h;exact λa w n=>a85 f h a w n
 |F + 1,K,.r ops (⟨dst,op,ty,H,T,S⟩::l),m,e,L,h=>by
  have f:=aHE F;unfold stp at h;generalize J:GL ops e S=gv at h;cases gv with
  |bad=>exact h.elim
  |ask c=>exact h
  |no=>
   simp only at h;split at h
   .rename_i d;split at h
    .rename_i z;intro a w ⟨B,I,s,C⟩;exact bKD (bOK J) rfl z (λa' R=>f _ _ _ _ _ h a' w ⟨B,I,s.of (x:=.u) (v:=undef) rfl R,C⟩) a s.env
    .exact h.elim
   .exact h.elim
  |yes=>
   simp only at h;have V:=bFK (g:=g) (K:=K) (m:=m) (e:=e) (L:=L) (o:=⟨dst,op,ty,H,T,S⟩) (cf:=.r ops (⟨dst,op,ty,H,T,S⟩::l)) (cf':=.r ops l) (a86 J);split at h
   .rename_i d v A;split at h
    .rename_i z;intro a w ⟨B,I,s,C⟩;obtain⟨u,N,M⟩:=aZZ (o:=⟨_,op,ty,H,T,S⟩) g.hT s C (a88 A);exact bOD M (aHD J) rfl z (λa' R=>f _ _ _ _ _ h a' w ⟨B,I,s.of N R,C⟩) a s.env
    .exact h.elim
   .rename_i d cs A;split at h
    .rename_i z;exact V.1 _ _ A rfl z trivial (f _ _ _ _ _ h)
    .exact h.elim
   .rename_i L' A;exact V.2 _ A rfl trivial (f _ _ _ _ _ h)
   .split at h
    .rename_i z;exact bFL h z (bK9 J z) (a86 J)
    .exact h.elim
   .exact h.elim
 |F + 1,K,.d B1 ops l is Lf Lv,m,e,L,h=>by
  have f:=aHE F;unfold stp at h;refine aEZ ops.toList 0 l e [] (λj=>ae) ?_;generalize pass g.T g.n ops Lv ops.toList 0 l e []=H at h;cases H with
  |bad=>exact h.elim
  |ask c W e'=>exact h
  |pur i o W e'=>
   intro N M h3 h4;simp only at h;split at h
   .grind[bLI,bLB]
   .exact h.elim
  |fin W e' q=>
   cases q with
   |nil=>
    simp only at h;split at h
    .rename_i U;intro D a w n;have hn:=f _ _ _ _ _ h;obtain⟨B2,hB2⟩:=D.pre;have Z:Rel g m e' L a w:=by obtain⟨B,I,s,C,_⟩:=n;subst hB2;exact⟨B2++B,aj,aj,aj⟩
     have E:Region.ready .any ops W.toArray=[]:=by refine List.eq_nil_iff_forall_not_mem.2 λj hj=>?_;exact a87 U ((aEY D.len).1 hj).1
     exact wpAnyH_done E (hn a w Z) _
    .exact h.elim
   |cons p q=>
    cases q with
    |cons p' q=>exact h
    |nil=>
     obtain⟨i,o⟩:=p;simp only at h;split at h
     .rename_i hon;have ho:=f _ _ _ _ _ h;cases Y:zT W ops.toList 0 with
      |cons j r=>
       refine bFI Y λk hk=>?_;grind[bLE]
      |nil=>
       refine absurd h ?_;intro h;unfold stp at h;cases F with
       |zero=>exact h
       |succ F=>
        simp only at h;split at h
        .rename_i hi;split at h
         .rename_i N M h3;have:=aYB (j0:=0) hi aj N;grind
         .exact h
        .exact h
     .exact h.elim
 |F + 1,K,.o B1 ops l is Lf Lv i,m,e,L,h=>by
  have f:=aHE F;unfold stp at h;split at h
  .rename_i dst op ty H T S ho;split at h
   .rename_i hre hli J;have P:=bLC (g:=g) (K:=K) (m:=m) (e:=e) (L:=L) (B1:=B1) (ops:=ops) (l:=l) (is:=is) (Lf:=Lf) (Lv:=Lv) ho J;have V:=bFK (g:=g) (K:=K) (m:=m) (e:=e) (L:=L) (o:=⟨dst,op,ty,H,T,S⟩) (cf:=.o B1 ops l is Lf Lv i) (cf':=.d B1 ops (l.set i true) is Lf Lv) P;split at h
    .rename_i v d A;split at h
     .rename_i z;have hG:=f _ _ _ _ _ h;have hv:=a88 A;refine P Unit (λ_=>m) (λ_=>(d,v)::e) (λ_=>L) (λ_ D=>⟨D.zU,D.rng⟩) (λB a w next Q I s C O=>?_) (λ_=>hG);obtain⟨u,N,M⟩:=aZZ (o:=⟨some d,op,ty,H,T,S⟩) g.hT s C hv;unfold Oper.wp;rw[M _ a s.env,Oper.upon_value];exact O () _ _ ⟨[],aj,by simpa using s.of N (s.env.put (by simp_all) u),aj⟩
     .exact h.elim
    .rename_i d cs A;split at h
     .rename_i z;exact V.1 _ _ A rfl z (λD=>D.aRQ _) (f _ _ _ _ _ h)
     .exact h.elim
    .rename_i L' A;split at h
     .rename_i hfz;refine V.2 _ A rfl (λD=>?_) (f _ _ _ _ _ h);obtain⟨t,x,y,p,v,hop,X,hs⟩:=bQD A;subst hop;have:=a59 hs X hfz D.rng;exact⟨by rw[this.1];exact D.zU,this.2⟩
     .exact h.elim
    .split at h
     .rename_i z;exact bFL h z (bLD ho J z) P
     .exact h.elim
    .exact h.elim
   .exact h.elim
  .exact h.elim
theorem aP4:∀{e r:SE},bBP e=some r->r=e
 |[],r,h=>by cases h;rfl
 |(k,v)::l,r,h=>by
  simp only[bBP] at h;split at h
  .rename_i s a;cases h;rw[aP4 a]
  .cases h
theorem aP5:∀{e r:ao},bBQ e=some r->r=e
 |[],r,h=>by cases h;rfl
 |x::l,r,h=>by
  simp only[bBQ] at h;split at h
  .rename_i s a;have:=aP5 a;grind[Y4]
  .cases h
theorem g9{K:bg}{c:wV}{m:Nat}{e:SE}{L:ao}(h:Gs g (jO g.T g.n K c m e L)):G g K m e L c:=by
 unfold jO at h;split at h
 .grind[aP4,aP5,aHE]
 .exact h.elim
end
section
variable {P:Program} {N N':Act->World->Prop} {X X':Nat->Act->World->Prop} {T T':Act->World->Prop}
theorem aCK(h:LetsOut (mkQ N X T)):LetsOut (mkQ N' X' T'):=let ⟨_,_,h⟩:=h;h.elim
theorem a2T{o:Oper}{a:Act}{next b:Act->World->Prop}{r:Result Next}(hn:∀a w,next a w->b a w)(h:o.upon P a next (mkQ N X T) r):o.upon P a b (mkQ N' X' T') r:=by
 unfold Oper.upon at h ⊢;split at h
 .grind
 .grind
 .grind
 .refine Calls.mono h λe w' he=>?_;cases e with
  |returned v=>grind
  |panicked c=>exact he.elim
  |outgrown=>exact aCK he
 .grind[Rows.mono]
 .exact h.elim
 omega
theorem aHF{ops:br}(b:∀a w,N a w->N' a w):∀(l:cn) {a:Act} {w:World},wpList P ops (mkQ N X T) l a w->wpList P ops (mkQ N' X' T') l a w
 |[],a,w,h=>b a w h
 |o::l,a,w,h=>by
  unfold wpList at h ⊢;split
  .rename_i hw;rw[aM hw] at h;obtain h|⟨d,c⟩:=h
   .exact .inl (a2T (λ_ _ h=>aHF b l h) h)
   grind[aCK]
  .rename_i hw;rw[aO hw] at h;exact aHF b l h
theorem a2U{ops:br}{i:Nat}{k k':Act->World->Prop}{a:Act}{w:World}(hk:∀a w,k a w->k' a w)(h:wpOp P ops (mkQ N X T) i k a w):wpOp P ops (mkQ N' X' T') i k' a w:=by
 unfold wpOp at h ⊢;split
 .grind
 .rename_i o b;rw[b] at h;simp only at h;split
  .rename_i hw;rw[aM hw] at h;obtain h|⟨d,c⟩:=h
   .exact .inl (a2T hk h)
   grind[aCK]
  grind
theorem aHG{ops:br}{S:World->Prop}(b:∀a w,N a w->N' a w):∀(fuel:Nat) {pT:Array Bool} {a:Act} {w:World},wpAnyH P .any ops (mkQ N X T) S fuel pT a w->wpAnyH P .any ops (mkQ N' X' T') S fuel pT a w
 |0,_,a,w,h=>⟨h.1,b a w h.2⟩
 |f+1,_,a,w,h=>⟨λd=>b a w (h.1 d),λi c=>a2U (λ_ _ h=>⟨h.1,aHG b f h.2⟩) (h.2 i c)⟩
end
section
variable {P:Program} {T:TT} {hT:IC P T} {n:Nat} {c:Ctx} {B0:Bl} {N N1:Act->World->Prop} {X X1:Nat->Act->World->Prop} {Q:Act->World->Prop} {K K':bg} {m m':Nat} {e e':SE} {L L':ao} {cf cf':wV}
theorem a6A(d:bg)(g:∀a w,N1 a w->NK (.mk P T hT n c B0 N X Q) d a w)(f:∀i a w,X1 i a w->XK (.mk P T hT n c B0 N X Q) d i a w):∀(b:bg),(∀a w,NK (.mk P T hT n c B0 N1 X1 Q) b a w->NK (.mk P T hT n c B0 N X Q) (b++d) a w)/\(∀i a w,XK (.mk P T hT n c B0 N1 X1 Q) b i a w->XK (.mk P T hT n c B0 N X Q) (b++d) i a w)
 |[]=>⟨g,f⟩
 |.s y::b=>by obtain⟨k,j⟩:=a6A d g f b;exact⟨λa w h=>CW.mono (show CW P y (NK _ b) (XK _ b) Q a w from h) k j (λ_ _ h=>h),j⟩
 |.k id::b=>by obtain⟨k,j⟩:=a6A d g f b;refine⟨k,λi a w h=>?_⟩;simp only[XK,aX4,H6] at h ⊢;grind
theorem bSV{k j:bg}(q:∀a w,N1 a w->NK (.mk P T hT n c B0 N X Q) j a w)(p:∀i a w,X1 i a w->XK (.mk P T hT n c B0 N X Q) j i a w)(h:G (.mk P T hT n c B0 N1 X1 Q) k m e L cf):G (.mk P T hT n c B0 N X Q) (k++j) m e L cf:=by
 obtain⟨g,s⟩:=a6A j q p k;cases cf with
 |n=>exact λa w f=>g a w (h a w f)
 |c x=>exact λa w f=>CW.mono (h a w f) g s (λ_ _ h=>h)
 |r ops l=>exact λa w f=>aHF g l (h a w f)
 |d B1 ops l is Lf Lv=>exact λb a w f=>aHG g _ (h ⟨b.pre,b.len,b.free,b.zU,b.rng,b.okf,b.ap⟩ a w f)
 |o B1 ops l is Lf Lv i=>exact λb a w f=>a2U (λ_ _ h=>⟨h.1,aHG g _ h.2⟩) (h ⟨b.pre,b.len,b.free,b.zU,b.rng,b.okf,b.ap⟩ a w f)
theorem aP6{g:Gx}{s:Stop}(a:XL s=some (K,cf,m,e,L))(h:G g K m e L cf):Gs g s:=by
 cases s<;>simp only[XL] at a<;>cases a
 .exact λ_=>h
 .exact h
 .exact h
 .exact λ_ _ _ _ _ _ _=>h
 .exact λ_ _ _ _ _ _ _ _ _ _=>h
 .exact λ_ _ _ _ _ _ _ _ _=>h
 .exact λ_ _=>h
 .exact λ_ _ _=>h
 .exact h
 .exact h
def JP(n:Nat)(c:Ctx)(B0:Bl){π υ:Type}(b:π->Prop)(m:Nat)(d:π->υ->SE)(f:π->υ->ao):Act->World->Prop:=λa w=>∃p u,b p/\qQ n c B0 m (d p u) (f p u) a w
theorem fA{B1:Bl}{ops:br}{l:aF}{is:av}{Lf Lv:ao}{i j:Nat}(a:XL (jO T n K cf m e L)=some (K',.d B1 ops l is Lf Lv,m',e',L')/\zT l ops.toList 0=[i,j])
  (h:G (.mk P T hT n c B0 N X Q) K' m' e' L' (.o B1 ops l is Lf Lv i)) (f:G (.mk P T hT n c B0 N X Q) K' m' e' L' (.o B1 ops l is Lf Lv j)):G (.mk P T hT n c B0 N X Q) K m e L cf:=
 let ⟨b,d⟩:=a;g9 (g:=.mk P T hT n c B0 N X Q) (aP6 b (bFI (g:=.mk P T hT n c B0 N X Q) d λk hk=>by
  grind))
theorem aV5{B1:Bl}{ops:br}{l:aF}{is:av}{Lf Lv:ao}{i j p:Nat}(a:XL (jO T n K cf m e L)=some (K',.d B1 ops l is Lf Lv,m',e',L'))(b:zT l ops.toList 0=[i,j,p])
  (h:G (.mk P T hT n c B0 N X Q) K' m' e' L' (.o B1 ops l is Lf Lv i)) (f:G (.mk P T hT n c B0 N X Q) K' m' e' L' (.o B1 ops l is Lf Lv j)) (d:G (.mk P T hT n c B0 N X Q) K' m' e' L' (.o B1 ops l is Lf Lv p)):G (.mk P T hT n c B0 N X Q) K m e L cf:=
 g9 (g:=.mk P T hT n c B0 N X Q) (aP6 a (bFI (g:=.mk P T hT n c B0 N X Q) b λk hk=>by
  grind))
theorem bd{O β:Type}{A:Option O}{f:O->Option β}{q:β}{C:Prop}(a:A.bind f=some q)(k:∀x,A=some x->f x=some q->C):C:=by
 cases h:A with
 |none=>grind
 |some x=>grind
theorem nd{β:Type}{p:Prop}[Decidable p]{A:Option β}{q:β}{C:Prop}(a:need p A=some q)(k:p->A=some q->C):C:=k (mP a).1 (mP a).2
theorem rb{O:Type}{A:Option O}{x:O}(h:A=some x):A.bind some=some x:=by rw[h];rfl
theorem rn{p:Prop}[Decidable p](h:p):need p (some ())=some ():=by simp[need,h]
theorem sb{O:Type}{C:O->Prop}(x:O){y:O}(h:some x=some y)(k:C y):C x:=aj
theorem go(a:XL (jO T n K cf m e L)=some (K',cf',m',e',L'))(k:G (.mk P T hT n c B0 N X Q) K' m' e' L' cf'):G (.mk P T hT n c B0 N X Q) K m e L cf:=g9 (g:=.mk P T hT n c B0 N X Q) (aP6 a k)
theorem cut{π υ:Type}(j b:Nat)(f:π->Prop)(d:av)(g:π->υ->SE)(is:av)(i:π->υ->ao)(o:XL (jO T n K cf m e L)=some (K',cf',m',e',L'))
  (l:G (.mk P T hT n c B0 (JP n c B0 f b (λp u=>g p u++kp e' d) (λp u=>i p u++kl L' is)) (XK (.mk P T hT n c B0 N X Q) (K'.drop j)) Q) (K'.take j) m' e' L' cf')
  (k:∀p u,f p->G (.mk P T hT n c B0 N X Q) (K'.drop j) b (g p u++kp e' d) (i p u++kl L' is) .n):G (.mk P T hT n c B0 N X Q) K m e L cf:=by refine go o ?_;rw[<-aGA j K'];refine bSV (λa w ⟨p,u,r,q⟩=>?_) (λ_ _ _ h=>h) l;exact k p u r a w q
theorem jn{π υ:Type}{i:π->Prop}{f:Nat}{b:π->υ->SE}{d:π->υ->ao}{p:π}(u:υ)(is:av)(l:i p)(j:jO T n K cf m e L=.fin m' e' L')(h:asT B0.length m' e' L' is f (b p u) (d p u)=some (b p u,d p u)):G (.mk P T hT n c B0 (JP n c B0 i f b d) X Q) K m e L cf:=
 g9 (g:=.mk P T hT n c B0 _ X Q) (by
  rw[j];exact λa w k=>⟨p,u,l,qQ.asT k is h⟩)
theorem aE0{b cb:Bool}{a:Act}{B:Bl}(f:b=cb):∀(d:av),aV (GK e) d=some (d.map λ_=>SV.b b)->iC n B e a->iC n B (ovr cb e d) a:=by
 intro d i g;refine⟨g.d,g.size,?_⟩;subst f;have key:∀k∈d,GK e k=some (.b b):=by
  induction d with
  |nil=>simp
  |cons s d h=>
   grind[aV]
 clear i;induction d with
 |nil=>exact g.get
 |cons s d h=>
  intro k x hk;simp only[ovr,GK] at hk;cases f:Nat.beq k s with
  |true=>
   rw[f] at hk;cases hk;rw[qN f];exact g.get s (.b b) (key s ae)
  |false=>
   grind
theorem aP7{b cb:Bool}{a:Act}{w:World}(g:b=cb)(d:av)(f:aV (GK e) d=some (d.map λ_=>SV.b b))(h:qQ n c B0 m e L a w):qQ n c B0 m (ovr cb e d) L a w:=by obtain⟨B,k,j,i⟩:=h;exact⟨B,k,aE0 g d f j,i⟩
theorem aRT{q:SE}(h:∀a B,iC n B e a->iC n B q a)(k:G (.mk P T hT n c B0 N X Q) K m q L cf):G (.mk P T hT n c B0 N X Q) K m e L cf:=by
 cases cf with
 |d B1 ops l is Lf Lv=>exact λj a w ⟨B,g,f,b,p⟩=>k j a w ⟨B,g,h a _ f,b,p⟩
 |o B1 ops l is Lf Lv i=>exact λj a w ⟨B,g,f,b,p⟩=>k j a w ⟨B,g,h a _ f,b,p⟩
 |_=>exact λa w ⟨B,g,f,b⟩=>k a w ⟨B,g,h a _ f,b⟩
section
variable {b:Bool} {O:Type} {A B':Option O} {q:Option O}
theorem cs{o:Operand}{x y:Code}(d:av)(l:jO T n K cf m e L=.cond o b x y K' m' e' L')(ho:aV (GK e') d=some (d.map λ_=>SV.b b))(f:(if b=true then A else B')=q)
  (k:A=q->G (.mk P T hT n c B0 N X Q) K' m' (ovr true e' d) L' (.c x)) (j:B'=q->G (.mk P T hT n c B0 N X Q) K' m' (ovr false e' d) L' (.c y)):G (.mk P T hT n c B0 N X Q) K m e L cf:=
 g9 (g:=.mk P T hT n c B0 N X Q) (by
  rw[l];intro p a w h;have ⟨B,hm,i,t⟩:=h;obtain⟨v,s,r⟩:=eV i p;cases s;refine aP0 i.env r (λhc=>?_) (λhc=>?_)
  .rw[aM hc] at f;exact k f a w (aP7 hc d ho h)
  .rw[aO aj] at f;exact j f a w (aP7 hc d ho h))
theorem ca{cf':wV}(d:av)(j:jO T n K cf m e L=.case b cf' K' m' e' L')(ho:aV (GK e') d=some (d.map λ_=>SV.b b))(k:(if b=true then A else B')=q)
  (i:A=q->G (.mk P T hT n c B0 N X Q) K' m' (ovr true e' d) L' cf') (h:B'=q->G (.mk P T hT n c B0 N X Q) K' m' (ovr false e' d) L' cf'):G (.mk P T hT n c B0 N X Q) K m e L cf:=
 g9 (g:=.mk P T hT n c B0 N X Q) (by
  rw[j];cases b with
  |true=>exact aRT (λa B f=>aE0 rfl d ho f) (i aj)
  |false=>exact aRT (λa B f=>aE0 rfl d ho f) (h aj))
end
def QS(P:Program)(a:Func)(c:Ctx)(B0:Bl){ρ ex:Type}(sv:ρ->ex->SV)(Lf:ρ->ex->ao)(r:ρ):Act->World->Prop:=Fin P a λv w'=>∃y,fS B0 (sv r y)=some v/\lS c w' B0 (Lf r y)
theorem a89{r:ResultVar}{x:SV}{B:Bl}{a:Act}{w:World}(hT:IC P T)(E:iC n B e a)(D:lS c w B L)(h:bE3 T e L r=some x):∃v,fS B x=some v/\(aK6 a.tmps r).run P w=.ok v w:=by
 cases r with
 |tmp t=>
  obtain⟨v,g,s⟩:=E.get t x h;simp_all[aK6]
 |cell t ty=>
  simp only[bE3] at h;split at h
  .rename_i p G;obtain⟨v,g,s⟩:=E.get t p G;unfold aX7 at h;split at h
   .rename_i I f;split at h
    .rename_i cs _ mm _ l hl;split at h
     .rename_i d;split at h
      case h_2=>cases h
      rename_i J k;cases h;have:=Y4 k;subst this;obtain⟨b,z,vs,A,j,y⟩:=D.cells l;have C:=mE j;have d:=XF d;simp only[fS,gV,bT,A] at g;cases g;have F:=XO mm (XN f j);have q:=aIV y (o:=f) (m:=mm) aa;have i:=tE q P;have H:((vs.drop f).take mm).length=mm:=ah
      rw[H] at i;refine⟨.agg ((vs.drop f).take mm).toArray,by grind[fS,gV],?_⟩;simp[aK6,s,asAddr,loadVar,hT.agg _ _ hl,hT.size _ _ hl,i]
     .cases h
    .rename_i cs _ _ _ l hl;obtain⟨b,z,vs,A,j,y⟩:=D.cells l;simp only[fS,gV,bT,A] at g;cases g;obtain⟨u,F,q⟩:=XM j h;refine⟨u,a8U F,?_⟩;have i:=y f u q;simp[aK6,s,asAddr,loadVar,hT.agg _ _ hl,load,Sem.run,i]
    .cases h
   .cases h
  .cases h
end
section
variable {P:Program} {T:TT} {hT:IC P T} {n:Nat} {c:Ctx} {B0:Bl} {N:Act->World->Prop} {X:Nat->Act->World->Prop} {Q:Act->World->Prop} {K K':bg} {m m':Nat} {e e':SE} {L L':ao} {cf:wV}
theorem bLJ{B:Bl}{x:SV}{v:Value}(h:fS B x=some v)(hc:isCells x=true):gV B x=some v:=by cases x<;>first|exact h|cases hc
theorem aIY{r:ResultVar}{x:SV}{B:Bl}{a:Act}{w:World}(hT:IC P T)(d:iC n B e a)(b:lS c w B L)(h:a56 T e L r=some x):∃v,gV B x=some v/\(aK6 a.tmps r).run P w=.ok v w:=by grind[a56,a89,bLJ]
theorem aP8{i:List ResultVar}{x:SV}{B:Bl}{a:Act}{w:World}{l:Func}(s:l.results=i.toArray)(hT:IC P T)(d:iC n B e a)(b:lS c w B L)(h:aZW T e L i=some x):∃v,fS B x=some v/\(results l a.tmps).run P w=.ok v w:=by
 rw[a5Z s];unfold aZW at h;split at h
 .cases h;exact⟨.tuple #[],rfl,ae⟩
 .obtain⟨v,k,j⟩:=a89 hT d b h;simp_all
 .split at h
  .rename_i g f;cases h;obtain⟨p,k,r⟩:=aIY hT d b g;obtain⟨o,j,q⟩:=aIY hT d b f;simp_all[fS,aV]
  .cases h
 .split at h
  .rename_i g f t;cases h;obtain⟨p,k,r⟩:=aIY hT d b g;obtain⟨o,j,q⟩:=aIY hT d b f;obtain⟨u,z,y⟩:=aIY hT d b t;simp_all[fS,aV]
  .cases h
 .cases h
structure FnS (P:Program) (f:FuncId) (c:Ctx) (xs:au) (B0:Bl) (L0:ao) {ρ ex:Type} (sv:ρ->ex->SV) (Lf:ρ->ex->ao) (r:ρ):Prop where
 call:∀args w,(callFunc f args).run P w=.ok (.enter f args) w
 run:∀vs,aV (fS B0) xs=some vs->lS c c.w0 B0 L0->Calls P f vs.toArray c.w0 (Ret λv w'=>∃y,fS B0 (sv r y)=some v/\lS c w' B0 (Lf r y))
abbrev Fn0(P:Program)(f:FuncId)(c:Ctx)(xs:au){ρ:Type}(sv:ρ->SV)(r:ρ):Prop:=FnS P f c xs [] [] (λr (_:Unit)=>sv r) (λ_ _=>[]) r
def aYD:Nat->au->SE
 |_,[]=>[]
 |k,v::r=>(k,v)::aYD (k+1) r
theorem aYE{B:Bl}:∀{xs:au} {vs:ar} (k:Nat) {j:Nat} {x:SV},aV (fS B) xs=some vs->GK (aYD k xs) j=some x->∃v,fS B x=some v/\lk (a2F k vs) j=some v
 |[],vs,k,j,x,h,a=>by grind[aYD,GK]
 |y::xs,vs,k,j,x,h,a=>by
  simp only[aV] at h;split at h
  .cases h
  .rename_i f;split at h
   .cases h
   .rename_i d;cases h;simp only[aYD,GK] at a;simp only[a2F,lk];cases b:Nat.beq j k with
    |true=>grind
    |false=>rw[b] at a;exact aYE (k+1) d a
theorem en{f:FuncId}{b:Func}{cd:Code}{xs:au}{L0:ao}{ρ ex:Type}{sv:ρ->ex->SV}{Lf:ρ->ex->ao}{r:ρ}(n:Nat)(hc:∀args w,(callFunc f args).run P w=.ok (.enter f args) w)(o:P.funcs[f]?=some b)(hT:IC P T)(p:b.body=some cd)(i:b.ntmps=n)(hl:Nat.ble xs.length n=true)
  (k:G (.mk P T hT n c B0 (QS P b c B0 sv Lf r) (λ_ _ _=>False) (QS P b c B0 sv Lf r)) [] B0.length (aYD 0 xs) L0 (.c cd)):FnS P f c xs B0 L0 sv Lf r:=by
 refine⟨hc,λvs g s=>bBH o p i ?_ λa d=>?_⟩
 .grind[mE]
 .refine CW.mono (k a c.w0 ⟨[],ae,⟨d.d,d.size,λj x l=>?_⟩,aj⟩) (λ_ _ h=>h) (λ_ _ _ h=>h) (λ_ _ h=>h);obtain⟨v,t,q⟩:=aYE 0 g l;exact⟨v,aj,d.get j v q⟩
theorem aZ3(w:World):lS (eF w) w [] []:=⟨⟨[],St.enter ae,ae⟩,λ_ _ h=>h⟩
theorem rt{k:Func}{ρ ex:Type}{sv:ρ->ex->SV}{Lf:ρ->ex->ao}{r d:ρ}{i:List ResultVar}{h:Option ρ}(y:ex)(is:av)(A:h=some r)(hz:h=some d)(s:jO T n K cf m e L=.ret m' e' L')(t:k.results=i.toArray){x:SV}(q:aZW T e' L' i=some x)(p:nbS x=sv d y)(hk:BZ B0.length (sv d y)=true)(z:asT B0.length m' e' L' is B0.length [] (Lf d y)=some ([],Lf d y)):G (.mk P T hT n c B0 N X (QS P k c B0 sv Lf r)) K m e L cf:=by subst hz;cases A;refine g9 (g:=.mk P T hT n c B0 N X _) ?_;rw[s];intro a w b;obtain⟨B,F,j,u⟩:=id b;obtain⟨v,D,C⟩:=aP8 t hT j u q;obtain⟨E,l,_,o⟩:=b.asT is z;have f:E=[]:=(by simp_all);subst f;refine⟨j.d,v,C,y,?_,aj⟩;rw[<-p] at hk ⊢;have:=Y5 hk (by rw[aP2];exact D);grind
theorem rf{k:Func}{ρ ex:Type}{sv:ρ->ex->SV}{Lf:ρ->ex->ao}{r d:ρ}{i:List ResultVar}{h:Option ρ}(y:ex)(is:av)(A:h=some r)(hz:h=some d)(s:jO T n K cf m e L=.fin m' e' L')(t:k.results=i.toArray){x:SV}(q:aZW T e' L' i=some x)(p:nbS x=sv d y)(hk:BZ B0.length (sv d y)=true)(z:asT B0.length m' e' L' is B0.length [] (Lf d y)=some ([],Lf d y)):G (.mk P T hT n c B0 (QS P k c B0 sv Lf r) X Q) K m e L cf:=by subst hz;cases A;refine g9 (g:=.mk P T hT n c B0 _ X Q) ?_;rw[s];intro a w b;obtain⟨B,F,j,u⟩:=id b;obtain⟨v,D,C⟩:=aP8 t hT j u q;obtain⟨E,l,_,o⟩:=b.asT is z;have f:E=[]:=(by simp_all);subst f;refine⟨j.d,v,C,y,?_,aj⟩;rw[<-p] at hk ⊢;have:=Y5 hk (by rw[aP2];exact D);grind
def aU(c:Ctx){O:Type}[aN O](s:AC)(d:List O):Prop:=aN.rd c.S0 c.w0 [s.v d.length] d
structure HS (c:Ctx) (w:World) (L:ao):Prop where
 ex:∃B,lS c w B L
abbrev ow{O:Type}[aN O](s:AC)(d:List O):Ch:=.o (fF [s.v d.length] d)
abbrev fr{O:Type}[aN O](s:AC)(d:List O):Ch:=.f (fRd [s.v d.length] d)
theorem aZ4{w:World}{B:Bl}(g:lS c w B L){f:Fact}(h:f.P c.S0 c.w0):f.P c.S0 w:=by obtain⟨⟨R,s1,_⟩,s0⟩:=g;exact f.agree h λb o a=>s1.keep.cell b o (s0 b o a) λd=>s1.apart b o d a
theorem a6B{w:World}{B:Bl}(d:lS c w B L):∀b o,c.S0 b o->All w b o:=λb o a=>by obtain⟨⟨R,s1,_⟩,s0⟩:=d;exact LN (s0 b o a) s1.keep.size
theorem HS.a{w:World}{O:Type}[aN O]{s:AC}{d:List O}(h:HS c w L)(b:aU c s d):aU (eF w) s d:=by obtain⟨B,a⟩:=h.ex;have g:(fRd [s.v d.length] d).P c.S0 w:=aZ4 a (f:=fRd [s.v d.length] d) b;exact aN.rd_mono g (a6B a)
theorem HS.o{w:World}{O:Type}[aN O]{s:AC}{d:List O}(h:HS c w L)(i:Nat)(a:L[i]?=some (ow s d)):aU (eF w) s d:=by obtain⟨B,⟨⟨R,s1,_⟩,_⟩⟩:=h.ex;exact s1.a8J i (by rw[D0,a];rfl)
theorem HS.f{w:World}{O:Type}[aN O]{s:AC}{d:List O}(h:HS c w L)(i:Nat)(f:L[i]?=some (fr s d)):aU (eF w) s d:=by obtain⟨B,⟨⟨R,s1,a⟩,_⟩⟩:=h.ex;obtain⟨j,b⟩:=aMZ (a _ (IA f));exact s1.rd j b
theorem aIZ{B:Bl}:∀{xs:au} {vs:ar},okA xs=true->aV (fS B) xs=some vs->aV (fS []) xs=some vs
 |[],vs,_,h=>h
 |x::xs,vs,ho,h=>by
  simp only[okA] at ho;split at ho
  .rename_i f;simp only[aV] at h;split at h
   .cases h
   .rename_i d;split at h
    .cases h
    .rename_i b;cases h;have a:=Y5 f d;rw[List.take_zero] at a;simp[aV,a,aIZ ho b]
  .cases ho
theorem aGB{B:Bl}{a:Act}(b:iC n B e a):∀{os:List Operand} {xs:au},aV (jA e) os=some xs->∃vs,aV (fS B) xs=some vs/\evs (vE B e) os=some vs
 |[],xs,h=>by cases h;exact⟨[],rfl,rfl⟩
 |o::os,xs,h=>by
  simp only[aV] at h;split at h
  .cases h
  .rename_i f;split at h
   .cases h
   .rename_i d;cases h;obtain⟨v,k,j⟩:=eV b f;obtain⟨vs,i,g⟩:=aGB b d;grind[aV,evs]
def noF:ao->Bool
 |[]=>true
 |.ro _ _::_=>false
 |.f _::_=>false
 |.w _ _ _::_=>false
 |_::L=>noF L
theorem aRU{B:Bl}{R:bs}:∀{L:ao},noF L=true->∀x∈L,roF B R x
 |[],_,x,b=>by cases b
 |y::L,h,x,b=>by
  obtain a|a:=lO.1 b
  .subst a;cases x<;>first|trivial|cases h
  .cases y with
   |ro=>cases h
   |f=>cases h
   |w=>cases h
   |_=>exact aRU (L:=L) h x a
theorem lS.after{w w':World}{B:Bl}{L2:ao}(h:lS c w B L)(hn:noF L2=true)(k:lS (eF w) w' [] L2):lS c w' B (L++L2):=by
 obtain⟨⟨R,s1,g⟩,s0⟩:=h;obtain⟨⟨j,a,d⟩,f⟩:=k;refine⟨⟨R,?_,λx i=>?_⟩,s0⟩
 .rw[vC];have b:=s1.after a;refine b.imp (kC.append (kC.refl _) ?_);have:=aEX (B:=[]) B (w:=w') L2;grind
 grind[aRU]
theorem lS.bQE{w w':World}{B:Bl}(h:lS c w B L)(k:eT F0 w w'):lS c w' B L:=by obtain⟨⟨R,s1,a⟩,s0⟩:=h;exact⟨⟨R,s1.same k,a⟩,s0⟩
theorem XQ{o:Oper}{f:FuncId}{x:Operand}{args:Array Operand}{b:Array TypeId}{vs:ar}{E:Env}{w:World}(a:∀args w,(callFunc f args).run P w=.ok (.enter f args) w)(ho:o.op=.call {callee:=.value x,args:=args,argTypes:=b})(d:ev E x=some (.func (.func f) #[] #[]))(g:evs E args.toList=some vs):bPA P o E w f vs.toArray:=by have:=a2K (w:=w) (cap:=[]) (xs:=args.toList) (vs:=vs) a aa d g;grind
theorem cl{O β ex:Type}{s:Option O}{kf:O->Option β}{q:β}{o:Oper}{d:Nat}{f:FuncId}{xs:au}{p l:wV}{sv:O->ex->SV}{Lf:O->ex->ao}(J:jO T n K cf m e L=.call o (some d) f xs p l K' m' e' L')(hn:∀x y,noF (Lf x y)=true)
  (hc:∀{w},HS c w L'->∀{x},s=some x->FnS P f (eF w) xs [] [] sv Lf x) (C:s.bind kf=some q)
  (k:∀x,s=some x->kf x=some q->∀y:ex,G (.mk P T hT n c B0 N X Q) K' m' ((d,sv x y)::e') (L'++Lf x y) l):G (.mk P T hT n c B0 N X Q) K m e L cf:=by
 refine g9 (g:=.mk P T hT n c B0 N X Q) ?_;rw[J];intro F args H ho R M ⟨ys,t,u⟩ z E S;subst u;cases i:s with
 |none=>grind
 |some x=>
  rw[i] at C;refine S ex (λ_=>m') (λy=>(d,sv x y)::e') (λy=>L'++Lf x y) (λy=>vO _) (λB a w next Q' hm r A b=>?_) (k x i C);obtain⟨h,j⟩:=hc ⟨_,A⟩ i;obtain⟨vs,Z,Y⟩:=aGB r t;obtain⟨v,D,W⟩:=eV r M;simp[fS,aV] at D;subst D;have V:=j vs (aIZ z (by rw[UC];exact Z)) (aZ3 w);have U:=XQ (w:=w) h ho W Y;unfold Oper.wp;rw[U _ a r.env,Oper.upon_enter];refine Calls.mono V λen w' ⟨v,I,y,g1,g2⟩=>?_;subst I;rw[R];have g3:=y7 (B0S (.mk P T hT n c B0 N X Q) p++B) g1;exact b y _ _ ⟨[],aj,by simpa using r.of aj (r.env.put (by grind[sH,y5]) v),by simpa using A.after (hn x y) g2⟩
end
section
variable {P:Program} {T:TT} {hT:IC P T} {n:Nat} {c:Ctx} {B0:Bl} {N:Act->World->Prop} {X:Nat->Act->World->Prop} {Q:Act->World->Prop} {K K':bg} {m m':Nat} {e e':SE} {L L':ao} {cf:wV}
def NxP(n:Nat)(c:Ctx)(B0:Bl){σ ρ υ:Type}(o:Step σ ρ)(m:Nat)(el:σ->υ->SE)(b:σ->υ->ao):Act->World->Prop:=λa w=>∃s u,o=.next s/\qQ n c B0 m (el s u) (b s u) a w
def BkP(n:Nat)(c:Ctx)(B0:Bl){β ρ υ:Type}(ro:ρ)(d:β->ρ)(m:Nat)(f:β->υ->SE)(g:β->υ->ao)(id:Nat)(X:Nat->Act->World->Prop):Nat->Act->World->Prop:=λi a w=>if i=id then ∃b u,ro=d b/\qQ n c B0 m (f b u) (g b u) a w else X i a w
theorem lp{σ ρ υ β ω O:Type}{id:Nat}{y:Code}{x:σ->Option (Step σ ρ)}{s0:σ}{v:ρ->Option O}{q:O}(j:υ)(k:av)(el:σ->υ->SE)(d is:av)(t:σ->υ->ao)(f:β->ρ)(kb:av)(C:β->ω->SE)(z:av)(D:β->ω->ao)
  (H:jO T n K cf m e L=.loop id y K' m' e' L') (l:(loop x s0).bind v=some q)
  (S:asT B0.length m' e' L' d m' (el s0 j++kp e' k) (t s0 j++kl L' is)=some (el s0 j++kp e' k,t s0 j++kl L' is))
  (F:∀ro,v ro=some q->∀s u o,x s=some o->(∀p,o=.stop p->p=ro)->G (.mk P T hT n c B0 (NxP n c B0 o m' (λs u=>el s u++kp e' k) (λs u=>t s u++kl L' is)) (BkP n c B0 ro f m' (λb u=>C b u++kp e' kb) (λb u=>D b u++kl L' z) id (XK (.mk P T hT n c B0 N X Q) K')) Q) [] m' (el s u++kp e' k) (t s u++kl L' is) (.c y))
  (E:∀b u,v (f b)=some q->G (.mk P T hT n c B0 N X Q) K' m' (C b u++kp e' kb) (D b u++kl L' z) .n):G (.mk P T hT n c B0 N X Q) K m e L cf:=by
 refine g9 (g:=.mk P T hT n c B0 N X Q) ?_;rw[H];intro a w I;cases hl:loop x s0 with
 |none=>grind
 |some ro=>
  rw[hl] at l;have l:v ro=some q:=l;refine a2G (bKC (body:=x) (r:=ro) (λs a w=>∃u,qQ n c B0 m' (el s u++kp e' k) (t s u++kl L' is) a w) ?_ hl ⟨j,I.asT d S⟩);intro s a w o ⟨u,R⟩ M ho;refine CW.mono (F ro l s u o M ho a w R) ?_ ?_ (λ_ _ h=>h)
  .rintro a w ⟨V,U,B,A⟩;grind
  .intro i a w h;simp only[XK,BkP,aX4] at h ⊢;split
   .rename_i J;rw[aM J] at h;obtain⟨b,u,B,A⟩:=h;exact E b u (B ▸ l) a w A
   grind
theorem nx{σ ρ υ:Type}{o:Step σ ρ}{d:Nat}{el:σ->υ->SE}{b:σ->υ->ao}{s:σ}(u:υ)(is:av)(j:some (Step.next s)=some o)(f:jO T n K cf m e L=.fin m' e' L')(h:asT B0.length m' e' L' is d (el s u) (b s u)=some (el s u,b s u)):G (.mk P T hT n c B0 (NxP n c B0 o d el b) X Q) K m e L cf:=
 g9 (g:=.mk P T hT n c B0 _ X Q) (by
  rw[f];cases j;exact λa w i=>⟨s,u,rfl,i.asT is h⟩)
theorem bk{σ ρ β υ:Type}{o:Step σ ρ}{ro:ρ}{d:β->ρ}{j id:Nat}{f:β->υ->SE}{i:β->υ->ao}{b:β}(u:υ)(is:av)(q:some (Step.stop (d b))=some o)(k:∀p,o=.stop p->p=ro)(l:jO T n K cf m e L=.ex id m' e' L')(h:asT B0.length m' e' L' is j (f b u) (i b u)=some (f b u,i b u)):G (.mk P T hT n c B0 N (BkP n c B0 ro d j f i id X) Q) K m e L cf:=
 g9 (g:=.mk P T hT n c B0 N _ Q) (by
  rw[l];cases q;have:=k _ rfl;subst this;intro a w k;show BkP n c B0 (d b) d j f i id X id a w;unfold BkP;rw[aM rfl];exact⟨b,u,rfl,k.asT is h⟩)
theorem re{σ ρ O:Type}{o:Step σ ρ}{p ro:ρ}{F:ρ->Option O}{q:Option O}{a:Option (Step σ ρ)}(d:a=some o)(hz:a=some (Step.stop p))(b:∀p,o=.stop p->p=ro)(f:F ro=q):F p=q:=aj
structure GM (O:Type) [aN O] where
 ex:Type
 cs:O->ex->au
 sub:cW->World->O->ex->Prop
 ok:∀{S w ec x},aN.rd S w ec x->∃y,aV (bT []) (cs x y)=some ec/\sub S w x y
 sv:O->ex->SV
 bV0:∀{S S' w w' x y},sub S w x y->(∀b o,S b o->w'.cell? ⟨b,o,none⟩=w.cell? ⟨b,o,none⟩)->(∀b o,S b o->S' b o)->sub S' w' x y
def cI:GM Int:=⟨Unit,λx _=>[.i .i64 x],λ_ _ _ _=>True,λh=>⟨(),by cases h;rfl,trivial⟩,λx _=>.i .i64 x,λ_ _ _=>trivial⟩
def cU:GM UInt8:=⟨Unit,λx _=>[.y x],λ_ _ _ _=>True,λh=>⟨(),by cases h;rfl,trivial⟩,λx _=>.y x,λ_ _ _=>trivial⟩
theorem R4{O:Type}[aN O]{S:cW}{w:World}{ec:ar}{l:List O}(h:aN.rd S w ec l):∃s:AC,ec=[s.v l.length]:=by obtain⟨b,m,a,_⟩:=(show sN S w ec l from h);exact⟨⟨b,m⟩,a⟩
def cL{O:Type}[aN O]:GM (List O):=⟨AC,λx y=>[.h y x.length],λS w x y=>aN.rd S w [y.v x.length] x,λh=>by
 obtain⟨s,a⟩:=R4 h;subst a;exact⟨s,rfl,h⟩,λx y=>.h y x.length,λh a b=>aN.rd_mono (aN.rd_agree h a) b⟩
theorem St.bSW{w:World}{M:bj}{R:bs}{f:Fact}(h:St c w M R)(s0:∀b o,c.S0 b o->b<c.w0.heap.size)(p:f.P c.S0 c.w0):St c w M (R++[f]):=by
 obtain⟨F,S,s,r,l,u,t,q⟩:=h.sep;refine⟨h.keep,⟨F,λb o=>S b o\/c.S0 b o,s,?_,l,?_,?_,?_⟩,h.apart⟩
 .rintro b o k (a|a)
  .exact r b o k a
  .obtain i|i:=l b o k
   .exact h.apart b o i a
   grind
 .grind
 .rintro b o (a|a)
  .grind
  .exact LN (s0 b o a) h.keep.size
 .intro g d;obtain d|d:=dR.1 d
  .exact g.mono (q g d) λb o a=>.inl a
  .simp at d;subst d;exact g.mono (g.agree p λb o j=>h.keep.cell b o (s0 b o j) λi=>h.apart b o i j) λb o a=>.inr a
theorem lS.bSX{w:World}{B:Bl}{k b z:Nat}{cs:au}{vs:ar}(h:lS c w B L)(hk:B[k]?=some (b,z))(hc:aV (bT B) cs=some vs)(f:(fAt b z vs).P c.S0 c.w0):lS c w B (L++[.ro k cs]):=by
 obtain⟨⟨R,d,g⟩,s0⟩:=h;refine⟨⟨R++[fAt b z vs],?_,λx a=>?_⟩,s0⟩
 .rw[vC];exact St.more (ch:=QD) (St.bSW d s0 f) (eT.refl _ _) ⟨F0,λ_ _ h=>h,λ_ _ h=>h.elim⟩
 .obtain a|a:=dR.1 a
  .grind[aIU]
  .simp at a;subst a;exact⟨b,z,vs,hk,hc,ae⟩
theorem ix{O β:Type}{iR:aN O}(C:GM O){o:Oper}{d t:Nat}{s:AC}{i:Int}{Lv:ao}{D l:wV}{ls:List O}{kf:O->Option β}{q:β}{el sz:Nat}{b1 b2:Bool}{M J:au}{Z:TK}{Y:Nat}(hs:jO T n K cf m e L=.idx o d t s ls.length i Lv D l K' m' e' L')(I:aU c s ls)(F:(idx ls i).bind kf=some q)(ht:zS T t=some ⟨.sl el,b1,Y,M⟩)(he:zS T el=some ⟨Z,b2,sz,J⟩)(hn:aN.n O=sz)
  (k:∀x,idx ls i=some x->kf x=some q->∀y:C.ex,C.sub c.S0 c.w0 x y->G (.mk P T hT n c B0 N X Q) K' (m'+1) ((d,.p m' 0)::e') (L'++[.ro m' (C.cs x y)]) (l.ext [.ro m' (C.cs x y)])):G (.mk P T hT n c B0 N X Q) K m e L cf:=by
 refine g9 (g:=.mk P T hT n c B0 N X Q) ?_;rw[hs];intro x' y' ho hd hx hy hP;cases p:idx ls i with
 |none=>grind
 |some x=>
  rw[p] at F;obtain⟨dd,A,j⟩:=hT.und _ _ ht;simp only at j;subst j;obtain⟨ec,W,V⟩:=bP1 (S:=c.S0) (w:=c.w0) I (D2 p).2.2;obtain⟨y,U,R⟩:=C.ok V;subst hn;refine hP d (.p m' 0) [.ro m' (C.cs x y)] (λ_=>[(elB (s.v ls.length),elO (aN.n O) i.toNat (s.v ls.length))]) 1 hd (λ_=>rfl) (λB a w H E hm=>?_) (λB w L hm E=>?_) (k x p F y R)
  .obtain⟨v,g1,g2⟩:=eV H hx;obtain⟨u,g3,g4⟩:=eV H hy;cases g1;cases g3;have r:aN.rd c.S0 w [s.v ls.length] ls:=aZ4 E (f:=fRd [s.v ls.length] ls) I;exact⟨_,by grind[fS,gV,bT],bPR (P:=P) (o:=o) (w:=w) r rfl p A (hT.size _ _ he) ho g2 g4⟩
  .exact(E.app _).bSX (b:=elB (s.v ls.length)) (z:=elO (aN.n O) i.toNat (s.v ls.length)) aj (fL (λx v h=>by simpa using gR (B:=[]) _ h) U) W
theorem dr{id:Nat}{ops:br}(is:av)(f:jO T n K cf m e L=.rgn id ops K' m' e' L')(i:P.follows .mixedOrders=true)(b:(a2P ops && (okL m' (kl L' is) && (dV is && is.all λj=>Nat.blt j L'.length)))=true)
  (k:∀B1,G (.mk P T hT n c B0 N X Q) K' m' e' L' (.d B1 ops (List.replicate ops.size false) is (kl L' is) (kl L' is))):G (.mk P T hT n c B0 N X Q) K m e L cf:=by refine g9 (g:=.mk P T hT n c B0 N X Q) ?_;rw[f];intro a w ⟨B,d,r,l⟩;simp only[yV,aF4,y5] at b;obtain⟨q,s,p,o⟩:=b;refine wp_region_held (S:=Sd (.mk P T hT n c B0 N X Q) (B0++B) (kl L' is)) i ?_;have:=k (B0++B) ⟨⟨B,rfl⟩,ae,q,rfl,o,aj,p⟩ a w.drew ⟨[],aj,aj,by simpa using l.bQE (eT.drew F0 w),λw' h=>aj⟩;simp_all
end
inductive StF (P:Program):List Field->b6->Prop where
 |n:StF P [] []
 |c {F:Field} {Fs:List Field} {fs:b6} {m:Nat} (h:∀w,(sizeOf F.type).run P w=.ok m w) (t:StF P Fs fs):StF P (F::Fs) ((F.offset,m)::fs)
section
variable {P:Program} {T:TT} {t n:Nat} {a:Bool} {zs:au} {z:Value}
theorem StF.off{Fs:List Field}{fs:b6}(h:StF P Fs fs):Fs.map (·.offset)=fs.map (·.1):=by
 induction h with
 |n=>rfl
 |c h t b=>simp[b]
theorem StF.get{Fs:List Field}{fs:b6}(h:StF P Fs fs):∀(j:Nat) F,Fs[j]?=some F->∃m,fs[j]?=some (F.offset,m)/\∀w,(sizeOf F.type).run P w=.ok m w:=by
 induction h with
 |n=>simp
 |c h t b=>
  intro j F d;cases j with
  |zero=>simp_all
  |succ j=>grind
theorem StF.run{Fs:List Field}{fs:b6}(h:StF P Fs fs)(w:World):(Fs.mapM λf=>(do pure (f.offset,<-sizeOf f.type):Sem (Nat×Nat))).run P w=.ok fs w:=by
 induction h with
 |n=>simp
 |c h t b=>simp_all
theorem IC.nil:IC P []:=⟨λ_ _ h=>(by cases h),λ_ _ h=>(by cases h),λ_ _ h=>(by cases h),λ_ _ h=>(by cases h)⟩
theorem IC.add{k:TK}{d:TypeDesc}(e:P.underlying t=some d)(hk:match k with
  |.i k=>d=.int k
  |.b=>d=.bool
  |.st fs=>∃Fs:Array Field,d=.struct Fs/\Fs.toList.map (·.offset)=fs.map (·.1)/\(∀(j:Nat) F,Fs[j]?=some F->∃m,fs[j]?=some (F.offset,m)/\∀w,(sizeOf F.type).run P w=.ok m w)/\∀w,(Fs.mapM λf=>(do pure (f.offset,<-sizeOf f.type):Sem (Nat×Nat))).run P w=.ok fs.toArray w
  |.s=>d=.string
  |.sl el=>d=.slice el
  |.x=>True) (l:∀w,(isAgg t).run P w=.ok a w) (g:∀w,(sizeOf t).run P w=.ok n w) (hz:∀w,(zeroValue t).run P w=.ok z w) (hc:aV (bT []) zs=some z.cells.toList) (h:IC P T):IC P ((t,⟨k,a,n,zs⟩)::T):=by
 refine⟨λc i b=>?_,λc i b=>?_,λc i b=>?_,λc i b=>?_⟩<;>simp only[zS] at b<;>split at b
 .grind[qN]
 .exact h.und c i b
 .grind[qN]
 .exact h.agg c i b
 .grind[qN]
 .exact h.size c i b
 .grind[qN]
 .exact h.zero c i b
theorem IC.st{fs:b6}{Fs:List Field}(b:P.underlying t=some (.struct Fs.toArray))(hk:StF P Fs fs)(d:∀w,(isAgg t).run P w=.ok a w)(c:∀w,(sizeOf t).run P w=.ok n w)(hz:∀w,(zeroValue t).run P w=.ok z w)(hc:aV (bT []) zs=some z.cells.toList)(h:IC P T):IC P ((t,⟨.st fs,a,n,zs⟩)::T):=
 IC.add (k:=.st fs) b ⟨Fs.toArray,rfl,by simpa using hk.off,λj F e=>hk.get j F aj,λw=>by
  have:=hk.run w;simp_all⟩ d c hz hc h
end
abbrev I(x:Int):SV:=.i .i64 x
section
variable {P:Program} {T:TT} {hT:IC P T} {n:Nat} {c:Ctx} {B0:Bl} {N:Act->World->Prop} {X:Nat->Act->World->Prop} {Q:Act->World->Prop} {K K':bg} {m m':Nat} {e e':SE} {L L':ao} {cf cf1 cf2:wV} {o:Oper} {Lv:ao} {d:Nat}
theorem ext_nil:cf.ext []=cf:=by cases cf<;>simp[wV.ext]
theorem pu{x:SV}(f:opS (jO T n K cf m e L)=some (o,Lv,cf1,cf2,K',m',e',L'))(h:o.dst=some d)(j:∀B a w,iC n B e' a->lS c w B Lv->∃v,fS B x=some v/\fH P o (vE B e') w v w)
  (k:G (.mk P T hT n c B0 N X Q) K' m' ((d,x)::e') L' cf2):G (.mk P T hT n c B0 N X Q) K m e L cf:=by
 refine g9 (g:=.mk P T hT n c B0 N X Q) ?_;have key:aIX (.mk P T hT n c B0 N X Q) K' m' e' L' o Lv cf1 cf2->G (.mk P T hT n c B0 N X Q) K' m' e' L' cf1:=λb=>by refine b d x [] (λ_=>[]) 0 h (λ_=>rfl) (λB a w l i _=>?_) (λB w L _ i=>aj) (by grind[ext_nil]);grind
 generalize jO T n K cf m e L=s at f;cases s<;>simp only[opS] at f<;>cases f
 .exact λ_ b=>key b
 .exact λ_ b _=>key b
theorem zQ{x:Operand}{k:IntKind}{i:Int}{B:Bl}{a:Act}(f:iC n B e a)(h:(jA e x).bind tF=some (k,i)):ev (vE B e) x=some (.int k i):=by
 cases b:jA e x with
 |none=>grind
 |some y=>
  grind[eV,a57]
section
variable {x y:Operand} {t z:TypeId} {k:IntKind} {i j:Int} {O:Type} {A:Option O} {q:O}
theorem bSY(l:opS (jO T n K cf m e L)=some (o,Lv,cf1,cf2,K',m',e',L'))(ho:(o.op,o.dst)=(.binOp .quo t x y z,some d))(h:(jA e' x).bind tF=some (k,i))(g:(jA e' y).bind tF=some (k,j))(b:need (j≠0) A=some q)
  (kk:A=some q->G (.mk P T hT n c B0 N X Q) K' m' ((d,.i k (k.wrap (i.tdiv j)))::e') L' cf2):G (.mk P T hT n c B0 N X Q) K m e L cf:=pu l (cS Prod.snd ho) (λB a w f _=>⟨_,rfl,a5W (cS Prod.fst ho) (zQ f h) (zQ f g) (mP b).1⟩) (kk (mP b).2)
theorem bSZ(l:opS (jO T n K cf m e L)=some (o,Lv,cf1,cf2,K',m',e',L'))(ho:(o.op,o.dst)=(.binOp .rem t x y z,some d))(h:(jA e' x).bind tF=some (k,i))(g:(jA e' y).bind tF=some (k,j))(b:need (j≠0) A=some q)
  (kk:A=some q->G (.mk P T hT n c B0 N X Q) K' m' ((d,.i k (i.tmod j))::e') L' cf2):G (.mk P T hT n c B0 N X Q) K m e L cf:=pu l (cS Prod.snd ho) (λB a w f _=>⟨_,rfl,a5X (cS Prod.fst ho) (zQ f h) (zQ f g) (mP b).1⟩) (kk (mP b).2)
theorem bQF{x:Operand}{l:bh}{B:Bl}{a:Act}(b:iC n B e a)(h:jA e x=some (.s l)):ev (vE B e) x=some (sv l):=by obtain⟨v,g,f⟩:=eV b h;cases g;exact f
theorem cat{p r:bh}(l:opS (jO T n K cf m e L)=some (o,Lv,cf1,cf2,K',m',e',L'))(ho:(o.op,o.dst)=(.binOp .add t x y z,some d))(h:jA e' x=some (.s p))(g:jA e' y=some (.s r))(b:need (p.length+r.length<=9223372036854775807) A=some q)
  (kk:A=some q->G (.mk P T hT n c B0 N X Q) K' m' ((d,.s (p++r))::e') L' cf2):G (.mk P T hT n c B0 N X Q) K m e L cf:=pu l (cS Prod.snd ho) (λB a w f _=>⟨_,rfl,bPP (cS Prod.fst ho) (bQF f h) (bQF f g) (mP b).1⟩) (kk (mP b).2)
theorem bLM{x:Operand}{cs:au}{vs:ar}{B:Bl}{a:Act}(l:iC n B e a)(h:(jA e x).map nbS=some (.g cs))(f:aV (bT []) cs=some vs):ev (vE B e) x=some (.agg vs.toArray):=by
 cases b:jA e x with
 |none=>grind
 |some y=>
  rw[b] at h;simp at h;obtain⟨v,r,p⟩:=eV l b;rw[p,<-r,<-aP2,h];simp only[fS,gV];have:=fL (g:=bT B) (λx v h=>by simpa using gR (B:=[]) B h) f;rw[this]
theorem eqS{xs l:au}{r p:ar}{fs:Array Field}{b:Bool}(E:P.eqGuardType P.depth t=false)(h:P.stoodInHeld t=false)(C:P.underlying t=some (.struct fs))(F:∀w,(Op.eqFields 9999 r.toArray p.toArray (match P.underlying t with|some (.struct fs)=>fs|_=>#[]).toList).run P w=.ok b w)(D:opS (jO T n K cf m e L)=some (o,Lv,cf1,cf2,K',m',e',L'))(ho:(o.op,o.dst)=(.binOp .eql t x y z,some d))(v:(jA e' x).map nbS=some (.g xs))(u:(jA e' y).map nbS=some (.g l))(g:aV (bT []) xs=some r)(f:aV (bT []) l=some p)
  (kk:G (.mk P T hT n c B0 N X Q) K' m' ((d,.b b)::e') L' cf2):G (.mk P T hT n c B0 N X Q) K m e L cf:=pu D (cS Prod.snd ho) (λB a w s _=>⟨_,rfl,bPU E h C F (cS Prod.fst ho) (bLM s v g) (bLM s u f)⟩) kk
theorem neS{xs p:au}{s r:ar}{fs:Array Field}{b:Bool}(F:P.eqGuardType P.depth t=false)(l:P.stoodInHeld t=false)(D:P.underlying t=some (.struct fs))(H:∀w,(Op.eqFields 9999 s.toArray r.toArray (match P.underlying t with|some (.struct fs)=>fs|_=>#[]).toList).run P w=.ok b w)(f:opS (jO T n K cf m e L)=some (o,Lv,cf1,cf2,K',m',e',L')/\(o.op,o.dst)=(.binOp .neq t x y z,some d)/\(jA e' x).map nbS=some (.g xs)/\(jA e' y).map nbS=some (.g p)/\aV (bT []) xs=some s/\aV (bT []) p=some r)
  (kk:G (.mk P T hT n c B0 N X Q) K' m' ((d,.b (!b))::e') L' cf2):G (.mk P T hT n c B0 N X Q) K m e L cf:=let ⟨E,ho,C,v,h,g⟩:=f;pu E (cS Prod.snd ho) (λB a w u _=>⟨_,rfl,bKO F l D H (cS Prod.fst ho) (bLM u C h) (bLM u v g)⟩) kk
theorem l6{O:Type}[aN O]{w:World}:aU (eF w) ⟨none,0⟩ ([]:List O):=bPT
theorem cl0{O β:Type}{a:Option O}{kf:O->Option β}{q:β}{f:FuncId}{xs:au}{sv:O->SV}(b:jO T n K cf m e L=.call o (some d) f xs cf1 cf2 K' m' e' L')
  (hc:∀{w},HS c w L'->∀{x},a=some x->Fn0 P f (eF w) xs sv x) (g:a.bind kf=some q)
  (k:∀x,a=some x->kf x=some q->G (.mk P T hT n c B0 N X Q) K' m' ((d,sv x)::e') L' cf2):G (.mk P T hT n c B0 N X Q) K m e L cf:=cl (Lf:=λ_ _=>[]) b (λ_ _=>rfl) (λh=>hc h) g (λx l hk _=>aj)
theorem lr{σ ρ υ O:Type}{id:Nat}{y:Code}{v:σ->Option (Step σ ρ)}{s0:σ}{r:ρ->Option O}{q:O}(f:υ)(g:av)(el:σ->υ->SE)(a is:av)(h:σ->υ->ao)
  (B:jO T n K cf m e L=.loop id y K' m' e' L') (D:(loop v s0).bind r=some q)
  (E:asT B0.length m' e' L' a m' (el s0 f++kp e' g) (h s0 f++kl L' is)=some (el s0 f++kp e' g,h s0 f++kl L' is))
  (w:∀ro,r ro=some q->∀s u o,v s=some o->(∀p,o=.stop p->p=ro)->G (.mk P T hT n c B0 (NxP n c B0 o m' (λs u=>el s u++kp e' g) (λs u=>h s u++kl L' is)) (BkP n c B0 ro (λb:Empty=>nomatch b) m' (λ(b:Empty) (_:Unit)=>nomatch b) (λb _=>nomatch b) id (XK (.mk P T hT n c B0 N X Q) K')) Q) [] m' (el s u++kp e' g) (h s u++kl L' is) (.c y)):G (.mk P T hT n c B0 N X Q) K m e L cf:=
 lp (β:=Empty) (ω:=Unit) f g el a is h (λb=>nomatch b) [] (λb=>nomatch b) [] (λb=>nomatch b) B D E (λro l s u o C ho=>by
  have:=w ro l s u o C ho;have H:(λ(b:Empty) (u:Unit)=>((λb=>nomatch b:Empty->Unit->SE) b u++kp e' []))=(λ(b:Empty) (_:Unit)=>nomatch b):=funext λb=>nomatch b
  have F:(λ(b:Empty) (u:Unit)=>((λb=>nomatch b:Empty->Unit->ao) b u++kl L' []))=(λ(b:Empty) (_:Unit)=>nomatch b):=funext λb=>nomatch b
  simp_all) (λb=>nomatch b)
end
end
section
variable {P:Program} {T:TT} {hT:IC P T} {n:Nat} {c:Ctx} {B0:Bl} {N:Act->World->Prop} {X:Nat->Act->World->Prop} {Q:Act->World->Prop} {K K':bg} {m m':Nat} {e e':SE} {L L':ao} {cf cf1 cf2:wV} {o:Oper} {Lv:ao} {d:Nat}
def Fu1(P:Program)(c:Ctx){O β:Type}{a:aN O}(C:GM O)(sr:β->SV)(g:FuncId)(cap:ar)(p:O->Option β):Prop:=(∀args w,(callFunc g args).run P w=.ok (.enter g args) w)/\∀w,eT c.W c.w0 w->∀x y,C.sub (All w) w x y->∀q,p x=some q->∀v,fS [] (C.sv x y)=some v->Calls P g (v::cap).toArray w (Ret λu w'=>fS [] (sr q)=some u/\lS (eF w) w' [] [])
def Fu2(P:Program)(c:Ctx){O a β:Type}{k:aN O}{j:aN a}(C:GM O)(i:GM a)(sr:β->SV)(g:FuncId)(cap:ar)(p:O->a->Option β):Prop:=(∀args w,(callFunc g args).run P w=.ok (.enter g args) w)/\∀w,eT c.W c.w0 w->∀x y b f,C.sub (All w) w x y->i.sub (All w) w b f->∀q,p x b=some q->∀v h,fS [] (C.sv x y)=some v->fS [] (i.sv b f)=some h->Calls P g (v::h::cap).toArray w (Ret λu w'=>fS [] (sr q)=some u/\lS (eF w) w' [] [])
theorem bFN{O:Type}{i:aN O}(C:GM O){w:World}{B:Bl}(f:lS c w B L){x:O}{y:C.ex}(h:C.sub c.S0 c.w0 x y):C.sub (All w) w x y:=by refine C.bV0 h (λb o a=>?_) (a6B f);obtain⟨⟨R,s1,_⟩,s0⟩:=f;exact s1.keep.cell b o (s0 b o a) λg=>s1.apart b o g a
theorem lS.bFO{w:World}{B:Bl}(a:lS c w B L):eT c.W c.w0 w:=by obtain⟨⟨R,s1,_⟩,s0⟩:=a;exact s1.keep
section
variable {O α' β γ:Type} {iR:aN O} {iR':aN α'} {C:GM O} {C':GM α'} {sr:β->SV} {g:FuncId} {cap:ar} {q:γ} {kf:β->Option γ} {fo:Operand} {args:Array Operand} {ats:Array TypeId}
theorem bFP{f:FuncId}{x:Operand}{b:Array TypeId}{vs:ar}{E:Env}{w:World}(a:∀args w,(callFunc f args).run P w=.ok (.enter f args) w)(ho:o.op=.call {callee:=.value x,args:=args,argTypes:=b})(h:ev E x=some (.func (.func f) #[] cap.toArray))(i:evs E args.toList=some vs):bPA P o E w f (vs++cap).toArray:=a2K (w:=w) (cap:=cap) (xs:=args.toList) (vs:=vs) a aa h i
theorem aYF{B:Bl}{x:SV}{v:Value}(h:BZ 0 x=true)(a:fS B x=some v):fS [] x=some v:=by have:=Y5 h a;grind
theorem fa1{p:O->Option β}(H:Fu1 P c C sr g cap p)(x:O)(y:C.ex)(R:jO T n K cf m e L=.op o Lv cf1 cf2 K' m' e' L')(ho:(o.op,o.dst)=(.call {callee:=.value fo,args:=args,argTypes:=ats},some d))(S:jA e' fo=some (.k (.func (.func g) #[] cap.toArray)))(A:(aV (jA e') args.toList).map nbT=some [C.sv x y])(hz:BZ 0 (C.sv x y)=true)(M:C.sub c.S0 c.w0 x y)(I:(p x).bind kf=some q)
  (k:∀z,p x=some z->kf z=some q->G (.mk P T hT n c B0 N X Q) K' m' ((d,sr z)::e') L' cf2):G (.mk P T hT n c B0 N X Q) K m e L cf:=by
 refine g9 (g:=.mk P T hT n c B0 N X Q) ?_;rw[R];intro t _ V;obtain⟨f,h⟩:=H;cases D:p x with
 |none=>grind
 |some z=>
  rw[D] at I;refine V Unit (λ_=>m') (λ_=>(d,sr z)::e') (λ_=>L') (λ_=>by simpa using vO (L:=L') []) (λB a w next Q' hm j E b=>?_) (λ_=>k z D I);cases i:aV (jA e') args.toList with
  |none=>grind
  |some ys=>
   rw[i] at A;simp at A;obtain⟨vs,r,Z⟩:=aGB j i;obtain⟨u,l,Y⟩:=eV j S;simp only[fS,gV,bT] at l;split at l
   .cases l;rw[<-a83,A] at r;simp only[aV] at r;cases F:fS (B0S (.mk P T hT n c B0 N X Q) cf1++B) (C.sv x y) with
    |none=>grind
    |some v=>
     rw[F] at r;cases r;have W:=bFP (w:=w) f (cS Prod.fst ho) Y Z;have U:o.dst=some d:=cS Prod.snd ho;unfold Oper.wp;rw[W _ a j.env,Oper.upon_enter];refine Calls.mono (h w E.bFO x y (bFN C E M) z D v (aYF hz F)) λen w' ⟨J,s,g1,g2⟩=>?_;subst s;rw[U] at t ⊢;have g3:=y7 (B0S (.mk P T hT n c B0 N X Q) cf1++B) g1;exact b () _ _ ⟨[],aj,by simpa using j.of aj (j.env.put (by grind[sH,y5]) J),by simpa using E.after (L2:=[]) rfl g2⟩
   .cases l
theorem fu1{w:World}{p:O->Option β}(hc:∀args w,(callFunc g args).run P w=.ok (.enter g args) w)(hn:∀{U:Ctx} {x y},C.sub U.S0 U.w0 x y->∀{q},p x=some q->Fn0 P g U [C.sv x y] sr q):Fu1 P (eF w) C sr g [] p:=
 ⟨hc,λa _ x y f q i v h=>by
  refine Calls.mono ((hn (U:=eF a) f i).run [v] (by simp[aV,h]) (aZ3 a)) λen w' ⟨b,l,y,k,j⟩=>⟨b,l,k,j⟩⟩
end
def roL:Nat->ct->ao
 |_,[]=>[]
 |k,(_,cs)::r=>.ro k cs::roL (k+1) r
def roS:ct->ao
 |[]=>[]
 |(n,cs)::r=>.ro n cs::roS r
def bFQ:Nat->ct->au
 |_,[]=>[]
 |k,_::r=>.p k 0::bFQ (k+1) r
def TU(Bs:Bl):ar:=Bs.map λb=>.pointer (some ⟨b.1,b.2,none⟩)
theorem rk{O:Type}[aN O]{w f:World}{s:AC}{l:List O}(hk:eT F0 w f)(h:aU (eF w) s l):aU (eF f) s l:=aN.rd_mono (aN.rd_agree h λb o a=>hk.cell b o a λh=>h) λb o a=>LN a hk.size
theorem fk1{O β:Type}{u:aN O}{C:GM O}{sr:β->SV}{g:FuncId}{w:World}{Bs:Bl}{cs:ct}{p:O->Option β}(hc:∀args w,(callFunc g args).run P w=.ok (.enter g args) w)(k:∀a,eT F0 w a->lS (eF a) a Bs (roL 0 cs))(hl:aV (fS Bs) (bFQ 0 cs)=some (TU Bs))(hz:∀q,BZ 0 (sr q)=true)(hn:∀{a x y},eT F0 w a->C.sub (All a) a x y->∀{q},p x=some q->FnS P g (eF a) (C.sv x y::bFQ 0 cs) Bs (roL 0 cs) (λr (_:Unit)=>sr r) (λ_ _=>[]) q):Fu1 P (eF w) C sr g (TU Bs) p:=
 ⟨hc,λa hk x y h q j v i=>by
  have b:fS Bs (C.sv x y)=some v:=by simpa using y7 (B:=[]) Bs i
  refine Calls.mono ((hn hk h j).run (v::TU Bs) (by grind[aV]) (k a hk)) λen w' ⟨f,s,t,z,l⟩=>⟨f,s,?_,?_⟩
  .grind[aYF]
  .simpa using aIW (m:=0) l rfl⟩
theorem a9A:∀{cs:ct} {k:Nat} {x:Ch},x∈roL k cs->∃j n c,cs[j]?=some (n,c)/\x=.ro (k+j) c
 |(n,c)::r,k,x,h=>by
  obtain h|h:=lO.1 h
  .simp_all
  .obtain⟨j,a,c',f,b⟩:=a9A h;exact⟨j+1,a,c',aj,aj⟩
theorem a9B:∀{cs:ct} {n:Nat} {c:au},(n,c)∈cs->Ch.ro n c∈roS cs
 |(a,c')::r,n,c,h=>by
  obtain h|h:=lO.1 h
  .cases h;exact aF7 ..
  .exact lZ _ (a9B h)
theorem bFR{B:Bl}{cs:ct}{cap:ar}:aV (aB2 B) (cs.map (·.1))=some cap->∃Bs:Bl,cap=TU Bs/\Bs.length=cs.length/\∀(j:Nat) n c,cs[j]?=some (n,c)->∃b,Bs[j]?=some b/\B[n]?=some b:=by
 induction cs generalizing cap with
 |nil=>intro h;cases h;exact⟨[],rfl,rfl,ae⟩
 |cons p r g=>
  obtain⟨n,c⟩:=p;intro h;simp only[LM,aV] at h;split at h
  .cases h
  .rename_i v a;split at h
   .cases h
   .rename_i vs f;cases h;obtain⟨Bs,k,i,t⟩:=g f;simp only[aB2] at a;split at a
    .rename_i b z s;cases a;refine⟨(b,z)::Bs,by simp[TU,k],by simp[i],λj l c' q=>?_⟩;grind
    .cases a
def aV6:ct->Bool
 |[]=>true
 |(_,c)::r=>BZ.okC 0 c && aV6 r
theorem a2V:∀{cs:ct} {j n:Nat} {c:au},aV6 cs=true->cs[j]?=some (n,c)->BZ.okC 0 c=true
 |(b,c')::r,0,n,c,h,a=>by simp_all[aV6]
 |(b,c')::r,j + 1,n,c,h,a=>by simp only[aV6,yV] at h;exact a2V h.2 (by simpa using a)
theorem bQG{w:World}{B Bs:Bl}{cs:ct}(J:lS c w B L)(hk:∀x∈roS cs,x∈L)(ho:aV6 cs=true)(S:∀(j:Nat) n c,cs[j]?=some (n,c)->∃b,Bs[j]?=some b/\B[n]?=some b):∀a,eT F0 w a->lS (eF a) a Bs (roL 0 cs):=by
 intro a A;have facts:∀x∈roL 0 cs,∃(f:Fact),f.P (All a) a/\(∀R,f∈R->roF Bs R x)/\l5 Bs x=QD:=by intro x H;obtain⟨j,n,cc,r,t⟩:=a9A H;subst t;obtain⟨⟨R,s1,F⟩,s0⟩:=J;obtain⟨b,z,vs,Y,W,V⟩:=F _ (hk _ (a9B (IA r)));obtain⟨b',G,D⟩:=S j n cc r;rw[Y] at D;cases D;have s:=E9 (a2V ho r) W;rw[List.take_zero] at s;obtain⟨i,I⟩:=aMZ V;refine⟨fAt b z vs,bOE (s1.fact i I) A,λR O=>⟨b,z,vs,by simpa using G,fL (λx v h=>by simpa using gR (B:=[]) Bs h) s,O⟩,rfl⟩
 have l:∀M:ao,(∀x∈M,x∈roL 0 cs)->∃R:bs,(∀f∈R,f.P (All a) a)/\(∀x∈M,roF Bs R x)/\M.map (l5 Bs)=List.replicate M.length QD:=by
  intro M;induction M with
  |nil=>exact λ_=>⟨[],ae,ae,rfl⟩
  |cons x M C=>
   intro E;obtain⟨R,r,t,u⟩:=C λy p=>E y (lZ _ p);obtain⟨f,f1,f2,Z⟩:=facts x (E x ae);refine⟨f::R,λg q=>?_,λy p=>?_,by simp[Z,u,List.replicate_succ]⟩
   .obtain q|q:=lO.1 q
    .subst q;exact f1
    .exact r g q
   .obtain p|p:=lO.1 p
    .subst p;exact f2 _ ae
    .exact aIU (λg q=>lZ _ q) (t y p)
 obtain⟨R,r,t,u⟩:=l (roL 0 cs) λ_ h=>h;refine⟨⟨R,?_,t⟩,λ_ _ h=>h⟩;rw[u];have U:St (eF a) a [] R:=St.enter r;generalize (roL 0 cs).length=k;clear u;induction k with
 |zero=>exact U
 |succ k C=>
  rw[List.replicate_succ'];exact St.more (ch:=QD) C (eT.refl _ _) ⟨F0,λ_ _ h=>h,λ_ _ h=>h.elim⟩
def shr(a:av):ao->ao
 |[]=>[]
 |.box n cs::L=>match gE n a with
  |true=>.box n cs::shr a L
  |false=>.ro n cs::shr a L
 |x::L=>x::shr a L
theorem St.bQH{w:World}{M:bj}{R:bs}{b z i:Nat}{vs:ar}(h:St c w M R)(q:M[i]?=some (cAt b z vs)):St c w (M.set i QD) (R++[fAt b z vs]):=by
 have j:=h.take i q;obtain⟨F,S,⟨l,A,j,s,r,k⟩,y,x,D,C,v⟩:=j.sep;have p:∀b' o,l b' o->b'<w.heap.size:=λ_ _ a=>Chunk.lt (cAt b z vs) j a;obtain⟨u,B,t⟩:=j;refine⟨h.keep,⟨A,λb o=>S b o\/l b o,s,?_,λb o a=>x b o ((k b o).2 (.inr a)),?_,?_,?_⟩,h.apart⟩
 .rintro b o a (g|g)
  .exact y b o ((k b o).2 (.inr a)) g
  .exact r b o g a
 .grind
 .grind
 .intro f a;obtain a|a:=dR.1 a
  .exact f.mono (v f a) λb o g=>.inl g
  .simp at a;subst a;exact⟨u,λo ho=>.inr ((t b o).2 ho)⟩
theorem aZ5{w:World}{B:Bl}(g:av):∀(M L:ao),lS c w B (M++L)->lS c w B (M++shr g L)
 |M,[],h=>h
 |M,x::L,h=>by
  have gen:lS c w B (M++x::shr g L):=by have:=aZ5 g (M++[x]) L (by simpa using h);grind
  cases x with
  |box n cs=>
   simp only[shr];split
   .exact gen
   .obtain⟨⟨R,s1,k⟩,s0⟩:=gen;have q:((M++Ch.box n cs::shr g L).map (l5 B))[M.length]?=some (Y3 B n cs):=by simp[l5]
    obtain⟨F,b,z,vs,s,r,C⟩:=s1.chunk (ch:=Y3 B n cs) M.length q;have u:=s1.imp (kC.put M.length q λF ⟨b',y,t,p,l,v⟩=>by
     rw[s] at p;cases p;rw[r] at l;cases l;exact v)
    have A:=u.bQH (b:=b) (z:=z) (vs:=vs) (i:=M.length) (by rw[List.getElem?_set_self];simp);refine⟨⟨R++[fAt b z vs],?_,λx a=>?_⟩,s0⟩
    .have:((M++Ch.ro n cs::shr g L).map (l5 B))=(((M++Ch.box n cs::shr g L).map (l5 B)).set M.length (cAt b z vs)).set M.length QD:=by simp[l5]
     grind
    .obtain a|a:=dR.1 a
     .exact aIU (λf j=>XD _ j) (k x (XD _ a))
     .obtain a|a:=lO.1 a
      .subst a;exact⟨b,z,vs,s,r,ae⟩
      .exact aIU (λf j=>XD _ j) (k x (aIK _ (lZ _ a)))
  |_=>exact gen
theorem mf{f:FuncId}{i:Array Operand}{ops:br}{l:cn}(b:av)(u:jO T n K cf m e L=.op o Lv (.r ops l) cf2 K' m' e' L')(ho:(o.op,o.dst)=(.makeFunc (.func f) #[] i,some d))(t:aV (jA e') i.toList=some (b.map λn=>.p n 0))
  (k:G (.mk P T hT n c B0 N X Q) K' m' ((d,.f f b)::e') (shr b L') cf2):G (.mk P T hT n c B0 N X Q) K m e L cf:=by
 refine g9 (g:=.mk P T hT n c B0 N X Q) ?_;rw[u];intro q _ x;refine x Unit (λ_=>m') (λ_=>(d,.f f b)::e') (λ_=>shr b L') (λ_=>trivial) (λB a w next I E p v j=>?_) (λ_=>k);obtain⟨vs,H,C⟩:=aGB p t;have r:o.dst=some d:=cS Prod.snd ho;have F:∀{b:av} {vs:ar},aV (fS (B0S (.mk P T hT n c B0 N X Q) (.r ops l)++B)) (b.map λn=>SV.p n 0)=some vs->aV (aB2 (B0S (.mk P T hT n c B0 N X Q) (.r ops l)++B)) b=some vs:=by
  intro b;induction b with
  |nil=>intro vs h;exact h
  |cons D b s=>
   grind[aV,aB2,fS,gV,bT]
 have A:∀{os:List Operand} {vs:ar},evs (vE (B0S (.mk P T hT n c B0 N X Q) (.r ops l)++B) e') os=some vs->os.map (ev (vE (B0S (.mk P T hT n c B0 N X Q) (.r ops l)++B) e'))=vs.map some:=by
  intro os;induction os with
  |nil=>intro vs h;cases h;rfl
  |cons o os s=>
   grind[evs]
 have z:=bKK (P:=P) (w:=w) (vf:=[]) (vc:=vs) (cS Prod.fst ho) rfl (A C);unfold Oper.wp;rw[z _ a p.env,Oper.upon_value,r];rw[r] at q;have y:fS (B0S (.mk P T hT n c B0 N X Q) (.r ops l)++B) (.f f b)=some (.func (.func f) #[] vs.toArray):=by grind[fS]
 exact j () _ _ ⟨[],aj,by simpa using p.of y (p.env.put (by grind[sH,y5]) _),by simpa using aZ5 b [] L' v⟩
theorem clc{O β:Type}{E:Option O}{kf:O->Option β}{q:β}{f g:FuncId}{xs xs0:au}{sv:O->SV}(is:av)(cs:ct)(hs:jO T n K cf m e L=.callp o (some d) f xs cf1 cf2 K' m' e' L')(hk:kl L' is=roS cs)(ho:(aV6 cs && okA xs.dropLast)=true)(V:xs=xs.dropLast++[.f g (cs.map (·.1))])
  (hc:∀{w},HS c w L'->∀{Bs:Bl},Bs.length=cs.length->(∀M,eT F0 w M->lS (eF M) M Bs (roL 0 cs))->∀{x},E=some x->Fn0 P f (eF w) (xs.dropLast++[.k (.func (.func g) #[] (TU Bs).toArray)]) sv x) (W:E.bind kf=some q)
  (k:∀x,E=some x->kf x=some q->G (.mk P T hT n c B0 N X Q) K' m' ((d,sv x)::e') L' cf2):G (.mk P T hT n c B0 N X Q) K m e L cf:=by
 refine g9 (g:=.mk P T hT n c B0 N X Q) ?_;rw[hs];intro fo' args ats J hd hf ⟨ys,F,H⟩ hdn hE;rw[yV] at ho;cases r:E with
 |none=>grind
 |some x=>
  rw[r] at W;refine hE Unit (λ_=>m') (λ_=>(d,sv x)::e') (λ_=>L') (λ_=>by simpa using vO (L:=L') []) (λB a w next Q' hm C R l=>?_) (λ_=>k x r W);obtain⟨vs,S,h2⟩:=aGB C F;obtain⟨v,Y,h4⟩:=eV C hf;simp[fS,aV] at Y;subst Y;rw[<-UC,H] at S;rw[V] at S;have split:∀{i:au} {b:SV} {vs:ar} {B:Bl},aV (fS B) (i++[b])=some vs->∃j v,aV (fS B) i=some j/\fS B b=some v/\vs=j++[v]:=by
   intro i;induction i with
   |nil=>
    grind[aV]
   |cons a i U=>
    intro b vs B h;simp only[H6,aV] at h;grind[aV]
  obtain⟨j,fv,g1,D,rfl⟩:=split S;simp only[fS] at D;split at D
  .rename_i cap A;cases D;obtain⟨Bs,b1,b2,b3⟩:=bFR A;subst b1;have z:∀x∈roS cs,x∈L':=λx V=>aRO (is:=is) aj;obtain⟨p,t⟩:=hc ⟨_,R⟩ b2 (bQG R z ho.1 b3) r;have s:∀{i:au} {j:ar} {b:SV} {v:Value},aV (fS []) i=some j->fS [] b=some v->aV (fS []) (i++[b])=some (j++[v]):=by
    intro i;induction i with
    |nil=>grind[aV]
    |cons a i U=>
     intro j b v h hb;simp only[aV] at h;split at h
     .cases h
     .rename_i u hu;split at h
      .cases h
      .rename_i Z I;cases h;simp[aV,hu,U I hb]
   have h5:=t (j++[.func (.func g) #[] (TU Bs).toArray]) (s (aIZ ho.2 g1) (by simp[fS,gV,bT,Value.oneCell'])) (aZ3 w);have h6:=XQ (w:=w) p J h4 h2;unfold Oper.wp;rw[h6 _ a C.env,Oper.upon_enter];refine Calls.mono h5 λen w' ⟨v,hv,y,e1,e2⟩=>?_;subst hv;rw[hd];have g3:=y7 (B0S (.mk P T hT n c B0 N X Q) cf1++B) e1;exact l () _ _ ⟨[],aj,by simpa using C.of aj (C.env.put (by grind[sH,y5]) v),by simpa using R.after (L2:=[]) rfl e2⟩
  .cases D
theorem HS.u1{O β:Type}{f:aN O}{C:GM O}{sr:β->SV}{g:FuncId}{cap:ar}{w:World}{p:O->Option β}(h:HS c w L)(H:Fu1 P c C sr g cap p):Fu1 P (eF w) C sr g cap p:=by obtain⟨B,b⟩:=h.ex;exact⟨H.1,λa hk=>H.2 a (b.bFO.trans hk λ_ _ _ h=>h.elim)⟩
theorem HS.u2{O a β:Type}{k:aN O}{f:aN a}{C:GM O}{b:GM a}{sr:β->SV}{g:FuncId}{cap:ar}{w:World}{p:O->a->Option β}(h:HS c w L)(H:Fu2 P c C b sr g cap p):Fu2 P (eF w) C b sr g cap p:=by obtain⟨B,j⟩:=h.ex;exact⟨H.1,λi hk=>H.2 i (j.bFO.trans hk λ_ _ _ h=>h.elim)⟩
theorem bVT{O β:Type}{j:Option O}{kf:O->Option β}{q:β}{f g:FuncId}{xs:au}{sv:O->SV}{a:Nat}{c1:au}(is:av)(p:jO T n K cf m e L=.callp o (some d) f xs cf1 cf2 K' m' e' L')(hk:kl L' is=[.ro a c1])(ho:(aV6 [(a,c1)] && okA xs.dropLast)=true)(l:xs=xs.dropLast++[.f g [a]])
  (hc:∀{w},HS c w L'->∀{b1:Nat×Nat},(∀b,eT F0 w b->lS (eF b) b [b1] [.ro 0 c1])->∀{x},j=some x->Fn0 P f (eF w) (xs.dropLast++[.k (.func (.func g) #[] (TU [b1]).toArray)]) sv x) (r:j.bind kf=some q)
  (k:∀x,j=some x->kf x=some q->G (.mk P T hT n c B0 N X Q) K' m' ((d,sv x)::e') L' cf2):G (.mk P T hT n c B0 N X Q) K m e L cf:=
 clc (xs0:=[]) is [(a,c1)] p hk ho l (λh s hl i=>match s,hl,i with|[_],_,i=>hc h i) r k
theorem bVU{O β:Type}{p:Option O}{kf:O->Option β}{q:β}{f g:FuncId}{xs:au}{sv:O->SV}{b a:Nat}{c1 i:au}(is:av)(t:jO T n K cf m e L=.callp o (some d) f xs cf1 cf2 K' m' e' L')(hk:kl L' is=[.ro b c1,.ro a i])(ho:(aV6 [(b,c1),(a,i)] && okA xs.dropLast)=true)(s:xs=xs.dropLast++[.f g [b,a]])
  (hc:∀{w},HS c w L'->∀{b1 r:Nat×Nat},(∀j,eT F0 w j->lS (eF j) j [b1,r] [.ro 0 c1,.ro 1 i])->∀{x},p=some x->Fn0 P f (eF w) (xs.dropLast++[.k (.func (.func g) #[] (TU [b1,r]).toArray)]) sv x) (u:p.bind kf=some q)
  (k:∀x,p=some x->kf x=some q->G (.mk P T hT n c B0 N X Q) K' m' ((d,sv x)::e') L' cf2):G (.mk P T hT n c B0 N X Q) K m e L cf:=
 clc (xs0:=[]) is [(b,c1),(a,i)] t hk ho s (λh v hl l=>match v,hl,l with|[_,_],_,l=>hc h l) u k
end
section
variable {P:Program} {T:TT} {hT:IC P T} {n:Nat} {c:Ctx} {B0:Bl} {N:Act->World->Prop} {X:Nat->Act->World->Prop} {Q:Act->World->Prop} {K K':bg} {m m':Nat} {e e':SE} {L L':ao} {cf cf1 cf2:wV} {o:Oper} {Lv:ao} {d:Nat}
variable {x y z:Operand} {t t2:TypeId} {k k2:IntKind} {i j:Int} {O β:Type} {A:Option β} {q:β}
theorem bLN(h:opS (jO T n K cf m e L)=some (o,Lv,cf1,cf2,K',m',e',L'))(ho:(o.op,o.dst)=(.call {callee:=.builtin .min,args:=#[x,y],argTypes:=#[t,t2]},some d))(g:(jA e' x).bind tF=some (.i64,i))(f:(jA e' y).bind tF=some (k,j))
  (kk:G (.mk P T hT n c B0 N X Q) K' m' ((d,.i .i64 (if j<i then j else i))::e') L' cf2):G (.mk P T hT n c B0 N X Q) K m e L cf:=pu h (cS Prod.snd ho) (λB a w b _=>⟨_,rfl,bPV (cS Prod.fst ho) (zQ b g) (zQ b f)⟩) kk
theorem bQI(h:opS (jO T n K cf m e L)=some (o,Lv,cf1,cf2,K',m',e',L'))(ho:(o.op,o.dst)=(.call {callee:=.builtin .max,args:=#[x,y],argTypes:=#[t,t2]},some d))(g:(jA e' x).bind tF=some (.i64,i))(f:(jA e' y).bind tF=some (k,j))
  (kk:G (.mk P T hT n c B0 N X Q) K' m' ((d,.i .i64 (if i<j then j else i))::e') L' cf2):G (.mk P T hT n c B0 N X Q) K m e L cf:=pu h (cS Prod.snd ho) (λB a w b _=>⟨_,rfl,bPW (cS Prod.fst ho) (zQ b g) (zQ b f)⟩) kk
section
variable {l:bh} {b1:Bool} {n1:Nat} {z1:au}
theorem bS1(f:zS T t=some ⟨.s,b1,n1,z1⟩)(hT:IC P T):P.underlying t=some .string:=by obtain⟨g,b,a⟩:=hT.und _ _ f;grind
theorem qsi{kf:UInt8->Option β}(s:opS (jO T n K cf m e L)=some (o,Lv,cf1,cf2,K',m',e',L'))(ho:(o.op,o.dst)=(.index t x y,some d))(r:zS T t=some ⟨.s,b1,n1,z1⟩)(p:jA e' x=some (.s l))(h:(jA e' y).bind tF=some (k,i))(f:(idx l i).bind kf=some q)
  (kk:∀u,idx l i=some u->kf u=some q->G (.mk P T hT n c B0 N X Q) K' m' ((d,.y u)::e') L' cf2):G (.mk P T hT n c B0 N X Q) K m e L cf:=by
 cases b:idx l i with
 |none=>grind
 |some u=>
  rw[b] at f;exact pu s (cS Prod.snd ho) (λB a w g _=>⟨_,rfl,bKV (bS1 r hT) b (cS Prod.fst ho) (bQF g p) (zQ g h)⟩) (kk u b f)
end
section
variable [aN O] {s:AC} {l:List O} {el:TypeId} {b1 b2:Bool} {n1 sz:Nat} {z1 z2:au} {kt:TK}
theorem hdB{B:Bl}{a:Act}(b:iC n B e a){ln:Nat}(h:jA e x=some (.h s ln)):ev (vE B e) x=some (s.v ln):=by obtain⟨v,g,f⟩:=eV b h;cases g;exact f
theorem ID(f:zS T t=some ⟨.sl el,b1,n1,z1⟩)(hT:IC P T):P.underlying t=some (.slice el):=by obtain⟨g,b,a⟩:=hT.und _ _ f;grind
theorem qsb{a b:Nat}(r:aU c s l)(p:a<=b/\b<=l.length)(u:opS (jO T n K cf m e L)=some (o,Lv,cf1,cf2,K',m',e',L'))(C:o.dst=some d)(v:∀B g w,iC n B e' g->aN.rd c.S0 w [s.v l.length] l->fH P o (vE B e') w (jF (aN.n O) a b (s.v l.length)) w)
  (kk:∀s',aU c s' ((l.take b).drop a)->G (.mk P T hT n c B0 N X Q) K' m' ((d,.h s' ((l.take b).drop a).length)::e') L' cf2):G (.mk P T hT n c B0 N X Q) K m e L cf:=by have h:=a50 (n:=aN.n O) (a:=a) (b:=b) rfl r p.1 p.2;obtain⟨I,H,F,_⟩:=aRG h;rw[F] at h;exact pu u C (λB g w E D=>⟨_,by grind[fS,gV,bT],v B g w E (aZ4 D (f:=fRd [s.v l.length] l) r)⟩) (kk ⟨I,H⟩ h)
theorem a6C(u:opS (jO T n K cf m e L)=some (o,Lv,cf1,cf2,K',m',e',L'))(ho:(o.op,o.dst)=(.slice t x (some y) (some z) none,some d))(r:zS T t=some ⟨.sl el,b1,n1,z1⟩)(v:zS T el=some ⟨kt,b2,sz,z2⟩)(hn:aN.n O=sz)(D:aU c s l)(p:jA e' x=some (.h s l.length))(g:(jA e' y).bind tF=some (k,i))(hz:(jA e' z).bind tF=some (k2,j))(b:need (0<=i/\i<=j/\j<=(l.length:Int)) A=some q)
  (kk:A=some q->∀s',aU c s' ((l.take j.toNat).drop i.toNat)->G (.mk P T hT n c B0 N X Q) K' m' ((d,.h s' ((l.take j.toNat).drop i.toNat).length)::e') L' cf2):G (.mk P T hT n c B0 N X Q) K m e L cf:=by have C:=(mP b).1;subst hn;exact qsb D aa u (cS Prod.snd ho) (λB f w a h=>bBL h rfl (ID r hT) (hT.size _ _ v) C (cS Prod.fst ho) (hdB a p) (zQ a g) (zQ a hz)) (kk (mP b).2)
theorem a9C(r:opS (jO T n K cf m e L)=some (o,Lv,cf1,cf2,K',m',e',L'))(ho:(o.op,o.dst)=(.slice t x none (some z) none,some d))(p:zS T t=some ⟨.sl el,b1,n1,z1⟩)(u:zS T el=some ⟨kt,b2,sz,z2⟩)(hn:aN.n O=sz)(C:aU c s l)(g:jA e' x=some (.h s l.length))(hz:(jA e' z).bind tF=some (k2,j))(a:need (0<=j/\j<=(l.length:Int)) A=some q)
  (kk:A=some q->∀s',aU c s' ((l.take j.toNat).drop 0)->G (.mk P T hT n c B0 N X Q) K' m' ((d,.h s' ((l.take j.toNat).drop 0).length)::e') L' cf2):G (.mk P T hT n c B0 N X Q) K m e L cf:=by have v:=(mP a).1;subst hn;exact qsb C aa r (cS Prod.snd ho) (λB f w b h=>bEM h rfl (ID p hT) (hT.size _ _ u) v (cS Prod.fst ho) (hdB b g) (zQ b hz)) (kk (mP a).2)
end
section
variable {zv:Value} {n1 m1:Nat} {el:TypeId}
theorem bFS{B:Bl}{xs:au}{vs:ar}(h:aV (fS []) xs=some vs):aV (fS B) xs=some vs:=fL (λx v h=>by simpa using y7 (B:=[]) B h) h
theorem qba{ps:Array (Nat×Operand)}{xs:au}{vs cells:ar}(cs:au)(hz:∀w,(zeroValue t).run P w=.ok zv w)(r:P.underlying t=some (.array n1 el))(u:∀w,(sizeOf el).run P w=.ok m1 w)(s:opS (jO T n K cf m e L)=some (o,Lv,cf1,cf2,K',m',e',L'))(ho:(o.op,o.dst)=(.build t ps,some d))(p:aV (jA e') (ps.toList.map (·.2))=some xs)(b:aV (fS []) xs=some vs)(f:aV (bT []) cs=some cells)(hc:Instr.fill (λi=>some (i*m1,m1)) zv.cells ((ps.toList.map (·.1)).zip vs)=some cells.toArray)
  (kk:G (.mk P T hT n c B0 N X Q) K' m' ((d,.g cs)::e') L' cf2):G (.mk P T hT n c B0 N X Q) K m e L cf:=
 pu s (cS Prod.snd ho) (λB a w C _=>⟨.agg cells.toArray,by
  simp only[fS,gV];rw[fL (g:=bT B) (λx v h=>by simpa using gR (B:=[]) B h) f],by
  obtain⟨E,l,D⟩:=aGB C p;rw[bFS b] at l;cases l;exact bBM (ps:=ps.toList) (by simp_all) hz r u D hc⟩) kk
theorem qai{γ:Type}(f:γ->Value)(g:γ->SV){l:List γ}{cs:au}{kf:γ->Option β}(H:P.underlying t=some (.array n1 el))(hz:∀w,(sizeOf el).run P w=.ok 1 w)(J:∀w,(isAgg el).run P w=.ok false w)(b:∀u,fS [] (g u)=some (f u))(I:opS (jO T n K cf m e L)=some (o,Lv,cf1,cf2,K',m',e',L'))(ho:(o.op,o.dst)=(.index t x y,some d))(F:jA e' x=some (.g cs))(p:aV (bT []) cs=some (l.map f))(hn:l.length=n1)(E:(jA e' y).bind tF=some (k,i))(C:(idx l i).bind kf=some q)
  (kk:∀u,idx l i=some u->kf u=some q->G (.mk P T hT n c B0 N X Q) K' m' ((d,g u)::e') L' cf2):G (.mk P T hT n c B0 N X Q) K m e L cf:=by
 cases r:idx l i with
 |none=>grind
 |some u=>
  rw[r] at C;refine pu I (cS Prod.snd ho) (λB a w D _=>⟨f u,by simpa using y7 (B:=[]) B (b u),?_⟩) (kk u r C);obtain⟨v,s,M⟩:=eV D F;simp only[fS,gV] at s;rw[fL (g:=bT B) (λx v h=>by simpa using gR (B:=[]) B h) p] at s;cases s;exact bPY f H hz J r hn rfl (cS Prod.fst ho) M (zQ D E)
end
end
section
variable {P:Program} {T:TT} {hT:IC P T} {n:Nat} {c:Ctx} {B0:Bl} {N:Act->World->Prop} {X:Nat->Act->World->Prop} {Q:Act->World->Prop} {K K':bg} {m m':Nat} {e e':SE} {L L':ao} {cf cf1 cf2:wV} {o:Oper} {Lv:ao} {d:Nat}
theorem chg{g:Gx}{ι:Type}(v:ι->Nat)(A:ι->SE)(L2:ι->ao)(h:∀B a w,B.length=m->iC g.n B e a->lS g.c w B L->∃i B',(B++B').length=v i/\iC g.n (B++B') (A i) a/\lS g.c w (B++B') (L2 i))
  (hz:∀i,Frz g cf L (L2 i)) (k:∀i,G g K (v i) (A i) (L2 i) cf):G g K m e L cf:=by
 have key:∀a w,Rel g m e L a w->∃i,Rel g (v i) (A i) (L2 i) a w:=λa w ⟨B,s,q,p⟩=>by obtain⟨i,B',E,D,C⟩:=h _ a w s q p;exact⟨i,B++B',aj,aj,aj⟩
 cases cf with
 |n=>exact λa w f=>let ⟨i,j⟩:=key a w f;k i a w j
 |c x=>exact λa w f=>let ⟨i,j⟩:=key a w f;k i a w j
 |r ops l=>exact λa w f=>let ⟨i,j⟩:=key a w f;k i a w j
 |d B1 ops l is Lf Lv=>
  refine λb a w ⟨B,s,q,p,z⟩=>?_;obtain⟨i,B',E,D,C⟩:=h _ a w s q p;obtain⟨u,t⟩:=hz i b;exact k i ⟨b.pre,b.len,b.free,u,t,b.okf,b.ap⟩ a w ⟨B++B',aj,aj,aj,λw' y=>by
   have:=(z w' y).app B';grind⟩
 |o B1 ops l is Lf Lv ii=>
  refine λb a w ⟨B,s,q,p,z⟩=>?_;obtain⟨i,B',E,D,C⟩:=h _ a w s q p;obtain⟨u,t⟩:=hz i b;exact k i ⟨b.pre,b.len,b.free,u,t,b.okf,b.ap⟩ a w ⟨B++B',aj,aj,aj,λw' y=>by
   have:=(z w' y).app B';grind⟩
theorem mks{O β:Type}[aN O]{x y:Operand}{t el sz:Nat}{i:Int}{C:Value}{b1:Bool}{I:Nat}{F:au}{A:Option β}{q:β}(f:O)(l:Inf P el sz C)(u:∀w,aN.own w C.cells.toList f F0)(r:jO T n K cf m e L=.op o Lv cf1 cf2 K' m' e' L'/\(o.op,o.dst)=(.makeSlice t x y,some d)/\zS T t=some ⟨.sl el,b1,I,F⟩/\aN.n O=sz/\C.cells.size=sz/\(jA e' x).bind tF=some (.i64,i)/\(jA e' y).bind tF=some (.i64,i))(D:need (0<=i/\i<=4294967296) A=some q)
  (k:A=some q->∀s':AC,G (.mk P T hT n c B0 N X Q) K' m' ((d,.h s' (List.replicate i.toNat f).length)::e') (L'++[ow s' (List.replicate i.toNat f)]) cf2):G (.mk P T hT n c B0 N X Q) K m e L cf:=by
 obtain⟨V,ho,U,W,s,j,S⟩:=r;refine g9 (g:=.mk P T hT n c B0 N X Q) ?_;rw[V];intro E _ hE;refine hE AC (λ_=>m') (λs'=>(d,.h s' (List.replicate i.toNat f).length)::e') (λs'=>L'++[ow s' (List.replicate i.toNat f)]) (λ_=>vO _) (λB a w next Q' hm p hS h=>?_) (k (mP D).2);obtain⟨⟨R,H,s2⟩,s0⟩:=hS;have Y:o.dst=some d:=cS Prod.snd ho;obtain⟨v,w',M,J⟩:=bEJ f H W (ID U hT) l s u (mP D).1 (cS Prod.fst ho) (zQ p j) (zQ p S);have z:∃s':AC,v=s'.v (List.replicate i.toNat f).length:=by have h1:=J.a8J (cs:=[v]) (d:=List.replicate i.toNat f) (L'.map (l5 (B0S (.mk P T hT n c B0 N X Q) cf1++B))).length ae;obtain⟨ad,cp,h2,_⟩:=aRG h1;exact⟨⟨ad,cp⟩,h2⟩
 obtain⟨s',rfl⟩:=z;unfold Oper.wp;rw[M _ a p.env,Oper.upon_value,Y];refine h s' _ _ ⟨[],aj,by simpa using p.of (by simp[fS,gV,bT]) (p.env.put (by grind[sH,y5]) _),⟨⟨R,by grind[l5],λx j=>?_⟩,λb o Z=>LN (s0 b o Z) (jE _)⟩⟩;obtain j|j:=dR.1 j
 .grind
 .simp at j;subst j;exact trivial
end
def wV.zU:wV->av
 |.d _ _ _ is _ _=>is
 |.o _ _ _ is _ _ _=>is
 |_=>[]
def aE1{L M:ao}{j:Nat}{z:Ch}:∀{is:av},(∀i∈is,i<L.length)->gE j is=true->kl (L.set j z++M) is=kl L is
 |[],_,_=>rfl
 |i::is,h,c=>by
  have a:=h i ae;have g:=aRS c;have b:j≠i:=λd=>g (by simp[d]);have f:(L.set j z++M)[i]?=L[i]?:=aj
  have e:gE j is=true:=by grind[gE]
  simp only[kl,f,aE1 (λi a=>h i (lZ _ a)) e]
def a9D{L M:ao}:∀{is:av},(∀i∈is,i<L.length)->kl (L++M) is=kl L is
 |[],_=>rfl
 |i::is,h=>by simp only[kl,List.getElem?_append_left (h i ae),a9D (M:=M) (λi a=>h i (lZ _ a))]
def aZ6{g:Gx}{cf:wV}{L M:ao}{j:Nat}{z:Ch}(hn:gE j cf.zU=true):Frz g cf L (L.set j z++M):=by
 cases cf with
 |d B1 ops l is Lf Lv=>
  exact λa=>⟨(aE1 a.rng hn).trans a.zU,λi b=>by have:=a.rng i b;simp;omega⟩
 |o B1 ops l is Lf Lv i=>
  exact λa=>⟨(aE1 a.rng hn).trans a.zU,λi b=>by have:=a.rng i b;simp;omega⟩
 |_=>trivial
theorem a2W{c:Ctx}{w:World}{A:bj}{R:bs}(h:St c w A R):St c w (A++[QD]) R:=by obtain⟨F,S,a,rest⟩:=h.sep;exact⟨h.keep,⟨F,S,Sep.append.2 ⟨F,F0,a,Sep.one.2 (λ_ _ h=>h),λ_ _ _ h=>h,λb o=>by simp[F0]⟩,rest⟩,h.apart⟩
structure CO (O:Type) [aN O] where
 ex:Type
 cs:O->ex->au
 Lx:O->ex->ao
 op:∀{w F ec q},aN.own w ec q F->∃y,aV (bT []) (cs q y)=some ec
 pk:∀{q y ec},aV (bT []) (cs q y)=some ec->OP ec q ((Lx q y).map (l5 []))
 no:∀q y,noF (Lx q y)=true
 nb:∀q y B,(Lx q y).map (l5 B)=(Lx q y).map (l5 [])
section
variable {P:Program} {T:TT} {hT:IC P T} {n:Nat} {c:Ctx} {B0:Bl} {N:Act->World->Prop} {X:Nat->Act->World->Prop} {Q:Act->World->Prop} {K K':bg} {m m':Nat} {e e':SE} {L L':ao} {cf cf1 cf2:wV} {o:Oper} {Lv:ao} {d:Nat}
theorem bVW{g:Gx}{ι:Type}(v:ι->Nat)(y:ι->SE)(L2:ι->ao)(D:ι->ao)(h:∀B a w,B.length=m->iC g.n B e a->lS g.c w B L->∃i B',(B++B').length=v i/\iC g.n (B++B') (y i) a/\lS g.c w (B++B') (L2 i)/\∀w' M,lS g.c w' B M->lS g.c w' (B++B') (M++D i))
  (hz:∀i,Frz g cf L (L2 i)) (k:∀i,G g K (v i) (y i) (L2 i) (cf.ext (D i))):G g K m e L cf:=by
 have key:∀a w,Rel g m e L a w->∃i,Rel g (v i) (y i) (L2 i) a w:=λa w ⟨B,s,q,p⟩=>by obtain⟨i,B',C,A,z,_⟩:=h _ a w s q p;exact⟨i,B++B',aj,aj,aj⟩
 cases cf with
 |n=>exact λa w f=>let ⟨i,j⟩:=key a w f;k i a w j
 |c x=>exact λa w f=>let ⟨i,j⟩:=key a w f;k i a w j
 |r ops l=>exact λa w f=>let ⟨i,j⟩:=key a w f;k i a w j
 |d B1 ops l is Lf Lv=>
  refine λb a w ⟨B,s,q,p,H⟩=>?_;obtain⟨i,B',C,A,z,E⟩:=h _ a w s q p;obtain⟨u,t⟩:=hz i b;exact k i ⟨b.pre,b.len,b.free,u,t,b.okf,b.ap⟩ a w ⟨B++B',aj,aj,aj,λw' F=>by
   grind⟩
 |o B1 ops l is Lf Lv ii=>
  refine λb a w ⟨B,s,q,p,H⟩=>?_;obtain⟨i,B',C,A,z,E⟩:=h _ a w s q p;obtain⟨u,t⟩:=hz i b;exact k i ⟨b.pre,b.len,b.free,u,t,b.okf,b.ap⟩ a w ⟨B++B',aj,aj,aj,λw' F=>by
   grind⟩
abbrev Shp(s:AC)(len:Nat):Prop:=∃b off m,s.v len=.slice (some ⟨b,off,none⟩) len m/\len<=maxLen
abbrev wOf(O:Type)[aN O](nb:Nat)(s:AC)(len i:Nat):Ch:=.w nb (elB (s.v len)) (elO (aN.n O) i (s.v len))
theorem oe{O β:Type}[aN O](E:CO O)(j:Nat){t:TypeId}{s:AC}{i:Int}{ls:List O}{kf:O->Option β}{q:β}(J:jO T n K cf m e L=.idx o d t s ls.length i Lv cf1 cf2 K' m' e' L')(U:L'[j]?=some (ow s ls))(hz:gE j cf1.zU=true)(D:(idx ls i).bind kf=some q)
  (k:∀x,idx ls i=some x->kf x=some q->∀y:E.ex,Shp s ls.length->G (.mk P T hT n c B0 N X Q) K' (m'+1) e' (L'.set j .no++([.o (vD (s.v ls.length) ls i.toNat),.box m' (E.cs x y),wOf O m' s ls.length i.toNat]++E.Lx x y)) (cf1.ext [wOf O m' s ls.length i.toNat])):G (.mk P T hT n c B0 N X Q) K m e L cf:=by
 refine g9 (g:=.mk P T hT n c B0 N X Q) ?_;rw[J];intro x' y' ho hd hx hy hP;cases u:idx ls i with
 |none=>grind
 |some x=>
  rw[u] at D;refine bVW (λ_=>m'+1) (λ_=>e') (λy:{y:E.ex // Shp s ls.length}=>L'.set j .no++([.o (vD (s.v ls.length) ls i.toNat),.box m' (E.cs x y.1),wOf O m' s ls.length i.toNat]++E.Lx x y.1)) (λ_=>[wOf O m' s ls.length i.toNat]) (λB a w S Y V=>?_) (λy=>aZ6 hz) (λy=>k x u D y.1 y.2);obtain⟨⟨R,s1,s2⟩,s0⟩:=V;have p:(L'.map (l5 B))[j]?=some (fF [s.v ls.length] ls):=by simp[U,l5]
  obtain⟨ec,A⟩:=s1.open j p (D2 u).2.2;have C:((L'.map (l5 B)).set j QD).length=L'.length:=ae
  have l:Shp s ls.length:=bKS (k:=i.toNat) A L'.length ae;obtain⟨F,r⟩:=A.chunk (L'.length+2) (by rw[aXZ aa];simp;rfl);obtain⟨y,f⟩:=E.op (show aN.own w ec x F from r);have H:=A.unpack (L'.length+2) ae (E.pk f);have b:((L'.map (l5 B)).set j QD++[vD (s.v ls.length) ls i.toNat,cAt (elB (s.v ls.length)) (elO (aN.n O) i.toNat (s.v ls.length)) ec,fF ec x]).set (L'.length+2) QD=(L'.map (l5 B)).set j QD++[vD (s.v ls.length) ls i.toNat,cAt (elB (s.v ls.length)) (elO (aN.n O) i.toNat (s.v ls.length)) ec,QD]:=ae
  rw[b] at H;refine⟨⟨y,l⟩,[(elB (s.v ls.length),elO (aN.n O) i.toNat (s.v ls.length))],by simp[S],Y.app _,⟨⟨R,?_,λz hz=>?_⟩,s0⟩,λw' M W=>?_⟩
  .have Z:(L'.set j Ch.no).map (l5 B)=(L'.map (l5 B)).set j QD:=by rw[PX];rfl
   refine H.imp ?_;rw[vC,vC,<-Z,qM];refine kC.append (aEX _ _) (kC.append (.cons (λ_ h=>h) (.cons (λF h=>⟨_,_,ec,aj,fL (λx v h=>by simpa using gR (B:=[]) _ h) f,h⟩) (.cons (λ_ h=>h) .nil))) ?_);have:=aEX (B:=[]) (B++[(elB (s.v ls.length),elO (aN.n O) i.toNat (s.v ls.length))]) (w:=w) (E.Lx x y);grind
  .obtain hz|hz:=dR.1 hz
   .obtain hz|hz:=tD hz
    .grind[aZX]
    .subst hz;trivial
   .obtain hz|hz:=dR.1 hz
    .simp at hz;obtain rfl|rfl|rfl:=hz
     .trivial
     .trivial
     .show(B++_)[m']?=_;grind
    .exact aRU (E.no x y) z hz
  .obtain⟨⟨R',t1,t2⟩,I⟩:=W.app [(elB (s.v ls.length),elO (aN.n O) i.toNat (s.v ls.length))];refine⟨⟨R',by grind[l5,a2W],λz hz=>?_⟩,I⟩;obtain hz|hz:=dR.1 hz
   .grind
   .simp at hz;subst hz;show(B++_)[m']?=_;grind
theorem ie{O:Type}[aN O](p:Nat){t el sz:Nat}{s:AC}{i:Int}{ls:List O}{x:O}{nb:Nat}{b1 Y:Bool}{r:Nat}{l j:au}{y:TK}(b:Shp s ls.length)(E:jO T n K cf m e L=.idx o d t s ls.length i Lv cf1 cf2 K' m' e' L')(F:idx ls i=some x)(C:Lv[p]?=some (wOf O nb s ls.length i.toNat))(D:zS T t=some ⟨.sl el,b1,r,l⟩)(H:zS T el=some ⟨y,Y,sz,j⟩)(hn:aN.n O=sz)
  (k:G (.mk P T hT n c B0 N X Q) K' m' ((d,.p nb 0)::e') L' cf2):G (.mk P T hT n c B0 N X Q) K m e L cf:=by refine g9 (g:=.mk P T hT n c B0 N X Q) ?_;rw[E];intro x' Z ho I A z J;subst hn;refine J d (.p nb 0) [] (λ_=>[]) 0 I (λ_=>rfl) (λB a w h f hm=>?_) (λB w L _ f=>aj) (by grind[ext_nil]);obtain⟨v,W,V⟩:=eV h A;obtain⟨u,U,S⟩:=eV h z;cases W;cases U;obtain⟨⟨R,s1,q⟩,s0⟩:=f;have M:B[nb]?=some (elB (s.v ls.length),elO (aN.n O) i.toNat (s.v ls.length)):=q _ (IA C);exact⟨_,by simp[fS,gV,bT,M],bKT (P:=P) (o:=o) (w:=w) b rfl F (ID D hT) (hT.size _ _ H) ho V S⟩
def L5:ao->av->ao
 |L,[]=>L
 |L,i::r=>L5 (L.set i .no) r
theorem MU{B:Bl}:∀(js:av) (L:ao),(L5 L js).map (l5 B)=blank (L.map (l5 B)) js
 |[],L=>rfl
 |j::js,L=>by simp only[L5,blank];rw[MU js,PX];rfl
theorem UD{x:Ch}:∀(js:av) (L:ao),x∈L5 L js->x∈L\/x=.no
 |[],L,h=>.inl h
 |j::js,L,h=>by
  obtain h|h:=UD js _ h
  .exact tD h
  .exact .inr h
theorem Y6{g:Gx}{cf:wV}{M:ao}:∀(js:av) {L:ao},(js.all λj=>gE j cf.zU)=true->Frz g cf L (L5 L js++M):=by
 intro js L b;have a:∀{B1:Bl} {ops:br} {l:aF} {is:av} {Lf:ao},(js.all λj=>gE j is)=true->aLA g B1 ops l is Lf L->kl (L5 L js++M) is=Lf/\∀j∈is,j<(L5 L js++M).length:=by
  intro B1 ops l is Lf b f;have key:∀(js:av) (L:ao),(js.all λj=>gE j is)=true->(∀i∈is,i<L.length)->kl (L5 L js++M) is=kl L is/\(L5 L js).length=L.length:=by
   intro js;induction js with
   |nil=>
    intro L _ h;exact⟨a9D h,rfl⟩
   |cons j js q=>
    intro L b h;simp only[aF3,yV] at b;obtain⟨r,t⟩:=q (L.set j .no) b.2 (λi k=>aj);refine⟨r.trans ?_,by grind[L5]⟩;have:=aE1 (M:=[]) (z:=.no) h b.1;grind
  obtain⟨p,s⟩:=key js L b f.rng;exact⟨p.trans f.zU,λi k=>by have:=f.rng i k;grind⟩
 cases cf with
 |d B1 ops l is Lf Lv=>exact λf=>a b f
 |o B1 ops l is Lf Lv i=>exact λf=>a b f
 |_=>trivial
def ovh(v:SV)(e:SE):av->SE
 |[]=>e
 |k::a=>(k,v)::ovh v e a
theorem aZ7{v:SV}{B:Bl}{a:Act}:∀(b:av),aV (GK e) b=some (b.map λ_=>v)->iC n B e a->iC n B (ovh v e b) a:=by
 intro b;have key:∀(b:av),aV (GK e) b=some (b.map λ_=>v)->∀k∈b,GK e k=some v:=by
  intro b;induction b with
  |nil=>simp
  |cons s b l=>
   grind[aV]
 intro i g;have hk:=key b i;clear i key;have f:∀k x,GK (ovh v e b) k=some x->GK e k=some x:=by
  induction b with
  |nil=>exact λk x h=>h
  |cons j b l=>
   grind[ovh,GK,qN]
 exact⟨g.d,g.size,λk x h=>g.get k x (f k x h)⟩
theorem UE{B:Bl}:∀{is:av} {M:ao},aV (λi=>L[i]?) is=some M->pick (L.map (l5 B)) is=M.map (l5 B)
 |[],M,h=>by cases h;rfl
 |i::is,M,h=>by
  simp only[aV] at h;split at h
  .cases h
  .rename_i b;split at h
   .cases h
   .rename_i a;cases h;simp only[pick,D0,b,Option.map_some,aIO,UE a,LM]
theorem bFU{O:Type}[aN O](E:CO O)(h b v:Nat)(is p:av){s:AC}{l:List O}{k nb:Nat}(x:O)(y:E.ex){f:au}{ec:ar}(A:L[h]?=some (.o (vD (s.v l.length) l k)))(D:L[b]?=some (.box nb f))(u:L[v]?=some (wOf O nb s l.length k))(C:aV (λi=>L[i]?) is=some (E.Lx x y))(hc:nbL f=E.cs x y)(j:aV (bT []) (E.cs x y)=some ec)(G:dV (h::b::is)=true)(hk:aV (GK e) p=some (p.map λ_=>.h s l.length)){B:Bl}{a:Act}{w:World}(I:iC n B e a)(H:lS c w B L) :
  iC n B (ovh (.h s (l.set k x).length) e p) a/\lS c w B (L5 L (h::b::is)++[ow s (l.set k x)]):=by
 have g:(l.set k x).length=l.length:=dM;unfold ow;rw[g];refine⟨aZ7 p hk I,?_⟩;obtain⟨⟨R,s1,t⟩,s0⟩:=H;have hB:B[nb]?=some (elB (s.v l.length),elO (aN.n O) k (s.v l.length)):=t _ (IA u);refine⟨⟨R,?_,λz hz=>?_⟩,s0⟩
 .rw[vC,MU];refine s1.shift (h::b::is) G λF q=>?_;simp only[pick,D0,A,D,Option.map_some,aIO,UE C,E.nb] at q;have hE:aV (bT B) f=some ec:=by rw[<-UB,hc];exact fL (λx v h=>by simpa using gR (B:=[]) B h) j
  have M:Sep w ([vD (s.v l.length) l k,cAt (elB (s.v l.length)) (elO (aN.n O) k (s.v l.length)) ec]++(E.Lx x y).map (l5 [])) F:=by refine Sep.imp (.cons (λ_ h=>h) (.cons (λF h=>?_) (kC.refl _))) q;obtain⟨bb,z,vs,k1,k2,Z⟩:=h;grind
  obtain⟨Y,r,W,V,S,U⟩:=Sep.append.1 M;have J:Sep w ([vD (s.v l.length) l k,cAt (elB (s.v l.length)) (elO (aN.n O) k (s.v l.length)) ec]++[fF ec x]) F:=Sep.append.2 ⟨Y,r,W,Sep.one.2 ((E.pk j w r).2 V),S,U⟩;exact Sep.one.2 (bBJ J)
 .obtain hz|hz:=dR.1 hz
  .obtain hz|hz:=UD _ _ hz
   .grind
   .subst hz;trivial
  .simp at hz;subst hz;trivial
theorem ce{O:Type}[aN O](E:CO O)(h b v:Nat)(is g:av){s:AC}{l:List O}{k nb:Nat}(x:O)(y:E.ex){f:au}{ec:ar}(r:L[h]?=some (.o (vD (s.v l.length) l k)))(u:L[b]?=some (.box nb f))(q:L[v]?=some (wOf O nb s l.length k))(t:aV (λi=>L[i]?) is=some (E.Lx x y))(hc:nbL f=E.cs x y)(p:aV (bT []) (E.cs x y)=some ec)(z:dV (h::b::is)=true)(hz:((h::b::is).all λj=>gE j cf.zU)=true)(hk:aV (GK e) g=some (g.map λ_=>.h s l.length))
  (kk:G (.mk P T hT n c B0 N X Q) K m (ovh (.h s (l.set k x).length) e g) (L5 L (h::b::is)++[ow s (l.set k x)]) cf):G (.mk P T hT n c B0 N X Q) K m e L cf:=by refine chg (λ_:Unit=>m) (λ_=>ovh (.h s (l.set k x).length) e g) (λ_=>L5 L (h::b::is)++[ow s (l.set k x)]) (λB a w D C A=>?_) (λ_=>Y6 _ hz) (λ_=>kk);obtain⟨H,F⟩:=bFU E h b v is g x y r u q t hc p z hk C A;simp_all
end
section
variable {P:Program} {T:TT} {hT:IC P T} {n:Nat} {c:Ctx} {B0:Bl} {N:Act->World->Prop} {X:Nat->Act->World->Prop} {Q:Act->World->Prop} {K K':bg} {m m':Nat} {e e':SE} {L L':ao} {cf cf':wV}
theorem ceS{O:Type}[aN O](E:CO O)(h:Nat)(is b:av){s:AC}{l:List O}{k nb:Nat}(x:O)(y:E.ex){a:au}{ec:ar}(t:XL (jO T n K cf m e L)=some (K',cf',m',e',L'))(o:L'[h]?=some (.o (vD (s.v l.length) l k)))(q:L'[h+1]?=some (.box nb a))(f:L'[h+2]?=some (wOf O nb s l.length k))(p:aV (λi=>L'[i]?) is=some (E.Lx x y))(hc:nbL a=E.cs x y)(d:aV (bT []) (E.cs x y)=some ec)(r:dV (h::(h+1)::is)=true)(hz:((h::(h+1)::is).all λj=>gE j cf'.zU)=true)(hk:aV (GK e') b=some (b.map λ_=>.h s l.length))
  (kk:G (.mk P T hT n c B0 N X Q) K' m' (ovh (.h s (l.set k x).length) e' b) (L5 L' (h::(h+1)::is)++[ow s (l.set k x)]) cf'):G (.mk P T hT n c B0 N X Q) K m e L cf:=g9 (g:=.mk P T hT n c B0 N X Q) (aP6 t (ce E h (h+1) (h+2) is b x y o q f p hc d r hz hk kk))
theorem sF(b:jO T n K cf m e L=.fin m' e' L')(h:∀a w,qQ n c B0 m' e' L' a w->N a w):G (.mk P T hT n c B0 N X Q) K m e L cf:=g9 (g:=.mk P T hT n c B0 N X Q) (by rw[b];exact h)
theorem sX{id:Nat}(b:jO T n K cf m e L=.ex id m' e' L')(h:∀a w,qQ n c B0 m' e' L' a w->X id a w):G (.mk P T hT n c B0 N X Q) K m e L cf:=g9 (g:=.mk P T hT n c B0 N X Q) (by rw[b];exact h)
theorem sR(b:jO T n K cf m e L=.ret m' e' L')(h:∀a w,qQ n c B0 m' e' L' a w->Q a w):G (.mk P T hT n c B0 N X Q) K m e L cf:=g9 (g:=.mk P T hT n c B0 N X Q) (by rw[b];exact h)
theorem nxR{σ ρ υ:Type}{o:Step σ ρ}{d:Nat}{el:σ->υ->SE}{b:σ->υ->ao}{s:σ}(u:υ)(is:av)(g:some (Step.next s)=some o)(h:asT B0.length m' e' L' is d (el s u) (b s u)=some (el s u,b s u)):∀a w,qQ n c B0 m' e' L' a w->NxP n c B0 o d el b a w:=by cases g;exact λa w f=>⟨s,u,rfl,f.asT is h⟩
theorem mQ{π υ:Type}{g:π->Prop}{f:Nat}{b:π->υ->SE}{d:π->υ->ao}{p:π}(u:υ)(is:av)(j:g p)(h:asT B0.length m' e' L' is f (b p u) (d p u)=some (b p u,d p u)):∀a w,qQ n c B0 m' e' L' a w->JP n c B0 g f b d a w:=λa w i=>⟨p,u,j,qQ.asT i is h⟩
theorem bkR{σ ρ β υ:Type}{o:Step σ ρ}{ro:ρ}{d:β->ρ}{j id:Nat}{g:β->υ->SE}{i:β->υ->ao}{b:β}(u:υ)(is:av)(k:some (Step.stop (d b))=some o)(f:∀p,o=.stop p->p=ro)(h:asT B0.length m' e' L' is j (g b u) (i b u)=some (g b u,i b u)):∀a w,qQ n c B0 m' e' L' a w->BkP n c B0 ro d j g i id X id a w:=by cases k;have:=f _ rfl;subst this;intro a w f;unfold BkP;rw[aM rfl];exact⟨b,u,rfl,f.asT is h⟩
include hT in
theorem rtR{l:Func}{ρ ex:Type}{sv:ρ->ex->SV}{Lf:ρ->ex->ao}{r d:ρ}{j:List ResultVar}{i:Option ρ}(y:ex)(is:av)(A:i=some r)(g:i=some d/\l.results=j.toArray){x:SV}(f:aZW T e' L' j=some x/\nbS x=sv d y/\BZ B0.length (sv d y)=true/\asT B0.length m' e' L' is B0.length [] (Lf d y)=some ([],Lf d y)):∀a w,qQ n c B0 m' e' L' a w->QS P l c B0 sv Lf r a w:=by obtain⟨hz,t⟩:=g;obtain⟨s,q,hk,z⟩:=f;subst hz;cases A;intro a w b;obtain⟨B,F,k,u⟩:=id b;obtain⟨v,D,C⟩:=aP8 t hT k u s;obtain⟨E,o,_,p⟩:=b.asT is z;have h:E=[]:=(by simp_all);subst h;refine⟨k.d,v,C,y,?_,aj⟩;rw[<-q] at hk ⊢;have:=Y5 hk (by rw[aP2];exact D);grind
theorem pD{Z:Act->World->Prop}{O:Type}[aN O](E:CO O)(h:Nat)(is d:av){s:AC}{l:List O}{k nb:Nat}(x:O)(y:E.ex){b:au}{ec:ar}(f:L[h]?=some (.o (vD (s.v l.length) l k))/\L[h+1]?=some (.box nb b)/\L[h+2]?=some (wOf O nb s l.length k)/\aV (λi=>L[i]?) is=some (E.Lx x y)/\nbL b=E.cs x y/\aV (bT []) (E.cs x y)=some ec/\dV (h::(h+1)::is)=true/\aV (GK e) d=some (d.map λ_=>.h s l.length))
  (kk:∀a w,qQ n c B0 m (ovh (.h s (l.set k x).length) e d) (L5 L (h::(h+1)::is)++[ow s (l.set k x)]) a w->Z a w):∀a w,qQ n c B0 m e L a w->Z a w:=by obtain⟨o,q,j,p,hc,g,r,hk⟩:=f;intro a w ⟨B,hm,u,t⟩;obtain⟨z,v⟩:=bFU E h (h+1) (h+2) is d x y o q j p hc g r hk u t;exact kk a w ⟨B,hm,z,v⟩
end
def wAt(n:Nat):ao->Option (Nat×Nat)
 |[]=>none
 |.w k b z::L=>match Nat.beq n k with
  |true=>some (b,z)
  |false=>wAt n L
 |_::L=>wAt n L
def Y7{n b z:Nat}:∀{L:ao},wAt n L=some (b,z)->Ch.w n b z∈L
 |[],h=>by cases h
 |x::L,h=>by
  cases x with
  |w k b' a=>
   simp only[wAt] at h;split at h
   .simp_all
   .exact lZ _ (Y7 h)
  |box k cs=>exact lZ _ (Y7 (L:=L) h)
  |ro k cs=>exact lZ _ (Y7 (L:=L) h)
  |o ch=>exact lZ _ (Y7 (L:=L) h)
  |f g=>exact lZ _ (Y7 (L:=L) h)
  |no=>exact lZ _ (Y7 (L:=L) h)
section
variable {P:Program} {T:TT} {hT:IC P T} {n:Nat} {c:Ctx} {B0:Bl} {N:Act->World->Prop} {X:Nat->Act->World->Prop} {Q:Act->World->Prop} {K K':bg} {m m':Nat} {e e':SE} {L L' Lv:ao} {cf cf1 cf2:wV} {o:Oper} {d:Nat}
theorem nE{O:Type}[aN O](nb:Nat){t el sz:Nat}{s:AC}{i:Int}{ls:List O}{x:O}{b1 q:Bool}{h:Nat}{g f:au}{j:TK}(b:Shp s ls.length)(y:idx ls i=some x)(a:jO T n K cf m e L=.idx o d t s ls.length i Lv cf1 cf2 K' m' e' L'/\wAt nb Lv=some (elB (s.v ls.length),elO (aN.n O) i.toNat (s.v ls.length))/\zS T t=some ⟨.sl el,b1,h,g⟩/\zS T el=some ⟨j,q,sz,f⟩/\aN.n O=sz)
  (k:G (.mk P T hT n c B0 N X Q) K' m' ((d,.p nb 0)::e') L' cf2):G (.mk P T hT n c B0 N X Q) K m e L cf:=by obtain⟨u,l,r,z,w⟩:=a;obtain⟨p,v⟩:=List.mem_iff_getElem?.1 (Y7 l);grind[ie]
end
def GM.o{O:Type}[aN O](C:GM O)(Lx:O->C.ex->ao)(pk:∀{q y ec},aV (bT []) (C.cs q y)=some ec->OP ec q ((Lx q y).map (l5 [])))(no:∀q y,noF (Lx q y)=true)(nb:∀q y B,(Lx q y).map (l5 B)=(Lx q y).map (l5 [])):CO O:=⟨C.ex,C.cs,Lx,λh=>let ⟨y,a,_⟩:=C.ok (aN.own_rd h);⟨y,a⟩,pk,no,nb⟩
def oI:CO Int:=cI.o (λ_ _=>[]) (λh=>by cases h;exact eO rfl) (λ_ _=>rfl) (λ_ _ _=>rfl)
def oU:CO UInt8:=cU.o (λ_ _=>[]) (λh=>by cases h;exact eO rfl) (λ_ _=>rfl) (λ_ _ _=>rfl)
def Y8{O:Type}[aN O][Flat O]{cs:ar}{d:O}(h:aN.rd F0 default cs d)(w:World):aN.own w cs d F0:=Flat.own_of h
section
variable {P:Program} {T:TT} {hT:IC P T} {n:Nat} {c:Ctx} {B0:Bl} {N:Act->World->Prop} {X:Nat->Act->World->Prop} {Q:Act->World->Prop} {K K':bg} {m m':Nat} {e e':SE} {L L':ao} {cf:wV}
variable {b:Bool} {O:Type} {A B':Option O} {q:Option O}
theorem csK{o:Operand}{x y:Code}(d:av)(l:jO T n K cf m e L=.cond o b x y K' m' e' L')(ho:aV (GK e') d=some (d.map λ_=>SV.b b))(f:(if b=true then A else B')=q)
  (k:b=true->A=q->G (.mk P T hT n c B0 N X Q) K' m' (ovr true e' d) L' (.c x)) (j:b=false->B'=q->G (.mk P T hT n c B0 N X Q) K' m' (ovr false e' d) L' (.c y)):G (.mk P T hT n c B0 N X Q) K m e L cf:=
 g9 (g:=.mk P T hT n c B0 N X Q) (by
  rw[l];intro p a w h;have ⟨B,hm,i,t⟩:=h;obtain⟨v,s,r⟩:=eV i p;cases s;refine aP0 i.env r (λhc=>?_) (λhc=>?_)
  .rw[aM hc] at f;exact k hc f a w (aP7 hc d ho h)
  .rw[aO aj] at f;exact j hc f a w (aP7 hc d ho h))
theorem caK{cf':wV}(d:av)(j:jO T n K cf m e L=.case b cf' K' m' e' L')(ho:aV (GK e') d=some (d.map λ_=>SV.b b))(k:(if b=true then A else B')=q)
  (i:b=true->A=q->G (.mk P T hT n c B0 N X Q) K' m' (ovr true e' d) L' cf') (h:b=false->B'=q->G (.mk P T hT n c B0 N X Q) K' m' (ovr false e' d) L' cf'):G (.mk P T hT n c B0 N X Q) K m e L cf:=
 g9 (g:=.mk P T hT n c B0 N X Q) (by
  rw[j];cases b with
  |true=>exact aRT (λa B f=>aE0 rfl d ho f) (i rfl aj)
  |false=>exact aRT (λa B f=>aE0 rfl d ho f) (h rfl aj))
end
section
variable {P:Program} {T:TT} {hT:IC P T} {n:Nat} {c:Ctx} {B0:Bl} {N:Act->World->Prop} {X:Nat->Act->World->Prop} {Q:Act->World->Prop} {K K':bg} {m m':Nat} {e e':SE} {L L' Lv:ao} {cf cf1 cf2:wV} {o:Oper} {d:Nat}
theorem aZ8{O:Type}[aN O]{l:List O}(L2:AC->ao)(p:jO T n K cf m e L=.op o Lv cf1 cf2 K' m' e' L')(q:o.dst=some d)(hz:∀s',Frz (.mk P T hT n c B0 N X Q) cf1 L' (L2 s'))(h:∀B a w,iC n B e' a->lS c w B L'->∃s' w',fH P o (vE B e') w (AC.v s' l.length) w'/\lS c w' B (L2 s'))
  (k:∀s':AC,G (.mk P T hT n c B0 N X Q) K' m' ((d,.h s' l.length)::e') (L2 s') cf2):G (.mk P T hT n c B0 N X Q) K m e L cf:=by refine g9 (g:=.mk P T hT n c B0 N X Q) ?_;rw[p];intro i _ s;refine s AC (λ_=>m') (λs'=>(d,.h s' l.length)::e') L2 hz (λB a w next v u f r b=>?_) k;obtain⟨s',w',j,t⟩:=h _ a w f r;unfold Oper.wp;rw[j _ a f.env,Oper.upon_value,q];exact b s' _ _ ⟨[],aj,by simpa using f.of (by simp[fS,gV,bT]) (f.env.put (by grind[sH,y5]) _),aj⟩
theorem aLD{O:Type}[aN O]{w:World}{A:bj}{R:bs}{v:Value}{l:List O}(h:St c w A R)(i:Nat)(a:A[i]?=some (fF [v] l)):∃s':AC,v=s'.v l.length:=by obtain⟨g,f,b,_⟩:=aRG (h.a8J i a);exact⟨⟨g,f⟩,b⟩
section
variable {x y:Operand} {t el sz:Nat} {zv:Value} {b1:Bool} {n1:Nat} {z1:au}
theorem Y9{O:Type}[aN O](b:Inf P el sz zv)(f:jO T n K cf m e L=.op o Lv cf1 cf2 K' m' e' L'/\(o.op,o.dst)=(.buildSlice t 0 #[],some d)/\zS T t=some ⟨.sl el,b1,n1,z1⟩/\aN.n O=sz)
  (k:∀s':AC,G (.mk P T hT n c B0 N X Q) K' m' ((d,.h s' ([]:List O).length)::e') (L'++[ow s' ([]:List O)]) cf2):G (.mk P T hT n c B0 N X Q) K m e L cf:=by
 obtain⟨p,ho,j,q⟩:=f;refine aZ8 (l:=([]:List O)) (λs'=>L'++[ow s' ([]:List O)]) p (cS Prod.snd ho) (λ_=>vO _) (λB a w u r=>?_) k;obtain⟨⟨R,g,s⟩,s0⟩:=r;obtain⟨v,w',i,h⟩:=bKW (O:=O) (e:=vE B e') (o:=o) g q (ID j hT) b (cS Prod.fst ho);obtain⟨s',rfl⟩:=aLD (v:=v) (l:=([]:List O)) h (L'.map (l5 B)).length ae;refine⟨s',w',i,⟨⟨R,by grind[l5],λz hz=>?_⟩,s0⟩⟩;obtain hz|hz:=dR.1 hz
 .grind
 .simp at hz;subst hz;trivial
theorem IE{g:Gx}{cf:wV}{L:ao}{j:Nat}{z:Ch}(hn:gE j cf.zU=true):Frz g cf L (L.set j z):=by have:=aZ6 (g:=g) (M:=[]) (z:=z) (L:=L) hn;grind
theorem ap{O β:Type}[aN O][Flat O]{A:Option β}{q:β}{s j:AC}{l xs:List O}(i:Nat)(f:Inf P el sz zv)(U:jO T n K cf m e L=.op o Lv cf1 cf2 K' m' e' L')(ho:(o.op,o.dst)=(.call {callee:=.builtin .append,args:=#[x,y],argTypes:=#[t,t]},some d))(S:zS T t=some ⟨.sl el,b1,n1,z1⟩)(hn:aN.n O=sz)(g:zv.cells.size=sz)(r:L'[i]?=some (ow s l))(hz:gE i cf1.zU=true)(b:∀{w},HS c w L'->aU (eF w) j xs)(M:jA e' x=some (.h s l.length))(J:jA e' y=some (.h j xs.length))(C:need (l.length+xs.length<=1073741824) A=some q)
  (k:A=some q->∀s':AC,G (.mk P T hT n c B0 N X Q) K' m' ((d,.h s' (l++xs).length)::e') (L'.set i (ow s' (l++xs))) cf2):G (.mk P T hT n c B0 N X Q) K m e L cf:=by
 refine aZ8 (l:=l++xs) (λs'=>L'.set i (ow s' (l++xs))) U (cS Prod.snd ho) (λ_=>IE hz) (λB a w D u=>?_) (k (mP C).2);have V:aU (eF w) j xs:=b ⟨_,u⟩;obtain⟨⟨R,H,E⟩,s0⟩:=u;have h:(L'.map (l5 B))[i]?=some (fF [s.v l.length] l):=by simp[r,l5]
 obtain⟨v,w',I,p⟩:=bBI i H h V hn (ID S hT) f g (mP C).1 (cS Prod.fst ho) (hdB D M) (hdB D J);have F:i<L'.length:=(DZ.1 r).1;obtain⟨s',rfl⟩:=aLD p i (by rw[List.getElem?_set_self aj]);refine⟨s',w',I,⟨⟨R,?_,λz hz=>?_⟩,s0⟩⟩
 .rw[PX];exact p
 .obtain hz|hz:=tD hz
  .grind
  .subst hz;trivial
end
end
def a2Y{O:Type}{l:List O}{i:Int}{x:O}(h:idx l i=some x):l.set i.toNat x=l:=by obtain⟨hk,a⟩:=DZ.1 (D2 h).2.2;rw[<-a];simp
section
variable {P:Program} {T:TT} {hT:IC P T} {n:Nat} {c:Ctx} {B0:Bl} {N:Act->World->Prop} {X:Nat->Act->World->Prop} {Q:Act->World->Prop} {K K':bg} {m m':Nat} {e e':SE} {L L' Lv:ao} {cf cf' cf1 cf2:wV} {o:Oper} {d:Nat}
theorem cqS{O:Type}[aN O](E:CO O)(h:Nat)(is:av){s:AC}{l:List O}{i:Int}{nb:Nat}{x:O}(g:idx l i=some x)(y:E.ex){a:au}{ec:ar}(b:XL (jO T n K cf m e L)=some (K',cf',m',e',L')/\L'[h]?=some (.o (vD (s.v l.length) l i.toNat))/\L'[h+1]?=some (.box nb a)/\L'[h+2]?=some (wOf O nb s l.length i.toNat)/\aV (λi=>L'[i]?) is=some (E.Lx x y)/\nbL a=E.cs x y/\aV (bT []) (E.cs x y)=some ec/\dV (h::(h+1)::is)=true/\((h::(h+1)::is).all λj=>gE j cf'.zU)=true)
  (kk:G (.mk P T hT n c B0 N X Q) K' m' e' (L5 L' (h::(h+1)::is)++[ow s l]) cf'):G (.mk P T hT n c B0 N X Q) K m e L cf:=let ⟨u,p,r,k,q,hc,f,t,hz⟩:=b;ceS E h is [] x y u p r k q hc f t hz rfl (by rw[a2Y g];exact kk)
theorem kO{Z:Act->World->Prop}{O:Type}[aN O](E:CO O)(h:Nat)(is:av){s:AC}{l:List O}{i:Int}{nb:Nat}{x:O}(j:idx l i=some x)(y:E.ex){b:au}{ec:ar}(f:L[h]?=some (.o (vD (s.v l.length) l i.toNat))/\L[h+1]?=some (.box nb b)/\L[h+2]?=some (wOf O nb s l.length i.toNat)/\aV (λi=>L[i]?) is=some (E.Lx x y)/\nbL b=E.cs x y/\aV (bT []) (E.cs x y)=some ec/\dV (h::(h+1)::is)=true)
  (kk:∀a w,qQ n c B0 m e (L5 L (h::(h+1)::is)++[ow s l]) a w->Z a w):∀a w,qQ n c B0 m e L a w->Z a w:=let ⟨p,r,k,q,hc,g,t⟩:=f;pD E h is [] x y ⟨p,r,k,q,hc,g,t,rfl⟩ (by rw[a2Y j];exact kk)
section
variable {x:Operand} {t el:Nat} {zv:Value} {b1:Bool} {n1:Nat} {z1:au}
theorem lt1{k:IntKind}{i:Int}(hk:k=.i64)(b:Inf P el 1 zv)(q:jO T n K cf m e L=.op o Lv cf1 cf2 K' m' e' L')(ho:(o.op,o.dst)=(.buildSlice t 1 #[(0,x)],some d))(p:zS T t=some ⟨.sl el,b1,n1,z1⟩)(j:(jA e' x).bind tF=some (k,i))
  (kk:∀s':AC,G (.mk P T hT n c B0 N X Q) K' m' ((d,.h s' [i].length)::e') (L'++[ow s' [i]]) cf2):G (.mk P T hT n c B0 N X Q) K m e L cf:=by
 subst hk;refine aZ8 (l:=[i]) (λs'=>L'++[ow s' [i]]) q (cS Prod.snd ho) (λ_=>vO _) (λB a w s r=>?_) kk;obtain⟨⟨R,f,u⟩,s0⟩:=r;obtain⟨v,w',h,g⟩:=bKX (O:=Int) (e:=vE B e') (o:=o) i f rfl (ID p hT) b (c0:=.int .i64 i) rfl (cS Prod.fst ho) (zQ s j) rfl;obtain⟨s',rfl⟩:=aLD (v:=v) (l:=[i]) g (L'.map (l5 B)).length ae;refine⟨s',w',h,⟨⟨R,by grind[l5],λz hz=>?_⟩,s0⟩⟩;obtain hz|hz:=dR.1 hz
 .grind
 .simp at hz;subst hz;trivial
end
end
def aU.sub{c:Ctx}{O:Type}[aN O]{s s':AC}{l:List O}{a b:Nat}(h:aU c s l)(e:jF (aN.n O) a b (s.v l.length)=s'.v ((l.take b).drop a).length)(d:a<=b/\b<=l.length):aU c s' ((l.take b).drop a):=by have:=a50 (n:=aN.n O) rfl h d.1 d.2;rw[e] at this;exact this
def Sep.perm{w:World}{A B:bj}(h:A.Perm B):∀{F:cW},Sep w A F->Sep w B F:=by
 induction h with
 |nil=>simp
 |cons a _ j=>exact λ⟨i,g,f,e,c,d⟩=>⟨i,g,f,j e,c,d⟩
 |swap a b L=>
  intro F h;have h:Sep w (([b]++[a])++L) F:=h;obtain⟨i,g,f,e,c,d⟩:=Sep.append.1 h;exact(Sep.append (A:=[a]++[b])).2 ⟨i,g,f.swap,e,c,d⟩
 |trans _ _ l k=>grind
def St.via{c:Ctx}{w:World}{A B:bj}{R:bs}(h:St c w A R)(b:∀F,Sep w A F->Sep w B F):St c w B R:=by obtain⟨F,S,a,rest⟩:=h.sep;exact⟨h.keep,⟨F,S,b F a,rest⟩,h.apart⟩
structure PV where
 b:Nat
 z:Nat
 A:ar
 V:ar
 C:ar
abbrev cj:=List PV
def PV.whole(p:PV):Chunk:=cAt p.b p.z (p.A++(p.V++p.C))
def PV.mid(p:PV):Chunk:=cAt p.b (p.z+p.A.length) p.V
def PV.rest(p:PV):bj:=[cAt p.b p.z p.A,cAt p.b (p.z+p.A.length+p.V.length) p.C]
def bOM{O:Type}{a v c:O}{M R:List O}:(a::v::c::(M++R)).Perm (v::(M++(a::c::R))):=by refine(List.Perm.swap v a _).trans (List.Perm.cons v ?_);exact((List.perm_middle (a:=c)).symm.cons a).trans (List.perm_middle (a:=a)).symm
def bS3{w:World}:∀{ps:cj} {F:cW},Sep w (ps.map PV.whole) F->Sep w (ps.map PV.mid++ps.flatMap PV.rest) F
 |[],F,h=>h
 |p::ps,F,h=>by obtain⟨f,e,d,c,a,b⟩:=h;exact Sep.perm bOM (Sep.append.2 ⟨f,e,bBK d,bS3 c,a,b⟩)
theorem bS4{w:World}:∀{ps:cj} {F:cW},Sep w (ps.map PV.mid++ps.flatMap PV.rest) F->Sep w (ps.map PV.whole) F
 |[],F,h=>h
 |p::ps,F,h=>by have d:Sep w ([cAt p.b p.z p.A,p.mid,cAt p.b (p.z+p.A.length+p.V.length) p.C]++(ps.map PV.mid++ps.flatMap PV.rest)) F:=Sep.perm (bOM (M:=ps.map PV.mid) (R:=ps.flatMap PV.rest)).symm h;obtain⟨g,f,e,c,a,b⟩:=Sep.append.1 d;exact⟨g,f,bEL e,bS4 c,a,b⟩
def St.bON{c:Ctx}{w:World}{A M:bj}{R:bs}(h:St c w (A++M) R)(s0:∀b o,c.S0 b o->b<c.w0.heap.size) :
  ∃U:Ctx,U.w0=w/\(∀b o,U.S0 b o->b<w.heap.size)/\St U w A []/\(∀f:Fact,f.P c.S0 c.w0->f.P U.S0 w)/\(∀f∈R,f.P U.S0 w) /\
   (∀ch∈M,∀f:Fact,(∀w F,ch.P w F->f.P F w)->f.P U.S0 w)/\∀w' A' G,St U w' A' G->St c w' (A'++M) R:=by
 obtain⟨F,S,n,e,z,x,d,E⟩:=h.sep;obtain⟨m,l,K,B,D,u⟩:=Sep.append.1 n;have I:c.w0.heap.size<=w.heap.size:=h.keep.size;have C:∀b o,m b o->c.S0 b o->False:=λb o p q=>by
  rcases z b o ((u b o).2 (.inl p)) with t|t
  .exact h.apart b o t q
  grind
 have r:∀b o,(S b o\/l b o)\/c.S0 b o->b<w.heap.size:=by
  rintro b o ((q|q)|q)
  .grind
  .exact Sep.lt B q
  grind
 have s:∀b o,m b o->((S b o\/l b o)\/c.S0 b o)->False:=by
  rintro b o p ((q|q)|q)
  .exact e b o ((u b o).2 (.inl p)) q
  .exact D b o p q
  grind
 refine⟨⟨w,m,λb o=>(S b o\/l b o)\/c.S0 b o⟩,rfl,r,⟨eT.refl _ _,⟨m,λb o=>(S b o\/l b o)\/c.S0 b o,K,s,λ_ _ h=>.inl h,λ_ _ h=>.inl h,r,ae⟩,s⟩,λf a=>?_,λf a=>f.mono (E f a) λb o q=>.inl (.inl q),λch v f a=>?_,?_⟩
 .exact f.mono (f.agree a λb o q=>h.keep.cell b o (s0 b o q) λt=>h.apart b o t q) λb o q=>.inr q
 .obtain⟨j,J⟩:=aMZ v;obtain⟨O,Y,N,_,_,L⟩:=(Sep.take J).1 B;exact f.mono (a w O N) λb o q=>.inl (.inr ((L b o).2 (.inl q)))
 .intro w' A' G k;obtain⟨H,S',b1,X,b3,W,V,T⟩:=k.sep;have hk:eT m w w':=k.keep;have y:∀b o,b<c.w0.heap.size->m b o->c.W b o:=λb o Q g=>aj
  refine⟨h.keep.trans hk y,⟨λb o=>H b o\/l b o,S,Sep.append.2 ⟨H,l,b1,Sep.keep hk B λb o a g=>D b o g a,?_,λ_ _=>Iff.rfl⟩,?_,?_,x,λb o i=>LN (d b o i) hk.size,?_⟩,h.apart⟩
  .intro b o P a;grind
  .rintro b o (a|a) i
   .grind
   .exact e b o ((u b o).2 (.inr a)) i
  .grind
  .intro f a;exact f.agree (E f a) λb o i=>hk.cell b o (d b o i) λg=>e b o ((u b o).2 (.inl g)) i
abbrev PS:=List (Nat×Nat×Nat×Nat)
def aZ9:Nat->List au->ao
 |_,[]=>[]
 |k,c::r=>.box k c::aZ9 (k+1) r
def UF(L:ao)(i n:Nat):au:=match L[i]? with
 |some (.box k cs)=>match Nat.beq n k with
  |true=>cs
  |false=>[]
 |_=>[]
def aRV(L:ao):PS->Option bF
 |[]=>some []
 |(i,n,o,k)::r=>match Nat.ble (o + k) (UF L i n).length,Nat.ble 1 k,frc (((UF L i n).drop o).take k),aRV L r with
  |true,true,some d,some a=>some (d::a)
  |_,_,_,_=>none
def TX(L M:ao):PS->List au->ao
 |(i,n,o,_)::r,c::cs=>TX L (M.set i (.box n (ovw (UF L i n) o c))) r cs
 |_,_=>M
def LI:PS->av
 |[]=>[]
 |p::r=>p.1::LI r
def rnP:PS->Nat->SV->bz
 |[],_,x=>match BZ 0 x with
  |true=>some x
  |false=>none
 |(_,n,o,_)::r,j,x=>match x with
  |.p b a=>match Nat.beq n b,Nat.beq o a with
   |true,true=>some (.p j 0)
   |_,_=>rnP r (j+1) (.p b a)
  |x=>rnP r (j+1) x
structure HG (c U:Ctx) (L:ao) (js:av):Prop where
 a:∀{O:Type} [aN O] {s:AC} {d:List O},aU c s d->aU U s d
 o:∀{O:Type} [aN O] {s:AC} {d:List O} (i:Nat),L[i]?=some (ow s d)->gE i js=true->aU U s d
 f:∀{O:Type} [aN O] {s:AC} {d:List O} (i:Nat),L[i]?=some (fr s d)->aU U s d
def PvR(B:Bl)(L:ao):PS->List au->cj->Prop
 |[],[],[]=>True
 |(i,n,o,k)::r,d::b,p::a=>(∃cs vs,L[i]?=some (.box n cs)/\B[n]?=some (p.b,p.z)/\aV (bT B) cs=some vs/\o+k<=cs.length/\p.A=vs.take o/\p.V=(vs.drop o).take k/\p.C=vs.drop (o+k)/\d=(cs.drop o).take k)/\PvR B L r b a
 |_,_,_=>False
def blP(pv:cj):Bl:=pv.map λp=>(p.b,p.z+p.A.length)
section
variable {c:Ctx} {w:World} {B:Bl} {L:ao} {R:bs}
theorem a21{i n:Nat}{x:SV}{r:au}(h:UF L i n=x::r):L[i]?=some (.box n (x::r)):=by
 unfold UF at h;split at h
 .rename_i k cs hk;grind[qN]
 .cases h
theorem bOO(f:St c w (L.map (l5 B)) R):∀{ps:PS} {ds:List au},aRV L ps=some ds->∃pv,PvR B L ps ds pv
 |[],ds,h=>by cases h;exact⟨[],trivial⟩
 |(i,n,o,k)::r,ds,h=>by
  simp only[aRV] at h;split at h
  .rename_i d m l j e p;cases h;have l:=XF l;have j:=XF j;obtain⟨pv,a⟩:=bOO f p;have e:=Y4 e;subst e;cases hc:UF L i n with
   |nil=>grind
   |cons x cs=>
    have g:=a21 hc;obtain⟨F,b,z,vs,s,q,t⟩:=f.chunk (ch:=Y3 B n (x::cs)) i (by simp[g,l5]);exact⟨⟨b,z,vs.take o,(vs.drop o).take k,vs.drop (o+k)⟩::pv,⟨x::cs,vs,g,s,q,aj,rfl,rfl,rfl,ae⟩,a⟩
  .cases h
theorem parts{vs:ar}{o k:Nat}:vs.take o++((vs.drop o).take k++vs.drop (o+k))=vs:=by grind[List.drop_drop,aGA]
theorem a9E{F:cW}:∀{ps:PS} {ds:List au} {pv:cj} {F:cW},PvR B L ps ds pv->Sep w (pick (L.map (l5 B)) (LI ps)) F->Sep w (pv.map PV.whole) F
 |[],[],[],F,_,h=>h
 |(i,n,o,k)::r,d::ds,p::ps,F,⟨⟨cs,vs,f,G,E,D,C,A,y,x⟩,e⟩,h=>by simp only[LI,pick,D0,f,Option.map_some,aIO] at h;obtain⟨s,q,m,l,g,j⟩:=h;refine⟨s,q,?_,a9E (F:=F) e l,g,j⟩;obtain⟨b,z,a,v,u,t⟩:=m;grind[PV.whole,parts]
theorem a6E{Bs:Bl}{p:PV}{ps:cj}{j:Nat}(h:∀i,Bs[j+i]?=(blP (p::ps))[i]?):Bs[j]?=some (p.b,p.z+p.A.length)/\∀i,Bs[j+1+i]?=(blP ps)[i]?:=by
 refine⟨?_,λi=>?_⟩
 .have:=h 0;grind[blP]
 .have:=h (i+1);grind[blP]
theorem bFW{Bs:Bl}:∀{ps:PS} {ds:List au} {pv:cj} {j:Nat} {F:cW},PvR B L ps ds pv->ds.all (BZ.okC 0)=true->(∀i,Bs[j+i]?=(blP pv)[i]?)->Sep w (pv.map PV.mid) F->Sep w ((aZ9 j ds).map (l5 Bs)) F
 |[],[],[],_,F,_,_,_,h=>h
 |(i,n,o,k)::r,d::ds,p::ps,j,F,⟨⟨cs,vs,H,G,E,D,C,A,z,y⟩,b⟩,ho,e,h=>by
  simp only[aF3,yV] at ho;obtain⟨u,t,m,l,f,g⟩:=h;obtain⟨b1,s⟩:=a6E e;refine⟨u,t,⟨p.b,p.z+p.A.length,p.V,b1,?_,m⟩,bFW b ho.2 s l,f,g⟩;have q:aV (bT B) d=some p.V:=by grind[XO,XN]
  have a:=E9 ho.1 q;rw[List.take_zero] at a;exact fL (λx v h=>by simpa using gR (B:=[]) Bs h) a
theorem a6F{Bs:Bl}:∀{ps:PS} {ds:List au} {pv:cj} {j:Nat} {x e:SV} {v:Value},PvR B L ps ds pv->(∀i,Bs[j+i]?=(blP pv)[i]?)->rnP ps j x=some e->fS B x=some v->fS Bs e=some v
 |[],[],[],j,x,e,v,_,_,a,b=>by
  simp only[rnP] at a;split at a
  .rename_i s;cases a;have:=Y5 s b;rw[List.take_zero] at this;simpa using y7 (B:=[]) Bs this
  .cases a
 |(i,n,o,k)::r,d::ds,p::ps,j,x,e,v,⟨⟨cs,vs,G,q,F,E,D,C,A,z⟩,h⟩,m,a,b=>by
  obtain⟨b1,l⟩:=a6E m;simp only[rnP] at a;split at a
  .rename_i u t;split at a
   .rename_i g f;cases a;have g:=qN g;have f:=qN f;subst g;subst f;simp only[fS,gV,bT,q] at b;have y:p.A.length=o:=by grind[mE]
    simp_all[fS,gV,bT]
   .exact a6F h l a b
  .exact a6F h l a b
theorem a0A{Bs:Bl}{ps:PS}{ds:List au}{pv:cj}(d:PvR B L ps ds pv)(e:∀i,Bs[0+i]?=(blP pv)[i]?):∀{xs b:au} {vs:ar},aV (rnP ps 0) xs=some b->aV (fS B) xs=some vs->aV (fS Bs) b=some vs
 |[],_,_,h,a=>by cases h;exact a
 |x::xs,b,vs,h,a=>by
  simp only[aV] at h a;split at h
  .cases h
  .rename_i g;split at h
   .cases h
   .rename_i f;cases h;split at a
    .cases a
    .rename_i v1;split at a
     .cases a
     .rename_i v2;cases a;simp only[aV,a6F d e g v1,a0A d e f v2]
def PvN(B:Bl):cj->List au->cj->Prop
 |[],[],[]=>True
 |p::b,d::e,q::a=>(q.b=p.b/\q.z=p.z/\q.A=p.A/\q.C=p.C/\q.V.length=p.V.length/\aV (bT B) d=some q.V)/\PvN B b e a
 |_,_,_=>False
theorem a23:∀{ps:cj} {ds:List au} {qs:cj},PvN B ps ds qs->qs.flatMap PV.rest=ps.flatMap PV.rest/\blP qs=blP ps
 |[],[],[],_=>⟨rfl,rfl⟩
 |p::ps,d::ds,q::qs,⟨⟨i,h,g,f,e,b⟩,a⟩=>by obtain⟨k,j⟩:=a23 a;simp_all[PV.rest,blP]
def aI0:PS->List au->Bool
 |[],[]=>true
 |(_,_,_,k)::r,d::a=>match Nat.beq d.length k with
  |true=>aI0 r a
  |false=>false
 |_,_=>false
theorem bFX:∀{ps:PS} {ds:List au} {pv:cj},PvR B L ps ds pv->pv.length=ps.length
 |[],[],[],_=>rfl
 |(i,n,o,k)::r,d::ds,p::ps,⟨_,a⟩=>by simp[bFX a]
theorem a9F{Bs:Bl}:∀{ps:PS} {ds:List au} {pv:cj} {es:List au} {j:Nat},PvR B L ps ds pv->aI0 ps es=true->es.all (BZ.okC 0)=true->(∀i,Bs[j+i]?=(blP pv)[i]?)->(∀i cs,es[i]?=some cs->∃F,(Y3 Bs (j+i) cs).P w F)->∃qs,PvN B pv es qs/\kC w ((aZ9 j es).map (l5 Bs)) (qs.map PV.mid)
 |[],[],[],[],j,_,_,_,_,_=>⟨[],trivial,.nil⟩
 |[],[],[],e::es,j,_,hl,_,_,_=>by grind[aI0]
 |(i,n,o,k)::r,d::ds,p::ps,[],j,_,hl,_,_,_=>by grind[aI0]
 |(i,n,o,k)::r,d::ds,p::ps,e::es,j,⟨⟨cs,vs,S,Q,G,P,O,N,M,K⟩,C⟩,hl,ho,E,hc=>by
  simp only[aI0] at hl;split at hl
  .rename_i m;have m:=qN m;simp only[aF3,yV] at ho;obtain⟨b1,H⟩:=a6E E;obtain⟨qs,y,u⟩:=a9F C hl ho.2 H λi cs J=>by have:=hc (i+1) cs aj;grind
   obtain⟨F,b,z,t,U,g,T⟩:=hc 0 e rfl;have l:=mE G;have q:=E9 ho.1 g;rw[List.take_zero] at q;refine⟨⟨p.b,p.z,p.A,t,p.C⟩::qs,⟨⟨rfl,rfl,rfl,rfl,?_,fL (λx v h=>by simpa using gR (B:=[]) B h) q⟩,y⟩,.cons (λF D=>?_) u⟩
   .grind[mE]
   .obtain⟨b',I,s,f,a,A⟩:=D;rw[show j=j+0 by omega] at b1;simp only[aAS] at g a f b1;rw[b1] at f;cases f;rw[g] at a;cases a;exact A
  .cases hl
theorem aRW:∀{ws vs:ar} {o:Nat},o+ws.length<=vs.length->aIP vs o ws=vs.take o++(ws++vs.drop (o+ws.length))
 |[],vs,o,h=>by simp[aIP]
 |x::ws,vs,o,h=>by
  simp only[H8] at h;simp only[aIP];rw[aRW ah];have a:(vs.set o x).take (o+1)=vs.take o++[x]:=by rw[List.take_add_one,List.getElem?_set_self aa];grind[List.take_set,List.set_eq_of_length_le]
  grind[List.drop_set_of_lt]
theorem bFY:∀{ps:PS} {ds es:List au} {pv qs:cj} {M:ao} {F:cW},PvR B L ps ds pv->PvN B pv es qs->(∀i∈LI ps,M[i]?=some .no)->dV (LI ps)=true->Sep w (qs.map PV.whole++M.map (l5 B)) F->Sep w ((TX L M ps es).map (l5 B)) F
 |[],[],[],[],[],M,F,_,_,_,_,h=>h
 |(i,n,o,k)::r,d::ds,e::es,p::ps,q::qs,M,F,⟨⟨cs,vs,W,D,C,V,U,T,S,Q⟩,v⟩,⟨⟨u,t,O,N,K,n6⟩,a⟩,y,b,h=>by
  simp only[LI,dV,yV] at b;have g:M[i]?=some .no:=y i (by simp[LI]);have m:i<M.length:=(DZ.1 g).1;simp only[TX];refine bFY (ps:=r) (ds:=ds) (es:=es) (pv:=ps) (qs:=qs) v a (λj x=>?_) b.2 ?_
  .have l:i≠j:=λe=>by subst e;have:=aF4.1 b.1 _ x;simp at this
   grind[LI]
  .have A:Sep w (qs.map PV.whole++(q.whole::M.map (l5 B))) F:=Sep.perm List.perm_middle.symm h;obtain⟨J,F2,H,X,E,G⟩:=Sep.append.1 A;refine Sep.append.2 ⟨J,F2,H,?_,E,G⟩;have hc:UF L i n=cs:=by simp_all[UF]
   have Y:(M.map (l5 B)).set i QD=M.map (l5 B):=by
    have:(M.map (l5 B))[i]?=some QD:=by simp[g,l5]
    grind[aX2]
   have I:Sep w ((M.map (l5 B)).set i q.whole) F2:=Sep.put aj aj;rw[PX,hc];refine Sep.imp ?_ I;refine kC.set i (kC.refl _) λF z=>⟨p.b,p.z,q.A++(q.V++q.C),D,?_,by rw[<-u,<-t];exact z⟩;have f:=mE C;have P:p.V.length=k:=aj
   have s:e.length=k:=by grind[mE]
   simp_all[aRM,aIT,aRW]
 |[],[],e::es,[],_,M,F,_,a,_,_,_=>by grind[PvN]
 |[],[],[],[],q::qs,M,F,_,a,_,_,_=>by grind[PvN]
 |(i,n,o,k)::r,d::ds,[],p::ps,qs,M,F,_,a,_,_,_=>by grind[PvN]
 |(i,n,o,k)::r,d::ds,e::es,p::ps,[],M,F,_,a,_,_,_=>by grind[PvN]
theorem a25{x:Ch}:∀{ps:PS} {es:List au} {M:ao},x∈TX L M ps es->x∈M\/∃n cs,x=.box n cs
 |[],_,M,h=>.inl (by simpa[TX] using h)
 |(i,n,o,k)::r,[],M,h=>.inl (by simpa[TX] using h)
 |(i,n,o,k)::r,e::es,M,h=>by
  rcases a25 (ps:=r) (es:=es) (by simpa[TX] using h) with h|h
  .obtain h|h:=tD h
   .exact .inl h
   .exact .inr ⟨_,_,h⟩
  .exact .inr h
end
def cpS:Stop->Option (Oper×Option Nat×FuncId×List SV×wV×wV×List Fr×Nat×SE×List Ch)
 |.call o d f xs cf cf' K m e L=>some (o,d,f,xs,cf,cf',K,m,e,L)
 |.callp o d f xs cf cf' K m e L=>some (o,d,f,xs,cf,cf',K,m,e,L)
 |_=>none
def dse(d:cq)(v:SV)(e:SE):SE:=match d with
 |some d=>(d,v)::e
 |none=>e
def N6:ao->Bool
 |[]=>true
 |.o _::L=>N6 L
 |_::_=>false
theorem aCL{B B':Bl}:∀{L:ao},N6 L=true->L.map (l5 B)=L.map (l5 B')
 |[],_=>rfl
 |.o c::L,h=>by simp only[LM,l5];rw[aCL (L:=L) h]
theorem aCM{B:Bl}{R:bs}:∀{L:ao},N6 L=true->∀x∈L,roF B R x
 |[],_,x,a=>by cases a
 |.o c::L,h,x,a=>by
  obtain a|a:=lO.1 a
  .subst a;trivial
  .exact aCM (L:=L) h x a
theorem a26{B:Bl}{R:bs}:∀{cs:List au} {k:Nat},∀x∈aZ9 k cs,roF B R x
 |[],k,x,a=>by cases a
 |c::cs,k,x,a=>by
  obtain a|a:=lO.1 a
  .subst a;trivial
  .exact a26 x a
def aRX:∀{cs:List au} {k i:Nat} {c:au},cs[i]?=some c->(aZ9 k cs)[i]?=some (.box (k+i) c)
 |c'::cs,k,0,c,h=>by simp at h;subst h;rfl
 |c'::cs,k,i + 1,c,h=>by have:=aRX (k:=k+1) (show cs[i]?=some c by grind);grind[aZ9]
theorem aI1{L:bj}:∀{a b:av},pick L (a++b)=pick L a++pick L b
 |[],b=>rfl
 |i::a,b=>by simp only[H6,pick,aI1 (a:=a)]
theorem aQB:∀{js:av} {L:ao},(L5 L js).length=L.length
 |[],L=>rfl
 |j::js,L=>by simp only[L5];rw[aQB];simp
theorem bFZ:∀{js:av} {L:ao} {i:Nat},i<L.length->L[i]?=some .no\/i∈js->(L5 L js)[i]?=some .no
 |[],L,i,_,h=>by obtain h|h:=h;exact h;cases h
 |j::js,L,i,hl,h=>by simp only[L5];refine bFZ aj ?_;grind
theorem bF0{B:Bl}{L:ao}:∀{ps:PS} {ds:List au} {pv:cj},PvR B L ps ds pv->∀i∈LI ps,i<L.length
 |[],[],[],_,i,h=>by cases h
 |(i,n,o,k)::r,d::ds,p::ps,⟨⟨cs,vs,b,_⟩,a⟩,j,h=>by
  obtain h|h:=lO.1 h
  .grind
  .exact bF0 a j h
def a9H:∀{a b:av},dV (a++b)=true->dV a=true
 |[],b,_=>rfl
 |i::a,b,h=>by simp only[H6,dV,yV,List.all_append] at h ⊢;exact⟨h.1.1,a9H h.2⟩
def a27{g:Gx}{cf:wV}{L M:ao}{j:Nat}{z:Ch}(h:Frz g cf L M)(hn:gE j cf.zU=true):Frz g cf L (M.set j z):=by
 cases cf with
 |d B1 ops l is Lf Lv=>
  intro a;obtain⟨c,b⟩:=h a;have:=aE1 (L:=M) (M:=[]) (j:=j) (z:=z) b hn;grind
 |o B1 ops l is Lf Lv ii=>
  intro a;obtain⟨c,b⟩:=h a;have:=aE1 (L:=M) (M:=[]) (j:=j) (z:=z) b hn;grind
 |_=>trivial
def a28{g:Gx}{cf:wV}{L L0:ao}:∀{ps:PS} {es:List au} {M:ao},Frz g cf L M->((LI ps).all λj=>gE j cf.zU)=true->Frz g cf L (TX L0 M ps es)
 |[],_,M,h,_=>by grind[TX]
 |(i,n,o,k)::r,[],M,h,_=>by grind[TX]
 |(i,n,o,k)::r,e::es,M,h,hz=>by simp only[LI,aF3,yV] at hz;exact a28 (ps:=r) (es:=es) (a27 h hz.1) hz.2
def aLE{i:Nat}:∀{js:av},gE i js=true->(js.all λj=>!Nat.beq j i)=true
 |[],_=>rfl
 |j::js,h=>by
  simp only[gE] at h;split at h
  .cases h
  .rename_i a;simp only[aF3,yV,a2C];refine⟨?_,aLE h⟩;grind[qN]
def bF1{g:Gx}{s:Stop}{o:Oper}{d:cq}{f:FuncId}{xs:au}{cf cf':wV}{K:bg}{m:Nat}{e:SE}{L:ao}(i:cpS s=some (o,d,f,xs,cf,cf',K,m,e,L))
  (h:∀b args a,o.op=.call {callee:=.value b,args:=args,argTypes:=a}->o.dst=d->jA e b=some (.f f [])->(∃c,aV (jA e) args.toList=some c/\nbA c=xs)->sH g.n d=true->aM5 g K m e L o cf cf'->G g K m e L cf):Gs g s:=by
 cases s<;>simp only[cpS] at i<;>cases i
 .exact λb args a q p n l _ k j=>h b args a q p n l k j
 .exact h
section
variable {P:Program} {T:TT} {hT:IC P T} {n:Nat} {c:Ctx} {B0:Bl} {N:Act->World->Prop} {X:Nat->Act->World->Prop} {Q:Act->World->Prop} {K K':bg} {m m':Nat} {e e':SE} {L L':ao} {cf cf1 cf2:wV} {o:Oper}
theorem cwk{O β ex:Type}{J:Option O}{kf:O->Option β}{q:β}{d:cq}{f:FuncId}{xs xs0:au}{r:List au}{M:ao}{sv:O->ex->SV}{cb:O->ex->List au}{Lr:O->ex->ao}(ps:PS)(is:av)
  (hs:cpS (jO T n K cf m e L)=some (o,d,f,xs,cf1,cf2,K',m',e',L')) (hb:aRV L' ps=some r) (t:aV (λi=>L'[i]?) is=some M) (hx:aV (rnP ps 0) xs=some xs0)
  (hk:(N6 M && (r.all (BZ.okC 0) && (dV (LI ps++is) && (LI ps++is).all λj=>gE j cf1.zU)))=true)
  (hn:∀x y,(aI0 ps (cb x y) && ((cb x y).all (BZ.okC 0) && (N6 (Lr x y) && BZ 0 (sv x y))))=true)
  (hc:∀{U:Ctx},HG c U L' (LI ps++is)->∀{Bs:Bl},Bs.length=ps.length->∀{x},J=some x->FnS P f U xs0 Bs (aZ9 0 r++M) sv (λx y=>aZ9 0 (cb x y)++Lr x y) x)
  (hF:J.bind kf=some q)
  (k:∀x,J=some x->kf x=some q->∀y:ex,G (.mk P T hT n c B0 N X Q) K' m' (dse d (sv x y) e') (TX L' (L5 L' (LI ps++is)++Lr x y) ps (cb x y)) cf2):G (.mk P T hT n c B0 N X Q) K m e L cf:=by
 refine g9 (g:=.mk P T hT n c B0 N X Q) (bF1 hs ?_);intro fo' args ats ho hd hf ⟨ys,V,hxs⟩ hdn hE;simp only[yV] at hk hn;obtain⟨Z,hkc,E,Y⟩:=hk;cases A:J with
 |none=>grind
 |some x=>
  rw[A] at hF;have S:((LI ps).all λj=>gE j cf1.zU)=true:=aj
  refine hE ex (λ_=>m') (λy=>dse d (sv x y) e') (λy=>TX L' (L5 L' (LI ps++is)++Lr x y) ps (cb x y)) (λy=>a28 (Y6 _ Y) S) (λB a w next Q' hm C hS b=>?_) (k x A hF);generalize hBB:B0S (.mk P T hT n c B0 N X Q) cf1++B=l at hm C hS b;obtain⟨⟨R,s1,s2⟩,s0⟩:=hS;obtain⟨pv,p⟩:=bOO s1 hb;have hBs:(blP pv).length=ps.length:=by grind[blP,bFX]
  have H:∀i,(blP pv)[0+i]?=(blP pv)[i]?:=λi=>ae
  have f1:=s1.front (LI ps++is) E;have f2:St c w ((pv.map PV.mid++M.map (l5 l))++(pv.flatMap PV.rest++blank (L'.map (l5 l)) (LI ps++is))) R:=by refine f1.via λF h=>?_;rw[aI1,UE t] at h;obtain⟨F1,F2,g1,g2,gd,gF⟩:=Sep.append.1 h;obtain⟨F3,F4,I,g4,gd2,gF2⟩:=Sep.append.1 g1;have g5:=bS3 (a9E (F:=F) p I);have g6:Sep w (((pv.map PV.mid++pv.flatMap PV.rest)++M.map (l5 l))++blank (L'.map (l5 l)) (LI ps++is)) F:=Sep.append.2 ⟨F1,F2,Sep.append.2 ⟨F3,F4,g5,g4,gd2,gF2⟩,g2,gd,gF⟩;refine Sep.perm ?_ g6;grind[List.Perm.append_left,List.Perm.append_right,List.perm_append_comm]
  obtain⟨U,k1,k2,k3,k4,k5,k6,k7⟩:=f2.bON s0;subst k1;have hHG:HG c U L' (LI ps++is):=by
   refine⟨λ{O} _ {s d} h=>k4 (fRd [s.v d.length] d) h,λ{O} _ {s d} i t hj=>?_,λ{O} _ {s d} i t=>k5 _ (s2 _ (IA t))⟩;have:(blank (L'.map (l5 l)) (LI ps++is))[i]?=some (fF [s.v d.length] d):=by rw[aK7 (aLE hj),D0,t];rfl
   exact k6 _ (aIK _ (IA this)) (fRd [s.v d.length] d) λw F h=>aN.own_rd h
  obtain⟨u,D⟩:=hc hHG hBs A;obtain⟨vs,h1,h2⟩:=aGB C V;obtain⟨v,h3,h4⟩:=eV C hf;simp[fS,aV] at h3;subst h3;have h1':aV (fS l) xs=some vs:=by grind[UC]
  have W:lS U U.w0 (blP pv) (aZ9 0 r++M):=by
   refine⟨⟨[],?_,λx hx=>?_⟩,k2⟩
   .rw[vC,aCL (B':=l) Z];refine k3.via λF h=>?_;grind[Sep.append,bFW]
   grind[a26,aCM]
  have h5:=D vs (a0A p H hx h1') W;have h6:=XQ (w:=U.w0) u ho h4 h2;unfold Oper.wp;rw[h6 _ a C.env,Oper.upon_enter];refine Calls.mono h5 λen w' ⟨v,hv,y,g1,g2⟩=>?_;subst hv;obtain⟨n1,n2,n3,n4⟩:=hn x y;have I:=y7 l (aYF n4 g1);rw[PY] at I;obtain⟨⟨R',t1,t2⟩,t0⟩:=g2;obtain⟨qs,q1,q2⟩:=a9F (w:=w') p n1 n2 H λi cs t=>t1.chunk (ch:=Y3 (blP pv) (0+i) cs) i (by
   rw[D0,List.getElem?_append_left (by
    have:=(DZ.1 (aRX (k:=0) t)).1;exact this),aRX t];rfl)
  obtain⟨e1,e2⟩:=a23 q1;have t3:St U w' (qs.map PV.mid++(Lr x y).map (l5 l)) R':=by refine t1.imp ?_;grind[aCL,kC.append,kC.refl]
  have t4:=k7 w' _ R' t3;have t5:St c w' ((TX L' (L5 L' (LI ps++is)++Lr x y) ps (cb x y)).map (l5 l)) R:=by
   refine t4.via λF h=>?_;refine bFY p q1 (λi t=>?_) (a9H E) ?_
   .grind[bF0,aQB,bFZ]
   .rw[vC,MU];have h7:Sep w' ((qs.map PV.mid++qs.flatMap PV.rest)++(blank (L'.map (l5 l)) (LI ps++is)++(Lr x y).map (l5 l))) F:=by rw[e1];refine Sep.perm ?_ h;grind[List.Perm.append_left,List.perm_append_comm]
    grind[Sep.append,bS4]
  have t6:lS c w' l (TX L' (L5 L' (LI ps++is)++Lr x y) ps (cb x y)):=by
   refine⟨⟨R,t5,λz hz=>?_⟩,s0⟩;obtain hz|⟨_,_,hz⟩:=a25 hz
   .obtain hz|hz:=dR.1 hz
    .obtain hz|hz:=UD _ _ hz
     .grind
     .subst hz;trivial
    grind[aCM]
   .subst hz;trivial
  rw[hd];cases d with
  |none=>exact b y _ _ ⟨[],aj,by grind[dse,Act.put],aj⟩
  |some d=>exact b y _ _ ⟨[],aj,by simpa[dse] using C.of I (C.env.put (by grind[sH,y5]) v),aj⟩
end
section
variable {P:Program} {T:TT} {hT:IC P T} {n:Nat} {c:Ctx} {B0:Bl} {N:Act->World->Prop} {X:Nat->Act->World->Prop} {Q:Act->World->Prop} {K K':bg} {m m':Nat} {e e':SE} {L L' Lv:ao} {cf cf' cf1 cf2:wV} {o:Oper}
section
variable {O β ex:Type} {fo:Option O} {kf:O->Option β} {q:β} {d:cq} {f:FuncId} {xs xs0:au} {M:ao} {sv:O->ex->SV} {Lr:O->ex->ao}
theorem cw0(is:av)
  (b:cpS (jO T n K cf m e L)=some (o,d,f,xs,cf1,cf2,K',m',e',L')) (g:aV (λi=>L'[i]?) is=some M) (a:aV (rnP [] 0) xs=some xs0)
  (hk:(N6 M && (dV is && is.all λj=>gE j cf1.zU))=true) (hn:∀x y,(N6 (Lr x y) && BZ 0 (sv x y))=true)
  (hc:∀{U:Ctx},HG c U L' is->∀{x},fo=some x->FnS P f U xs0 [] M sv Lr x) (l:fo.bind kf=some q)
  (k:∀x,fo=some x->kf x=some q->∀y:ex,G (.mk P T hT n c B0 N X Q) K' m' (dse d (sv x y) e') (L5 L' is++Lr x y) cf2):G (.mk P T hT n c B0 N X Q) K m e L cf:=
 cwk (cb:=λ_ _=>[]) (Lr:=Lr) [] is b rfl g a (by grind[LI]) (λx y=>by grind[aI0]) (λ{U} h p hl x a=>match p,hl with|[],_=>hc (by grind[LI]) a) l (λx s r y=>by grind[TX,LI])
theorem cw1{c1:au}{p:O->ex->au}(a g b l:Nat)(is:av)
  (s:cpS (jO T n K cf m e L)=some (o,d,f,xs,cf1,cf2,K',m',e',L')) (u:aRV L' [(a,g,b,l)]=some [c1]) (t:aV (λi=>L'[i]?) is=some M) (r:aV (rnP [(a,g,b,l)] 0) xs=some xs0)
  (hk:(N6 M && ([c1].all (BZ.okC 0) && (dV (a::is) && (a::is).all λj=>gE j cf1.zU)))=true) (hn:∀x y,(aI0 [(a,g,b,l)] [p x y] && ([p x y].all (BZ.okC 0) && (N6 (Lr x y) && BZ 0 (sv x y))))=true)
  (hc:∀{U:Ctx},HG c U L' (a::is)->∀{b1:Nat×Nat} {x},fo=some x->FnS P f U xs0 [b1] (.box 0 c1::M) sv (λx y=>.box 0 (p x y)::Lr x y) x) (v:fo.bind kf=some q)
  (k:∀x,fo=some x->kf x=some q->∀y:ex,G (.mk P T hT n c B0 N X Q) K' m' (dse d (sv x y) e') (TX L' (L5 L' (a::is)++Lr x y) [(a,g,b,l)] [p x y]) cf2):G (.mk P T hT n c B0 N X Q) K m e L cf:=
 cwk (cb:=λx y=>[p x y]) (Lr:=Lr) [(a,g,b,l)] is s u t r hk hn (λ{U} h w hl x r=>match w,hl with|[b1],_=>hc h r) v k
theorem cw2{c1 z:au}{v u:O->ex->au}(b r l t:Nat)(a p g s:Nat)(is:av)
  (B:cpS (jO T n K cf m e L)=some (o,d,f,xs,cf1,cf2,K',m',e',L')) (D:aRV L' [(b,r,l,t),(a,p,g,s)]=some [c1,z]) (C:aV (λi=>L'[i]?) is=some M) (w:aV (rnP [(b,r,l,t),(a,p,g,s)] 0) xs=some xs0)
  (hk:(N6 M && ([c1,z].all (BZ.okC 0) && (dV (b::a::is) && (b::a::is).all λj=>gE j cf1.zU)))=true) (hn:∀x y,(aI0 [(b,r,l,t),(a,p,g,s)] [v x y,u x y] && ([v x y,u x y].all (BZ.okC 0) && (N6 (Lr x y) && BZ 0 (sv x y))))=true)
  (hc:∀{U:Ctx},HG c U L' (b::a::is)->∀{b1 A:Nat×Nat} {x},fo=some x->FnS P f U xs0 [b1,A] (.box 0 c1::.box 1 z::M) sv (λx y=>.box 0 (v x y)::.box 1 (u x y)::Lr x y) x) (E:fo.bind kf=some q)
  (k:∀x,fo=some x->kf x=some q->∀y:ex,G (.mk P T hT n c B0 N X Q) K' m' (dse d (sv x y) e') (TX L' (L5 L' (b::a::is)++Lr x y) [(b,r,l,t),(a,p,g,s)] [v x y,u x y]) cf2):G (.mk P T hT n c B0 N X Q) K m e L cf:=
 cwk (cb:=λx y=>[v x y,u x y]) (Lr:=Lr) [(b,r,l,t),(a,p,g,s)] is B D C w hk hn (λ{U} h F hl x w=>match F,hl with|[b1,A],_=>hc h w) E k
theorem cw3{c1 D c3:au}{B A z:O->ex->au}(g t r w:Nat)(b s p v:Nat)(a n3 l u:Nat)(is:av)
  (F:cpS (jO T n K cf m e L)=some (o,d,f,xs,cf1,cf2,K',m',e',L')) (I:aRV L' [(g,t,r,w),(b,s,p,v),(a,n3,l,u)]=some [c1,D,c3]) (H:aV (λi=>L'[i]?) is=some M) (C:aV (rnP [(g,t,r,w),(b,s,p,v),(a,n3,l,u)] 0) xs=some xs0)
  (hk:(N6 M && ([c1,D,c3].all (BZ.okC 0) && (dV (g::b::a::is) && (g::b::a::is).all λj=>gE j cf1.zU)))=true) (hn:∀x y,(aI0 [(g,t,r,w),(b,s,p,v),(a,n3,l,u)] [B x y,A x y,z x y] && ([B x y,A x y,z x y].all (BZ.okC 0) && (N6 (Lr x y) && BZ 0 (sv x y))))=true)
  (hc:∀{U:Ctx},HG c U L' (g::b::a::is)->∀{b1 E b3:Nat×Nat} {x},fo=some x->FnS P f U xs0 [b1,E,b3] (.box 0 c1::.box 1 D::.box 2 c3::M) sv (λx y=>.box 0 (B x y)::.box 1 (A x y)::.box 2 (z x y)::Lr x y) x) (J:fo.bind kf=some q)
  (k:∀x,fo=some x->kf x=some q->∀y:ex,G (.mk P T hT n c B0 N X Q) K' m' (dse d (sv x y) e') (TX L' (L5 L' (g::b::a::is)++Lr x y) [(g,t,r,w),(b,s,p,v),(a,n3,l,u)] [B x y,A x y,z x y]) cf2):G (.mk P T hT n c B0 N X Q) K m e L cf:=
 cwk (cb:=λx y=>[B x y,A x y,z x y]) (Lr:=Lr) [(g,t,r,w),(b,s,p,v),(a,n3,l,u)] is F I H C hk hn (λ{U} h R hl x C=>match R,hl with|[b1,E,b3],_=>hc h C) J k
end
theorem bOQ(s:AC)(d b:Nat):elB (s.v d)=elB (s.v b):=by obtain⟨a,c⟩:=s;cases a<;>rfl
theorem bOR(s:AC)(q k d b:Nat):elO q k (s.v d)=elO q k (s.v b):=by obtain⟨a,c⟩:=s;cases a<;>rfl
theorem ro{O β:Type}[aN O](E:CO O)(j v nb:Nat){s:AC}{i:Int}{l:Nat}{ls:List O}{kf:O->Option β}{q:β}(I:XL (jO T n K cf m e L)=some (K',cf',m',e',L'))(J:L'[j]?=some (ow s ls))(H:L'[v]?=some (wOf O nb s l i.toNat))(hz:gE j cf'.zU=true)(t:(idx ls i).bind kf=some q)
  (k:∀x,idx ls i=some x->kf x=some q->∀y:E.ex,G (.mk P T hT n c B0 N X Q) K' m' e' (L'.set j .no++([.o (vD (s.v ls.length) ls i.toNat),.box nb (E.cs x y),wOf O nb s ls.length i.toNat]++E.Lx x y)) cf'):G (.mk P T hT n c B0 N X Q) K m e L cf:=by
 refine go I ?_;cases p:idx ls i with
 |none=>grind
 |some x=>
  rw[p] at t;refine chg (λ_=>m') (λ_=>e') (λy:E.ex=>L'.set j .no++([.o (vD (s.v ls.length) ls i.toNat),.box nb (E.cs x y),wOf O nb s ls.length i.toNat]++E.Lx x y)) (λB a w U V M=>?_) (λy=>aZ6 hz) (λy=>k x p t y);obtain⟨⟨R,s1,D⟩,s0⟩:=M;have u:B[nb]?=some (elB (s.v ls.length),elO (aN.n O) i.toNat (s.v ls.length)):=by rw[bOQ s ls.length l,bOR s _ _ ls.length l];exact D _ (IA H)
  have f:(L'.map (l5 B))[j]?=some (fF [s.v ls.length] ls):=by simp[J,l5]
  obtain⟨ec,C⟩:=s1.open j f (D2 p).2.2;have r:((L'.map (l5 B)).set j QD).length=L'.length:=ae
  obtain⟨F,g⟩:=C.chunk (L'.length+2) (by rw[aXZ aa];simp;rfl);obtain⟨y,d⟩:=E.op (show aN.own w ec x F from g);have A:=C.unpack (L'.length+2) ae (E.pk d);have b:((L'.map (l5 B)).set j QD++[vD (s.v ls.length) ls i.toNat,cAt (elB (s.v ls.length)) (elO (aN.n O) i.toNat (s.v ls.length)) ec,fF ec x]).set (L'.length+2) QD=(L'.map (l5 B)).set j QD++[vD (s.v ls.length) ls i.toNat,cAt (elB (s.v ls.length)) (elO (aN.n O) i.toNat (s.v ls.length)) ec,QD]:=ae
  rw[b] at A;refine⟨y,[],aj,aj,⟨⟨R,?_,λz hz=>?_⟩,s0⟩⟩
  .have S:(L'.set j Ch.no).map (l5 B)=(L'.map (l5 B)).set j QD:=by rw[PX];rfl
   refine A.imp ?_;rw[wW,vC,vC,<-S,qM];refine kC.append (kC.refl _) (kC.append (.cons (λ_ h=>h) (.cons (λF h=>⟨_,_,ec,u,fL (λx v h=>by simpa using gR (B:=[]) B h) d,h⟩) (.cons (λ_ h=>h) .nil))) ?_);rw[E.nb x y B];exact kC.refl _
  .rw[wW];obtain hz|hz:=dR.1 hz
   .obtain hz|hz:=tD hz
    .grind
    .subst hz;trivial
   .obtain hz|hz:=dR.1 hz
    .simp at hz;obtain rfl|rfl|rfl:=hz
     .trivial
     .trivial
     .exact u
    .exact aRU (E.no x y) z hz
theorem nw(O:Type)[aN O](d:XL (jO T n K cf m e L)=some (K',cf',m',e',L'))
  (k:G (.mk P T hT n c B0 N X Q) K' m' e' (L'++[ow ⟨none,0⟩ ([]:List O)]) cf'):G (.mk P T hT n c B0 N X Q) K m e L cf:=by
 refine go d ?_;refine chg (λ_:Unit=>m') (λ_=>e') (λ_=>L'++[ow ⟨none,0⟩ ([]:List O)]) (λB a w i j f=>?_) (λ_=>vO _) (λ_=>k);obtain⟨⟨R,b,g⟩,s0⟩:=f;refine⟨(),[],aj,aj,⟨⟨R,?_,λz hz=>?_⟩,s0⟩⟩
 .rw[wW,vC];exact St.more b (eT.refl _ _) ⟨F0,⟨none,0,rfl,jE _,iT _,.inl ⟨rfl,rfl,λ_ _ h=>h⟩⟩,λ_ _ h=>h.elim⟩
 .rw[wW];obtain hz|hz:=dR.1 hz
  .grind
  .simp at hz;subst hz;trivial
theorem LG{Z:Act->World->Prop}(O:Type)[aN O](kk:∀a w,qQ n c B0 m e (L++[ow ⟨none,0⟩ ([]:List O)]) a w->Z a w):∀a w,qQ n c B0 m e L a w->Z a w:=by
 intro a w ⟨B,hm,f,d⟩;refine kk a w ⟨B,hm,f,?_⟩;obtain⟨⟨R,b,g⟩,s0⟩:=d;refine⟨⟨R,?_,λz hz=>?_⟩,s0⟩
 .rw[vC];exact St.more b (eT.refl _ _) ⟨F0,⟨none,0,rfl,jE _,iT _,.inl ⟨rfl,rfl,λ_ _ h=>h⟩⟩,λ_ _ h=>h.elim⟩
 .obtain hz|hz:=dR.1 hz
  .grind
  .simp at hz;subst hz;trivial
end
def AC.sub(s:AC)(n a:Nat):AC:=⟨if s.c=a then s.a else s.a.map (·.add (a*n)),s.c-a⟩
theorem XR{O:Type}{l:List O}{s:AC}{n a b k:Nat}(d:a<=b)(c:b<=l.length):jF n a b (s.v k)=(s.sub n a).v ((l.take b).drop a).length:=by rw[BY d c];rfl
section
variable {P:Program} {T:TT} {hT:IC P T} {n:Nat} {c:Ctx} {B0:Bl} {N:Act->World->Prop} {X:Nat->Act->World->Prop} {Q:Act->World->Prop} {K K':bg} {m m':Nat} {e e':SE} {L L' Lv:ao} {cf cf' cf1 cf2:wV} {o:Oper} {d:Nat}
theorem cpc{O:Type}[aN O](j:Nat){s:AC}{l:List O}(b:XL (jO T n K cf m e L)=some (K',cf',m',e',L'))(f:L'[j]?=some (ow s l))(k:l.length<=s.c->G (.mk P T hT n c B0 N X Q) K' m' e' L' cf'):G (.mk P T hT n c B0 N X Q) K m e L cf:=by refine go b ?_;refine chg (λ_:PLift (l.length<=s.c)=>m') (λ_=>e') (λ_=>L') (λB a w r t g=>?_) (λ_=>by simpa using vO (L:=L') []) (λh=>k h.down);obtain⟨⟨R,s1,q⟩,s0⟩:=g;obtain⟨F,i⟩:=s1.chunk (ch:=fF [s.v l.length] l) j (by simp[f,l5]);obtain⟨x,v,p,u⟩:=RW (show aN.own w [s.v l.length] l F from i);simp only[AC.v,Value.slice.injEq] at p;exact⟨⟨aa⟩,[],aj,aj,⟨⟨R,aj,aj⟩,s0⟩⟩
section
variable {x y z u:Operand} {t el sz:Nat} {k1 k2 k3:IntKind} {i j p:Int} {O β:Type} [aN O] {A:Option β} {q:β} {s:AC} {l:List O} {b1 b2:Bool} {n1:Nat} {z1 z2:au} {kt:TK}
theorem aV7(hc:l.length<=s.c)(D:opS (jO T n K cf m e L)=some (o,Lv,cf1,cf2,K',m',e',L'))(ho:(o.op,o.dst)=(.slice t x (some y) none none,some d))(C:zS T t=some ⟨.sl el,b1,n1,z1⟩)(E:zS T el=some ⟨kt,b2,sz,z2⟩)(v:jA e' x=some (.h s l.length))(r:(jA e' y).bind tF=some (k1,i))(h:need (0<=i/\i<=(l.length:Int)) A=some q)
  (kk:A=some q->(i.toNat<=l.length/\l.length<=l.length)->G (.mk P T hT n c B0 N X Q) K' m' ((d,.h (s.sub sz i.toNat) ((l.take l.length).drop i.toNat).length)::e') L' cf2):G (.mk P T hT n c B0 N X Q) K m e L cf:=by
 have f:o.op=.slice t x (some y) none none:=cS Prod.fst ho;have F:=(mP h).1;have g:i.toNat<=l.length/\l.length<=l.length:=aa
 refine pu D (cS Prod.snd ho) (λB a w k M=>⟨jF sz i.toNat l.length (s.v l.length),by grind[XR,fS,gV,bT],λ_ a b=>?_⟩) (kk (mP h).2 g);obtain⟨J,I⟩:=F;have H:max i 0=i:=aa
 simp[execOp,f,Instr.sliceAt,Instr.slice,run_underlying (ID C hT),Instr.sliceBounds,b.eval (hdB k v),b.eval (zQ k r),Instr.sliceBound,asIntOf,hT.size _ _ E,J,I,hc,H,jF]
theorem aV8(hc:l.length<=s.c)(C:opS (jO T n K cf m e L)=some (o,Lv,cf1,cf2,K',m',e',L'))(ho:(o.op,o.dst)=(.slice t x none (some z) none,some d))(v:zS T t=some ⟨.sl el,b1,n1,z1⟩)(D:zS T el=some ⟨kt,b2,sz,z2⟩)(r:jA e' x=some (.h s l.length))(hz:(jA e' z).bind tF=some (k2,j))(h:need (0<=j/\j<=(l.length:Int)) A=some q)
  (kk:A=some q->(0<=j.toNat/\j.toNat<=l.length)->G (.mk P T hT n c B0 N X Q) K' m' ((d,.h (s.sub sz 0) ((l.take j.toNat).drop 0).length)::e') L' cf2):G (.mk P T hT n c B0 N X Q) K m e L cf:=by
 have f:o.op=.slice t x none (some z) none:=cS Prod.fst ho;have E:=(mP h).1;have g:0<=j.toNat/\j.toNat<=l.length:=aa
 refine pu C (cS Prod.snd ho) (λB a w k J=>⟨jF sz 0 j.toNat (s.v l.length),by grind[XR,fS,gV,bT],λ_ a b=>?_⟩) (kk (mP h).2 g);obtain⟨I,M⟩:=E;have H:j<=(s.c:Int):=aa
 have F:max j 0=j:=aa
 simp[execOp,f,Instr.sliceAt,Instr.slice,run_underlying (ID v hT),Instr.sliceBounds,b.eval (hdB k r),b.eval (zQ k hz),Instr.sliceBound,asIntOf,hT.size _ _ D,I,H,F,jF]
theorem bS5(hc:l.length<=s.c)(U:opS (jO T n K cf m e L)=some (o,Lv,cf1,cf2,K',m',e',L'))(ho:(o.op,o.dst)=(.slice t x none (some z) (some u),some d))(D:zS T t=some ⟨.sl el,b1,n1,z1⟩)(E:zS T el=some ⟨kt,b2,sz,z2⟩)(v:jA e' x=some (.h s l.length))(hz:(jA e' z).bind tF=some (k2,j))(C:(jA e' u).bind tF=some (k3,p))(F:need (0<=j/\j<=p/\p<=(l.length:Int)) A=some q)
  (kk:A=some q->(0<=j.toNat/\j.toNat<=p.toNat/\p.toNat<=l.length)->G (.mk P T hT n c B0 N X Q) K' m' ((d,.h ⟨(s.sub sz 0).a,p.toNat⟩ ((l.take j.toNat).drop 0).length)::e') L' cf2):G (.mk P T hT n c B0 N X Q) K m e L cf:=by
 have k:o.op=.slice t x none (some z) (some u):=cS Prod.fst ho;have W:=(mP F).1;have r:0<=j.toNat/\j.toNat<=p.toNat/\p.toNat<=l.length:=aa
 have hl:=BY (l:=l) (a:=0) (b:=j.toNat) aa aa;refine pu U (cS Prod.snd ho) (λB a w h Y=>⟨AC.v ⟨(s.sub sz 0).a,p.toNat⟩ ((l.take j.toNat).drop 0).length,by simp[fS,gV,bT],λ_ a f=>?_⟩) (kk (mP F).2 r);obtain⟨S,R,Z⟩:=W;have M:p<=(s.c:Int):=aa
 have J:0<=p:=aa
 have I:max j 0=j:=aa
 have H:max p 0=p:=aa
 rw[hl];have g:s.a.map (λx=>x.add 0)=s.a:=by simp[Addr.add]
 by_cases V:p=0
 .subst V;simp[execOp,k,Instr.sliceAt,Instr.slice,run_underlying (ID D hT),Instr.sliceBounds,f.eval (hdB h v),f.eval (zQ h hz),f.eval (zQ h C),Instr.sliceBound,asIntOf,hT.size _ _ E,S,R,M,J,I,H,AC.sub,g]
 .simp[execOp,k,Instr.sliceAt,Instr.slice,run_underlying (ID D hT),Instr.sliceBounds,f.eval (hdB h v),f.eval (zQ h hz),f.eval (zQ h C),Instr.sliceBound,asIntOf,hT.size _ _ E,S,R,M,J,I,H,AC.sub,g]
end
end
section
variable {P:Program} {T:TT} {hT:IC P T} {n:Nat} {c:Ctx} {B0:Bl} {N:Act->World->Prop} {X:Nat->Act->World->Prop} {Q:Act->World->Prop} {K K':bg} {m m':Nat} {e e':SE} {L L' Lv:ao} {cf cf' cf1 cf2:wV} {o:Oper} {d:Nat}
theorem bF2{O:Type}[aN O]{B:Bl}{w:World}{R:bs}{j a b sz:Nat}{s s':AC}{l l':List O}(hn:aN.n O=sz)(i:L[j]?=some (ow s l))(u:a<=b/\b<=l.length)(hl:(l.take b).drop a=l')(g:∀w F,aN.own w [s.v l.length] l F->∃f,aN.own w [s'.v l'.length] l' f/\∀b o,f b o->F b o)(k:lS c w B L):lS c w B (L.set j (ow s' l')):=by
 obtain⟨⟨R,s1,t⟩,s0⟩:=k;refine⟨⟨R,?_,λz hz=>?_⟩,s0⟩
 .rw[PX];refine s1.aK5 j (by rw[D0,i];rfl) λF p=>?_;obtain⟨f,r,q⟩:=g w F p;exact⟨f,F0,eT.refl _ _,λ_ _ h=>h.elim,r,λb o h=>.inl (q b o h)⟩
 .obtain hz|hz:=tD hz
  .grind
  .subst hz;trivial
theorem a3A{O:Type}[aN O]{s:AC}{l l':List O}{sz a b:Nat}(hn:aN.n O=sz)(g:a<=b/\b<=l.length)(hl:(l.take b).drop a=l'):∀w F,aN.own w [s.v l.length] l F->∃f,aN.own w [(s.sub sz a).v l'.length] l' f/\∀b o,f b o->F b o:=by intro w F h;obtain⟨f,j,i⟩:=a8P hn h g.1 g.2;grind[XR]
theorem bF3{O:Type}[aN O]{s:AC}{l l':List O}{sz b p:Nat}(hn:aN.n O=sz)(i:0<=b/\b<=p/\p<=l.length)(hl:(l.take b).drop 0=l'):∀w F,aN.own w [s.v l.length] l F->∃f,aN.own w [AC.v ⟨(s.sub sz 0).a,p⟩ l'.length] l' f/\∀b o,f b o->F b o:=by
 intro w F h;obtain⟨f,q,k⟩:=bET hn h i.1 i.2.1 i.2.2;have j:s.a.map (λx=>x.add 0)=s.a:=by simp[Addr.add]
 have g:=BY (l:=l) (a:=0) (b:=b) aa aa;rw[hl] at g q;refine⟨f,?_,k⟩;simp_all[bKZ,AC.sub]
theorem po{O:Type}[aN O](j a b:Nat){sz:Nat}{s:AC}{l l':List O}(hn:aN.n O=sz)(g:XL (jO T n K cf m e L)=some (K',cf',m',e',L'))(h:L'[j]?=some (ow s l))(hz:gE j cf'.zU=true)(f:a<=b/\b<=l.length)(hl:(l.take b).drop a=l')
  (k:G (.mk P T hT n c B0 N X Q) K' m' e' (L'.set j (ow (s.sub sz a) l')) cf'):G (.mk P T hT n c B0 N X Q) K m e L cf:=by refine go g (chg (λ_:Unit=>m') (λ_=>e') (λ_=>L'.set j (ow (s.sub sz a) l')) (λB r w p q i=>?_) (λ_=>IE hz) (λ_=>k));exact⟨(),[],aj,aj,by simpa using bF2 (R:=[]) hn h f hl (a3A hn f hl) i⟩
theorem poR{Z:Act->World->Prop}{O:Type}[aN O](j a b:Nat){sz:Nat}{s:AC}{l l':List O}(hn:aN.n O=sz)(h:L[j]?=some (ow s l))(g:a<=b/\b<=l.length)(hl:(l.take b).drop a=l')
  (kk:∀f w,qQ n c B0 m e (L.set j (ow (s.sub sz a) l')) f w->Z f w):∀f w,qQ n c B0 m e L f w->Z f w:=by intro f w ⟨B,hm,k,i⟩;exact kk f w ⟨B,hm,k,bF2 (R:=[]) hn h g hl (a3A hn g hl) i⟩
theorem pmR{Z:Act->World->Prop}{O:Type}[aN O](j b p:Nat){sz:Nat}{s:AC}{l l':List O}(hn:aN.n O=sz)(f:L[j]?=some (ow s l))(g:0<=b/\b<=p/\p<=l.length)(hl:(l.take b).drop 0=l')
  (kk:∀a w,qQ n c B0 m e (L.set j (ow ⟨(s.sub sz 0).a,p⟩ l')) a w->Z a w):∀a w,qQ n c B0 m e L a w->Z a w:=by intro a w ⟨B,hm,i,h⟩;exact kk a w ⟨B,hm,i,bF2 (R:=[]) hn f ⟨aa,aa⟩ hl (bF3 hn g hl) h⟩
theorem a6G{O:Type}{l xs:List O}{k a n:Nat}(h:k<=n/\n<=l.length)(b:a<=l.length):k<=n/\n<=(dF l a xs).length:=⟨h.1,by grind[fK]⟩
theorem a0B{O:Type}{l xs:List O}{k a:Nat}(h:k<=a)(b:a<=l.length):((dF l a xs).take k).drop 0=(l.take k).drop 0:=by grind[dF]
def AC.bLO(s:AC)(n a p:Nat):AC:=⟨if p=a then s.a else s.a.map (·.add (a*n)),p-a⟩
section
variable {x y z:Operand} {t el sz:Nat} {zv:Value} {k1 k2:IntKind} {i j:Int} {O β:Type} [aN O] {A:Option β} {q:β} {s:AC} {l:List O} {b1 b2:Bool} {n1:Nat} {z1 z2:au} {kt:TK}
theorem ap2[Flat O](p a b:Nat)(h:a<=b/\b<=l.length)(V:jO T n K cf m e L=.op o Lv cf1 cf2 K' m' e' L')(ho:(o.op,o.dst)=(.call {callee:=.builtin .append,args:=#[x,y],argTypes:=#[t,t]},some d))(U:zS T t=some ⟨.sl el,b1,n1,z1⟩)(Y:zS T el=some ⟨kt,b2,sz,z2⟩)(hn:aN.n O=sz)(W:L'[p]?=some (ow s l))(hz:gE p cf1.zU=true)(M:jA e' x=some (.h (s.sub sz 0) ((l.take a).drop 0).length))(J:jA e' y=some (.h (s.sub sz b) ((l.take l.length).drop b).length))
  (k:(0<=a+(l.length-b)/\a+(l.length-b)<=(dF l a (l.drop b)).length)->G (.mk P T hT n c B0 N X Q) K' m' ((d,.h (s.sub sz 0) (((dF l a (l.drop b)).take (a+(l.length-b))).drop 0).length)::e') (L'.set p (ow s (dF l a (l.drop b)))) cf2):G (.mk P T hT n c B0 N X Q) K m e L cf:=by
 have F:(dF l a (l.drop b)).length=l.length:=fK aa;have hk:0<=a+(l.length-b)/\a+(l.length-b)<=(dF l a (l.drop b)).length:=aa
 refine g9 (g:=.mk P T hT n c B0 N X Q) ?_;rw[V];intro H _ hE;refine hE Unit (λ_=>m') (λ_=>(d,.h (s.sub sz 0) (((dF l a (l.drop b)).take (a+(l.length-b))).drop 0).length)::e') (λ_=>L'.set p (ow s (dF l a (l.drop b)))) (λ_=>IE hz) (λB E w next Q' hm r hS f=>?_) (λ_=>k hk);obtain⟨⟨R,I,s2⟩,s0⟩:=hS;have C:ev (vE (B0S (.mk P T hT n c B0 N X Q) cf1++B) e') x=some (jF sz 0 a (s.v l.length)):=by rw[hdB r M,XR (iT a) (oB h.1 h.2)]
 have u:ev (vE (B0S (.mk P T hT n c B0 N X Q) cf1++B) e') y=some (jF sz b l.length (s.v l.length)):=by rw[hdB r J,XR h.2 (jE _)]
 have D:o.op=.call {callee:=.builtin .append,args:=#[x,y],argTypes:=#[t,t]}:=cS Prod.fst ho;have Z:o.dst=some d:=cS Prod.snd ho;obtain⟨v,w',k1,rfl,k2⟩:=a53 p I (by rw[D0,W];rfl) hn h.1 h.2 (ID U hT) (hT.size _ _ Y) D C u;unfold Oper.wp;rw[k1 _ E r.env,Oper.upon_value,Z];have S:fS (B0S (.mk P T hT n c B0 N X Q) cf1++B) (.h (s.sub sz 0) (((dF l a (l.drop b)).take (a+(l.length-b))).drop 0).length)=some (jF sz 0 (a+(l.length-b)) (s.v l.length)):=by grind[XR,fS,gV,bT]
 refine f () _ _ ⟨[],aj,by simpa using r.of S (r.env.put (by grind[sH,y5]) _),?_⟩;rw[wW];refine⟨⟨R,?_,λz hz=>?_⟩,s0⟩
 .rw[PX];show St c w' ((L'.map _).set p (fF [s.v (dF l a (l.drop b)).length] _)) R;grind
 .obtain hz|hz:=tD hz
  .grind
  .subst hz;trivial
theorem bF4(p k':Nat)(hk:k'<=l.length){k:List O}(M:k.length=k')(E:opS (jO T n K cf m e L)=some (o,Lv,cf1,cf2,K',m',e',L'))(ho:(o.op,o.dst)=(.slice t x (some y) (some z) none,some d))(D:zS T t=some ⟨.sl el,b1,n1,z1⟩)(H:zS T el=some ⟨kt,b2,sz,z2⟩)(hn:aN.n O=sz)(F:Lv[p]?=some (ow s l))(C:jA e' x=some (.h (s.sub sz 0) k.length))(v:(jA e' y).bind tF=some (k1,i))(hz:(jA e' z).bind tF=some (k2,j))(r:need (0<=i/\i<=j/\j<=(l.length:Int)) A=some q)
  (kk:A=some q->(i.toNat<=j.toNat/\j.toNat<=l.length)->G (.mk P T hT n c B0 N X Q) K' m' ((d,.h (s.sub sz i.toNat) ((l.take j.toNat).drop i.toNat).length)::e') L' cf2):G (.mk P T hT n c B0 N X Q) K m e L cf:=by
 have f:o.op=.slice t x (some y) (some z) none:=cS Prod.fst ho;have I:=(mP r).1;have g:i.toNat<=j.toNat/\j.toNat<=l.length:=aa
 refine pu E (cS Prod.snd ho) (λB a w h J=>⟨jF sz i.toNat j.toNat (s.v l.length),by grind[XR,fS,gV,bT],?_⟩) (kk (mP r).2 g);obtain⟨⟨R,u,S⟩,s0⟩:=J;have b:ev (vE B e') x=some (jF sz 0 k' (s.v l.length)):=by rw[hdB h C,M];rfl
 exact a54 p u (by rw[D0,F];rfl) hn (ID D hT) (hT.size _ _ H) I f b (zQ h v) (zQ h hz)
theorem clr[Flat O](p a b:Nat)(h:O)(J:a<=b/\b<=l.length)(u:Inf P el sz zv)(C:zv.cells.size=sz)(D:∀w,aN.rd F0 w zv.cells.toList h)(r:(zv.cells.toList.all λv=>v.oneCell')=true)(W:jO T n K cf m e L=.op o Lv cf1 cf2 K' m' e' L')(ho:(o.op,o.dst)=(.call {callee:=.builtin .clear,args:=#[x],argTypes:=#[t]},none))(V:zS T t=some ⟨.sl el,b1,n1,z1⟩)(hn:aN.n O=sz)(Y:L'[p]?=some (ow s l))(hz:gE p cf1.zU=true)(hx:jA e' x=some (.h (s.sub sz a) ((l.take b).drop a).length))
  (k:G (.mk P T hT n c B0 N X Q) K' m' e' (L'.set p (ow s (dF l a (List.replicate (b-a) h)))) cf2):G (.mk P T hT n c B0 N X Q) K m e L cf:=by
 have I:(dF l a (List.replicate (b-a) h)).length=l.length:=fK aa;refine g9 (g:=.mk P T hT n c B0 N X Q) ?_;rw[W];intro M _ hE;refine hE Unit (λ_=>m') (λ_=>e') (λ_=>L'.set p (ow s (dF l a (List.replicate (b-a) h)))) (λ_=>IE hz) (λB H w next Q' hm hA hS f=>?_) (λ_=>k);obtain⟨⟨R,S,s2⟩,s0⟩:=hS;have E:ev (vE (B0S (.mk P T hT n c B0 N X Q) cf1++B) e') x=some (jF sz a b (s.v l.length)):=by grind[hdB,XR]
 have F:o.op=.call {callee:=.builtin .clear,args:=#[x],argTypes:=#[t]}:=cS Prod.fst ho;have Z:o.dst=none:=cS Prod.snd ho;obtain⟨v,w',k1,rfl,k2⟩:=bEY h p S (by rw[D0,Y];rfl) hn J.1 J.2 (ID V hT) u C D (λv U=>aF4.1 r v U) F E;unfold Oper.wp;rw[k1 _ H hA.env,Oper.upon_value,Z];refine f () _ _ ⟨[],aj,by grind[Act.put],?_⟩;rw[wW];refine⟨⟨R,?_,λz hz=>?_⟩,s0⟩
 .rw[PX];show St c w' ((L'.map _).set p (fF [s.v (dF l a (List.replicate (b-a) h)).length] _)) R;grind
 .obtain hz|hz:=tD hz
  .grind
  .subst hz;trivial
theorem a6H{u:Operand}{k3:IntKind}{pz:Int}(hc:l.length<=s.c)(hs:opS (jO T n K cf m e L)=some (o,Lv,cf1,cf2,K',m',e',L'))(ho:(o.op,o.dst)=(.slice t x (some y) (some z) (some u),some d))(F:zS T t=some ⟨.sl el,b1,n1,z1⟩)(I:zS T el=some ⟨kt,b2,sz,z2⟩)(D:jA e' x=some (.h s l.length))(C:(jA e' y).bind tF=some (k1,i))(hz:(jA e' z).bind tF=some (k2,j))(E:(jA e' u).bind tF=some (k3,pz))(J:need (0<=i/\i<=j/\j<=pz/\pz<=(l.length:Int)) A=some q)
  (kk:A=some q->(i.toNat<=j.toNat/\j.toNat<=pz.toNat/\pz.toNat<=l.length)->G (.mk P T hT n c B0 N X Q) K' m' ((d,.h (s.bLO sz i.toNat pz.toNat) ((l.take j.toNat).drop i.toNat).length)::e') L' cf2):G (.mk P T hT n c B0 N X Q) K m e L cf:=by
 have k:o.op=.slice t x (some y) (some z) (some u):=cS Prod.fst ho;have hb:=(mP J).1;have v:i.toNat<=j.toNat/\j.toNat<=pz.toNat/\pz.toNat<=l.length:=aa
 have hl:=BY (l:=l) (a:=i.toNat) (b:=j.toNat) aa aa;refine pu hs (cS Prod.snd ho) (λB a w g hS=>⟨AC.v (s.bLO sz i.toNat pz.toNat) ((l.take j.toNat).drop i.toNat).length,by simp[fS,gV,bT],λ_ a f=>?_⟩) (kk (mP J).2 v);obtain⟨Z,Y,W,h2'⟩:=hb;have V:pz<=(s.c:Int):=aa
 have U:0<=pz:=aa
 have p:0<=j:=aa
 have S:max j 0=j:=aa
 have R:max pz 0=pz:=aa
 have M:max i 0=i:=aa
 rw[hl];by_cases H:pz.toNat=i.toNat
 .have:pz=i:=aa
  subst this;simp[execOp,k,Instr.sliceAt,Instr.slice,run_underlying (ID F hT),Instr.sliceBounds,f.eval (hdB g D),f.eval (zQ g C),f.eval (zQ g hz),f.eval (zQ g E),Instr.sliceBound,asIntOf,hT.size _ _ I,Z,Y,W,V,U,p,S,R,M,AC.bLO]
 .have r:¬pz=i:=λh=>H (by rw[h]);simp[execOp,k,Instr.sliceAt,Instr.slice,run_underlying (ID F hT),Instr.sliceBounds,f.eval (hdB g D),f.eval (zQ g C),f.eval (zQ g hz),f.eval (zQ g E),Instr.sliceBound,asIntOf,hT.size _ _ I,Z,Y,W,V,U,p,S,R,M,H,r,AC.bLO]
theorem bVY{f:Nat}(k:opS (jO T n K cf m e L)=some (o,Lv,cf1,cf2,K',m',e',L'))(ho:(o.op,o.dst)=(.binOp .shl t x y f,some d))(h:(jA e' x).bind tF=some (k1,i))(g:(jA e' y).bind tF=some (k2,j))(p:need (0<=j) A=some q)
  (kk:A=some q->G (.mk P T hT n c B0 N X Q) K' m' ((d,.i k1 (aRC k1 i j))::e') L' cf2):G (.mk P T hT n c B0 N X Q) K m e L cf:=pu k (cS Prod.snd ho) (λB a w b _=>⟨_,rfl,bD3 (cS Prod.fst ho) (zQ b h) (zQ b g) (by grind[mP])⟩) (kk (mP p).2)
theorem eqn{p:Nat}{ln:Nat}(k:opS (jO T n K cf m e L)=some (o,Lv,cf1,cf2,K',m',e',L'))(ho:(o.op,o.dst)=(.binOp .eql t x (.const (.slice none 0 0)) p,some d))(h:zS T t=some ⟨.sl el,b1,n1,z1⟩)(g:jA e' x=some (.h s ln))
  (kt:s.a=none->G (.mk P T hT n c B0 N X Q) K' m' ((d,.l true)::e') L' cf2) (kf:G (.mk P T hT n c B0 N X Q) K' m' ((d,.l false)::e') L' cf2):G (.mk P T hT n c B0 N X Q) K m e L cf:=by
 cases b:s.a with
 |none=>exact pu k (cS Prod.snd ho) (λB a w f _=>⟨_,rfl,a51 (ID h hT) ⟨ln,s.c,aj⟩ (cS Prod.fst ho) (hdB f g) rfl⟩) (kt b)
 |some r=>exact pu k (cS Prod.snd ho) (λB a w f _=>⟨_,rfl,a52 (ID h hT) ⟨r,ln,s.c,aj⟩ (cS Prod.fst ho) (hdB f g) rfl⟩) kf
theorem cln{w:Ctx}{r:List O}(h:aU w s l)(hn:s.a=none)(a:need (([]:List O).length+l.length<=1073741824) (some (([]:List O)++l))=some r):some ([]:List O)=some r:=by obtain⟨u,p,k,g,f,b⟩:=(show sN w.S0 w.w0 [s.v l.length] l from h);grind[need]
end
section
variable {x y:Operand} {t el sz:Nat} {zv:Value} {b1:Bool} {n1:Nat} {z1:au}
theorem ZA{O:Type}[aN O](E:CO O)(is:av)(q:O)(A:E.ex)(p:Inf P el sz zv)(C:jO T n K cf m e L=.op o Lv cf1 cf2 K' m' e' L'/\(o.op,o.dst)=(.buildSlice t 1 #[(0,x)],some d)/\zS T t=some ⟨.sl el,b1,n1,z1⟩/\aN.n O=sz/\Nat.ble 1 sz=true/\Nat.ble sz 16777216=true/\(jA e' x).map (λv=>nbL (pN v))=some (E.cs q A)/\(jA e' x).map isCells=some true/\(E.cs q A).length=sz/\(aV (bT []) (E.cs q A)).isSome=true/\aV (λi=>L'[i]?) is=some (E.Lx q A)/\dV is=true/\(is.all λj=>gE j cf1.zU)=true)
  (k:∀s':AC,G (.mk P T hT n c B0 N X Q) K' m' ((d,.h s' [q].length)::e') (L5 L' is++[ow s' [q]]) cf2):G (.mk P T hT n c B0 N X Q) K m e L cf:=by
 obtain⟨hs,ho,ht,hn,hm,V,J,s,W,b,hi,ha,hz⟩:=C;obtain⟨ec,b⟩:=aM2.1 b;refine aZ8 (l:=[q]) (λs'=>L5 L' is++[ow s' [q]]) hs (cS Prod.snd ho) (λ_=>Y6 _ hz) (λB a w hA hS=>?_) k;obtain⟨⟨R,s1,s2⟩,s0⟩:=hS;have S:ec.length=sz:=by grind[mE]
 cases r:jA e' x with
 |none=>grind
 |some Y=>
  rw[r] at J s;simp at J s;obtain⟨v,v1,Z⟩:=eV hA r;have g:aV (bT B) (pN Y)=some ec:=by rw[<-UB,J];exact fL (λx v h=>by simpa using gR (B:=[]) B h) b
  have D:v.cells.toList=ec:=XP v1 g;have p1:=s1.shift is ha (A':=[fF ec q]) λF U=>by rw[UE hi,E.nb] at U;exact Sep.one.2 ((E.pk b w F).2 U)
  have f:(blank (L'.map (l5 B)) is).length=L'.length:=by rw[<-MU];simp[aQB]
  obtain⟨v',w',k1,I⟩:=bKQ (e:=vE B e') (o:=o) (ps:=[(0,x)]) (vs:=[v]) (cells:=ec) [q] p1 [L'.length] rfl ⟨[],by
    simp only[pick,aXZ (aAT f),f,Nat.sub_self];grind,aj,⟨aj,rfl⟩⟩ hn (ID ht hT) p rfl hm aj (cS Prod.fst ho) (by simp[evs,Z]) (aRI (vs:=[v]) (ps:=[(0,x)]) rfl rfl aj (by simp[D]))
  have H:blank (blank (L'.map (l5 B)) is++[fF ec q]) [L'.length]=blank (L'.map (l5 B)) is++[QD]:=by simp_all[blank]
  rw[H] at I;obtain⟨s',rfl⟩:=aLD (v:=v') (l:=[q]) I (L'.length+1) aj;refine⟨s',w',k1,⟨⟨R,?_,λz hz=>?_⟩,s0⟩⟩
  .have k3:=I.sel ((List.range L'.length)++[L'.length+1]) ?_
   .refine k3.imp ?_;rw[vC,MU,aI1];refine kC.append ?_ ?_
    .have:pick (blank (L'.map (l5 B)) is++[QD]++[fF [s'.v [q].length] [q]]) (List.range L'.length)=blank (L'.map (l5 B)) is:=by
      have gen:∀(M u:bj) (j:Nat),pick (M++u) ((List.range j))=(M++u).take j\/¬j<=(M++u).length:=by
       intro M u j;by_cases hj:j<=(M++u).length
       .left;induction j with
        |zero=>rfl
        |succ j ih=>
         grind[List.range_succ,aI1,pick,List.take_add_one]
       omega
      grind
     grind[kC.refl]
    simp_all[pick,l5,kC.refl]
   .have gen:∀(j:Nat),dV (List.range' j (L'.length-j)++[L'.length+1])=true:=by
     intro j;generalize hk:L'.length-j=k;induction k generalizing j with
     |zero=>rfl
     |succ k ih=>
      rw[List.range'_succ,H6];simp only[dV,yV,aF4,a2C];grind[qN]
    have:=gen 0;simp_all[List.range_eq_range']
  .obtain hz|hz:=dR.1 hz
   .obtain hz|hz:=UD _ _ hz
    .grind
    .subst hz;trivial
   .simp at hz;subst hz;trivial
theorem apN{O β:Type}[aN O]{A:Option β}{q:β}{s p:AC}{l xs:List O}(i j:Nat)(f:Inf P el sz zv)(M:jO T n K cf m e L=.op o Lv cf1 cf2 K' m' e' L')(ho:(o.op,o.dst)=(.call {callee:=.builtin .append,args:=#[x,y],argTypes:=#[t,t]},some d))(g:zS T t=some ⟨.sl el,b1,n1,z1⟩/\aN.n O=sz/\zv.cells.size=sz/\L'[i]?=some (ow s l)/\L'[j]?=some (ow p xs)/\dV [i,j]=true/\([i,j].all λj=>gE j cf1.zU)=true/\jA e' x=some (.h s l.length)/\jA e' y=some (.h p xs.length))(u:need (l.length+xs.length<=1073741824) A=some q)
  (k:A=some q->∀s':AC,G (.mk P T hT n c B0 N X Q) K' m' ((d,.h s' (l++xs).length)::e') (L5 L' [i,j]++[ow s' (l++xs)]) cf2):G (.mk P T hT n c B0 N X Q) K m e L cf:=by
 obtain⟨J,U,h,Z,Y,V,hz,I,H⟩:=g;refine aZ8 (l:=l++xs) (λs'=>L5 L' [i,j]++[ow s' (l++xs)]) M (cS Prod.snd ho) (λ_=>Y6 _ hz) (λB a w C W=>?_) (k (mP u).2);obtain⟨⟨R,E,D⟩,s0⟩:=W;have S:pick (L'.map (l5 B)) [i,j]=[fF [s.v l.length] l,fF [p.v xs.length] xs]:=by grind[pick,l5]
 obtain⟨v,w',F,r⟩:=bKR [i,j] E V S U (ID J hT) f h (mP u).1 (cS Prod.fst ho) (hdB C I) (hdB C H);have b:(blank (L'.map (l5 B)) [i,j]).length=L'.length:=by rw[<-MU];simp[aQB]
 obtain⟨s',rfl⟩:=aLD r L'.length (by rw[aXZ (aAT b),b,Nat.sub_self];rfl);refine⟨s',w',F,⟨⟨R,?_,λz hz=>?_⟩,s0⟩⟩
 .rw[vC,MU];exact r
 .obtain hz|hz:=dR.1 hz
  .obtain hz|hz:=UD _ _ hz
   .grind
   .subst hz;trivial
  .simp at hz;subst hz;trivial
end
theorem kb{b cb:Bool}(f:av)(h:b=cb)(g:XL (jO T n K cf m e L)=some (K',cf',m',e',L'))(ho:aV (GK e') f=some (f.map λ_=>SV.b b))(k:G (.mk P T hT n c B0 N X Q) K' m' (ovr cb e' f) L' cf'):G (.mk P T hT n c B0 N X Q) K m e L cf:=go g (aRT (λa B i=>aE0 h f ho i) k)
def rhE(v:SV)(e:SE):b6->SE
 |[]=>e
 |(k,j)::r=>match GK e k with
  |some (.g cs)=>(k,.g (ovw cs j [v]))::rhE v e r
  |some (.t cs)=>(k,.t (ovw cs j [v]))::rhE v e r
  |_=>rhE v e r
def rhL(v:SV)(L:ao):b6->ao
 |[]=>L
 |(k,j)::r=>match L[k]? with
  |some (.box n cs)=>rhL v (L.set k (.box n (ovw cs j [v]))) r
  |_=>rhL v L r
theorem aQD{B:Bl}{f:Bl->SV->Option Value}{u v:SV}(a:∀B,f B u=f B v):∀{cs:au} {j:Nat},cs[j]?=some u->aV (f B) (ovw cs j [v])=aV (f B) cs
 |[],j,h=>by simp at h
 |x::cs,0,h=>by grind[aV,ovw,aZY]
 |x::cs,j + 1,h=>by show aV (f B) (x::ovw cs j [v])=_;simp only[aV,aQD (B:=B) a (show cs[j]?=some u by grind)]
theorem bF5{s:AC}{g b:Nat}(hn:g=b){B:Bl}:∀{ps:b6} {k:Nat} {x:SV},(∀p∈ps,∃cs,(GK e p.1=some (.g cs)\/GK e p.1=some (.t cs))/\cs[p.2]?=some (.h s g))->GK (rhE (.h s b) e ps) k=some x->∃y,GK e k=some y/\fS B x=fS B y
 |[],k,x,_,h=>⟨x,h,rfl⟩
 |(k',j)::r,k,x,q,h=>by
  have v:=λh=>bF5 hn (B:=B) (ps:=r) (k:=k) (x:=x) (λp i=>q p (lZ _ i)) h;obtain⟨cs,a,t⟩:=q (k',j) ae;have hc:∀B,bT B (.h s g)=bT B (.h s b):=λB=>by rw[hn]
  have u:∀B,gV B (.h s g)=gV B (.h s b):=λB=>by rw[hn]
  obtain a|a:=a
  .simp only[rhE,a,GK] at h;split at h
   .rename_i l;cases h;have:=qN l;subst this;exact⟨_,a,by simp only[fS,gV,aQD (f:=bT) hc t]⟩
   grind
  .simp only[rhE,a,GK] at h;split at h
   .rename_i l;cases h;have:=qN l;subst this;exact⟨_,a,by simp only[fS,aQD (f:=gV) u t]⟩
   grind
theorem a9I{s:AC}{y g:Nat}(hn:y=g){B:Bl}{w:World}{R:bs}:∀{ps:b6} {L:ao},(∀p∈ps,∃k cs,L[p.1]?=some (.box k cs)/\cs[p.2]?=some (.h s y))->dV (ps.map (·.1))=true->kC w (L.map (l5 B)) ((rhL (.h s g) L ps).map (l5 B))/\((∀x∈L,roF B R x)->∀x∈rhL (.h s g) L ps,roF B R x)
 |[],L,_,_=>⟨kC.refl _,λh=>h⟩
 |(i,j)::r,L,H,E=>by
  obtain⟨k,cs,u,G⟩:=H (i,j) ae;have hc:∀B,bT B (.h s y)=bT B (.h s g):=λB=>by rw[hn]
  simp only[LM,dV,yV] at E;have D:=a9I hn (B:=B) (w:=w) (R:=R) (ps:=r) (L:=L.set i (.box k (ovw cs j [.h s g]))) (λp l=>by
   obtain⟨k',v,h3,V⟩:=H p (lZ _ l);have I:i≠p.1:=λZ=>by have:=aF4.1 E.1 p.1 (List.mem_map_of_mem l);simp_all
   exact⟨k',v,aj,V⟩) E.2
  simp only[rhL,u];refine⟨?_,λh=>D.2 λx q=>?_⟩
  .have h5:kC w (L.map (l5 B)) ((L.set i (.box k (ovw cs j [.h s g]))).map (l5 B)):=by rw[PX];exact kC.put (a:=Y3 B k cs) (b:=Y3 B k (ovw cs j [.h s g])) i (by rw[D0,u];rfl) λF ⟨b,z,vs,S,O,M⟩=>⟨b,z,vs,S,by rw[aQD (f:=bT) hc G];exact O,M⟩
   have Y:∀{A B C:bj},kC w A B->kC w B C->kC w A C:=by
    intro A B C u;induction u generalizing C with
    |nil=>simp
    |cons h t D=>intro G;cases G with|cons W J=>exact .cons (λF U=>W F (h F U)) (D J)
   grind
  .obtain q|q:=tD q
   .exact h x q
   .subst q;trivial
def atE(e:SE)(p:Nat×Nat):bz:=match GK e p.1 with
 |some (.g cs)=>cs[p.2]?
 |some (.t cs)=>cs[p.2]?
 |_=>none
def atL(L:ao)(p:Nat×Nat):bz:=match L[p.1]? with
 |some (.box _ cs)=>cs[p.2]?
 |_=>none
theorem bF6{B:Bl}{a:Act}{w:World}(s:AC){g h:Nat}(hn:g=h){ps qs:b6}(u:aV (atE e) ps=some (ps.map λ_=>.h s g))(t:aV (atL L) qs=some (qs.map λ_=>.h s g))(z:dV (qs.map (·.1))=true)(i:iC n B e a)(A:lS c w B L):iC n B (rhE (.h s h) e ps) a/\lS c w B (rhL (.h s h) L qs):=by
 have key:∀{γ:Type} {f:γ->bz} {ps:List γ},aV f ps=some (ps.map λ_=>.h s g)->∀p∈ps,f p=some (.h s g):=by
  intro γ f ps;induction ps with
  |nil=>simp
  |cons q ps C=>
   grind[aV]
 refine⟨⟨i.d,i.size,λk x hk=>?_⟩,?_⟩
 .obtain⟨y,j,l⟩:=bF5 hn (B:=B) (λp b=>by
   have:=key u p b;unfold atE at this;grind) hk
  obtain⟨v,E,D⟩:=i.get k y j;grind
 .obtain⟨⟨R,s1,r⟩,s0⟩:=A;obtain⟨j,l⟩:=a9I hn (B:=B) (w:=w) (R:=R) (L:=L) (λp b=>by
   have:=key t p b;unfold atL at this;split at this
   .rename_i k cs hc;exact⟨k,cs,hc,this⟩
   grind) z
  exact⟨⟨R,s1.imp j,l r⟩,s0⟩
theorem aQE{g:Gx}{cf:wV}{v:SV}:∀{qs:b6} {L M:ao},Frz g cf L M->((qs.map (·.1)).all λj=>gE j cf.zU)=true->Frz g cf L (rhL v M qs)
 |[],L,M,h,_=>h
 |(i,j)::r,L,M,h,hz=>by
  simp only[LM,aF3,yV] at hz;simp only[rhL];split
  .exact aQE (qs:=r) (a27 h hz.1) hz.2
  .exact aQE (qs:=r) h hz.2
theorem uW{Z:Act->World->Prop}(s:AC){g f:Nat}(hn:g=f)(ps qs:b6)(b:aV (atE e) ps=some (ps.map λ_=>.h s g)/\aV (atL L) qs=some (qs.map λ_=>.h s g)/\dV (qs.map (·.1))=true)
  (kk:∀a w,qQ n c B0 m (rhE (.h s f) e ps) (rhL (.h s f) L qs) a w->Z a w):∀a w,qQ n c B0 m e L a w->Z a w:=by obtain⟨i,h,j⟩:=b;intro a w ⟨B,hm,l,k⟩;obtain⟨q,p⟩:=bF6 s hn i h j l k;exact kk a w ⟨B,hm,q,p⟩
end
section
variable {P:Program} {T:TT} {hT:IC P T} {n:Nat} {c:Ctx} {B0:Bl} {N:Act->World->Prop} {X:Nat->Act->World->Prop} {Q:Act->World->Prop} {K K':bg} {m m':Nat} {e e':SE} {L L' Lv:ao} {cf cf' cf1 cf2:wV} {o:Oper} {d:Nat}
section
variable {x:Operand} {t t2 el sz:Nat} {b1 b2 b3:Bool} {n1 n2 n3:Nat} {z1 z2 z3:au}
theorem qbo(p:Nat){s:AC}{l:bh}(g:opS (jO T n K cf m e L)=some (o,Lv,cf1,cf2,K',m',e',L'))(ho:(o.op,o.dst)=(.convert t t2 x,some d))(f:zS T t=some ⟨.sl el,b1,n1,z1⟩)(j:zS T el=some ⟨.i .u8,b2,n2,z2⟩)(r:zS T t2=some ⟨.s,b3,n3,z3⟩)(i:Lv[p]?=some (ow s l))(b:jA e' x=some (.h s l.length))
  (kk:G (.mk P T hT n c B0 N X Q) K' m' ((d,.s l)::e') L' cf2):G (.mk P T hT n c B0 N X Q) K m e L cf:=by refine pu g (cS Prod.snd ho) (λB a w q k=>⟨_,rfl,?_⟩) kk;obtain⟨⟨R,s1,u⟩,s0⟩:=k;have h:=s1.a8J (cs:=[s.v l.length]) (d:=l) p (by simp[i,l5]);obtain⟨z,y,v⟩:=hT.und _ _ j;exact bPX h (ID f hT) aj (bS1 r hT) (cS Prod.fst ho) (hdB q b)
theorem bLR{O:Type}[aN O](E:CO O){q:O}{y:E.ex}{ec:ar}(h:aV (bT []) (E.cs q y)=some ec)(a:E.Lx q y=[])(w:World):aN.rd F0 w ec q:=by have:=(E.pk h w F0).2 (by rw[a];exact λ_ _ h=>h);grind[aN.own_rd]
theorem lits{O:Type}[aN O](E:CO O)(y:E.ex){sz:Nat}{B:Bl}{a:Act}(s:iC n B e a)(r:∀q,E.Lx q y=[]):∀{ps:cw} {qs:List O},aV (λp=>(jA e p.2).map λv=>nbL (pN v)) ps=some (qs.map λq=>E.cs q y)->(qs.all λq=>Nat.beq (E.cs q y).length sz && (aV (bT []) (E.cs q y)).isSome)=true ->
  ∃vs cells,evs (vE B e) (ps.map (·.2))=some vs/\vs.length=ps.length/\(vs.all λv=>v.cells.size == sz)=true/\(vs.flatMap λv=>v.cells.toList)=cells/\aX5 sz cells qs
 |[],[],_,_=>⟨[],[],rfl,rfl,rfl,rfl,rfl⟩
 |[],q::qs,h,_=>by cases h
 |p::ps,[],h,_=>by grind[aV]
 |p::ps,q::qs,h,hc=>by
  simp only[aV,LM] at h;split at h
  .cases h
  .rename_i c0 l;split at h
   .cases h
   .rename_i cs A;simp only[Option.some.injEq,List.cons.injEq] at h;obtain⟨rfl,rfl⟩:=h;simp only[aF3,yV] at hc;obtain⟨⟨hl,f⟩,hc⟩:=hc;obtain⟨vs,cells,H,G,F,D,C⟩:=lits E y s r A (by simpa using hc);obtain⟨ec,j⟩:=aM2.1 f;cases i:jA e p.2 with
    |none=>rw[i] at l;cases l
    |some u=>
     rw[i] at l;simp at l;obtain⟨v,z,w⟩:=eV s i;have g:aV (bT B) (pN u)=some ec:=by rw[<-UB,l];exact fL (λx v h=>by simpa using gR (B:=[]) B h) j
     have k:v.cells.toList=ec:=XP z g;have b:ec.length=sz:=by rw[mE j];exact qN hl
     refine⟨v::vs,ec++cells,by simp[evs,w,H],by simp[G],?_,by simp[k,D],?_,?_⟩
     .rw[aF3,F,<-Array.length_toList,k,b];simp
     .rw[List.take_append_of_le_length (aAT b.symm),<-b,List.take_length];exact bLR E j (r q) _
     .rw[List.drop_append_of_le_length (aAT b.symm),<-b,List.drop_length,PY,b];exact C
theorem ltK{O:Type}[aN O][Flat O](E:CO O)(y:E.ex)(qs:List O){len:Nat}{ps:cw}{s:Value}(b:Inf P el sz s)(g:jO T n K cf m e L=.op o Lv cf1 cf2 K' m' e' L'/\(o.op,o.dst)=(.buildSlice t len ⟨ps⟩,some d)/\zS T t=some ⟨.sl el,b1,n1,z1⟩/\aN.n O=sz/\qs.length=len/\Nat.ble 1 sz=true/\Nat.ble (len*sz) 16777216=true/\ps.map (·.1)=List.range' 0 len/\aV (λp=>(jA e' p.2).map λv=>nbL (pN v)) ps=some (qs.map λq=>E.cs q y)/\(qs.all λq=>Nat.beq (E.cs q y).length sz && (aV (bT []) (E.cs q y)).isSome)=true)(M:∀q,E.Lx q y=[])
  (k:∀s':AC,G (.mk P T hT n c B0 N X Q) K' m' ((d,.h s' qs.length)::e') (L'++[ow s' qs]) cf2):G (.mk P T hT n c B0 N X Q) K m e L cf:=by
 obtain⟨F,ho,D,H,hl,I,h,f,j,r⟩:=g;refine aZ8 (l:=qs) (λs'=>L'++[ow s' qs]) F (cS Prod.snd ho) (λ_=>vO _) (λB a w S J=>?_) k;obtain⟨⟨R,u,s2⟩,s0⟩:=J;obtain⟨vs,cells,Z,Y,W,V,U⟩:=lits E y (sz:=sz) S M j r;have i:ps.length=len:=by have:=cS List.length f;grind
 obtain⟨v,w',C,A⟩:=bEE (e:=vE B e') (o:=o) (ps:=ps) (vs:=vs) (cells:=cells) qs u H (ID D hT) b hl I h U (cS Prod.fst ho) Z (aRI f (by rw[Y,i]) W V);obtain⟨s',rfl⟩:=aLD (v:=v) (l:=qs) A (L'.map (l5 B)).length ae;refine⟨s',w',C,⟨⟨R,by grind[l5],λz hz=>?_⟩,s0⟩⟩;obtain hz|hz:=dR.1 hz
 .grind
 .simp at hz;subst hz;trivial
end
end
section
variable {P:Program} {T:TT} {hT:IC P T} {n:Nat} {c:Ctx} {B0:Bl} {N:Act->World->Prop} {X:Nat->Act->World->Prop} {Q:Act->World->Prop} {K K':bg} {m m':Nat} {e e':SE} {L L' Lv:ao} {cf cf' cf1 cf2:wV} {o:Oper} {d:Nat}
theorem un{O:Type}[aN O](j:Nat)(b:av)(ps qs:b6){s:AC}{n0:Nat}{l:List O}(f:L[j]?=some (.o (fF [s.v n0] l))/\gE j cf.zU=true/\aV (GK e) b=some (b.map λ_=>.h s n0)/\aV (atE (ovh (.h s l.length) e b)) ps=some (ps.map λ_=>.h s n0)/\aV (atL (L.set j (ow s l))) qs=some (qs.map λ_=>.h s n0)/\(dV (qs.map (·.1)) && (qs.map (·.1)).all λj=>gE j cf.zU)=true)
  (k:l.length=n0->G (.mk P T hT n c B0 N X Q) K m (rhE (.h s l.length) (ovh (.h s l.length) e b) ps) (rhL (.h s l.length) (L.set j (ow s l)) qs) cf):G (.mk P T hT n c B0 N X Q) K m e L cf:=by
 obtain⟨t,hz,hk,q,p,i⟩:=f;rw[yV] at i;refine chg (λ_:PLift (l.length=n0)=>m) (λ_=>rhE (.h s l.length) (ovh (.h s l.length) e b) ps) (λ_=>rhL (.h s l.length) (L.set j (ow s l)) qs) (λB a w C x u=>?_) (λ_=>aQE (IE hz) i.2) (λh=>k h.down);have r:l.length=n0:=by obtain⟨⟨R,s1,A⟩,s0⟩:=u;obtain⟨F,v⟩:=s1.chunk (ch:=fF [s.v n0] l) j (by simp[t,l5]);obtain⟨E,D,z,y⟩:=RW (show aN.own w [s.v n0] l F from v);grind
 subst r;have g:lS c w B (L.set j (ow s l)):=by grind[aX2]
 obtain⟨z,y⟩:=bF6 s rfl q p i.1 (aZ7 b hk x) g;exact⟨⟨rfl⟩,[],aj,aj,aj⟩
theorem rr(s:AC){b g:Nat}(hn:b=g)(f:av)(ps qs:b6)(hk:aV (GK e) f=some (f.map λ_=>.h s b))(l:aV (atE (ovh (.h s g) e f)) ps=some (ps.map λ_=>.h s b))(i:aV (atL L) qs=some (qs.map λ_=>.h s b))(h:(dV (qs.map (·.1)) && (qs.map (·.1)).all λj=>gE j cf.zU)=true)
  (k:G (.mk P T hT n c B0 N X Q) K m (rhE (.h s g) (ovh (.h s g) e f) ps) (rhL (.h s g) L qs) cf):G (.mk P T hT n c B0 N X Q) K m e L cf:=by rw[yV] at h;subst hn;refine chg (λ_:Unit=>m) (λ_=>rhE (.h s b) (ovh (.h s b) e f) ps) (λ_=>rhL (.h s b) L qs) (λB a w r q p=>?_) (λ_=>aQE (by simpa using vO (L:=L) []) h.2) (λ_=>k);obtain⟨u,t⟩:=bF6 s rfl l i h.1 (aZ7 f hk q) p;simp_all
theorem cpy{d:cq}{x y:Operand}{t C el sz:Nat}{O:Type}[aN O][Flat O]{s u:AC}{l xs:List O}{b1 b2:Bool}{V:Nat}{S M:au}{W:TK}(p a:Nat)(E:a<=l.length/\l.length<=l.length)(f:∀{w},HS c w L'->aU (eF w) u xs)(hs:jO T n K cf m e L=.op o Lv cf1 cf2 K' m' e' L')(ho:(o.op,o.dst)=(.call {callee:=.builtin .copy,args:=#[x,y],argTypes:=#[t,C]},d))(ht:zS T t=some ⟨.sl el,b1,V,S⟩)(he:zS T el=some ⟨W,b2,sz,M⟩)(hn:aN.n O=sz)(D:(L'[p]?,gE p cf1.zU)=(some (ow s l),true))(hx:jA e' x=some (.h (s.sub sz a) ((l.take l.length).drop a).length))(Z:jA e' y=some (.h u xs.length))
  (k:G (.mk P T hT n c B0 N X Q) K' m' (dse d (.i .i64 ((min xs.length (l.length-a):Nat):Int)) e') (L'.set p (ow s (dF l a xs))) cf2):G (.mk P T hT n c B0 N X Q) K m e L cf:=by
 have j:L'[p]?=some (ow s l):=cS Prod.fst D;have hz:gE p cf1.zU=true:=cS Prod.snd D;have A:(dF l a xs).length=l.length:=fK E.1;refine g9 (g:=.mk P T hT n c B0 N X Q) ?_;rw[hs];intro I _ hE;refine hE Unit (λ_=>m') (λ_=>dse d (.i .i64 ((min xs.length (l.length-a):Nat):Int)) e') (λ_=>L'.set p (ow s (dF l a xs))) (λ_=>IE hz) (λB r w next Q' hm h F b=>?_) (λ_=>k);have hr:aU (eF w) u xs:=f ⟨_,F⟩;obtain⟨⟨R,U,H⟩,s0⟩:=F;have i:ev (vE (B0S (.mk P T hT n c B0 N X Q) cf1++B) e') x=some (jF sz a l.length (s.v l.length)):=by grind[hdB,XR]
 have q:o.op=.call {callee:=.builtin .copy,args:=#[x,y],argTypes:=#[t,C]}:=cS Prod.fst ho;have hd:o.dst=d:=cS Prod.snd ho;obtain⟨v,w',Y,rfl,k2⟩:=a8R p U (by rw[D0,j];rfl) hr hn E.1 (ID ht hT) (hT.size _ _ he) q i (hdB h Z);unfold Oper.wp;rw[Y _ r h.env,Oper.upon_value,hd];have J:lS c w' (B0S (.mk P T hT n c B0 N X Q) cf1++B) (L'.set p (ow s (dF l a xs))):=by
  refine⟨⟨R,?_,λz hz=>?_⟩,s0⟩
  .rw[PX];show St c w' ((L'.map _).set p (fF [s.v (dF l a xs).length] _)) R;grind
  .obtain hz|hz:=tD hz
   .grind
   .subst hz;trivial
 cases d with
 |none=>exact b () _ _ ⟨[],aj,by grind[Act.put,dse],aj⟩
 |some d=>exact b () _ _ ⟨[],aj,by simpa[dse] using h.of (by simp[fS,gV,bT]) (h.env.put (by grind[sH,y5]) _),aj⟩
theorem cp0{d:cq}{x y:Operand}{t u el sz:Nat}{O:Type}[aN O][Flat O]{s q:AC}{l xs:List O}{b1 b2:Bool}{M:Nat}{I H:au}{S:TK}(p:Nat)(b:∀{w},HS c w L'->aU (eF w) q xs)(Z:jO T n K cf m e L=.op o Lv cf1 cf2 K' m' e' L')(ho:(o.op,o.dst)=(.call {callee:=.builtin .copy,args:=#[x,y],argTypes:=#[t,u]},d))(Y:zS T t=some ⟨.sl el,b1,M,I⟩)(he:zS T el=some ⟨S,b2,sz,H⟩)(hn:aN.n O=sz)(A:(L'[p]?,gE p cf1.zU)=(some (ow s l),true))(W:jA e' x=some (.h s l.length))(V:jA e' y=some (.h q xs.length))
  (k:G (.mk P T hT n c B0 N X Q) K' m' (dse d (.i .i64 ((min xs.length (l.length-0):Nat):Int)) e') (L'.set p (ow s (dF l 0 xs))) cf2):G (.mk P T hT n c B0 N X Q) K m e L cf:=by
 have h:L'[p]?=some (ow s l):=cS Prod.fst A;have hz:gE p cf1.zU=true:=cS Prod.snd A;have r:(dF l 0 xs).length=l.length:=fK (iT _);refine g9 (g:=.mk P T hT n c B0 N X Q) ?_;rw[Z];intro E _ hE;refine hE Unit (λ_=>m') (λ_=>dse d (.i .i64 ((min xs.length (l.length-0):Nat):Int)) e') (λ_=>L'.set p (ow s (dF l 0 xs))) (λ_=>IE hz) (λB j w next Q' hm f C a=>?_) (λ_=>k);have hr:aU (eF w) q xs:=b ⟨_,C⟩;obtain⟨⟨R,J,D⟩,s0⟩:=C;have i:o.op=.call {callee:=.builtin .copy,args:=#[x,y],argTypes:=#[t,u]}:=cS Prod.fst ho;have hd:o.dst=d:=cS Prod.snd ho;obtain⟨v,w',U,rfl,k2⟩:=bEV p J (by rw[D0,h];rfl) hr hn (ID Y hT) (hT.size _ _ he) i (hdB f W) (hdB f V);unfold Oper.wp;rw[U _ j f.env,Oper.upon_value,hd];have F:lS c w' (B0S (.mk P T hT n c B0 N X Q) cf1++B) (L'.set p (ow s (dF l 0 xs))):=by
  refine⟨⟨R,?_,λz hz=>?_⟩,s0⟩
  .rw[PX];show St c w' ((L'.map _).set p (fF [s.v (dF l 0 xs).length] _)) R;grind
  .obtain hz|hz:=tD hz
   .grind
   .subst hz;trivial
 cases d with
 |none=>exact a () _ _ ⟨[],aj,by grind[Act.put,dse],aj⟩
 |some d=>exact a () _ _ ⟨[],aj,by simpa[dse] using f.of (by simp[fS,gV,bT]) (f.env.put (by grind[sH,y5]) _),aj⟩
theorem fR{Z:Act->World->Prop}{f:SE}{g:ao}(b:bBP e=some f/\bBQ L=some g)(kk:∀a w,qQ n c B0 m f g a w->Z a w):∀a w,qQ n c B0 m e L a w->Z a w:=by obtain⟨i,h⟩:=b;grind[aP4,aP5]
end
def swN(i j n:Nat):Nat:=match Nat.beq n i with
 |true=>j
 |false=>match Nat.beq n j with
  |true=>i
  |false=>n
def swC(i j:Nat):SV->SV
 |.p n o=>.p (swN i j n) o
 |x=>x
def bBU(i j:Nat):au->au
 |[]=>[]
 |x::r=>swC i j x::bBU i j r
def swG(i j:Nat):SV->SV
 |.g cs=>.g (bBU i j cs)
 |x=>swC i j x
def bLS(i j:Nat):au->au
 |[]=>[]
 |x::r=>swG i j x::bLS i j r
def swF(i j:Nat):av->av
 |[]=>[]
 |n::r=>swN i j n::swF i j r
def swT(i j:Nat):SV->SV
 |.t cs=>.t (bLS i j cs)
 |.f f a=>.f f (swF i j a)
 |x=>swG i j x
def swE(i j:Nat):SE->SE
 |[]=>[]
 |(k,x)::r=>(k,swT i j x)::swE i j r
def swL(i j:Nat):ao->ao
 |[]=>[]
 |x::r=>(match x with
  |.box n cs=>.box (swN i j n) (bBU i j cs)
  |.ro n cs=>.ro (swN i j n) (bBU i j cs)
  |.w n b z=>.w (swN i j n) b z
  |y=>y)::swL i j r
section
variable {B B':Bl} {i j:Nat}
theorem bF7(h:∀n,B'[swN i j n]?=B[n]?)(x:SV):bT B' (swC i j x)=bT B x:=by cases x<;>first|rfl|grind[swC,bT]
theorem aQF(h:∀n,B'[swN i j n]?=B[n]?):∀cs:au,aV (bT B') (bBU i j cs)=aV (bT B) cs
 |[]=>rfl
 |x::r=>by simp only[bBU,aV,bF7 h,aQF h r]
theorem a6I(h:∀n,B'[swN i j n]?=B[n]?)(x:SV):gV B' (swG i j x)=gV B x:=by
 cases x with
 |g cs=>grind[swG,gV,aQF]
 |p n o=>exact bF7 h (.p n o)
 |_=>rfl
theorem a9J(h:∀n,B'[swN i j n]?=B[n]?):∀cs:au,aV (gV B') (bLS i j cs)=aV (gV B) cs
 |[]=>rfl
 |x::r=>by simp only[bLS,aV,a6I h,a9J h r]
theorem bF8(h:∀n,B'[swN i j n]?=B[n]?):∀cs:av,aV (aB2 B') (swF i j cs)=aV (aB2 B) cs
 |[]=>rfl
 |x::r=>by simp only[swF,aV,aB2,h];rw[show aV (aB2 B') (swF i j r)=aV (aB2 B) r from bF8 h r]
theorem bQJ(h:∀n,B'[swN i j n]?=B[n]?)(x:SV):fS B' (swT i j x)=fS B x:=by
 cases x with
 |t cs=>grind[swT,fS,a9J]
 |f f a=>grind[swT,fS,bF8]
 |g cs=>exact a6I h (.g cs)
 |p n o=>exact a6I h (.p n o)
 |_=>rfl
theorem bF9{k:Nat}{x:SV}:∀{e:SE},GK (swE i j e) k=some x->∃y,GK e k=some y/\x=swT i j y
 |[],h=>by cases h
 |(k',y)::r,h=>by
  simp only[swE,GK] at h ⊢;split at h
  .grind
  .rename_i a;exact bF9 h
theorem a9K(h:∀n,B'[swN i j n]?=B[n]?){w:World}{R:bs}:∀(L:ao),kC w (L.map (l5 B)) ((swL i j L).map (l5 B'))/\((∀x∈L,roF B R x)->∀x∈swL i j L,roF B' R x)
 |[]=>⟨.nil,λ_ x d=>by cases d⟩
 |x::L=>by
  obtain⟨p,q⟩:=a9K h (w:=w) (R:=R) L;refine⟨.cons (λF g=>?_) p,λm y a=>?_⟩
  .cases x with
   |box n cs=>
    obtain⟨b,z,vs,l,k,e⟩:=g;exact⟨b,z,vs,aj,by grind[aQF],e⟩
   |_=>exact g
  .obtain a|a:=lO.1 a
   .have d:=m x ae;cases x with
    |box n cs=>subst a;trivial
    |ro n cs=>
     obtain⟨b,z,vs,l,k,e⟩:=d;subst a;exact⟨b,z,vs,aj,by grind[aQF],e⟩
    |w n b z=>subst a;show B'[swN i j n]?=_;rw[h];exact d
    |o c=>subst a;trivial
    |no=>subst a;trivial
    |f f=>subst a;exact d
   grind
end
def bTA{B:Bl}{i j:Nat}(d:i<B.length)(c:j<B.length):∃B':Bl,B'.length=B.length/\(∀n,B'[swN i j n]?=B[n]?):=by
 refine⟨(B.set i B[j]).set j B[i],ae,λn=>?_⟩;unfold swN;cases b:Nat.beq n i with
 |true=>
  simp_all
 |false=>
  have b:n≠i:=λh=>by simp_all
  cases a:Nat.beq n j with
  |true=>
   simp_all
  |false=>
   have a:n≠j:=λh=>by simp_all
   grind
section
variable {n:Nat} {c:Ctx} {B0:Bl} {m:Nat} {e:SE} {L:ao}
theorem swR{Z:Act->World->Prop}(i j:Nat)(h:(Nat.ble B0.length i && (Nat.ble B0.length j && (Nat.blt i m && Nat.blt j m)))=true)
  (kk:∀a w,qQ n c B0 m (swE i j e) (swL i j L) a w->Z a w):∀a w,qQ n c B0 m e L a w->Z a w:=by
 simp only[yV,Nat.ble_eq,y5] at h;obtain⟨D,C,A,z⟩:=h;intro a w ⟨B,hm,b,r⟩;refine kk a w ?_;rw[H7] at hm;obtain⟨g,hl,u⟩:=bTA (B:=B) (i:=i-B0.length) (j:=j-B0.length) aa aa;have key:∀n,(B0++g)[swN i j n]?=(B0++B)[n]?:=by
  intro n;have l:∀n,n<B0.length->swN i j n=n:=λn q=>by grind[swN,qN]
  have o:∀n,B0.length<=n->swN i j n=B0.length+swN (i-B0.length) (j-B0.length) (n-B0.length):=λn q=>by
   have t:Nat.beq (n-B0.length) (i-B0.length)=Nat.beq n i:=by rw[LY];(simp_all;omega)
   have s:Nat.beq (n-B0.length) (j-B0.length)=Nat.beq n j:=by rw[LY];(simp_all;omega)
   grind[swN]
  grind[Nat.add_sub_cancel_left]
 refine⟨g,aj,⟨b.d,b.size,λk x hk=>?_⟩,?_⟩
 .obtain⟨y,d,rfl⟩:=bF9 hk;obtain⟨v,f,E⟩:=b.get k y d;grind[bQJ]
 .obtain⟨⟨R,s1,p⟩,s0⟩:=r;obtain⟨d,f⟩:=a9K key (w:=w) (R:=R) L;exact⟨⟨R,s1.imp d,f p⟩,s0⟩
theorem pnR{Z:Act->World->Prop}{O:Type}[aN O](j:Nat){s:AC}{l:List O}{b:Nat}(hl:l.length=b)(d:L[j]?=some (ow s l))
  (kk:∀a w,qQ n c B0 m e (L.set j (.o (fF [s.v b] l))) a w->Z a w):∀a w,qQ n c B0 m e L a w->Z a w:=by grind[aX2]
end
def fG{P:Program}{T:TT}{hT:IC P T}{n:Nat}{c:Ctx}{B0:Bl}{N:Act->World->Prop}{X:Nat->Act->World->Prop}{Q:Act->World->Prop}{K:bg}{m:Nat}{e a:SE}{L b:ao}{cf:wV}(f:bBP e=some a)(d:bBQ L=some b)(k:G (.mk P T hT n c B0 N X Q) K m a b cf):G (.mk P T hT n c B0 N X Q) K m e L cf:=by grind[aP4,aP5]
def fc1:SV->bz
 |.i k x=>some (.i k x)
 |.y b=>some (.y b)
 |.b c=>some (.b c)
 |.l c=>some (.l c)
 |.s l=>some (.s l)
 |.p n o=>some (.p n o)
 |.h s n=>some (.h s n)
 |.e s n i o=>some (.e s n i o)
 |.k x=>some (.k x)
 |.g cs=>some (.g cs)
 |.t cs=>some (.t cs)
 |.f f cs=>some (.f f cs)
 |.u=>some .u
def fcs:au->Option au
 |[]=>some []
 |x::r=>match fc1 x with
  |some y=>match fcs r with
   |some s=>some (y::s)
   |none=>none
  |none=>none
def fc2:SV->bz
 |.g cs=>match fcs cs with
  |some a=>some (.g a)
  |none=>none
 |x=>fc1 x
def fgs:au->Option au
 |[]=>some []
 |x::r=>match fc2 x with
  |some y=>match fgs r with
   |some s=>some (y::s)
   |none=>none
  |none=>none
def fc3:SV->bz
 |.t cs=>match fgs cs with
  |some a=>some (.t a)
  |none=>none
 |x=>fc2 x
def fdE:SE->Option SE
 |[]=>some []
 |(k,v)::r=>match fc3 v with
  |some y=>match fdE r with
   |some s=>some ((k,y)::s)
   |none=>none
  |none=>none
def fdL:ao->Option ao
 |[]=>some []
 |x::r=>match fdL r with
  |some s=>match x with
   |.box n cs=>match fcs cs with
    |some a=>some (.box n a::s)
    |none=>none
   |.ro n cs=>match fcs cs with
    |some a=>some (.ro n a::s)
    |none=>none
   |y=>some (y::s)
  |none=>none
def bGA{x y:SV}(h:fc1 x=some y):y=x:=by cases x<;>simp only[fc1] at h<;>cases h<;>rfl
theorem a6J:∀{l r:au},fcs l=some r->r=l
 |[],r,h=>by cases h;rfl
 |x::l,r,h=>by
  simp only[fcs] at h;split at h
  .rename_i y a;split at h
   .rename_i s b;cases h;rw[bGA a,a6J b]
   .cases h
  .cases h
def bGB{x y:SV}(h:fc2 x=some y):y=x:=by
 cases x with
 |g cs=>
  grind[fc2,a6J]
 |_=>exact bGA h
theorem bGC:∀{l r:au},fgs l=some r->r=l
 |[],r,h=>by cases h;rfl
 |x::l,r,h=>by
  simp only[fgs] at h;split at h
  .rename_i y a;split at h
   .rename_i s b;cases h;rw[bGB a,bGC b]
   .cases h
  .cases h
def bQL{x y:SV}(h:fc3 x=some y):y=x:=by
 cases x with
 |t cs=>
  grind[fc3,bGC]
 |_=>exact bGB h
theorem bGD:∀{e r:SE},fdE e=some r->r=e
 |[],r,h=>by cases h;rfl
 |(k,v)::l,r,h=>by
  simp only[fdE] at h;split at h
  .rename_i y a;split at h
   .rename_i s b;cases h;rw[bQL a,bGD b]
   .cases h
  .cases h
theorem bGE:∀{e r:ao},fdL e=some r->r=e
 |[],r,h=>by cases h;rfl
 |x::l,r,h=>by
  simp only[fdL] at h;split at h
  .rename_i s a;have:=bGE a;grind[a6J]
  .cases h
def fD{n:Nat}{c:Ctx}{B0:Bl}{m:Nat}{e b:SE}{L d:ao}{Z:Act->World->Prop}(g:fdE e=some b)(f:fdL L=some d)(kk:∀a w,qQ n c B0 m b d a w->Z a w):∀a w,qQ n c B0 m e L a w->Z a w:=by grind[bGD,bGE]
end Go.Gv
end
